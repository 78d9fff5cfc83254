/-
  The reference's bare terms: which they are, their steps, runs of steps.
-/
import Derived.Test.YtfpgncjeejickaaGreatDoorKd7
import Derived.Test.YtfpgncjeejickaaGreatDoorKd3
import Derived.Test.YtfpgncjeejickaaGreatDoorKd1
import Derived.Lib.ItoaNum
import Derived.Test.YtfpgncjeejickaaGreatDoorKd5
import Derived.Test.YtfpgncjeejickaaGreatDoorKd6
import Derived.Test.YtfpgncjeejickaaGreatDoorKd2
import Derived.Test.YtfpgncjeejickaaGreatDoorKdS
import Derived.Test.YtfpgncjeejickaaGreatDoorKd4
set_option linter.unusedVariables false
set_option linter.unusedSimpArgs false
set_option maxHeartbeats 0
set_option maxRecDepth 100000
set_option synthInstance.maxSize 4000
set_option synthInstance.maxHeartbeats 0
namespace Go.Proofs.YtfpgncjeejickaaGreatDoor
open Go Go.RowKit
namespace Gw
theorem B70 {P : Program} {Γ : L8} {env : M7} {hp : List A5} {G : IM} {ty : TypeId} {x y : Operand} {t e : TypeId} {i : M3} {sz by' : Nat} {zs : List Value} [hI : H6 P t i] (hd : i.desc = .slice e) [hE : W6 P e sz by' zs] {b o n c j : Nat} {k : IntKind} {z : Int}
  (hx : evo env x = some (.slice (some ⟨b, o, none⟩) n c)) (hy : evo env y = some (.int k z)) (hz : z = (j : Int)) (h1 : j < n) :
  I2 P Γ ⟨env, hp, G⟩ (.indexAddr t x y) ty (.pointer (some ⟨b, o + j * sz, none⟩)) := by
 subst hz; exact B8 hd hx hy h1
theorem B71 : ∀ (t : Tm) (G : IM) (cells : List Value), A8 G t cells → Fn Tryz.prog 247 [.agg ⟨cells⟩] [] G (H8 (.bool (N4 t)) G) := by
 refine Tm.ind fun k nm num ty fr lb ks ih G cells hr => ?_
 have hy := fun h => @B1C k nm num ty fr lb ks true h
 have hf := fun (j : Nat) (hj : j < ks.length) => @B7U k nm num ty fr lb ks j hj
 have hn := @B1D k nm num ty fr lb ks
 generalize N4 (.mk k nm num ty fr lb ks) = R at hy hn hf ⊢
 obtain ⟨tk, tks⟩ := ty
 obtain ⟨fk, fks⟩ := fr
 rw [show (Ty.mk tk tks).k = tk from rfl] at hy hn
 obtain ⟨pt, ct, pf, cf, p, c, es, rfl, hk, hnum, hlb, hty, hfr, hsl, hkl⟩ := hr.open9
 have hl := hsl.le
 refine B7 Tryz.func247 rfl Tryz.ntmps247 Tryz.results247 rfl ?_
 intro w0
 refine A1 ?_
 refine sE (C7 rfl rfl) rfl (fun b3 => ?_)
 refine D0 ?_
 refine sB (qE rfl rfl) rfl rfl (fun h12 => ?_) (fun h12 => ?_)
 refine B3 ?_
 refine sB (N7 rfl rfl) rfl rfl (fun h17 => ?_) (fun h17 => ?_)
 refine V3 ?_
 (exact ⟨rfl, by rw [hn (by omega)], rfl⟩)
 refine B3 ?_
 refine sP (H7 rfl rfl (by omega)) rfl rfl ?_
 refine O0 ?_
 refine C0 ?_
 (refine L9 (fun (i : Nat) => ⟨[(3, .int .i64 (i : Int)), (1, .pointer (some ⟨b3, 0, none⟩))], [.blk b3 [.int .i64 k, .string nm, .int .i64 num, .int .i64 tk, .slice pt tks.length ct, .int .i64 fk, .slice pf fks.length cf, .int .i64 lb, .slice p ks.length c]], G⟩) (fun i => i ≤ ks.length ∧ ∀ j, j < i → (h : j < ks.length) → N4 ks[j] = true) (fun i => ks.length - i) 0 ?_ ?_ ?_)
 exact D5
 (exact ⟨Nat.zero_le _, fun j hj => absurd hj (Nat.not_lt_zero j)⟩)
 (rintro i ⟨hi, hj⟩)
 refine B4 ?_
 refine sB (K6 rfl rfl) rfl rfl (fun h65 => ?_) (fun h65 => ?_)
 refine A7 ?_
 refine C0 ?_
 refine B1 ?_
 (have hiC : i < ks.length := (by omega); obtain ⟨bx, ox, e, rfl, hl, hat, hre, hgb⟩ := hsl.kidTm hkl (i := i) (by omega) (by omega); have hVi := ih ks[i] (List.getElem_mem hiC) G e hre; refine sP (B8 (j := i) rfl rfl rfl (by omega)) rfl rfl ?_)
 refine sL (A2 rfl rfl (hat _) hl) rfl rfl ?_
 refine E1 rfl (hVi) rfl rfl (fun h80 => ?_) (fun h80 => ?_)
 refine D8 ?_
 refine sP (K5 rfl rfl (by omega) (by omega)) rfl rfl ?_
 refine A1 ?_
 refine L0 (i + 1) ?_ ?_ ?_
 exact D5
 (exact ⟨by omega, fun j hji hl2 => (by by_cases he : j = i; (subst he; assumption); exact hj j (by omega) hl2)⟩)
 (show ks.length - (i + 1) < ks.length - i; omega)
 refine J7 ?_
 (exact ⟨rfl, by rw [hf i (by omega) (by assumption)], rfl⟩)
 refine I6 ?_
 (exact ⟨rfl, by rw [hy (List.all_eq_true.2 (fun t ht => by obtain ⟨j, hj2, he⟩ := List.getElem_of_mem ht; rw [← he]; exact hj j (by omega) hj2)) (by omega) (by omega)], rfl⟩)
 refine D8 ?_
 refine sB (qE rfl rfl) rfl rfl (fun h139 => ?_) (fun h139 => ?_)
 refine O0 ?_
 (exact ⟨rfl, by rw [hn (by omega)], rfl⟩)
 refine O0 ?_
 refine C0 ?_
 (refine L9 (fun (i : Nat) => ⟨[(3, .int .i64 (i : Int)), (1, .pointer (some ⟨b3, 0, none⟩))], [.blk b3 [.int .i64 k, .string nm, .int .i64 num, .int .i64 tk, .slice pt tks.length ct, .int .i64 fk, .slice pf fks.length cf, .int .i64 lb, .slice p ks.length c]], G⟩) (fun i => i ≤ ks.length ∧ ∀ j, j < i → (h : j < ks.length) → N4 ks[j] = true) (fun i => ks.length - i) 0 ?_ ?_ ?_)
 exact D5
 (exact ⟨Nat.zero_le _, fun j hj => absurd hj (Nat.not_lt_zero j)⟩)
 (rintro i ⟨hi, hj⟩)
 refine B4 ?_
 refine sB (K6 rfl rfl) rfl rfl (fun h177 => ?_) (fun h177 => ?_)
 refine A7 ?_
 refine C0 ?_
 refine B1 ?_
 (have hiC : i < ks.length := (by omega); obtain ⟨bx, ox, e, rfl, hl, hat, hre, hgb⟩ := hsl.kidTm hkl (i := i) (by omega) (by omega); have hVi := ih ks[i] (List.getElem_mem hiC) G e hre; refine sP (B8 (j := i) rfl rfl rfl (by omega)) rfl rfl ?_)
 refine sL (A2 rfl rfl (hat _) hl) rfl rfl ?_
 refine E1 rfl (hVi) rfl rfl (fun h192 => ?_) (fun h192 => ?_)
 refine D8 ?_
 refine sP (K5 rfl rfl (by omega) (by omega)) rfl rfl ?_
 refine A1 ?_
 refine L0 (i + 1) ?_ ?_ ?_
 exact D5
 (exact ⟨by omega, fun j hji hl2 => (by by_cases he : j = i; (subst he; assumption); exact hj j (by omega) hl2)⟩)
 (show ks.length - (i + 1) < ks.length - i; omega)
 refine J7 ?_
 (exact ⟨rfl, by rw [hf i (by omega) (by assumption)], rfl⟩)
 refine I6 ?_
 (exact ⟨rfl, by rw [hy (List.all_eq_true.2 (fun t ht => by obtain ⟨j, hj2, he⟩ := List.getElem_of_mem ht; rw [← he]; exact hj j (by omega) hj2)) (by omega) (by omega)], rfl⟩)
theorem B72 (t : Tm) (G : IM) (cells : List Value) (hcnt : D2 t ≤ 4294967296) (hr : A8 G t cells) : Fn Tryz.prog 228 [.agg ⟨cells⟩] [] G (H8 (.bool (P0 t)) G) := by
 have hRl := hr.len
 have hRo := hr.one
 have hV := A6D t G cells hcnt hr
 have hB := B71 t G cells hr
 unfold P0
 generalize J1 t = a at hV ⊢
 generalize N4 t = b at hB ⊢
 refine B7 Tryz.func228 rfl Tryz.ntmps228 Tryz.results228 rfl ?_
 intro w0
 refine A1 ?_
 refine sE (C7 rfl rfl) rfl (fun b3 => ?_)
 refine B1 ?_
 refine sL (A2 rfl rfl (B2 (by repeat first | exact mH | apply mT)) hRl) rfl rfl ?_
 refine E1 rfl (hV) rfl rfl (fun h10 => ?_) (fun h10 => ?_)
 refine E8 ?_
 refine sL (A2 rfl rfl (B2 (by repeat first | exact mH | apply mT)) hRl) rfl rfl ?_
 refine E1 rfl (hB) rfl rfl (fun h13 => ?_) (fun h13 => ?_)
 refine A7 ?_
 (simp_all; exact ⟨rfl, rfl, rfl⟩)
 refine A7 ?_
 (simp_all; exact ⟨rfl, rfl, rfl⟩)
 refine D8 ?_
 (simp_all; exact ⟨rfl, rfl, rfl⟩)
theorem B73 (k : Int) (a b : Tm) (nm : ByteArray) (num : Int) (ty fr : Ty) (lb : Int) (G : IM) (cells : List Value) (h78 : k = 7 ∨ k = 8) (hc : cv (.mk k nm num ty fr lb [a, b])) (hr : A8 G (.mk k nm num ty fr lb [a, b]) cells) : Fn Tryz.prog 261 [.agg ⟨cells⟩] [] G (K9 (T7 k [a, b])) := by
 obtain ⟨hN, hkk⟩ := hc.node
 rw [B7Z h78]
 obtain ⟨tk, tks⟩ := ty
 obtain ⟨fk, fks⟩ := fr
 obtain ⟨pt, ct, pf, cf, p, c, es, rfl, hk, hnum, hlb, hty, hfr, hsl, hkl⟩ := hr.open9
 obtain ⟨bx, ox, e0, rfl, hl0, hat0, hre0, hgb0⟩ := hsl.kidTm hkl (i := 0) (by simp) (by simp)
 obtain ⟨_, _, e1, hp1, hl1, hat1, hre1, hgb1⟩ := hsl.kidTm hkl (i := 1) (by simp) (by simp)
 cases hp1
 have hF := B7N k a b G e0 e1 h78 (by have := (hkk a (by simp)); cases a; exact this.node.1.num0) (by have := (hkk b (by simp)); cases b; exact this.node.1.num0) hre0 hre1
 refine B7 Tryz.func261 rfl Tryz.ntmps261 Tryz.results261 rfl ?_
 intro w0
 refine A1 ?_
 refine sE (C7 rfl rfl) rfl (fun b3 => ?_)
 refine sE (B0 rfl) rfl (fun b4 => ?_)
 refine B1 ?_
 refine E3 E4 rfl ?_
 refine J5 (i := 0) (l' := [tt,ff,ff,ff,ff,ff,ff,ff,ff,ff,ff,ff,ff,ff,ff,ff,ff,ff,ff]) rfl D7 (B9 rfl) rfl (by kernel_rfl) rfl rfl ?_
 refine aL 1 rfl (D3 rfl rfl) rfl ?_
 refine aP 2 rfl (B9 rfl) rfl ?_
 refine aL 3 rfl (D3 rfl rfl) rfl ?_
 refine aP 4 rfl (B8 (j := 0) rfl rfl rfl (by simp)) rfl ?_
 refine aL 5 rfl (A2 rfl rfl (hat0 _) hl0) rfl ?_
 refine aP 6 rfl (B9 rfl) rfl ?_
 refine aL 7 rfl (D3 rfl rfl) rfl ?_
 refine aP 8 rfl (B8 (j := 1) rfl rfl rfl (by simp)) rfl ?_
 refine aL 9 rfl (A2 rfl rfl (hat1 _) hl1) rfl ?_
 refine U6 (j := 10) (j' := 15) (by kernel_rfl) ?_ ?_
 (refine K4 rfl rfl hF rfl rfl rfl (fun v G1 hle1 hh => ?_); obtain ⟨wc, hvv, hrw⟩ := hh; have hwl := hrw.len; have hwo := hrw.one; generalize S4 k A6 A6 0 [a, b] = r at hvv hrw ⊢; obtain ⟨w, cc, ll⟩ := r; simp only at hvv hrw ⊢; subst hvv)
 refine aP 11 rfl (qM rfl) rfl ?_
 refine aP 12 rfl (pX rfl rfl) rfl ?_
 refine aP 13 rfl (pX rfl rfl) rfl ?_
 refine aP 14 rfl (pX rfl rfl) rfl ?_
 refine A3 15 ?_
 (refine E6 rfl (B0 rfl) rfl rfl ?_; rintro _ ⟨b28, rfl⟩)
 refine A3 16 ?_
 (refine oS rfl rfl rfl rfl hwl hwo rfl rfl ?_ (hu := by exact C9 hwl.symm))
 refine aP 17 rfl (qA rfl) rfl ?_
 refine aP 18 rfl (qA rfl) rfl ?_
 refine A7 ?_
 refine sB (N7 rfl rfl) rfl rfl (fun h39 => ?_) (fun h39 => ?_)
 refine J6 ?_
 refine D1 (rC rfl (A4 rfl rfl)) (rT rfl) (rT rfl) ?_
 (rw [if_neg (by omega)]; exact K9.mk rfl (M1 _))
 refine B4 ?_
 refine sL (A2 rfl rfl (B2 (by repeat first | exact mH | apply mT)) (by assumption)) rfl rfl ?_
 refine E8 ?_
 refine sS rfl rfl rfl hwl hwo rfl ?_ (hu := by exact C9 hwl.symm)
 refine B1 ?_
 refine D1 (rC rfl (A2 rfl rfl (B2 (by repeat first | exact mH | apply mT)) hwl)) (rT rfl) (rT rfl) ?_
 (rw [if_pos (by omega)]; exact K9.mk (by congr 2; omega) hrw)
 (refine E6 rfl (B0 rfl) rfl rfl ?_; rintro _ ⟨b72, rfl⟩)
 refine A3 10 ?_
 (refine K4 rfl rfl hF rfl rfl rfl (fun v G1 hle1 hh => ?_); obtain ⟨wc, hvv, hrw⟩ := hh; have hwl := hrw.len; have hwo := hrw.one; generalize S4 k A6 A6 0 [a, b] = r at hvv hrw ⊢; obtain ⟨w, cc, ll⟩ := r; simp only at hvv hrw ⊢; subst hvv)
 refine aP 11 rfl (qM rfl) rfl ?_
 refine aP 12 rfl (pX rfl rfl) rfl ?_
 refine aP 13 rfl (pX rfl rfl) rfl ?_
 refine aP 14 rfl (pX rfl rfl) rfl ?_
 refine A3 16 ?_
 (refine oS rfl rfl rfl rfl hwl hwo rfl rfl ?_ (hu := by exact C9 hwl.symm))
 refine aP 17 rfl (qA rfl) rfl ?_
 refine aP 18 rfl (qA rfl) rfl ?_
 refine A7 ?_
 refine sB (N7 rfl rfl) rfl rfl (fun h89 => ?_) (fun h89 => ?_)
 refine J6 ?_
 refine D1 (rC rfl (A4 rfl rfl)) (rT rfl) (rT rfl) ?_
 (rw [if_neg (by omega)]; exact K9.mk rfl (M1 _))
 refine B4 ?_
 refine sL (A2 rfl rfl (B2 (by repeat first | exact mH | apply mT)) (by assumption)) rfl rfl ?_
 refine E8 ?_
 refine sS rfl rfl rfl hwl hwo rfl ?_ (hu := by exact C9 hwl.symm)
 refine B1 ?_
 refine D1 (rC rfl (A2 rfl rfl (B2 (by repeat first | exact mH | apply mT)) hwl)) (rT rfl) (rT rfl) ?_
 (rw [if_pos (by omega)]; exact K9.mk (by congr 2; omega) hrw)
theorem B74 {k : Int} {ks : List Tm} (hops : C4 k = ks.length) (h : k = 11 ∨ k = 12) : ∃ a, ks = [a] := Z7 (by
 rcases h with rfl | rfl
 ·have : C4 11 = 1 := rfl; omega
 ·have : C4 12 = 1 := rfl; omega)
theorem B1K {k : Int} {ks : List Tm} (hops : C4 k = ks.length) (h : k = 6 ∨ k = 7 ∨ k = 8) : ∃ a b, ks = [a, b] := ks2 (by
 rcases h with rfl | rfl | rfl
 ·have : C4 6 = 2 := rfl; omega
 ·have : C4 7 = 2 := rfl; omega
 ·have : C4 8 = 2 := rfl; omega)
theorem B75 (nm : ByteArray) (num : Int) (ty fr : Ty) (lb : Int) (ks : List Tm) (G : IM) (cells : List Value) (hr : A8 G (.mk 1 nm num ty fr lb ks) cells) : Fn Tryz.prog 248 [.agg ⟨cells⟩] [] G (K9 (T7 1 ks)) := by
 rw [B7Y]
 obtain ⟨tk, tks⟩ := ty
 obtain ⟨fk, fks⟩ := fr
 obtain ⟨pt, ct, pf, cf, p, c, es, rfl, hk, hnum, hlb, hty, hfr, hsl, hkl⟩ := hr.open9
 refine B7 Tryz.func248 rfl Tryz.ntmps248 Tryz.results248 rfl ?_
 intro w0
 refine A1 ?_
 refine sE (C7 rfl rfl) rfl (fun b3 => ?_)
 refine sE (B0 rfl) rfl (fun b4 => ?_)
 refine J4 ?_
 refine C0 ?_
 refine A1 ?_
 refine sP (S8 rfl rfl (by omega)) rfl rfl ?_
 refine I6 ?_
 refine D1 (rC rfl (A4 rfl rfl)) (rT rfl) (rT rfl) ?_
 (exact K9.mk rfl (M1 _))
theorem B76 (k : Int) (a b : Tm) (nm : ByteArray) (num : Int) (ty fr : Ty) (lb : Int) (G : IM) (cells : List Value) (h78 : k = 7 ∨ k = 8) (hc : cv (.mk k nm num ty fr lb [a, b])) (hr : A8 G (.mk k nm num ty fr lb [a, b]) cells) : Fn Tryz.prog 248 [.agg ⟨cells⟩] [] G (K9 (T7 k [a, b])) := by
 have hF := B73 k a b nm num ty fr lb G cells h78 hc hr
 obtain ⟨tk, tks⟩ := ty
 obtain ⟨fk, fks⟩ := fr
 obtain ⟨pt, ct, pf, cf, p, c, es, rfl, hk, hnum, hlb, hty, hfr, hsl, hkl⟩ := hr.open9
 refine B7 Tryz.func248 rfl Tryz.ntmps248 Tryz.results248 rfl ?_
 intro w0
 refine A1 ?_
 refine sE (C7 rfl rfl) rfl (fun b3 => ?_)
 refine sE (B0 rfl) rfl (fun b4 => ?_)
 refine J4 ?_
 refine C0 ?_
 refine A1 ?_
 refine sP (H7 rfl rfl (by omega)) rfl rfl ?_
 refine B4 ?_
 refine sB (qE rfl rfl) rfl rfl (fun h27 => ?_) (fun h27 => ?_)
 refine J2 ?_
 (refine E7 rfl hF rfl rfl (fun v G1 hle1 hh => ?_); obtain ⟨wc, rfl, hrw⟩ := hh; have hwl := hrw.len; have hwo := hrw.one)
 refine B6 ?_
 refine sS rfl rfl rfl hwl hwo rfl ?_ (hu := by exact C9 hwl.symm)
 refine B4 ?_
 refine D1 (rC rfl (A2 rfl rfl (B2 (by repeat first | exact mH | apply mT)) hwl)) (rT rfl) (rT rfl) ?_
 (exact ⟨rfl, _, rfl, hrw⟩)
 refine B1 ?_
 refine sP (S8 rfl rfl (by omega)) rfl rfl ?_
 refine B4 ?_
 (refine E7 rfl hF rfl rfl (fun v G1 hle1 hh => ?_); obtain ⟨wc, rfl, hrw⟩ := hh; have hwl := hrw.len; have hwo := hrw.one)
 refine B6 ?_
 refine sS rfl rfl rfl hwl hwo rfl ?_ (hu := by exact C9 hwl.symm)
 refine B4 ?_
 refine D1 (rC rfl (A2 rfl rfl (B2 (by repeat first | exact mH | apply mT)) hwl)) (rT rfl) (rT rfl) ?_
 (exact ⟨rfl, _, rfl, hrw⟩)
theorem B77 (a b : Tm) (nm : ByteArray) (num : Int) (ty fr : Ty) (lb : Int) (G : IM) (cells : List Value) (hc : cv (.mk 6 nm num ty fr lb [a, b])) (hr : A8 G (.mk 6 nm num ty fr lb [a, b]) cells) : Fn Tryz.prog 248 [.agg ⟨cells⟩] [] G (K9 (T7 6 [a, b])) := by
 obtain ⟨hN, hkk⟩ := hc.node
 have hca := hkk a (by simp)
 have hsma := A2f a hca
 have hbs := A2f b (hkk b (by simp))
 rw [B7W]
 obtain ⟨tk, tks⟩ := ty
 obtain ⟨fk, fks⟩ := fr
 obtain ⟨pt, ct, pf, cf, p, c, es, rfl, hk, hnum, hlb, hty, hfr, hsl, hkl⟩ := hr.open9
 obtain ⟨bx, ox, e0, rfl, hl0, hat0, hre0, hgb0⟩ := hsl.kidTm hkl (i := 0) (by simp) (by simp)
 obtain ⟨_, _, e1, hp1, hl1, hat1, hre1, hgb1⟩ := hsl.kidTm hkl (i := 1) (by simp) (by simp)
 cases hp1
 have ho0 := hre0.one
 replace hre0 : A8 G a e0 := hre0
 replace hre1 : A8 G b e1 := hre1
 obtain ⟨ak, anm, anum, ⟨atk, atks⟩, ⟨afk, afks⟩, alb, aks⟩ := a
 have hops := hca.node.1.ops
 have h5 : ak = 5 → aks.length = 1 := fun h => by rw [h] at hops; have : C4 5 = 1 := rfl; omega
 obtain ⟨_, _, _, _, hksm⟩ := A0F.1 hsma
 obtain ⟨apt, act, apf, acf, ap, ac, aes, rfl, hak, hanum, halb, haty, hafr, hasl, hakl⟩ := hre0.open9
 rw [show (Tm.mk ak anm anum (.mk atk atks) (.mk afk afks) alb aks).k = ak from rfl, show (Tm.mk ak anm anum (.mk atk atks) (.mk afk afks) alb aks).nm = anm from rfl, show (Tm.mk ak anm anum (.mk atk atks) (.mk afk afks) alb aks).ks = aks from rfl]
 refine B7 Tryz.func248 rfl Tryz.ntmps248 Tryz.results248 rfl ?_
 intro w0
 refine A1 ?_
 refine sE (C7 rfl rfl) rfl (fun b3 => ?_)
 refine sE (B0 rfl) rfl (fun b4 => ?_)
 refine J4 ?_
 refine C0 ?_
 refine A1 ?_
 refine sP (H7 rfl rfl (by omega)) rfl rfl ?_
 refine B4 ?_
 refine sP (H7 rfl rfl (by omega)) rfl rfl ?_
 refine B1 ?_
 refine sP (H7 rfl rfl (by omega)) rfl rfl ?_
 refine A7 ?_
 refine sP (S8 rfl rfl (by omega)) rfl rfl ?_
 refine D0 ?_
 refine sP (B8 (j := 0) rfl rfl rfl (by simp)) rfl rfl ?_
 refine sL (A2 rfl rfl (hat0 _) rfl) rfl rfl ?_
 refine sE (B0 rfl) rfl (fun b51 => ?_)
 refine sS rfl rfl rfl rfl ho0 rfl ?_ (hu := by exact C9 rfl)
 refine B4 ?_
 refine sB (N7 rfl rfl) rfl rfl (fun h60 => ?_) (fun h60 => ?_)
 refine A7 ?_
 refine sS rfl rfl rfl rfl ho0 rfl ?_ (hu := by exact C9 rfl)
 refine D0 ?_
 refine D1 (rC rfl (A4 rfl rfl)) (rT rfl) (rT rfl) ?_
 (exact K9.mk (by rw [if_neg (by omega)]) (M1 _))
 refine A7 ?_
 (have hq : ak = 5 := (by omega); have hq1 := h5 hq; obtain ⟨bq, oq, e3, rfl, hl3, hat3, hre3, hgb3⟩ := hasl.kidTm hakl (i := 0) (by omega) (by omega); have hS := B7M anm b _ hbs aks[0] G e3 (Tm.smallL_mem hksm _ (List.getElem_mem (by omega))) hre3 hre1; refine E3 E4 rfl ?_)
 refine J5 (i := 0) (l' := [tt,ff,ff,ff,ff,ff,ff,ff,ff,ff,ff,ff,ff,ff]) rfl D7 (B9 rfl) rfl (by kernel_rfl) rfl rfl ?_
 refine aL 1 rfl (D3 rfl rfl) rfl ?_
 refine aP 2 rfl (B8 (j := 0) rfl rfl rfl (by omega)) rfl ?_
 refine aL 3 rfl (A2 rfl rfl (hat3 _) hl3) rfl ?_
 refine aP 4 rfl (B9 rfl) rfl ?_
 refine aL 5 rfl (D3 rfl rfl) rfl ?_
 refine aP 6 rfl (B9 rfl) rfl ?_
 refine aL 7 rfl (D3 rfl rfl) rfl ?_
 refine aP 8 rfl (B8 (j := 1) rfl rfl rfl (by simp)) rfl ?_
 refine aL 9 rfl (A2 rfl rfl (hat1 _) hl1) rfl ?_
 refine A3 10 ?_
 (refine K4 rfl rfl hS rfl rfl rfl (fun u G1 hle1 hh => ?_); obtain ⟨uc, rfl, hru⟩ := hh; have hwl := hru.len; have hwo := hru.one)
 refine A3 11 ?_
 (refine oS rfl rfl rfl rfl hwl hwo rfl rfl ?_ (hu := by exact C9 hwl.symm))
 refine aP 12 rfl (qA rfl) rfl ?_
 refine aP 13 rfl (qA rfl) rfl ?_
 refine B1 ?_
 refine D1 (rC rfl (A2 rfl rfl (B2 (by repeat first | exact mH | apply mT)) hwl)) (rT rfl) (rT rfl) ?_
 (exact K9.mk (by rw [if_pos (by omega), A2Q (by omega)]) hru)
theorem B78 (k : Int) (a : Tm) (nm : ByteArray) (num : Int) (ty fr : Ty) (lb : Int) (G : IM) (cells : List Value) (hk1 : k = 11 ∨ k = 12) (hc : cv (.mk k nm num ty fr lb [a])) (hr : A8 G (.mk k nm num ty fr lb [a]) cells) : Fn Tryz.prog 248 [.agg ⟨cells⟩] [] G (K9 (T7 k [a])) := by
 obtain ⟨hN, hkk⟩ := hc.node
 have hca := hkk a (by simp)
 rw [B7X hk1]
 obtain ⟨i, hi⟩ : ∃ i : Nat, (k - 11).toNat = i := ⟨_, rfl⟩
 rw [hi]
 obtain ⟨tk, tks⟩ := ty
 obtain ⟨fk, fks⟩ := fr
 obtain ⟨pt, ct, pf, cf, p, c, es, rfl, hk, hnum, hlb, hty, hfr, hsl, hkl⟩ := hr.open9
 obtain ⟨bx, ox, e0, rfl, hl0, hat0, hre0, hgb0⟩ := hsl.kidTm hkl (i := 0) (by simp) (by simp)
 replace hre0 : A8 G a e0 := hre0
 obtain ⟨ak, anm, anum, ⟨atk, atks⟩, ⟨afk, afks⟩, alb, aks⟩ := a
 have hops := hca.node.1.ops
 have h10 : ak = 10 → aks.length = 2 := fun h => by rw [h] at hops; have : C4 10 = 2 := rfl; omega
 obtain ⟨apt, act, apf, acf, ap, ac, aes, rfl, hak, hanum, halb, haty, hafr, hasl, hakl⟩ := hre0.open9
 rw [show (Tm.mk ak anm anum (.mk atk atks) (.mk afk afks) alb aks).k = ak from rfl, show (Tm.mk ak anm anum (.mk atk atks) (.mk afk afks) alb aks).ks = aks from rfl]
 refine B7 Tryz.func248 rfl Tryz.ntmps248 Tryz.results248 rfl ?_
 intro w0
 refine A1 ?_
 refine sE (C7 rfl rfl) rfl (fun b3 => ?_)
 refine sE (B0 rfl) rfl (fun b4 => ?_)
 refine J4 ?_
 refine C0 ?_
 refine A1 ?_
 refine sP (H7 rfl rfl (by omega)) rfl rfl ?_
 refine B4 ?_
 refine sP (H7 rfl rfl (by omega)) rfl rfl ?_
 refine B1 ?_
 refine sP (H7 rfl rfl (by omega)) rfl rfl ?_
 refine A7 ?_
 refine sP (H7 rfl rfl (by omega)) rfl rfl ?_
 refine O0 ?_
 refine sP (B8 (j := 0) rfl rfl rfl (by simp)) rfl rfl ?_
 refine E8 ?_
 refine sL (A0u rfl rfl ((hat0 _).sub (j := 0) rfl)) rfl rfl ?_
 refine sB (N7 rfl rfl) rfl rfl (fun h56 => ?_) (fun h56 => ?_)
 refine J6 ?_
 refine D1 (rC rfl (A4 rfl rfl)) (rT rfl) (rT rfl) ?_
 (exact K9.mk (by rw [if_neg (by omega)]) (M1 _))
 refine A7 ?_
 (have hq := h10 (by omega); have hki : k - 11 = ((i : Nat) : Int) := (by omega); obtain ⟨bq, oq, e3, rfl, hl3, hat3, hre3, hgb3⟩ := hasl.kidTm hakl (i := i) (by omega) (by omega); have ho3 := hre3.one; refine E3 E4 rfl ?_)
 refine J5 (i := 0) (l' := [tt,ff,ff,ff,ff,ff,ff,ff,ff,ff,ff,ff,ff]) rfl D7 (B9 rfl) rfl (by kernel_rfl) rfl rfl ?_
 refine aL 1 rfl (D3 rfl rfl) rfl ?_
 refine aP 2 rfl (B8 (j := 0) rfl rfl rfl (by simp)) rfl ?_
 refine aP 3 rfl (qF rfl) rfl ?_
 refine aL 4 rfl (A0u rfl rfl ((hat0 _).sub (j := 8) rfl)) rfl ?_
 refine aP 5 rfl (B9 rfl) rfl ?_
 refine aL 6 rfl (D3 rfl rfl) rfl ?_
 refine aP 7 rfl (Q5 rfl rfl (by omega) (by omega)) rfl ?_
 refine aP 8 rfl (B70 (j := i) rfl rfl rfl hki (by omega)) rfl ?_
 refine aL 9 rfl (A2 rfl rfl (hat3 _) hl3) rfl ?_
 refine A3 10 ?_
 (refine oS rfl rfl rfl rfl hl3 ho3 rfl rfl ?_ (hu := by exact C9 hl3.symm))
 refine aP 11 rfl (qA rfl) rfl ?_
 refine aP 12 rfl (qA rfl) rfl ?_
 refine B6 ?_
 refine D1 (rC rfl (A2 rfl rfl (B2 (by repeat first | exact mH | apply mT)) hl3)) (rT rfl) (rT rfl) ?_
 (exact K9.mk (by rw [if_pos (by omega), A2Q (by omega)]) hre3)
theorem B79 (k : Int) (nm : ByteArray) (num : Int) (ty fr : Ty) (lb : Int) (ks : List Tm) (G : IM) (cells : List Value) (h7 : k = 1 ∨ k = 6 ∨ k = 7 ∨ k = 8 ∨ k = 11 ∨ k = 12) (hc : cv (.mk k nm num ty fr lb ks)) (hr : A8 G (.mk k nm num ty fr lb ks) cells) : Fn Tryz.prog 248 [.agg ⟨cells⟩] [] G (K9 (T7 k ks)) := by
 have hops := hc.node.1.ops
 by_cases h1 : k = 1
 ·subst h1; exact B75 nm num ty fr lb ks G cells hr
 by_cases h6 : k = 6
 ·subst h6
  obtain ⟨a, b, rfl⟩ := B1K hops (.inl rfl)
  exact B77 a b nm num ty fr lb G cells hc hr
 by_cases h78 : k = 7 ∨ k = 8
 ·obtain ⟨a, b, rfl⟩ := B1K hops (.inr h78)
  exact B76 k a b nm num ty fr lb G cells h78 hc hr
 obtain ⟨a, rfl⟩ := B74 hops (by omega)
 exact B78 k a nm num ty fr lb G cells (by omega) hc hr
theorem B8a {k : Int} {nm : ByteArray} {num : Int} {ty fr : Ty} {lb : Int} {ks : List Tm} {i : Nat} (hi : i < ks.length) (hn : i < (if k = 9 then 1 else ks.length)) (hj : ∀ j, j < i → (h : j < ks.length) → C5 ks[j] = true) (hv : C5 ks[i] = false) :
  H3 (.mk k nm num ty fr lb ks) = if (H3 ks[i]).2.1 = 1 then (.mk k nm num ty fr lb (ks.set i (H3 ks[i]).1), 1, 0) else (E2, (H3 ks[i]).2.1, (H3 ks[i]).2.2) := by
 rw [H3, A7A _ ks i hi hn hj hv]
theorem B8b : ∀ (t : Tm) (G : IM) (cells : List Value), cv t → C5 t = false → N4 t = true → A8 G t cells → Fn Tryz.prog 229 [.agg ⟨cells⟩] [] G (K9 (H3 t)) := by
 refine Tm.ind fun k nm num ty fr lb ks ih G cells hc hv hb hr => ?_
 have hr0 := hr
 have hRl := hr.len
 have hN := hc.node.1
 have hkk := hc.node.2
 have hkb := (X4.1 hb).2
 have hk14 := (X4.1 hb).1.1
 have hops := hN.ops
 have hle3 := A1x k
 have hkd := @A5D k nm num ty fr lb ks hc hv
 have hkX := fun (i : Nat) => @B8a k nm num ty fr lb ks i
 have hrX := @A7C k nm num ty fr lb ks
 have hRd := fun h7 => B79 k nm num ty fr lb ks G cells h7 hc hr
 obtain ⟨C, hC⟩ : ∃ C : Nat, (if k = 9 then 1 else ks.length : Nat) = C := ⟨_, rfl⟩
 rw [hC] at hkd hrX
 have hkX' := fun (i : Nat) (hi : i < ks.length) (hn : i < C) => hkX i hi (by rw [hC]; exact hn)
 have h93 : k = 9 → ks.length = 3 := fun h => by rw [h] at hops; have : C4 9 = 3 := rfl; omega
 have hC1 : k = 9 → C = 1 := fun h => by rw [← hC, if_pos h]
 have hC2 : k ≠ 9 → C = ks.length := fun h => by rw [← hC, if_neg h]
 have hC9 : C ≤ ks.length := by by_cases h9 : k = 9; have := h93 h9; have := hC1 h9; omega; have := hC2 h9; omega
 generalize H3 (.mk k nm num ty fr lb ks) = R at hkX hkX' hrX ⊢
 obtain ⟨tk, tks⟩ := ty
 obtain ⟨fk, fks⟩ := fr
 obtain ⟨pt, ct, pf, cf, p, c, es, rfl, hk, hnum, hlb, hty, hfr, hsl, hkl⟩ := hr.open9
 have hn := hsl.le
 have hnc := hsl.sl.2.1
 have hes1 : ∀ u ∈ es.flatten, u.oneCell' = true := by
  intro u hu
  obtain ⟨e, he, hue⟩ := List.mem_flatten.1 hu
  exact List.all_eq_true.1 (hsl.one e he) u hue
 refine B7 Tryz.func229 rfl Tryz.ntmps229 Tryz.results229 rfl ?_
 intro w0
 refine A1 ?_
 refine sE (C7 rfl rfl) rfl (fun b3 => ?_)
 refine sE (B0 rfl) rfl (fun b4 => ?_)
 refine V3 ?_
 refine sB (qE rfl rfl) rfl rfl (fun h22 => ?_) (fun h22 => ?_)
 refine A1 ?_
 (show J3 _ _ (.cond (.tmp 16) _ _) _ _; refine Z4 (fun (_ : Unit) => ⟨[(5, .int .i64 (C : Int)), (1, .pointer (some ⟨b3, 0, none⟩)), (2, .pointer (some ⟨b4, 0, none⟩))], [.blk b4 [.int .i64 0, .string ⟨⟨[]⟩⟩, .int .i64 0, .int .i64 0, .slice none 0 0, .int .i64 0, .slice none 0 0, .int .i64 0, .slice none 0 0], .blk b3 [.int .i64 k, .string nm, .int .i64 num, .int .i64 tk, .slice pt tks.length ct, .int .i64 fk, .slice pf fks.length cf, .int .i64 lb, .slice p ks.length c]], G⟩) (fun _ => True) (qT rfl ?_) ?_)
 refine B6 ?_
 (have hCC := hC1 (by omega); subst hCC; refine P8 () (N8 (by repeat (first | exact E5.nil | refine E5.cons rfl ?_)) (by repeat (first | exact A0.refl | exact A0.nil | refine A0.cons (by repeat (first | exact Pk.here | apply Pk.there)) ?_ | apply A0.drop))) trivial)
 (rintro (_ : Unit) _)
 refine A7 ?_
 refine C0 ?_
 (refine L9 (fun (i : Nat) => ⟨[(6, .int .i64 (i : Int)), (5, .int .i64 (C : Int)), (1, .pointer (some ⟨b3, 0, none⟩)), (2, .pointer (some ⟨b4, 0, none⟩))], [.blk b4 [.int .i64 0, .string ⟨⟨[]⟩⟩, .int .i64 0, .int .i64 0, .slice none 0 0, .int .i64 0, .slice none 0 0, .int .i64 0, .slice none 0 0], .blk b3 [.int .i64 k, .string nm, .int .i64 num, .int .i64 tk, .slice pt tks.length ct, .int .i64 fk, .slice pf fks.length cf, .int .i64 lb, .slice p ks.length c]], G⟩) (fun i => i ≤ C ∧ ∀ j, j < i → (h : j < ks.length) → C5 ks[j] = true) (fun i => C - i) 0 ?_ ?_ ?_)
 exact D5
 (exact ⟨Nat.zero_le _, fun j hj => absurd hj (Nat.not_lt_zero j)⟩)
 (rintro i ⟨hi, hj⟩)
 refine B1 ?_
 refine sB (K6 rfl rfl) rfl rfl (fun h47 => ?_) (fun h47 => ?_)
 refine A7 ?_
 refine C0 ?_
 refine A7 ?_
 (have hiC : i < C := (by omega); obtain ⟨bx, ox, e, rfl, hl, hat, hre, hgb⟩ := hsl.kidTm hkl (i := i) (by omega) (by omega); have heo := hre.one; have hVi := A7O ks[i] G e (hkk _ (List.getElem_mem (by omega))) hre; refine sP (B8 (j := i) rfl rfl rfl (by omega)) rfl rfl ?_)
 refine sL (A2 rfl rfl (hat _) hl) rfl rfl ?_
 refine E1 rfl (hVi) rfl rfl (fun h63 => ?_) (fun h63 => ?_)
 refine D8 ?_
 refine sP (K5 rfl rfl (by omega) (by omega)) rfl rfl ?_
 refine A1 ?_
 refine L0 (i + 1) ?_ ?_ ?_
 exact D5
 (exact ⟨by omega, fun j hji hl2 => (by by_cases he : j = i; (subst he; assumption); exact hj j (by omega) hl2)⟩)
 (show C - (i + 1) < C - i; omega)
 refine J2 ?_
 refine sP (B8 (j := i) rfl rfl rfl (by omega)) rfl rfl ?_
 refine sL (A2 rfl rfl (hat _) hl) rfl rfl ?_
 (have hvF : C5 ks[i] = false := (by assumption); have hst := hkX' i (by omega) hiC (fun j hji hl2 => hj j hji hl2) hvF; refine E7 rfl (ih ks[i] (List.getElem_mem (by omega)) G e (hkk _ (List.getElem_mem (by omega))) hvF (hkb _ (List.getElem_mem (by omega))) hre) rfl rfl (fun v G1 hle1 hh => ?_); obtain ⟨uc, hvv, hru⟩ := hh; have hul := hru.len; have huo := hru.one; generalize H3 ks[i] = r at hvv hru hst; obtain ⟨u, cc, ll⟩ := r; simp only at hvv hru hst; subst hvv)
 refine B3 ?_
 refine sE (B0 rfl) rfl (fun b97 => ?_)
 refine sS rfl rfl rfl hul huo rfl ?_ (hu := by exact C9 hul.symm)
 refine D0 ?_
 refine sB (N7 rfl rfl) rfl rfl (fun h107 => ?_) (fun h107 => ?_)
 refine A0x ?_
 refine D1 (rC rfl (A4 rfl rfl)) (rT rfl) (rT rfl) ?_
 (rw [hst, if_neg (by omega)]; exact K9.mk rfl (M1 _))
 refine D0 ?_
 refine sE (B0 rfl) rfl (fun b138 => ?_)
 refine B1 ?_
 (refine M5 (D4 rfl rfl rfl (by omega) (by unfold maxLen; omega) rfl) rfl ?_; rintro _ ⟨b144, rfl⟩)
 refine A1 ?_
 (refine A6E rfl rfl rfl rfl rfl (fun _ _ => by repeat (first | exact Sw.here | apply Sw.there)) (hsl.mono hle1).sl hes1 (Nat.zero_le _) (by unfold maxLen; omega) (by omega) rfl (fun p4 c4 => ?_); simp only [Nat.zero_add, List.nil_append]; refine A4a (cs := es.flatten) (by repeat (first | exact Pk.here | apply Pk.there)) (by omega) (fun bc Cc hpe hnc1 hcm => ?_); subst hpe)
 refine D8 ?_
 refine sL (A2 rfl rfl (B2 (by repeat first | exact mH | apply mT)) hul) rfl rfl ?_
 refine sP (B8 (j := i) rfl rfl rfl (by omega)) rfl rfl ?_
 refine Y4 rfl rfl rfl hul huo rfl (by repeat first | exact Sw.here | apply Sw.there) (by exact A4b (by rw [hkl.len]; omega) (fun e he => (hsl.all e he)) hul) ?_
 refine J2 ?_
 (refine A23 (bs := [(bc, (es.set i uc).flatten ++ Cc)]) (Pk.perm (by repeat (first | exact Pk.here | apply Pk.there))) (fun hn2 hd2 hle2 => ?_))
 refine A7 ?_
 refine D1 (rC rfl (A4 rfl rfl)) (rT rfl) (rT rfl) ?_
 (have hks2 := D9.set (j := i) ((hkl.mono hle1).mono hle2) (hru.mono hle2); rw [hst, if_pos (by omega)]; exact K9.mk rfl (A8.put (us := ks.set i u) (es := es.set i uc) hk hnum hlb ((hty.mono hle1).mono hle2) ((hfr.mono hle1).mono hle2) (by rw [List.length_set]) (D6.of (Sl.of_blk (A := []) (by rw [A1q hks2.all, hks2.len, List.length_set]) (by omega) hcm (Wi.in hn2 List.mem_cons_self)) (by rw [hks2.len, List.length_set]) hks2.all (fun e he => by obtain ⟨q, hq⟩ := List.getElem?_of_mem he; exact (hks2.inv hq E2).2.one)) hks2))
 refine J6 ?_
 refine sP (A1O rfl rfl (by omega)) rfl rfl ?_
 refine J2 ?_
 (have hall : ∀ i, i < C → (hl : i < ks.length) → C5 ks[i] = true := (fun j hjc hl2 => hj j (by omega) hl2); have hrd' := hrX hall; have h9 : k = 9 := (by omega); subst h9; obtain ⟨xa, xb, xc, hxs⟩ := ks3 (h93 rfl); subst hxs; rw [B7V] at hrd'; obtain ⟨bx, ox, e0, rfl, hl0, hat0, hre0, hgb0⟩ := hsl.kidTm hkl (i := 0) (by simp) (by simp); obtain ⟨_, _, e1, hp1, hl1, hat1, hre1, hgb1⟩ := hsl.kidTm hkl (i := 1) (by simp) (by simp); cases hp1; obtain ⟨_, _, e2, hp2, hl2, hat2, hre2, hgb2⟩ := hsl.kidTm hkl (i := 2) (by simp) (by simp); cases hp2; replace hre0 : A8 G xa e0 := hre0; replace hre1 : A8 G xb e1 := hre1; replace hre2 : A8 G xc e2 := hre2; have ho1 := hre1.one; have ho2 := hre2.one; obtain ⟨ak, anm, anum, ⟨atk, atks⟩, ⟨afk, afks⟩, alb, aks⟩ := xa; obtain ⟨apt, act, apf, acf, ap, ac, aes, rfl, hak, hanum, halb, haty, hafr, hasl, hakl⟩ := hre0.open9; replace hrd' : R = (if ak = 3 then (xb, 1, 0) else if ak = 4 then (xc, 1, 0) else (E2, 2, 3)) := hrd'; refine sP (B8 (j := 0) rfl rfl rfl (by simp)) rfl rfl ?_)
 refine E8 ?_
 refine sL (A0u rfl rfl ((hat0 _).sub (j := 0) rfl)) rfl rfl ?_
 refine A1 ?_
 refine C0 (tS (tR (sB (qE rfl rfl) rfl rfl (fun h211 => ?_) (fun h211 => ?_))))
 refine D0 ?_
 refine sP (B8 (j := 1) rfl rfl rfl (by simp)) rfl rfl ?_
 refine sL (A2 rfl rfl (hat1 _) hl1) rfl rfl ?_
 refine sS rfl rfl rfl hl1 ho1 rfl ?_ (hu := by exact C9 hl1.symm)
 refine B4 ?_
 refine D1 (rC rfl (A2 rfl rfl (B2 (by repeat first | exact mH | apply mT)) hl1)) (rT rfl) (rT rfl) ?_
 (rw [hrd', if_pos (by omega)]; exact K9.mk rfl hre1)
 refine A7 ?_
 refine sB (qE rfl rfl) rfl rfl (fun h238 => ?_) (fun h238 => ?_)
 refine D0 ?_
 refine sP (B8 (j := 2) rfl rfl rfl (by simp)) rfl rfl ?_
 refine sL (A2 rfl rfl (hat2 _) hl2) rfl rfl ?_
 refine sS rfl rfl rfl hl2 ho2 rfl ?_ (hu := by exact C9 hl2.symm)
 refine B4 ?_
 refine D1 (rC rfl (A2 rfl rfl (B2 (by repeat first | exact mH | apply mT)) hl2)) (rT rfl) (rT rfl) ?_
 (rw [hrd', if_neg (by omega), if_pos (by omega)]; exact K9.mk rfl hre2)
 refine J7 ?_
 refine D1 (rC rfl (A4 rfl rfl)) (rT rfl) (rT rfl) ?_
 (rw [hrd', if_neg (by omega), if_neg (by omega)]; exact K9.mk rfl (M1 _))
 refine A1 ?_
 (show J3 _ _ (.cond (.tmp 16) _ _) _ _; refine Z4 (fun (_ : Unit) => ⟨[(5, .int .i64 (C : Int)), (1, .pointer (some ⟨b3, 0, none⟩)), (2, .pointer (some ⟨b4, 0, none⟩))], [.blk b4 [.int .i64 0, .string ⟨⟨[]⟩⟩, .int .i64 0, .int .i64 0, .slice none 0 0, .int .i64 0, .slice none 0 0, .int .i64 0, .slice none 0 0], .blk b3 [.int .i64 k, .string nm, .int .i64 num, .int .i64 tk, .slice pt tks.length ct, .int .i64 fk, .slice pf fks.length cf, .int .i64 lb, .slice p ks.length c]], G⟩) (fun _ => True) (cF rfl ?_) ?_)
 refine tK ?_
 (have hCC := hC2 (by omega); subst hCC; refine P8 () (N8 (by repeat (first | exact E5.nil | refine E5.cons rfl ?_)) (by repeat (first | exact A0.refl | exact A0.nil | refine A0.cons (by repeat (first | exact Pk.here | apply Pk.there)) ?_ | apply A0.drop))) trivial)
 (rintro (_ : Unit) _)
 refine A7 ?_
 refine C0 ?_
 (refine L9 (fun (i : Nat) => ⟨[(6, .int .i64 (i : Int)), (5, .int .i64 (C : Int)), (1, .pointer (some ⟨b3, 0, none⟩)), (2, .pointer (some ⟨b4, 0, none⟩))], [.blk b4 [.int .i64 0, .string ⟨⟨[]⟩⟩, .int .i64 0, .int .i64 0, .slice none 0 0, .int .i64 0, .slice none 0 0, .int .i64 0, .slice none 0 0], .blk b3 [.int .i64 k, .string nm, .int .i64 num, .int .i64 tk, .slice pt tks.length ct, .int .i64 fk, .slice pf fks.length cf, .int .i64 lb, .slice p ks.length c]], G⟩) (fun i => i ≤ C ∧ ∀ j, j < i → (h : j < ks.length) → C5 ks[j] = true) (fun i => C - i) 0 ?_ ?_ ?_)
 exact D5
 (exact ⟨Nat.zero_le _, fun j hj => absurd hj (Nat.not_lt_zero j)⟩)
 (rintro i ⟨hi, hj⟩)
 refine B1 ?_
 refine sB (K6 rfl rfl) rfl rfl (fun h299 => ?_) (fun h299 => ?_)
 refine A7 ?_
 refine C0 ?_
 refine A7 ?_
 (have hiC : i < C := (by omega); obtain ⟨bx, ox, e, rfl, hl, hat, hre, hgb⟩ := hsl.kidTm hkl (i := i) (by omega) (by omega); have heo := hre.one; have hVi := A7O ks[i] G e (hkk _ (List.getElem_mem (by omega))) hre; refine sP (B8 (j := i) rfl rfl rfl (by omega)) rfl rfl ?_)
 refine sL (A2 rfl rfl (hat _) hl) rfl rfl ?_
 refine E1 rfl (hVi) rfl rfl (fun h315 => ?_) (fun h315 => ?_)
 refine D8 ?_
 refine sP (K5 rfl rfl (by omega) (by omega)) rfl rfl ?_
 refine A1 ?_
 refine L0 (i + 1) ?_ ?_ ?_
 exact D5
 (exact ⟨by omega, fun j hji hl2 => (by by_cases he : j = i; (subst he; assumption); exact hj j (by omega) hl2)⟩)
 (show C - (i + 1) < C - i; omega)
 refine J2 ?_
 refine sP (B8 (j := i) rfl rfl rfl (by omega)) rfl rfl ?_
 refine sL (A2 rfl rfl (hat _) hl) rfl rfl ?_
 (have hvF : C5 ks[i] = false := (by assumption); have hst := hkX' i (by omega) hiC (fun j hji hl2 => hj j hji hl2) hvF; refine E7 rfl (ih ks[i] (List.getElem_mem (by omega)) G e (hkk _ (List.getElem_mem (by omega))) hvF (hkb _ (List.getElem_mem (by omega))) hre) rfl rfl (fun v G1 hle1 hh => ?_); obtain ⟨uc, hvv, hru⟩ := hh; have hul := hru.len; have huo := hru.one; generalize H3 ks[i] = r at hvv hru hst; obtain ⟨u, cc, ll⟩ := r; simp only at hvv hru hst; subst hvv)
 refine B3 ?_
 refine sE (B0 rfl) rfl (fun b349 => ?_)
 refine sS rfl rfl rfl hul huo rfl ?_ (hu := by exact C9 hul.symm)
 refine D0 ?_
 refine sB (N7 rfl rfl) rfl rfl (fun h359 => ?_) (fun h359 => ?_)
 refine A0x ?_
 refine D1 (rC rfl (A4 rfl rfl)) (rT rfl) (rT rfl) ?_
 (rw [hst, if_neg (by omega)]; exact K9.mk rfl (M1 _))
 refine D0 ?_
 refine sE (B0 rfl) rfl (fun b390 => ?_)
 refine B1 ?_
 (refine M5 (D4 rfl rfl rfl (by omega) (by unfold maxLen; omega) rfl) rfl ?_; rintro _ ⟨b396, rfl⟩)
 refine A1 ?_
 (refine A6E rfl rfl rfl rfl rfl (fun _ _ => by repeat (first | exact Sw.here | apply Sw.there)) (hsl.mono hle1).sl hes1 (Nat.zero_le _) (by unfold maxLen; omega) (by omega) rfl (fun p4 c4 => ?_); simp only [Nat.zero_add, List.nil_append]; refine A4a (cs := es.flatten) (by repeat (first | exact Pk.here | apply Pk.there)) (by omega) (fun bc Cc hpe hnc1 hcm => ?_); subst hpe)
 refine D8 ?_
 refine sL (A2 rfl rfl (B2 (by repeat first | exact mH | apply mT)) hul) rfl rfl ?_
 refine sP (B8 (j := i) rfl rfl rfl (by omega)) rfl rfl ?_
 refine Y4 rfl rfl rfl hul huo rfl (by repeat first | exact Sw.here | apply Sw.there) (by exact A4b (by rw [hkl.len]; omega) (fun e he => (hsl.all e he)) hul) ?_
 refine J2 ?_
 (refine A23 (bs := [(bc, (es.set i uc).flatten ++ Cc)]) (Pk.perm (by repeat (first | exact Pk.here | apply Pk.there))) (fun hn2 hd2 hle2 => ?_))
 refine A7 ?_
 refine D1 (rC rfl (A4 rfl rfl)) (rT rfl) (rT rfl) ?_
 (have hks2 := D9.set (j := i) ((hkl.mono hle1).mono hle2) (hru.mono hle2); rw [hst, if_pos (by omega)]; exact K9.mk rfl (A8.put (us := ks.set i u) (es := es.set i uc) hk hnum hlb ((hty.mono hle1).mono hle2) ((hfr.mono hle1).mono hle2) (by rw [List.length_set]) (D6.of (Sl.of_blk (A := []) (by rw [A1q hks2.all, hks2.len, List.length_set]) (by omega) hcm (Wi.in hn2 List.mem_cons_self)) (by rw [hks2.len, List.length_set]) hks2.all (fun e he => by obtain ⟨q, hq⟩ := List.getElem?_of_mem he; exact (hks2.inv hq E2).2.one)) hks2))
 refine J6 ?_
 refine sP (A0w rfl rfl (by omega)) rfl rfl ?_
 refine A7 ?_
 (have hall : ∀ i, i < C → (hl : i < ks.length) → C5 ks[i] = true := (fun j hjc hl2 => hj j (by omega) hl2); have hk8 := hkd hall; have hrd' := hrX hall; refine E7 rfl (hRd (by omega)) rfl rfl (fun v G1 hle1 hh => ?_); obtain ⟨uc, rfl, hru⟩ := hh; have hul := hru.len; have huo := hru.one)
 refine B6 ?_
 refine sS rfl rfl rfl hul huo rfl ?_ (hu := by exact C9 hul.symm)
 refine A7 ?_
 refine D1 (rC rfl (A2 rfl rfl (B2 (by repeat first | exact mH | apply mT)) hul)) (rT rfl) (rT rfl) ?_
 (rw [hrd']; exact ⟨rfl, _, rfl, hru⟩)
theorem B8c (t : Tm) (G : IM) (cells : List Value) (hcnt : D2 t ≤ 4294967296) (hr : A8 G t cells) : Fn Tryz.prog 190 [.agg ⟨cells⟩] [] G (K9 (F0 t)) := by
 have hRl := hr.len
 have hRo := hr.one
 have hV := B72 t G cells hcnt hr
 have e1 := @A5G t
 have e2 := @A4n t
 have e3 := @A5H t
 have e4 := @A4o t
 have e5 := @A4p t
 have hsc := @B7T t
 refine B7 Tryz.func190 rfl Tryz.ntmps190 Tryz.results190 rfl ?_
 intro w0
 refine A1 ?_
 refine sE (C7 rfl rfl) rfl (fun b3 => ?_)
 refine sE (B0 rfl) rfl (fun b4 => ?_)
 refine B4 ?_
 refine sL (A2 rfl rfl (B2 (by repeat first | exact mH | apply mT)) hRl) rfl rfl ?_
 refine E1 rfl (hV) rfl rfl (fun h13 => ?_) (fun h13 => ?_)
 refine D8 ?_
 refine sL (A2 rfl rfl (B2 (by repeat first | exact mH | apply mT)) hRl) rfl rfl ?_
 refine E1 rfl ((A7O t G cells (A0Z (A01 (by assumption)).1).1 hr)) rfl rfl (fun h24 => ?_) (fun h24 => ?_)
 refine B1 ?_
 refine sL (A2 rfl rfl (B2 (by repeat first | exact mH | apply mT)) hRl) rfl rfl ?_
 (refine E7 rfl (A35 t G cells (A3n (A01 (by assumption)).1) hr) rfl rfl (fun v G1 hle1 hh => ?_); obtain ⟨T8, F1, rfl, hs1, hn1⟩ := hh; have hul := hs1.R.len; have huo := hs1.R.one)
 refine sS rfl rfl rfl hul huo rfl ?_ (hu := by exact C9 hul.symm)
 refine A7 ?_
 refine D1 (rC rfl (A2 rfl rfl (B2 (by repeat first | exact mH | apply mT)) hul)) (rT rfl) (rT rfl) ?_
 (exact K9.mk (e2 (by assumption) (by assumption)) (hs1.R.mono (C8.le _ _)))
 refine B4 ?_
 refine sL (A2 rfl rfl (B2 (by repeat first | exact mH | apply mT)) hRl) rfl rfl ?_
 (have hcv : P0 t = true := (by assumption); have hnv : C5 t = false := (by assumption); obtain ⟨hsc1, hsc2⟩ := hsc hcv; have e6 := @B6K t hcv; replace e3 := e3 hcv hnv; replace e4 := e4 hcv hnv; replace e5 := e5 hcv hnv; refine E7 rfl (B8b t G cells (A0Z (A01 hcv).1).1 hnv (A01 hcv).2 hr) rfl rfl (fun v G1 hle1 hh => ?_); obtain ⟨uc, hvv, hru⟩ := hh; have hul := hru.len; have huo := hru.one; generalize H3 t = r at hvv hru hsc1 hsc2 e3 e4 e5 e6; obtain ⟨u, cc, ll⟩ := r; simp only at hvv hru hsc1 hsc2 e3 e4 e5 e6; subst hvv; have hVu := A6D u G1 uc (by omega) hru)
 refine B3 ?_
 refine sE (B0 rfl) rfl (fun b54 => ?_)
 refine sS rfl rfl rfl hul huo rfl ?_ (hu := by exact C9 hul.symm)
 refine D0 ?_
 refine sB (N7 rfl rfl) rfl rfl (fun h64 => ?_) (fun h64 => ?_)
 refine I6 ?_
 refine D1 (rC rfl (A4 rfl rfl)) (rT rfl) (rT rfl) ?_
 (exact K9.mk (e3 (by omega)) (M1 _))
 refine D0 ?_
 refine sL (A2 rfl rfl (B2 (by repeat first | exact mH | apply mT)) hul) rfl rfl ?_
 (rw [← e6 (by omega)] at hVu; refine E1 rfl hVu rfl rfl (fun h91 => ?_) (fun h91 => ?_))
 refine D0 ?_
 refine sL (A2 rfl rfl (B2 (by repeat first | exact mH | apply mT)) hul) rfl rfl ?_
 (refine E7 rfl (A35 u G1 uc hsc1 hru) rfl rfl (fun v G2 hle2 hh => ?_); obtain ⟨cs2, F2, rfl, hs2, hn2⟩ := hh; have hwl := hs2.R.len; have hwo := hs2.R.one)
 refine sS rfl rfl rfl hwl hwo rfl ?_ (hu := by exact C9 hwl.symm)
 refine B1 ?_
 refine D1 (rC rfl (A2 rfl rfl (B2 (by repeat first | exact mH | apply mT)) hwl)) (rT rfl) (rT rfl) ?_
 (exact K9.mk (e5 (by omega) (by assumption)) (hs2.R.mono (C8.le _ _)))
 refine K2 ?_
 refine D1 (rC rfl (A4 rfl rfl)) (rT rfl) (rT rfl) ?_
 (exact K9.mk (e4 (by omega) (by assumption)) (M1 _))
 refine K2 ?_
 refine D1 (rC rfl (A4 rfl rfl)) (rT rfl) (rT rfl) ?_
 (exact K9.mk (e1 (by assumption)) (M1 _))
theorem B8d (e : Tm) (n : Nat) (hn : n ≤ 300) (G : IM) (cells : List Value) (hcnt : D2 e ≤ 4294967296) (hr : A8 G e cells) : Fn Tryz.prog 137 [.agg ⟨cells⟩, .int .i64 (n : Int)] [] G (EvP (I1 n e)) := by
 have hRl := hr.len
 have hRo := hr.one
 refine B7 Tryz.func137 rfl Tryz.ntmps137 Tryz.results137 rfl ?_
 intro w0
 refine A1 ?_
 refine sE (C7 rfl rfl) rfl (fun b3 => ?_)
 refine sE (B0 rfl) rfl (fun b4 => ?_)
 refine J2 ?_
 refine C0 ?_
 (refine L9 (fun (x : Nat × Tm × List Value × IM) => ⟨[(8, .int .i64 (x.1 : Int)), (1, .int .i64 (n : Int)), (2, .pointer (some ⟨b3, 0, none⟩)), (4, .pointer (some ⟨b4, 0, none⟩))], [.blk b3 x.2.2.1, .blk b4 [.int .i64 0, .string ⟨⟨[]⟩⟩, .int .i64 0, .int .i64 0, .slice none 0 0, .int .i64 0, .slice none 0 0, .int .i64 0, .slice none 0 0]], x.2.2.2⟩) (fun x => x.1 ≤ n ∧ C2 G x.2.2.2 ∧ A8 x.2.2.2 x.2.1 x.2.2.1 ∧ D2 x.2.1 ≤ 4294967296 ∧ W4 x.1 (I1 (n - x.1) x.2.1) = I1 n e) (fun x => n - x.1) (0, e, cells, G) ?_ ?_ ?_)
 (simp only [I7]; exact D5)
 (exact ⟨Nat.zero_le _, C2.refl _, hr, hcnt, rfl⟩)
 (rintro ⟨i, u, uc, Gi⟩ ⟨hi, hle, hru, hcu, hev⟩; simp only [] at hi hle hru hcu hev ⊢; have hul := hru.len; have huo := hru.one)
 refine tS ?_
 refine C0 ?_
 refine A1 ?_
 refine sL (A2 rfl rfl (B2 (by repeat first | exact mH | apply mT)) hul) rfl rfl ?_
 (refine E7 rfl (B8c u Gi uc hcu hru) rfl rfl (fun v G1 hle1 hh => ?_); obtain ⟨wc, hv, hrw⟩ := hh; have hwl := hrw.len; have hwo := hrw.one; have hend := @B6A (n - i) i u; have hmu := @B6B (n - i) i u; have hgo := @B6C (n - i) i u; have hval := @B6L u; generalize F0 u = r at hv hrw hend hmu hgo hval; obtain ⟨w, c, l⟩ := r; simp only at hv hrw hend hmu hgo hval; subst hv)
 refine B3 ?_
 refine sE (B0 rfl) rfl (fun b30 => ?_)
 refine sS rfl rfl rfl hwl hwo rfl ?_ (hu := by exact C9 hwl.symm)
 refine D0 ?_
 refine sB (N7 rfl rfl) rfl rfl (fun h40 => ?_) (fun h40 => ?_)
 refine B1 ?_
 refine sL (A2 rfl rfl (B2 (by repeat first | exact mH | apply mT)) hwl) rfl rfl ?_
 refine B6 ?_
 refine sS rfl rfl rfl hwl hwo rfl ?_ (hu := by exact C9 hwl.symm)
 refine J4 ?_
 refine A2R (rC rfl (A2 rfl rfl (B2 (by repeat first | exact mH | apply mT)) hwl)) (rT rfl) (rT rfl) (rT rfl) ?_
 (exact EvP.mk (by rw [← hev]; exact hend (by omega)) hrw)
 refine J2 ?_
 refine sB (qE rfl rfl) rfl rfl (fun h74 => ?_) (fun h74 => ?_)
 refine A0B ?_
 refine A2R (rC rfl (A4 rfl rfl)) (rT rfl) (rT rfl) (rT rfl) ?_
 (exact EvP.mk (by rw [← hev]; exact hmu (by omega) (by omega)) (M1 _))
 refine A7 ?_
 refine sL (A2 rfl rfl (B2 (by repeat first | exact mH | apply mT)) hwl) rfl rfl ?_
 refine Y4 rfl rfl rfl hwl hwo rfl (by repeat first | exact Sw.here | apply Sw.there) (by exact C9 (hul.trans hwl.symm)) ?_
 refine B1 ?_
 refine sP (K5 rfl rfl (by omega) (by omega)) rfl rfl ?_
 refine A1 ?_
 refine L0 (i + 1, w, wc, G1) ?_ ?_ ?_
 (simp only [I7]; exact D5)
 (dsimp only; exact ⟨by omega, hle.trans hle1, hrw, by have := (A0Z (A01 (hval (by omega))).1).2; omega, by rw [← hev, hgo (by omega) (by omega), show n - (i + 1) = n - i - 1 by omega]⟩)
 (show n - (i + 1) < n - i; omega)
theorem A7P {e : Tm} {fuel : Int} (h : Q0 fuel 0 300 = false) : U5 e fuel = (E2, 3, 0) := by
 unfold U5; rw [if_neg (A6f h)]
theorem A5Q {e : Tm} {fuel : Int} (h : Q0 fuel 0 300 = true) : U5 e fuel = ((I1 fuel.toNat e).1, (I1 fuel.toNat e).2.1, (I1 fuel.toNat e).2.2.1) := by
 unfold U5; rw [if_pos (A24 h)]
theorem B8e (e : Tm) (fuel : Int) (G : IM) (cells : List Value) (hcnt : D2 e ≤ 4294967296) (hr : A8 G e cells) : Fn Tryz.prog 66 [.agg ⟨cells⟩, .int .i64 fuel] [] G (K9 (U5 e fuel)) := by
 have hRl := hr.len
 have hRo := hr.one
 have hno := @A7P e fuel
 have hin := @A5Q e fuel
 refine B7 Tryz.func66 rfl Tryz.ntmps66 Tryz.results66 rfl ?_
 intro w0
 refine A1 ?_
 refine sE (C7 rfl rfl) rfl (fun b3 => ?_)
 refine sE (B0 rfl) rfl (fun b4 => ?_)
 refine D0 ?_
 refine sB (K6 rfl rfl) rfl rfl (fun h13 => ?_) (fun h13 => ?_)
 refine V3 ?_
 refine D1 (rC rfl (A4 rfl rfl)) (rT rfl) (rT rfl) ?_
 (exact K9.mk (hno (B1J (by omega))) (M1 _))
 refine A1 ?_
 refine sB (Z2 rfl rfl) rfl rfl (fun h35 => ?_) (fun h35 => ?_)
 refine K2 ?_
 refine D1 (rC rfl (A4 rfl rfl)) (rT rfl) (rT rfl) ?_
 (exact K9.mk (hno (B1J (by omega))) (M1 _))
 refine D0 ?_
 refine sL (A2 rfl rfl (B2 (by repeat first | exact mH | apply mT)) hRl) rfl rfl ?_
 refine E8 ?_
 (have hE := B8d e fuel.toNat (by omega) G cells hcnt hr; rw [Int.toNat_of_nonneg (by omega)] at hE; have hin := hin (B7O (by omega) (by omega)); refine E7 rfl hE rfl rfl (fun v G1 hle1 hh => ?_); obtain ⟨wc, hv, hrw⟩ := hh; have hwl := hrw.len; have hwo := hrw.one; generalize I1 fuel.toNat e = r at hv hrw hin; obtain ⟨w, c, l, i⟩ := r; simp only at hv hrw hin; subst hv)
 refine B1 ?_
 refine sE (B0 rfl) rfl (fun b68 => ?_)
 refine sS rfl rfl rfl hwl hwo rfl ?_ (hu := by exact C9 hwl.symm)
 refine B4 ?_
 refine sL (A2 rfl rfl (B2 (by repeat first | exact mH | apply mT)) hwl) rfl rfl ?_
 refine A1 ?_
 refine sS rfl rfl rfl hwl hwo rfl ?_ (hu := by exact C9 hwl.symm)
 refine B1 ?_
 refine D1 (rC rfl (A2 rfl rfl (B2 (by repeat first | exact mH | apply mT)) hwl)) (rT rfl) (rT rfl) ?_
 (exact K9.mk hin hrw)
theorem B8f (G : IM) : P5 G K1 [.int .i64 1, .slice none 0 0] [] := by
 simp only [K1, P5, O1]
 exact ⟨none, 0, [], [], rfl, ⟨by omega, by omega⟩, D6.nil _ _, ⟨rfl, rfl⟩, rfl, by simp [K0]⟩
theorem B8g (G : IM) : P5 G A6 [.int .i64 0, .slice none 0 0] [] := by
 simp only [A6, P5, O1]
 exact ⟨none, 0, [], [], rfl, ⟨by omega, by omega⟩, D6.nil _ _, ⟨rfl, rfl⟩, rfl, by simp [K0]⟩
theorem B8h (t : Tm) (G0 G1 : IM) (cells : List Value) (F : List Nat) (hQ : A2E t) (hle : C2 G0 G1) (hs : O7 (C8 G1 G0) t cells F) (hn : F.Nodup) :
  Fn Tryz.prog 188 [.agg ⟨cells⟩] [] G1 (M9 fun G2 v => G2 = G1 ∧ ∃ cells' F', v = .agg ⟨cells'⟩ ∧ O7 (C8 G1 G0) (A0D t) cells' F' ∧ F'.Nodup) := by
 obtain ⟨k, nm, num, ty, fr, lb, ks⟩ := t
 have hs0 := hs
 rw [A2E] at hQ
 have hbA : k = 13 ∨ k = 14 → A0D (.mk k nm num ty fr lb ks) = ks.headD E2 := fun h => by rw [A0D, if_pos h]
 have hbB : k = 5 → A0D (.mk k nm num ty fr lb ks) = .mk k nm num K1 fr lb ks := fun h => by rw [A0D, if_neg (by omega), if_pos h]
 have hbC : ¬(k = 13 ∨ k = 14) → k ≠ 5 → A0D (.mk k nm num ty fr lb ks) = .mk k nm num ty fr lb ks := fun h h' => by rw [A0D, if_neg h, if_neg h']
 simp only [O7] at hs
 obtain ⟨tc, fc, p, c, es, F1, F2, Fs, rfl, hk, hnum, hlb, hty, hfr, hsl, hkl, rfl, hin⟩ := hs
 obtain ⟨pt, ct, rfl, htk, hts⟩ := hty.open
 obtain ⟨pf, cf, rfl, hfk, hfs⟩ := hfr.open
 have hslG := hsl.mono (C8.le G1 G0)
 have hnd := hn
 rw [List.nodup_append, List.nodup_append] at hnd
 obtain ⟨n1, ⟨n2, n3, n4⟩, n5⟩ := hnd
 have hB : O7 (C8 G1 G0) (.mk k nm num K1 fr lb ks) [.int .i64 k, .string nm, .int .i64 num, .int .i64 1, .slice none 0 0, .int .i64 fr.k, .slice pf fr.ks.length cf, .int .i64 lb, .slice p ks.length c] ([] ++ (F2 ++ (K0 p ++ Fs))) := by
  simp only [O7]
  exact ⟨[.int .i64 1, .slice none 0 0], [.int .i64 fr.k, .slice pf fr.ks.length cf], p, c, es, [], F2, Fs, rfl, hk, hnum, hlb, B8f _, hfr, hsl, hkl, rfl, hin⟩
 have hBn : ([] ++ (F2 ++ (K0 p ++ Fs))).Nodup := by
  rw [List.nil_append, List.nodup_append]; exact ⟨n2, n3, n4⟩
 refine B7 Tryz.func188 rfl Tryz.ntmps188 Tryz.results188 rfl ?_
 intro w0
 refine A1 ?_
 refine sE (C7 rfl rfl) rfl (fun b3 => ?_)
 refine sE (B0 rfl) rfl (fun b4 => ?_)
 refine D8 ?_
 refine C0 (tS (tS (tR (sB (qE rfl rfl) rfl rfl (fun h18 => ?_) (fun h18 => ?_)))))
 refine J4 ?_
 (obtain ⟨x, xs, rfl⟩ : ∃ x xs, ks = x :: xs := List.exists_cons_of_ne_nil (hQ (by omega)); simp only [N2] at hkl; obtain ⟨e0, es0, Fa, Fb, rfl, hx, hxs, rfl⟩ := hkl; obtain ⟨e', b, o, he', rfl, hl, _, hat, _⟩ := hslG.get (i := 0) (by simp); simp only [List.getElem?_cons_zero, Option.some.injEq] at he'; subst he'; refine sP (B8 (j := 0) rfl rfl rfl (by simp)) rfl rfl ?_)
 refine sL (A2 rfl rfl (hat _) hl) rfl rfl ?_
 refine sS rfl rfl rfl hl hx.R.one rfl ?_ (hu := by exact C9 hl.symm)
 refine B1 ?_
 refine L3 (rC rfl (A2 rfl rfl (B2 (by repeat first | exact mH | apply mT)) hl)) ?_
 (rw [hbA (by omega)]; exact ⟨rfl, rfl, _, _, rfl, hx, by rw [List.nodup_append, List.nodup_append] at n3; exact n3.2.1.1⟩)
 refine B1 ?_
 refine sB (qE rfl rfl) rfl rfl (fun h45 => ?_) (fun h45 => ?_)
 refine D0 ?_
 (obtain ⟨x, xs, rfl⟩ : ∃ x xs, ks = x :: xs := List.exists_cons_of_ne_nil (hQ (by omega)); simp only [N2] at hkl; obtain ⟨e0, es0, Fa, Fb, rfl, hx, hxs, rfl⟩ := hkl; obtain ⟨e', b, o, he', rfl, hl, _, hat, _⟩ := hslG.get (i := 0) (by simp); simp only [List.getElem?_cons_zero, Option.some.injEq] at he'; subst he'; refine sP (B8 (j := 0) rfl rfl rfl (by simp)) rfl rfl ?_)
 refine sL (A2 rfl rfl (hat _) hl) rfl rfl ?_
 refine sS rfl rfl rfl hl hx.R.one rfl ?_ (hu := by exact C9 hl.symm)
 refine B1 ?_
 refine L3 (rC rfl (A2 rfl rfl (B2 (by repeat first | exact mH | apply mT)) hl)) ?_
 (rw [hbA (by omega)]; exact ⟨rfl, rfl, _, _, rfl, hx, by rw [List.nodup_append, List.nodup_append] at n3; exact n3.2.1.1⟩)
 refine A7 ?_
 refine sB (qE rfl rfl) rfl rfl (fun h70 => ?_) (fun h70 => ?_)
 refine B1 ?_
 refine I3 rfl (A0M _ _) rfl rfl ?_
 refine O0 ?_
 refine L3 (rC rfl (A4 rfl rfl)) ?_
 (rw [hbB (by omega)]; exact ⟨rfl, rfl, _, _, rfl, hB, hBn⟩)
 refine K2 ?_
 refine L3 (rC rfl (A4 rfl rfl)) ?_
 (rw [hbC (by omega) (by omega)]; exact ⟨rfl, rfl, _, _, rfl, hs0, hn⟩)
theorem B8i : A6B A0D A2E 188 [] [] := fun t G0 G1 cells F hQ hle hs hn =>
 (B8h t G0 G1 cells F hQ hle hs hn).mono fun G' v outs _ ⟨h1, h2, c', F', h3, h4, h5⟩ => ⟨h1, c', F', h3, by rw [h2]; exact h4, h5⟩
theorem B1L (t : Tm) (G : IM) (cells : List Value) (D N : Int) (hv : L7 D N t 1 = true) (hts : t.small) (hr : A8 G t cells) : Fn Tryz.prog 134 [.agg ⟨cells⟩] [] G (A34 (H4 t) G) := by
 have hl := hr.len
 have hone := hr.one
 obtain ⟨e1, e2⟩ := A9k D N t 1 hv
 have hM := A9f A0D A2E 188 [] [] B8i t G cells e2 hts hr
 rw [e1] at hM
 refine B7 Tryz.func134 rfl Tryz.ntmps134 Tryz.results134 rfl ?_
 intro w0
 refine A1 ?_
 refine sE (C7 rfl rfl) rfl (fun b3 => ?_)
 refine sE (B0 rfl) rfl (fun b4 => ?_)
 refine B3 ?_
 refine sL (A2 rfl rfl (B2 (by repeat first | exact mH | apply mT)) (by assumption)) rfl rfl ?_
 (refine E7 rfl hM rfl rfl (fun v G3 hle3 hh => ?_); obtain ⟨cells', F', rfl, hs', hnd'⟩ := hh; have hl' := hs'.R.len; have ho' := hs'.R.one)
 refine sS rfl rfl rfl hl' ho' rfl ?_ (hu := by exact C9 hl'.symm)
 refine B6 ?_
 refine L3 (rC rfl (A2 rfl rfl (B2 (by repeat first | exact mH | apply mT)) hl')) ?_
 exact ⟨rfl, cells', F', rfl, hs', hnd'⟩
def A3s (t : Tm) : Tm × Bool := if M8 t = true ∨ J1 t = true then (H4 t, true) else (E2, false)
theorem B8j (t : Tm) (G : IM) (cells : List Value) (hts : t.small) (hr : A8 G t cells) : Fn Tryz.prog 63 [.agg ⟨cells⟩] [] G (TbP (A3s t) G) := by
 have hl := hr.len
 have hone := hr.one
 have hv := A41 t G cells hr
 have hw := A3U t G cells hr
 have hA1 := fun h : M8 t = true => B1L t G cells 12 14 ((X7 t).1 h).1 hts hr
 have hA2 := fun h : J1 t = true => B1L t G cells 40 13 ((A28 t).1 h).1 hts hr
 refine B7 Tryz.func63 rfl Tryz.ntmps63 Tryz.results63 rfl ?_
 intro w0
 refine A1 ?_
 refine sE (C7 rfl rfl) rfl (fun b3 => ?_)
 refine sE (B0 rfl) rfl (fun b4 => ?_)
 refine A7 ?_
 refine sL (A2 rfl rfl (B2 (by repeat first | exact mH | apply mT)) (by assumption)) rfl rfl ?_
 refine E1 rfl (hw) rfl rfl (fun h12 => ?_) (fun h12 => ?_)
 refine J6 ?_
 refine sL (A2 rfl rfl (B2 (by repeat first | exact mH | apply mT)) (by assumption)) rfl rfl ?_
 (refine E7 rfl (by first | exact hA1 (by assumption) | exact hA2 (by assumption)) rfl rfl (fun v G3 hle3 hh => ?_); obtain ⟨cells', F', rfl, hs', hnd'⟩ := hh; have hl' := hs'.R.len; have ho' := hs'.R.one)
 refine sS rfl rfl rfl hl' ho' rfl ?_ (hu := by exact C9 hl'.symm)
 refine B3 ?_
 refine I8 (rC rfl (A2 rfl rfl (B2 (by repeat first | exact mH | apply mT)) hl')) (rT rfl) ?_
 exact TbP.mk (if_pos (by simp [*])) hs' hnd'
 refine A1 ?_
 refine sL (A2 rfl rfl (B2 (by repeat first | exact mH | apply mT)) (by assumption)) rfl rfl ?_
 refine E1 rfl (hv) rfl rfl (fun h38 => ?_) (fun h38 => ?_)
 refine D8 ?_
 refine sL (A2 rfl rfl (B2 (by repeat first | exact mH | apply mT)) (by assumption)) rfl rfl ?_
 (refine E7 rfl (by first | exact hA1 (by assumption) | exact hA2 (by assumption)) rfl rfl (fun v G3 hle3 hh => ?_); obtain ⟨cells', F', rfl, hs', hnd'⟩ := hh; have hl' := hs'.R.len; have ho' := hs'.R.one)
 refine sS rfl rfl rfl hl' ho' rfl ?_ (hu := by exact C9 hl'.symm)
 refine B3 ?_
 refine I8 (rC rfl (A2 rfl rfl (B2 (by repeat first | exact mH | apply mT)) hl')) (rT rfl) ?_
 exact TbP.mk (if_pos (by simp [*])) hs' hnd'
 refine K2 ?_
 refine I8 (rC rfl (A4 rfl rfl)) (rT rfl) ?_
 exact TbP.mk (if_neg (by simp [*])) (O7.zero _) (by simp)
theorem A1a.leaf {G : IM} {k : Int} {nm : ByteArray} {num x : Int} {ks : List Tm} {p : Option Addr} {c : Nat} {F : List Nat} (h : A1a G ks p c F) (hk : F8 k) (hnum : F8 num) (hx : F8 x) :
  O7 G (.mk k nm num (.mk x []) A6 0 ks) [.int .i64 k, .string nm, .int .i64 num, .int .i64 x, .slice none 0 0, .int .i64 0, .slice none 0 0, .int .i64 0, .slice p ks.length c] F := by
 obtain ⟨es, Fs, h1, h2, rfl, h4⟩ := h
 have hT : P5 G (.mk x []) [.int .i64 x, .slice none 0 0] [] := by
  simp only [P5, O1]
  exact ⟨none, 0, [], [], rfl, hx, D6.nil _ _, ⟨rfl, rfl⟩, rfl, by simp [K0]⟩
 simp only [O7]
 exact ⟨[.int .i64 x, .slice none 0 0], [.int .i64 0, .slice none 0 0], p, c, es, [], [], Fs, rfl, hk, hnum, ⟨by omega, by omega⟩, hT, B8g G, h1, h2, rfl, h4⟩
theorem B8k {k : Int} {nm : ByteArray} {num : Int} {ty fr : Ty} {lb : Int} {ks : List Tm} (h : k = 13 ∨ k = 14) (h0 : 0 < ks.length) : H4 (.mk k nm num ty fr lb ks) = H4 ks[0] := by
 cases ks with
 | nil => simp at h0
 | cons x xs => rw [H4, if_pos h, E9]; rfl
theorem B8l {k : Int} {nm : ByteArray} {num : Int} {ty fr : Ty} {lb : Int} {ks : List Tm} {x : Int} (h : ¬(k = 13 ∨ k = 14)) (hx : x = if k = 5 then 1 else 0) : H4 (.mk k nm num ty fr lb ks) = .mk k nm num (.mk x []) A6 0 (E9 ks) := by
 rw [H4, if_neg h, hx]
 by_cases h5 : k = 5
 ·rw [if_pos h5, if_pos h5]; rfl
 ·rw [if_neg h5, if_neg h5]; rfl
theorem B1M (D N : Int) : ∀ (t : Tm) (d : Int) (G : IM) (cells : List Value), L7 D N t d = true → t.small → A8 G t cells →
  Fn Tryz.prog 136 [.agg ⟨cells⟩] [] G (A34 (H4 t) G) := by
 refine Tm.ind fun k nm num ty fr lb ks ih d G cells hv hts hr => ?_
 have hone := hr.one
 obtain ⟨hv1, hv2, hv3, hv4⟩ := X8 hv
 have hvk := (A0U D N ks _).1 hv4
 have har := (T0.1 hv3).1
 have hk0 : k = 13 ∨ k = 14 → 0 < ks.length := by
  rintro (rfl | rfl)
  ·rw [show C4 13 = 1 from rfl] at har; omega
  ·rw [show C4 14 = 1 from rfl] at har; omega
 simp only [Tm.small] at hts
 obtain ⟨hnm, hty', hfr', hsm, hks⟩ := hts
 obtain ⟨tk, tks⟩ := ty
 obtain ⟨fk, fks⟩ := fr
 obtain ⟨pt, ct, pf, cf, p, c, es, rfl, hk, hnum, hlb, hty, hfr, hsl, hkl⟩ := hr.open9
 have hn := hsl.le
 have hlen : (E9 ks).length = ks.length := by rw [A3a, List.length_map]
 have hget : ∀ i (h : i < ks.length) (h' : i < (E9 ks).length), (E9 ks)[i] = H4 ks[i] := fun i h h' => by simp [A3a]
 have hB1 := fun h h0 => @B8k k nm num (.mk tk tks) (.mk fk fks) lb ks h h0
 have hB2 := fun x h hx => @B8l k nm num (.mk tk tks) (.mk fk fks) lb ks x h hx
 refine B7 Tryz.func136 rfl Tryz.ntmps136 Tryz.results136 rfl ?_
 intro w0
 refine A1 ?_
 refine sE (C7 rfl rfl) rfl (fun b3 => ?_)
 refine sE (B0 rfl) rfl (fun b4 => ?_)
 refine B4 ?_
 refine sB (qE rfl rfl) rfl rfl (fun h12 => ?_) (fun h12 => ?_)
 refine O0 ?_
 (have hk00 := hk0 (by omega); obtain ⟨b, o, e, rfl, hl, hat, hre, hgb⟩ := hsl.kidTm hkl (i := 0) hk00 hk00; have hK := ih ks[0] (List.getElem_mem _) _ G _ (hvk 0 hk00) (Tm.smallL_mem hks _ (List.getElem_mem _)) hre; rw [← hB1 (by omega) hk00] at hK; refine sP (B8 (j := 0) rfl rfl rfl (by omega)) rfl rfl ?_)
 refine sL (A2 rfl rfl (hat _) hl) rfl rfl ?_
 (refine E7 rfl hK rfl rfl (fun v G3 hle3 hh => ?_); obtain ⟨cells', F', rfl, hs', hnd'⟩ := hh; have hl' := hs'.R.len; have ho' := hs'.R.one)
 refine sS rfl rfl rfl hl' ho' rfl ?_ (hu := by exact C9 hl'.symm)
 refine B3 ?_
 refine L3 (rC rfl (A2 rfl rfl (B2 (by repeat first | exact mH | apply mT)) hl')) ?_
 exact ⟨rfl, cells', F', rfl, hs', hnd'⟩
 refine B6 ?_
 refine sB (qE rfl rfl) rfl rfl (fun h38 => ?_) (fun h38 => ?_)
 refine D0 ?_
 (have hk00 := hk0 (by omega); obtain ⟨b, o, e, rfl, hl, hat, hre, hgb⟩ := hsl.kidTm hkl (i := 0) hk00 hk00; have hK := ih ks[0] (List.getElem_mem _) _ G _ (hvk 0 hk00) (Tm.smallL_mem hks _ (List.getElem_mem _)) hre; rw [← hB1 (by omega) hk00] at hK; refine sP (B8 (j := 0) rfl rfl rfl (by omega)) rfl rfl ?_)
 refine sL (A2 rfl rfl (hat _) hl) rfl rfl ?_
 (refine E7 rfl hK rfl rfl (fun v G3 hle3 hh => ?_); obtain ⟨cells', F', rfl, hs', hnd'⟩ := hh; have hl' := hs'.R.len; have ho' := hs'.R.one)
 refine sS rfl rfl rfl hl' ho' rfl ?_ (hu := by exact C9 hl'.symm)
 refine B3 ?_
 refine L3 (rC rfl (A2 rfl rfl (B2 (by repeat first | exact mH | apply mT)) hl')) ?_
 exact ⟨rfl, cells', F', rfl, hs', hnd'⟩
 refine I6 ?_
 refine sE (B0 rfl) rfl (fun b72 => ?_)
 refine D0 ?_
 refine sB (qE rfl rfl) rfl rfl (fun h81 => ?_) (fun h81 => ?_)
 refine A1 ?_
 (show J3 _ _ (.cond (.tmp 27) _ _) _ _; refine Z4 (fun (x : Int) => ⟨[(3, .pointer (some ⟨b72, 0, none⟩)), (1, .pointer (some ⟨b3, 0, none⟩)), (2, .pointer (some ⟨b4, 0, none⟩))], [.blk b72 [.int .i64 k, .string nm, .int .i64 num, .int .i64 x, .slice none 0 0, .int .i64 0, .slice none 0 0, .int .i64 0, .slice none 0 0], .blk b4 [.int .i64 0, .string ⟨⟨[]⟩⟩, .int .i64 0, .int .i64 0, .slice none 0 0, .int .i64 0, .slice none 0 0, .int .i64 0, .slice none 0 0], .blk b3 [.int .i64 k, .string nm, .int .i64 num, .int .i64 tk, .slice pt tks.length ct, .int .i64 fk, .slice pf fks.length cf, .int .i64 lb, .slice p ks.length c]], G⟩) (fun x => x = if k = 5 then 1 else 0) ?_ ?_)
 refine A1 ?_
 refine I3 rfl ((A1v _)) rfl rfl ?_
 refine B6 ?_
 refine P8 1 (N8 (by repeat (first | exact E5.nil | refine E5.cons rfl ?_)) (by repeat (first | exact A0.refl | exact A0.nil | refine A0.cons (by repeat (first | exact Pk.here | apply Pk.there)) ?_ | apply A0.drop))) (if_pos (by omega)).symm
 (intro tx htx; have hxi : F8 tx := (by rw [htx]; split <;> exact ⟨by omega, by omega⟩); have hB3 := hB2 tx (by omega) htx)
 refine A7 ?_
 refine C0 ?_
 (refine V7 28 9 ?_; refine L9 (fun (x : Nat × Option Addr × Nat × List (List Value) × List Nat × IM) => ⟨[(4, .int .i64 x.1), (3, .pointer (some ⟨b72, 0, none⟩)), (1, .pointer (some ⟨b3, 0, none⟩)), (2, .pointer (some ⟨b4, 0, none⟩))], [.blk b72 [.int .i64 k, .string nm, .int .i64 num, .int .i64 tx, .slice none 0 0, .int .i64 0, .slice none 0 0, .int .i64 0, .slice x.2.1 x.1 x.2.2.1], .slc x.2.1 x.2.2.1 28 9 x.1 x.2.2.2.1.flatten, .blk b4 [.int .i64 0, .string ⟨⟨[]⟩⟩, .int .i64 0, .int .i64 0, .slice none 0 0, .int .i64 0, .slice none 0 0, .int .i64 0, .slice none 0 0], .blk b3 [.int .i64 k, .string nm, .int .i64 num, .int .i64 tk, .slice pt tks.length ct, .int .i64 fk, .slice pf fks.length cf, .int .i64 lb, .slice p ks.length c]], x.2.2.2.2.2⟩) (fun x => x.1 ≤ ks.length ∧ C2 G x.2.2.2.2.2 ∧ N2 (C8 x.2.2.2.2.2 G) ((E9 ks).take x.1) x.2.2.2.1 x.2.2.2.2.1 ∧ x.2.2.2.2.1.Nodup) (fun x => ks.length - x.1) (0, none, 0, [], [], G) ?_ ?_ ?_)
 (simp only [I7]; exact D5)
 exact ⟨by simp, C2.refl _, by simp [N2], by simp⟩
 (rintro ⟨i, pn, cn, es', F, Gi⟩ ⟨hi, hle, hst, hnd⟩; simp only [] at hi hle hst hnd ⊢; replace hsl := hsl.mono hle; replace hkl := hkl.mono hle)
 refine B4 ?_
 refine sB (K6 rfl rfl) rfl rfl (fun h111 => ?_) (fun h111 => ?_)
 refine A7 ?_
 refine C0 ?_
 (obtain ⟨b, o, e, rfl, hl, hat, hre, hgb⟩ := hsl.kidTm hkl (i := i) (by omega) (by omega); have hone := hre.one; refine E3 E4 rfl ?_)
 refine J5 (i := 0) (l' := [tt,ff,ff,ff,ff,ff,ff,ff,ff,ff,ff,ff]) rfl D7 (B9 rfl) rfl (by kernel_rfl) rfl rfl ?_
 refine aL 1 rfl (D3 rfl rfl) rfl ?_
 refine aP 2 rfl (B9 rfl) rfl ?_
 refine aL 3 rfl (D3 rfl rfl) rfl ?_
 refine aP 4 rfl (qM rfl) rfl ?_
 refine aP 5 rfl (B8 rfl rfl rfl (by omega)) rfl ?_
 refine aL 6 rfl (A2 rfl rfl (hat _) hl) rfl ?_
 refine A3 7 ?_
 (refine K4 rfl rfl (ih ks[i] (List.getElem_mem (by omega)) _ _ _ (hvk i (by omega)) (Tm.smallL_mem hks _ (List.getElem_mem (by omega))) hre) rfl rfl rfl (fun v G3 hle3 hh => ?_); obtain ⟨cells', F', rfl, hs', hnd'⟩ := hh; rw [← hget i (by omega) (by omega)] at hs'; obtain ⟨qt, dt, et', qf, df, ef', q3, d3, es3, rfl, _⟩ := hs'.R.open)
 refine A3 8 ?_
 (refine E6 rfl (D4 rfl rfl rfl (by omega) (by unfold maxLen; omega) rfl) rfl rfl ?_; rintro _ ⟨b130, rfl⟩)
 refine A3 9 ?_
 refine R5 rfl rfl rfl rfl rfl rfl (fun _ _ => by repeat (first | exact Sw.here | apply Sw.there)) (P3 (by repeat first | exact mH | apply mT)) rfl (by simp [Value.oneCell']) (by unfold maxLen; omega) (by omega) rfl rfl (by repeat (first | exact A9.nil | apply A9.dep (by decide +kernel) | apply A9.blk (by decide +kernel) (by repeat (first | exact Pk.here | apply Pk.there)) (by repeat first | exact mH | apply mT))) (fun pn' cn' => ?_)
 refine aP 10 rfl (B9 rfl) rfl ?_
 refine A3 11 ?_
 refine R2 rfl rfl rfl rfl rfl rfl rfl rfl (by kernel_rfl) (by repeat first | exact Sw.here | apply Sw.there) (by rfl) ?_
 refine B1 ?_
 refine sP (K5 rfl rfl (by omega) (by omega)) rfl rfl ?_
 refine A1 ?_
 refine L0 (i + 1, pn', cn', es' ++ [[.int .i64 (E9 ks)[i].k, .string (E9 ks)[i].nm, .int .i64 (E9 ks)[i].num, .int .i64 (E9 ks)[i].ty.k, .slice qt (E9 ks)[i].ty.ks.length dt, .int .i64 (E9 ks)[i].fr.k, .slice qf (E9 ks)[i].fr.ks.length df, .int .i64 (E9 ks)[i].lb, .slice q3 (E9 ks)[i].ks.length d3]], F ++ F', G3) ?_ ?_ ?_
 (simp only [I7]; exact D5)
 exact ⟨by omega, hle.trans hle3, N2.step hst hnd hle hle3 (by omega) hs' hnd'⟩
 (show ks.length - (i + 1) < ks.length - i; omega)
 refine K2 ?_
 (refine I5 (by repeat (first | exact Pk.here | apply Pk.there)) (fun G4 hle4 hsl4 hno4 => ?_); obtain rfl : i = ks.length := (by omega))
 refine tT ?_
 refine L3 (rC rfl (A4 rfl rfl)) ?_
 (rw [← hlen, List.take_length] at hst; rw [← hlen] at hsl4 ⊢; obtain ⟨F3, hf1, hf2⟩ := A1a.fin hst hnd hle hle4 hsl4 hno4; rw [hB3]; exact ⟨rfl, _, F3, rfl, hf1.leaf hk hnum hxi, hf2⟩)
 refine A1 ?_
 (show J3 _ _ (.cond (.tmp 27) _ _) _ _; refine Z4 (fun (x : Int) => ⟨[(3, .pointer (some ⟨b72, 0, none⟩)), (1, .pointer (some ⟨b3, 0, none⟩)), (2, .pointer (some ⟨b4, 0, none⟩))], [.blk b72 [.int .i64 k, .string nm, .int .i64 num, .int .i64 x, .slice none 0 0, .int .i64 0, .slice none 0 0, .int .i64 0, .slice none 0 0], .blk b4 [.int .i64 0, .string ⟨⟨[]⟩⟩, .int .i64 0, .int .i64 0, .slice none 0 0, .int .i64 0, .slice none 0 0, .int .i64 0, .slice none 0 0], .blk b3 [.int .i64 k, .string nm, .int .i64 num, .int .i64 tk, .slice pt tks.length ct, .int .i64 fk, .slice pf fks.length cf, .int .i64 lb, .slice p ks.length c]], G⟩) (fun x => x = if k = 5 then 1 else 0) ?_ ?_)
 refine A1 ?_
 refine P8 0 (N8 (by repeat (first | exact E5.nil | refine E5.cons rfl ?_)) (by repeat (first | exact A0.refl | exact A0.nil | refine A0.cons (by repeat (first | exact Pk.here | apply Pk.there)) ?_ | apply A0.drop))) (if_neg (by omega)).symm
 (intro tx htx; have hxi : F8 tx := (by rw [htx]; split <;> exact ⟨by omega, by omega⟩); have hB3 := hB2 tx (by omega) htx)
 refine A7 ?_
 refine C0 ?_
 (refine V7 28 9 ?_; refine L9 (fun (x : Nat × Option Addr × Nat × List (List Value) × List Nat × IM) => ⟨[(4, .int .i64 x.1), (3, .pointer (some ⟨b72, 0, none⟩)), (1, .pointer (some ⟨b3, 0, none⟩)), (2, .pointer (some ⟨b4, 0, none⟩))], [.blk b72 [.int .i64 k, .string nm, .int .i64 num, .int .i64 tx, .slice none 0 0, .int .i64 0, .slice none 0 0, .int .i64 0, .slice x.2.1 x.1 x.2.2.1], .slc x.2.1 x.2.2.1 28 9 x.1 x.2.2.2.1.flatten, .blk b4 [.int .i64 0, .string ⟨⟨[]⟩⟩, .int .i64 0, .int .i64 0, .slice none 0 0, .int .i64 0, .slice none 0 0, .int .i64 0, .slice none 0 0], .blk b3 [.int .i64 k, .string nm, .int .i64 num, .int .i64 tk, .slice pt tks.length ct, .int .i64 fk, .slice pf fks.length cf, .int .i64 lb, .slice p ks.length c]], x.2.2.2.2.2⟩) (fun x => x.1 ≤ ks.length ∧ C2 G x.2.2.2.2.2 ∧ N2 (C8 x.2.2.2.2.2 G) ((E9 ks).take x.1) x.2.2.2.1 x.2.2.2.2.1 ∧ x.2.2.2.2.1.Nodup) (fun x => ks.length - x.1) (0, none, 0, [], [], G) ?_ ?_ ?_)
 (simp only [I7]; exact D5)
 exact ⟨by simp, C2.refl _, by simp [N2], by simp⟩
 (rintro ⟨i, pn, cn, es', F, Gi⟩ ⟨hi, hle, hst, hnd⟩; simp only [] at hi hle hst hnd ⊢; replace hsl := hsl.mono hle; replace hkl := hkl.mono hle)
 refine B4 ?_
 refine sB (K6 rfl rfl) rfl rfl (fun h191 => ?_) (fun h191 => ?_)
 refine A7 ?_
 refine C0 ?_
 (obtain ⟨b, o, e, rfl, hl, hat, hre, hgb⟩ := hsl.kidTm hkl (i := i) (by omega) (by omega); have hone := hre.one; refine E3 E4 rfl ?_)
 refine J5 (i := 0) (l' := [tt,ff,ff,ff,ff,ff,ff,ff,ff,ff,ff,ff]) rfl D7 (B9 rfl) rfl (by kernel_rfl) rfl rfl ?_
 refine aL 1 rfl (D3 rfl rfl) rfl ?_
 refine aP 2 rfl (B9 rfl) rfl ?_
 refine aL 3 rfl (D3 rfl rfl) rfl ?_
 refine aP 4 rfl (qM rfl) rfl ?_
 refine aP 5 rfl (B8 rfl rfl rfl (by omega)) rfl ?_
 refine aL 6 rfl (A2 rfl rfl (hat _) hl) rfl ?_
 refine A3 7 ?_
 (refine K4 rfl rfl (ih ks[i] (List.getElem_mem (by omega)) _ _ _ (hvk i (by omega)) (Tm.smallL_mem hks _ (List.getElem_mem (by omega))) hre) rfl rfl rfl (fun v G3 hle3 hh => ?_); obtain ⟨cells', F', rfl, hs', hnd'⟩ := hh; rw [← hget i (by omega) (by omega)] at hs'; obtain ⟨qt, dt, et', qf, df, ef', q3, d3, es3, rfl, _⟩ := hs'.R.open)
 refine A3 8 ?_
 (refine E6 rfl (D4 rfl rfl rfl (by omega) (by unfold maxLen; omega) rfl) rfl rfl ?_; rintro _ ⟨b210, rfl⟩)
 refine A3 9 ?_
 refine R5 rfl rfl rfl rfl rfl rfl (fun _ _ => by repeat (first | exact Sw.here | apply Sw.there)) (P3 (by repeat first | exact mH | apply mT)) rfl (by simp [Value.oneCell']) (by unfold maxLen; omega) (by omega) rfl rfl (by repeat (first | exact A9.nil | apply A9.dep (by decide +kernel) | apply A9.blk (by decide +kernel) (by repeat (first | exact Pk.here | apply Pk.there)) (by repeat first | exact mH | apply mT))) (fun pn' cn' => ?_)
 refine aP 10 rfl (B9 rfl) rfl ?_
 refine A3 11 ?_
 refine R2 rfl rfl rfl rfl rfl rfl rfl rfl (by kernel_rfl) (by repeat first | exact Sw.here | apply Sw.there) (by rfl) ?_
 refine B1 ?_
 refine sP (K5 rfl rfl (by omega) (by omega)) rfl rfl ?_
 refine A1 ?_
 refine L0 (i + 1, pn', cn', es' ++ [[.int .i64 (E9 ks)[i].k, .string (E9 ks)[i].nm, .int .i64 (E9 ks)[i].num, .int .i64 (E9 ks)[i].ty.k, .slice qt (E9 ks)[i].ty.ks.length dt, .int .i64 (E9 ks)[i].fr.k, .slice qf (E9 ks)[i].fr.ks.length df, .int .i64 (E9 ks)[i].lb, .slice q3 (E9 ks)[i].ks.length d3]], F ++ F', G3) ?_ ?_ ?_
 (simp only [I7]; exact D5)
 exact ⟨by omega, hle.trans hle3, N2.step hst hnd hle hle3 (by omega) hs' hnd'⟩
 (show ks.length - (i + 1) < ks.length - i; omega)
 refine K2 ?_
 (refine I5 (by repeat (first | exact Pk.here | apply Pk.there)) (fun G4 hle4 hsl4 hno4 => ?_); obtain rfl : i = ks.length := (by omega))
 refine tT ?_
 refine L3 (rC rfl (A4 rfl rfl)) ?_
 (rw [← hlen, List.take_length] at hst; rw [← hlen] at hsl4 ⊢; obtain ⟨F3, hf1, hf2⟩ := A1a.fin hst hnd hle hle4 hsl4 hno4; rw [hB3]; exact ⟨rfl, _, F3, rfl, hf1.leaf hk hnum hxi, hf2⟩)
theorem B8m (t : Tm) (G : IM) (cells : List Value) (hts : t.small) (hcnt : D2 t ≤ 4294967296) (hr : A8 G t cells) : Fn Tryz.prog 65 [.agg ⟨cells⟩] [] G (TbP (A3s t) G) := by
 have hl := hr.len
 have hone := hr.one
 have hv := A6D t G cells hcnt hr
 have hw := A46 t G cells hcnt hr
 have hA1 := fun h : M8 t = true => B1M 12 14 t 1 G cells ((X7 t).1 h).1 hts hr
 have hA2 := fun h : J1 t = true => B1M 40 13 t 1 G cells ((A28 t).1 h).1 hts hr
 refine B7 Tryz.func65 rfl Tryz.ntmps65 Tryz.results65 rfl ?_
 intro w0
 refine A1 ?_
 refine sE (C7 rfl rfl) rfl (fun b3 => ?_)
 refine sE (B0 rfl) rfl (fun b4 => ?_)
 refine A7 ?_
 refine sL (A2 rfl rfl (B2 (by repeat first | exact mH | apply mT)) (by assumption)) rfl rfl ?_
 refine E1 rfl (hw) rfl rfl (fun h12 => ?_) (fun h12 => ?_)
 refine J6 ?_
 refine sL (A2 rfl rfl (B2 (by repeat first | exact mH | apply mT)) (by assumption)) rfl rfl ?_
 (refine E7 rfl (by first | exact hA1 (by assumption) | exact hA2 (by assumption)) rfl rfl (fun v G3 hle3 hh => ?_); obtain ⟨cells', F', rfl, hs', hnd'⟩ := hh; have hl' := hs'.R.len; have ho' := hs'.R.one)
 refine sS rfl rfl rfl hl' ho' rfl ?_ (hu := by exact C9 hl'.symm)
 refine B3 ?_
 refine I8 (rC rfl (A2 rfl rfl (B2 (by repeat first | exact mH | apply mT)) hl')) (rT rfl) ?_
 exact TbP.mk (if_pos (by simp [*])) hs' hnd'
 refine A1 ?_
 refine sL (A2 rfl rfl (B2 (by repeat first | exact mH | apply mT)) (by assumption)) rfl rfl ?_
 refine E1 rfl (hv) rfl rfl (fun h38 => ?_) (fun h38 => ?_)
 refine D8 ?_
 refine sL (A2 rfl rfl (B2 (by repeat first | exact mH | apply mT)) (by assumption)) rfl rfl ?_
 (refine E7 rfl (by first | exact hA1 (by assumption) | exact hA2 (by assumption)) rfl rfl (fun v G3 hle3 hh => ?_); obtain ⟨cells', F', rfl, hs', hnd'⟩ := hh; have hl' := hs'.R.len; have ho' := hs'.R.one)
 refine sS rfl rfl rfl hl' ho' rfl ?_ (hu := by exact C9 hl'.symm)
 refine B3 ?_
 refine I8 (rC rfl (A2 rfl rfl (B2 (by repeat first | exact mH | apply mT)) hl')) (rT rfl) ?_
 exact TbP.mk (if_pos (by simp [*])) hs' hnd'
 refine K2 ?_
 refine I8 (rC rfl (A4 rfl rfl)) (rT rfl) ?_
 exact TbP.mk (if_neg (by simp [*])) (O7.zero _) (by simp)
def C0h (t : Tm) : Nat := if M8 t = true then D2 t else 0
inductive MV where
 | mk (k num : Int) (env parts : List MV)
def MV.k : MV → Int | .mk k _ _ _ => k
def MV.num : MV → Int | .mk _ n _ _ => n
def MV.env : MV → List MV | .mk _ _ e _ => e
def MV.parts : MV → List MV | .mk _ _ _ p => p
def mv0 : MV := .mk 0 0 [] []
mutual
def RMv (kc : Int → Int) (G : IM) : MV → List Value → Prop
 | .mk k num env parts, cells => ∃ p c es q d fs, cells = [.int .i64 (kc k), .int .i64 num, .slice p env.length c, .slice q parts.length d] ∧ F8 num ∧ F8 (kc k) ∧ D6 G p env.length c 4 es ∧ A3t kc G env es ∧ D6 G q parts.length d 4 fs ∧ A3t kc G parts fs
def A3t (kc : Int → Int) (G : IM) : List MV → List (List Value) → Prop
 | [], es => es = []
 | t :: ts, es => ∃ a r, es = a :: r ∧ RMv kc G t a ∧ A3t kc G ts r
end
section
variable {kc : Int → Int} {G : IM}
end

def RFr (kc : Int → Int) (G : IM) (f : Int × List MV) (cells : List Value) : Prop := ∃ p c es, cells = [.int .i64 f.1, .slice p f.2.length c] ∧ F8 f.1 ∧ D6 G p f.2.length c 4 es ∧ A3t kc G f.2 es
def B1N (kc : Int → Int) (G : IM) : List (Int × List MV) → List (List Value) → Prop
 | [], es => es = []
 | t :: ts, es => ∃ a r, es = a :: r ∧ RFr kc G t a ∧ B1N kc G ts r
section
variable {kc : Int → Int} {G : IM}
end

structure MSt where
 at' : Int
 st : List MV
 env : List MV
 fr : List (Int × List MV)
def RSs (kc : Int → Int) (G : IM) (s : MSt) (cells : List Value) : Prop := ∃ pe ce ps cs pf cf ee es ef, cells = [.int .i64 s.at', .slice pe s.env.length ce, .slice ps s.st.length cs, .slice pf s.fr.length cf] ∧ F8 s.at' ∧
 D6 G pe s.env.length ce 4 ee ∧ A3t kc G s.env ee ∧ D6 G ps s.st.length cs 4 es ∧ A3t kc G s.st es ∧ D6 G pf s.fr.length cf 2 ef ∧ B1N kc G s.fr ef
def A2X (k : Int) : Nat := if k = 6 ∨ k = 7 ∨ k = 8 ∨ k = 11 then 2 else if k = 9 ∨ k = 12 ∨ k = 13 then 1 else 0
def A5R (k : Int) : Int × Nat × Int := if k = 6 then (2, 1, 1) else if k = 7 ∨ k = 8 then (0, 2, 2) else if k = 9 then (1, 1, 3) else if k = 12 ∨ k = 13 then (3, 1, 4) else (0, 0, 0)
def A2t (s : MSt) (v : MV) : MSt := { s with st := s.st ++ [v] }
def mGo (k a : Int) (s : MSt) (v : List MV) : MSt ⊕ (Int × Int) :=
 if k = 1 then .inl (A2t s (.mk 0 a [] []))
 else if k = 2 then .inl (A2t s (.mk 1 a [] []))
 else if k = 3 then (if (s.env.length : Int) - 1 - a < 0 then .inr (3, 0) else .inl (A2t s (s.env.getD ((s.env.length : Int) - 1 - a).toNat mv0)))
 else if k = 4 then .inl { A2t s (.mk 2 s.at' s.env []) with at' := s.at' + a }
 else if k = 5 then (if s.fr.length = 0 then .inr (3, 0) else .inl { s with at' := (s.fr.getD (s.fr.length - 1) (0, [])).1, env := (s.fr.getD (s.fr.length - 1) (0, [])).2, fr := s.fr.take (s.fr.length - 1) })
 else if k = 6 then .inl { s with at' := (v.getD 0 mv0).num, env := (v.getD 0 mv0).env ++ [v.getD 1 mv0], fr := s.fr ++ [(s.at', s.env)] }
 else if k = 7 then .inl (A2t s (.mk 0 (((v.getD 0 mv0).num + (v.getD 1 mv0).num) % 1000) [] []))
 else if k = 8 then .inl (A2t s (.mk 1 (if (v.getD 0 mv0).num < (v.getD 1 mv0).num then 1 else 0) [] []))
 else if k = 9 then .inl (if (v.getD 0 mv0).num = 0 then { s with at' := s.at' + a } else s)
 else if k = 10 then .inl { s with at' := s.at' + a }
 else if k = 11 then .inl (A2t s (.mk 3 0 [] v))
 else .inl (A2t s ((v.getD 0 mv0).parts.getD (k - 12).toNat mv0))
def B1O (k : Int) (v : List MV) : Bool := (v.take (A5R k).2.1).all fun u => decide (u.k = (A5R k).1)
def B8n (k a : Int) (s : MSt) : MSt ⊕ (Int × Int) :=
 if s.st.length < A2X k then .inr (3, 0)
 else if B1O k (s.st.drop (s.st.length - A2X k)) = true then mGo k a { s with at' := s.at' + 1, st := s.st.take (s.st.length - A2X k) } (s.st.drop (s.st.length - A2X k))
 else .inr (2, (A5R k).2.2)
def B8o (v : MV) : ByteArray := if v.k = 0 then ⟨(Lib.decDigits v.num.toNat).toArray⟩ else if v.k = 1 then (if v.num = 0 then ⟨#[70]⟩ else ⟨#[84]⟩) else if v.k = 2 then ⟨⟨[102, 117, 110, 99, 116, 105, 111, 110]⟩⟩ else ⟨⟨[112, 97, 105, 114]⟩⟩
def B8p (s : MSt) : ByteArray × Int × Int := if s.st.length ≠ 1 ∨ 0 < s.fr.length then (⟨#[]⟩, 3, 0) else (B8o (s.st.getD 0 mv0), 0, 0)
def B1P (ops : List (Int × Int)) : Nat → MSt → ByteArray × Int × Int
 | t, s => if (ops.length : Int) ≤ s.at' then B8p s else match t with
  | 0 => (⟨#[]⟩, 5, 0)
  | t + 1 => match B8n (ops.getD s.at'.toNat (0, 0)).1 (ops.getD s.at'.toNat (0, 0)).2 s with
   | .inl s' => B1P ops t s'
   | .inr (c, e) => (⟨#[]⟩, c, e)
def B8q (k behind : Int) : Int := if k = 1 then 999 else if k = 2 then 1 else if k = 3 then 11 else if k = 4 ∨ k = 9 ∨ k = 10 then behind else 0
def B8r (n : Nat) (i : Nat) (x : Int × Int) : Bool := decide (1 ≤ x.1 ∧ x.1 ≤ 13 ∧ 0 ≤ x.2 ∧ x.2 ≤ B8q x.1 ((n : Int) - 1 - i))
def B8s (ops : List (Int × Int)) : Bool := decide (1 ≤ ops.length ∧ ops.length ≤ 120) && (List.range ops.length).all fun i => B8r ops.length i (ops.getD i (0, 0))
def C0i (ops : List (Int × Int)) (ticks : Int) : ByteArray × Int × Int :=
 if B8s ops = true ∧ 0 ≤ ticks ∧ ticks ≤ 2000 then B1P ops ticks.toNat ⟨0, [], [], []⟩ else (⟨#[]⟩, 3, 0)
theorem B1Q (k : Nat) : strOfNums [dgi k] = (⟨[UInt8.ofNat (48 + k % 10)].toArray⟩ : ByteArray) := by
 have : (dgi k).toNat = 48 + k % 10 := by unfold dgi; omega
 simp [strOfNums, this]
theorem B8t (a b : List UInt8) : (⟨a.toArray⟩ : ByteArray) ++ ⟨b.toArray⟩ = ⟨(a ++ b).toArray⟩ := by
 apply ByteArray.ext; simp
theorem B8u {k : Nat} {out : ByteArray} (h : 9 < k) : (⟨(Lib.decDigits (k / 10)).toArray⟩ : ByteArray) ++ (strOfNums [dgi k] ++ out) = ⟨(Lib.decDigits k).toArray⟩ ++ out := by
 have e : (⟨(Lib.decDigits k).toArray⟩ : ByteArray) = ⟨(Lib.decDigits (k / 10)).toArray⟩ ++ ⟨[UInt8.ofNat (48 + k % 10)].toArray⟩ := by
  rw [B8t (Lib.decDigits (k / 10))]
  congr 2
  rw [Lib.decDigits, dif_neg (by omega)]
 rw [e, B1Q, ByteArray.append_assoc]
theorem B8v {k : Nat} {out : ByteArray} (h : ¬9 < k) : strOfNums [dgi k] ++ out = ⟨(Lib.decDigits k).toArray⟩ ++ out := by
 rw [B1Q, Lib.decDigits, dif_pos (by omega), Nat.mod_eq_of_lt (by omega)]
theorem B8w {k : Nat} (h : ¬9 < k) : dgi k = 48 + (k : Int) := by unfold dgi; omega
theorem B8x (k : Nat) (hk : k < 10000) (G : IM) : Fn Tryz.prog 138 [.int .i64 (k : Int)] [] G (H8 (.string ⟨(Lib.decDigits k).toArray⟩) G) := by
 refine B7 Tryz.func138 rfl Tryz.ntmps138 Tryz.results138 rfl ?_
 intro w0
 refine D8 ?_
 refine sP (A3H rfl rfl (by omega)) rfl rfl ?_
 refine D8 ?_
 refine sP (A3H rfl rfl (by omega)) rfl rfl ?_
 refine J4 ?_
 refine C0 (L9 (fun (x : Nat × ByteArray) => ⟨[(0, .int .i64 (x.1 : Int)), (2, .string ⟨#[]⟩), (3, .string x.2)], [], G⟩) (fun x => x.1 < 10000 ∧ x.1 + x.2.size < 10020 ∧ (⟨(Lib.decDigits x.1).toArray⟩ : ByteArray) ++ x.2 = ⟨(Lib.decDigits k).toArray⟩) (fun x => x.1) (k, ⟨#[]⟩) ?_ ?_ ?_)
 (simp only [I7]; exact D5)
 (dsimp only; exact ⟨hk, by have : (⟨#[]⟩ : ByteArray).size = 0 := rfl; omega, ByteArray.append_empty⟩)
 (rintro ⟨j, out⟩ ⟨hj, hsz, hd⟩; simp only [] at hj hsz hd ⊢)
 refine B3 ?_
 refine sB (Z2 rfl rfl) rfl rfl (fun h41 => ?_) (fun h41 => ?_)
 refine B1 ?_
 refine C0 ?_
 refine B6 ?_
 refine sP (A6i (n := 10) rfl rfl (by omega)) rfl rfl ?_
 refine sP (K5 rfl rfl (by omega) (by omega)) rfl rfl ?_
 refine sP (A6g rfl rfl rfl (by omega) (by omega)) rfl rfl ?_
 (refine M5 (D4 rfl rfl rfl (by omega) (by unfold maxLen; omega) rfl) rfl ?_; rintro _ ⟨b54, rfl⟩)
 refine sL (A6h (xs := [dgi j]) rfl rfl rfl rfl rfl (P3 (by repeat first | exact mH | apply mT))) rfl rfl ?_
 refine E8 ?_
 (have hs1 := strOfNums_size [dgi j]; have hs2 : [dgi j].length = 1 := rfl; refine sP (A18 rfl rfl (by omega)) rfl rfl ?_)
 refine B1 ?_
 refine sP (A6j (n := 10) rfl rfl (by omega) (by omega)) rfl rfl ?_
 refine B6 ?_
 refine L0 (j / 10, strOfNums [dgi j] ++ out) ?_ ?_ ?_
 (simp only [I7]; exact D5)
 (dsimp only; exact ⟨by omega, by (rw [ByteArray.size_append]; omega), by rw [← hd]; exact B8u (by omega)⟩)
 (show j / 10 < j; omega)
 refine J4 ?_
 refine sP (K5 rfl rfl (by omega) (by omega)) rfl rfl ?_
 refine sP (A6g rfl rfl rfl (by omega) (by omega)) rfl rfl ?_
 (refine M5 (D4 rfl rfl rfl (by omega) (by unfold maxLen; omega) rfl) rfl ?_; rintro _ ⟨b84, rfl⟩)
 (have hs9 := B8w (k := j) (by omega); refine sL (A6h (xs := [48 + (j : Int)]) rfl rfl rfl rfl rfl (P3 (by repeat first | exact mH | apply mT))) rfl rfl ?_; rw [← hs9])
 refine E8 ?_
 (have hs1 := strOfNums_size [dgi j]; have hs2 : [dgi j].length = 1 := rfl; refine sP (A18 rfl rfl (by omega)) rfl rfl ?_)
 refine B1 ?_
 exact ⟨rfl, by rw [B8v (by omega), hd], rfl⟩
theorem B8y (k : Int) (nm : ByteArray) (num : Int) (ty fr : Ty) (lb : Int) (ks : List Tm) (G : IM) (cells : List Value) (hT : A1d G) (hk3 : k = 2 ∨ k = 3 ∨ k = 4) (hn : 0 ≤ num ∧ num ≤ 999) (hr : A8 G (.mk k nm num ty fr lb ks) cells) : Fn Tryz.prog 126 [.agg ⟨cells⟩] [] G (H8 (.string (A12 k num)) G) := by
 obtain ⟨tk, tks⟩ := ty
 obtain ⟨fk, fks⟩ := fr
 obtain ⟨pt, ct, pf, cf, p, c, es, rfl, hk, hnum, hlb, hty, hfr, hsl, hkl⟩ := hr.open9
 have hI := B3w num G hT hn.1 hn.2
 refine B7 Tryz.func126 rfl Tryz.ntmps126 Tryz.results126 rfl ?_
 intro w0
 refine A1 ?_
 refine sE (C7 rfl rfl) rfl (fun b3 => ?_)
 refine B1 ?_
 refine sQ (A2Z rfl rfl) rfl ?_
 refine J2 ?_
 refine C0 ?_
 refine A1 ?_
 refine sP (H7 rfl rfl (by omega)) rfl rfl ?_
 refine A7 ?_
 refine sB (qE rfl rfl) rfl rfl (fun h30 => ?_) (fun h30 => ?_)
 refine D0 ?_
 refine I3 rfl (hI) rfl rfl ?_
 refine B4 ?_
 (exact ⟨rfl, by unfold A12; rw [if_pos (by omega)]; rfl, rfl⟩)
 refine A7 ?_
 refine sB (qE rfl rfl) rfl rfl (fun h54 => ?_) (fun h54 => ?_)
 refine J6 ?_
 (exact ⟨rfl, by unfold A12; rw [if_neg (by omega), if_pos (by omega)]; rfl, rfl⟩)
 refine A7 ?_
 refine sP (S8 rfl rfl (by omega)) rfl rfl ?_
 refine J6 ?_
 (exact ⟨rfl, by unfold A12; rw [if_neg (by omega), if_neg (by omega)]; rfl, rfl⟩)
theorem B1R : ∀ (t : Tm) (G : IM) (cells : List Value), A1d G → cv t → C5 t = true → A8 G t cells → Fn Tryz.prog 58 [.agg ⟨cells⟩] [] G (H8 (.string (X3 t)) G) := by
 refine Tm.ind fun k nm num ty fr lb ks ih G cells hT hc hv hr => ?_
 have hr0 := hr
 have hP := A2P _ G _ hr
 obtain ⟨hN, hkk⟩ := hc.node
 have hop := hN.ops
 have h14 : k = 14 → ks.length = 1 := fun h => by rw [h] at hop; have : C4 14 = 1 := rfl; omega
 have hL := fun h => B8y k nm num ty fr lb ks G cells hT h hN.num0 hr
 have hvp := @B0U k nm num ty fr lb ks
 have hvf := @B0V k nm num ty fr lb ks
 have hvc := @A7u k nm num ty fr lb ks
 have hvl := @B0W k nm num ty fr lb ks
 have hvn := @A5w k nm num ty fr lb ks
 have hvy := @A3k k nm num ty fr lb ks
 have hprx := A1j k nm num ty fr lb ks
 have hinj := A4l k nm num ty fr lb ks
 have hleaf : Q1 (.mk k nm num ty fr lb ks) = false → k ≠ 14 → k ≠ 10 → k ≠ 5 → k = 2 ∨ k = 3 ∨ k = 4 := by
  intro h1 h2 h3 h4
  have := hvn h3 h1 (by rw [hinj, decide_eq_false (by omega)]; rfl)
  rw [this] at hv
  have := of_decide_eq_true hv
  omega
 have hkv : Q1 (.mk k nm num ty fr lb ks) = false → k = 14 → ∀ t ∈ ks, C5 t = true := by
  intro h1 h2 t ht
  cases hi : inj (.mk k nm num ty fr lb ks) with
  | true => have := hvy (.inr (.inr hi)); rw [hv] at this; exact List.all_eq_true.1 this.symm t ht
  | false =>
   have := hvn (by omega) h1 hi
   rw [hv] at this
   have := of_decide_eq_true this.symm
   omega
 generalize hpx : Q1 (.mk k nm num ty fr lb ks) = bp at *
 obtain ⟨tk, tks⟩ := ty
 obtain ⟨fk, fks⟩ := fr
 obtain ⟨pt, ct, pf, cf, p, c, es, rfl, hk, hnum, hlb, hty, hfr, hsl, hkl⟩ := hr.open9
 refine B7 Tryz.func58 rfl Tryz.ntmps58 Tryz.results58 rfl ?_
 intro w0
 refine A1 ?_
 refine sE (C7 rfl rfl) rfl (fun b3 => ?_)
 refine B3 ?_
 refine C0 ?_
 refine B3 ?_
 refine sB (qE rfl rfl) rfl rfl (fun h13 => ?_) (fun h13 => ?_)
 refine A08 ?_
 (exact ⟨rfl, congrArg Value.string (hvp (by first | exact .inl (by omega) | exact .inr ⟨by assumption, by assumption⟩)).symm, rfl⟩)
 refine A1 ?_
 refine E1 rfl (hP) rfl rfl (fun h40 => ?_) (fun h40 => ?_)
 refine B3 ?_
 refine sB (qE rfl rfl) rfl rfl (fun h45 => ?_) (fun h45 => ?_)
 refine I6 ?_
 (exact ⟨rfl, congrArg Value.string (hvp (by first | exact .inl (by omega) | exact .inr ⟨by assumption, by assumption⟩)).symm, rfl⟩)
 refine J2 ?_
 refine sB (qE rfl rfl) rfl rfl (fun h72 => ?_) (fun h72 => ?_)
 refine V3 ?_
 (exact ⟨rfl, congrArg Value.string (hvf (by rintro (h | ⟨h1, h2⟩) <;> first | omega | exact Bool.noConfusion (h1.symm.trans (show bp = false by assumption)) | (simp only [Ty.k] at h2; omega)) (by first | exact .inl (by omega) | exact .inr (by assumption))).symm, rfl⟩)
 refine A1 ?_
 refine E1 rfl (hP) rfl rfl (fun h93 => ?_) (fun h93 => ?_)
 refine K2 ?_
 (exact ⟨rfl, congrArg Value.string (hvf (by rintro (h | ⟨h1, h2⟩) <;> first | omega | exact Bool.noConfusion (h1.symm.trans (show bp = false by assumption)) | (simp only [Ty.k] at h2; omega)) (by first | exact .inl (by omega) | exact .inr (by assumption))).symm, rfl⟩)
 refine D8 ?_
 refine sB (qE rfl rfl) rfl rfl (fun h118 => ?_) (fun h118 => ?_)
 refine D0 ?_
 (have hl1 := h14 (by omega); obtain ⟨bx, ox, e, rfl, hl, hat, hre, hgb⟩ := hsl.kidTm hkl (i := 0) (by omega) (by omega); have hih := ih ks[0] (List.getElem_mem (by omega)) G e hT (hkk _ (List.getElem_mem (by omega))) (hkv (by assumption) (by omega) _ (List.getElem_mem (by omega))) hre; refine sP (B8 (j := 0) rfl rfl rfl (by omega)) rfl rfl ?_)
 refine sL (A2 rfl rfl (hat _) hl) rfl rfl ?_
 refine I3 rfl (hih) rfl rfl ?_
 refine B4 ?_
 (exfalso; have h1 : bp = true := (by assumption); have h2 : bp = false := (by assumption); rw [h1] at h2; cases h2)
 refine J2 ?_
 refine I3 rfl ((hL (hleaf (by assumption) (by omega) (by omega) (by omega)))) rfl rfl ?_
 refine B1 ?_
 (exfalso; have h1 : bp = true := (by assumption); have h2 : bp = false := (by assumption); rw [h1] at h2; cases h2)
 refine I6 ?_
 refine sB (qE rfl rfl) rfl rfl (fun h170 => ?_) (fun h170 => ?_)
 refine V3 ?_
 (exact ⟨rfl, congrArg Value.string (hvf (by rintro (h | ⟨h1, h2⟩) <;> first | omega | exact Bool.noConfusion (h1.symm.trans (show bp = false by assumption)) | (simp only [Ty.k] at h2; omega)) (by first | exact .inl (by omega) | exact .inr (by assumption))).symm, rfl⟩)
 refine A1 ?_
 refine E1 rfl (hP) rfl rfl (fun h191 => ?_) (fun h191 => ?_)
 refine K2 ?_
 (exfalso; have h1 : bp = true := (by assumption); have h2 : bp = false := (by assumption); rw [h1] at h2; cases h2)
 refine D8 ?_
 refine sB (qE rfl rfl) rfl rfl (fun h216 => ?_) (fun h216 => ?_)
 refine D0 ?_
 (have hl1 := h14 (by omega); obtain ⟨bx, ox, e, rfl, hl, hat, hre, hgb⟩ := hsl.kidTm hkl (i := 0) (by omega) (by omega); have hih := ih ks[0] (List.getElem_mem (by omega)) G e hT (hkk _ (List.getElem_mem (by omega))) (hkv (by assumption) (by omega) _ (List.getElem_mem (by omega))) hre; refine sP (B8 (j := 0) rfl rfl rfl (by omega)) rfl rfl ?_)
 refine sL (A2 rfl rfl (hat _) hl) rfl rfl ?_
 refine I3 rfl (hih) rfl rfl ?_
 refine B4 ?_
 (exact ⟨rfl, congrArg Value.string (hvc (by assumption) (by omega) (by omega)).symm, rfl⟩)
 refine J2 ?_
 refine I3 rfl ((hL (hleaf (by assumption) (by omega) (by omega) (by omega)))) rfl rfl ?_
 refine B1 ?_
 (exact ⟨rfl, congrArg Value.string (hvl (by assumption) (by omega) (by omega) (by omega)).symm, rfl⟩)
theorem B8z (e : Tm) (fuel : Int) (G : IM) (cells : List Value) (hT : A1d G) (hr : A8 G e cells) : Fn Tryz.prog 22 [.agg ⟨cells⟩, .int .i64 fuel] [] G (A7w (Z8 e fuel) G) := by
 have hRl := hr.len
 have hRo := hr.one
 have hno := @B6n e fuel
 have hyv := fun u t => @A7x e u t fuel
 have hyn := fun u t => @A7y e u t fuel
 refine B7 Tryz.func22 rfl Tryz.ntmps22 Tryz.results22 rfl ?_
 intro w0
 refine A1 ?_
 refine sE (C7 rfl rfl) rfl (fun b3 => ?_)
 refine B4 ?_
 refine sL (A2 rfl rfl (B2 (by repeat first | exact mH | apply mT)) hRl) rfl rfl ?_
 focus (refine E7 rfl (B6l e G cells hr) rfl rfl (fun v G1 hle1 hh => ?_); obtain ⟨cu, ct, rfl, hru, hrt⟩ := hh; rcases hI : T6 e with _ | ⟨u, t⟩; rotate_left; rw [hI] at hru hrt; simp only [Option.getD_some] at hru hrt; rotate_left; rw [hI] at hru hrt; simp only [Option.getD_none] at hru hrt; simp only [Option.isSome]; rotate_left; simp only [Option.isSome]; rotate_left; all_goals (have hul := hru.len; have huo := hru.one; obtain ⟨p3, c3, e3, rfl, _⟩ := hrt.open))
 refine B3 ?_
 refine sE (B0 rfl) rfl (fun b17 => ?_)
 refine sE (B0 rfl) rfl (fun b18 => ?_)
 refine sS rfl rfl rfl hul huo rfl ?_ (hu := by exact C9 hul.symm)
 refine A0R ?_
 refine D1 (rT rfl) (rT rfl) (rT rfl) ?_
 (exact ⟨rfl, by rw [hno (by first | exact hI | rfl | assumption)]⟩)
 refine B3 ?_
 refine sE (B0 rfl) rfl (fun b47 => ?_)
 refine sE (B0 rfl) rfl (fun b48 => ?_)
 refine sS rfl rfl rfl hul huo rfl ?_ (hu := by exact C9 hul.symm)
 refine J7 ?_
 refine sL (A2 rfl rfl (B2 (by repeat first | exact mH | apply mT)) hul) rfl rfl ?_
 refine E8 ?_
 (have hyv := hyv u t hI; have hyn := hyn u t hI; have hev := @B6o u fuel; refine E7 rfl (B52 u fuel G1 cu hru) rfl rfl (fun v G2 hle2 hh => ?_); obtain ⟨wc, hvv, hrw⟩ := hh; have hwl := hrw.len; have hwo := hrw.one; generalize Q3 u fuel = r at hvv hrw hyv hyn hev; obtain ⟨w, c, l⟩ := r; simp only at hvv hrw hyv hyn hev; subst hvv)
 refine B3 ?_
 refine sE (B0 rfl) rfl (fun b73 => ?_)
 refine sS rfl rfl rfl hwl hwo rfl ?_ (hu := by exact C9 hwl.symm)
 refine D0 ?_
 refine sB (N7 rfl rfl) rfl rfl (fun h83 => ?_) (fun h83 => ?_)
 refine K2 ?_
 refine D1 (rT rfl) (rT rfl) (rT rfl) ?_
 (exact ⟨rfl, by rw [hyn (by omega)]⟩)
 refine B4 ?_
 refine sL (A2 rfl rfl (B2 (by repeat first | exact mH | apply mT)) hwl) rfl rfl ?_
 (obtain ⟨he1, he2, he3⟩ := hev (by omega); refine I3 rfl (B1R w G2 wc (hT.mono (hle1.trans hle2)) (A0Z he1).1 he2 hrw) rfl rfl ?_)
 refine D0 ?_
 refine D1 (rT rfl) (rT rfl) (rT rfl) ?_
 (obtain rfl : c = 0 := (by omega); subst he3; exact ⟨rfl, by rw [hyv rfl]⟩)
theorem B8A : ∀ (t : Tm) (G : IM) (cells : List Value), cv t → C5 t = true → A8 G t cells → Fn Tryz.prog 67 [.agg ⟨cells⟩] [] G (H8 (.string (X3 t)) G) := by
 refine Tm.ind fun k nm num ty fr lb ks ih G cells hc hv hr => ?_
 have hr0 := hr
 have hP := B1F _ G _ hr
 obtain ⟨hN, hkk⟩ := hc.node
 have hI := B1G (.mk k nm num ty fr lb ks) G _ hN.frA hr
 have hop := hN.ops
 have hnum0 := hN.num0
 have h14 : k = 14 → ks.length = 1 := fun h => by rw [h] at hop; have : C4 14 = 1 := rfl; omega
 have hvp := @B0U k nm num ty fr lb ks
 have hvf := @B0V k nm num ty fr lb ks
 have hvc := @A7u k nm num ty fr lb ks
 have hvl := @B0W k nm num ty fr lb ks
 have hvn := @A5w k nm num ty fr lb ks
 have hvy := @B1H k nm num ty fr lb ks
 have hprx := A1j k nm num ty fr lb ks
 have hinj := A4l k nm num ty fr lb ks
 have h5 : k ≠ 10 → Q1 (.mk k nm num ty fr lb ks) = false → inj (.mk k nm num ty fr lb ks) = false → k = 2 ∨ k = 3 ∨ k = 4 ∨ k = 5 := fun h1 h2 h3 => by
  have := hvn h1 h2 h3; rw [hv] at this; exact of_decide_eq_true this.symm
 have hdis : Q1 (.mk k nm num ty fr lb ks) = true → inj (.mk k nm num ty fr lb ks) = false := fun h => by
  rw [hprx] at h; have := of_decide_eq_true h; rw [hinj, decide_eq_false (by omega)]; rfl
 have hik : inj (.mk k nm num ty fr lb ks) = true → k = 14 := fun h => A5A h
 have hpk : Q1 (.mk k nm num ty fr lb ks) = true → k = 14 ∧ ty.k = fr.k := fun h => by rw [hprx] at h; have := of_decide_eq_true h; exact ⟨this.1, this.2.1.symm⟩
 have hkv := fun (h : inj (.mk k nm num ty fr lb ks) = true) => (hvy (.inr h) (h14 (hik h))).symm.trans hv
 obtain ⟨j, hj⟩ : ∃ j : Nat, num = j := ⟨num.toNat, by omega⟩
 have hdec := B8x j (by omega) G
 generalize hpx : Q1 (.mk k nm num ty fr lb ks) = bp at *
 generalize hij : inj (.mk k nm num ty fr lb ks) = bi at *
 subst hj
 obtain ⟨tk, tks⟩ := ty
 obtain ⟨fk, fks⟩ := fr
 obtain ⟨pt, ct, pf, cf, p, c, es, rfl, hk, hnum, hlb, hty, hfr, hsl, hkl⟩ := hr.open9
 refine B7 Tryz.func67 rfl Tryz.ntmps67 Tryz.results67 rfl ?_
 intro w0
 refine A1 ?_
 refine sE (C7 rfl rfl) rfl (fun b3 => ?_)
 refine B3 ?_
 refine C0 ?_
 refine B3 ?_
 refine sB (qE rfl rfl) rfl rfl (fun h13 => ?_) (fun h13 => ?_)
 refine D0 ?_
 refine I3 rfl (hdec) rfl rfl ?_
 refine B4 ?_
 (have hbp : bp = false := (by cases hb : bp with | false => rfl | true => (have := (hpk hb).1; omega)); refine ⟨rfl, congrArg Value.string ?_, rfl⟩; rw [hvl hbp (by omega) (by omega) (by omega)]; unfold A12; first | (rw [if_pos (by omega)]; rfl) | (rw [if_neg (by omega), if_pos (by omega)]; rfl) | (rw [if_neg (by omega), if_neg (by omega)]; rfl))
 refine D0 ?_
 refine sB (qE rfl rfl) rfl rfl (fun h39 => ?_) (fun h39 => ?_)
 refine J6 ?_
 (have hbp : bp = false := (by cases hb : bp with | false => rfl | true => (have := (hpk hb).1; omega)); refine ⟨rfl, congrArg Value.string ?_, rfl⟩; rw [hvl hbp (by omega) (by omega) (by omega)]; unfold A12; first | (rw [if_pos (by omega)]; rfl) | (rw [if_neg (by omega), if_pos (by omega)]; rfl) | (rw [if_neg (by omega), if_neg (by omega)]; rfl))
 refine D0 ?_
 refine sB (qE rfl rfl) rfl rfl (fun h62 => ?_) (fun h62 => ?_)
 refine J6 ?_
 (have hbp : bp = false := (by cases hb : bp with | false => rfl | true => (have := (hpk hb).1; omega)); refine ⟨rfl, congrArg Value.string ?_, rfl⟩; rw [hvl hbp (by omega) (by omega) (by omega)]; unfold A12; first | (rw [if_pos (by omega)]; rfl) | (rw [if_neg (by omega), if_pos (by omega)]; rfl) | (rw [if_neg (by omega), if_neg (by omega)]; rfl))
 refine D0 ?_
 refine sB (qE rfl rfl) rfl rfl (fun h85 => ?_) (fun h85 => ?_)
 refine A08 ?_
 (refine ⟨rfl, congrArg Value.string ?_, rfl⟩; rw [hvp (by first | exact .inl (by omega) | exact .inr ⟨by assumption, by have := (hpk (by assumption)).2; simp only [Ty.k] at this ⊢; omega⟩)]; rfl)
 refine A1 ?_
 refine E1 rfl (hP) rfl rfl (fun h112 => ?_) (fun h112 => ?_)
 refine B3 ?_
 refine sB (qE rfl rfl) rfl rfl (fun h117 => ?_) (fun h117 => ?_)
 refine I6 ?_
 (refine ⟨rfl, congrArg Value.string ?_, rfl⟩; rw [hvp (by first | exact .inl (by omega) | exact .inr ⟨by assumption, by have := (hpk (by assumption)).2; simp only [Ty.k] at this ⊢; omega⟩)]; rfl)
 refine D8 ?_
 refine E1 rfl (hI) rfl rfl (fun h143 => ?_) (fun h143 => ?_)
 refine D0 ?_
 (have hl1 := h14 (hik (by assumption)); obtain ⟨bx, ox, e, rfl, hl, hat, hre, hgb⟩ := hsl.kidTm hkl (i := 0) (by omega) (by omega); have hih := ih ks[0] (List.getElem_mem (by omega)) G e (hkk _ (List.getElem_mem (by omega))) (hkv (by assumption)) hre; refine sP (B8 (j := 0) rfl rfl rfl (by omega)) rfl rfl ?_)
 refine sL (A2 rfl rfl (hat _) hl) rfl rfl ?_
 refine I3 rfl (hih) rfl rfl ?_
 refine B4 ?_
 (have hbp : bp = false := (by cases hb : bp with | false => rfl | true => (have := hdis hb; have h9 : bi = true := (by assumption); rw [h9] at this; cases this)); refine ⟨rfl, congrArg Value.string ?_, rfl⟩; rw [hvc hbp (hik (by assumption)) (by omega)])
 refine K2 ?_
 (refine ⟨rfl, congrArg Value.string ?_, rfl⟩; rw [hvf (by rintro (h | ⟨h1, h2⟩) <;> first | omega | exact Bool.noConfusion (h1.symm.trans (show bp = false by assumption)) | (have := (hpk h1).2; simp only [Ty.k] at this h2; omega)) (by cases hb : bp with | true => exact .inr rfl | false => exact .inl (by have := h5 (by omega) hb (by assumption); omega))]; rfl)
 refine K2 ?_
 refine E1 rfl (hI) rfl rfl (fun h192 => ?_) (fun h192 => ?_)
 refine D0 ?_
 (have hl1 := h14 (hik (by assumption)); obtain ⟨bx, ox, e, rfl, hl, hat, hre, hgb⟩ := hsl.kidTm hkl (i := 0) (by omega) (by omega); have hih := ih ks[0] (List.getElem_mem (by omega)) G e (hkk _ (List.getElem_mem (by omega))) (hkv (by assumption)) hre; refine sP (B8 (j := 0) rfl rfl rfl (by omega)) rfl rfl ?_)
 refine sL (A2 rfl rfl (hat _) hl) rfl rfl ?_
 refine I3 rfl (hih) rfl rfl ?_
 refine B4 ?_
 (have hbp : bp = false := (by cases hb : bp with | false => rfl | true => (have := hdis hb; have h9 : bi = true := (by assumption); rw [h9] at this; cases this)); refine ⟨rfl, congrArg Value.string ?_, rfl⟩; rw [hvc hbp (hik (by assumption)) (by omega)])
 refine K2 ?_
 (refine ⟨rfl, congrArg Value.string ?_, rfl⟩; rw [hvf (by rintro (h | ⟨h1, h2⟩) <;> first | omega | exact Bool.noConfusion (h1.symm.trans (show bp = false by assumption)) | (have := (hpk h1).2; simp only [Ty.k] at this h2; omega)) (by cases hb : bp with | true => exact .inr rfl | false => exact .inl (by have := h5 (by omega) hb (by assumption); omega))]; rfl)
theorem B8B (k : Int) (ks : List Tm) : (T7 k ks).2.1 ≠ 0 := by
 unfold T7; split
 ·show (1 : Int) ≠ 0; decide
 ·show (2 : Int) ≠ 0; decide
mutual
theorem B1S : ∀ e : Tm, (H3 e).2.1 ≠ 0
 | .mk k nm num ty fr lb ks => by
  rw [H3]
  split
  ·rename_i h
   split
   ·show (1 : Int) ≠ 0; decide
   ·exact B1T _ ks _ _ _ h
  ·exact B8B _ _
theorem B1T : ∀ (n : Nat) (ks us : List Tm) (c l : Int), V5 n ks = some (us, c, l) → c ≠ 0
 | _, [], us, c, l, h => by rw [V5] at h; cases h
 | 0, t :: ts, us, c, l, h => by rw [V5] at h; cases h
 | n + 1, t :: ts, us, c, l, h => by
  rw [V5] at h
  split at h
  ·split at h
   ·rename_i h1; cases h; exact B1T n ts _ _ _ h1
   ·cases h
  ·cases h; exact B1S t
end
theorem B1U {e : Tm} (h : (F0 e).2.1 = 0) : P0 (F0 e).1 = true ∧ C5 (F0 e).1 = true := by
 unfold F0 at h ⊢
 split at h
 ·simp at h
 ·split at h
  ·rename_i h1 h2; rw [if_neg h1, if_pos h2]; exact ⟨by simpa using h1, h2⟩
  ·split at h
   ·exact absurd h (B1S e)
   ·split at h <;> simp at h
theorem B1V : ∀ (n : Nat) (e : Tm), (I1 n e).2.1 = 0 → P0 (I1 n e).1 = true ∧ C5 (I1 n e).1 = true
 | 0, e, h => by
  rw [I1] at h ⊢
  by_cases h1 : (F0 e).2.1 = 1
  ·rw [if_pos h1] at h; simp at h
  ·rw [if_neg h1] at h ⊢; exact B1U h
 | n + 1, e, h => by
  rw [I1] at h ⊢
  by_cases h1 : (F0 e).2.1 = 1
  ·rw [if_pos h1] at h ⊢; exact B1V n _ h
  ·rw [if_neg h1] at h ⊢; exact B1U h
theorem B1W {e : Tm} {fuel : Int} (h : (U5 e fuel).2.1 = 0) : P0 (U5 e fuel).1 = true ∧ C5 (U5 e fuel).1 = true := by
 cases hf : Q0 fuel 0 300 with
 | false => rw [A7P hf] at h; simp at h
 | true => rw [A5Q hf] at h ⊢; exact B1V _ _ h
theorem B8C {e : Tm} {fuel : Int} (h : Q0 fuel 0 300 = true) (h1 : (R8 fuel.toNat e).2.1 = 1) : U5 e fuel = (E2, 5, 0) := by
 rw [A5Q h, B08 _ _ h1]
theorem B8D {e : Tm} {fuel : Int} (h : Q0 fuel 0 300 = true) (h1 : (R8 fuel.toNat e).2.1 ≠ 1) : U5 e fuel = ((R8 fuel.toNat e).1, (R8 fuel.toNat e).2.1, (R8 fuel.toNat e).2.2.1) := by
 rw [A5Q h, B09 _ _ h1]
theorem B1X {e : Tm} (h : (M8 e || J1 e) = true) : A3s e = (H4 e, true) := by
 unfold A3s; rw [if_pos (by simpa using h)]
theorem B1Y {e : Tm} (h : (M8 e || J1 e) = false) : A3s e = (E2, false) := by
 unfold A3s; rw [if_neg (by simpa using h)]
theorem B8E (e : Tm) (n : Nat) (hn : n ≤ 300) (G : IM) (cells : List Value) (hr : A8 G e cells) : Fn Tryz.prog 135 [.agg ⟨cells⟩, .int .i64 (n : Int)] [] G (EvP (R8 n e)) := by
 have hRl := hr.len
 have hRo := hr.one
 refine B7 Tryz.func135 rfl Tryz.ntmps135 Tryz.results135 rfl ?_
 intro w0
 refine A1 ?_
 refine sE (C7 rfl rfl) rfl (fun b3 => ?_)
 refine sE (B0 rfl) rfl (fun b4 => ?_)
 refine J2 ?_
 refine C0 ?_
 (refine L9 (fun (x : Nat × Tm × List Value × IM) => ⟨[(8, .int .i64 (x.1 : Int)), (1, .int .i64 (n : Int)), (2, .pointer (some ⟨b3, 0, none⟩)), (4, .pointer (some ⟨b4, 0, none⟩))], [.blk b3 x.2.2.1, .blk b4 [.int .i64 0, .string ⟨⟨[]⟩⟩, .int .i64 0, .int .i64 0, .slice none 0 0, .int .i64 0, .slice none 0 0, .int .i64 0, .slice none 0 0]], x.2.2.2⟩) (fun x => x.1 ≤ n ∧ C2 G x.2.2.2 ∧ A8 x.2.2.2 x.2.1 x.2.2.1 ∧ W4 x.1 (R8 (n - x.1) x.2.1) = R8 n e) (fun x => n - x.1) (0, e, cells, G) ?_ ?_ ?_)
 (simp only [I7]; exact D5)
 (exact ⟨Nat.zero_le _, C2.refl _, hr, rfl⟩)
 (rintro ⟨i, u, uc, Gi⟩ ⟨hi, hle, hru, hev⟩; simp only [] at hi hle hru hev ⊢; have hul := hru.len; have huo := hru.one)
 refine tS ?_
 refine C0 ?_
 refine A1 ?_
 refine sL (A2 rfl rfl (B2 (by repeat first | exact mH | apply mT)) hul) rfl rfl ?_
 (refine E7 rfl (B7C u Gi uc hru) rfl rfl (fun v G1 hle1 hh => ?_); obtain ⟨wc, hv, hrw⟩ := hh; have hwl := hrw.len; have hwo := hrw.one; have hend := @B6y (n - i) i u; have hgo := @B6z (n - i) i u; generalize F0 u = r at hv hrw hend hgo; obtain ⟨w, c, l⟩ := r; simp only at hv hrw hend hgo; subst hv)
 refine B3 ?_
 refine sE (B0 rfl) rfl (fun b30 => ?_)
 refine sS rfl rfl rfl hwl hwo rfl ?_ (hu := by exact C9 hwl.symm)
 refine D0 ?_
 refine sB (N7 rfl rfl) rfl rfl (fun h40 => ?_) (fun h40 => ?_)
 refine J2 ?_
 refine sL (A2 rfl rfl (B2 (by repeat first | exact mH | apply mT)) hwl) rfl rfl ?_
 refine B6 ?_
 refine sS rfl rfl rfl hwl hwo rfl ?_ (hu := by exact C9 hwl.symm)
 refine J4 ?_
 refine A2R (rC rfl (A2 rfl rfl (B2 (by repeat first | exact mH | apply mT)) hwl)) (rT rfl) (rT rfl) (rT rfl) ?_
 (exact EvP.mk (by rw [← hev]; exact hend (by omega)) hrw)
 refine B6 ?_
 refine sB (qE rfl rfl) rfl rfl (fun h72 => ?_) (fun h72 => ?_)
 refine A7 ?_
 refine sL (A2 rfl rfl (B2 (by repeat first | exact mH | apply mT)) hwl) rfl rfl ?_
 refine B6 ?_
 refine sS rfl rfl rfl hwl hwo rfl ?_ (hu := by exact C9 hwl.symm)
 refine J4 ?_
 refine A2R (rC rfl (A2 rfl rfl (B2 (by repeat first | exact mH | apply mT)) hwl)) (rT rfl) (rT rfl) (rT rfl) ?_
 (exact EvP.mk (by rw [← hev]; exact hend (by omega)) hrw)
 refine B4 ?_
 refine sL (A2 rfl rfl (B2 (by repeat first | exact mH | apply mT)) hwl) rfl rfl ?_
 refine Y4 rfl rfl rfl hwl hwo rfl (by repeat first | exact Sw.here | apply Sw.there) (by exact C9 (hul.trans hwl.symm)) ?_
 refine B1 ?_
 refine sP (K5 rfl rfl (by omega) (by omega)) rfl rfl ?_
 refine A1 ?_
 refine L0 (i + 1, w, wc, G1) ?_ ?_ ?_
 (simp only [I7]; exact D5)
 (dsimp only; exact ⟨by omega, hle.trans hle1, hrw, by rw [← hev, hgo (by omega) (by omega), show n - (i + 1) = n - i - 1 by omega]⟩)
 (show n - (i + 1) < n - i; omega)
theorem B8F (e : Tm) (fuel : Int) (G : IM) (cells : List Value) (hr : A8 G e cells) : Fn Tryz.prog 64 [.agg ⟨cells⟩, .int .i64 fuel] [] G (K9 (U5 e fuel)) := by
 have hRl := hr.len
 have hRo := hr.one
 have hno := @A7P e fuel
 have hmu := @B8C e fuel
 have hen := @B8D e fuel
 refine B7 Tryz.func64 rfl Tryz.ntmps64 Tryz.results64 rfl ?_
 intro w0
 refine A1 ?_
 refine sE (C7 rfl rfl) rfl (fun b3 => ?_)
 refine sE (B0 rfl) rfl (fun b4 => ?_)
 refine D0 ?_
 refine E1 rfl ((B0z fuel _)) rfl rfl (fun h13 => ?_) (fun h13 => ?_)
 refine D0 ?_
 refine sL (A2 rfl rfl (B2 (by repeat first | exact mH | apply mT)) hRl) rfl rfl ?_
 refine E8 ?_
 (have hf : Q0 fuel 0 300 = true := (by assumption); have hf2 := A24 hf; have hE := B8E e fuel.toNat (by omega) G cells hr; rw [Int.toNat_of_nonneg hf2.1] at hE; refine E7 rfl hE rfl rfl (fun v G1 hle1 hh => ?_); obtain ⟨wc, hv, hrw⟩ := hh; have hwl := hrw.len; have hwo := hrw.one; have hmu := hmu hf; have hen := hen hf; generalize R8 fuel.toNat e = r at hv hrw hmu hen; obtain ⟨w, c, l, i⟩ := r; simp only at hv hrw hmu hen; subst hv)
 refine B1 ?_
 refine sE (B0 rfl) rfl (fun b30 => ?_)
 refine sS rfl rfl rfl hwl hwo rfl ?_ (hu := by exact C9 hwl.symm)
 refine D8 ?_
 refine sB (qE rfl rfl) rfl rfl (fun h41 => ?_) (fun h41 => ?_)
 refine J6 ?_
 refine D1 (rC rfl (A4 rfl rfl)) (rT rfl) (rT rfl) ?_
 (exact K9.mk (hmu (by omega)) (M1 _))
 refine B4 ?_
 refine sL (A2 rfl rfl (B2 (by repeat first | exact mH | apply mT)) hwl) rfl rfl ?_
 refine A1 ?_
 refine sS rfl rfl rfl hwl hwo rfl ?_ (hu := by exact C9 hwl.symm)
 refine B1 ?_
 refine D1 (rC rfl (A2 rfl rfl (B2 (by repeat first | exact mH | apply mT)) hwl)) (rT rfl) (rT rfl) ?_
 (exact K9.mk (hen (by omega)) hrw)
 refine K2 ?_
 refine D1 (rC rfl (A4 rfl rfl)) (rT rfl) (rT rfl) ?_
 (exact K9.mk (hno (by assumption)) (M1 _))
theorem B8G (e : Tm) (fuel : Int) (G : IM) (cells : List Value) (hT : A1d G) (hts : e.small) (hr : A8 G e cells) : Fn Tryz.prog 20 [.agg ⟨cells⟩, .int .i64 fuel] [] G (A7w (A0O e fuel) G) := by
 have hRl := hr.len
 have hRo := hr.one
 have hno := @B1B e fuel
 have hyv := @A7N e fuel
 have hyn := @A4w e fuel
 have hB := B8j e G cells hts hr
 have hby := @B1X e
 have hbn := @B1Y e
 generalize (M8 e || J1 e) = ok at hno hyv hyn hby hbn
 cases ok
 ·have hno := hno rfl
  rw [hbn rfl] at hB
  refine B7 Tryz.func20 rfl Tryz.ntmps20 Tryz.results20 rfl ?_
  intro w0
  refine A1 ?_
  refine sE (C7 rfl rfl) rfl (fun b3 => ?_)
  refine B4 ?_
  refine sL (A2 rfl rfl (B2 (by repeat first | exact mH | apply mT)) hRl) rfl rfl ?_
  (refine E7 rfl hB rfl rfl (fun v G1 hle1 hh => ?_); obtain ⟨bc, F1, rfl, hs1, hn1⟩ := hh; have hul := hs1.R.len; have huo := hs1.R.one)
  refine B6 ?_
  refine sE (B0 rfl) rfl (fun b16 => ?_)
  refine sS rfl rfl rfl hul huo rfl ?_ (hu := by exact C9 hul.symm)
  refine A0x ?_
  refine D1 (rT rfl) (rT rfl) (rT rfl) ?_
  (exact ⟨rfl, by rw [hno]⟩)
 ·have hyv := hyv rfl
  have hyn := hyn rfl
  rw [hby rfl] at hB
  have hev := @B1W (H4 e) fuel
  refine B7 Tryz.func20 rfl Tryz.ntmps20 Tryz.results20 rfl ?_
  intro w0
  refine A1 ?_
  refine sE (C7 rfl rfl) rfl (fun b3 => ?_)
  refine B4 ?_
  refine sL (A2 rfl rfl (B2 (by repeat first | exact mH | apply mT)) hRl) rfl rfl ?_
  (refine E7 rfl hB rfl rfl (fun v G1 hle1 hh => ?_); obtain ⟨bc, F1, rfl, hs1, hn1⟩ := hh; have hul := hs1.R.len; have huo := hs1.R.one)
  refine B6 ?_
  refine sE (B0 rfl) rfl (fun b16 => ?_)
  refine sS rfl rfl rfl hul huo rfl ?_ (hu := by exact C9 hul.symm)
  refine I6 ?_
  refine sL (A2 rfl rfl (B2 (by repeat first | exact mH | apply mT)) hul) rfl rfl ?_
  refine E8 ?_
  (refine E7 rfl (B8F (H4 e) fuel G1 bc (hs1.R.mono (C8.le _ _))) rfl rfl (fun v G2 hle2 hh => ?_); obtain ⟨wc, hvv, hrw⟩ := hh; have hwl := hrw.len; have hwo := hrw.one; generalize U5 (H4 e) fuel = r at hvv hrw hyv hyn hev; obtain ⟨w, c, l⟩ := r; simp only at hvv hrw hyv hyn hev; subst hvv)
  refine B3 ?_
  refine sE (B0 rfl) rfl (fun b40 => ?_)
  refine sS rfl rfl rfl hwl hwo rfl ?_ (hu := by exact C9 hwl.symm)
  refine D0 ?_
  refine sB (N7 rfl rfl) rfl rfl (fun h50 => ?_) (fun h50 => ?_)
  refine K2 ?_
  refine D1 (rT rfl) (rT rfl) (rT rfl) ?_
  (exact ⟨rfl, by rw [hyn (by omega)]⟩)
  refine B4 ?_
  refine sL (A2 rfl rfl (B2 (by repeat first | exact mH | apply mT)) hwl) rfl rfl ?_
  (obtain ⟨he1, he2⟩ := hev (by omega); refine I3 rfl (B1R w G2 wc (hT.mono (hle1.trans hle2)) (A0Z (A01 he1).1).1 he2 hrw) rfl rfl ?_)
  refine D0 ?_
  refine D1 (rT rfl) (rT rfl) (rT rfl) ?_
  (obtain rfl : c = 0 := (by omega); exact ⟨rfl, by rw [hyv rfl]⟩)
theorem B8H (e : Tm) (fuel : Int) (G : IM) (cells : List Value) (hts : e.small) (hcnt : D2 e ≤ 4294967296) (hr : A8 G e cells) : Fn Tryz.prog 21 [.agg ⟨cells⟩, .int .i64 fuel] [] G (A7w (A0O e fuel) G) := by
 have hRl := hr.len
 have hRo := hr.one
 have hno := @B1B e fuel
 have hyv := @A7N e fuel
 have hyn := @A4w e fuel
 have hB := B8m e G cells hts hcnt hr
 have hby := @B1X e
 have hbn := @B1Y e
 generalize (M8 e || J1 e) = ok at hno hyv hyn hby hbn
 cases ok
 ·have hno := hno rfl
  rw [hbn rfl] at hB
  refine B7 Tryz.func21 rfl Tryz.ntmps21 Tryz.results21 rfl ?_
  intro w0
  refine A1 ?_
  refine sE (C7 rfl rfl) rfl (fun b3 => ?_)
  refine B4 ?_
  refine sL (A2 rfl rfl (B2 (by repeat first | exact mH | apply mT)) hRl) rfl rfl ?_
  (refine E7 rfl hB rfl rfl (fun v G1 hle1 hh => ?_); obtain ⟨bc, F1, rfl, hs1, hn1⟩ := hh; have hul := hs1.R.len; have huo := hs1.R.one)
  refine B6 ?_
  refine sE (B0 rfl) rfl (fun b16 => ?_)
  refine sS rfl rfl rfl hul huo rfl ?_ (hu := by exact C9 hul.symm)
  refine A0x ?_
  refine D1 (rT rfl) (rT rfl) (rT rfl) ?_
  (exact ⟨rfl, by rw [hno]⟩)
 ·have hyv := hyv rfl
  have hyn := hyn rfl
  rw [hby rfl] at hB
  have hev := @B1W (H4 e) fuel
  have hbc := (A49 e hts).2
  refine B7 Tryz.func21 rfl Tryz.ntmps21 Tryz.results21 rfl ?_
  intro w0
  refine A1 ?_
  refine sE (C7 rfl rfl) rfl (fun b3 => ?_)
  refine B4 ?_
  refine sL (A2 rfl rfl (B2 (by repeat first | exact mH | apply mT)) hRl) rfl rfl ?_
  (refine E7 rfl hB rfl rfl (fun v G1 hle1 hh => ?_); obtain ⟨bc, F1, rfl, hs1, hn1⟩ := hh; have hul := hs1.R.len; have huo := hs1.R.one)
  refine B6 ?_
  refine sE (B0 rfl) rfl (fun b16 => ?_)
  refine sS rfl rfl rfl hul huo rfl ?_ (hu := by exact C9 hul.symm)
  refine I6 ?_
  refine sL (A2 rfl rfl (B2 (by repeat first | exact mH | apply mT)) hul) rfl rfl ?_
  refine E8 ?_
  (refine E7 rfl (B8e (H4 e) fuel G1 bc (by omega) (hs1.R.mono (C8.le _ _))) rfl rfl (fun v G2 hle2 hh => ?_); obtain ⟨wc, hvv, hrw⟩ := hh; have hwl := hrw.len; have hwo := hrw.one; generalize U5 (H4 e) fuel = r at hvv hrw hyv hyn hev; obtain ⟨w, c, l⟩ := r; simp only at hvv hrw hyv hyn hev; subst hvv)
  refine B3 ?_
  refine sE (B0 rfl) rfl (fun b40 => ?_)
  refine sS rfl rfl rfl hwl hwo rfl ?_ (hu := by exact C9 hwl.symm)
  refine D0 ?_
  refine sB (N7 rfl rfl) rfl rfl (fun h50 => ?_) (fun h50 => ?_)
  refine K2 ?_
  refine D1 (rT rfl) (rT rfl) (rT rfl) ?_
  (exact ⟨rfl, by rw [hyn (by omega)]⟩)
  refine B4 ?_
  refine sL (A2 rfl rfl (B2 (by repeat first | exact mH | apply mT)) hwl) rfl rfl ?_
  (obtain ⟨he1, he2⟩ := hev (by omega); refine I3 rfl (B8A w G2 wc (A0Z (A01 he1).1).1 he2 hrw) rfl rfl ?_)
  refine D0 ?_
  refine D1 (rT rfl) (rT rfl) (rT rfl) ?_
  (obtain rfl : c = 0 := (by omega); exact ⟨rfl, by rw [hyv rfl]⟩)
inductive Tg where
 | i | b | f | p
def Tg.ty : Tg → GT
 | .i => .int
 | .b => .bool
 | .f => .fn .any .any
 | .p => .pr .any .any
theorem Tg.inj {s t : Tg} (h : s.ty = t.ty) : s = t := by cases s <;> cases t <;> first | rfl | cases h
theorem Tg.na (t : Tg) : t.ty ≠ .any := by cases t <;> (intro h; cases h)
theorem Tg.grd (t : Tg) : t.ty.gr = t.ty := by cases t <;> rfl
inductive DM where
 | a
 | r (t : Tg)
 | c (t : Tg)
def GE.dy : GE → DM → Prop
 | .var _, m => m = .a
 | .num _, m => m = .r .i ∨ m = .c .i
 | .tru _, m => m = .r .b ∨ m = .c .b
 | .lam _ A e, m => (m = .r .f ∨ m = .c .f) ∧ A = .any ∧ e.dy .a
 | .app f x, m => m = .a ∧ f.dy (.c .f) ∧ x.dy .a
 | .ar s x y, m => m = .r (if s = true then .b else .i) ∧ x.dy (.c .i) ∧ y.dy (.c .i)
 | .ite c x y, m => m = .a ∧ c.dy (.c .b) ∧ x.dy .a ∧ y.dy .a
 | .pair x y, m => (m = .r .p ∨ m = .c .p) ∧ x.dy .a ∧ y.dy .a
 | .part _ e, m => m = .a ∧ e.dy (.c .p)
 | .cast A B _ e, m => (m = .a ∧ B = .any ∧ ∃ t : Tg, A = t.ty ∧ e.dy (.r t)) ∨ ∃ t : Tg, m = .c t ∧ A = .any ∧ B = t.ty ∧ e.dy .a
theorem B8I {x : ByteArray} {v : GE} (hv : v.dy .a) : ∀ (e : GE) (m : DM), e.dy m → (e.sub x v).dy m := by
 intro e
 induction e with
 | var y => intro m h; rw [GE.sub]; split; exact (show m = .a from h) ▸ hv; exact h
 | num n => intro m h; exact h
 | tru b => intro m h; exact h
 | lam y A e i => intro m h; rw [GE.sub]; split; exact h; exact ⟨h.1, h.2.1, i _ h.2.2⟩
 | app f a i j => intro m h; exact ⟨h.1, i _ h.2.1, j _ h.2.2⟩
 | ar s a b i j => intro m h; exact ⟨h.1, i _ h.2.1, j _ h.2.2⟩
 | ite c a b i j k => intro m h; exact ⟨h.1, i _ h.2.1, j _ h.2.2.1, k _ h.2.2.2⟩
 | pair a b i j => intro m h; exact ⟨h.1, i _ h.2.1, j _ h.2.2⟩
 | part s e i => intro m h; exact ⟨h.1, i _ h.2⟩
 | cast A B l e i =>
  intro m h
  rcases h with ⟨h1, h2, t, h3, h4⟩ | ⟨t, h1, h2, h3, h4⟩
  ·exact .inl ⟨h1, h2, t, h3, i _ h4⟩
  ·exact .inr ⟨t, h1, h2, h3, i _ h4⟩
theorem B1Z {v : GE} {t : Tg} (hv : GV v) (h : v.dy (.r t)) : v.dy (.c t) := by
 cases hv with
 | num => rcases h with h | h <;> cases h; exact .inr rfl
 | tru => rcases h with h | h <;> cases h; exact .inr rfl
 | lam => obtain ⟨h, h2⟩ := h; rcases h with h | h <;> cases h; exact ⟨.inr rfl, h2⟩
 | pair _ _ => obtain ⟨h, h2⟩ := h; rcases h with h | h <;> cases h; exact ⟨.inr rfl, h2⟩
 | pf _ => rcases h with ⟨h, _⟩ | ⟨_, h, _⟩ <;> cases h
 | pp _ => rcases h with ⟨h, _⟩ | ⟨_, h, _⟩ <;> cases h
 | inj _ _ => rcases h with ⟨h, _⟩ | ⟨_, h, _⟩ <;> cases h
theorem B8J {e r : GE} (h : GS e r) : ∀ {m : DM}, e.dy m → r.dy m := by
 induction h with
 | app1 _ i => exact fun h => ⟨h.1, i h.2.1, h.2.2⟩
 | app2 _ _ i => exact fun h => ⟨h.1, h.2.1, i h.2.2⟩
 | ar1 _ i => exact fun h => ⟨h.1, i h.2.1, h.2.2⟩
 | ar2 _ _ i => exact fun h => ⟨h.1, h.2.1, i h.2.2⟩
 | ite1 _ i => exact fun h => ⟨h.1, i h.2.1, h.2.2⟩
 | pair1 _ i => exact fun h => ⟨h.1, i h.2.1, h.2.2⟩
 | pair2 _ _ i => exact fun h => ⟨h.1, h.2.1, i h.2.2⟩
 | part1 _ i => exact fun h => ⟨h.1, i h.2⟩
 | cast1 _ i =>
  intro m h
  rcases h with ⟨h1, h2, t, h3, h4⟩ | ⟨t, h1, h2, h3, h4⟩
  ·exact .inl ⟨h1, h2, t, h3, i h4⟩
  ·exact .inr ⟨t, h1, h2, h3, i h4⟩
 | beta v =>
  intro m h
  obtain ⟨rfl, ⟨_, _, h2⟩, h3⟩ := h
  exact B8I h3 _ _ h2
 | appx _ _ =>
  intro m h
  rcases h.2.1 with ⟨h, _⟩ | ⟨_, _, h, _⟩ <;> cases h
 | @ar s m n =>
  intro m' h
  unfold A1r
  cases s
  ·exact .inl h.1
  ·exact .inl h.1
 | @ite b x y =>
  intro m h
  obtain ⟨rfl, _, h2, h3⟩ := h
  split <;> assumption
 | @part s a b _ _ =>
  intro m h
  obtain ⟨rfl, _, h2, h3⟩ := h
  split <;> assumption
 | partx _ =>
  intro m h
  rcases h.2 with ⟨h, _⟩ | ⟨_, _, h, _⟩ <;> cases h
 | cid _ _ =>
  intro m h
  rcases h with ⟨_, h, t, h3, _⟩ | ⟨t, _, h, h3, _⟩
  ·exact (t.na (h3.symm.trans h)).elim
  ·exact (t.na (h3.symm.trans h)).elim
 | up _ h1 h2 =>
  intro m h
  rcases h with ⟨_, h, t, h3, _⟩ | ⟨t, _, h, h3, _⟩
  ·exact (h2 (by rw [h3]; exact t.grd)).elim
  ·exact (h1 h).elim
 | down _ h1 h2 =>
  intro m h
  rcases h with ⟨_, h, t, h3, _⟩ | ⟨t, _, h, h3, _⟩
  ·exact (h1 h).elim
  ·exact (h2 (by rw [h3]; exact t.grd)).elim
 | hit v hg =>
  intro m h
  rcases h with ⟨_, h, _⟩ | ⟨t, rfl, _, h3, h4⟩
  ·exact (hg.1 h).elim
  ·rcases h4 with ⟨_, _, t', h5, h6⟩ | ⟨_, h, _⟩
   ·obtain rfl := Tg.inj (h3.symm.trans h5)
    exact B1Z v h6
   ·cases h
def GE.evc : GE → Prop
 | .var _ => False
 | .num _ => True
 | .tru _ => True
 | .lam _ _ _ => True
 | .app f a => f.evc ∧ a.evc
 | .ar _ a b => a.evc ∧ b.evc
 | .ite c _ _ => c.evc
 | .pair a b => a.evc ∧ b.evc
 | .part _ e => e.evc
 | .cast _ _ _ e => e.evc
theorem B8K {Γ : GC} {e e' : GE} {A A' : GT} (h : GP Γ e e' A A') : Γ = N3 → e.evc := by
 induction h with
 | var hx _ => intro hE; subst hE; cases hx
 | num => intro _; trivial
 | tru => intro _; trivial
 | lam _ _ _ => intro _; trivial
 | app _ _ i j => exact fun h => ⟨i h, j h⟩
 | ar _ _ i j => exact fun h => ⟨i h, j h⟩
 | ite _ _ _ i _ _ => exact i
 | pair _ _ i j => exact fun h => ⟨i h, j h⟩
 | part _ i => exact i
 | castL _ _ _ i => exact i
 | castR _ _ _ i => exact i
 | castB _ _ _ _ i => exact i
def GE.tg : GE → Option Tg
 | .num _ => some .i
 | .tru _ => some .b
 | .lam _ _ _ => some .f
 | .pair _ _ => some .p
 | _ => none
def Vl (e : GE) : Prop := ∃ w, Ss e w ∧ GV w
def Rs (t : Tg) (e : GE) : Prop := ∃ w, Ss e w ∧ GV w ∧ w.tg = some t
theorem Rs.vl {t : Tg} {e : GE} (h : Rs t e) : Vl e := by obtain ⟨w, h1, h2, _⟩ := h; exact ⟨w, h1, h2⟩
theorem B10 {e w : GE} (h : Ss e w) : GV w → ∀ {f a : GE}, f.nt → e = .app f a → Rs .f f ∧ Vl a := by
 induction h with
 | refl => intro hv f a _ he; subst he; cases hv
 | step s _ i =>
  intro hv f a hn he
  subst he
  cases s with
  | app1 s =>
   obtain ⟨⟨w, h1, h2, h3⟩, h4⟩ := i hv (A3q s hn).2 rfl
   exact ⟨⟨w, .step s h1, h2, h3⟩, h4⟩
  | app2 _ s =>
   obtain ⟨h1, w, h2, h3⟩ := i hv hn rfl
   exact ⟨h1, w, .step s h2, h3⟩
  | beta v => exact ⟨⟨_, .refl, .lam, rfl⟩, _, .refl, v⟩
  | appx _ _ => exact hn.elim
theorem B11 {e w : GE} (h : Ss e w) : GV w → ∀ {s : Bool} {x y : GE}, e = .ar s x y → Rs .i x ∧ Rs .i y := by
 induction h with
 | refl => intro hv s x y he; subst he; cases hv
 | step s _ i =>
  intro hv s x y he
  subst he
  cases s with
  | ar1 s =>
   obtain ⟨⟨w, h1, h2, h3⟩, h4⟩ := i hv rfl
   exact ⟨⟨w, .step s h1, h2, h3⟩, h4⟩
  | ar2 _ s =>
   obtain ⟨h4, w, h1, h2, h3⟩ := i hv rfl
   exact ⟨h4, w, .step s h1, h2, h3⟩
  | ar => exact ⟨⟨_, .refl, .num, rfl⟩, _, .refl, .num, rfl⟩
theorem B8L {e w : GE} (h : Ss e w) : GV w → ∀ {c x y : GE}, e = .ite c x y → Rs .b c := by
 induction h with
 | refl => intro hv c x y he; subst he; cases hv
 | step s _ i =>
  intro hv c x y he
  subst he
  cases s with
  | ite1 s =>
   obtain ⟨w, h1, h2, h3⟩ := i hv rfl
   exact ⟨w, .step s h1, h2, h3⟩
  | ite => exact ⟨_, .refl, .tru, rfl⟩
theorem B12 {e w : GE} (h : Ss e w) : GV w → ∀ {x y : GE}, e = .pair x y → Vl x ∧ Vl y := by
 induction h with
 | refl => intro hv x y he; subst he; cases hv with | pair h1 h2 => exact ⟨⟨_, .refl, h1⟩, _, .refl, h2⟩
 | step s _ i =>
  intro hv x y he
  subst he
  cases s with
  | pair1 s =>
   obtain ⟨⟨w, h1, h2⟩, h4⟩ := i hv rfl
   exact ⟨⟨w, .step s h1, h2⟩, h4⟩
  | pair2 _ s =>
   obtain ⟨h4, w, h1, h2⟩ := i hv rfl
   exact ⟨h4, w, .step s h1, h2⟩
theorem B8M {e w : GE} (h : Ss e w) : GV w → ∀ {s : Bool} {x : GE}, x.nt → e = .part s x → Rs .p x := by
 induction h with
 | refl => intro hv s x _ he; subst he; cases hv
 | step s _ i =>
  intro hv s x hn he
  subst he
  cases s with
  | part1 s =>
   obtain ⟨w, h1, h2, h3⟩ := i hv (A3q s hn).2 rfl
   exact ⟨w, .step s h1, h2, h3⟩
  | part v v2 => exact ⟨_, .refl, .pair v v2, rfl⟩
  | partx _ => exact hn.elim
theorem B8N {v w : GE} (hv : GV v) (h : Ss v w) : w = v := by
 cases h with
 | refl => rfl
 | step s _ => exact (hv.noS _ s).elim
def Nv : DM → GE → Prop
 | .a, e => ¬Vl e.er
 | .r _, e => ¬Vl e.er
 | .c t, e => ¬Rs t e.er
theorem A2u {m : DM} {e : GE} (h : ¬Vl e.er) : Nv m e := by
 cases m with
 | a => exact h
 | r t => exact h
 | c t => exact fun hr => h hr.vl
theorem A3u {v : GE} {t : Tg} (hv : GV v) (h : v.dy (.c t)) : v.tg = some t := by
 cases hv with
 | num => rcases h with h | h <;> cases h; rfl
 | tru => rcases h with h | h <;> cases h; rfl
 | lam => obtain ⟨h, h2⟩ := h; rcases h with h | h <;> cases h; rfl
 | pair _ _ => obtain ⟨h, h2⟩ := h; rcases h with h | h <;> cases h; rfl
 | pf _ => rcases h with ⟨h, _⟩ | ⟨_, _, h, _⟩ <;> cases h
 | pp _ => rcases h with ⟨h, _⟩ | ⟨_, _, h, _⟩ <;> cases h
 | inj _ _ =>
  rcases h with ⟨h, _⟩ | ⟨t', _, _, h, _⟩
  ·cases h
  ·exact (t'.na h.symm).elim
theorem B8O {v : GE} (hv : GV v) (h : v.dy .a) : ∃ (t : Tg) (l : Int) (w : GE), v = .cast t.ty .any l w ∧ GV w ∧ w.dy (.r t) := by
 cases hv with
 | num => rcases h with h | h <;> cases h
 | tru => rcases h with h | h <;> cases h
 | lam => obtain ⟨h, h2⟩ := h; rcases h with h | h <;> cases h
 | pair _ _ => obtain ⟨h, h2⟩ := h; rcases h with h | h <;> cases h
 | pf _ => rcases h with ⟨_, h, _⟩ | ⟨_, h, _⟩ <;> cases h
 | pp _ => rcases h with ⟨_, h, _⟩ | ⟨_, h, _⟩ <;> cases h
 | inj hv _ =>
  rcases h with ⟨_, _, t, rfl, h⟩ | ⟨_, h, _⟩
  ·exact ⟨t, _, _, rfl, hv, h⟩
  ·cases h
theorem B8P {v : GE} {t : Tg} (h : v.tg = some t) : v.er.tg = some t := by
 cases v <;> first | exact h | cases h
theorem B13 {v : GE} (h : v.tg = some .i) : ∃ n, v = .num n := by cases v <;> first | exact ⟨_, rfl⟩ | cases h
theorem B8Q {v : GE} (h : v.tg = some .b) : ∃ n, v = .tru n := by cases v <;> first | exact ⟨_, rfl⟩ | cases h
theorem B8R {v : GE} (h : v.tg = some .f) : ∃ x A e, v = .lam x A e := by cases v <;> first | exact ⟨_, _, _, rfl⟩ | cases h
theorem B8S {v : GE} (h : v.tg = some .p) : ∃ a b, v = .pair a b := by cases v <;> first | exact ⟨_, _, rfl⟩ | cases h
theorem B8T : ∀ (e : GE) (m : DM), e.dy m → e.evc → GV e ∨ (∃ r, GS e r) ∨ Nv m e := by
 intro e
 induction e with
 | var x => intro m _ h; exact h.elim
 | num n => intro m _ _; exact .inl .num
 | tru b => intro m _ _; exact .inl .tru
 | lam x A e i => intro m _ _; exact .inl .lam
 | app f a i j =>
  intro m h he
  refine .inr ?_
  rcases i _ h.2.1 he.1 with vf | ⟨r, s⟩ | b
  ·rcases j _ h.2.2 he.2 with va | ⟨r, s⟩ | b
   ·obtain ⟨x, A, e, rfl⟩ := B8R (A3u vf h.2.1)
    exact .inl ⟨_, .beta va⟩
   ·exact .inl ⟨_, .app2 vf s⟩
   ·exact .inr (A2u fun ⟨w, h1, h2⟩ => b (B10 h1 h2 (A3p f) rfl).2)
  ·exact .inl ⟨_, .app1 s⟩
  ·exact .inr (A2u fun ⟨w, h1, h2⟩ => b (B10 h1 h2 (A3p f) rfl).1)
 | ar s x y i j =>
  intro m h he
  refine .inr ?_
  rcases i _ h.2.1 he.1 with vf | ⟨r, s⟩ | b
  ·rcases j _ h.2.2 he.2 with va | ⟨r, s⟩ | b
   ·obtain ⟨n, rfl⟩ := B13 (A3u vf h.2.1)
    obtain ⟨k, rfl⟩ := B13 (A3u va h.2.2)
    exact .inl ⟨_, .ar⟩
   ·exact .inl ⟨_, .ar2 vf s⟩
   ·exact .inr (A2u fun ⟨w, h1, h2⟩ => b (B11 h1 h2 rfl).2)
  ·exact .inl ⟨_, .ar1 s⟩
  ·exact .inr (A2u fun ⟨w, h1, h2⟩ => b (B11 h1 h2 rfl).1)
 | ite c x y i _ _ =>
  intro m h he
  refine .inr ?_
  rcases i _ h.2.1 he with vf | ⟨r, s⟩ | b
  ·obtain ⟨n, rfl⟩ := B8Q (A3u vf h.2.1)
   exact .inl ⟨_, .ite⟩
  ·exact .inl ⟨_, .ite1 s⟩
  ·exact .inr (A2u fun ⟨w, h1, h2⟩ => b (B8L h1 h2 rfl))
 | pair x y i j =>
  intro m h he
  rcases i _ h.2.1 he.1 with vf | ⟨r, s⟩ | b
  ·rcases j _ h.2.2 he.2 with va | ⟨r, s⟩ | b
   ·exact .inl (.pair vf va)
   ·exact .inr (.inl ⟨_, .pair2 vf s⟩)
   ·exact .inr (.inr (A2u fun ⟨w, h1, h2⟩ => b (B12 h1 h2 rfl).2))
  ·exact .inr (.inl ⟨_, .pair1 s⟩)
  ·exact .inr (.inr (A2u fun ⟨w, h1, h2⟩ => b (B12 h1 h2 rfl).1))
 | part s x i =>
  intro m h he
  refine .inr ?_
  rcases i _ h.2 he with vf | ⟨r, s⟩ | b
  ·obtain ⟨a, b, rfl⟩ := B8S (A3u vf h.2)
   cases vf with
   | pair v v2 => exact .inl ⟨_, .part v v2⟩
  ·exact .inl ⟨_, .part1 s⟩
  ·exact .inr (A2u fun ⟨w, h1, h2⟩ => b (B8M h1 h2 (A3p x) rfl))
 | cast A B l e i =>
  intro m h he
  rcases h with ⟨rfl, rfl, t, rfl, h⟩ | ⟨t, rfl, rfl, rfl, h⟩
  ·rcases i _ h he with v | ⟨r, s⟩ | b
   ·exact .inl (.inj v ⟨t.na, t.grd⟩)
   ·exact .inr (.inl ⟨_, .cast1 s⟩)
   ·exact .inr (.inr b)
  ·rcases i _ h he with v | ⟨r, s⟩ | b
   ·obtain ⟨t', l', w, rfl, hw, hd⟩ := B8O v h
    by_cases ht : t' = t
    ·subst ht
     exact .inr (.inl ⟨_, .hit hw ⟨t'.na, t'.grd⟩⟩)
    ·refine .inr (.inr ?_)
     rintro ⟨u, h1, h2, h3⟩
     have hu := B8N (A13 hw) h1
     rw [hu, B8P (A3u hw (B1Z hw hd))] at h3
     cases h3
     exact ht rfl
   ·exact .inr (.inl ⟨_, .cast1 s⟩)
   ·exact .inr (.inr fun hr => b hr.vl)
def A15 (e : Tm) : Tm := .mk 13 ⟨#[]⟩ 0 K1 A6 0 [e]
mutual
def V1 : Tm → Tm
 | .mk k nm num ty fr lb ks => if k = 13 then (R9 ks).headD E2 else if k = 1 ∨ k = 6 ∨ k = 9 ∨ k = 11 ∨ k = 12 then .mk k nm num A6 A6 0 (R9 ks)
  else A15 (.mk k nm num (if k = 5 then K1 else A6) A6 0 (R9 ks))
def R9 : List Tm → List Tm
 | [] => []
 | t :: ts => V1 t :: R9 ts
end
mutual
def mCl : List ByteArray → Tm → Prop
 | b, .mk k nm _ _ _ _ ks => (k = 1 → nm ∈ b) ∧ A16 (if k = 5 then nm :: b else b) ks
def A16 : List ByteArray → List Tm → Prop
 | _, [] => True
 | b, t :: ts => mCl b t ∧ A16 b ts
end
def A17 (e : Tm) : Tm × Bool := if M8 e = true ∧ M8 (V1 e) = true then (V1 e, true) else (E2, false)
theorem B8U : H4 E2 = E2 := by
 rw [E2, H4, if_neg (by decide), if_neg (by decide), E9]; rfl
theorem B8V (u : Tm) : H4 (A15 u) = H4 u := by rw [A15, H4, if_pos (.inl rfl), E9]; rfl
theorem B8W (ks : List Tm) (ih : ∀ t ∈ ks, H4 (V1 t) = H4 t) : E9 (R9 ks) = E9 ks := by
 induction ks with
 | nil => rfl
 | cons t ts i => rw [R9, E9, E9, ih t List.mem_cons_self, i fun u hu => ih u (List.mem_cons_of_mem _ hu)]
theorem B8X : ∀ e : Tm, H4 (V1 e) = H4 e := by
 refine Tm.ind fun k nm num ty fr lb ks ih => ?_
 have hL := B8W ks ih
 rw [V1]
 by_cases h13 : k = 13
 ·rw [if_pos h13, H4, if_pos (.inl h13)]
  cases ks with
  | nil => exact B8U
  | cons t ts => rw [R9, E9]; exact ih t List.mem_cons_self
 ·rw [if_neg h13]
  split
  ·rename_i hk
   rw [H4, H4, if_neg (by omega), if_neg (by omega), if_neg (by omega), hL]
  ·rw [B8V, H4, H4, hL]
def Z9 (cx : Cx) (t : Tm) : Prop := ∀ l, ∃ (g : GE) (l' : Int), K8 cx t l = some (g.tm, K1, l') ∧ g.dy .a
def A3v (cx : Cx) (t : Tm) (s : Tg) : Prop := ∀ l, ∃ (g : GE) (l' : Int), K8 cx t l = some (g.tm, s.ty.ty, l') ∧ g.dy (.r s)
section
variable {cx : Cx} {k : Int} {nm : ByteArray} {num : Int} {ty fr : Ty} {lb : Int} {a b c u v w : Tm} {A B C : Ty} {l l1 l2 l3 : Int}
theorem A5S : K8 cx (.mk k nm num ty fr lb []) l = Q7 cx k nm num ty fr lb [] [] l := by rw [K8, M4]
theorem A7Q (h1 : K8 (J9 cx k nm ty) a l = some (u, A, l1)) : K8 cx (.mk k nm num ty fr lb [a]) l = Q7 cx k nm num ty fr lb [u] [A] l1 := by
 rw [K8, M4, h1]; simp only [M4]
theorem A7R (h1 : K8 (J9 cx k nm ty) a l = some (u, A, l1)) (h2 : K8 (J9 cx k nm ty) b l1 = some (v, B, l2)) : K8 cx (.mk k nm num ty fr lb [a, b]) l = Q7 cx k nm num ty fr lb [u, v] [A, B] l2 := by
 rw [K8, M4, h1]; simp only [M4, h2]
theorem B8Y (h1 : K8 (J9 cx k nm ty) a l = some (u, A, l1)) (h2 : K8 (J9 cx k nm ty) b l1 = some (v, B, l2)) (h3 : K8 (J9 cx k nm ty) c l2 = some (w, C, l3)) : K8 cx (.mk k nm num ty fr lb [a, b, c]) l = Q7 cx k nm num ty fr lb [u, v, w] [A, B, C] l3 := by
 rw [K8, M4, h1]; simp only [M4, h2, h3]
theorem A1m (h : k ≠ 5) : J9 cx k nm ty = cx := by unfold J9; rw [if_neg h]
end
theorem A7S (A : GT) (l : Int) (e : GE) : P1 A A l e = e := if_pos ((X6 _ _).2 rfl)
theorem B14 {A B : GT} (h : A ≠ B) (l : Int) (e : GE) : P1 A B l e = .cast A B l e := if_neg fun hs => h (GT.inj ((X6 _ _).1 hs))
theorem A4x (t : Tg) {m : Int} {g : GE} (h : g.dy .a) : (P1 .any t.ty m g).dy (.c t) := by
 rw [B14 (fun h => t.na h.symm)]; exact .inr ⟨t, rfl, rfl, rfl, h⟩
theorem A4y : H1 GT.any.ty = true := by decide
section
variable {cx : Cx} {a b c : Tm}
theorem A4z {s : Tg} (h : A3v cx a s) : Z9 cx (A15 a) := by
 intro l
 obtain ⟨g, l1, h1, d⟩ := h l
 obtain ⟨m, l2, h2⟩ := A2N g s.ty .any l1
 refine ⟨.cast s.ty .any m g, l2, ?_, .inl ⟨rfl, rfl, s, rfl, d⟩⟩
 rw [A15, A7Q (by rw [A1m (by decide)]; exact h1), X2 (w := [GT.any.ty]) (a := GT.any.ty) ?_ A4y, h2, if_pos rfl, B14 s.na]
 ·rfl
 ·unfold J8
  rw [if_neg (by decide), if_neg (by decide), if_neg (by decide), if_neg (by decide), if_neg (by decide), if_neg (by decide), if_neg (by decide), if_neg (by decide), if_pos rfl]
  exact if_pos ((A0f s.ty .any).2 .r)
theorem B8Z {x : ByteArray} (h : P7 cx x = some K1) : Z9 cx (.mk 1 x 0 A6 A6 0 []) := by
 intro l
 refine ⟨.var x, l, ?_, rfl⟩
 rw [A5S, X2 (w := []) (a := K1) (by unfold J8; rw [if_pos rfl, h]) A4y, U9, if_neg (by decide)]
 rfl
theorem B80 {n : Int} : A3v cx (.mk 2 ⟨#[]⟩ n A6 A6 0 []) .i := by
 intro l
 refine ⟨.num n, l, ?_, .inl rfl⟩
 rw [A5S, X2 (w := []) (a := Q6) rfl (by decide), U9, if_neg (by decide)]
 rfl
theorem B81 (v : Bool) : A3v cx (.mk (if v = true then 3 else 4) ⟨#[]⟩ 0 A6 A6 0 []) .b := by
 intro l
 refine ⟨.tru v, l, ?_, .inl rfl⟩
 cases v
 ·rw [A5S, X2 (w := []) (a := S7) rfl (by decide), U9, if_neg (by decide)]; rfl
 ·rw [A5S, X2 (w := []) (a := S7) rfl (by decide), U9, if_neg (by decide)]; rfl
theorem B82 {x : ByteArray} (h : Z9 (cx ++ [(x, K1)]) a) : A3v cx (.mk 5 x 0 K1 A6 0 [a]) .f := by
 intro l
 obtain ⟨g, l1, h1, d⟩ := h l
 refine ⟨.lam x .any g, l1, ?_, .inl rfl, rfl, d⟩
 rw [A7Q (by unfold J9; rw [if_pos rfl]; exact h1), X2 (w := []) (a := (GT.fn .any .any).ty) rfl (by decide), U9, if_neg (by decide)]
 rfl
theorem B83 (ha : Z9 cx a) (hb : Z9 cx b) : Z9 cx (.mk 6 ⟨#[]⟩ 0 A6 A6 0 [a, b]) := by
 intro l
 obtain ⟨g, l1, h1, d⟩ := ha l
 obtain ⟨g2, l2, h2, d2⟩ := hb l1
 obtain ⟨m, n, l3, h3⟩ := A2O g g2 .any (.fn .any .any) .any .any l2
 refine ⟨.app (P1 .any (.fn .any .any) m g) (P1 .any .any n g2), l3, ?_, rfl, A4x .f d, by rw [A7S]; exact d2⟩
 rw [A7R (by rw [A1m (by decide)]; exact h1) (by rw [A1m (by decide)]; exact h2), X2 (w := [(GT.fn .any .any).ty, GT.any.ty]) (a := GT.any.ty) ?_ A4y, if_neg (by decide)]
 ·show some (Tm.mk _ _ _ _ _ _ (F9 [g.tm, g2.tm] [GT.any.ty, GT.any.ty] _ l2).1, _, (F9 [g.tm, g2.tm] [GT.any.ty, GT.any.ty] _ l2).2) = _
  rw [h3]; rfl
 ·unfold J8
  rw [if_neg (by decide), if_neg (by decide), if_neg (by decide), if_neg (by decide), if_pos rfl]
  show (match S1 4 GT.any.ty with | some (a, b) => if K3 GT.any.ty a = true then some ([Ty.mk 4 [a, b], a], b) else none | none => none) = _
  rw [A7a]
  simp only [gmF, Option.map_some]
  rw [if_pos ((A0f .any .any).2 .l)]; rfl
theorem B84 (s : Bool) (ha : Z9 cx a) (hb : Z9 cx b) : A3v cx (.mk (if s = true then 8 else 7) ⟨#[]⟩ 0 A6 A6 0 [a, b]) (if s = true then .b else .i) := by
 intro l
 obtain ⟨g, l1, h1, d⟩ := ha l
 obtain ⟨g2, l2, h2, d2⟩ := hb l1
 obtain ⟨m, n, l3, h3⟩ := A2O g g2 .any .int .any .int l2
 refine ⟨.ar s (P1 .any .int m g) (P1 .any .int n g2), l3, ?_, rfl, A4x .i d, A4x .i d2⟩
 have hk : (if s = true then (8 : Int) else 7) ≠ 5 := by cases s <;> decide
 rw [A7R (by rw [A1m hk]; exact h1) (by rw [A1m hk]; exact h2), X2 (w := [GT.int.ty, GT.int.ty]) (a := (Tg.ty (if s = true then .b else .i)).ty) ?_ (by cases s <;> decide), if_neg (by cases s <;> decide)]
 ·show some (Tm.mk _ _ _ _ _ _ (F9 [g.tm, g2.tm] [GT.any.ty, GT.any.ty] _ l2).1, _, (F9 [g.tm, g2.tm] [GT.any.ty, GT.any.ty] _ l2).2) = _
  rw [h3]; rfl
 ·have hc : K3 K1 Q6 = true := (A0f .any .int).2 .l
  unfold J8
  cases s
  ·rw [if_neg (by decide), if_neg (by decide), if_neg (by decide), if_neg (by decide), if_neg (by decide), if_pos (by decide), if_pos ⟨hc, hc⟩]; rfl
  ·rw [if_neg (by decide), if_neg (by decide), if_neg (by decide), if_neg (by decide), if_neg (by decide), if_pos (by decide), if_pos ⟨hc, hc⟩]; rfl
theorem B85 (ha : Z9 cx a) (hb : Z9 cx b) (hc : Z9 cx c) : Z9 cx (.mk 9 ⟨#[]⟩ 0 A6 A6 0 [a, b, c]) := by
 intro l
 obtain ⟨g, l1, h1, d⟩ := ha l
 obtain ⟨g2, l2, h2, d2⟩ := hb l1
 obtain ⟨g3, l3, h3, d3⟩ := hc l2
 obtain ⟨m, n, o, l4, h4⟩ := A7d g g2 g3 .any .bool .any .any .any .any l3
 refine ⟨.ite (P1 .any .bool m g) (P1 .any .any n g2) (P1 .any .any o g3), l4, ?_, rfl, A4x .b d, by rw [A7S]; exact d2, by rw [A7S]; exact d3⟩
 rw [B8Y (by rw [A1m (by decide)]; exact h1) (by rw [A1m (by decide)]; exact h2) (by rw [A1m (by decide)]; exact h3), X2 (w := [GT.bool.ty, GT.any.ty, GT.any.ty]) (a := GT.any.ty) ?_ A4y, if_neg (by decide)]
 ·show some (Tm.mk _ _ _ _ _ _ (F9 [g.tm, g2.tm, g3.tm] [GT.any.ty, GT.any.ty, GT.any.ty] _ l3).1, _, (F9 [g.tm, g2.tm, g3.tm] [GT.any.ty, GT.any.ty, GT.any.ty] _ l3).2) = _
  rw [h4]; rfl
 ·have hb : K3 K1 S7 = true := (A0f .any .bool).2 .l
  have ha : K3 K1 K1 = true := (A0f .any .any).2 .l
  have hm : U1 K1 K1 = K1 := A69 (a := .any) (b := .any) .l
  unfold J8
  rw [if_neg (by decide), if_neg (by decide), if_neg (by decide), if_neg (by decide), if_neg (by decide), if_neg (by decide), if_pos rfl]
  simp only [List.getD_cons_zero, List.getD_cons_succ]
  rw [if_pos ⟨hb, ha⟩, hm]; rfl
theorem B86 (ha : Z9 cx a) (hb : Z9 cx b) : A3v cx (.mk 10 ⟨#[]⟩ 0 A6 A6 0 [a, b]) .p := by
 intro l
 obtain ⟨g, l1, h1, d⟩ := ha l
 obtain ⟨g2, l2, h2, d2⟩ := hb l1
 refine ⟨.pair g g2, l2, ?_, .inl rfl, d, d2⟩
 rw [A7R (by rw [A1m (by decide)]; exact h1) (by rw [A1m (by decide)]; exact h2), X2 (w := []) (a := (GT.pr .any .any).ty) rfl (by decide), U9, if_neg (by decide)]
 rfl
theorem B87 (s : Bool) (ha : Z9 cx a) : Z9 cx (.mk (if s = true then 12 else 11) ⟨#[]⟩ 0 A6 A6 0 [a]) := by
 intro l
 obtain ⟨g, l1, h1, d⟩ := ha l
 obtain ⟨m, l2, h2⟩ := A2N g .any (.pr .any .any) l1
 refine ⟨.part s (P1 .any (.pr .any .any) m g), l2, ?_, rfl, A4x .p d⟩
 have hk : (if s = true then (12 : Int) else 11) ≠ 5 := by cases s <;> decide
 rw [A7Q (by rw [A1m hk]; exact h1), X2 (w := [(GT.pr .any .any).ty]) (a := GT.any.ty) ?_ A4y, if_neg (by cases s <;> decide)]
 ·show some (Tm.mk _ _ _ _ _ _ (F9 [g.tm] [GT.any.ty] _ l1).1, _, (F9 [g.tm] [GT.any.ty] _ l1).2) = _
  rw [h2]; rfl
 ·have hm : S1 5 K1 = some (K1, K1) := A7b .any
  unfold J8
  cases s
  ·rw [if_neg (by decide), if_neg (by decide), if_neg (by decide), if_neg (by decide), if_neg (by decide), if_neg (by decide), if_neg (by decide), if_neg (by decide), if_neg (by decide)]
   simp only [List.getD_cons_zero]
   rw [hm]; rfl
  ·rw [if_neg (by decide), if_neg (by decide), if_neg (by decide), if_neg (by decide), if_neg (by decide), if_neg (by decide), if_neg (by decide), if_neg (by decide), if_neg (by decide)]
   simp only [List.getD_cons_zero]
   rw [hm]; rfl
end
theorem A7T {α : Type} {l : List α} (h : (l.length : Int) = 2) : ∃ a b, l = [a, b] := by
 match l, h with
 | [a, b], _ => exact ⟨a, b, rfl⟩
 | [], h => simp at h
 | [_], h => simp at h
 | _ :: _ :: _ :: _, h => simp only [List.length_cons] at h; omega
theorem A7U {α : Type} {l : List α} (h : (l.length : Int) = 1) : ∃ a, l = [a] := by
 match l, h with
 | [a], _ => exact ⟨a, rfl⟩
 | [], h => simp at h
 | _ :: _ :: _, h => simp only [List.length_cons] at h; omega
theorem B88 {α : Type} {l : List α} (h : (l.length : Int) = 3) : ∃ a b c, l = [a, b, c] := by
 match l, h with
 | [a, b, c], _ => exact ⟨a, b, c, rfl⟩
 | [], h => simp at h
 | [_], h => simp at h
 | [_, _], h => simp at h
 | _ :: _ :: _ :: _ :: _, h => simp only [List.length_cons] at h; omega
theorem A7V {α : Type} {l : List α} (h : (l.length : Int) = 0) : l = [] := List.length_eq_zero_iff.1 (by omega)
theorem B15 {D N d : Int} : ∀ {ks : List Tm}, L5 D N ks d = true → ∀ t ∈ ks, L7 D N t d = true
 | [], _, t, ht => by cases ht
 | u :: us, h, t, ht => by
  rw [L5, Bool.and_eq_true] at h
  rcases List.mem_cons.1 ht with rfl | ht
  ·exact h.1
  ·exact B15 h.2 t ht
theorem B16 {b : List ByteArray} : ∀ {ks : List Tm}, A16 b ks → ∀ t ∈ ks, mCl b t
 | [], _, t, ht => by cases ht
 | u :: us, h, t, ht => by
  rw [A16] at h
  rcases List.mem_cons.1 ht with rfl | ht
  ·exact h.1
  ·exact B16 h.2 t ht
theorem B89 : ∀ (e : Tm) (d : Int) (cx : Cx) (b : List ByteArray), L7 12 14 e d = true → (∀ x ∈ b, P7 cx x = some K1) → mCl b e → Z9 cx (V1 e) := by
 refine Tm.ind fun k nm num ty fr lb ks ih d cx b hs hcx hcl => ?_
 obtain ⟨n1, n2, n3, n4, n5, n6, n7, n8, n9⟩ := A7e hs
 have hk : 1 ≤ k ∧ k ≤ 14 := by
  apply Classical.byContradiction
  intro hk
  rw [A3O hk] at n1; omega
 rw [mCl] at hcl
 obtain ⟨c1, c2⟩ := hcl
 have K : ∀ t ∈ ks, A16 b ks → mCl b t := fun t ht h => B16 h t ht
 have S : ∀ t ∈ ks, L7 12 14 t (d + 1) = true := B15 n9
 rw [V1]
 by_cases h5 : k = 5
 ·subst h5
  rw [if_pos rfl] at c2
  obtain rfl := n4 (by decide)
  obtain ⟨x, rfl⟩ := A7U (l := ks) (by have : C4 5 = 1 := rfl; omega)
  rw [if_neg (by decide), if_neg (by decide), if_pos rfl, R9, R9]
  refine A4z (s := .f) (B82 (ih x List.mem_cons_self (d + 1) _ (nm :: b) (S x List.mem_cons_self) ?_ ?_))
  ·intro y hy
   rw [A1i]
   split
   ·rfl
   ·rename_i hne
    rcases List.mem_cons.1 hy with rfl | hy
    ·exact absurd rfl hne
    ·exact hcx y hy
  ·rw [A16] at c2; exact c2.1
 rw [if_neg h5] at c2
 have I : ∀ t ∈ ks, Z9 cx (V1 t) := fun t ht => ih t ht (d + 1) cx b (S t ht) hcx (K t ht c2)
 by_cases h1 : k = 1
 ·subst h1
  obtain rfl := n4 (by decide)
  obtain rfl := A7V (l := ks) (by have : C4 1 = 0 := rfl; omega)
  rw [if_neg (by decide), if_pos (.inl rfl), R9]
  exact B8Z (hcx nm (c1 rfl))
 obtain rfl := n3 (by omega)
 by_cases h2 : k = 2
 ·subst h2
  obtain rfl := A7V (l := ks) (by have : C4 2 = 0 := rfl; omega)
  rw [if_neg (by decide), if_neg (by decide), if_neg (by decide), R9]
  exact A4z B80
 obtain rfl := n4 h2
 by_cases h13 : k = 13
 ·subst h13
  obtain ⟨x, rfl⟩ := A7U (l := ks) (by have : C4 13 = 1 := rfl; omega)
  rw [if_pos rfl, R9]
  exact I x List.mem_cons_self
 rw [if_neg h13]
 by_cases h34 : k = 3 ∨ k = 4
 ·obtain ⟨b, rfl⟩ : ∃ b : Bool, k = if b = true then 3 else 4 := by rcases h34 with h | h; exact ⟨true, h⟩; exact ⟨false, h⟩
  obtain rfl := A7V (l := ks) (by have : C4 (if b = true then 3 else 4) = 0 := (by cases b <;> rfl); omega)
  rw [if_neg (by cases b <;> decide), if_neg h5, R9]
  exact A4z (B81 b)
 by_cases h6 : k = 6
 ·subst h6
  obtain ⟨x, y, rfl⟩ := A7T (l := ks) (by have : C4 6 = 2 := rfl; omega)
  rw [if_pos (by decide), R9, R9, R9]
  exact B83 (I x (by simp)) (I y (by simp))
 by_cases h78 : k = 7 ∨ k = 8
 ·obtain ⟨b, rfl⟩ : ∃ b : Bool, k = if b = true then 8 else 7 := by rcases h78 with h | h; exact ⟨false, h⟩; exact ⟨true, h⟩
  obtain ⟨x, y, rfl⟩ := A7T (l := ks) (by have : C4 (if b = true then 8 else 7) = 2 := (by cases b <;> rfl); omega)
  rw [if_neg (by cases b <;> decide), if_neg h5, R9, R9, R9]
  exact A4z (B84 b (I x (by simp)) (I y (by simp)))
 by_cases h9 : k = 9
 ·subst h9
  obtain ⟨x, y, z, rfl⟩ := B88 (l := ks) (by have : C4 9 = 3 := rfl; omega)
  rw [if_pos (by decide), R9, R9, R9, R9]
  exact B85 (I x (by simp)) (I y (by simp)) (I z (by simp))
 by_cases h10 : k = 10
 ·subst h10
  obtain ⟨x, y, rfl⟩ := A7T (l := ks) (by have : C4 10 = 2 := rfl; omega)
  rw [if_neg (by decide), if_neg (by decide), R9, R9, R9]
  exact A4z (B86 (I x (by simp)) (I y (by simp)))
 have h11 : k = 11 ∨ k = 12 := by omega
 obtain ⟨b, rfl⟩ : ∃ b : Bool, k = if b = true then 12 else 11 := by rcases h11 with h | h; exact ⟨false, h⟩; exact ⟨true, h⟩
 obtain ⟨x, rfl⟩ := A7U (l := ks) (by have : C4 (if b = true then 12 else 11) = 1 := (by cases b <;> rfl); omega)
 rw [if_pos (by cases b <;> decide), R9, R9]
 exact B87 b (I x (by simp))
mutual
def A0K (g : Int → Tm → Tm × Int) : Tm → Int → Tm × Int
 | .mk k nm num ty fr lb ks, n => g (W5 g ks n).2 (.mk k nm num ty fr lb (W5 g ks n).1)
def W5 (g : Int → Tm → Tm × Int) : List Tm → Int → List Tm × Int
 | [], n => ([], n)
 | t :: ts, n => ((A0K g t n).1 :: (W5 g ts (A0K g t n).2).1, (W5 g ts (A0K g t n).2).2)
end
theorem B17 (g : Int → Tm → Tm × Int) : ∀ (ks : List Tm) (n : Int) (i : Nat) (h : i < ks.length),
  W5 g (ks.take (i + 1)) n = ((W5 g (ks.take i) n).1 ++ [(A0K g ks[i] (W5 g (ks.take i) n).2).1], (A0K g ks[i] (W5 g (ks.take i) n).2).2)
 | [], _, _, h => by simp at h
 | t :: ts, n, 0, _ => by simp [W5]
 | t :: ts, n, i + 1, h => by
  simp only [List.take_succ_cons, W5, List.getElem_cons_succ]
  rw [B17 g ts _ i (by simpa using h)]
  rfl
theorem B18 (g : Int → Tm → Tm × Int) : ∀ (ks : List Tm) (n : Int), (W5 g ks n).1.length = ks.length
 | [], _ => rfl
 | t :: ts, n => by rw [W5]; simp only [List.length_cons]; rw [B18 g ts]
mutual
def A3w (Q : Int → Tm → Prop) (g : Int → Tm → Tm × Int) : Tm → Int → Prop
 | .mk k nm num ty fr lb ks, n => A2v Q g ks n ∧ Q (W5 g ks n).2 (.mk k nm num ty fr lb (W5 g ks n).1)
def A2v (Q : Int → Tm → Prop) (g : Int → Tm → Tm × Int) : List Tm → Int → Prop
 | [], _ => True
 | t :: ts, n => A3w Q g t n ∧ A2v Q g ts (A0K g t n).2
end
theorem B19 {Q : Int → Tm → Prop} {g : Int → Tm → Tm × Int} : ∀ {ks : List Tm} {n : Int}, A2v Q g ks n → ∀ (i : Nat) (h : i < ks.length), A3w Q g ks[i] (W5 g (ks.take i) n).2
 | [], _, _, _, h => by simp at h
 | t :: ts, n, hq, 0, _ => by rw [A2v] at hq; simpa [W5] using hq.1
 | t :: ts, n, hq, i + 1, h => by
  rw [A2v] at hq
  simp only [List.take_succ_cons, W5, List.getElem_cons_succ]
  exact B19 hq.2 i (by simpa using h)
mutual
theorem A7W (g : Tm → Tm) : ∀ (t : Tm) (n : Int), A0K (fun n t => (g t, n)) t n = (A0o g t, n)
 | .mk k nm num ty fr lb ks, n => by rw [A0K, A0o, A7X g ks n]
theorem A7X (g : Tm → Tm) : ∀ (ks : List Tm) (n : Int), W5 (fun n t => (g t, n)) ks n = (Y7 g ks, n)
 | [], n => rfl
 | t :: ts, n => by rw [W5, Y7, A7W g t n, A7X g ts n]
end
mutual
theorem B2a {Q : Tm → Prop} {g : Tm → Tm} : ∀ (t : Tm) (n : Int), mOk Q g t → A3w (fun _ => Q) (fun n t => (g t, n)) t n
 | .mk k nm num ty fr lb ks, n, h => by
  rw [mOk] at h
  rw [A3w, A7X]
  exact ⟨B2b ks n h.1, h.2⟩
theorem B2b {Q : Tm → Prop} {g : Tm → Tm} : ∀ (ks : List Tm) (n : Int), A0A Q g ks → A2v (fun _ => Q) (fun n t => (g t, n)) ks n
 | [], n, _ => by rw [A2v]; trivial
 | t :: ts, n, h => by
  rw [A0A] at h
  rw [A2v, A7W]
  exact ⟨B2a t n h.1, B2b ts n h.2⟩
end
def B2c (g : Int → Tm → Tm × Int) (Q : Int → Tm → Prop) (E : Int → A5) (fid : FuncId) (us cs : List Value) : Prop := ∀ (n : Int) (t : Tm) (G : IM) (cells : List Value), Q n t → A8 G t cells →
 Fn Tryz.prog fid (us ++ [.agg ⟨cells⟩] ++ cs) [E n] G (fun G' v outs => outs = [E (g n t).2] ∧ ∃ cells', v = .agg ⟨cells'⟩ ∧ A8 G' (g n t).1 cells')
theorem B9a (g : Int → Tm → Tm × Int) (Q : Int → Tm → Prop) (E : Int → A5) (fid : FuncId) [B5 Tryz.prog fid] (us cs : List Value) (hg : B2c g Q E fid us cs) : ∀ (t : Tm) (n : Int) (G : IM) (cells : List Value), A3w Q g t n → t.small → A8 G t cells →
  Fn Tryz.prog 76 [.agg ⟨cells⟩, .func (.func fid) ⟨us⟩ ⟨cs⟩] [E n] G (fun G' v outs => outs = [E (A0K g t n).2] ∧ ∃ cells', v = .agg ⟨cells'⟩ ∧ A8 G' (A0K g t n).1 cells') := by
 refine Tm.ind fun k nm num ty fr lb ks ih n G cells hmo hts hr => ?_
 have hone := hr.one
 rw [A3w] at hmo
 obtain ⟨hmoL, hQ⟩ := hmo
 simp only [Tm.small] at hts
 obtain ⟨hnm, hty', hfr', hsm, hks⟩ := hts
 have hgL : A0K g (.mk k nm num ty fr lb ks) n = g (W5 g ks n).2 (.mk k nm num ty fr lb (W5 g ks n).1) := by rw [A0K]
 have hstep := B17 g ks n
 have hget := fun i h => B19 hmoL i h
 have h0 : W5 g (ks.take 0) n = ([], n) := rfl
 have hmlen := B18 g ks n
 obtain ⟨tk, tks⟩ := ty
 obtain ⟨fk, fks⟩ := fr
 obtain ⟨pt, ct, pf, cf, p, c, es, rfl, hk, hnum, hlb, hty, hfr, hsl, hkl⟩ := hr.open9
 have hn := hsl.le
 refine B7 Tryz.func76 rfl Tryz.ntmps76 Tryz.results76 rfl ?_
 intro w0
 refine A1 ?_
 refine sE (C7 rfl rfl) rfl (fun b3 => ?_)
 refine sE (B0 rfl) rfl (fun b4 => ?_)
 refine J7 ?_
 refine C0 ?_
 (refine V7 28 9 ?_; refine L9 (fun (x : Nat × Option Addr × Nat × List (List Value) × List Tm × Int × IM) => ⟨[(11, .int .i64 x.1), (10, .int .i64 ks.length), (9, .slice p ks.length c), (5, .slice x.2.1 x.1 x.2.2.1), (2, .pointer (some ⟨b3, 0, none⟩)), (1, .func (.func fid) ⟨us⟩ ⟨cs⟩), (4, .pointer (some ⟨b4, 0, none⟩))], [.slc x.2.1 x.2.2.1 28 9 x.1 x.2.2.2.1.flatten, .blk b4 [.int .i64 0, .string ⟨⟨[]⟩⟩, .int .i64 0, .int .i64 0, .slice none 0 0, .int .i64 0, .slice none 0 0, .int .i64 0, .slice none 0 0], .blk b3 [.int .i64 k, .string nm, .int .i64 num, .int .i64 tk, .slice pt tks.length ct, .int .i64 fk, .slice pf fks.length cf, .int .i64 lb, .slice p ks.length c], E x.2.2.2.2.2.1], x.2.2.2.2.2.2⟩) (fun x => x.1 ≤ ks.length ∧ C2 G x.2.2.2.2.2.2 ∧ W5 g (ks.take x.1) n = (x.2.2.2.2.1, x.2.2.2.2.2.1) ∧ D9 x.2.2.2.2.2.2 x.2.2.2.2.1 x.2.2.2.1) (fun x => ks.length - x.1) (0, none, 0, [], [], n, G) ?_ ?_ ?_)
 (simp only [I7]; exact D5)
 (exact ⟨Nat.zero_le _, C2.refl _, h0, by simp only [D9]⟩)
 (rintro ⟨i, pn, cn, es', ms, m, Gi⟩ ⟨hi, hle, hmm, hst⟩; simp only [] at hi hle hmm hst ⊢; replace hsl := hsl.mono hle; replace hkl := hkl.mono hle)
 refine A1 ?_
 refine sB (K6 rfl rfl) rfl rfl (fun h28 => ?_) (fun h28 => ?_)
 refine B4 ?_
 refine C0 ?_
 refine A1 ?_
 (have hst9 := hstep i (by omega); have hgi := hget i (by omega); rw [hmm] at hst9 hgi; obtain ⟨b, o, e, rfl, hl, hat, hre, hgb⟩ := hsl.kidTm hkl (i := i) (by omega) (by omega); have hone := hre.one; refine sP (B8 rfl rfl rfl (by omega)) rfl rfl ?_)
 refine sL (A2 rfl rfl (hat _) hl) rfl rfl ?_
 refine sE (B0 rfl) rfl (fun b41 => ?_)
 refine sS rfl rfl rfl hl hone rfl ?_ (hu := by exact C9 hl.symm)
 refine B3 ?_
 refine sL (A2 rfl rfl (B2 (by repeat first | exact mH | apply mT)) (by assumption)) rfl rfl ?_
 refine E8 ?_
 (refine I0 rfl (ih ks[i] (List.getElem_mem (by omega)) m _ _ hgi (Tm.smallL_mem hks _ (List.getElem_mem (by omega))) hre) (Pk.perm (by repeat (first | exact Pk.here | apply Pk.there))) rfl rfl (fun v G3 outs hle3 hh => ?_); obtain ⟨rfl, cells', rfl, hs'⟩ := hh; have hlc := hs'.len; have hoc := hs'.one; have hsn := D9.snoc (hst.mono hle3) hs')
 (obtain ⟨v1, v2, v3, v4, v5, v6, v7, v8, v9, rfl⟩ := nine hlc)
 (refine M5 (D4 rfl rfl rfl (by omega) (by unfold maxLen; omega) rfl) rfl ?_; rintro _ ⟨b51, rfl⟩)
 refine A4R rfl rfl rfl rfl rfl (fun _ _ => by repeat (first | exact Sw.here | apply Sw.there)) (P3 (by repeat first | exact mH | apply mT)) rfl (fun u hu => List.all_eq_true.1 hoc u hu) (by unfold maxLen; omega) (by omega) rfl (fun pn' cn' => ?_)
 refine B1 ?_
 refine sP (K5 rfl rfl (by omega) (by omega)) rfl rfl ?_
 refine A1 ?_
 refine L0 (i + 1, pn', cn', es' ++ [[v1, v2, v3, v4, v5, v6, v7, v8, v9]], ms ++ [(A0K g ks[i] m).1], (A0K g ks[i] m).2, G3) ?_ ?_ ?_
 (simp only [I7]; exact D5)
 exact ⟨by omega, hle.trans hle3, hst9, hsn⟩
 (show ks.length - (i + 1) < ks.length - i; omega)
 refine J2 ?_
 (obtain rfl : i = ks.length := (by omega); rw [List.take_length] at hmm; rw [hmm] at hQ hgL hmlen; simp only [] at hQ hgL hmlen; refine A1Q (by repeat (first | exact Pk.here | apply Pk.there)) (fun G2 hle2 hsl2 hno2 => ?_); have hleG := hle.trans hle2; have hT := A2d (.mk tk tks) G2 _ hty' (hty.mono hleG); refine E3 E4 rfl ?_)
 refine J5 (i := 0) (l' := [tt,ff,ff,ff,ff,ff,ff,ff,ff,ff,ff,ff,ff]) rfl D7 (B9 rfl) rfl (by kernel_rfl) rfl rfl ?_
 refine aL 1 rfl (A4 rfl rfl) rfl ?_
 refine aP 3 rfl (B9 rfl) rfl ?_
 refine aL 4 rfl (A4 rfl rfl) rfl ?_
 refine aP 6 rfl (qM rfl) rfl ?_
 refine A3 2 ?_
 (refine K4 rfl rfl hT rfl rfl rfl (fun v G4 hle4 hh => ?_); obtain ⟨T8, F1, rfl, hs1, hn1⟩ := hh; obtain ⟨p1, c1, rfl, _⟩ := hs1.open; have hF := A2d (.mk fk fks) G4 _ hfr' (hfr.mono (hleG.trans hle4)))
 refine aP 7 rfl (B9 rfl) rfl ?_
 refine A3 5 ?_
 (refine K4 rfl rfl hF rfl rfl rfl (fun v G5 hle5 hh => ?_); obtain ⟨cs2, F2, rfl, hs2, hn2⟩ := hh; obtain ⟨p2, c2, rfl, _⟩ := hs2.open; have hst5 := hst.mono ((hle2.trans hle4).trans hle5); have hR5 := A8.put (nm := nm) (us := ms) hk hnum hlb ((hs1.R.mono (C8.le _ _)).mono hle5) (hs2.R.mono (C8.le _ _)) hmlen.symm ((D6.of hsl2 (by rw [hst.len, hmlen]) hst.all (fun e he => by obtain ⟨j, hj⟩ := List.getElem?_of_mem he; exact (hst.inv hj E2).2.one)).mono (hle4.trans hle5)) hst5; have hch := hg m _ G5 _ hQ hR5)
 refine A3 8 ?_
 refine I9 rfl ?_
 refine aP 9 rfl (B9 rfl) rfl ?_
 refine A3 10 ?_
 refine R2 rfl rfl rfl rfl rfl rfl rfl rfl (by decide +kernel) (by repeat first | exact Sw.here | apply Sw.there) (by rfl) ?_
 refine aP 11 rfl (B9 rfl) rfl ?_
 refine A3 12 ?_
 refine R2 rfl rfl rfl rfl rfl rfl rfl rfl (by decide +kernel) (by repeat first | exact Sw.here | apply Sw.there) (by rfl) ?_
 refine A7 ?_
 (refine M5 (A4K rfl rfl hch (Pk.perm (by repeat (first | exact Pk.here | apply Pk.there))) rfl) rfl ?_; rintro _ ⟨v, G7, outs, rfl, hle7, rfl, cells7, rfl, hs7⟩; have hl7 := hs7.len; have ho7 := hs7.one)
 refine sS rfl rfl rfl hl7 ho7 rfl ?_ (hu := by exact C9 hl7.symm)
 refine B6 ?_
 refine H5 (outs := [E (g m (.mk k nm num (.mk tk tks) (.mk fk fks) lb ms)).2]) (rC rfl (A2 rfl rfl (B2 (by repeat first | exact mH | apply mT)) hl7)) (by repeat (first | exact A0.nil | refine A0.cons Pk.here ?_ | refine A0.cons (Pk.there Pk.here) ?_ | refine A0.cons (Pk.there (Pk.there Pk.here)) ?_ | apply A0.drop)) ?_
 (rw [hgL]; exact ⟨rfl, cells7, rfl, hs7⟩)
theorem Fn.withE {P : Program} {f : FuncId} {args : List Value} {G : IM} {post : IM → Value → List A5 → Prop} (h : Fn P f args [] G post) (e : A5) : Fn P f args [e] G (fun G' v outs => ∃ o, outs = o ++ [e] ∧ post G' v o) := by
 refine ⟨fun w hw => ?_⟩
 have h0 : T4 [] G w := T4.left (b := [e]) hw
 refine (h.run w h0).mono ?_
 rintro x w' ⟨v, G', outs, rfl, h2, h3⟩
 exact ⟨v, G', outs ++ [e], rfl, (S0.refl hw).frame (ins := []) (rest := [e]) h2, outs, rfl, h3⟩
def A7Y (g : Tm → Tm) (Q : Tm → Prop) (fid : FuncId) (us cs : List Value) : Prop := ∀ (t : Tm) (G : IM) (cells : List Value), Q t → A8 G t cells → Fn Tryz.prog fid (us ++ [.agg ⟨cells⟩] ++ cs) [] G (P9 (g t))
theorem B9b {g : Tm → Tm} {Q : Tm → Prop} {fid : FuncId} {us cs : List Value} (h : A7Y g Q fid us cs) (e : A5) : B2c (fun n t => (g t, n)) (fun _ => Q) (fun _ => e) fid us cs := fun n t G cells hq hr =>
 ((h t G cells hq hr).withE e).mono fun G' v outs _ ⟨o, h1, h2, cells', h3, h4⟩ => ⟨by rw [h1, h2]; rfl, cells', h3, h4⟩
theorem B9c (g : Tm → Tm) (Q : Tm → Prop) (fid : FuncId) [B5 Tryz.prog fid] (us cs : List Value) (hg : A7Y g Q fid us cs) (e : A5) (t : Tm) (G : IM) (cells : List Value) (hq : mOk Q g t) (hts : t.small) (hr : A8 G t cells) :
  Fn Tryz.prog 76 [.agg ⟨cells⟩, .func (.func fid) ⟨us⟩ ⟨cs⟩] [e] G (fun G' v outs => outs = [e] ∧ ∃ cells', v = .agg ⟨cells'⟩ ∧ A8 G' (A0o g t) cells') := by
 have h := B9a (fun n t => (g t, n)) (fun _ => Q) (fun _ => e) fid us cs (B9b hg e) t 0 G cells (B2a t 0 hq) hts hr
 rw [A7W] at h
 exact h
inductive Sm : Nat → GE → GE → Prop
 | refl {e} : Sm 0 e e
 | step {n a b c} : GS a b → Sm n b c → Sm (n + 1) a c
inductive Bl : GE → Int → Prop
 | app1 {f a L} : Bl f L → Bl (.app f a) L
 | app2 {f a L} : GV f → Bl a L → Bl (.app f a) L
 | ar1 {s a b L} : Bl a L → Bl (.ar s a b) L
 | ar2 {s a b L} : GV a → Bl b L → Bl (.ar s a b) L
 | ite1 {c a b L} : Bl c L → Bl (.ite c a b) L
 | pair1 {a b L} : Bl a L → Bl (.pair a b) L
 | pair2 {a b L} : GV a → Bl b L → Bl (.pair a b) L
 | part1 {s e L} : Bl e L → Bl (.part s e) L
 | cast1 {A B l e L} : Bl e L → Bl (.cast A B l e) L
 | fail {G H l m w} : GV w → G.Gd → H.Gd → G ≠ H → Bl (.cast .any G l (.cast H .any m w)) l
section
variable {k : Int} {nm : ByteArray} {num : Int} {ty fr : Ty} {lb : Int} {a b : Tm} {l : Int}
end
def GT.cp : GT → Prop
 | .fn _ _ => True
 | .pr _ _ => True
 | _ => False
def B2d : List Int → GE → GE
 | [], y => y
 | k :: ks, y => .cast .any .any k (B2d ks y)
inductive HR : GC → GE → GE → GT → Prop
 | var {Γ x A} : Γ x = some (A, A) → HR Γ (.var x) (.var x) A
 | num {Γ n} : HR Γ (.num n) (.num n) .int
 | tru {Γ b} : HR Γ (.tru b) (.tru b) .bool
 | lam {Γ x A B e e'} : HR (gup Γ x A A) e e' B → HR Γ (.lam x A e) (.lam x A e') (.fn A B)
 | app {Γ f f' a a' A B} : HR Γ f f' (.fn A B) → HR Γ a a' A → HR Γ (.app f a) (.app f' a') B
 | ar {Γ s a a' b b'} : HR Γ a a' .int → HR Γ b b' .int → HR Γ (.ar s a b) (.ar s a' b') (if s = true then .bool else .int)
 | ite {Γ c c' a a' b b' A} : HR Γ c c' .bool → HR Γ a a' A → HR Γ b b' A → HR Γ (.ite c a b) (.ite c' a' b') A
 | pair {Γ a a' b b' A B} : HR Γ a a' A → HR Γ b b' B → HR Γ (.pair a b) (.pair a' b') (.pr A B)
 | part {Γ s e e' A B} : HR Γ e e' (.pr A B) → HR Γ (.part s e) (.part s e') (if s = true then B else A)
 | cast {Γ e x A B l} : HR Γ e x A → Co A B → HR Γ (.cast A B l e) (.cast A B l x) B
 | idR {Γ e x A l} : HR Γ e x A → HR Γ e (.cast A A l x) A
 | idL {Γ e x A l} : HR Γ e x A → HR Γ (.cast A A l e) x A
 | back {Γ e x B l m} (ks : List Int) : HR Γ e x B → HR Γ e (.cast .any B l (B2d ks (.cast B .any m x))) B
 | backG {Γ e x B l m} : HR Γ e x B → B.cp → HR Γ e (.cast B.gr B l (.cast B B.gr m x)) B
 | dyn {Γ e x A B l} : HR Γ e x A → Co A B → HR Γ (.cast A B l e) (.cast .any B l (.cast A .any l x)) B
 | dynG {Γ e x A B l} : HR Γ e x A → Co A B → A.cp → B.cp → HR Γ (.cast A B l e) (.cast B.gr B l (.cast A A.gr l x)) B
 | dynU {Γ e x A B l} : HR Γ e x A → Co A B → A.cp → HR Γ (.cast A B l e) (.cast .any B l (.cast A.gr .any l (.cast A A.gr l x))) B
inductive WT : GC → GE → GT → Prop
 | var {Γ x A} : Γ x = some (A, A) → WT Γ (.var x) A
 | num {Γ n} : WT Γ (.num n) .int
 | tru {Γ b} : WT Γ (.tru b) .bool
 | lam {Γ x A B e} : WT (gup Γ x A A) e B → WT Γ (.lam x A e) (.fn A B)
 | app {Γ f a A B} : WT Γ f (.fn A B) → WT Γ a A → WT Γ (.app f a) B
 | ar {Γ s a b} : WT Γ a .int → WT Γ b .int → WT Γ (.ar s a b) (if s = true then .bool else .int)
 | ite {Γ c a b A} : WT Γ c .bool → WT Γ a A → WT Γ b A → WT Γ (.ite c a b) A
 | pair {Γ a b A B} : WT Γ a A → WT Γ b B → WT Γ (.pair a b) (.pr A B)
 | part {Γ s e A B} : WT Γ e (.pr A B) → WT Γ (.part s e) (if s = true then B else A)
 | cast {Γ e A B l} : WT Γ e A → Co A B → WT Γ (.cast A B l e) B
def gbk (A B : GT) (l : Int) (a : GE) : GE := if N5 A.ty B.ty = true then a else match a with
 | .cast C D m x => if A.ty.k = 1 ∧ D.ty.k = 1 ∧ N5 B.ty C.ty = true then x else .cast A B l (.cast C D m x)
 | a => .cast A B l a
def GE.simp : GE → GE
 | .var x => .var x
 | .num n => .num n
 | .tru b => .tru b
 | .lam x A e => .lam x A e.simp
 | .app f a => .app f.simp a.simp
 | .ar s a b => .ar s a.simp b.simp
 | .ite c a b => .ite c.simp a.simp b.simp
 | .pair a b => .pair a.simp b.simp
 | .part s e => .part s e.simp
 | .cast A B l e => gbk A B l e.simp
def GE.dynm : GE → GE
 | .var x => .var x
 | .num n => .num n
 | .tru b => .tru b
 | .lam x A e => .lam x A e.dynm
 | .app f a => .app f.dynm a.dynm
 | .ar s a b => .ar s a.dynm b.dynm
 | .ite c a b => .ite c.dynm a.dynm b.dynm
 | .pair a b => .pair a.dynm b.dynm
 | .part s e => .part s e.dynm
 | .cast A B l e => if A.ty.k = 1 ∨ B.ty.k = 1 then .cast A B l e.dynm else .cast .any B l (.cast A .any l e.dynm)
def B9d (t : Tm) : Tm := if t.k ≠ 14 then t else if N5 t.fr t.ty = true then kd t.ks 0 else if t.fr.k = 1 ∧ (kd t.ks 0).k = 14 ∧ (kd t.ks 0).ty.k = 1 ∧ N5 t.ty (kd t.ks 0).fr = true then kd (kd t.ks 0).ks 0 else t
def B9e (t : Tm) : Tm := if t.k ≠ 14 ∨ t.fr.k = 1 ∨ t.ty.k = 1 then t else N1 (N1 (kd t.ks 0) t.fr K1 t.lb) K1 t.ty t.lb
section
variable {cx : Cx} {k : Int} {nm : ByteArray} {num : Int} {ty fr : Ty} {lb : Int} {a b c a' b' c' : Tm} {T : Ty}
end
section
variable {D N : Int} {k : Int} {nm : ByteArray} {num : Int} {ty fr : Ty} {lb : Int} {a b c a' b' c' : Tm} {d d' : Int}
end
def Agr (a b : Tm) (n m : Int) : Prop := (Q3 a n).2.1 = 4 ∨ (Q3 a n).2.1 = 5 ∨ (Q3 b m).2.1 = 4 ∨ (Q3 b m).2.1 = 5 ∨
 ((Q3 a n).2.1 = 0 ∧ (Q3 b m).2.1 = 0 ∧ X3 (Q3 a n).1 = X3 (Q3 b m).1) ∨
 ((Q3 a n).2.1 = 2 ∧ (Q3 b m).2.1 = 2 ∧ (Q3 a n).2.2 = (Q3 b m).2.2)
def C0j (e : Tm) : Tm × Bool := if J1 e = true then (A0o B9d e, true) else (E2, false)
mutual
def lz : Tm → Tm
 | .mk k nm num ty fr lb ks => .mk k nm num ty fr (if k = 14 then 0 else lb) (lzL ks)
def lzL : List Tm → List Tm
 | [] => []
 | t :: ts => lz t :: lzL ts
end
def SL (r s : Stp) : Prop := r.2.1 = s.2.1 ∧ lz r.1 = lz s.1
abbrev LbV (t : Tm) : Prop := V0 (fun l => A0y l = true) t
mutual
def mRl : Tm → Int → Tm × Int
 | .mk k nm num ty fr lb ks, n => (.mk k nm num ty fr (if k = 14 then (A3x ks n).2 + 1 else lb) (A3x ks n).1, if k = 14 then (A3x ks n).2 + 1 else (A3x ks n).2)
def A3x : List Tm → Int → List Tm × Int
 | [], n => ([], n)
 | t :: ts, n => ((mRl t n).1 :: (A3x ts (mRl t n).2).1, (A3x ts (mRl t n).2).2)
end
def C0k (G : IM) : IM → Value → List A5 → Prop := M9 fun G' v => ∃ u cu t ct b, v = .tuple ⟨[.agg ⟨cu⟩, .agg ⟨ct⟩, .bool b]⟩ ∧ A8 G' u cu ∧ u.small ∧ D2 u ≤ 60 ∧ C3 G' t ct ∧ F4 t ∧ L4 t ≤ 960
def C0l (G : IM) : IM → Value → List A5 → Prop := M9 fun G' v => ∃ t cells l q c, v = .tuple ⟨[.agg ⟨cells⟩, .slice q l.length c]⟩ ∧ A8 G' t cells ∧ t.fit 100 ∧ Sl G' q l.length c 1 (A3P l) ∧ l.length ≤ 100
def C0m (ts : List Tm) (G : IM) : IM → Value → List A5 → Prop := M9 fun G' v => ∃ p c es, v = .slice p ts.length c ∧ D6 G' p ts.length c 9 es ∧ D9 G' ts es
def C0n (ts : List Ty) (G : IM) : IM → Value → List A5 → Prop := M9 fun G' v => ∃ p c es, v = .slice p ts.length c ∧ D6 G' p ts.length c 2 es ∧ H0 G' ts es
def srt (zs : List Int) : List Int := zs.mergeSort fun x y => decide (x ≤ y)
def C0o (t : Tm) : List Int := if J1 t = true then Lib.compact (srt ((A2V t).map Tm.lb)) else []
def C0p (t : Tm) : Tm × Bool := if J1 t = true ∧ (A2V t).length ≤ 99 then ((mRl t 0).1, true) else (E2, false)
mutual
def T8 : Tm → Prop
 | .mk k _ _ _ _ _ ks => (k = 14 → ks.length = 1) ∧ B2e ks
def B2e : List Tm → Prop
 | [] => True
 | t :: ts => T8 t ∧ B2e ts
end
def cq1 (t : Tm) : Prop := t.k = 14 → t.ks.length = 1
def TbR (r : Tm × Bool) : IM → Value → List A5 → Prop := M9 fun G' v => ∃ cells, v = .tuple ⟨[.agg ⟨cells⟩, .bool r.2]⟩ ∧ A8 G' r.1 cells
theorem TbR.mk {r : Tm × Bool} {x : Tm} {b : Bool} {G : IM} {cells : List Value} (h : r = (x, b)) (hr : A8 G x cells) : TbR r G (.tuple ⟨[.agg ⟨cells⟩, .bool b]⟩) [] := by
 subst h; exact ⟨rfl, cells, rfl, hr⟩
def C0q (e : Tm) : Tm × Bool := if J1 e = true then A61 (A0o B9e e) else (E2, false)
def C0r (e : Tm) (l : Int) : Tm × Bool := match B34 e with
 | some T => if A0y l = true then A61 (N1 (N1 e T K1 l) K1 T l) else (E2, false)
 | none => (E2, false)
def C0s (k a : Int) (s : MSt) : MSt ⊕ (Int × Int) :=
 if B1O k (s.st.drop (s.st.length - A2X k)) = true then mGo k a { s with at' := s.at' + 1, st := s.st.take (s.st.length - A2X k) } (s.st.drop (s.st.length - A2X k))
 else .inr (2, (A5R k).2.2)
section
variable {a : Int} {s : MSt} {v0 v1 : MV}
end
mutual
def MV.ok (n : Int) (N : Nat) : MV → Prop
 | .mk k num env parts => 0 ≤ k ∧ k ≤ 3 ∧ 0 ≤ num ∧ num ≤ 999 ∧ (k = 1 → num ≤ 1) ∧ (k = 2 → num ≤ n) ∧ (k = 3 → parts.length = 2) ∧ env.length ≤ N ∧ MV.okL n N env ∧ MV.okL n N parts
def MV.okL (n : Int) (N : Nat) : List MV → Prop
 | [] => True
 | v :: vs => v.ok n N ∧ MV.okL n N vs
end
structure MSt.ok (n : Int) (N : Nat) (s : MSt) : Prop where
 lo : 0 ≤ s.at'
 hi : s.at' ≤ n
 st : s.st.length ≤ N
 env : s.env.length ≤ N
 fr : s.fr.length ≤ N
 sto : ∀ v ∈ s.st, v.ok n N
 envo : ∀ v ∈ s.env, v.ok n N
 fro : ∀ f ∈ s.fr, 0 ≤ f.1 ∧ f.1 ≤ n ∧ f.2.length ≤ N ∧ ∀ v ∈ f.2, v.ok n N
section
variable {ops : List (Int × Int)} {t : Nat} {s s' : MSt}
end
section own
variable {P : Program} {Γ : L8} {env : M7} {hp : List A5} {G : IM} {ty : TypeId} {K : Po} {ops : Array Oper} {rest : List Oper}
variable {pos : String} {af : Array Edge} {gd : Option (Nat × Bool)}
end own
abbrev kI (k : Int) : Int := k
end Gw
end Go.Proofs.YtfpgncjeejickaaGreatDoor
