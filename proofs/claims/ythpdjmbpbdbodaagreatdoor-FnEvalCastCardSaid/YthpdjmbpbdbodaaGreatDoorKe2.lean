/-
  The reference model's tests of nodes. The reference model's scan of terms with casts. Types of terms with casts, in plain words over trees: what a node wants of its operands, and what it is. The laws' copies of types and terms. Copies of types and terms: the reference model's, the program's, the laws' of paths. Terms each node of which is changed, operands first; own copies. The reference model's count of nodes, its CastValid. The reference model's TermValid. slices.Clone of numbers, paths, AllPaths. AllPaths. append of a slice in memory that no longer changes, empty or not. The reference model's paths. The reference model's AllPaths. The law that AllPaths gives what the reference model gives: its walk. Nodes at paths, casts by their labels. The node of a term at a path. Where ways meet again. The reference model's drawn types: what they are made of, and how big they are. The reference model's drawn types, changed at random. The reference model's drawn types, changed at random. Terms without casts and types, in plain words. Strings: cut, put together, compared. The reference model's drawn terms: what they are made of, and how big they are.
-/
import Derived.Test.YthpdjmbpbdbodaaGreatDoorKe1
import Derived.Test.YthpdjmbpbdbodaaGreatDoorKe0
set_option linter.unusedVariables false
set_option linter.unusedSimpArgs false
set_option maxHeartbeats 0
set_option maxRecDepth 100000
set_option synthInstance.maxSize 4000
set_option synthInstance.maxHeartbeats 0
namespace Go.Proofs.YthpdjmbpbdbodaaGreatDoor
open Go Go.RowKit
namespace Gw
section blaws
variable {P : Program} {Γ : Ctx} {env : Env} {hp : List Ent} {G : IM} {ty : TypeId}
theorem pure_bneq_s {x y : Operand} {t t' : TypeId} {i : TyR} [hI : TyI P t i] (hd : i.desc = .bool) {r : Bool} (hx : evo env x = some (.bool r)) (hy : evo env y = some (.bool r)) :
  PureOp P Γ ⟨env, hp, G⟩ (.binOp .neq t x y t') ty (.bool false) := by
 have h := pure_bneq (P := P) (Γ := Γ) (hp := hp) (G := G) (t := t) (t' := t') (ty := ty) hd hx hy
 rwa [decide_eq_false (by simp)] at h
theorem pure_bneq_tf {x y : Operand} {t t' : TypeId} {i : TyR} [hI : TyI P t i] (hd : i.desc = .bool) (hx : evo env x = some (.bool true)) (hy : evo env y = some (.bool false)) :
  PureOp P Γ ⟨env, hp, G⟩ (.binOp .neq t x y t') ty (.bool true) := pure_bneq hd hx hy
theorem pure_bneq_ft {x y : Operand} {t t' : TypeId} {i : TyR} [hI : TyI P t i] (hd : i.desc = .bool) (hx : evo env x = some (.bool false)) (hy : evo env y = some (.bool true)) :
  PureOp P Γ ⟨env, hp, G⟩ (.binOp .neq t x y t') ty (.bool true) := pure_bneq hd hx hy
end blaws
theorem absLb_spec (n : Int) : ((1 ≤ absLb n ∧ absLb n ≤ 99) ↔ labelOk n = true) := by
 unfold absLb labelOk withinB
 simp only [Bool.or_eq_true, decide_eq_true_eq]
 split
 ·omega
 ·split <;> omega
theorem l4Own_fn (k : Int) (nm : ByteArray) (num : Int) (ty fr : Ty) (lb : Int) (ks : List Tm) (G : IM) (cells : List Value) (hr : RTm G (.mk k nm num ty fr lb ks) cells) (R : Bool)
  (hi : R = true ↔ nm = ⟨#[]⟩ ∧ num = 0 ∧ (1 ≤ absLb lb ∧ absLb lb ≤ 99) ∧ tValid ty = true ∧ tValid fr = true ∧ tCons fr ty = true) :
  Fn Tryz.prog 172 [.agg ⟨cells⟩] [] G (Val (.bool R) G) := by
 obtain ⟨tk, tks⟩ := ty
 obtain ⟨fk, fks⟩ := fr
 obtain ⟨pt, ct, pf, cf, p, c, es, rfl, hk, hnum, hlb, hty, hfr, hsl, hkl⟩ := hr.open9
 clear hr
 have o3 := sTypeValid_fn _ G _ hty
 have o4 := sTypeValid_fn _ G _ hfr
 have o6 := l1Abs_fn lb G
 refine fn_enter Tryz.func172 rfl Tryz.ntmps172 Tryz.results172 rfl ?_
 intro w0
 refine tS (tR ?_)
 refine sE (step_box_a rfl rfl) rfl (fun b3 => ?_)
 refine sQ (qA rfl) rfl (sD (nS (tS (tR (sQ (qF0 rfl) rfl (sL (lBs rfl rfl) rfl rfl ?_))))))
 refine seq_val rfl (o6) rfl rfl ?_
 refine sQ (qA rfl) rfl (sD (nS (tS (tR (sQ (qF0 rfl) rfl (sL (lBs rfl rfl) rfl rfl ?_))))))
 refine sB (pure_seql rfl rfl) rfl rfl (fun h19 => ?_) (fun h19 => ?_)
 refine sQ (qM rfl) rfl (sQ (qF0 rfl) rfl (sL (lBs rfl rfl) rfl rfl ?_))
 refine sB (qE rfl rfl) rfl rfl (fun h23 => ?_) (fun h23 => ?_)
 refine sQ (pPt rfl rfl) rfl (sQ (qM rfl) rfl (sQ (qM rfl) rfl (sB (pure_geq rfl rfl) rfl rfl (fun h27 => ?_) (fun h27 => ?_))))
 refine sQ (pPt rfl rfl) rfl (sQ (qM rfl) rfl (sQ (qM rfl) rfl (sB (pure_leq rfl rfl) rfl rfl (fun h31 => ?_) (fun h31 => ?_))))
 refine sQ (pPt rfl rfl) rfl (sQ (qM rfl) rfl (sQ (qF0 rfl) rfl (sL (lBa rfl rfl) rfl rfl ?_)))
 refine seq_valb rfl (o3) rfl rfl (fun h36 => ?_) (fun h36 => ?_)
 refine sQ (pPt rfl rfl) rfl (sQ (qM rfl) rfl (sQ (qF0 rfl) rfl (sL (lBa rfl rfl) rfl rfl ?_)))
 refine seq_valb rfl (o4) rfl rfl (fun h41 => ?_) (fun h41 => ?_)
 refine sQ (pPt rfl rfl) rfl (sQ (qM rfl) rfl (sQ (qF0 rfl) rfl (sL (lBa rfl rfl) rfl rfl ?_)))
 refine sQ (qF0 rfl) rfl (sL (lBa rfl rfl) rfl rfl ?_)
 refine seq_valb rfl (l1Consistent_fn _ _ G _ _ _ _ (by assumption) (by assumption) hfr hty) rfl rfl (fun h48 => ?_) (fun h48 => ?_)
 refine sQ (pPt rfl rfl) rfl (sQ (qA rfl) rfl (sD (nS (tT (rF1 (rT rfl) ?_)))))
 exact ⟨rfl, by rw [hi.2 ⟨by (first | assumption | exact Classical.not_not.1 (by assumption)), by omega, by omega, by assumption, by assumption, by assumption⟩], rfl⟩
 refine sQ (pPt rfl rfl) rfl (sQ (qA rfl) rfl (sD (nS (tT (rF1 (rT rfl) ?_)))))
 exact ⟨rfl, by (cases R with | false => rfl | true => (exfalso; obtain ⟨i1, i2, i3, i4, i5, i6⟩ := hi.1 rfl; first | omega | (simp_all; done))), rfl⟩
 refine sQ (pPt rfl rfl) rfl (sQ (qM rfl) rfl (sK rfl rfl (sK rfl rfl (sK rfl rfl (sK rfl rfl (sK rfl rfl ?_))))))
 refine sQ (pPf rfl rfl) rfl (sQ (qA rfl) rfl (sD (nS (tT (rF1 (rT rfl) ?_)))))
 exact ⟨rfl, by (cases R with | false => rfl | true => (exfalso; obtain ⟨i1, i2, i3, i4, i5, i6⟩ := hi.1 rfl; first | omega | (simp_all; done))), rfl⟩
 refine sQ (pPt rfl rfl) rfl (sQ (qM rfl) rfl (sK rfl rfl (sK rfl rfl (sK rfl rfl (sQ (pPf rfl rfl) rfl (sQ (qM rfl) rfl ?_))))))
 refine sK rfl rfl (sK rfl rfl (sK rfl rfl (sK rfl rfl (sK rfl rfl (sQ (pPf rfl rfl) rfl (sQ (qA rfl) rfl ?_))))))
 refine sD (nS (tT (rF1 (rT rfl) ?_)))
 exact ⟨rfl, by (cases R with | false => rfl | true => (exfalso; obtain ⟨i1, i2, i3, i4, i5, i6⟩ := hi.1 rfl; first | omega | (simp_all; done))), rfl⟩
 refine sQ (pPt rfl rfl) rfl (sQ (qM rfl) rfl (sK rfl rfl (sK rfl rfl (sK rfl rfl (sQ (pPf rfl rfl) rfl (sQ (qM rfl) rfl ?_))))))
 refine sK rfl rfl (sK rfl rfl (sK rfl rfl (sQ (pPf rfl rfl) rfl (sQ (qM rfl) rfl (sK rfl rfl (sK rfl rfl ?_))))))
 refine sK rfl rfl (sK rfl rfl (sK rfl rfl (sQ (pPf rfl rfl) rfl (sQ (qA rfl) rfl (sD (nS ?_))))))
 refine tT (rF1 (rT rfl) ?_)
 exact ⟨rfl, by (cases R with | false => rfl | true => (exfalso; obtain ⟨i1, i2, i3, i4, i5, i6⟩ := hi.1 rfl; first | omega | (simp_all; done))), rfl⟩
 refine sQ (pPt rfl rfl) rfl (sQ (qM rfl) rfl (sK rfl rfl (sK rfl rfl (sQ (pPf rfl rfl) rfl (sQ (qM rfl) rfl (sK rfl rfl ?_))))))
 refine sK rfl rfl (sK rfl rfl (sQ (pPf rfl rfl) rfl (sQ (qM rfl) rfl (sK rfl rfl (sK rfl rfl (sK rfl rfl ?_))))))
 refine sQ (pPf rfl rfl) rfl (sQ (qM rfl) rfl (sK rfl rfl (sK rfl rfl (sK rfl rfl (sK rfl rfl (sK rfl rfl ?_))))))
 refine sQ (pPf rfl rfl) rfl (sQ (qA rfl) rfl (sD (nS (tT (rF1 (rT rfl) ?_)))))
 exact ⟨rfl, by (cases R with | false => rfl | true => (exfalso; obtain ⟨i1, i2, i3, i4, i5, i6⟩ := hi.1 rfl; first | omega | (simp_all; done))), rfl⟩
 refine sQ (pPt rfl rfl) rfl (sQ (qM rfl) rfl (sK rfl rfl (sK rfl rfl (sQ (pPf rfl rfl) rfl (sQ (qM rfl) rfl (sK rfl rfl ?_))))))
 refine sK rfl rfl (sQ (pPf rfl rfl) rfl (sQ (qM rfl) rfl (sK rfl rfl (sK rfl rfl (sK rfl rfl (sQ (pPf rfl rfl) rfl ?_))))))
 refine sQ (qM rfl) rfl (sK rfl rfl (sK rfl rfl (sK rfl rfl (sQ (pPf rfl rfl) rfl (sQ (qM rfl) rfl (sK rfl rfl ?_))))))
 refine sK rfl rfl (sK rfl rfl (sK rfl rfl (sK rfl rfl (sQ (pPf rfl rfl) rfl (sQ (qA rfl) rfl (sD ?_))))))
 refine nS (tT (rF1 (rT rfl) ?_))
 exact ⟨rfl, by (cases R with | false => rfl | true => (exfalso; obtain ⟨i1, i2, i3, i4, i5, i6⟩ := hi.1 rfl; first | omega | (simp_all; done))), rfl⟩
 refine sQ (qM rfl) rfl (sK rfl rfl (sK rfl rfl (sK rfl rfl (sQ (pPf rfl rfl) rfl (sQ (qM rfl) rfl (sK rfl rfl ?_))))))
 refine sK rfl rfl (sQ (pPf rfl rfl) rfl (sQ (qM rfl) rfl (sK rfl rfl (sK rfl rfl (sQ (pPf rfl rfl) rfl (sQ (qM rfl) rfl ?_))))))
 refine sK rfl rfl (sK rfl rfl (sK rfl rfl (sQ (pPf rfl rfl) rfl (sQ (qM rfl) rfl (sK rfl rfl (sK rfl rfl ?_))))))
 refine sK rfl rfl (sQ (pPf rfl rfl) rfl (sQ (qM rfl) rfl (sK rfl rfl (sK rfl rfl (sK rfl rfl (sK rfl rfl ?_))))))
 refine sK rfl rfl (sQ (pPf rfl rfl) rfl (sQ (qA rfl) rfl (sD (nS (tT (rF1 (rT rfl) ?_))))))
 exact ⟨rfl, by (cases R with | false => rfl | true => (exfalso; obtain ⟨i1, i2, i3, i4, i5, i6⟩ := hi.1 rfl; first | omega | (simp_all; done))), rfl⟩
theorem l2Own_fn (k : Int) (nm : ByteArray) (num : Int) (ty fr : Ty) (lb : Int) (ks : List Tm) (G : IM) (cells : List Value) (hr : RTm G (.mk k nm num ty fr lb ks) cells) (R : Bool)
  (hi : R = true ↔ (k = 1 ∨ k = 5 → nameOk nm = true) ∧ (¬(k = 1 ∨ k = 5) → nm = ⟨#[]⟩) ∧ (k = 5 ∨ k = 13 ∨ k = 14 → tValid ty = true) ∧ (¬(k = 5 ∨ k = 13 ∨ k = 14) → tNone ty = true) ∧ (k ≠ 14 → tNone fr = true ∧ lb = 0) ∧ (k = 2 → 0 ≤ num ∧ num ≤ 999) ∧ (k ≠ 2 → num = 0)) :
  Fn Tryz.prog 167 [.agg ⟨cells⟩] [] G (Val (.bool R) G) := by
 have he : nm = ⟨#[]⟩ → nameOk nm = false := by rintro rfl; rfl
 obtain ⟨tk, tks⟩ := ty
 obtain ⟨fk, fks⟩ := fr
 obtain ⟨pt, ct, pf, cf, p, c, es, rfl, hk, hnum, hlb, hty, hfr, hsl, hkl⟩ := hr.open9
 clear hr
 have o2 := l2Name_fn nm G
 have o3 := sTypeValid_fn _ G _ hty
 have o4 := l2None_fn _ G _ hty
 have o7 := l2None_fn _ G _ hfr
 refine fn_enter Tryz.func167 rfl Tryz.ntmps167 Tryz.results167 rfl ?_
 intro w0
 refine tS (tR ?_)
 refine sE (step_box_a rfl rfl) rfl (fun b3 => ?_)
 refine sQ (qA rfl) rfl (sD (nS (tS (tR (sQ (qF0 rfl) rfl (sL (lBs rfl rfl) rfl rfl ?_))))))
 refine sB (qE rfl rfl) rfl rfl (fun h11 => ?_) (fun h11 => ?_)
 refine sQ (qM rfl) rfl (sK rfl rfl (sK rfl rfl (sK rfl rfl (sQ (pPt rfl rfl) rfl (sQ (qA rfl) rfl (sD ?_))))))
 refine nS (tS (tR (sQ (qF0 rfl) rfl (sL (lBs rfl rfl) rfl rfl ?_))))
 refine sP (pure_eql_f rfl rfl (by omega)) rfl rfl ?_
 refine sQ (qM rfl) rfl (sQ (qF0 rfl) rfl (sL (lBs rfl rfl) rfl rfl ?_))
 refine sP (pure_eql_f rfl rfl (by omega)) rfl rfl ?_
 refine sQ (pPf rfl rfl) rfl (sQ (qM rfl) rfl (sQ (qF0 rfl) rfl (sL (lBs rfl rfl) rfl rfl ?_)))
 refine sP (pure_eql_f rfl rfl (by omega)) rfl rfl ?_
 refine sQ (pPf rfl rfl) rfl (sQ (qA rfl) rfl (sD (nS (tS (tS (tR ?_))))))
 refine sQ (qM rfl) rfl (sQ (qF0 rfl) rfl (sL (lBs rfl rfl) rfl rfl ?_))
 refine seq_valb rfl (o2) rfl rfl (fun h44 => ?_) (fun h44 => ?_)
 refine sQ (pure_bneq_s rfl rfl rfl) rfl (sQ (qM rfl) rfl (sQ (qM rfl) rfl (sQ (pNt rfl) rfl (sQ (qM rfl) rfl (sK rfl rfl (sK rfl rfl ?_))))))
 refine sK rfl rfl (sQ (pPf rfl rfl) rfl (sQ (pPf rfl rfl) rfl (sQ (qM rfl) rfl (sQ (qM rfl) rfl (sQ (qM rfl) rfl (sK rfl rfl ?_))))))
 refine sK rfl rfl (sK rfl rfl (sK rfl rfl (sQ (pPf rfl rfl) rfl (sQ (pPf rfl rfl) rfl (sQ (qM rfl) rfl (sQ (qM rfl) rfl ?_))))))
 refine sQ (pNf rfl) rfl (sQ (qM rfl) rfl (sQ (qF0 rfl) rfl (sL (lBa rfl rfl) rfl rfl ?_)))
 refine seq_valb rfl (o4) rfl rfl (fun h70 => ?_) (fun h70 => ?_)
 refine sQ (pNt rfl) rfl (sQ (pPt rfl rfl) rfl (sQ (pPf rfl rfl) rfl (sD (nS (cF rfl ?_)))))
 refine tK (nS (tS (tS (tR (sQ (qF0 rfl) rfl (sL (lBs rfl rfl) rfl rfl ?_))))))
 refine sP (pure_neq_t rfl rfl (by omega)) rfl rfl ?_
 refine sQ (qM rfl) rfl (sQ (qF0 rfl) rfl (sL (lBa rfl rfl) rfl rfl ?_))
 refine seq_valb rfl (o7) rfl rfl (fun h88 => ?_) (fun h88 => ?_)
 refine sQ (pNt rfl) rfl (sQ (qM rfl) rfl (sQ (qF0 rfl) rfl (sL (lBs rfl rfl) rfl rfl ?_)))
 refine sB (pure_neq rfl rfl) rfl rfl (fun h93 => ?_) (fun h93 => ?_)
 refine sQ (pPf rfl rfl) rfl (sQ (pPt rfl rfl) rfl (sD (nS (qT rfl ?_))))
 refine tS (tR (sQ (qA rfl) rfl (sD (nS (tT (rS ?_))))))
 refine rF1 (rT rfl) ?_
 exact ⟨rfl, by (cases R with | false => rfl | true => (exfalso; obtain ⟨i1, i2, i3, i4, i5, i6, i7⟩ := hi.1 rfl; first | omega | (have j := i1 (by omega); simp_all; done) | (have j := he (i2 (by omega)); simp_all; done) | (have j := i2 (by omega); simp_all; done) | (have j := i3 (by omega); simp_all; done) | (have j := i4 (by omega); simp_all; done) | (have j := i5 (by omega); simp_all; done))), rfl⟩
 refine sQ (pPf rfl rfl) rfl (sQ (pPt rfl rfl) rfl (sD (nS (cF rfl ?_))))
 refine tK (nS (tS (tS (tR (sQ (qF0 rfl) rfl (sL (lBs rfl rfl) rfl rfl ?_))))))
 refine sP (pure_eql_f rfl rfl (by omega)) rfl rfl ?_
 refine sD (nS (cF rfl ?_))
 refine tK (nS (tS (tR (sQ (qF0 rfl) rfl (sL (lBs rfl rfl) rfl rfl ?_)))))
 refine sB (qE rfl rfl) rfl rfl (fun h130 => ?_) (fun h130 => ?_)
 refine sQ (qA rfl) rfl (sD (nS (tT (rF1 (rT rfl) ?_))))
 exact ⟨rfl, by rw [hi.2 ⟨fun _ => by (first | assumption | (exfalso; omega)), fun _ => by (first | assumption | (exfalso; omega) | exact Classical.not_not.1 (by assumption)), fun _ => by (first | assumption | (exfalso; omega)), fun _ => by (first | assumption | (exfalso; omega)), fun _ => ⟨by (first | assumption | (exfalso; omega)), by (first | assumption | omega)⟩, by omega, by omega⟩], rfl⟩
 refine sQ (qA rfl) rfl (sD (nS (tT (rF1 (rT rfl) ?_))))
 exact ⟨rfl, by (cases R with | false => rfl | true => (exfalso; obtain ⟨i1, i2, i3, i4, i5, i6, i7⟩ := hi.1 rfl; first | omega | (have j := i1 (by omega); simp_all; done) | (have j := he (i2 (by omega)); simp_all; done) | (have j := i2 (by omega); simp_all; done) | (have j := i3 (by omega); simp_all; done) | (have j := i4 (by omega); simp_all; done) | (have j := i5 (by omega); simp_all; done))), rfl⟩
 refine sQ (pNf rfl) rfl (sQ (qM rfl) rfl (sK rfl rfl (sK rfl rfl (sK rfl rfl (sQ (pPt rfl rfl) rfl (sQ (pPt rfl rfl) rfl ?_))))))
 refine sD (nS (qT rfl ?_))
 refine tS (tR (sQ (qA rfl) rfl (sD (nS (tT (rS ?_))))))
 refine rF1 (rT rfl) ?_
 exact ⟨rfl, by (cases R with | false => rfl | true => (exfalso; obtain ⟨i1, i2, i3, i4, i5, i6, i7⟩ := hi.1 rfl; first | omega | (have j := i1 (by omega); simp_all; done) | (have j := he (i2 (by omega)); simp_all; done) | (have j := i2 (by omega); simp_all; done) | (have j := i3 (by omega); simp_all; done) | (have j := i4 (by omega); simp_all; done) | (have j := i5 (by omega); simp_all; done))), rfl⟩
 refine sQ (pNf rfl) rfl (sQ (pPt rfl rfl) rfl (sQ (pPf rfl rfl) rfl (sD (nS (qT rfl ?_)))))
 refine tS (tR (sQ (qA rfl) rfl (sD (nS (tT (rS ?_))))))
 refine rF1 (rT rfl) ?_
 exact ⟨rfl, by (cases R with | false => rfl | true => (exfalso; obtain ⟨i1, i2, i3, i4, i5, i6, i7⟩ := hi.1 rfl; first | omega | (have j := i1 (by omega); simp_all; done) | (have j := he (i2 (by omega)); simp_all; done) | (have j := i2 (by omega); simp_all; done) | (have j := i3 (by omega); simp_all; done) | (have j := i4 (by omega); simp_all; done) | (have j := i5 (by omega); simp_all; done))), rfl⟩
 refine sQ (pure_bneq_tf rfl rfl rfl) rfl (sQ (qM rfl) rfl (sK rfl rfl (sK rfl rfl (sK rfl rfl (sK rfl rfl (sK rfl rfl ?_))))))
 refine sK rfl rfl (sK rfl rfl (sQ (pPt rfl rfl) rfl (sQ (qM rfl) rfl (sK rfl rfl (sK rfl rfl (sK rfl rfl ?_))))))
 refine sK rfl rfl (sK rfl rfl (sK rfl rfl (sK rfl rfl (sQ (pPt rfl rfl) rfl (sQ (qM rfl) rfl (sK rfl rfl ?_))))))
 refine sK rfl rfl (sK rfl rfl (sK rfl rfl (sK rfl rfl (sK rfl rfl (sK rfl rfl (sK rfl rfl ?_))))))
 refine sQ (pPt rfl rfl) rfl (sD (nS (qT rfl ?_)))
 refine tS (tR (sQ (qA rfl) rfl (sD (nS (tT (rS ?_))))))
 refine rF1 (rT rfl) ?_
 exact ⟨rfl, by (cases R with | false => rfl | true => (exfalso; obtain ⟨i1, i2, i3, i4, i5, i6, i7⟩ := hi.1 rfl; first | omega | (have j := i1 (by omega); simp_all; done) | (have j := he (i2 (by omega)); simp_all; done) | (have j := i2 (by omega); simp_all; done) | (have j := i3 (by omega); simp_all; done) | (have j := i4 (by omega); simp_all; done) | (have j := i5 (by omega); simp_all; done))), rfl⟩
 refine sQ (qM rfl) rfl (sQ (qF0 rfl) rfl (sL (lBs rfl rfl) rfl rfl ?_))
 refine sB (qE rfl rfl) rfl rfl (fun h221 => ?_) (fun h221 => ?_)
 refine sQ (pPf rfl rfl) rfl (sQ (qA rfl) rfl (sD (nS (tS (tR (sQ (qF0 rfl) rfl ?_))))))
 refine sL (lBs rfl rfl) rfl rfl ?_
 refine sP (pure_eql_t rfl rfl (by omega)) rfl rfl ?_
 refine sQ (qM rfl) rfl (sK rfl rfl (sK rfl rfl (sK rfl rfl (sQ (pPt rfl rfl) rfl (sQ (qM rfl) rfl (sK rfl rfl ?_))))))
 refine sK rfl rfl (sK rfl rfl (sQ (pPt rfl rfl) rfl (sQ (qA rfl) rfl (sD (nS (tS ?_))))))
 refine tS (tR (sQ (qM rfl) rfl (sQ (qF0 rfl) rfl (sL (lBs rfl rfl) rfl rfl ?_))))
 refine seq_valb rfl (o2) rfl rfl (fun h250 => ?_) (fun h250 => ?_)
 refine sQ (pure_bneq_s rfl rfl rfl) rfl (sQ (qM rfl) rfl (sQ (qM rfl) rfl (sQ (pNt rfl) rfl (sQ (qM rfl) rfl (sK rfl rfl (sK rfl rfl ?_))))))
 refine sK rfl rfl (sQ (pPf rfl rfl) rfl (sQ (pPf rfl rfl) rfl (sQ (qM rfl) rfl (sQ (qM rfl) rfl (sQ (qM rfl) rfl (sQ (qF0 rfl) rfl ?_))))))
 refine sL (lBa rfl rfl) rfl rfl ?_
 refine seq_valb rfl (o3) rfl rfl (fun h266 => ?_) (fun h266 => ?_)
 refine sQ (pNt rfl) rfl (sQ (pPt rfl rfl) rfl (sQ (pPf rfl rfl) rfl (sQ (qM rfl) rfl (sQ (qM rfl) rfl (sQ (pNt rfl) rfl (sQ (qM rfl) rfl ?_))))))
 refine sK rfl rfl (sK rfl rfl (sK rfl rfl (sK rfl rfl (sQ (pPf rfl rfl) rfl (sQ (pPf rfl rfl) rfl (sD ?_))))))
 refine nS (cF rfl ?_)
 refine tK (nS (tS (tS (tR (sQ (qF0 rfl) rfl (sL (lBs rfl rfl) rfl rfl ?_))))))
 refine sP (pure_neq_t rfl rfl (by omega)) rfl rfl ?_
 refine sQ (qM rfl) rfl (sQ (qF0 rfl) rfl (sL (lBa rfl rfl) rfl rfl ?_))
 refine seq_valb rfl (o7) rfl rfl (fun h294 => ?_) (fun h294 => ?_)
 refine sQ (pNt rfl) rfl (sQ (qM rfl) rfl (sQ (qF0 rfl) rfl (sL (lBs rfl rfl) rfl rfl ?_)))
 refine sB (pure_neq rfl rfl) rfl rfl (fun h299 => ?_) (fun h299 => ?_)
 refine sQ (pPf rfl rfl) rfl (sQ (pPt rfl rfl) rfl (sD (nS (qT rfl ?_))))
 refine tS (tR (sQ (qA rfl) rfl (sD (nS (tT (rS ?_))))))
 refine rF1 (rT rfl) ?_
 exact ⟨rfl, by (cases R with | false => rfl | true => (exfalso; obtain ⟨i1, i2, i3, i4, i5, i6, i7⟩ := hi.1 rfl; first | omega | (have j := i1 (by omega); simp_all; done) | (have j := he (i2 (by omega)); simp_all; done) | (have j := i2 (by omega); simp_all; done) | (have j := i3 (by omega); simp_all; done) | (have j := i4 (by omega); simp_all; done) | (have j := i5 (by omega); simp_all; done))), rfl⟩
 refine sQ (pPf rfl rfl) rfl (sQ (pPt rfl rfl) rfl (sD (nS (cF rfl ?_))))
 refine tK (nS (tS (tS (tR (sQ (qF0 rfl) rfl (sL (lBs rfl rfl) rfl rfl ?_))))))
 refine sP (pure_eql_f rfl rfl (by omega)) rfl rfl ?_
 refine sD (nS (cF rfl ?_))
 refine tK (nS (tS (tR (sQ (qF0 rfl) rfl (sL (lBs rfl rfl) rfl rfl ?_)))))
 refine sB (qE rfl rfl) rfl rfl (fun h336 => ?_) (fun h336 => ?_)
 refine sQ (qA rfl) rfl (sD (nS (tT (rF1 (rT rfl) ?_))))
 exact ⟨rfl, by rw [hi.2 ⟨fun _ => by (first | assumption | (exfalso; omega)), fun _ => by (first | assumption | (exfalso; omega) | exact Classical.not_not.1 (by assumption)), fun _ => by (first | assumption | (exfalso; omega)), fun _ => by (first | assumption | (exfalso; omega)), fun _ => ⟨by (first | assumption | (exfalso; omega)), by (first | assumption | omega)⟩, by omega, by omega⟩], rfl⟩
 refine sQ (qA rfl) rfl (sD (nS (tT (rF1 (rT rfl) ?_))))
 exact ⟨rfl, by (cases R with | false => rfl | true => (exfalso; obtain ⟨i1, i2, i3, i4, i5, i6, i7⟩ := hi.1 rfl; first | omega | (have j := i1 (by omega); simp_all; done) | (have j := he (i2 (by omega)); simp_all; done) | (have j := i2 (by omega); simp_all; done) | (have j := i3 (by omega); simp_all; done) | (have j := i4 (by omega); simp_all; done) | (have j := i5 (by omega); simp_all; done))), rfl⟩
 refine sQ (pNf rfl) rfl (sQ (qM rfl) rfl (sK rfl rfl (sK rfl rfl (sK rfl rfl (sQ (pPt rfl rfl) rfl (sQ (pPt rfl rfl) rfl ?_))))))
 refine sD (nS (qT rfl ?_))
 refine tS (tR (sQ (qA rfl) rfl (sD (nS (tT (rS ?_))))))
 refine rF1 (rT rfl) ?_
 exact ⟨rfl, by (cases R with | false => rfl | true => (exfalso; obtain ⟨i1, i2, i3, i4, i5, i6, i7⟩ := hi.1 rfl; first | omega | (have j := i1 (by omega); simp_all; done) | (have j := he (i2 (by omega)); simp_all; done) | (have j := i2 (by omega); simp_all; done) | (have j := i3 (by omega); simp_all; done) | (have j := i4 (by omega); simp_all; done) | (have j := i5 (by omega); simp_all; done))), rfl⟩
 refine sQ (pNf rfl) rfl (sQ (pPt rfl rfl) rfl (sQ (pPf rfl rfl) rfl (sQ (qM rfl) rfl (sK rfl rfl (sK rfl rfl (sK rfl rfl ?_))))))
 refine sK rfl rfl (sK rfl rfl (sK rfl rfl (sK rfl rfl (sK rfl rfl (sQ (pPt rfl rfl) rfl (sD ?_))))))
 refine nS (qT rfl ?_)
 refine tS (tR (sQ (qA rfl) rfl (sD (nS (tT (rS ?_))))))
 refine rF1 (rT rfl) ?_
 exact ⟨rfl, by (cases R with | false => rfl | true => (exfalso; obtain ⟨i1, i2, i3, i4, i5, i6, i7⟩ := hi.1 rfl; first | omega | (have j := i1 (by omega); simp_all; done) | (have j := he (i2 (by omega)); simp_all; done) | (have j := i2 (by omega); simp_all; done) | (have j := i3 (by omega); simp_all; done) | (have j := i4 (by omega); simp_all; done) | (have j := i5 (by omega); simp_all; done))), rfl⟩
 refine sQ (pure_bneq_tf rfl rfl rfl) rfl (sQ (qM rfl) rfl (sK rfl rfl (sK rfl rfl (sK rfl rfl (sK rfl rfl (sK rfl rfl ?_))))))
 refine sK rfl rfl (sK rfl rfl (sQ (pPt rfl rfl) rfl (sQ (qM rfl) rfl (sK rfl rfl (sK rfl rfl (sK rfl rfl ?_))))))
 refine sK rfl rfl (sK rfl rfl (sK rfl rfl (sK rfl rfl (sQ (pPt rfl rfl) rfl (sQ (qM rfl) rfl (sK rfl rfl ?_))))))
 refine sK rfl rfl (sK rfl rfl (sK rfl rfl (sK rfl rfl (sK rfl rfl (sK rfl rfl (sK rfl rfl ?_))))))
 refine sQ (pPt rfl rfl) rfl (sD (nS (qT rfl ?_)))
 refine tS (tR (sQ (qA rfl) rfl (sD (nS (tT (rS ?_))))))
 refine rF1 (rT rfl) ?_
 exact ⟨rfl, by (cases R with | false => rfl | true => (exfalso; obtain ⟨i1, i2, i3, i4, i5, i6, i7⟩ := hi.1 rfl; first | omega | (have j := i1 (by omega); simp_all; done) | (have j := he (i2 (by omega)); simp_all; done) | (have j := i2 (by omega); simp_all; done) | (have j := i3 (by omega); simp_all; done) | (have j := i4 (by omega); simp_all; done) | (have j := i5 (by omega); simp_all; done))), rfl⟩
 refine sQ (pPf rfl rfl) rfl (sQ (qA rfl) rfl (sD (nS (tS (tR (sQ (qF0 rfl) rfl ?_))))))
 refine sL (lBs rfl rfl) rfl rfl ?_
 refine sP (pure_eql_f rfl rfl (by omega)) rfl rfl ?_
 refine sQ (qM rfl) rfl (sQ (qF0 rfl) rfl (sL (lBs rfl rfl) rfl rfl ?_))
 refine sB (qE rfl rfl) rfl rfl (fun h446 => ?_) (fun h446 => ?_)
 refine sQ (pPf rfl rfl) rfl (sQ (qM rfl) rfl (sK rfl rfl (sK rfl rfl (sK rfl rfl (sQ (pPt rfl rfl) rfl (sQ (qA rfl) rfl ?_))))))
 refine sD (nS (tS (tS (tR (sQ (qM rfl) rfl (sQ (qF0 rfl) rfl ?_))))))
 refine sL (lBs rfl rfl) rfl rfl ?_
 refine seq_valb rfl (o2) rfl rfl (fun h462 => ?_) (fun h462 => ?_)
 refine sQ (pure_bneq_ft rfl rfl rfl) rfl (sQ (qM rfl) rfl (sK rfl rfl (sK rfl rfl (sK rfl rfl (sK rfl rfl (sK rfl rfl ?_))))))
 refine sK rfl rfl (sK rfl rfl (sQ (pPt rfl rfl) rfl (sQ (qM rfl) rfl (sK rfl rfl (sK rfl rfl (sK rfl rfl ?_))))))
 refine sK rfl rfl (sK rfl rfl (sK rfl rfl (sK rfl rfl (sQ (pPt rfl rfl) rfl (sQ (qM rfl) rfl (sK rfl rfl ?_))))))
 refine sK rfl rfl (sK rfl rfl (sK rfl rfl (sK rfl rfl (sK rfl rfl (sK rfl rfl (sK rfl rfl ?_))))))
 refine sQ (pPt rfl rfl) rfl (sD (nS (qT rfl ?_)))
 refine tS (tR (sQ (qA rfl) rfl (sD (nS (tT (rS ?_))))))
 refine rF1 (rT rfl) ?_
 exact ⟨rfl, by (cases R with | false => rfl | true => (exfalso; obtain ⟨i1, i2, i3, i4, i5, i6, i7⟩ := hi.1 rfl; first | omega | (have j := i1 (by omega); simp_all; done) | (have j := he (i2 (by omega)); simp_all; done) | (have j := i2 (by omega); simp_all; done) | (have j := i3 (by omega); simp_all; done) | (have j := i4 (by omega); simp_all; done) | (have j := i5 (by omega); simp_all; done))), rfl⟩
 refine sQ (pure_bneq_s rfl rfl rfl) rfl (sQ (qM rfl) rfl (sQ (qM rfl) rfl (sQ (pNf rfl) rfl (sQ (qM rfl) rfl (sQ (qF0 rfl) rfl (sL (lBs rfl rfl) rfl rfl ?_))))))
 refine sB (pure_sneq rfl rfl) rfl rfl (fun h511 => ?_) (fun h511 => ?_)
 refine sQ (pPt rfl rfl) rfl (sQ (pPf rfl rfl) rfl (sQ (qM rfl) rfl (sK rfl rfl (sK rfl rfl (sK rfl rfl (sK rfl rfl ?_))))))
 refine sK rfl rfl (sK rfl rfl (sK rfl rfl (sQ (pPt rfl rfl) rfl (sQ (qM rfl) rfl (sK rfl rfl (sK rfl rfl ?_))))))
 refine sK rfl rfl (sK rfl rfl (sK rfl rfl (sK rfl rfl (sK rfl rfl (sK rfl rfl (sQ (pPt rfl rfl) rfl ?_))))))
 refine sD (nS (qT rfl ?_))
 refine tS (tR (sQ (qA rfl) rfl (sD (nS (tT (rS ?_))))))
 refine rF1 (rT rfl) ?_
 exact ⟨rfl, by (cases R with | false => rfl | true => (exfalso; obtain ⟨i1, i2, i3, i4, i5, i6, i7⟩ := hi.1 rfl; first | omega | (have j := i1 (by omega); simp_all; done) | (have j := he (i2 (by omega)); simp_all; done) | (have j := i2 (by omega); simp_all; done) | (have j := i3 (by omega); simp_all; done) | (have j := i4 (by omega); simp_all; done) | (have j := i5 (by omega); simp_all; done))), rfl⟩
 refine sQ (pPt rfl rfl) rfl (sQ (pPf rfl rfl) rfl (sQ (qM rfl) rfl (sQ (qM rfl) rfl (sQ (qM rfl) rfl (sQ (qF0 rfl) rfl (sL (lBa rfl rfl) rfl rfl ?_))))))
 refine seq_valb rfl (o3) rfl rfl (fun h552 => ?_) (fun h552 => ?_)
 refine sQ (pNt rfl) rfl (sQ (pPt rfl rfl) rfl (sQ (pPf rfl rfl) rfl (sQ (qM rfl) rfl (sQ (qM rfl) rfl (sQ (pNt rfl) rfl (sQ (qM rfl) rfl ?_))))))
 refine sK rfl rfl (sK rfl rfl (sK rfl rfl (sK rfl rfl (sQ (pPf rfl rfl) rfl (sQ (pPf rfl rfl) rfl (sD ?_))))))
 refine nS (cF rfl ?_)
 refine tK (nS (tS (tS (tR (sQ (qF0 rfl) rfl (sL (lBs rfl rfl) rfl rfl ?_))))))
 refine sP (pure_neq_t rfl rfl (by omega)) rfl rfl ?_
 refine sQ (qM rfl) rfl (sQ (qF0 rfl) rfl (sL (lBa rfl rfl) rfl rfl ?_))
 refine seq_valb rfl (o7) rfl rfl (fun h580 => ?_) (fun h580 => ?_)
 refine sQ (pNt rfl) rfl (sQ (qM rfl) rfl (sQ (qF0 rfl) rfl (sL (lBs rfl rfl) rfl rfl ?_)))
 refine sB (pure_neq rfl rfl) rfl rfl (fun h585 => ?_) (fun h585 => ?_)
 refine sQ (pPf rfl rfl) rfl (sQ (pPt rfl rfl) rfl (sD (nS (qT rfl ?_))))
 refine tS (tR (sQ (qA rfl) rfl (sD (nS (tT (rS ?_))))))
 refine rF1 (rT rfl) ?_
 exact ⟨rfl, by (cases R with | false => rfl | true => (exfalso; obtain ⟨i1, i2, i3, i4, i5, i6, i7⟩ := hi.1 rfl; first | omega | (have j := i1 (by omega); simp_all; done) | (have j := he (i2 (by omega)); simp_all; done) | (have j := i2 (by omega); simp_all; done) | (have j := i3 (by omega); simp_all; done) | (have j := i4 (by omega); simp_all; done) | (have j := i5 (by omega); simp_all; done))), rfl⟩
 refine sQ (pPf rfl rfl) rfl (sQ (pPt rfl rfl) rfl (sD (nS (cF rfl ?_))))
 refine tK (nS (tS (tS (tR (sQ (qF0 rfl) rfl (sL (lBs rfl rfl) rfl rfl ?_))))))
 refine sP (pure_eql_f rfl rfl (by omega)) rfl rfl ?_
 refine sD (nS (cF rfl ?_))
 refine tK (nS (tS (tR (sQ (qF0 rfl) rfl (sL (lBs rfl rfl) rfl rfl ?_)))))
 refine sB (qE rfl rfl) rfl rfl (fun h622 => ?_) (fun h622 => ?_)
 refine sQ (qA rfl) rfl (sD (nS (tT (rF1 (rT rfl) ?_))))
 exact ⟨rfl, by rw [hi.2 ⟨fun _ => by (first | assumption | (exfalso; omega)), fun _ => by (first | assumption | (exfalso; omega) | exact Classical.not_not.1 (by assumption)), fun _ => by (first | assumption | (exfalso; omega)), fun _ => by (first | assumption | (exfalso; omega)), fun _ => ⟨by (first | assumption | (exfalso; omega)), by (first | assumption | omega)⟩, by omega, by omega⟩], rfl⟩
 refine sQ (qA rfl) rfl (sD (nS (tT (rF1 (rT rfl) ?_))))
 exact ⟨rfl, by (cases R with | false => rfl | true => (exfalso; obtain ⟨i1, i2, i3, i4, i5, i6, i7⟩ := hi.1 rfl; first | omega | (have j := i1 (by omega); simp_all; done) | (have j := he (i2 (by omega)); simp_all; done) | (have j := i2 (by omega); simp_all; done) | (have j := i3 (by omega); simp_all; done) | (have j := i4 (by omega); simp_all; done) | (have j := i5 (by omega); simp_all; done))), rfl⟩
 refine sQ (pNf rfl) rfl (sQ (qM rfl) rfl (sK rfl rfl (sK rfl rfl (sK rfl rfl (sQ (pPt rfl rfl) rfl (sQ (pPt rfl rfl) rfl ?_))))))
 refine sD (nS (qT rfl ?_))
 refine tS (tR (sQ (qA rfl) rfl (sD (nS (tT (rS ?_))))))
 refine rF1 (rT rfl) ?_
 exact ⟨rfl, by (cases R with | false => rfl | true => (exfalso; obtain ⟨i1, i2, i3, i4, i5, i6, i7⟩ := hi.1 rfl; first | omega | (have j := i1 (by omega); simp_all; done) | (have j := he (i2 (by omega)); simp_all; done) | (have j := i2 (by omega); simp_all; done) | (have j := i3 (by omega); simp_all; done) | (have j := i4 (by omega); simp_all; done) | (have j := i5 (by omega); simp_all; done))), rfl⟩
 refine sQ (pNf rfl) rfl (sQ (pPt rfl rfl) rfl (sQ (pPf rfl rfl) rfl (sQ (qM rfl) rfl (sK rfl rfl (sK rfl rfl (sK rfl rfl ?_))))))
 refine sK rfl rfl (sK rfl rfl (sK rfl rfl (sK rfl rfl (sK rfl rfl (sQ (pPt rfl rfl) rfl (sD ?_))))))
 refine nS (qT rfl ?_)
 refine tS (tR (sQ (qA rfl) rfl (sD (nS (tT (rS ?_))))))
 refine rF1 (rT rfl) ?_
 exact ⟨rfl, by (cases R with | false => rfl | true => (exfalso; obtain ⟨i1, i2, i3, i4, i5, i6, i7⟩ := hi.1 rfl; first | omega | (have j := i1 (by omega); simp_all; done) | (have j := he (i2 (by omega)); simp_all; done) | (have j := i2 (by omega); simp_all; done) | (have j := i3 (by omega); simp_all; done) | (have j := i4 (by omega); simp_all; done) | (have j := i5 (by omega); simp_all; done))), rfl⟩
 refine sQ (pPf rfl rfl) rfl (sQ (qM rfl) rfl (sQ (qF0 rfl) rfl (sL (lBs rfl rfl) rfl rfl ?_)))
 refine sB (qE rfl rfl) rfl rfl (fun h683 => ?_) (fun h683 => ?_)
 refine sQ (pPf rfl rfl) rfl (sQ (qA rfl) rfl (sD (nS (tS (tS (tR ?_))))))
 refine sQ (qM rfl) rfl (sQ (qF0 rfl) rfl (sL (lBs rfl rfl) rfl rfl ?_))
 refine seq_valb rfl (o2) rfl rfl (fun h694 => ?_) (fun h694 => ?_)
 refine sQ (pure_bneq_ft rfl rfl rfl) rfl (sQ (qM rfl) rfl (sK rfl rfl (sK rfl rfl (sK rfl rfl (sK rfl rfl (sK rfl rfl ?_))))))
 refine sK rfl rfl (sK rfl rfl (sQ (pPt rfl rfl) rfl (sQ (qM rfl) rfl (sK rfl rfl (sK rfl rfl (sK rfl rfl ?_))))))
 refine sK rfl rfl (sK rfl rfl (sK rfl rfl (sK rfl rfl (sQ (pPt rfl rfl) rfl (sQ (qM rfl) rfl (sK rfl rfl ?_))))))
 refine sK rfl rfl (sK rfl rfl (sK rfl rfl (sK rfl rfl (sK rfl rfl (sK rfl rfl (sK rfl rfl ?_))))))
 refine sQ (pPt rfl rfl) rfl (sD (nS (qT rfl ?_)))
 refine tS (tR (sQ (qA rfl) rfl (sD (nS (tT (rS ?_))))))
 refine rF1 (rT rfl) ?_
 exact ⟨rfl, by (cases R with | false => rfl | true => (exfalso; obtain ⟨i1, i2, i3, i4, i5, i6, i7⟩ := hi.1 rfl; first | omega | (have j := i1 (by omega); simp_all; done) | (have j := he (i2 (by omega)); simp_all; done) | (have j := i2 (by omega); simp_all; done) | (have j := i3 (by omega); simp_all; done) | (have j := i4 (by omega); simp_all; done) | (have j := i5 (by omega); simp_all; done))), rfl⟩
 refine sQ (pure_bneq_s rfl rfl rfl) rfl (sQ (qM rfl) rfl (sQ (qM rfl) rfl (sQ (pNf rfl) rfl (sQ (qM rfl) rfl (sQ (qF0 rfl) rfl (sL (lBs rfl rfl) rfl rfl ?_))))))
 refine sB (pure_sneq rfl rfl) rfl rfl (fun h743 => ?_) (fun h743 => ?_)
 refine sQ (pPt rfl rfl) rfl (sQ (pPf rfl rfl) rfl (sQ (qM rfl) rfl (sK rfl rfl (sK rfl rfl (sK rfl rfl (sK rfl rfl ?_))))))
 refine sK rfl rfl (sK rfl rfl (sK rfl rfl (sQ (pPt rfl rfl) rfl (sQ (qM rfl) rfl (sK rfl rfl (sK rfl rfl ?_))))))
 refine sK rfl rfl (sK rfl rfl (sK rfl rfl (sK rfl rfl (sK rfl rfl (sK rfl rfl (sQ (pPt rfl rfl) rfl ?_))))))
 refine sD (nS (qT rfl ?_))
 refine tS (tR (sQ (qA rfl) rfl (sD (nS (tT (rS ?_))))))
 refine rF1 (rT rfl) ?_
 exact ⟨rfl, by (cases R with | false => rfl | true => (exfalso; obtain ⟨i1, i2, i3, i4, i5, i6, i7⟩ := hi.1 rfl; first | omega | (have j := i1 (by omega); simp_all; done) | (have j := he (i2 (by omega)); simp_all; done) | (have j := i2 (by omega); simp_all; done) | (have j := i3 (by omega); simp_all; done) | (have j := i4 (by omega); simp_all; done) | (have j := i5 (by omega); simp_all; done))), rfl⟩
 refine sQ (pPt rfl rfl) rfl (sQ (pPf rfl rfl) rfl (sQ (qM rfl) rfl (sQ (qM rfl) rfl (sQ (qM rfl) rfl (sQ (qF0 rfl) rfl (sL (lBa rfl rfl) rfl rfl ?_))))))
 refine seq_valb rfl (o3) rfl rfl (fun h784 => ?_) (fun h784 => ?_)
 refine sQ (pNt rfl) rfl (sQ (pPt rfl rfl) rfl (sQ (pPf rfl rfl) rfl (sQ (qM rfl) rfl (sQ (qM rfl) rfl (sQ (pNt rfl) rfl (sQ (qM rfl) rfl ?_))))))
 refine sK rfl rfl (sK rfl rfl (sK rfl rfl (sK rfl rfl (sQ (pPf rfl rfl) rfl (sQ (pPf rfl rfl) rfl (sD ?_))))))
 refine nS (cF rfl ?_)
 refine tK (nS (tS (tS (tR (sQ (qF0 rfl) rfl (sL (lBs rfl rfl) rfl rfl ?_))))))
 refine sP (pure_neq_f rfl rfl (by omega)) rfl rfl ?_
 refine sQ (qM rfl) rfl (sK rfl rfl (sK rfl rfl (sK rfl rfl (sK rfl rfl (sK rfl rfl (sK rfl rfl ?_))))))
 refine sK rfl rfl (sK rfl rfl (sK rfl rfl (sQ (pPf rfl rfl) rfl (sD (nS (cF rfl ?_))))))
 refine tK (nS (tS (tS (tR (sQ (qF0 rfl) rfl (sL (lBs rfl rfl) rfl rfl ?_))))))
 refine sP (pure_eql_f rfl rfl (by omega)) rfl rfl ?_
 refine sD (nS (cF rfl ?_))
 refine tK (nS (tS (tR (sQ (qF0 rfl) rfl (sL (lBs rfl rfl) rfl rfl ?_)))))
 refine sB (qE rfl rfl) rfl rfl (fun h840 => ?_) (fun h840 => ?_)
 refine sQ (qA rfl) rfl (sD (nS (tT (rF1 (rT rfl) ?_))))
 exact ⟨rfl, by rw [hi.2 ⟨fun _ => by (first | assumption | (exfalso; omega)), fun _ => by (first | assumption | (exfalso; omega) | exact Classical.not_not.1 (by assumption)), fun _ => by (first | assumption | (exfalso; omega)), fun _ => by (first | assumption | (exfalso; omega)), fun _ => ⟨by (first | assumption | (exfalso; omega)), by (first | assumption | omega)⟩, by omega, by omega⟩], rfl⟩
 refine sQ (qA rfl) rfl (sD (nS (tT (rF1 (rT rfl) ?_))))
 exact ⟨rfl, by (cases R with | false => rfl | true => (exfalso; obtain ⟨i1, i2, i3, i4, i5, i6, i7⟩ := hi.1 rfl; first | omega | (have j := i1 (by omega); simp_all; done) | (have j := he (i2 (by omega)); simp_all; done) | (have j := i2 (by omega); simp_all; done) | (have j := i3 (by omega); simp_all; done) | (have j := i4 (by omega); simp_all; done) | (have j := i5 (by omega); simp_all; done))), rfl⟩
 refine sQ (pNf rfl) rfl (sQ (pPt rfl rfl) rfl (sQ (pPf rfl rfl) rfl (sQ (qM rfl) rfl (sK rfl rfl (sK rfl rfl (sK rfl rfl ?_))))))
 refine sK rfl rfl (sK rfl rfl (sK rfl rfl (sK rfl rfl (sK rfl rfl (sQ (pPt rfl rfl) rfl (sD ?_))))))
 refine nS (qT rfl ?_)
 refine tS (tR (sQ (qA rfl) rfl (sD (nS (tT (rS ?_))))))
 refine rF1 (rT rfl) ?_
 exact ⟨rfl, by (cases R with | false => rfl | true => (exfalso; obtain ⟨i1, i2, i3, i4, i5, i6, i7⟩ := hi.1 rfl; first | omega | (have j := i1 (by omega); simp_all; done) | (have j := he (i2 (by omega)); simp_all; done) | (have j := i2 (by omega); simp_all; done) | (have j := i3 (by omega); simp_all; done) | (have j := i4 (by omega); simp_all; done) | (have j := i5 (by omega); simp_all; done))), rfl⟩
 refine sQ (pPf rfl rfl) rfl (sQ (qA rfl) rfl (sD (nS (tS (tS (tR ?_))))))
 refine sQ (qM rfl) rfl (sQ (qF0 rfl) rfl (sL (lBs rfl rfl) rfl rfl ?_))
 refine seq_valb rfl (o2) rfl rfl (fun h888 => ?_) (fun h888 => ?_)
 refine sQ (pure_bneq_ft rfl rfl rfl) rfl (sQ (qM rfl) rfl (sK rfl rfl (sK rfl rfl (sK rfl rfl (sK rfl rfl (sK rfl rfl ?_))))))
 refine sK rfl rfl (sK rfl rfl (sQ (pPt rfl rfl) rfl (sQ (qM rfl) rfl (sK rfl rfl (sK rfl rfl (sK rfl rfl ?_))))))
 refine sK rfl rfl (sK rfl rfl (sK rfl rfl (sK rfl rfl (sQ (pPt rfl rfl) rfl (sQ (qM rfl) rfl (sK rfl rfl ?_))))))
 refine sK rfl rfl (sK rfl rfl (sK rfl rfl (sK rfl rfl (sK rfl rfl (sK rfl rfl (sK rfl rfl ?_))))))
 refine sQ (pPt rfl rfl) rfl (sD (nS (qT rfl ?_)))
 refine tS (tR (sQ (qA rfl) rfl (sD (nS (tT (rS ?_))))))
 refine rF1 (rT rfl) ?_
 exact ⟨rfl, by (cases R with | false => rfl | true => (exfalso; obtain ⟨i1, i2, i3, i4, i5, i6, i7⟩ := hi.1 rfl; first | omega | (have j := i1 (by omega); simp_all; done) | (have j := he (i2 (by omega)); simp_all; done) | (have j := i2 (by omega); simp_all; done) | (have j := i3 (by omega); simp_all; done) | (have j := i4 (by omega); simp_all; done) | (have j := i5 (by omega); simp_all; done))), rfl⟩
 refine sQ (pure_bneq_s rfl rfl rfl) rfl (sQ (qM rfl) rfl (sQ (qM rfl) rfl (sQ (pNf rfl) rfl (sQ (qM rfl) rfl (sQ (qF0 rfl) rfl (sL (lBs rfl rfl) rfl rfl ?_))))))
 refine sB (pure_sneq rfl rfl) rfl rfl (fun h937 => ?_) (fun h937 => ?_)
 refine sQ (pPt rfl rfl) rfl (sQ (pPf rfl rfl) rfl (sQ (qM rfl) rfl (sK rfl rfl (sK rfl rfl (sK rfl rfl (sK rfl rfl ?_))))))
 refine sK rfl rfl (sK rfl rfl (sK rfl rfl (sQ (pPt rfl rfl) rfl (sQ (qM rfl) rfl (sK rfl rfl (sK rfl rfl ?_))))))
 refine sK rfl rfl (sK rfl rfl (sK rfl rfl (sK rfl rfl (sK rfl rfl (sK rfl rfl (sQ (pPt rfl rfl) rfl ?_))))))
 refine sD (nS (qT rfl ?_))
 refine tS (tR (sQ (qA rfl) rfl (sD (nS (tT (rS ?_))))))
 refine rF1 (rT rfl) ?_
 exact ⟨rfl, by (cases R with | false => rfl | true => (exfalso; obtain ⟨i1, i2, i3, i4, i5, i6, i7⟩ := hi.1 rfl; first | omega | (have j := i1 (by omega); simp_all; done) | (have j := he (i2 (by omega)); simp_all; done) | (have j := i2 (by omega); simp_all; done) | (have j := i3 (by omega); simp_all; done) | (have j := i4 (by omega); simp_all; done) | (have j := i5 (by omega); simp_all; done))), rfl⟩
 refine sQ (pPt rfl rfl) rfl (sQ (pPf rfl rfl) rfl (sQ (qM rfl) rfl (sQ (qM rfl) rfl (sQ (qM rfl) rfl (sK rfl rfl (sK rfl rfl ?_))))))
 refine sK rfl rfl (sK rfl rfl (sQ (pPf rfl rfl) rfl (sQ (pPf rfl rfl) rfl (sQ (qM rfl) rfl (sQ (qM rfl) rfl (sQ (pNf rfl) rfl ?_))))))
 refine sQ (qM rfl) rfl (sQ (qF0 rfl) rfl (sL (lBa rfl rfl) rfl rfl ?_))
 refine seq_valb rfl (o4) rfl rfl (fun h988 => ?_) (fun h988 => ?_)
 refine sQ (pNt rfl) rfl (sQ (pPt rfl rfl) rfl (sQ (pPf rfl rfl) rfl (sD (nS (cF rfl ?_)))))
 refine tK (nS (tS (tS (tR (sQ (qF0 rfl) rfl (sL (lBs rfl rfl) rfl rfl ?_))))))
 refine sP (pure_neq_t rfl rfl (by omega)) rfl rfl ?_
 refine sQ (qM rfl) rfl (sQ (qF0 rfl) rfl (sL (lBa rfl rfl) rfl rfl ?_))
 refine seq_valb rfl (o7) rfl rfl (fun h1006 => ?_) (fun h1006 => ?_)
 refine sQ (pNt rfl) rfl (sQ (qM rfl) rfl (sQ (qF0 rfl) rfl (sL (lBs rfl rfl) rfl rfl ?_)))
 refine sB (pure_neq rfl rfl) rfl rfl (fun h1011 => ?_) (fun h1011 => ?_)
 refine sQ (pPf rfl rfl) rfl (sQ (pPt rfl rfl) rfl (sD (nS (qT rfl ?_))))
 refine tS (tR (sQ (qA rfl) rfl (sD (nS (tT (rS ?_))))))
 refine rF1 (rT rfl) ?_
 exact ⟨rfl, by (cases R with | false => rfl | true => (exfalso; obtain ⟨i1, i2, i3, i4, i5, i6, i7⟩ := hi.1 rfl; first | omega | (have j := i1 (by omega); simp_all; done) | (have j := he (i2 (by omega)); simp_all; done) | (have j := i2 (by omega); simp_all; done) | (have j := i3 (by omega); simp_all; done) | (have j := i4 (by omega); simp_all; done) | (have j := i5 (by omega); simp_all; done))), rfl⟩
 refine sQ (pPf rfl rfl) rfl (sQ (pPt rfl rfl) rfl (sD (nS (cF rfl ?_))))
 refine tK (nS (tS (tS (tR (sQ (qF0 rfl) rfl (sL (lBs rfl rfl) rfl rfl ?_))))))
 refine sB (qE rfl rfl) rfl rfl (fun h1038 => ?_) (fun h1038 => ?_)
 refine sD (nS (qT rfl ?_))
 refine tS (tR (sQ (qF0 rfl) rfl (sL (lBs rfl rfl) rfl rfl ?_)))
 refine sB (pure_geq rfl rfl) rfl rfl (fun h1046 => ?_) (fun h1046 => ?_)
 refine sQ (qM rfl) rfl (sQ (qF0 rfl) rfl (sL (lBs rfl rfl) rfl rfl ?_))
 refine sB (pure_leq rfl rfl) rfl rfl (fun h1050 => ?_) (fun h1050 => ?_)
 refine sQ (pPt rfl rfl) rfl (sQ (qA rfl) rfl (sD (nS (tT (rS (rF1 (rT rfl) ?_))))))
 exact ⟨rfl, by rw [hi.2 ⟨fun _ => by (first | assumption | (exfalso; omega)), fun _ => by (first | assumption | (exfalso; omega) | exact Classical.not_not.1 (by assumption)), fun _ => by (first | assumption | (exfalso; omega)), fun _ => by (first | assumption | (exfalso; omega)), fun _ => ⟨by (first | assumption | (exfalso; omega)), by (first | assumption | omega)⟩, by omega, by omega⟩], rfl⟩
 refine sQ (pPt rfl rfl) rfl (sQ (qA rfl) rfl (sD (nS (tT (rS (rF1 (rT rfl) ?_))))))
 exact ⟨rfl, by (cases R with | false => rfl | true => (exfalso; obtain ⟨i1, i2, i3, i4, i5, i6, i7⟩ := hi.1 rfl; first | omega | (have j := i1 (by omega); simp_all; done) | (have j := he (i2 (by omega)); simp_all; done) | (have j := i2 (by omega); simp_all; done) | (have j := i3 (by omega); simp_all; done) | (have j := i4 (by omega); simp_all; done) | (have j := i5 (by omega); simp_all; done))), rfl⟩
 refine sQ (qM rfl) rfl (sK rfl rfl (sK rfl rfl (sK rfl rfl (sQ (pPf rfl rfl) rfl (sQ (qA rfl) rfl (sD ?_))))))
 refine nS (tT (rS (rF1 (rT rfl) ?_)))
 exact ⟨rfl, by (cases R with | false => rfl | true => (exfalso; obtain ⟨i1, i2, i3, i4, i5, i6, i7⟩ := hi.1 rfl; first | omega | (have j := i1 (by omega); simp_all; done) | (have j := he (i2 (by omega)); simp_all; done) | (have j := i2 (by omega); simp_all; done) | (have j := i3 (by omega); simp_all; done) | (have j := i4 (by omega); simp_all; done) | (have j := i5 (by omega); simp_all; done))), rfl⟩
 refine sD (nS (cF rfl ?_))
 refine tK (nS (tS (tR (sQ (qF0 rfl) rfl (sL (lBs rfl rfl) rfl rfl ?_)))))
 refine sB (qE rfl rfl) rfl rfl (fun h1088 => ?_) (fun h1088 => ?_)
 refine sQ (qA rfl) rfl (sD (nS (tT (rF1 (rT rfl) ?_))))
 exact ⟨rfl, by rw [hi.2 ⟨fun _ => by (first | assumption | (exfalso; omega)), fun _ => by (first | assumption | (exfalso; omega) | exact Classical.not_not.1 (by assumption)), fun _ => by (first | assumption | (exfalso; omega)), fun _ => by (first | assumption | (exfalso; omega)), fun _ => ⟨by (first | assumption | (exfalso; omega)), by (first | assumption | omega)⟩, by omega, by omega⟩], rfl⟩
 refine sQ (qA rfl) rfl (sD (nS (tT (rF1 (rT rfl) ?_))))
 exact ⟨rfl, by (cases R with | false => rfl | true => (exfalso; obtain ⟨i1, i2, i3, i4, i5, i6, i7⟩ := hi.1 rfl; first | omega | (have j := i1 (by omega); simp_all; done) | (have j := he (i2 (by omega)); simp_all; done) | (have j := i2 (by omega); simp_all; done) | (have j := i3 (by omega); simp_all; done) | (have j := i4 (by omega); simp_all; done) | (have j := i5 (by omega); simp_all; done))), rfl⟩
 refine sQ (pNf rfl) rfl (sQ (qM rfl) rfl (sK rfl rfl (sK rfl rfl (sK rfl rfl (sQ (pPt rfl rfl) rfl (sQ (pPt rfl rfl) rfl ?_))))))
 refine sD (nS (qT rfl ?_))
 refine tS (tR (sQ (qA rfl) rfl (sD (nS (tT (rS ?_))))))
 refine rF1 (rT rfl) ?_
 exact ⟨rfl, by (cases R with | false => rfl | true => (exfalso; obtain ⟨i1, i2, i3, i4, i5, i6, i7⟩ := hi.1 rfl; first | omega | (have j := i1 (by omega); simp_all; done) | (have j := he (i2 (by omega)); simp_all; done) | (have j := i2 (by omega); simp_all; done) | (have j := i3 (by omega); simp_all; done) | (have j := i4 (by omega); simp_all; done) | (have j := i5 (by omega); simp_all; done))), rfl⟩
 refine sQ (pNf rfl) rfl (sQ (pPt rfl rfl) rfl (sQ (pPf rfl rfl) rfl (sD (nS (qT rfl ?_)))))
 refine tS (tR (sQ (qA rfl) rfl (sD (nS (tT (rS ?_))))))
 refine rF1 (rT rfl) ?_
 exact ⟨rfl, by (cases R with | false => rfl | true => (exfalso; obtain ⟨i1, i2, i3, i4, i5, i6, i7⟩ := hi.1 rfl; first | omega | (have j := i1 (by omega); simp_all; done) | (have j := he (i2 (by omega)); simp_all; done) | (have j := i2 (by omega); simp_all; done) | (have j := i3 (by omega); simp_all; done) | (have j := i4 (by omega); simp_all; done) | (have j := i5 (by omega); simp_all; done))), rfl⟩
mutual
def sShape (D N : Int) : Tm → Int → Bool
 | .mk k nm num ty fr lb ks, deep => decide (deep ≤ D) && decide (k ≠ N) && tmNode k nm num ty fr lb ks.length && sShapeL D N ks (deep + 1)
def sShapeL (D N : Int) : List Tm → Int → Bool
 | [], _ => true
 | t :: ts, deep => sShape D N t deep && sShapeL D N ts deep
end
theorem sShapeL_iff (D N : Int) : ∀ (ts : List Tm) (d : Int), sShapeL D N ts d = true ↔ ∀ i, (h : i < ts.length) → sShape D N ts[i] d = true
 | [], d => by simp [sShapeL]
 | t :: ts, d => by
  simp only [sShapeL, Bool.and_eq_true, sShapeL_iff D N ts d]
  constructor
  ·rintro ⟨h1, h2⟩ i hi
   cases i with
   | zero => exact h1
   | succ i => exact h2 i (by simpa using hi)
  ·intro h
   exact ⟨h 0 (by simp), fun i hi => h (i + 1) (by simpa using hi)⟩
theorem sShape_no {D N : Int} {k : Int} {nm : ByteArray} {num : Int} {ty fr : Ty} {lb : Int} {ks : List Tm} {d : Int} (h : D < d ∨ k = N ∨ tmNode k nm num ty fr lb ks.length = false) : sShape D N (.mk k nm num ty fr lb ks) d = false := by
 rw [sShape]
 rcases h with h | h | h
 ·rw [decide_eq_false (by omega)]; rfl
 ·rw [decide_eq_false (p := k ≠ N) (by omega), Bool.and_false]; rfl
 ·rw [h, Bool.and_false]; rfl
theorem sShape_go {D N : Int} {k : Int} {nm : ByteArray} {num : Int} {ty fr : Ty} {lb : Int} {ks : List Tm} {d : Int} (h1 : d ≤ D) (h2 : k ≠ N) (h3 : tmNode k nm num ty fr lb ks.length = true) : sShape D N (.mk k nm num ty fr lb ks) d = sShapeL D N ks (d + 1) := by
 rw [sShape, decide_eq_true h1, decide_eq_true h2, h3]; rfl
theorem sShapeL_f {D N : Int} {ks : List Tm} {d : Int} {i : Nat} (hi : i < ks.length) (h : sShape D N ks[i] d = false) : sShapeL D N ks d = false := by
 cases hx : sShapeL D N ks d with
 | false => rfl
 | true => rw [(sShapeL_iff D N ks d).1 hx i hi] at h; cases h
theorem tmNode_14 {k : Int} {nm : ByteArray} {num : Int} {ty fr : Ty} {lb : Int} {n : Nat} (hk : k = 14) (ha : tmOps k = n) : tmNode k nm num ty fr lb n = true ↔ nm = ⟨#[]⟩ ∧ num = 0 ∧ (1 ≤ absLb lb ∧ absLb lb ≤ 99) ∧ tValid ty = true ∧ tValid fr = true ∧ tCons fr ty = true := by
 rw [tmNode_iff, absLb_spec]
 simp only [withinB, tConsistent, decide_eq_true_eq, Bool.and_eq_true]
 constructor
 ·rintro ⟨_, _, h3, _, h5, h6, _, h8, _⟩
  have h8 := h8 hk
  exact ⟨h3 (by omega), by have := h5 (by omega); omega, h8.2, h6 (by omega), h8.1.1.1, h8.1.2⟩
 ·rintro ⟨h1, h2, h3, h4, h5, h6⟩
  exact ⟨ha, fun h => absurd h (by omega), fun _ => h1, fun h => absurd h (by omega), fun _ => by omega, fun _ => h4, fun h => absurd h (by omega), fun _ => ⟨⟨⟨h5, h4⟩, h6⟩, h3⟩, fun h => absurd hk h⟩
theorem tmNode_ne {k : Int} {nm : ByteArray} {num : Int} {ty fr : Ty} {lb : Int} {n : Nat} (hk : k ≠ 14) (ha : tmOps k = n) : tmNode k nm num ty fr lb n = true ↔
  (k = 1 ∨ k = 5 → nameOk nm = true) ∧ (¬(k = 1 ∨ k = 5) → nm = ⟨#[]⟩) ∧ (k = 5 ∨ k = 13 ∨ k = 14 → tValid ty = true) ∧ (¬(k = 5 ∨ k = 13 ∨ k = 14) → tNone ty = true) ∧ (k ≠ 14 → tNone fr = true ∧ lb = 0) ∧ (k = 2 → 0 ≤ num ∧ num ≤ 999) ∧ (k ≠ 2 → num = 0) := by
 rw [tmNode_iff]
 simp only [withinB, decide_eq_true_eq]
 constructor
 ·rintro ⟨_, h2, h3, h4, h5, h6, h7, _, h9⟩
  exact ⟨h2, h3, h6, h7, h9, h4, fun h => by have := h5 h; omega⟩
 ·rintro ⟨h2, h3, h6, h7, h9, h4, h5⟩
  exact ⟨ha, h2, h3, h4, fun h => by have := h5 h; omega, h6, h7, fun h => absurd h hk, h9⟩
theorem l4Shape_fn : ∀ (t : Tm) (d : Int) (G : IM) (cells : List Value), 0 ≤ d ∧ d ≤ 40 → RTm G t cells →
  Fn Tryz.prog 145 [.agg ⟨cells⟩, .int .i64 d] [] G (Val (.bool (sShape 40 13 t (41 - d))) G) := by
 refine Tm.ind fun k nm num ty fr lb ks ih d G cells hd hr => ?_
 have hr0 := hr
 have h14 := fun h : k = 14 => @tmNode_14 k nm num ty fr lb ks.length h
 have hne := fun h : k ≠ 14 => @tmNode_ne k nm num ty fr lb ks.length h
 have har := fun h : tmNode k nm num ty fr lb ks.length = true => (tmNode_iff.1 h).1
 obtain ⟨R, hR⟩ : ∃ R, tmNode k nm num ty fr lb ks.length = R := ⟨_, rfl⟩
 rw [hR] at h14 hne har
 have hlo := l4Own_fn k nm num ty fr lb ks G cells hr0 R
 have hl2 := l2Own_fn k nm num ty fr lb ks G cells hr0 R
 have hk1 := l2Kids_fn k G
 obtain ⟨tk, tks⟩ := ty
 obtain ⟨fk, fks⟩ := fr
 obtain ⟨pt, ct, pf, cf, p, c, es, rfl, hk, hnum, hlb, hty, hfr, hsl, hkl⟩ := hr.open9
 have hn := hsl.le
 clear hr hr0
 refine fn_enter Tryz.func145 rfl Tryz.ntmps145 Tryz.results145 rfl ?_
 intro w0
 refine tS (tR ?_)
 refine sE (step_box_a rfl rfl) rfl (fun b3 => ?_)
 refine sQ (qA rfl) rfl (sD (nS (tS (tS (tri_draw mixed rfl ?_)))))
 refine any_pure (i := 0) (l' := [tt,ff,ff,ff,ff,ff,ff,ff,ff,ff,ff,ff,ff,ff,ff,ff,ff,ff,ff,ff,ff,ff,ff,ff,ff,ff,ff,ff,ff,ff,ff,ff,ff,ff,ff,ff]) rfl npI (qM rfl) rfl (by kernel_rfl) rfl rfl ?_
 refine any_bool (i := 1) (l' := [tt,tt,ff,ff,ff,ff,ff,ff,ff,ff,ff,ff,ff,ff,ff,ff,ff,ff,ff,ff,ff,ff,ff,ff,ff,ff,ff,ff,ff,ff,ff,ff,ff,ff,ff,ff]) rfl npI (pure_lss rfl rfl) rfl (by kernel_rfl) rfl rfl (fun h11 => ?_) (fun h11 => ?_)
 refine aP 2 rfl (qM rfl) rfl ?_
 refine aK' 3 rfl rfl rfl ?_
 refine aK' 4 rfl rfl rfl ?_
 refine aK' 6 rfl rfl rfl ?_
 refine aK' 7 rfl rfl rfl ?_
 refine aK' 8 rfl rfl rfl ?_
 refine aK' 5 rfl rfl rfl ?_
 refine aK' 9 rfl rfl rfl ?_
 refine aP 10 rfl (pPt rfl rfl) rfl ?_
 refine aP 11 rfl (qM rfl) rfl ?_
 refine aK' 12 rfl rfl rfl ?_
 refine aK' 13 rfl rfl rfl ?_
 refine aK' 14 rfl rfl rfl ?_
 refine aP 15 rfl (pPt rfl rfl) rfl ?_
 refine aP 16 rfl (qM rfl) rfl ?_
 refine aK' 17 rfl rfl rfl ?_
 refine aK' 18 rfl rfl rfl ?_
 refine aK' 19 rfl rfl rfl ?_
 refine aK' 20 rfl rfl rfl ?_
 refine aK' 21 rfl rfl rfl ?_
 refine aK' 22 rfl rfl rfl ?_
 refine aK' 23 rfl rfl rfl ?_
 refine aK' 24 rfl rfl rfl ?_
 refine aP 25 rfl (pPt rfl rfl) rfl ?_
 refine aP 26 rfl (qM rfl) rfl ?_
 refine aK' 27 rfl rfl rfl ?_
 refine aK' 28 rfl rfl rfl ?_
 refine aK' 29 rfl rfl rfl ?_
 refine aK' 30 rfl rfl rfl ?_
 refine aK' 31 rfl rfl rfl ?_
 refine aK' 32 rfl rfl rfl ?_
 refine aK' 33 rfl rfl rfl ?_
 refine aK' 34 rfl rfl rfl ?_
 refine aP 35 rfl (pPt rfl rfl) rfl ?_
 refine aD' ?_
 refine nS (qT rfl ?_)
 refine tS (tR (sQ (qA rfl) rfl (sD (nS (tT (rS ?_))))))
 refine rF1 (rT rfl) ?_
 (rw [sShape_no (by rw [hR]; first | omega | exact .inr (.inr (by assumption)) | exact .inr (.inr (by cases R with | false => rfl | true => exact absurd (har rfl) (by omega))))]; exact ⟨rfl, rfl, rfl⟩)
 refine aP 2 rfl (qM rfl) rfl ?_
 refine aP 3 rfl (qF0 rfl) rfl ?_
 refine aL 4 rfl (lBs rfl rfl) rfl ?_
 refine aP 6 rfl (qF0 rfl) rfl ?_
 refine aL 7 rfl (lBs rfl rfl) rfl ?_
 refine aP 8 rfl (pLn rfl rfl) rfl ?_
 refine aO' 5 ?_
 refine one_val rfl rfl (hk1) rfl rfl rfl ?_
 refine any_bool (i := 9) (l' := [tt,tt,tt,tt,tt,tt,tt,tt,tt,tt,ff,ff,ff,ff,ff,ff,ff,ff,ff,ff,ff,ff,ff,ff,ff,ff,ff,ff,ff,ff,ff,ff,ff,ff,ff,ff]) rfl npI (pure_neq rfl rfl) rfl (by kernel_rfl) rfl rfl (fun h66 => ?_) (fun h66 => ?_)
 refine aP 10 rfl (pPf rfl rfl) rfl ?_
 refine aP 11 rfl (qM rfl) rfl ?_
 refine aK' 12 rfl rfl rfl ?_
 refine aK' 13 rfl rfl rfl ?_
 refine aK' 14 rfl rfl rfl ?_
 refine aP 15 rfl (pPt rfl rfl) rfl ?_
 refine aP 16 rfl (qM rfl) rfl ?_
 refine aK' 17 rfl rfl rfl ?_
 refine aK' 18 rfl rfl rfl ?_
 refine aK' 19 rfl rfl rfl ?_
 refine aK' 20 rfl rfl rfl ?_
 refine aK' 21 rfl rfl rfl ?_
 refine aK' 22 rfl rfl rfl ?_
 refine aK' 23 rfl rfl rfl ?_
 refine aK' 24 rfl rfl rfl ?_
 refine aP 25 rfl (pPt rfl rfl) rfl ?_
 refine aP 26 rfl (qM rfl) rfl ?_
 refine aK' 27 rfl rfl rfl ?_
 refine aK' 28 rfl rfl rfl ?_
 refine aK' 29 rfl rfl rfl ?_
 refine aK' 30 rfl rfl rfl ?_
 refine aK' 31 rfl rfl rfl ?_
 refine aK' 32 rfl rfl rfl ?_
 refine aK' 33 rfl rfl rfl ?_
 refine aK' 34 rfl rfl rfl ?_
 refine aP 35 rfl (pPt rfl rfl) rfl ?_
 refine aD' ?_
 refine nS (qT rfl ?_)
 refine tS (tR (sQ (qA rfl) rfl (sD (nS (tT (rS ?_))))))
 refine rF1 (rT rfl) ?_
 (rw [sShape_no (by rw [hR]; first | omega | exact .inr (.inr (by assumption)) | exact .inr (.inr (by cases R with | false => rfl | true => exact absurd (har rfl) (by omega))))]; exact ⟨rfl, rfl, rfl⟩)
 refine aP 10 rfl (pPf rfl rfl) rfl ?_
 refine aP 11 rfl (qM rfl) rfl ?_
 refine aP 12 rfl (qF0 rfl) rfl ?_
 refine aL 13 rfl (lBs rfl rfl) rfl ?_
 refine any_bool (i := 14) (l' := [tt,tt,tt,tt,tt,tt,tt,tt,tt,tt,tt,tt,tt,tt,tt,ff,ff,ff,ff,ff,ff,ff,ff,ff,ff,ff,ff,ff,ff,ff,ff,ff,ff,ff,ff,ff]) rfl npI (qE rfl rfl) rfl (by kernel_rfl) rfl rfl (fun h109 => ?_) (fun h109 => ?_)
 refine aP 15 rfl (pPf rfl rfl) rfl ?_
 refine aP 16 rfl (qM rfl) rfl ?_
 refine aK' 17 rfl rfl rfl ?_
 refine aK' 18 rfl rfl rfl ?_
 refine aK' 19 rfl rfl rfl ?_
 refine aK' 20 rfl rfl rfl ?_
 refine aK' 21 rfl rfl rfl ?_
 refine aK' 22 rfl rfl rfl ?_
 refine aK' 23 rfl rfl rfl ?_
 refine aK' 24 rfl rfl rfl ?_
 refine aP 25 rfl (pPt rfl rfl) rfl ?_
 refine aP 26 rfl (qM rfl) rfl ?_
 refine aK' 27 rfl rfl rfl ?_
 refine aK' 28 rfl rfl rfl ?_
 refine aK' 29 rfl rfl rfl ?_
 refine aK' 30 rfl rfl rfl ?_
 refine aK' 31 rfl rfl rfl ?_
 refine aK' 32 rfl rfl rfl ?_
 refine aK' 33 rfl rfl rfl ?_
 refine aK' 34 rfl rfl rfl ?_
 refine aP 35 rfl (pPt rfl rfl) rfl ?_
 refine aD' ?_
 refine nS (qT rfl ?_)
 refine tS (tR (sQ (qA rfl) rfl (sD (nS (tT (rS ?_))))))
 refine rF1 (rT rfl) ?_
 (rw [sShape_no (by rw [hR]; first | omega | exact .inr (.inr (by assumption)) | exact .inr (.inr (by cases R with | false => rfl | true => exact absurd (har rfl) (by omega))))]; exact ⟨rfl, rfl, rfl⟩)
 refine aP 15 rfl (pPf rfl rfl) rfl ?_
 refine aP 16 rfl (qM rfl) rfl ?_
 refine aP 17 rfl (qF0 rfl) rfl ?_
 refine aL 18 rfl (lBs rfl rfl) rfl ?_
 refine any_bool (i := 19) (l' := [tt,tt,tt,tt,tt,tt,tt,tt,tt,tt,tt,tt,tt,tt,tt,tt,tt,tt,tt,tt,ff,ff,ff,ff,ff,ff,ff,ff,ff,ff,ff,ff,ff,ff,ff,ff]) rfl npI (qE rfl rfl) rfl (by kernel_rfl) rfl rfl (fun h147 => ?_) (fun h147 => ?_)
 refine aP 20 rfl (qM rfl) rfl ?_
 refine aL 21 rfl (lBa rfl rfl) rfl ?_
 refine aO' 22 ?_
 refine one_valb rfl rfl (hlo (h14 (by omega) (by omega))) rfl rfl rfl (fun h151 => ?_) (fun h151 => ?_)
 refine aP 23 rfl (pNt rfl) rfl ?_
 refine aP 24 rfl (pPt rfl rfl) rfl ?_
 refine aP 25 rfl (pPf rfl rfl) rfl ?_
 refine aP 26 rfl (qM rfl) rfl ?_
 refine aP 27 rfl (qF0 rfl) rfl ?_
 refine aL 28 rfl (lBs rfl rfl) rfl ?_
 refine aP 29 rfl (pure_neq_f rfl rfl (by omega)) rfl ?_
 refine aP 30 rfl (qM rfl) rfl ?_
 refine aK' 31 rfl rfl rfl ?_
 refine aK' 32 rfl rfl rfl ?_
 refine aK' 33 rfl rfl rfl ?_
 refine aP 34 rfl (pPf rfl rfl) rfl ?_
 refine aP 35 rfl (pPf rfl rfl) rfl ?_
 refine aD' ?_
 refine nS (cF rfl ?_)
 refine tK (nS (tS (tS (tR (sQ (qA rfl) rfl (sD ?_))))))
 refine nS (tri_block ?_)
 (refine tri_loopN (fun (i : Nat) => ⟨[(5, .int .i64 i), (2, .pointer (some ⟨b3, 0, none⟩)), (1, .int .i64 d)], [.blk b3 [.int .i64 k, .string nm, .int .i64 num, .int .i64 tk, .slice pt tks.length ct, .int .i64 fk, .slice pf fks.length cf, .int .i64 lb, .slice p ks.length c]], G⟩) (fun i => i ≤ ks.length ∧ ∀ j (h : j < ks.length), j < i → sShape 40 13 ks[j] (41 - d + 1) = true) (fun i => ks.length - i) 0 ?_ ?_ ?_)
 exact sMk
 exact ⟨by omega, by omega⟩
 (rintro i ⟨hi, hf⟩)
 refine tS (tS (tR (sQ (qM rfl) rfl (sQ (qF0 rfl) rfl (sL (lBs rfl rfl) rfl rfl ?_)))))
 refine sQ (pLn rfl rfl) rfl (sB (pure_lss rfl rfl) rfl rfl (fun h188 => ?_) (fun h188 => ?_))
 refine sD (nS (qT rfl ?_))
 refine tK (nS (tS (tri_block (tS (tR (sQ (qF0 rfl) rfl ?_))))))
 refine sL (lBs rfl rfl) rfl rfl ?_
 refine sQ (qM rfl) rfl ?_
 (obtain ⟨b, o, e, rfl, hl, hat, hre, hgb⟩ := hsl.kidTm hkl (i := i) (by omega) (by omega); refine sP (pIN rfl rfl rfl (by omega)) rfl rfl ?_)
 refine sL (load_a rfl rfl (hat _) hl) rfl rfl ?_
 refine sQ (qM rfl) rfl (sP (pure_sub rfl rfl (by omega) (by omega)) rfl rfl ?_)
 (have hih := ih ks[i] (List.getElem_mem (by omega)) (d - 1) G _ (by omega) hre; rw [show 41 - (d - 1) = 41 - d + 1 by omega] at hih; refine seq_valb rfl hih rfl rfl (fun h205 => ?_) (fun h205 => ?_))
 refine sQ (pNt rfl) rfl (sD (nS (cF rfl ?_)))
 refine tK (nrm_block (nS (tR (sQ (qM rfl) rfl (sP (pure_add rfl rfl (by omega) (by omega)) rfl rfl ?_)))))
 refine sQ (qA rfl) rfl (sD (nrm_loopN (i + 1) ?_ ?_ ?_))
 exact sMk
 exact ⟨by omega, fun j hj hji => by (by_cases he : j = i; (subst he; assumption); exact hf j hj (by omega))⟩
 omega
 refine sQ (pNf rfl) rfl (sD (nS (qT rfl ?_)))
 refine tS (tR (sQ (qA rfl) rfl (sD (nS (tT (rB ?_))))))
 refine rS (ret_loopN (rB (rS (rF1 (rT rfl) ?_))))
 (rw [sShape_go (by omega) (by omega) (hR.trans (by assumption)), sShapeL_f (i := i) (by omega) (by assumption)]; exact ⟨rfl, rfl, rfl⟩)
 refine sD (nS (cF rfl ?_))
 refine tri_exit ?_
 refine ext_seq ?_
 refine ext_loopN ?_
 refine ext_block_eq ?_
 refine nS (tS (tR (sQ (qA rfl) rfl (sD (nS (tT ?_))))))
 refine rF1 (rT rfl) ?_
 (rw [sShape_go (by omega) (by omega) (hR.trans (by assumption)), (sShapeL_iff 40 13 ks _).2 (fun j hj => hf j hj (by omega))]; exact ⟨rfl, rfl, rfl⟩)
 refine aP 23 rfl (pNf rfl) rfl ?_
 refine aP 24 rfl (pPt rfl rfl) rfl ?_
 refine aP 25 rfl (pPf rfl rfl) rfl ?_
 refine aP 26 rfl (qM rfl) rfl ?_
 refine aK' 27 rfl rfl rfl ?_
 refine aK' 28 rfl rfl rfl ?_
 refine aK' 29 rfl rfl rfl ?_
 refine aK' 30 rfl rfl rfl ?_
 refine aK' 31 rfl rfl rfl ?_
 refine aK' 32 rfl rfl rfl ?_
 refine aK' 33 rfl rfl rfl ?_
 refine aK' 34 rfl rfl rfl ?_
 refine aP 35 rfl (pPt rfl rfl) rfl ?_
 refine aD' ?_
 refine nS (qT rfl ?_)
 refine tS (tR (sQ (qA rfl) rfl (sD (nS (tT (rS ?_))))))
 refine rF1 (rT rfl) ?_
 (rw [sShape_no (by rw [hR]; first | omega | exact .inr (.inr (by assumption)) | exact .inr (.inr (by cases R with | false => rfl | true => exact absurd (har rfl) (by omega))))]; exact ⟨rfl, rfl, rfl⟩)
 refine aP 20 rfl (qM rfl) rfl ?_
 refine aK' 21 rfl rfl rfl ?_
 refine aK' 22 rfl rfl rfl ?_
 refine aK' 23 rfl rfl rfl ?_
 refine aP 24 rfl (pPf rfl rfl) rfl ?_
 refine aP 25 rfl (pPf rfl rfl) rfl ?_
 refine aP 26 rfl (qM rfl) rfl ?_
 refine aP 27 rfl (qF0 rfl) rfl ?_
 refine aL 28 rfl (lBs rfl rfl) rfl ?_
 refine aP 29 rfl (pure_neq_t rfl rfl (by omega)) rfl ?_
 refine aP 30 rfl (qM rfl) rfl ?_
 refine aL 31 rfl (lBa rfl rfl) rfl ?_
 refine aO' 32 ?_
 refine one_valb rfl rfl (hl2 (hne (by omega) (by omega))) rfl rfl rfl (fun h293 => ?_) (fun h293 => ?_)
 refine aP 33 rfl (pNt rfl) rfl ?_
 refine aP 34 rfl (pPt rfl rfl) rfl ?_
 refine aP 35 rfl (pPf rfl rfl) rfl ?_
 refine aD' ?_
 refine nS (cF rfl ?_)
 refine tK (nS (tS (tS (tR (sQ (qA rfl) rfl (sD ?_))))))
 refine nS (tri_block ?_)
 (refine tri_loopN (fun (i : Nat) => ⟨[(5, .int .i64 i), (2, .pointer (some ⟨b3, 0, none⟩)), (1, .int .i64 d)], [.blk b3 [.int .i64 k, .string nm, .int .i64 num, .int .i64 tk, .slice pt tks.length ct, .int .i64 fk, .slice pf fks.length cf, .int .i64 lb, .slice p ks.length c]], G⟩) (fun i => i ≤ ks.length ∧ ∀ j (h : j < ks.length), j < i → sShape 40 13 ks[j] (41 - d + 1) = true) (fun i => ks.length - i) 0 ?_ ?_ ?_)
 exact sMk
 exact ⟨by omega, by omega⟩
 (rintro i ⟨hi, hf⟩)
 refine tS (tS (tR (sQ (qM rfl) rfl (sQ (qF0 rfl) rfl (sL (lBs rfl rfl) rfl rfl ?_)))))
 refine sQ (pLn rfl rfl) rfl (sB (pure_lss rfl rfl) rfl rfl (fun h320 => ?_) (fun h320 => ?_))
 refine sD (nS (qT rfl ?_))
 refine tK (nS (tS (tri_block (tS (tR (sQ (qF0 rfl) rfl ?_))))))
 refine sL (lBs rfl rfl) rfl rfl ?_
 refine sQ (qM rfl) rfl ?_
 (obtain ⟨b, o, e, rfl, hl, hat, hre, hgb⟩ := hsl.kidTm hkl (i := i) (by omega) (by omega); refine sP (pIN rfl rfl rfl (by omega)) rfl rfl ?_)
 refine sL (load_a rfl rfl (hat _) hl) rfl rfl ?_
 refine sQ (qM rfl) rfl (sP (pure_sub rfl rfl (by omega) (by omega)) rfl rfl ?_)
 (have hih := ih ks[i] (List.getElem_mem (by omega)) (d - 1) G _ (by omega) hre; rw [show 41 - (d - 1) = 41 - d + 1 by omega] at hih; refine seq_valb rfl hih rfl rfl (fun h337 => ?_) (fun h337 => ?_))
 refine sQ (pNt rfl) rfl (sD (nS (cF rfl ?_)))
 refine tK (nrm_block (nS (tR (sQ (qM rfl) rfl (sP (pure_add rfl rfl (by omega) (by omega)) rfl rfl ?_)))))
 refine sQ (qA rfl) rfl (sD (nrm_loopN (i + 1) ?_ ?_ ?_))
 exact sMk
 exact ⟨by omega, fun j hj hji => by (by_cases he : j = i; (subst he; assumption); exact hf j hj (by omega))⟩
 omega
 refine sQ (pNf rfl) rfl (sD (nS (qT rfl ?_)))
 refine tS (tR (sQ (qA rfl) rfl (sD (nS (tT (rB ?_))))))
 refine rS (ret_loopN (rB (rS (rF1 (rT rfl) ?_))))
 (rw [sShape_go (by omega) (by omega) (hR.trans (by assumption)), sShapeL_f (i := i) (by omega) (by assumption)]; exact ⟨rfl, rfl, rfl⟩)
 refine sD (nS (cF rfl ?_))
 refine tri_exit ?_
 refine ext_seq ?_
 refine ext_loopN ?_
 refine ext_block_eq ?_
 refine nS (tS (tR (sQ (qA rfl) rfl (sD (nS (tT ?_))))))
 refine rF1 (rT rfl) ?_
 (rw [sShape_go (by omega) (by omega) (hR.trans (by assumption)), (sShapeL_iff 40 13 ks _).2 (fun j hj => hf j hj (by omega))]; exact ⟨rfl, rfl, rfl⟩)
 refine aP 33 rfl (pNf rfl) rfl ?_
 refine aP 34 rfl (pPt rfl rfl) rfl ?_
 refine aP 35 rfl (pPf rfl rfl) rfl ?_
 refine aD' ?_
 refine nS (qT rfl ?_)
 refine tS (tR (sQ (qA rfl) rfl (sD (nS (tT (rS ?_))))))
 refine rF1 (rT rfl) ?_
 (rw [sShape_no (by rw [hR]; first | omega | exact .inr (.inr (by assumption)) | exact .inr (.inr (by cases R with | false => rfl | true => exact absurd (har rfl) (by omega))))]; exact ⟨rfl, rfl, rfl⟩)
def tyInt : Ty := .mk 2 []
def tyBool : Ty := .mk 3 []
mutual
def tSame : Ty → Ty → Bool
 | .mk k ks, t => decide (k = t.k) && tSameL ks t.ks
def tSameL : List Ty → List Ty → Bool
 | [], [] => true
 | a :: xs, b :: ys => tSame a b && tSameL xs ys
 | _, _ => false
end
theorem tSame_mk (k k' : Int) (ks ks' : List Ty) : tSame (.mk k ks) (.mk k' ks') = (decide (k = k') && tSameL ks ks') := by rw [tSame]; rfl
mutual
theorem tSame_iff : ∀ (a b : Ty), tSame a b = true ↔ a = b
 | .mk k ks, .mk k' ks' => by
  rw [tSame_mk, Bool.and_eq_true, decide_eq_true_eq, tSameL_iffE ks ks', Ty.mk.injEq]
theorem tSameL_iffE : ∀ (xs ys : List Ty), tSameL xs ys = true ↔ xs = ys
 | [], [] => by simp [tSameL]
 | [], b :: ys => by simp [tSameL]
 | a :: xs, [] => by simp [tSameL]
 | a :: xs, b :: ys => by
  rw [tSameL, Bool.and_eq_true, tSame_iff a b, tSameL_iffE xs ys, List.cons.injEq]
end
theorem tSame_self (a : Ty) : tSame a a = true := (tSame_iff a a).2 rfl
theorem tSameL_iff : ∀ (xs ys : List Ty), tSameL xs ys = true ↔ xs.length = ys.length ∧ ∀ i, (h : i < xs.length) → (h' : i < ys.length) → tSame xs[i] ys[i] = true
 | [], [] => by simp [tSameL]
 | [], b :: ys => by simp [tSameL]
 | a :: xs, [] => by simp [tSameL]
 | a :: xs, b :: ys => by
  simp only [tSameL, Bool.and_eq_true, tSameL_iff xs ys, List.length_cons]
  constructor
  ·rintro ⟨h1, h2, h3⟩
   refine ⟨by omega, fun i hi hi' => ?_⟩
   cases i with
   | zero => exact h1
   | succ i => exact h3 i (by simpa using hi) (by simpa using hi')
  ·rintro ⟨h1, h2⟩
   exact ⟨h2 0 (by simp) (by simp), by omega, fun i hi hi' => h2 (i + 1) (by simpa using hi) (by simpa using hi')⟩

/-- What stands for names, the eldest first. -/
abbrev Cx := List (ByteArray × Ty)
/-- The youngest of the first n. -/
def lookN (cx : Cx) (nm : ByteArray) : Nat → Option Ty
 | 0 => none
 | n + 1 => match cx[n]? with
  | some b => if b.1 = nm then some b.2 else lookN cx nm n
  | none => lookN cx nm n
def mLook (cx : Cx) (nm : ByteArray) : Option Ty := lookN cx nm cx.length
theorem lookN_eq {cx : Cx} {nm x : ByteArray} {n : Nat} {t : Ty} (h : cx[n]? = some (x, t)) (he : x = nm) : lookN cx nm (n + 1) = some t := by
 rw [lookN, h]; simp only [he, if_true]
theorem lookN_ne {cx : Cx} {nm x : ByteArray} {n : Nat} {t : Ty} (h : cx[n]? = some (x, t)) (he : ¬x = nm) : lookN cx nm (n + 1) = lookN cx nm n := by
 rw [lookN, h]; simp only [he, if_false]

mutual
/-- The meet of two types that are consistent. -/
def mMeet : Ty → Ty → Ty
 | .mk k ks, b => if k = 1 then b else if b.k = 1 then .mk k ks else .mk k (mMeetL ks b.ks)
def mMeetL : List Ty → List Ty → List Ty
 | a :: xs, b :: ys => mMeet a b :: mMeetL xs ys
 | _, _ => []
end
theorem mMeet_mk (k k' : Int) (ks ks' : List Ty) : mMeet (.mk k ks) (.mk k' ks') = if k = 1 then .mk k' ks' else if k' = 1 then .mk k ks else .mk k (mMeetL ks ks') := by rw [mMeet]; rfl
/-- The operands of a type as one of a kind. -/
def mMatch (kind : Int) (t : Ty) : Option (Ty × Ty) :=
 if t.k = kind then some (t.ks.getD 0 ty0, t.ks.getD 1 ty0) else if t.k = 1 then some (tyAny, tyAny) else none
/-- What a node wants of its operands, and its type. -/
def mWanted (cx : Cx) (k : Int) (nm : ByteArray) (ty : Ty) (h : List Ty) : Option (List Ty × Ty) :=
 if k = 1 then (match mLook cx nm with | some t => some ([], t) | none => none)
 else if k = 2 then some ([], tyInt)
 else if k = 3 ∨ k = 4 then some ([], tyBool)
 else if k = 5 then some ([], .mk 4 [ty, h.getD 0 ty0])
 else if k = 6 then (match mMatch 4 (h.getD 0 ty0) with | some (a, b) => if tCons (h.getD 1 ty0) a = true then some ([.mk 4 [a, b], a], b) else none | none => none)
 else if k = 7 ∨ k = 8 then (if tCons (h.getD 0 ty0) tyInt = true ∧ tCons (h.getD 1 ty0) tyInt = true then some ([tyInt, tyInt], if k = 8 then tyBool else tyInt) else none)
 else if k = 9 then (if tCons (h.getD 0 ty0) tyBool = true ∧ tCons (h.getD 1 ty0) (h.getD 2 ty0) = true then some ([tyBool, mMeet (h.getD 1 ty0) (h.getD 2 ty0), mMeet (h.getD 1 ty0) (h.getD 2 ty0)], mMeet (h.getD 1 ty0) (h.getD 2 ty0)) else none)
 else if k = 10 then some ([], .mk 5 [h.getD 0 ty0, h.getD 1 ty0])
 else if k = 13 then (if tCons (h.getD 0 ty0) ty = true then some ([ty], ty) else none)
 else (match mMatch 5 (h.getD 0 ty0) with | some (a, b) => some ([.mk 5 [a, b]], if k = 12 then b else a) | none => none)
def mNodeT (cx : Cx) (k : Int) (nm : ByteArray) (ty : Ty) (h : List Ty) : Option (List Ty × Ty) := match mWanted cx k nm ty h with
 | some (w, t) => if tValid t = true then some (w, t) else none
 | none => none
/-- The first of two lists, as far as it goes, is the second. -/
def sameTo : List Ty → List Ty → Bool
 | [], _ => true
 | a :: xs, b :: ys => tSame a b && sameTo xs ys
 | _ :: _, [] => false
def inCx (cx : Cx) (k : Int) (nm : ByteArray) (ty : Ty) : Cx := if k = 5 then cx ++ [(nm, ty)] else cx
mutual
/-- The type of a term with casts. -/
def castTy (cx : Cx) : Tm → Option Ty
 | .mk k nm num ty fr lb ks => match castTyL (inCx cx k nm ty) ks with
  | none => none
  | some h => if k = 14 then (if tSame (h.getD 0 ty0) fr = true then some ty else none)
   else match mNodeT cx k nm ty h with
    | none => none
    | some (w, t) => if sameTo w h = true then some t else none
def castTyL (cx : Cx) : List Tm → Option (List Ty)
 | [] => some []
 | t :: ts => match castTy cx t with
  | none => none
  | some u => match castTyL cx ts with
   | none => none
   | some us => some (u :: us)
end
def mCastTypeOf (e : Tm) : Option Ty := if castValid e = true then castTy [] e else none
theorem ownType_fn : ∀ (t : Ty) (G : IM) (cells : List Value), t.small → RTy G t cells →
  Fn Tryz.prog 34 [.agg ⟨cells⟩] [] G (Imm fun G' v => ∃ cells' F, v = .agg ⟨cells'⟩ ∧ STy (Dif G' G) t cells' F ∧ F.Nodup) := by
 refine Ty.ind fun k ks ih G cells hts hr => ?_
 simp only [Ty.small] at hts
 obtain ⟨hsm, hks⟩ := hts
 obtain ⟨p, c, es, rfl, hk, hsl, hkl⟩ := hr.open
 simp only [Ty.k, Ty.ks] at hk hsl hkl ⊢
 have hn := hsl.le
 refine fn_enter Tryz.func34 rfl Tryz.ntmps34 Tryz.results34 rfl ?_
 intro w0
 refine tS (tR ?_)
 refine sE (step_box_a rfl rfl) rfl (fun b3 => ?_)
 refine sE (step_alloc rfl) rfl (fun b4 => ?_)
 refine sD (nS (tS (tR (sQ (qF0 rfl) rfl (sL (lBs rfl rfl) rfl rfl ?_)))))
 refine sQ (pBd rfl rfl) rfl ?_
 refine sE (step_alloc rfl) rfl (fun b12 => ?_)
 refine sS' ?_
 refine sD (nS (tS (tS (tR (sQ (qF0 rfl) rfl (sL (lBs rfl rfl) rfl rfl ?_))))))
 refine sQ (pLn rfl rfl) rfl (sQ (qM rfl) rfl (sD (nS (tri_block ?_))))
 (refine tri_nil 25 2 ?_; refine tri_loopN (fun (x : Nat × Option Addr × Nat × List (List Value) × List Nat × IM) => ⟨[(12, .int .i64 x.1), (11, .int .i64 ks.length), (10, .slice p ks.length c), (3, .pointer (some ⟨b12, 0, none⟩)), (2, .pointer (some ⟨b4, 0, none⟩))], [.blk b12 [.int .i64 k, .slice x.2.1 x.1 x.2.2.1], .slc x.2.1 x.2.2.1 25 2 x.1 x.2.2.2.1.flatten, .blk b4 [.int .i64 0, .slice none 0 0]], x.2.2.2.2.2⟩) (fun x => x.1 ≤ ks.length ∧ IMle G x.2.2.2.2.2 ∧ STyL (Dif x.2.2.2.2.2 G) (ks.take x.1) x.2.2.2.1 x.2.2.2.2.1 ∧ x.2.2.2.2.1.Nodup) (fun x => ks.length - x.1) (0, none, 0, [], [], G) ?_ ?_ ?_)
 (simp only [flat_snoc]; exact sub_mk (by repeat (first | exact SubE.nil | refine SubE.cons rfl ?_)) (by repeat (first | exact SubH.refl | exact SubH.nil | refine SubH.cons (by repeat (first | exact Pk.here | apply Pk.there)) ?_)))
 exact ⟨by simp, IMle.refl _, by simp [STyL], by simp⟩
 (rintro ⟨i, pn, cn, es', F, Gi⟩ ⟨hi, hle, hst, hnd⟩; simp only [] at hi hle hst hnd ⊢; replace hsl := hsl.mono hle; replace hkl := hkl.mono hle)
 refine tS (tR (sB (pure_lss rfl rfl) rfl rfl (fun h32 => ?_) (fun h32 => ?_)))
 refine sD (nS (tS (qT rfl ?_)))
 refine tK (nS (tS (tri_block (tS (tR ?_)))))
 (obtain ⟨b, o, p2, c2, rfl, hat, hre, hgb⟩ := hsl.kidTy hkl (i := i) (by omega) (by omega); refine sP (pIN rfl rfl rfl (by omega)) rfl rfl ?_)
 refine sL (load_a rfl rfl (hat _) rfl) rfl rfl ?_
 refine sE (step_alloc rfl) rfl (fun b45 => ?_)
 refine sS' ?_
 refine sD (nS (tri_draw mixed rfl ?_))
 refine any_pure (i := 0) (l' := [tt,ff,ff,ff,ff,ff,ff,ff]) rfl npI (qF0 rfl) rfl (by kernel_rfl) rfl rfl ?_
 refine aL 1 rfl (lBs rfl rfl) rfl ?_
 refine aL 2 rfl (lBa rfl rfl) rfl ?_
 refine aO' 3 ?_
 (refine one_imm rfl rfl (ih _ (List.getElem_mem (by omega)) _ _ (Ty.smallL_mem hks _ (List.getElem_mem (by omega))) hre) rfl rfl rfl (fun v G1 hle1 hh => ?_); obtain ⟨cells', F', rfl, hs', hnd'⟩ := hh; obtain ⟨p3, c3, es3, rfl, _⟩ := hs'.R.open)
 refine aO' 4 ?_
 (refine one_step0 rfl (step_buildSlice rfl rfl rfl (by omega) (by unfold maxLen; omega) rfl) rfl rfl ?_; rintro _ ⟨b56, rfl⟩)
 refine aO' 5 ?_
 refine one_append rfl rfl rfl rfl rfl rfl (fun _ _ => by repeat (first | exact Sw.here | apply Sw.there)) (at_slc_all (by repeat first | exact mH | apply mT)) rfl (by simp [Value.oneCell']) (by unfold maxLen; omega) (by omega) rfl rfl (by repeat (first | exact HmOk.nil | apply HmOk.dep (by kernel_rfl) | apply HmOk.blk (by kernel_rfl) (by repeat (first | exact Pk.here | apply Pk.there)) (by repeat first | exact mH | apply mT))) (fun pn' cn' => ?_)
 refine aP 6 rfl (qF0 rfl) rfl ?_
 refine aO' 7 ?_
 refine one_store rfl rfl rfl rfl rfl rfl rfl rfl (by kernel_rfl) (by repeat first | exact Sw.here | apply Sw.there) (by rfl) ?_
 refine aD' ?_
 refine nrm_block (nS (tR (sP (pure_add rfl rfl (by omega) (by omega)) rfl rfl ?_)))
 refine sQ (qM rfl) rfl (sD (nrm_loopN (i + 1, pn', cn', es' ++ [[.int .i64 ks[i].k, .slice p3 ks[i].ks.length c3]], F ++ F', G1) ?_ ?_ ?_))
 (simp only [flat_snoc]; exact sub_mk (by repeat (first | exact SubE.nil | refine SubE.cons rfl ?_)) (by repeat (first | exact SubH.refl | exact SubH.nil | refine SubH.cons (by repeat (first | exact Pk.here | apply Pk.there)) ?_)))
 exact ⟨by omega, hle.trans hle1, STyL.step hst hnd hle hle1 (by omega) hs' hnd'⟩
 (show ks.length - (i + 1) < ks.length - i; omega)
 refine sD (nS (tS (cF rfl ?_)))
 refine tri_exit ?_
 refine ext_seq ?_
 refine ext_loopN ?_
 refine ext_block_eq ?_
 refine nS (tS (tR (sL (lBa rfl rfl) rfl rfl ?_)))
 refine sS' ?_
 refine sD (nS ?_)
 (refine ret_freeze (by repeat (first | exact Pk.here | apply Pk.there)) (fun G2 hle2 hsl2 hno2 => ?_); obtain rfl : i = ks.length := by omega)
 refine tT (rF1 (rC rfl (lBa rfl rfl)) ?_)
 (rw [List.take_length] at hst; obtain ⟨F2, hf1, hf2⟩ := STy.fin hst hnd hle hle2 hsl2 hno2 hk; exact ⟨rfl, _, F2, rfl, hf1, hf2⟩)
/-- What a copy of a type comes to. -/
def ToTy (t : Ty) (G : IM) : IM → Value → List Ent → Prop := Imm fun G' v => ∃ cells' F, v = .agg ⟨cells'⟩ ∧ STy (Dif G' G) t cells' F ∧ F.Nodup
def ToTyS (ks : List Ty) (G : IM) : IM → Value → List Ent → Prop := Imm fun G' v => ∃ p c F, v = .slice p ks.length c ∧ STyS (Dif G' G) ks p c F ∧ F.Nodup
def ToTm (t : Tm) (G : IM) : IM → Value → List Ent → Prop := Imm fun G' v => ∃ cells' F, v = .agg ⟨cells'⟩ ∧ STm (Dif G' G) t cells' F ∧ F.Nodup
def ToTmS (ks : List Tm) (G : IM) : IM → Value → List Ent → Prop := Imm fun G' v => ∃ p c F, v = .slice p ks.length c ∧ STmS (Dif G' G) ks p c F ∧ F.Nodup
theorem l1Copy_fn : ∀ (t : Ty) (G : IM) (cells : List Value), t.small → RTy G t cells → Fn Tryz.prog 97 [.agg ⟨cells⟩] [] G (ToTy t G) := by
 refine Ty.ind fun k ks ih G cells hts hr => ?_
 simp only [Ty.small] at hts
 obtain ⟨hsm, hks⟩ := hts
 obtain ⟨p, c, es, rfl, hk, hsl, hkl⟩ := hr.open
 simp only [Ty.k, Ty.ks] at hk hsl hkl ⊢
 have hn := hsl.le
 refine fn_enter Tryz.func97 rfl Tryz.ntmps97 Tryz.results97 rfl ?_
 intro w0
 refine tS (tR ?_)
 refine sE (step_box_a rfl rfl) rfl (fun b3 => ?_)
 refine sE (step_alloc rfl) rfl (fun b4 => ?_)
 refine sD (nS (tS (tR (sQ (qF0 rfl) rfl (sL (lBs rfl rfl) rfl rfl ?_)))))
 refine sQ (pBd rfl rfl) rfl ?_
 refine sE (step_alloc rfl) rfl (fun b12 => ?_)
 refine sS' ?_
 refine sD (nS (tS (tS (tR (sQ (qA rfl) rfl (sD ?_))))))
 refine nS (tri_block ?_)
 (refine tri_nil 25 2 ?_; refine tri_loopN (fun (x : Nat × Option Addr × Nat × List (List Value) × List Nat × IM) => ⟨[(4, .int .i64 x.1), (3, .pointer (some ⟨b12, 0, none⟩)), (1, .pointer (some ⟨b3, 0, none⟩)), (2, .pointer (some ⟨b4, 0, none⟩))], [.blk b12 [.int .i64 k, .slice x.2.1 x.1 x.2.2.1], .slc x.2.1 x.2.2.1 25 2 x.1 x.2.2.2.1.flatten, .blk b4 [.int .i64 0, .slice none 0 0], .blk b3 [.int .i64 k, .slice p ks.length c]], x.2.2.2.2.2⟩) (fun x => x.1 ≤ ks.length ∧ IMle G x.2.2.2.2.2 ∧ STyL (Dif x.2.2.2.2.2 G) (ks.take x.1) x.2.2.2.1 x.2.2.2.2.1 ∧ x.2.2.2.2.1.Nodup) (fun x => ks.length - x.1) (0, none, 0, [], [], G) ?_ ?_ ?_)
 (simp only [flat_snoc]; exact sMk)
 exact ⟨by simp, IMle.refl _, by simp [STyL], by simp⟩
 (rintro ⟨i, pn, cn, es', F, Gi⟩ ⟨hi, hle, hst, hnd⟩; simp only [] at hi hle hst hnd ⊢; replace hsl := hsl.mono hle; replace hkl := hkl.mono hle)
 refine tS (tS (tR (sQ (qM rfl) rfl (sQ (qF0 rfl) rfl (sL (lBs rfl rfl) rfl rfl ?_)))))
 refine sQ (pLn rfl rfl) rfl (sB (pure_lss rfl rfl) rfl rfl (fun h34 => ?_) (fun h34 => ?_))
 refine sD (nS (qT rfl ?_))
 refine tK (nS (tS (tri_block ?_)))
 (obtain ⟨b, o, p2, c2, rfl, hat, hre, hgb⟩ := hsl.kidTy hkl (i := i) (by omega) (by omega); refine tri_draw mixed rfl ?_)
 refine any_pure (i := 0) (l' := [tt,ff,ff,ff,ff,ff,ff,ff,ff,ff,ff,ff]) rfl npI (qF0 rfl) rfl (by kernel_rfl) rfl rfl ?_
 refine aL 1 rfl (lBs rfl rfl) rfl ?_
 refine aP 2 rfl (qF0 rfl) rfl ?_
 refine aL 3 rfl (lBs rfl rfl) rfl ?_
 refine aP 4 rfl (qM rfl) rfl ?_
 refine aP 5 rfl (pIN rfl rfl rfl (by omega)) rfl ?_
 refine aL 6 rfl (load_a rfl rfl (hat _) rfl) rfl ?_
 refine aO' 7 ?_
 (refine one_imm rfl rfl (ih ks[i] (List.getElem_mem (by omega)) _ _ (Ty.smallL_mem hks _ (List.getElem_mem (by omega))) hre) rfl rfl rfl (fun v G1 hle1 hh => ?_); obtain ⟨cells', F', rfl, hs', hnd'⟩ := hh; obtain ⟨p3, c3, es3, rfl, _⟩ := hs'.R.open)
 refine aO' 8 ?_
 (refine one_step0 rfl (step_buildSlice rfl rfl rfl (by omega) (by unfold maxLen; omega) rfl) rfl rfl ?_; rintro _ ⟨b53, rfl⟩)
 refine aO' 9 ?_
 refine one_append rfl rfl rfl rfl rfl rfl (fun _ _ => by repeat (first | exact Sw.here | apply Sw.there)) (at_slc_all (by repeat first | exact mH | apply mT)) rfl (by simp [Value.oneCell']) (by unfold maxLen; omega) (by omega) rfl rfl (by repeat (first | exact HmOk.nil | apply HmOk.dep (by decide +kernel) | apply HmOk.blk (by decide +kernel) (by repeat (first | exact Pk.here | apply Pk.there)) (by repeat first | exact mH | apply mT))) (fun pn' cn' => ?_)
 refine aP 10 rfl (qF0 rfl) rfl ?_
 refine aO' 11 ?_
 refine one_store rfl rfl rfl rfl rfl rfl rfl rfl (by kernel_rfl) (by repeat first | exact Sw.here | apply Sw.there) (by rfl) ?_
 refine aD' ?_
 refine nrm_block (nS (tR (sQ (qM rfl) rfl (sP (pure_add rfl rfl (by omega) (by omega)) rfl rfl ?_))))
 refine sQ (qA rfl) rfl (sD (nrm_loopN (i + 1, pn', cn', es' ++ [[.int .i64 ks[i].k, .slice p3 ks[i].ks.length c3]], F ++ F', G1) ?_ ?_ ?_))
 (simp only [flat_snoc]; exact sMk)
 exact ⟨by omega, hle.trans hle1, STyL.step hst hnd hle hle1 (by omega) hs' hnd'⟩
 (show ks.length - (i + 1) < ks.length - i; omega)
 refine sD (nS (cF rfl ?_))
 refine tri_exit ?_
 refine ext_seq ?_
 refine ext_loopN ?_
 refine ext_block_eq ?_
 refine nS (tS (tR (sL (lBa rfl rfl) rfl rfl ?_)))
 refine sS' ?_
 refine sD (nS ?_)
 (refine ret_freeze (by repeat (first | exact Pk.here | apply Pk.there)) (fun G2 hle2 hsl2 hno2 => ?_); obtain rfl : i = ks.length := (by omega))
 refine tT (rF1 (rC rfl (lBa rfl rfl)) ?_)
 (rw [List.take_length] at hst; obtain ⟨F2, hf1, hf2⟩ := STy.fin hst hnd hle hle2 hsl2 hno2 hk; exact ⟨rfl, _, F2, rfl, hf1, hf2⟩)
theorem l2Copy_fn : ∀ (t : Tm) (G : IM) (cells : List Value), t.small → RTm G t cells → Fn Tryz.prog 75 [.agg ⟨cells⟩] [] G (ToTm t G) := by
 refine Tm.ind fun k nm num ty fr lb ks ih G cells hts hr => ?_
 have hone := hr.one
 simp only [Tm.small] at hts
 obtain ⟨hnm, hty', hfr', hsm, hks⟩ := hts
 obtain ⟨tk, tks⟩ := ty
 obtain ⟨fk, fks⟩ := fr
 obtain ⟨pt, ct, pf, cf, p, c, es, rfl, hk, hnum, hlb, hty, hfr, hsl, hkl⟩ := hr.open9
 have hn := hsl.le
 have hT := l1Copy_fn (.mk tk tks) G _ hty' hty
 refine fn_enter Tryz.func75 rfl Tryz.ntmps75 Tryz.results75 rfl ?_
 intro w0
 refine tS (tR ?_)
 refine sE (step_box_a rfl rfl) rfl (fun b3 => ?_)
 refine sE (step_alloc rfl) rfl (fun b4 => ?_)
 refine sD (nS (tS (tR (sL (lBa rfl rfl) rfl rfl ?_))))
 refine sE (step_alloc rfl) rfl (fun b10 => ?_)
 refine sS' ?_
 refine sD (nS (tS (tR (sQ (qF0 rfl) rfl (sL (lBa rfl rfl) rfl rfl ?_)))))
 (refine seq_imm rfl hT rfl rfl (fun v G1 hle1 hh => ?_); obtain ⟨cs1, F1, rfl, hs1, hn1⟩ := hh; obtain ⟨p1, c1, rfl, _⟩ := hs1.open; have hF := l1Copy_fn (.mk fk fks) G1 _ hfr' (hfr.mono hle1))
 refine sQ (qF0 rfl) rfl (sS' ?_)
 refine sD (nS (tS (tR (sQ (qF0 rfl) rfl (sL (lBa rfl rfl) rfl rfl ?_)))))
 (refine seq_imm rfl hF rfl rfl (fun v G2 hle2 hh => ?_); obtain ⟨cs2, F2, rfl, hs2, hn2⟩ := hh; obtain ⟨p2, c2, rfl, _⟩ := hs2.open; replace hsl := hsl.mono (hle1.trans hle2); replace hkl := hkl.mono (hle1.trans hle2))
 refine sQ (qF0 rfl) rfl (sS' ?_)
 refine sD (nS (tS (tR (sQ (qF0 rfl) rfl (sS' ?_)))))
 refine sD (nS (tS (tS (tR (sQ (qA rfl) rfl (sD ?_))))))
 refine nS (tri_block ?_)
 (refine tri_nil 28 9 ?_; refine tri_loopN (fun (x : Nat × Option Addr × Nat × List (List Value) × List Nat × IM) => ⟨[(4, .int .i64 x.1), (3, .pointer (some ⟨b10, 0, none⟩)), (1, .pointer (some ⟨b3, 0, none⟩)), (2, .pointer (some ⟨b4, 0, none⟩))], [.blk b10 [.int .i64 k, .string nm, .int .i64 num, .int .i64 tk, .slice p1 tks.length c1, .int .i64 fk, .slice p2 fks.length c2, .int .i64 lb, .slice x.2.1 x.1 x.2.2.1], .slc x.2.1 x.2.2.1 28 9 x.1 x.2.2.2.1.flatten, .blk b4 [.int .i64 0, .string ⟨⟨[]⟩⟩, .int .i64 0, .int .i64 0, .slice none 0 0, .int .i64 0, .slice none 0 0, .int .i64 0, .slice none 0 0], .blk b3 [.int .i64 k, .string nm, .int .i64 num, .int .i64 tk, .slice pt tks.length ct, .int .i64 fk, .slice pf fks.length cf, .int .i64 lb, .slice p ks.length c]], x.2.2.2.2.2⟩) (fun x => x.1 ≤ ks.length ∧ IMle G2 x.2.2.2.2.2 ∧ STmL (Dif x.2.2.2.2.2 G2) (ks.take x.1) x.2.2.2.1 x.2.2.2.2.1 ∧ x.2.2.2.2.1.Nodup) (fun x => ks.length - x.1) (0, none, 0, [], [], G2) ?_ ?_ ?_)
 (simp only [flat_snoc]; exact sMk)
 exact ⟨by simp, IMle.refl _, by simp [STmL], by simp⟩
 (rintro ⟨i, pn, cn, es', F, Gi⟩ ⟨hi, hle, hst, hnd⟩; simp only [] at hi hle hst hnd ⊢; replace hsl := hsl.mono hle; replace hkl := hkl.mono hle)
 refine tS (tS (tR (sQ (qM rfl) rfl (sQ (qF0 rfl) rfl (sL (lBs rfl rfl) rfl rfl ?_)))))
 refine sQ (pLn rfl rfl) rfl (sB (pure_lss rfl rfl) rfl rfl (fun h56 => ?_) (fun h56 => ?_))
 refine sD (nS (qT rfl ?_))
 refine tK (nS (tS (tri_block ?_)))
 (obtain ⟨b, o, e, rfl, hl, hat, hre, hgb⟩ := hsl.kidTm hkl (i := i) (by omega) (by omega); have hone := hre.one; refine tri_draw mixed rfl ?_)
 refine any_pure (i := 0) (l' := [tt,ff,ff,ff,ff,ff,ff,ff,ff,ff,ff,ff]) rfl npI (qF0 rfl) rfl (by kernel_rfl) rfl rfl ?_
 refine aL 1 rfl (lBs rfl rfl) rfl ?_
 refine aP 2 rfl (qF0 rfl) rfl ?_
 refine aL 3 rfl (lBs rfl rfl) rfl ?_
 refine aP 4 rfl (qM rfl) rfl ?_
 refine aP 5 rfl (pIN rfl rfl rfl (by omega)) rfl ?_
 refine aL 6 rfl (load_a rfl rfl (hat _) hl) rfl ?_
 refine aO' 7 ?_
 (refine one_imm rfl rfl (ih ks[i] (List.getElem_mem (by omega)) _ _ (Tm.smallL_mem hks _ (List.getElem_mem (by omega))) hre) rfl rfl rfl (fun v G3 hle3 hh => ?_); obtain ⟨cells', F', rfl, hs', hnd'⟩ := hh; obtain ⟨qt, dt, et', qf, df, ef', q3, d3, es3, rfl, _⟩ := hs'.R.open)
 refine aO' 8 ?_
 (refine one_step0 rfl (step_buildSlice rfl rfl rfl (by omega) (by unfold maxLen; omega) rfl) rfl rfl ?_; rintro _ ⟨b75, rfl⟩)
 refine aO' 9 ?_
 refine one_append rfl rfl rfl rfl rfl rfl (fun _ _ => by repeat (first | exact Sw.here | apply Sw.there)) (at_slc_all (by repeat first | exact mH | apply mT)) rfl (by simp [Value.oneCell']) (by unfold maxLen; omega) (by omega) rfl rfl (by repeat (first | exact HmOk.nil | apply HmOk.dep (by decide +kernel) | apply HmOk.blk (by decide +kernel) (by repeat (first | exact Pk.here | apply Pk.there)) (by repeat first | exact mH | apply mT))) (fun pn' cn' => ?_)
 refine aP 10 rfl (qF0 rfl) rfl ?_
 refine aO' 11 ?_
 refine one_store rfl rfl rfl rfl rfl rfl rfl rfl (by kernel_rfl) (by repeat first | exact Sw.here | apply Sw.there) (by rfl) ?_
 refine aD' ?_
 refine nrm_block (nS (tR (sQ (qM rfl) rfl (sP (pure_add rfl rfl (by omega) (by omega)) rfl rfl ?_))))
 refine sQ (qA rfl) rfl (sD (nrm_loopN (i + 1, pn', cn', es' ++ [[.int .i64 ks[i].k, .string ks[i].nm, .int .i64 ks[i].num, .int .i64 ks[i].ty.k, .slice qt ks[i].ty.ks.length dt, .int .i64 ks[i].fr.k, .slice qf ks[i].fr.ks.length df, .int .i64 ks[i].lb, .slice q3 ks[i].ks.length d3]], F ++ F', G3) ?_ ?_ ?_))
 (simp only [flat_snoc]; exact sMk)
 exact ⟨by omega, hle.trans hle3, STmL.step hst hnd hle hle3 (by omega) hs' hnd'⟩
 (show ks.length - (i + 1) < ks.length - i; omega)
 refine sD (nS (cF rfl ?_))
 refine tri_exit ?_
 refine ext_seq ?_
 refine ext_loopN ?_
 refine ext_block_eq ?_
 refine nS (tS (tR (sL (lBa rfl rfl) rfl rfl ?_)))
 refine sS' ?_
 refine sD (nS ?_)
 (refine ret_freeze (by repeat (first | exact Pk.here | apply Pk.there)) (fun G4 hle4 hsl4 hno4 => ?_); obtain rfl : i = ks.length := (by omega))
 refine tT (rF1 (rC rfl (lBa rfl rfl)) ?_)
 (rw [List.take_length] at hst; obtain ⟨F3, hf1, hf2⟩ := STmS.fin hst hnd hle hle4 hsl4 hno4; obtain ⟨F5, hg1, hg2⟩ := STm.mk3 (nm := nm) hk hnum hlb hle1 hle2 (hle.trans hle4) hs1 hn1 hs2 hn2 hf1 hf2; exact ⟨rfl, _, F5, rfl, hg1, hg2⟩)
mutual
def mMap (g : Tm → Tm) : Tm → Tm
 | .mk k nm num ty fr lb ks => g (.mk k nm num ty fr lb (mMapL g ks))
def mMapL (g : Tm → Tm) : List Tm → List Tm
 | [] => []
 | t :: ts => mMap g t :: mMapL g ts
end
theorem mMapL_eq (g : Tm → Tm) : ∀ ks, mMapL g ks = ks.map (mMap g)
 | [] => rfl
 | t :: ts => by rw [mMapL, mMapL_eq g ts, List.map_cons]
mutual
theorem mMap_id : ∀ t, mMap id t = t
 | .mk k nm num ty fr lb ks => by rw [mMap, mMapL_id ks]; rfl
theorem mMapL_id : ∀ ks, mMapL id ks = ks
 | [] => rfl
 | t :: ts => by rw [mMapL, mMap_id t, mMapL_id ts]
end
/-- A term put together, its operands first. -/
theorem STm.mk3k {G G1 G2 G3 : IM} {k : Int} {nm : ByteArray} {num : Int} {ty fr : Ty} {lb : Int} {ks : List Tm} {tc fc : List Value} {p : Option Addr} {c : Nat} {F1 F2 F3 : List Nat} (hk : I64 k) (hnum : I64 num) (hlb : I64 lb)
  (hl1 : IMle G G1) (hl2 : IMle G1 G2) (hl3 : IMle G2 G3) (h3 : STmS (Dif G1 G) ks p c F3) (n3 : F3.Nodup) (h1 : STy (Dif G2 G1) ty tc F1) (n1 : F1.Nodup) (h2 : STy (Dif G3 G2) fr fc F2) (n2 : F2.Nodup) :
  ∃ F, STm (Dif G3 G) (.mk k nm num ty fr lb ks) ([.int .i64 k, .string nm, .int .i64 num] ++ tc ++ fc ++ [.int .i64 lb, .slice p ks.length c]) F ∧ F.Nodup := by
 obtain ⟨es, Fs, e1, e2, rfl, e4⟩ := h3
 have i3 : ∀ b ∈ vfp p ++ Fs, Dif G1 G b ≠ none := by
  intro b hb
  rcases List.mem_append.1 hb with hb | hb
  ·exact e4 b hb
  ·exact e2.inG b hb
 have a1 : IMle (Dif G1 G) (Dif G3 G) := Dif.mono (hl2.trans hl3)
 have a2 : IMle (Dif G2 G1) (Dif G3 G) := fun b l h => Dif.mono hl3 b l (Dif.anti hl1 b l h)
 have a3 : IMle (Dif G3 G2) (Dif G3 G) := Dif.anti (hl1.trans hl2)
 refine ⟨F1 ++ (F2 ++ (vfp p ++ Fs)), ?_, ?_⟩
 ·simp only [STm]
  exact ⟨tc, fc, p, c, es, F1, F2, Fs, rfl, hk, hnum, hlb, h1.mono a2, h2.mono a3, e1.mono a1, e2.mono a1, rfl, dmono a1 e4⟩
 ·rw [List.nodup_append, List.nodup_append]
  refine ⟨n1, ⟨n2, n3, ?_⟩, ?_⟩
  ·rintro x hx y hy rfl
   exact dif_no (dmono (Dif.mono hl2) i3) h2.inG x hy x hx rfl
  ·rintro x hx y hy rfl
   rcases List.mem_append.1 hy with hy | hy
   ·exact dif_no (dmono (Dif.anti hl1) h1.inG) h2.inG x hx x hy rfl
   ·exact dif_no i3 h1.inG x hy x hx rfl
/- What is asked of every node that comes to the change. -/
mutual
def mOk (Q : Tm → Prop) (g : Tm → Tm) : Tm → Prop
 | .mk k nm num ty fr lb ks => mOkL Q g ks ∧ Q (.mk k nm num ty fr lb (mMapL g ks))
def mOkL (Q : Tm → Prop) (g : Tm → Tm) : List Tm → Prop
 | [] => True
 | t :: ts => mOk Q g t ∧ mOkL Q g ts
end
theorem mOkL_mem {Q : Tm → Prop} {g : Tm → Tm} : ∀ {ts : List Tm}, mOkL Q g ts → ∀ t ∈ ts, mOk Q g t
 | [], _, t, h => by simp at h
 | t' :: ts, h, t, ht => by
  simp only [mOkL] at h
  rcases List.mem_cons.1 ht with rfl | ht
  ·exact h.1
  ·exact mOkL_mem h.2 t ht
mutual
theorem mOk_true (g : Tm → Tm) : ∀ t, mOk (fun _ => True) g t
 | .mk k nm num ty fr lb ks => by rw [mOk]; exact ⟨mOkL_true g ks, trivial⟩
theorem mOkL_true (g : Tm → Tm) : ∀ ts, mOkL (fun _ => True) g ts
 | [] => by rw [mOkL]; trivial
 | t :: ts => by rw [mOkL]; exact ⟨mOk_true g t, mOkL_true g ts⟩
end
/-- What is asked of a change of nodes. -/
def MapOk (g : Tm → Tm) (Q : Tm → Prop) (fid : FuncId) (us cs : List Value) : Prop := ∀ (t : Tm) (G0 G1 : IM) (cells : List Value) (F : List Nat), Q t → IMle G0 G1 → STm (Dif G1 G0) t cells F → F.Nodup →
 Fn Tryz.prog fid (us ++ [.agg ⟨cells⟩] ++ cs) [] G1 (Imm fun G2 v => ∃ cells' F', v = .agg ⟨cells'⟩ ∧ STm (Dif G2 G0) (g t) cells' F' ∧ F'.Nodup)
theorem mapped_fn (g : Tm → Tm) (Q : Tm → Prop) (fid : FuncId) [FunI Tryz.prog fid] (us cs : List Value) (hg : MapOk g Q fid us cs) : ∀ (t : Tm) (G : IM) (cells : List Value), mOk Q g t → t.small → RTm G t cells →
  Fn Tryz.prog 127 [.agg ⟨cells⟩, .func (.func fid) ⟨us⟩ ⟨cs⟩] [] G (ToTm (mMap g t) G) := by
 refine Tm.ind fun k nm num ty fr lb ks ih G cells hmo hts hr => ?_
 have hone := hr.one
 simp only [mOk] at hmo
 obtain ⟨hmoL, hQ⟩ := hmo
 simp only [Tm.small] at hts
 obtain ⟨hnm, hty', hfr', hsm, hks⟩ := hts
 obtain ⟨tk, tks⟩ := ty
 obtain ⟨fk, fks⟩ := fr
 obtain ⟨pt, ct, pf, cf, p, c, es, rfl, hk, hnum, hlb, hty, hfr, hsl, hkl⟩ := hr.open9
 have hn := hsl.le
 have hlen : (mMapL g ks).length = ks.length := by rw [mMapL_eq, List.length_map]
 have hget : ∀ i (h : i < ks.length) (h' : i < (mMapL g ks).length), (mMapL g ks)[i] = mMap g ks[i] := fun i h h' => by simp [mMapL_eq]
 refine fn_enter Tryz.func127 rfl Tryz.ntmps127 Tryz.results127 rfl ?_
 intro w0
 refine tS (tR ?_)
 refine sE (step_box_a rfl rfl) rfl (fun b3 => ?_)
 refine sE (step_alloc rfl) rfl (fun b4 => ?_)
 refine sD (nS (tS (tR (sQ (qA rfl) rfl (sD (nS ?_))))))
 refine tS (tS (tR (sQ (qF0 rfl) rfl (sL (lBs rfl rfl) rfl rfl ?_))))
 refine sQ (pLn rfl rfl) rfl (sQ (qM rfl) rfl (sD (nS (tri_block ?_))))
 (refine tri_nil 28 9 ?_; refine tri_loopN (fun (x : Nat × Option Addr × Nat × List (List Value) × List Nat × IM) => ⟨[(11, .int .i64 x.1), (10, .int .i64 ks.length), (9, .slice p ks.length c), (5, .slice x.2.1 x.1 x.2.2.1), (2, .pointer (some ⟨b3, 0, none⟩)), (1, .func (.func fid) ⟨us⟩ ⟨cs⟩), (4, .pointer (some ⟨b4, 0, none⟩))], [.slc x.2.1 x.2.2.1 28 9 x.1 x.2.2.2.1.flatten, .blk b4 [.int .i64 0, .string ⟨⟨[]⟩⟩, .int .i64 0, .int .i64 0, .slice none 0 0, .int .i64 0, .slice none 0 0, .int .i64 0, .slice none 0 0], .blk b3 [.int .i64 k, .string nm, .int .i64 num, .int .i64 tk, .slice pt tks.length ct, .int .i64 fk, .slice pf fks.length cf, .int .i64 lb, .slice p ks.length c]], x.2.2.2.2.2⟩) (fun x => x.1 ≤ ks.length ∧ IMle G x.2.2.2.2.2 ∧ STmL (Dif x.2.2.2.2.2 G) ((mMapL g ks).take x.1) x.2.2.2.1 x.2.2.2.2.1 ∧ x.2.2.2.2.1.Nodup) (fun x => ks.length - x.1) (0, none, 0, [], [], G) ?_ ?_ ?_)
 (simp only [flat_snoc]; exact sMk)
 exact ⟨by simp, IMle.refl _, by simp [STmL], by simp⟩
 (rintro ⟨i, pn, cn, es', F, Gi⟩ ⟨hi, hle, hst, hnd⟩; simp only [] at hi hle hst hnd ⊢; replace hsl := hsl.mono hle; replace hkl := hkl.mono hle)
 refine tS (tR (sB (pure_lss rfl rfl) rfl rfl (fun h28 => ?_) (fun h28 => ?_)))
 refine sD (nS (tS (qT rfl ?_)))
 refine tK (nS (tS (tri_block (tS (tR ?_)))))
 (obtain ⟨b, o, e, rfl, hl, hat, hre, hgb⟩ := hsl.kidTm hkl (i := i) (by omega) (by omega); have hone := hre.one; refine sP (pIN rfl rfl rfl (by omega)) rfl rfl ?_)
 refine sL (load_a rfl rfl (hat _) hl) rfl rfl ?_
 refine sE (step_alloc rfl) rfl (fun b41 => ?_)
 refine sS rfl rfl rfl hl hone rfl ?_ (hu := by exact upd_all hl.symm)
 refine sD (nS (tR (sQ (qM rfl) rfl (sL (load_a rfl rfl (at_blk_all (by repeat first | exact mH | apply mT)) (by assumption)) rfl rfl ?_))))
 refine sQ (qM rfl) rfl ?_
 (refine seq_imm rfl (ih ks[i] (List.getElem_mem (by omega)) _ _ (mOkL_mem hmoL _ (List.getElem_mem (by omega))) (Tm.smallL_mem hks _ (List.getElem_mem (by omega))) hre) rfl rfl (fun v G3 hle3 hh => ?_); obtain ⟨cells', F', rfl, hs', hnd'⟩ := hh; rw [← hget i (by omega) (by omega)] at hs'; have hlc := hs'.R.len; have hoc := hs'.R.one)
 (obtain ⟨v1, v2, v3, v4, v5, v6, v7, v8, v9, rfl⟩ : ∃ v1 v2 v3 v4 v5 v6 v7 v8 v9, cells' = [v1, v2, v3, v4, v5, v6, v7, v8, v9] := by obtain ⟨_, _, _, _, _, _, _, _, _, rfl, _⟩ := hs'.R.open; exact ⟨_, _, _, _, _, _, _, _, _, rfl⟩)
 (refine seq_step (step_buildSlice rfl rfl rfl (by omega) (by unfold maxLen; omega) rfl) rfl ?_; rintro _ ⟨b51, rfl⟩)
 refine seq_append rfl rfl rfl rfl rfl (fun _ _ => by repeat (first | exact Sw.here | apply Sw.there)) (at_slc_all (by repeat first | exact mH | apply mT)) rfl (fun u hu => List.all_eq_true.1 hoc u hu) (by unfold maxLen; omega) (by omega) rfl (fun pn' cn' => ?_)
 refine sQ (qA rfl) rfl (sD (nrm_block (nS (tR (sP (pure_add rfl rfl (by omega) (by omega)) rfl rfl ?_)))))
 refine sQ (qM rfl) rfl (sD (nrm_loopN (i + 1, pn', cn', es' ++ [[v1, v2, v3, v4, v5, v6, v7, v8, v9]], F ++ F', G3) ?_ ?_ ?_))
 (simp only [flat_snoc]; exact sMk)
 exact ⟨by omega, hle.trans hle3, STmL.step hst hnd hle hle3 (by omega) hs' hnd'⟩
 (show ks.length - (i + 1) < ks.length - i; omega)
 refine sD (nS (tS (cF rfl ?_)))
 refine tri_exit ?_
 refine ext_seq ?_
 refine ext_loopN ?_
 refine ext_block_eq ?_
 refine nS (tS ?_)
 (obtain rfl : i = ks.length := (by omega); refine tri_freeze (by repeat (first | exact Pk.here | apply Pk.there)) (fun G2 hle2 hsl2 hno2 => ?_); rw [← hlen, List.take_length] at hst; rw [← hlen] at hsl2; obtain ⟨F3, hf1, hf2⟩ := STmS.fin hst hnd hle hle2 hsl2 hno2; have hleG := hle.trans hle2; have hT := ownType_fn (.mk tk tks) G2 _ hty' (hty.mono hleG); refine tri_draw mixed rfl ?_)
 refine any_pure (i := 0) (l' := [tt,ff,ff,ff,ff,ff,ff,ff,ff,ff,ff,ff,ff]) rfl npI (qF0 rfl) rfl (by kernel_rfl) rfl rfl ?_
 refine aL 1 rfl (lBa rfl rfl) rfl ?_
 refine aP 3 rfl (qF0 rfl) rfl ?_
 refine aL 4 rfl (lBa rfl rfl) rfl ?_
 refine aP 6 rfl (qM rfl) rfl ?_
 refine aO' 2 ?_
 (refine one_imm rfl rfl hT rfl rfl rfl (fun v G4 hle4 hh => ?_); obtain ⟨cs1, F1, rfl, hs1, hn1⟩ := hh; obtain ⟨p1, c1, rfl, _⟩ := hs1.open; have hF := ownType_fn (.mk fk fks) G4 _ hfr' (hfr.mono (hleG.trans hle4)))
 refine aP 7 rfl (qF0 rfl) rfl ?_
 refine aO' 5 ?_
 (refine one_imm rfl rfl hF rfl rfl rfl (fun v G5 hle5 hh => ?_); obtain ⟨cs2, F2, rfl, hs2, hn2⟩ := hh; obtain ⟨p2, c2, rfl, _⟩ := hs2.open; obtain ⟨F6, hg1, hg2⟩ := STm.mk3k (nm := nm) hk hnum hlb hleG hle4 hle5 hf1 hf2 hs1 hn1 hs2 hn2; rw [hlen] at hg1; have hch := hg _ G G5 _ F6 hQ (hleG.trans (hle4.trans hle5)) hg1 hg2)
 refine aO' 8 ?_
 refine one_store rfl rfl rfl rfl rfl rfl rfl rfl (by kernel_rfl) (by repeat first | exact Sw.here | apply Sw.there) (by rfl) ?_
 refine aP 9 rfl (qF0 rfl) rfl ?_
 refine aO' 10 ?_
 refine one_store rfl rfl rfl rfl rfl rfl rfl rfl (by kernel_rfl) (by repeat first | exact Sw.here | apply Sw.there) (by rfl) ?_
 refine aP 11 rfl (qF0 rfl) rfl ?_
 refine aO' 12 ?_
 refine one_store rfl rfl rfl rfl rfl rfl rfl rfl (by kernel_rfl) (by repeat first | exact Sw.here | apply Sw.there) (by rfl) ?_
 refine aD' ?_
 refine nS (tS (tR (sQ (qM rfl) rfl (sL (lBa rfl rfl) rfl rfl ?_))))
 (refine seq_step (step_callv rfl rfl hch (List.Perm.refl _) rfl) rfl ?_; rintro _ ⟨v, G7, outs, rfl, hle7, rfl, cells7, F7, rfl, hs7, hn7⟩; have hl7 := hs7.R.len; have ho7 := hs7.R.one)
 refine sS rfl rfl rfl hl7 ho7 rfl ?_ (hu := by exact upd_all hl7.symm)
 refine sD (nS (tT (rF1 (rC rfl (load_a rfl rfl (at_blk_all (by repeat first | exact mH | apply mT)) hl7)) ?_)))
 (rw [mMap]; exact ⟨rfl, cells7, F7, rfl, hs7, hn7⟩)
theorem own1_fn (G : IM) (cells : List Value) (hl : cells.length = 9) (hone : cells.all (·.oneCell') = true) : Fn Tryz.prog 128 [.agg ⟨cells⟩] [] G (Val (.agg ⟨cells⟩) G) := by
 refine fn_enter Tryz.func128 rfl Tryz.ntmps128 Tryz.results128 rfl ?_
 intro w0
 refine tS (tR ?_)
 refine sE (step_box_a rfl rfl) rfl (fun b3 => ?_)
 refine sE (step_alloc rfl) rfl (fun b4 => ?_)
 refine sD (nS (tS (tR (sL (load_a rfl rfl (at_blk_all (by repeat first | exact mH | apply mT)) (by assumption)) rfl rfl ?_))))
 refine sS rfl rfl rfl hl hone rfl ?_ (hu := by exact upd_all hl.symm)
 refine sD (nS (tT (rF1 (rC rfl (load_a rfl rfl (at_blk_all (by repeat first | exact mH | apply mT)) hl)) ?_)))
 exact ⟨rfl, rfl, rfl⟩
theorem mapOk_id : MapOk id (fun _ => True) 128 [] [] := fun t G0 G1 cells F _ hle hs hn =>
 (own1_fn G1 cells hs.R.len hs.R.one).mono fun G' v outs _ ⟨h1, h2, h3⟩ => ⟨h3, cells, F, h2, by rw [h1]; exact hs, hn⟩
theorem own_fn (t : Tm) (G : IM) (cells : List Value) (hts : t.small) (hr : RTm G t cells) : Fn Tryz.prog 84 [.agg ⟨cells⟩] [] G (ToTm t G) := by
 have hl := hr.len
 have hone := hr.one
 have hM := mapped_fn id (fun _ => True) 128 [] [] mapOk_id t G cells (mOk_true _ t) hts hr
 rw [mMap_id] at hM
 refine fn_enter Tryz.func84 rfl Tryz.ntmps84 Tryz.results84 rfl ?_
 intro w0
 refine tS (tR ?_)
 refine sE (step_box_a rfl rfl) rfl (fun b3 => ?_)
 refine sE (step_alloc rfl) rfl (fun b4 => ?_)
 refine sD (nS (tS (tR (sL (load_a rfl rfl (at_blk_all (by repeat first | exact mH | apply mT)) (by assumption)) rfl rfl ?_))))
 (refine seq_imm rfl hM rfl rfl (fun v G3 hle3 hh => ?_); obtain ⟨cells', F', rfl, hs', hnd'⟩ := hh; have hl' := hs'.R.len; have ho' := hs'.R.one)
 refine sS rfl rfl rfl hl' ho' rfl ?_ (hu := by exact upd_all hl'.symm)
 refine sD (nS (tT (rF1 (rC rfl (load_a rfl rfl (at_blk_all (by repeat first | exact mH | apply mT)) hl')) ?_)))
 exact ⟨rfl, cells', F', rfl, hs', hnd'⟩
theorem sShape_inv {D N : Int} {k : Int} {nm : ByteArray} {num : Int} {ty fr : Ty} {lb : Int} {ks : List Tm} {d : Int} (h : sShape D N (.mk k nm num ty fr lb ks) d = true) : d ≤ D ∧ ∀ i, (hi : i < ks.length) → sShape D N ks[i] (d + 1) = true := by
 rw [sShape] at h
 simp only [Bool.and_eq_true, decide_eq_true_eq] at h
 exact ⟨h.1.1.1, (sShapeL_iff D N ks _).1 h.2⟩
mutual
theorem mScan_shape (M D N : Int) : ∀ (t : Tm) (deep c : Int), c ≤ M → ((mScan M D N t deep c).1 = true ↔ sShape D N t deep = true ∧ c + tmCount t ≤ M)
 | .mk k nm num ty fr lb ks, deep, c, hc => by
  rw [mScan, tmCount]
  by_cases h : c + 1 > M ∨ deep > D ∨ k = N ∨ tmNode k nm num ty fr lb ks.length = false
  ·rw [if_pos h]
   constructor
   ·intro h; cases h
   ·rintro ⟨h1, h2⟩
    rcases h with h | h
    ·omega
    ·rw [sShape_no h] at h1; cases h1
  ·rw [if_neg h]
   have hn : tmNode k nm num ty fr lb ks.length = true := by
    cases hx : tmNode k nm num ty fr lb ks.length with
    | true => rfl
    | false => exact absurd (Or.inr (Or.inr (Or.inr hx))) h
   rw [sShape_go (by omega) (by omega) hn, mScanL_shape M D N ks (deep + 1) (c + 1) (by omega)]
   constructor
   ·rintro ⟨a, b⟩; exact ⟨a, by omega⟩
   ·rintro ⟨a, b⟩; exact ⟨a, by omega⟩
theorem mScanL_shape (M D N : Int) : ∀ (ts : List Tm) (deep c : Int), c ≤ M → ((mScanL M D N ts deep c).1 = true ↔ sShapeL D N ts deep = true ∧ c + tmCountL ts ≤ M)
 | [], deep, c, hc => by simp [mScanL, sShapeL, tmCountL]; omega
 | t :: ts, deep, c, hc => by
  have h0 := mScan_shape M D N t deep c hc
  rw [mScanL, sShapeL, tmCountL, Bool.and_eq_true]
  by_cases h : (mScan M D N t deep c).1 = true
  ·rw [if_pos h, mScan_count M D N t deep c h, mScanL_shape M D N ts deep _ (h0.1 h).2]
   have := h0.1 h
   constructor
   ·rintro ⟨a, b⟩; exact ⟨⟨this.1, a⟩, by omega⟩
   ·rintro ⟨⟨_, a⟩, b⟩; exact ⟨a, by omega⟩
  ·rw [if_neg h]
   constructor
   ·intro h'; cases h'
   ·rintro ⟨⟨a, _⟩, b⟩
    exact absurd (h0.2 ⟨a, by omega⟩) h
end
theorem castValid_iff (t : Tm) : castValid t = true ↔ sShape 40 13 t 1 = true ∧ tmCount t ≤ 200 := by
 have := mScan_shape 200 40 13 t 1 0 (by omega)
 rw [castValid, this]
 constructor
 ·rintro ⟨a, b⟩; exact ⟨a, by omega⟩
 ·rintro ⟨a, b⟩; exact ⟨a, by omega⟩
theorem l2Count_fn (D N : Int) : ∀ (t : Tm) (d : Int) (G : IM) (cells : List Value), d ≤ 40 → sShape D N t (D + 1 - d) = true → tmCount t ≤ 4294967296 → RTm G t cells →
  Fn Tryz.prog 139 [.agg ⟨cells⟩, .int .i64 d] [] G (Val (.int .i64 (tmCount t : Int)) G) := by
 refine Tm.ind fun k nm num ty fr lb ks ih d G cells hd hv hcnt hr => ?_
 have hone := hr.one
 obtain ⟨hv1, hv2⟩ := sShape_inv hv
 obtain ⟨tk, tks⟩ := ty
 obtain ⟨fk, fks⟩ := fr
 obtain ⟨pt, ct, pf, cf, p, c, es, rfl, hk, hnum, hlb, hty, hfr, hsl, hkl⟩ := hr.open9
 have hn := hsl.le
 clear hr
 rw [tmCount] at hcnt ⊢
 refine fn_enter Tryz.func139 rfl Tryz.ntmps139 Tryz.results139 rfl ?_
 intro w0
 refine tS (tR ?_)
 refine sE (step_box_a rfl rfl) rfl (fun b3 => ?_)
 refine sQ (qA rfl) rfl (sD (nS (tS (tR (sQ (qA rfl) rfl (sD ?_))))))
 refine nS (tS (tS (tR (sQ (qA rfl) rfl (sD (nS ?_))))))
 refine tri_block ?_
 (refine tri_loopN (fun (i : Nat) => ⟨[(6, .int .i64 i), (5, .int .i64 ((tmCountL (ks.take i) + 1 : Nat) : Int)), (2, .pointer (some ⟨b3, 0, none⟩)), (1, .int .i64 d)], [.blk b3 [.int .i64 k, .string nm, .int .i64 num, .int .i64 tk, .slice pt tks.length ct, .int .i64 fk, .slice pf fks.length cf, .int .i64 lb, .slice p ks.length c]], G⟩) (fun i => i ≤ ks.length) (fun i => ks.length - i) 0 ?_ ?_ ?_)
 exact sMk
 exact Nat.zero_le _
 (rintro i hi)
 refine tS (tS (tR (sQ (qM rfl) rfl (sQ (qF0 rfl) rfl (sL (lBs rfl rfl) rfl rfl ?_)))))
 refine sQ (pLn rfl rfl) rfl (sB (pure_lss rfl rfl) rfl rfl (fun h30 => ?_) (fun h30 => ?_))
 refine sQ (qM rfl) rfl (sQ (qM rfl) rfl (sP (pure_gtr_t rfl rfl (by omega)) rfl rfl ?_))
 refine sQ (pPt rfl rfl) rfl (sD (nS (qT rfl ?_)))
 refine tK (nS (tS (tri_block (tR (sQ (qM rfl) rfl (sQ (qF0 rfl) rfl ?_))))))
 refine sL (lBs rfl rfl) rfl rfl ?_
 refine sQ (qM rfl) rfl ?_
 (obtain ⟨b, o, e, rfl, hl, hat, hre, hgb⟩ := hsl.kidTm hkl (i := i) (by omega) (by omega); have htk := tmCountL_take (ks := ks) (i := i) (by omega); refine sP (pIN rfl rfl rfl (by omega)) rfl rfl ?_)
 refine sL (load_a rfl rfl (hat _) hl) rfl rfl ?_
 refine sQ (qM rfl) rfl (sP (pure_sub rfl rfl (by omega) (by omega)) rfl rfl ?_)
 (have hvk := hv2 i (by omega); rw [show D + 1 - d + 1 = D + 1 - (d - 1) by omega] at hvk; refine seq_val rfl (ih ks[i] (List.getElem_mem (by omega)) (d - 1) G _ (by omega) hvk (by omega) hre) rfl rfl ?_)
 refine sP (pure_add rfl rfl (by omega) (by omega)) rfl rfl ?_
 refine sQ (qA rfl) rfl (sD (nrm_block (nS (tR (sQ (qM rfl) rfl (sP (pure_add rfl rfl (by omega) (by omega)) rfl rfl ?_))))))
 refine sQ (qA rfl) rfl (sD ?_)
 (refine nrm_loopN (i + 1) ?_ ?_ ?_; rw [show ((tmCountL (ks.take (i + 1)) + 1 : Nat) : Int) = ((tmCountL (ks.take i) + 1 : Nat) : Int) + (tmCount ks[i] : Int) from by rw [tmCountL_succ (by omega)]; omega])
 exact sMk
 omega
 omega
 refine sQ (qM rfl) rfl (sK rfl rfl (sK rfl rfl (sQ (pPf rfl rfl) rfl (sD (nS (cF rfl ?_))))))
 refine tri_exit ?_
 refine ext_seq ?_
 refine ext_loopN ?_
 refine ext_block_eq ?_
 refine nS (tS (tR (sQ (qM rfl) rfl (sQ (qA rfl) rfl (sD (nS ?_))))))
 refine tT (rF1 (rT rfl) ?_)
 (obtain rfl : i = ks.length := (by omega); rw [List.take_length]; exact ⟨rfl, rfl, rfl⟩)
theorem sCastValid_fn (t : Tm) (G : IM) (cells : List Value) (hcnt : tmCount t ≤ 4294967296) (hr : RTm G t cells) :
  Fn Tryz.prog 100 [.agg ⟨cells⟩] [] G (Val (.bool (castValid t)) G) := by
 have hl := hr.len
 have hv := l4Shape_fn t 40 G cells (by omega) hr
 have hc := fun h => l2Count_fn 40 13 t 40 G cells (by omega) h hcnt hr
 have hi := castValid_iff t
 obtain ⟨R, hR⟩ : ∃ R, castValid t = R := ⟨_, rfl⟩
 rw [hR] at hi ⊢
 refine fn_enter Tryz.func100 rfl Tryz.ntmps100 Tryz.results100 rfl ?_
 intro w0
 refine tS (tR ?_)
 refine sE (step_box_a rfl rfl) rfl (fun b3 => ?_)
 refine sQ (qA rfl) rfl (sD (nS (tS (tR (sL (load_a rfl rfl (at_blk_all (by repeat first | exact mH | apply mT)) (by assumption)) rfl rfl ?_)))))
 refine seq_valb rfl (hv) rfl rfl (fun h10 => ?_) (fun h10 => ?_)
 refine sQ (qM rfl) rfl (sL (load_a rfl rfl (at_blk_all (by repeat first | exact mH | apply mT)) (by assumption)) rfl rfl ?_)
 refine seq_val rfl (hc (by assumption)) rfl rfl ?_
 refine sB (pure_leq rfl rfl) rfl rfl (fun h14 => ?_) (fun h14 => ?_)
 refine sQ (pPt rfl rfl) rfl (sQ (qA rfl) rfl (sD (nS (tT (rF1 (rT rfl) ?_)))))
 exact ⟨rfl, by rw [hi.2 ⟨by assumption, by omega⟩], rfl⟩
 refine sQ (pPt rfl rfl) rfl (sQ (qA rfl) rfl (sD (nS (tT (rF1 (rT rfl) ?_)))))
 exact ⟨rfl, by (cases R with | false => rfl | true => (exfalso; have h0 := hi.1 rfl; first | omega | simp_all)), rfl⟩
 refine sQ (qM rfl) rfl (sK rfl rfl (sK rfl rfl (sK rfl rfl (sQ (pPf rfl rfl) rfl (sQ (qA rfl) rfl (sD ?_))))))
 refine nS (tT (rF1 (rT rfl) ?_))
 exact ⟨rfl, by (cases R with | false => rfl | true => (exfalso; have h0 := hi.1 rfl; first | omega | simp_all)), rfl⟩
theorem termValid_iff (t : Tm) : termValid t = true ↔ sShape 12 14 t 1 = true ∧ tmCount t ≤ 30 := by
 have := mScan_shape 30 12 14 t 1 0 (by omega)
 rw [termValid, this]
 constructor
 ·rintro ⟨a, b⟩; exact ⟨a, by omega⟩
 ·rintro ⟨a, b⟩; exact ⟨a, by omega⟩
theorem l2Shape_fn : ∀ (t : Tm) (d : Int) (G : IM) (cells : List Value), 0 ≤ d ∧ d ≤ 12 → RTm G t cells →
  Fn Tryz.prog 138 [.agg ⟨cells⟩, .int .i64 d] [] G (Val (.bool (sShape 12 14 t (13 - d))) G) := by
 refine Tm.ind fun k nm num ty fr lb ks ih d G cells hd hr => ?_
 have hr0 := hr
 have hne := fun h : k ≠ 14 => @tmNode_ne k nm num ty fr lb ks.length h
 have har := fun h : tmNode k nm num ty fr lb ks.length = true => (tmNode_iff.1 h).1
 obtain ⟨R, hR⟩ : ∃ R, tmNode k nm num ty fr lb ks.length = R := ⟨_, rfl⟩
 rw [hR] at hne har
 have hl2 := l2Own_fn k nm num ty fr lb ks G cells hr0 R
 have hk1 := l2Kids_fn k G
 obtain ⟨tk, tks⟩ := ty
 obtain ⟨fk, fks⟩ := fr
 obtain ⟨pt, ct, pf, cf, p, c, es, rfl, hk, hnum, hlb, hty, hfr, hsl, hkl⟩ := hr.open9
 have hn := hsl.le
 clear hr hr0
 refine fn_enter Tryz.func138 rfl Tryz.ntmps138 Tryz.results138 rfl ?_
 intro w0
 refine tS (tR ?_)
 refine sE (step_box_a rfl rfl) rfl (fun b3 => ?_)
 refine sQ (qA rfl) rfl (sD (nS (tS (tS (tri_draw mixed rfl ?_)))))
 refine any_pure (i := 0) (l' := [tt,ff,ff,ff,ff,ff,ff,ff,ff,ff,ff,ff,ff,ff,ff,ff,ff,ff,ff,ff,ff]) rfl npI (qM rfl) rfl (by kernel_rfl) rfl rfl ?_
 refine any_bool (i := 1) (l' := [tt,tt,ff,ff,ff,ff,ff,ff,ff,ff,ff,ff,ff,ff,ff,ff,ff,ff,ff,ff,ff]) rfl npI (pure_lss rfl rfl) rfl (by kernel_rfl) rfl rfl (fun h11 => ?_) (fun h11 => ?_)
 refine aP 2 rfl (qM rfl) rfl ?_
 refine aK' 3 rfl rfl rfl ?_
 refine aK' 4 rfl rfl rfl ?_
 refine aK' 6 rfl rfl rfl ?_
 refine aK' 7 rfl rfl rfl ?_
 refine aK' 8 rfl rfl rfl ?_
 refine aK' 5 rfl rfl rfl ?_
 refine aK' 9 rfl rfl rfl ?_
 refine aP 10 rfl (pPt rfl rfl) rfl ?_
 refine aP 11 rfl (qM rfl) rfl ?_
 refine aK' 12 rfl rfl rfl ?_
 refine aK' 13 rfl rfl rfl ?_
 refine aK' 14 rfl rfl rfl ?_
 refine aP 15 rfl (pPt rfl rfl) rfl ?_
 refine aP 16 rfl (qM rfl) rfl ?_
 refine aK' 17 rfl rfl rfl ?_
 refine aK' 18 rfl rfl rfl ?_
 refine aK' 19 rfl rfl rfl ?_
 refine aP 20 rfl (pPt rfl rfl) rfl ?_
 refine aD' ?_
 refine nS (qT rfl ?_)
 refine tS (tR (sQ (qA rfl) rfl (sD (nS (tT (rS ?_))))))
 refine rF1 (rT rfl) ?_
 (rw [sShape_no (by rw [hR]; first | omega | exact .inr (.inr (by assumption)) | exact .inr (.inr (by cases R with | false => rfl | true => exact absurd (har rfl) (by omega))))]; exact ⟨rfl, rfl, rfl⟩)
 refine aP 2 rfl (qM rfl) rfl ?_
 refine aP 3 rfl (qF0 rfl) rfl ?_
 refine aL 4 rfl (lBs rfl rfl) rfl ?_
 refine aP 6 rfl (qF0 rfl) rfl ?_
 refine aL 7 rfl (lBs rfl rfl) rfl ?_
 refine aP 8 rfl (pLn rfl rfl) rfl ?_
 refine aO' 5 ?_
 refine one_val rfl rfl (hk1) rfl rfl rfl ?_
 refine any_bool (i := 9) (l' := [tt,tt,tt,tt,tt,tt,tt,tt,tt,tt,ff,ff,ff,ff,ff,ff,ff,ff,ff,ff,ff]) rfl npI (pure_neq rfl rfl) rfl (by kernel_rfl) rfl rfl (fun h51 => ?_) (fun h51 => ?_)
 refine aP 10 rfl (pPf rfl rfl) rfl ?_
 refine aP 11 rfl (qM rfl) rfl ?_
 refine aK' 12 rfl rfl rfl ?_
 refine aK' 13 rfl rfl rfl ?_
 refine aK' 14 rfl rfl rfl ?_
 refine aP 15 rfl (pPt rfl rfl) rfl ?_
 refine aP 16 rfl (qM rfl) rfl ?_
 refine aK' 17 rfl rfl rfl ?_
 refine aK' 18 rfl rfl rfl ?_
 refine aK' 19 rfl rfl rfl ?_
 refine aP 20 rfl (pPt rfl rfl) rfl ?_
 refine aD' ?_
 refine nS (qT rfl ?_)
 refine tS (tR (sQ (qA rfl) rfl (sD (nS (tT (rS ?_))))))
 refine rF1 (rT rfl) ?_
 (rw [sShape_no (by rw [hR]; first | omega | exact .inr (.inr (by assumption)) | exact .inr (.inr (by cases R with | false => rfl | true => exact absurd (har rfl) (by omega))))]; exact ⟨rfl, rfl, rfl⟩)
 refine aP 10 rfl (pPf rfl rfl) rfl ?_
 refine aP 11 rfl (qM rfl) rfl ?_
 refine aP 12 rfl (qF0 rfl) rfl ?_
 refine aL 13 rfl (lBs rfl rfl) rfl ?_
 refine any_bool (i := 14) (l' := [tt,tt,tt,tt,tt,tt,tt,tt,tt,tt,tt,tt,tt,tt,tt,ff,ff,ff,ff,ff,ff]) rfl npI (qE rfl rfl) rfl (by kernel_rfl) rfl rfl (fun h79 => ?_) (fun h79 => ?_)
 refine aP 15 rfl (pPf rfl rfl) rfl ?_
 refine aP 16 rfl (qM rfl) rfl ?_
 refine aK' 17 rfl rfl rfl ?_
 refine aK' 18 rfl rfl rfl ?_
 refine aK' 19 rfl rfl rfl ?_
 refine aP 20 rfl (pPt rfl rfl) rfl ?_
 refine aD' ?_
 refine nS (qT rfl ?_)
 refine tS (tR (sQ (qA rfl) rfl (sD (nS (tT (rS ?_))))))
 refine rF1 (rT rfl) ?_
 (rw [sShape_no (by rw [hR]; first | omega | exact .inr (.inr (by assumption)) | exact .inr (.inr (by cases R with | false => rfl | true => exact absurd (har rfl) (by omega))))]; exact ⟨rfl, rfl, rfl⟩)
 refine aP 15 rfl (pPf rfl rfl) rfl ?_
 refine aP 16 rfl (qM rfl) rfl ?_
 refine aL 17 rfl (lBa rfl rfl) rfl ?_
 refine aO' 18 ?_
 refine one_valb rfl rfl (hl2 (hne (by omega) (by omega))) rfl rfl rfl (fun h102 => ?_) (fun h102 => ?_)
 refine aP 19 rfl (pNt rfl) rfl ?_
 refine aP 20 rfl (pPf rfl rfl) rfl ?_
 refine aD' ?_
 refine nS (cF rfl ?_)
 refine tK (nS (tS (tS (tR (sQ (qA rfl) rfl (sD ?_))))))
 refine nS (tri_block ?_)
 (refine tri_loopN (fun (i : Nat) => ⟨[(5, .int .i64 i), (2, .pointer (some ⟨b3, 0, none⟩)), (1, .int .i64 d)], [.blk b3 [.int .i64 k, .string nm, .int .i64 num, .int .i64 tk, .slice pt tks.length ct, .int .i64 fk, .slice pf fks.length cf, .int .i64 lb, .slice p ks.length c]], G⟩) (fun i => i ≤ ks.length ∧ ∀ j (h : j < ks.length), j < i → sShape 12 14 ks[j] (13 - d + 1) = true) (fun i => ks.length - i) 0 ?_ ?_ ?_)
 exact sMk
 exact ⟨by omega, by omega⟩
 (rintro i ⟨hi, hf⟩)
 refine tS (tS (tR (sQ (qM rfl) rfl (sQ (qF0 rfl) rfl (sL (lBs rfl rfl) rfl rfl ?_)))))
 refine sQ (pLn rfl rfl) rfl (sB (pure_lss rfl rfl) rfl rfl (fun h128 => ?_) (fun h128 => ?_))
 refine sD (nS (qT rfl ?_))
 refine tK (nS (tS (tri_block (tS (tR (sQ (qF0 rfl) rfl ?_))))))
 refine sL (lBs rfl rfl) rfl rfl ?_
 refine sQ (qM rfl) rfl ?_
 (obtain ⟨b, o, e, rfl, hl, hat, hre, hgb⟩ := hsl.kidTm hkl (i := i) (by omega) (by omega); refine sP (pIN rfl rfl rfl (by omega)) rfl rfl ?_)
 refine sL (load_a rfl rfl (hat _) hl) rfl rfl ?_
 refine sQ (qM rfl) rfl (sP (pure_sub rfl rfl (by omega) (by omega)) rfl rfl ?_)
 (have hih := ih ks[i] (List.getElem_mem (by omega)) (d - 1) G _ (by omega) hre; rw [show 13 - (d - 1) = 13 - d + 1 by omega] at hih; refine seq_valb rfl hih rfl rfl (fun h145 => ?_) (fun h145 => ?_))
 refine sQ (pNt rfl) rfl (sD (nS (cF rfl ?_)))
 refine tK (nrm_block (nS (tR (sQ (qM rfl) rfl (sP (pure_add rfl rfl (by omega) (by omega)) rfl rfl ?_)))))
 refine sQ (qA rfl) rfl (sD (nrm_loopN (i + 1) ?_ ?_ ?_))
 exact sMk
 exact ⟨by omega, fun j hj hji => by (by_cases he : j = i; (subst he; assumption); exact hf j hj (by omega))⟩
 omega
 refine sQ (pNf rfl) rfl (sD (nS (qT rfl ?_)))
 refine tS (tR (sQ (qA rfl) rfl (sD (nS (tT (rB ?_))))))
 refine rS (ret_loopN (rB (rS (rF1 (rT rfl) ?_))))
 (rw [sShape_go (by omega) (by omega) (hR.trans (by assumption)), sShapeL_f (i := i) (by omega) (by assumption)]; exact ⟨rfl, rfl, rfl⟩)
 refine sD (nS (cF rfl ?_))
 refine tri_exit ?_
 refine ext_seq ?_
 refine ext_loopN ?_
 refine ext_block_eq ?_
 refine nS (tS (tR (sQ (qA rfl) rfl (sD (nS (tT ?_))))))
 refine rF1 (rT rfl) ?_
 (rw [sShape_go (by omega) (by omega) (hR.trans (by assumption)), (sShapeL_iff 12 14 ks _).2 (fun j hj => hf j hj (by omega))]; exact ⟨rfl, rfl, rfl⟩)
 refine aP 19 rfl (pNf rfl) rfl ?_
 refine aP 20 rfl (pPf rfl rfl) rfl ?_
 refine aD' ?_
 refine nS (qT rfl ?_)
 refine tS (tR (sQ (qA rfl) rfl (sD (nS (tT (rS ?_))))))
 refine rF1 (rT rfl) ?_
 (rw [sShape_no (by rw [hR]; first | omega | exact .inr (.inr (by assumption)) | exact .inr (.inr (by cases R with | false => rfl | true => exact absurd (har rfl) (by omega))))]; exact ⟨rfl, rfl, rfl⟩)
theorem sTermValid_fn (t : Tm) (G : IM) (cells : List Value) (hcnt : tmCount t ≤ 4294967296) (hr : RTm G t cells) :
  Fn Tryz.prog 95 [.agg ⟨cells⟩] [] G (Val (.bool (termValid t)) G) := by
 have hl := hr.len
 have hv := l2Shape_fn t 12 G cells (by omega) hr
 have hc := fun h => l2Count_fn 12 14 t 12 G cells (by omega) h hcnt hr
 have hi := termValid_iff t
 obtain ⟨R, hR⟩ : ∃ R, termValid t = R := ⟨_, rfl⟩
 rw [hR] at hi ⊢
 refine fn_enter Tryz.func95 rfl Tryz.ntmps95 Tryz.results95 rfl ?_
 intro w0
 refine tS (tR ?_)
 refine sE (step_box_a rfl rfl) rfl (fun b3 => ?_)
 refine sQ (qA rfl) rfl (sD (nS (tS (tR (sL (load_a rfl rfl (at_blk_all (by repeat first | exact mH | apply mT)) (by assumption)) rfl rfl ?_)))))
 refine seq_valb rfl (hv) rfl rfl (fun h10 => ?_) (fun h10 => ?_)
 refine sQ (qM rfl) rfl (sL (load_a rfl rfl (at_blk_all (by repeat first | exact mH | apply mT)) (by assumption)) rfl rfl ?_)
 refine seq_val rfl (hc (by assumption)) rfl rfl ?_
 refine sB (pure_leq rfl rfl) rfl rfl (fun h14 => ?_) (fun h14 => ?_)
 refine sQ (pPt rfl rfl) rfl (sQ (qA rfl) rfl (sD (nS (tT (rF1 (rT rfl) ?_)))))
 exact ⟨rfl, by rw [hi.2 ⟨by assumption, by omega⟩], rfl⟩
 refine sQ (pPt rfl rfl) rfl (sQ (qA rfl) rfl (sD (nS (tT (rF1 (rT rfl) ?_)))))
 exact ⟨rfl, by (cases R with | false => rfl | true => (exfalso; have h0 := hi.1 rfl; first | omega | simp_all)), rfl⟩
 refine sQ (qM rfl) rfl (sK rfl rfl (sK rfl rfl (sK rfl rfl (sQ (pPf rfl rfl) rfl (sQ (qA rfl) rfl (sD ?_))))))
 refine nS (tT (rF1 (rT rfl) ?_))
 exact ⟨rfl, by (cases R with | false => rfl | true => (exfalso; have h0 := hi.1 rfl; first | omega | simp_all)), rfl⟩
theorem Sw.same {hp hp' : List Ent} {e : Ent} (h : Sw hp e e hp') : hp' = hp := by
 generalize he : e = e' at h
 have : ∀ {hp e e' hp'}, Sw hp e e' hp' → e = e' → hp' = hp := by
  intro hp e e' hp' h
  induction h with
  | here => rintro rfl; rfl
  | there _ ih => intro he; rw [ih he]
 subst he
 exact this h rfl
section
variable {P : Program} {Γ : Ctx} {env : Env} {hp : List Ent} {G : IM} {ty : TypeId}
theorem step_appendSl {d : Nat} {x y : Operand} {t el : TypeId} {i : TyR} {sz by' : Nat} {zs : List Value} [hI : TyI P t i] {ie : TyR} [hEl : TyI P el ie] (hd' : i.desc = .slice el) [hE : TySz P el sz by' zs] {p q : Option Addr} {c n m c2 : Nat} {cs news : List Value} {hp' : Option Addr → Nat → List Ent}
  (hd : Nat.blt d Γ.n = true) (hx : evo env x = some (.slice p n c)) (hy : evo env y = some (.slice q m c2)) (hsz : Nat.blt 0 sz = true)
  (hm : ∀ p' c', Sw hp (.slc p c el sz n cs) (.slc p' c' el sz (n + m) (cs ++ news)) (hp' p' c'))
  (hS : Sl G q m c2 sz news) (h1 : ∀ u ∈ news, u.oneCell' = true) (hc : n ≤ c)
  (h63 : n + m ≤ maxLen) (hb : (n + m) * by' ≤ 140737488355328) :
  StepOp P Γ ⟨env, hp, G⟩ (some d) (.call ⟨.builtin .append, ⟨[x, y]⟩, ⟨[t, t]⟩⟩) ty (vfp p) (fun σ' => ∃ p' c', σ' = ⟨(d, .slice p' (n + m) c') :: env, hp' p' c', G⟩) := by
 obtain ⟨hl, _, _, hat⟩ := hS
 rcases Nat.eq_zero_or_pos m with rfl | hm0
 ·obtain rfl : news = [] := List.length_eq_zero_iff.1 (by omega)
  have hpu := pure_append0 (P := P) (Γ := Γ) (hp := hp) (G := G) (ty := ty) (t := t) (el := el) hd' hx hy hc
  refine ⟨fun a w hs pos af gd Q next hn => ?_⟩
  simp only [Oper.wp, hpu.run a w hs, Oper.upon]
  refine hn _ _ _ (hs.put d _ (by simpa using hd) hs.res) (Ext.refl _ _) ⟨p, c, ?_⟩
  have h0 := hm p c
  simp only [Nat.add_zero, List.append_nil] at h0 ⊢
  rw [h0.same]
 ·obtain ⟨b, o, full, rfl, hg, hv⟩ := hat.resolve_left (by omega)
  exact step_append hd' hd hx hy hsz hm (at_im hg hv) hl h1 h63 hb
variable {K : Po} {ops : Array Oper} {rest : List Oper} {pos : String} {af : Array Edge} {gd : Option (Nat × Bool)}
theorem seq_appendSl {d : Nat} {x y : Operand} {t el : TypeId} {i : TyR} {sz by' : Nat} {zs : List Value} [hI : TyI P t i] {ie : TyR} [hEl : TyI P el ie] [hE : TySz P el sz by' zs] {p q : Option Addr} {c n m c2 : Nat} {cs news : List Value} {hp' : Option Addr → Nat → List Ent}
  (hd' : i.desc = .slice el) (hd : Nat.blt d Γ.n = true) (hx : evo env x = some (.slice p n c)) (hy : evo env y = some (.slice q m c2)) (hsz : Nat.blt 0 sz = true)
  (hm : ∀ p' c', Sw hp (.slc p c el sz n cs) (.slc p' c' el sz (n + m) (cs ++ news)) (hp' p' c'))
  (hS : Sl G q m c2 sz news) (h1 : ∀ u ∈ news, u.oneCell' = true) (hc : n ≤ c)
  (h63 : n + m ≤ maxLen) (hb : (n + m) * by' ≤ 140737488355328) (hw : wantG ops env gd = some true)
  (k : ∀ p' c', TriL P Γ ops rest K ⟨(d, .slice p' (n + m) c') :: env, hp' p' c', G⟩) : TriL P Γ ops (⟨some d, .call ⟨.builtin .append, ⟨[x, y]⟩, ⟨[t, t]⟩⟩, ty, pos, af, gd⟩ :: rest) K ⟨env, hp, G⟩ :=
 seq_step (step_appendSl hd' hd hx hy hsz hm hS h1 hc h63 hb) hw (by rintro _ ⟨p', c', rfl⟩; exact k p' c')
theorem one_appendSl {H : List (Nat × Nat)} {fuel : Nat} {listed l' : List Bool} {j d : Nat} {cs : List Value} {x y : Operand} {t el : TypeId} {i : TyR} {sz by' : Nat} {zs : List Value} [hI : TyI P t i] {ie : TyR} [hEl : TyI P el ie] [hE : TySz P el sz by' zs] {p q : Option Addr} {c n m c2 : Nat} {news : List Value} {hp' : Option Addr → Nat → List Ent} {H' : List (Nat × Nat)}
  (hi : ops[j]? = some ⟨some d, .call ⟨.builtin .append, ⟨[x, y]⟩, ⟨[t, t]⟩⟩, ty, pos, af, gd⟩) (hd' : i.desc = .slice el)
  (hd : Nat.blt d Γ.n = true) (hx : evo env x = some (.slice p n c)) (hy : evo env y = some (.slice q m c2)) (hsz : Nat.blt 0 sz = true)
  (hm : ∀ p' c', Sw hp (.slc p c el sz n cs) (.slc p' c' el sz (n + m) (cs ++ news)) (hp' p' c'))
  (hS : Sl G q m c2 sz news) (h1 : ∀ u ∈ news, u.oneCell' = true) (hc : n ≤ c)
  (h63 : n + m ≤ maxLen) (hb : (n + m) * by' ≤ 140737488355328) (hw : wantG ops env gd = some true) (hl : listed.set j true = l')
  (hok : HmOk ops j hp G (.slc p c el sz n cs) H H')
  (k : ∀ p' c', AnyL P Γ ops K H' fuel l' ⟨(d, .slice p' (n + m) c') :: env, hp' p' c', G⟩) : One P Γ ops K H fuel listed j ⟨env, hp, G⟩ :=
 one_stepM hi (step_appendSl hd' hd hx hy hsz hm hS h1 hc h63 hb) hw hl (fun _ _ hs => hok.spec hs) hok.filter (by rintro _ ⟨p', c', rfl⟩; exact k p' c')
/-- The callee is handed an own entry; what it hands back comes in its place. -/
theorem one_take {H H' : List (Nat × Nat)} {fuel : Nat} {listed l' : List Bool} {j d : Nat} {f : FuncId} [hF : FunI P f] {xs : List Operand} {ats : Array TypeId} {vs : List Value} {e : Ent} {rst : List Ent} {post : IM → Value → List Ent → Prop}
  (hi : ops[j]? = some ⟨some d, .call ⟨.value (.func f), ⟨xs⟩, ats⟩, ty, pos, af, gd⟩) (hx : evl env xs = some vs) (h : Fn P f vs [e] G post) (hp' : hp.Perm ([e] ++ rst)) (hw : wantG ops env gd = some true) (hd : Nat.blt d Γ.n = true) (hl : listed.set j true = l')
  (hok : HmOk ops j hp G e H H')
  (k : ∀ v G' outs, IMle G G' → post G' v outs → AnyL P Γ ops K H' fuel l' ⟨(d, v) :: env, outs ++ rst, G'⟩) : One P Γ ops K H fuel listed j ⟨env, hp, G⟩ :=
 one_stepM hi (step_call_own hx h hp' hd) hw hl (fun _ _ hs => by simpa [Fp] using hok.spec hs) hok.filter (by rintro _ ⟨v, G', outs, rfl, hle, hq⟩; exact k v G' outs hle hq)
end
section forget
variable {P : Program} {Γ : Ctx} {env : Env} {hp : List Ent} {G : IM} {K : Po} {ops : Array Oper} {rest : List Oper} {ty : TypeId} {pos : String} {af : Array Edge} {gd : Option (Nat × Bool)}
end forget
/-- The node at a path. -/
def tAt : Tm → List Int → Option Tm
 | t, [] => some t
 | .mk _ _ _ _ _ _ ks, i :: is => if h : 0 ≤ i ∧ i < ks.length then tAt (ks[i.toNat]'(by omega)) is else none
def z9 : List Value := [.int .i64 0, .string ⟨⟨[]⟩⟩, .int .i64 0, .int .i64 0, .slice none 0 0, .int .i64 0, .slice none 0 0, .int .i64 0, .slice none 0 0]
def AtP (t : Tm) (path : List Int) (G : IM) : IM → Value → List Ent → Prop := fun G' v outs => G' = G ∧ outs = [] ∧
 ((∃ x cells, tAt t path = some x ∧ RTm G x cells ∧ v = .tuple ⟨[.agg ⟨cells⟩, .bool true]⟩) ∨ (tAt t path = none ∧ v = .tuple ⟨[.agg ⟨z9⟩, .bool false]⟩))
def tm0 : Tm := .mk 0 ⟨⟨[]⟩⟩ 0 (.mk 0 []) (.mk 0 []) 0 []
theorem STm.zero (G : IM) : STm G tm0 z9 [] := by
 simp only [tm0, STm, STy, STyL, STmL, z9]
 refine ⟨[.int .i64 0, .slice none 0 0], [.int .i64 0, .slice none 0 0], none, 0, [], [], [], [], rfl, ⟨by omega, by omega⟩, ⟨by omega, by omega⟩, ⟨by omega, by omega⟩, ?_, ?_, SlE.nil _ _, ⟨rfl, rfl⟩, rfl, by simp [vfp]⟩
 ·exact ⟨none, 0, [], [], rfl, ⟨by omega, by omega⟩, SlE.nil _ _, ⟨rfl, rfl⟩, rfl, by simp [vfp]⟩
 ·exact ⟨none, 0, [], [], rfl, ⟨by omega, by omega⟩, SlE.nil _ _, ⟨rfl, rfl⟩, rfl, by simp [vfp]⟩
/-- TermAt in plain words. -/
def mTermAt (t : Tm) (path : List Int) : Tm × Bool := if castValid t = true then (match tAt t path with | some x => (x, true) | none => (tm0, false)) else (tm0, false)
/-- A term and a truth value, the term in memory of its own. -/
def TbP (r : Tm × Bool) (G : IM) : IM → Value → List Ent → Prop := Imm fun G' v => ∃ cells F, v = .tuple ⟨[.agg ⟨cells⟩, .bool r.2]⟩ ∧ STm (Dif G' G) r.1 cells F ∧ F.Nodup
structure cutK {ι : Type} (S : ι → Sy) (φ : ι → Prop) (e : Exit) (σ : Sy) : Prop where
 run : match e with
  | .normal => ∃ i, φ i ∧ Sub σ (S i)
  | _ => False
section cut
variable {P : Program} {Γ : Ctx} {K : Po} {σ : Sy} {ι : Type}
/-- All that comes behind a piece of code is walked once. -/
theorem tri_cut {c y : Code} (S : ι → Sy) (φ : ι → Prop) (h : Tri P Γ c (cutK S φ) σ) (k : ∀ i, φ i → Tri P Γ y K (S i)) : Tri P Γ c (seqK P Γ y K) σ := by
 refine tri_post h ?_
 rintro e σ ⟨hk⟩
 cases e with
 | normal => obtain ⟨i, hi, hs⟩ := hk; exact ⟨tri_sub hs (k i hi)⟩
 | _ => exact hk.elim
where
 tri_post {c : Code} {K K' : Po} {σ : Sy} (h : Tri P Γ c K σ) (hk : ∀ e σ, K e σ → K' e σ) : Tri P Γ c K' σ := tri_mono h hk
theorem nrm_cut {S : ι → Sy} {φ : ι → Prop} {σ : Sy} (i : ι) (hs : Sub σ (S i)) (h : φ i) : cutK S φ .normal σ := ⟨⟨i, h, hs⟩⟩
theorem np_cut {S : ι → Sy} {φ : ι → Prop} : noPanic (cutK S φ) := fun _ _ h => h.run
instance npC5 {S : ι → Sy} {φ : ι → Prop} : NpC (cutK S φ) := ⟨np_cut⟩
end cut
section take
variable {P : Program} {Γ : Ctx} {env : Env} {hp : List Ent} {G : IM} {K : Po} {ops : Array Oper} {rest : List Oper} {ty : TypeId} {pos : String} {af : Array Edge} {gd : Option (Nat × Bool)}
theorem seq_take {d : Nat} {f : FuncId} [hF : FunI P f] {xs : List Operand} {ats : Array TypeId} {vs : List Value} {ins rst : List Ent} {post : IM → Value → List Ent → Prop}
  (hx : evl env xs = some vs) (h : Fn P f vs ins G post) (hp' : hp.Perm (ins ++ rst)) (hw : wantG ops env gd = some true) (hd : Nat.blt d Γ.n = true)
  (k : ∀ v G' outs, IMle G G' → post G' v outs → TriL P Γ ops rest K ⟨(d, v) :: env, outs ++ rst, G'⟩) : TriL P Γ ops (⟨some d, .call ⟨.value (.func f), ⟨xs⟩, ats⟩, ty, pos, af, gd⟩ :: rest) K ⟨env, hp, G⟩ :=
 seq_step (step_call_own hx h hp' hd) hw (by rintro _ ⟨v, G', outs, rfl, hle, hq⟩; exact k v G' outs hle hq)
end take
theorem num_fn (G : IM) (br : Nat) (pb : Option Addr) (nb cb p : Nat) (bs : List UInt8) (q : Option Addr) (n c : Nat) (xs : List Value) (hb : Sl G pb nb cb 1 (byts bs)) (hnb : nb ≤ 2000) (hp : p < 1099511627776) (hx : Sl G q n c 1 xs) (hn : 0 < n) :
  Fn Tryz.prog 55 [.pointer (some ⟨br, 0, none⟩), .slice q n c] [rd br pb nb cb p] G (fun G' v outs => G' = G ∧ outs = [rd br pb nb cb (p + 1)] ∧ v ∈ xs) := by
 refine fn_enter Tryz.func55 rfl Tryz.ntmps55 Tryz.results55 rfl ?_
 intro w0
 refine tS (tR (sQ (qA rfl) rfl (sD (nS (tS (tR ?_))))))
 refine sQ (qM rfl) rfl (sQ (qM rfl) rfl (sQ (qM rfl) rfl (sQ (pLn rfl rfl) rfl ?_)))
 (refine seq_take rfl (pick_fn G br pb nb cb p bs (n : Int) hb hnb hp) (List.Perm.refl _) rfl rfl (fun v G1 outs hle1 hh => ?_); obtain ⟨rfl, rfl, k, rfl, hk0, hkn⟩ := hh; obtain ⟨j, rfl⟩ := Int.eq_ofNat_of_zero_le hk0)
 (obtain ⟨b, o, v, rfl, hv, hat, _⟩ := hx.kid (i := j) (by omega); refine sP (pIN rfl rfl rfl (by omega)) rfl rfl ?_)
 refine sL (load_s rfl rfl (hat _)) rfl rfl ?_
 refine sQ (qA rfl) rfl (sD (nS (tT (ret_own1 (rT rfl) SubH.refl ?_))))
 exact ⟨rfl, rfl, List.mem_of_getElem? hv⟩
theorem of_fn (G : IM) (br : Nat) (pb : Option Addr) (nb cb p : Nat) (bs : List UInt8) (q : Option Addr) (n c : Nat) (xs : List Value) (hb : Sl G pb nb cb 1 (byts bs)) (hnb : nb ≤ 2000) (hp : p < 1099511627776) (hx : Sl G q n c 1 xs) (hn : 0 < n) :
  Fn Tryz.prog 76 [.pointer (some ⟨br, 0, none⟩), .slice q n c] [rd br pb nb cb p] G (fun G' v outs => G' = G ∧ outs = [rd br pb nb cb (p + 1)] ∧ v ∈ xs) := by
 refine fn_enter Tryz.func76 rfl Tryz.ntmps76 Tryz.results76 rfl ?_
 intro w0
 refine tS (tR (sQ (qA rfl) rfl (sD (nS (tS (tR ?_))))))
 refine sQ (qM rfl) rfl (sQ (qM rfl) rfl (sQ (qM rfl) rfl (sQ (pLn rfl rfl) rfl ?_)))
 (refine seq_take rfl (pick_fn G br pb nb cb p bs (n : Int) hb hnb hp) (List.Perm.refl _) rfl rfl (fun v G1 outs hle1 hh => ?_); obtain ⟨rfl, rfl, k, rfl, hk0, hkn⟩ := hh; obtain ⟨j, rfl⟩ := Int.eq_ofNat_of_zero_le hk0)
 (obtain ⟨b, o, v, rfl, hv, hat, _⟩ := hx.kid (i := j) (by omega); refine sP (pIN rfl rfl rfl (by omega)) rfl rfl ?_)
 refine sL (load_s rfl rfl (hat _)) rfl rfl ?_
 refine sQ (qA rfl) rfl (sD (nS (tT (ret_own1 (rT rfl) SubH.refl ?_))))
 exact ⟨rfl, rfl, List.mem_of_getElem? hv⟩
theorem l1Any_fn (G : IM) : Fn Tryz.prog 77 [] [] G (Val (.agg ⟨[.int .i64 1, .slice none 0 0]⟩) G) := by
 refine fn_enter Tryz.func77 rfl Tryz.ntmps77 Tryz.results77 rfl ?_
 intro w0
 refine tS (tR ?_)
 refine sE (step_alloc rfl) rfl (fun b3 => ?_)
 refine sD (nS (tS (tR (sQ (pBd rfl rfl) rfl (sS' ?_)))))
 refine sD (nS (tT (rF1 (rC rfl (lBa rfl rfl)) ?_)))
 exact ⟨rfl, rfl, rfl⟩
/-- How big a drawn type is. -/
def dB : Nat → Nat
 | 0 => 0
 | d + 1 => 2 * dB d + 2
theorem dB_le {d : Nat} (h : d ≤ 3) : dB (d + 1) ≤ 30 := by
 have : d = 0 ∨ d = 1 ∨ d = 2 ∨ d = 3 := by omega
 rcases this with rfl | rfl | rfl | rfl <;> decide
theorem tyOps_le (k : Int) : tyOps k ≤ 2 := by
 unfold tyOps; split <;> try split
 all_goals omega
theorem sumTy_snoc : ∀ (ts : List Ty) (t : Ty), sumTy (ts ++ [t]) = sumTy ts + szTy t
 | [], t => by simp [sumTy]
 | a :: ts, t => by simp only [List.cons_append, sumTy, sumTy_snoc ts t]; omega
theorem RTyL.ty {G : IM} {k : Int} {ts : List Ty} {es : List (List Value)} {p : Option Addr} {n c : Nat} (h : RTyL G ts es) (hn : ts.length = n) (hs : Sl G p n c 2 es.flatten) (hk : I64 k) : RTy G (.mk k ts) [.int .i64 k, .slice p n c] := by
 subst hn
 simp only [RTy]
 exact ⟨p, c, es, rfl, hk, SlE.of hs h.len h.all (fun e he => (h.each e he).2), h⟩
theorem l1DrawA_fn (br : Nat) (pb : Option Addr) (nb cb : Nat) (bs : List UInt8) (hnb : nb ≤ 2000) : ∀ (d p : Nat) (G : IM), d ≤ 1000 → Sl G pb nb cb 1 (byts bs) → p + dB (d + 1) < 1099511627776 →
  Fn Tryz.prog 79 [.pointer (some ⟨br, 0, none⟩), .int .i64 ((d + 1 : Nat) : Int)] [rd br pb nb cb p] G
   (Drew br pb nb cb p (dB (d + 1)) (fun G' v => ∃ t cells, v = .agg ⟨cells⟩ ∧ RTy G' t cells ∧ szTy t ≤ ((dB (d + 1) : Nat) : Int) ∧ tAh d t)) := by
 refine fun d => Nat.strongRecOn d fun d ih p G hd hb hp => ?_
 rw [dB] at hp ⊢
 refine fn_enter Tryz.func79 rfl Tryz.ntmps79 Tryz.results79 rfl ?_
 intro w0
 refine tS (tR ?_)
 refine sE (step_alloc rfl) rfl (fun b3 => ?_)
 refine sD (nS (tS (tR (sQ (qM rfl) rfl ?_))))
 (refine seq_step (step_buildSlice rfl rfl rfl (by omega) (by unfold maxLen; omega) rfl) rfl ?_; rintro _ ⟨b9, rfl⟩)
 (refine triL_freeze (by repeat (first | exact Pk.here | apply Pk.there)) (fun G1 hle1 hsl1 _ => ?_); refine seq_take rfl (num_fn G1 br pb nb cb p bs _ _ _ _ (hb.mono hle1) hnb (by omega) hsl1 (by decide)) (Pk.perm (by repeat (first | exact Pk.here | apply Pk.there))) rfl rfl (fun v G2 outs hle2 hh => ?_); obtain ⟨rfl, rfl, hv⟩ := hh; replace hb := hb.mono hle1; obtain ⟨k, rfl, hk1⟩ : ∃ k, v = .int .i64 k ∧ 1 ≤ k ∧ k ≤ 5 := (by simp only [List.mem_cons, List.not_mem_nil, or_false] at hv; rcases hv with rfl | rfl | rfl | rfl | rfl | rfl | rfl <;> exact ⟨_, rfl, by decide, by decide⟩))
 refine sQ (qA rfl) rfl (sD (nS (tS (tS ?_))))
 (have hv' := hv; refine tri_cut (fun (x : Bool) => ⟨(16, .bool x) :: [(5, .int .i64 k), (4, .pointer (some ⟨b3, 0, none⟩)), (0, .pointer (some ⟨br, 0, none⟩)), (1, .int .i64 ((d + 1 : Nat) : Int))], [rd br pb nb cb (p + 1), .blk b3 [.int .i64 0, .slice none 0 0]], G2⟩) (fun x => x = false → d = 0 → k < 4) ?_ ?_)
 refine tR (sQ (qM rfl) rfl (sB (pure_lss rfl rfl) rfl rfl (fun h19 => ?_) (fun h19 => ?_)))
 refine sQ (qM rfl) rfl (sQ (qM rfl) rfl (sB (pure_geq rfl rfl) rfl rfl (fun h22 => ?_) (fun h22 => ?_)))
 refine sQ (pPt rfl rfl) rfl (sD (nrm_cut true (sub_mk (by repeat (first | exact SubE.nil | refine SubE.cons rfl ?_)) (by repeat (first | exact SubH.refl | exact SubH.nil | refine SubH.cons (by repeat (first | exact Pk.here | apply Pk.there)) ?_ | apply SubH.drop))) ?_))
 (show _ = false → d = 0 → k < 4; intro hf h0; first | exact absurd hf (by decide) | omega)
 refine sQ (pPt rfl rfl) rfl (sD (nrm_cut false (sub_mk (by repeat (first | exact SubE.nil | refine SubE.cons rfl ?_)) (by repeat (first | exact SubH.refl | exact SubH.nil | refine SubH.cons (by repeat (first | exact Pk.here | apply Pk.there)) ?_ | apply SubH.drop))) ?_))
 (show _ = false → d = 0 → k < 4; intro hf h0; first | exact absurd hf (by decide) | omega)
 refine sQ (qM rfl) rfl (sK rfl rfl (sK rfl rfl (sQ (pPf rfl rfl) rfl (sD (nrm_cut false (sub_mk (by repeat (first | exact SubE.nil | refine SubE.cons rfl ?_)) (by repeat (first | exact SubH.refl | exact SubH.nil | refine SubH.cons (by repeat (first | exact Pk.here | apply Pk.there)) ?_ | apply SubH.drop))) ?_)))))
 (show _ = false → d = 0 → k < 4; intro hf h0; first | exact absurd hf (by decide) | omega)
 (rintro x hx; clear hv)
 (show Tri _ _ (.cond (.tmp 16) _ _) _ _; refine tri_cut (fun (x : Int) => ⟨[(5, .int .i64 x), (4, .pointer (some ⟨b3, 0, none⟩)), (0, .pointer (some ⟨br, 0, none⟩)), (1, .int .i64 ((d + 1 : Nat) : Int))], [rd br pb nb cb (p + 1), .blk b3 [.int .i64 0, .slice none 0 0]], G2⟩) (fun x => 1 ≤ x ∧ x ≤ 5 ∧ (d = 0 → x < 4)) (tri_cond rfl (fun hxt => ?_) (fun hxf => ?_)) ?_)
 refine tR (sQ (qA rfl) rfl (sD (nrm_cut 1 (sub_mk (by repeat (first | exact SubE.nil | refine SubE.cons rfl ?_)) (by repeat (first | exact SubH.refl | exact SubH.nil | refine SubH.cons (by repeat (first | exact Pk.here | apply Pk.there)) ?_ | apply SubH.drop))) ?_)))
 (first | exact ⟨by omega, by omega, by omega⟩ | exact ⟨by omega, by omega, fun h0 => by have := hx hxf h0; omega⟩)
 refine tK (nrm_cut k (sub_mk (by repeat (first | exact SubE.nil | refine SubE.cons rfl ?_)) (by repeat (first | exact SubH.refl | exact SubH.nil | refine SubH.cons (by repeat (first | exact Pk.here | apply Pk.there)) ?_ | apply SubH.drop))) ?_)
 (first | exact ⟨by omega, by omega, by omega⟩ | exact ⟨by omega, by omega, fun h0 => by have := hx hxf h0; omega⟩)
 (rintro kk ⟨hk2, hk3, hk4⟩; have hop := tyOps_le kk; have hk5 := (tyOps_spec kk).1; have hk6 := (tyOps_spec kk).2.1; have hK := l1Kids_fn kk)
 refine tS (tR (sQ (qM rfl) rfl (sQ (pBd rfl rfl) rfl ?_)))
 refine sE (step_alloc rfl) rfl (fun b53 => ?_)
 refine sS' ?_
 refine sD (nS (tS (tS (tR (sQ (qA rfl) rfl (sD ?_))))))
 refine nS (tri_block ?_)
 (refine tri_nil 25 2 ?_; refine tri_loopN (fun (x : Nat × Option Addr × Nat × List Ty × List (List Value) × Nat × IM) => ⟨[(7, .int .i64 x.1), (5, .int .i64 kk), (6, .pointer (some ⟨b53, 0, none⟩)), (4, .pointer (some ⟨b3, 0, none⟩)), (0, .pointer (some ⟨br, 0, none⟩)), (1, .int .i64 ((d + 1 : Nat) : Int))], [.blk b53 [.int .i64 kk, .slice x.2.1 x.1 x.2.2.1], .slc x.2.1 x.2.2.1 25 2 x.1 x.2.2.2.2.1.flatten, rd br pb nb cb x.2.2.2.2.2.1, .blk b3 [.int .i64 0, .slice none 0 0]], x.2.2.2.2.2.2⟩) (fun x => (∀ u ∈ x.2.2.2.1, tAh (d - 1) u) ∧ (x.1 : Int) ≤ tyOps kk ∧ IMle G2 x.2.2.2.2.2.2 ∧ x.2.2.2.1.length = x.1 ∧ RTyL x.2.2.2.2.2.2 x.2.2.2.1 x.2.2.2.2.1 ∧ sumTy x.2.2.2.1 ≤ ((x.1 * dB d : Nat) : Int) ∧ p + 1 ≤ x.2.2.2.2.2.1 ∧ x.2.2.2.2.2.1 ≤ p + 1 + x.1 * dB d) (fun x => (tyOps kk).toNat - x.1) (0, none, 0, [], [], p + 1, G2) ?_ ?_ ?_)
 (simp only [flat_snoc]; exact sMk)
 (exact ⟨by simp, by dsimp only; omega, IMle.refl _, rfl, by simp [RTyL], by simp [sumTy], by dsimp only; omega, by dsimp only; omega⟩)
 (rintro ⟨i, pn, cn, ts, es', p', Gi⟩ ⟨hah, hi, hle, hlt, hst, hsum, hq1, hq2⟩; simp only [] at hah hi hle hlt hst hsum hq1 hq2 ⊢; have hid : i * dB d ≤ 2 * dB d := Nat.mul_le_mul_right _ (by omega))
 refine tS (tS (tR (sQ (qM rfl) rfl (sQ (qM rfl) rfl (seq_val rfl ((hK _)) rfl rfl ?_)))))
 refine sB (pure_lss rfl rfl) rfl rfl (fun h74 => ?_) (fun h74 => ?_)
 refine sD (nS (qT rfl ?_))
 refine tK (nS (tS (tri_block ?_)))
 (obtain ⟨d', rfl⟩ : ∃ d', d = d' + 1 := ⟨d - 1, by omega⟩; have hih := ih d' (by omega) p' Gi (by omega) (hb.mono hle) (by have := Nat.mul_le_mul_right (dB (d' + 1)) (show i + 1 ≤ 2 by omega); rw [Nat.succ_mul] at this; omega); refine tri_draw mixed rfl ?_)
 refine any_pure (i := 0) (l' := [tt,ff,ff,ff,ff,ff,ff,ff,ff,ff]) rfl npI (qF0 rfl) rfl (by kernel_rfl) rfl rfl ?_
 refine aL 1 rfl (lBs rfl rfl) rfl ?_
 refine aP 2 rfl (qM rfl) rfl ?_
 refine aP 3 rfl (qM rfl) rfl ?_
 refine aP 4 rfl (pure_dec rfl rfl (by omega)) rfl ?_
 refine aO' 5 ?_
 (refine one_take (l' := [tt,tt,tt,tt,tt,tt,ff,ff,ff,ff]) rfl rfl hih (Pk.perm (by repeat (first | exact Pk.here | apply Pk.there))) rfl rfl rfl (by repeat (first | exact HmOk.nil | apply HmOk.dep (by decide +kernel) | apply HmOk.blk (by decide +kernel) (by repeat (first | exact Pk.here | apply Pk.there)) (by repeat first | exact mH | apply mT))) (fun v G3 outs hle3 hh => ?_); obtain ⟨p3, hp31, hp32, rfl, t3, cells3, rfl, hr3, hs3, ha3⟩ := hh; obtain ⟨q3, c3, es3, rfl, _⟩ := hr3.open)
 refine aO' 6 ?_
 (refine one_step0 rfl (step_buildSlice rfl rfl rfl (by omega) (by unfold maxLen; omega) rfl) rfl rfl ?_; rintro _ ⟨b91, rfl⟩)
 refine aO' 7 ?_
 refine one_append rfl rfl rfl rfl rfl rfl (fun _ _ => by repeat (first | exact Sw.here | apply Sw.there)) (at_slc_all (by repeat first | exact mH | apply mT)) rfl (by simp [Value.oneCell']) (by unfold maxLen; omega) (by omega) rfl rfl (by repeat (first | exact HmOk.nil | apply HmOk.dep (by decide +kernel) | apply HmOk.blk (by decide +kernel) (by repeat (first | exact Pk.here | apply Pk.there)) (by repeat first | exact mH | apply mT))) (fun pn' cn' => ?_)
 refine aP 8 rfl (qF0 rfl) rfl ?_
 refine aO' 9 ?_
 refine one_store rfl rfl rfl rfl rfl rfl rfl rfl (by kernel_rfl) (by repeat first | exact Sw.here | apply Sw.there) (by rfl) ?_
 refine aD' ?_
 refine nrm_block (nS (tR (sQ (qM rfl) rfl (sP (pure_add rfl rfl (by omega) (by omega)) rfl rfl ?_))))
 refine sQ (qA rfl) rfl (sD (nrm_loopN (i + 1, pn', cn', ts ++ [t3], es' ++ [[.int .i64 t3.k, .slice q3 t3.ks.length c3]], p3, G3) ?_ ?_ ?_))
 (simp only [flat_snoc]; exact sMk)
 (dsimp only; have e1 : (i + 1) * dB (d' + 1) = i * dB (d' + 1) + dB (d' + 1) := Nat.succ_mul _ _; have e2 := sumTy_snoc ts t3; exact ⟨by simp only [List.forall_mem_append, List.forall_mem_singleton]; exact ⟨hah, ha3⟩, by omega, hle.trans hle3, by simp [hlt], RTyL.snoc (hst.mono hle3) hr3, by omega, by omega, by omega⟩)
 (show (tyOps kk).toNat - (i + 1) < (tyOps kk).toNat - i; omega)
 refine sD (nS (cF rfl ?_))
 refine tri_exit ?_
 refine ext_seq ?_
 refine ext_loopN ?_
 refine ext_block_eq ?_
 refine nS (tS (tR (sL (lBa rfl rfl) rfl rfl ?_)))
 refine sS' ?_
 refine sD (nS ?_)
 (refine ret_freeze (by repeat (first | exact Pk.here | apply Pk.there)) (fun G5 hle5 hsl5 hno5 => ?_))
 refine tT (ret_own1 (outs := [rd br pb nb cb p']) (rC rfl (lBa rfl rfl)) (by repeat (first | exact SubH.nil | refine SubH.cons Pk.here ?_ | refine SubH.cons (Pk.there Pk.here) ?_ | apply SubH.drop)) ?_)
 (refine ⟨p', by omega, by omega, rfl, .mk kk ts, _, rfl, (hst.mono hle5).ty hlt hsl5 ⟨by omega, by omega⟩, ?_, tAh_mk hk4 (by omega) hk2 hk3 hah⟩; rw [szTy]; omega)
theorem l1Draw_fn (br : Nat) (pb : Option Addr) (nb cb : Nat) (bs : List UInt8) (hnb : nb ≤ 2000) (d p : Nat) (G : IM) (hd : d ≤ 1000) (hb : Sl G pb nb cb 1 (byts bs)) (hp : p + dB (d + 1) < 1099511627776) :
  Fn Tryz.prog 79 [.pointer (some ⟨br, 0, none⟩), .int .i64 ((d + 1 : Nat) : Int)] [rd br pb nb cb p] G
   (Drew br pb nb cb p (dB (d + 1)) (fun G' v => ∃ t cells, v = .agg ⟨cells⟩ ∧ RTy G' t cells ∧ szTy t ≤ ((dB (d + 1) : Nat) : Int))) :=
 (l1DrawA_fn br pb nb cb bs hnb d p G hd hb hp).mono fun G' v outs _ ⟨p', h1, h2, h3, t, cells, h4, h5, h6, _⟩ => ⟨p', h1, h2, h3, t, cells, h4, h5, h6⟩
theorem l1TypeA_fn (br : Nat) (pb : Option Addr) (nb cb : Nat) (bs : List UInt8) (hnb : nb ≤ 2000) (p : Nat) (G : IM) (hb : Sl G pb nb cb 1 (byts bs)) (hp : p + 31 < 1099511627776) :
  Fn Tryz.prog 57 [.pointer (some ⟨br, 0, none⟩)] [rd br pb nb cb p] G
   (Drew br pb nb cb p 31 (fun G' v => ∃ t cells, v = .agg ⟨cells⟩ ∧ RTy G' t cells ∧ szTy t ≤ 30 ∧ tAh 3 t)) := by
 refine fn_enter Tryz.func57 rfl Tryz.ntmps57 Tryz.results57 rfl ?_
 intro w0
 refine tS (tR ?_)
 refine sE (step_alloc rfl) rfl (fun b3 => ?_)
 refine sD (nS (tS (tR (sQ (qM rfl) rfl (sQ (qM rfl) rfl ?_)))))
 (refine seq_step (step_buildSlice rfl rfl rfl (by omega) (by unfold maxLen; omega) rfl) rfl ?_; rintro _ ⟨b10, rfl⟩)
 (refine triL_freeze (by repeat (first | exact Pk.here | apply Pk.there)) (fun G1 hle1 hsl1 _ => ?_); refine seq_take rfl (num_fn G1 br pb nb cb p bs _ _ _ _ (hb.mono hle1) hnb (by omega) hsl1 (by decide)) (Pk.perm (by repeat (first | exact Pk.here | apply Pk.there))) rfl rfl (fun v G2 outs hle2 hh => ?_); obtain ⟨rfl, rfl, hv⟩ := hh; replace hb := hb.mono hle1; obtain ⟨d, rfl, hd⟩ : ∃ d : Nat, v = .int .i64 ((d + 1 : Nat) : Int) ∧ d ≤ 3 := (by simp only [List.mem_cons, List.not_mem_nil, or_false] at hv; rcases hv with rfl | rfl | rfl | rfl | rfl <;> first | exact ⟨0, rfl, by decide⟩ | exact ⟨1, rfl, by decide⟩ | exact ⟨2, rfl, by decide⟩ | exact ⟨3, rfl, by decide⟩))
 (have hdB := dB_le hd; refine seq_take rfl (l1DrawA_fn br pb nb cb bs hnb d (p + 1) G2 (by omega) hb (by omega)) (Pk.perm (by repeat (first | exact Pk.here | apply Pk.there))) rfl rfl (fun v G3 outs hle3 hh => ?_); obtain ⟨p3, hp31, hp32, rfl, t3, cells3, rfl, hr3, hs3, ha3⟩ := hh; obtain ⟨q3, c3, es3, rfl, _⟩ := hr3.open)
 refine sS' ?_
 refine sD (nS (tT (ret_own1 (outs := [rd br pb nb cb p3]) (rC rfl (lBa rfl rfl)) (by repeat (first | exact SubH.nil | refine SubH.cons Pk.here ?_ | refine SubH.cons (Pk.there Pk.here) ?_ | apply SubH.drop)) ?_)))
 exact ⟨p3, by omega, by omega, rfl, t3, _, rfl, hr3, by omega, ha3.le hd⟩
theorem l1Type_fn (br : Nat) (pb : Option Addr) (nb cb : Nat) (bs : List UInt8) (hnb : nb ≤ 2000) (p : Nat) (G : IM) (hb : Sl G pb nb cb 1 (byts bs)) (hp : p + 31 < 1099511627776) :
  Fn Tryz.prog 57 [.pointer (some ⟨br, 0, none⟩)] [rd br pb nb cb p] G
   (Drew br pb nb cb p 31 (fun G' v => ∃ t cells, v = .agg ⟨cells⟩ ∧ RTy G' t cells ∧ szTy t ≤ 30)) :=
 (l1TypeA_fn br pb nb cb bs hnb p G hb hp).mono fun G' v outs _ ⟨p', h1, h2, h3, t, cells, h4, h5, h6, _⟩ => ⟨p', h1, h2, h3, t, cells, h4, h5, h6⟩
theorem l1CopyO_fn (k : Int) (ks : List Ty) (G : IM) (p : Option Addr) (c : Nat) (hts : (Ty.mk k ks).small) (hr : RTy G (.mk k ks) [.int .i64 k, .slice p ks.length c]) : Fn Tryz.prog 97 [.agg ⟨[.int .i64 k, .slice p ks.length c]⟩] [] G
  (fun G' v outs => ∃ p c es, v = .agg ⟨[.int .i64 k, .slice p ks.length c]⟩ ∧ outs = [.slc p c 25 2 ks.length es.flatten] ∧ RTyL G' ks es) := by
 simp only [Ty.small] at hts
 obtain ⟨hsm, hks⟩ := hts
 obtain ⟨p', c', es, he, hk, hsl, hkl⟩ := hr.open
 simp only [Ty.k, Ty.ks, List.cons.injEq, Value.slice.injEq, true_and, and_true] at he hk hsl hkl
 obtain ⟨rfl, rfl⟩ := he
 have hn := hsl.le
 refine fn_enter Tryz.func97 rfl Tryz.ntmps97 Tryz.results97 rfl ?_
 intro w0
 refine tS (tR ?_)
 refine sE (step_box_a rfl rfl) rfl (fun b3 => ?_)
 refine sE (step_alloc rfl) rfl (fun b4 => ?_)
 refine sD (nS (tS (tR (sQ (qF0 rfl) rfl (sL (lBs rfl rfl) rfl rfl ?_)))))
 refine sQ (pBd rfl rfl) rfl ?_
 refine sE (step_alloc rfl) rfl (fun b12 => ?_)
 refine sS' ?_
 refine sD (nS (tS (tS (tR (sQ (qA rfl) rfl (sD ?_))))))
 refine nS (tri_block ?_)
 (refine tri_nil 25 2 ?_; refine tri_loopN (fun (x : Nat × Option Addr × Nat × List (List Value) × IM) => ⟨[(4, .int .i64 x.1), (3, .pointer (some ⟨b12, 0, none⟩)), (1, .pointer (some ⟨b3, 0, none⟩)), (2, .pointer (some ⟨b4, 0, none⟩))], [.blk b12 [.int .i64 k, .slice x.2.1 x.1 x.2.2.1], .slc x.2.1 x.2.2.1 25 2 x.1 x.2.2.2.1.flatten, .blk b4 [.int .i64 0, .slice none 0 0], .blk b3 [.int .i64 k, .slice p ks.length c]], x.2.2.2.2⟩) (fun x => x.1 ≤ ks.length ∧ IMle G x.2.2.2.2 ∧ RTyL x.2.2.2.2 (ks.take x.1) x.2.2.2.1) (fun x => ks.length - x.1) (0, none, 0, [], G) ?_ ?_ ?_)
 (simp only [flat_snoc]; exact sMk)
 exact ⟨by simp, IMle.refl _, by simp [RTyL]⟩
 (rintro ⟨i, pn, cn, es', Gi⟩ ⟨hi, hle, hst⟩; simp only [] at hi hle hst ⊢; replace hsl := hsl.mono hle; replace hkl := hkl.mono hle)
 refine tS (tS (tR (sQ (qM rfl) rfl (sQ (qF0 rfl) rfl (sL (lBs rfl rfl) rfl rfl ?_)))))
 refine sQ (pLn rfl rfl) rfl (sB (pure_lss rfl rfl) rfl rfl (fun h34 => ?_) (fun h34 => ?_))
 refine sD (nS (qT rfl ?_))
 refine tK (nS (tS (tri_block ?_)))
 (obtain ⟨b, o, p2, c2, rfl, hat, hre, hgb⟩ := hsl.kidTy hkl (i := i) (by omega) (by omega); refine tri_draw mixed rfl ?_)
 refine any_pure (i := 0) (l' := [tt,ff,ff,ff,ff,ff,ff,ff,ff,ff,ff,ff]) rfl npI (qF0 rfl) rfl (by kernel_rfl) rfl rfl ?_
 refine aL 1 rfl (lBs rfl rfl) rfl ?_
 refine aP 2 rfl (qF0 rfl) rfl ?_
 refine aL 3 rfl (lBs rfl rfl) rfl ?_
 refine aP 4 rfl (qM rfl) rfl ?_
 refine aP 5 rfl (pIN rfl rfl rfl (by omega)) rfl ?_
 refine aL 6 rfl (load_a rfl rfl (hat _) rfl) rfl ?_
 refine aO' 7 ?_
 (refine one_imm rfl rfl (l1Copy_fn ks[i] _ _ (Ty.smallL_mem hks _ (List.getElem_mem (by omega))) hre) rfl rfl rfl (fun v G1 hle1 hh => ?_); obtain ⟨cells', F', rfl, hs', hnd'⟩ := hh; have hr' := hs'.R.mono (Dif.le _ _); obtain ⟨p3, c3, es3, rfl, _⟩ := hr'.open)
 refine aO' 8 ?_
 (refine one_step0 rfl (step_buildSlice rfl rfl rfl (by omega) (by unfold maxLen; omega) rfl) rfl rfl ?_; rintro _ ⟨b53, rfl⟩)
 refine aO' 9 ?_
 refine one_append rfl rfl rfl rfl rfl rfl (fun _ _ => by repeat (first | exact Sw.here | apply Sw.there)) (at_slc_all (by repeat first | exact mH | apply mT)) rfl (by simp [Value.oneCell']) (by unfold maxLen; omega) (by omega) rfl rfl (by repeat (first | exact HmOk.nil | apply HmOk.dep (by decide +kernel) | apply HmOk.blk (by decide +kernel) (by repeat (first | exact Pk.here | apply Pk.there)) (by repeat first | exact mH | apply mT))) (fun pn' cn' => ?_)
 refine aP 10 rfl (qF0 rfl) rfl ?_
 refine aO' 11 ?_
 refine one_store rfl rfl rfl rfl rfl rfl rfl rfl (by kernel_rfl) (by repeat first | exact Sw.here | apply Sw.there) (by rfl) ?_
 refine aD' ?_
 refine nrm_block (nS (tR (sQ (qM rfl) rfl (sP (pure_add rfl rfl (by omega) (by omega)) rfl rfl ?_))))
 refine sQ (qA rfl) rfl (sD (nrm_loopN (i + 1, pn', cn', es' ++ [[.int .i64 ks[i].k, .slice p3 ks[i].ks.length c3]], G1) ?_ ?_ ?_))
 (simp only [flat_snoc]; exact sMk)
 (dsimp only; exact ⟨by omega, hle.trans hle1, by rw [List.take_succ_eq_append_getElem (by omega)]; exact RTyL.snoc (hst.mono hle1) hr'⟩)
 (show ks.length - (i + 1) < ks.length - i; omega)
 refine sD (nS (cF rfl ?_))
 refine tri_exit ?_
 refine ext_seq ?_
 refine ext_loopN ?_
 refine ext_block_eq ?_
 refine nS (tS (tR (sL (lBa rfl rfl) rfl rfl ?_)))
 refine sS' ?_
 refine sD (nS (tT ?_))
 (obtain rfl : i = ks.length := (by omega); refine ret_own1 (outs := [.slc pn cn 25 2 ks.length es'.flatten]) (rC rfl (lBa rfl rfl)) (by repeat (first | exact SubH.nil | refine SubH.cons Pk.here ?_ | refine SubH.cons (Pk.there Pk.here) ?_ | apply SubH.drop)) ?_)
 (rw [List.take_length] at hst; exact ⟨pn, cn, es', rfl, rfl, hst⟩)
theorem tyAny_r (G : IM) : RTy G tyAny [.int .i64 1, .slice none 0 0] := by
 simp only [tyAny, RTy]
 exact ⟨none, 0, [], rfl, ⟨by omega, by omega⟩, SlE.of (Sl.nil _ _) rfl (by simp) (by simp), by simp [RTyL]⟩
theorem tyAny_sz : szTy tyAny = 0 := rfl
theorem l1Mutate_fn (br : Nat) (pb : Option Addr) (nb cb : Nat) (bs : List UInt8) (hnb : nb ≤ 2000) (p : Nat) (G : IM) (hb : Sl G pb nb cb 1 (byts bs)) (hp : p + 31 < 1099511627776) (t : Ty) (cells : List Value) (hr : RTy G t cells) (hsz : szTy t ≤ 30) :
  Fn Tryz.prog 56 [.pointer (some ⟨br, 0, none⟩), .agg ⟨cells⟩] [rd br pb nb cb p] G
   (Drew br pb nb cb p 2 (fun G' v => ∃ t cells, v = .agg ⟨cells⟩ ∧ RTy G' t cells ∧ szTy t ≤ 38)) := by
 have hts := small_ty t (by omega)
 obtain ⟨k, ks⟩ := t
 rw [szTy] at hsz
 have hsn := sumTy_nn ks
 obtain ⟨q0, c0, es0, rfl, hk, _⟩ := hr.open
 simp only [Ty.k, Ty.ks] at hk hr ⊢
 refine fn_enter Tryz.func56 rfl Tryz.ntmps56 Tryz.results56 rfl ?_
 intro w0
 refine tS (tR ?_)
 refine sE (step_box_a rfl rfl) rfl (fun b3 => ?_)
 refine sE (step_alloc rfl) rfl (fun b4 => ?_)
 refine sD (nS (tS (tR (sL (lBa rfl rfl) rfl rfl ?_))))
 (refine seq_own rfl (l1CopyO_fn k ks G q0 c0 hts hr) rfl rfl (fun v G1 outs hle1 hh => ?_); obtain ⟨q, c, es, rfl, rfl, hst⟩ := hh)
 refine sE (step_alloc rfl) rfl (fun b11 => ?_)
 refine sS' ?_
 refine sD (nS (tS (tS (tR (sQ (qM rfl) rfl ?_)))))
 (refine seq_take rfl (pick_fn G1 br pb nb cb p bs 40 (hb.mono hle1) hnb (by omega)) (Pk.perm (by repeat (first | exact Pk.here | apply Pk.there))) rfl rfl (fun v G2 outs hle2 hh => ?_); obtain ⟨rfl, rfl, j, rfl, hj0, hj1⟩ := hh; replace hb := hb.mono hle1)
 refine sD (nS ?_)
 (show Tri _ _ (.block 0 _) _ _; refine tri_cut (fun (x : Ty × Option Addr × Nat × Nat × IM) => ⟨[(5, .pointer (some ⟨b11, 0, none⟩)), (4, .pointer (some ⟨b4, 0, none⟩))], [.blk b11 [.int .i64 x.1.k, .slice x.2.1 x.1.ks.length x.2.2.1], .blk b4 [.int .i64 0, .slice none 0 0], rd br pb nb cb x.2.2.2.1], x.2.2.2.2⟩) (fun x => IMle G2 x.2.2.2.2 ∧ RTy x.2.2.2.2 x.1 [.int .i64 x.1.k, .slice x.2.1 x.1.ks.length x.2.2.1] ∧ szTy x.1 ≤ 38 ∧ p ≤ x.2.2.2.1 ∧ x.2.2.2.1 ≤ p + 2) ?_ ?_)
 refine tri_block (tS (tR (sB (qE rfl rfl) rfl rfl (fun h26 => ?_) (fun h26 => ?_))))
 refine sQ (qA rfl) rfl (sD (nS (qT rfl ?_)))
 refine tR (sQ (qM rfl) rfl ?_)
 (refine seq_step (step_buildSlice rfl rfl rfl (by omega) (by unfold maxLen; omega) rfl) rfl ?_; rintro _ ⟨b33, rfl⟩)
 (refine triL_freeze (by repeat (first | exact Pk.here | apply Pk.there)) (fun G3 hle3 hsl3 _ => ?_); refine triL_freeze (by repeat (first | exact Pk.here | apply Pk.there)) (fun G4 hle4 hsl4 _ => ?_); refine seq_take rfl (num_fn G4 br pb nb cb (p + 1) bs _ _ _ _ (hb.mono (hle3.trans hle4)) hnb (by omega) (hsl3.mono hle4) (by decide)) (Pk.perm (by repeat (first | exact Pk.here | apply Pk.there))) rfl rfl (fun v G5 outs hle5 hh => ?_); obtain ⟨rfl, rfl, hv⟩ := hh; obtain ⟨k', rfl, hk'⟩ : ∃ k', v = .int .i64 k' ∧ I64 k' := (by simp only [List.mem_cons, List.not_mem_nil, or_false] at hv; rcases hv with rfl | rfl | rfl | rfl | rfl <;> exact ⟨_, rfl, by unfold I64; omega⟩))
 refine sQ (qF0 rfl) rfl (sS' ?_)
 refine sD (nrm_block (nrm_cut (.mk k' ks, q, c, p + 2, G5) ?_ ?_))
 (simp only [flat_snoc]; exact sMk)
 (dsimp only; exact ⟨hle3.trans hle4, (hst.mono (hle3.trans hle4)).ty rfl hsl4 hk', by (rw [szTy]; omega), by omega, by omega⟩)
 refine sQ (qA rfl) rfl (sD (nS (cF rfl ?_)))
 refine tS (tR (sB (qE rfl rfl) rfl rfl (fun h48 => ?_) (fun h48 => ?_)))
 refine sQ (qA rfl) rfl (sD (nS (qT rfl ?_)))
 refine tri_draw mixed rfl ?_
 refine any_pure (i := 0) (l' := [tt,ff,ff,ff,ff,ff,ff]) rfl npI (qF0 rfl) rfl (by kernel_rfl) rfl rfl ?_
 refine aL 1 rfl (lBs rfl rfl) rfl ?_
 refine aO' 2 ?_
 refine one_val rfl rfl ((l1Any_fn _)) rfl rfl rfl ?_
 refine aO' 3 ?_
 (refine one_step0 rfl (step_buildSlice rfl rfl rfl (by omega) (by unfold maxLen; omega) rfl) rfl rfl ?_; rintro _ ⟨b59, rfl⟩)
 refine aO' 4 ?_
 refine one_append rfl rfl rfl rfl rfl rfl (fun _ _ => by repeat (first | exact Sw.here | apply Sw.there)) (at_slc_all (by repeat first | exact mH | apply mT)) rfl (by simp [Value.oneCell']) (by unfold maxLen; omega) (by omega) rfl rfl (by repeat (first | exact HmOk.nil | apply HmOk.dep (by decide +kernel) | apply HmOk.blk (by decide +kernel) (by repeat (first | exact Pk.here | apply Pk.there)) (by repeat first | exact mH | apply mT))) (fun qn cn => ?_)
 (refine any_freeze (cs := es.flatten ++ [.int .i64 1, .slice none 0 0]) (by repeat (first | exact Pk.here | apply Pk.there)) (fun G6 hle6 hsl6 _ => ?_))
 refine aP 5 rfl (qF0 rfl) rfl ?_
 refine aO' 6 ?_
 refine one_store rfl rfl rfl rfl rfl rfl rfl rfl (by kernel_rfl) (by repeat first | exact Sw.here | apply Sw.there) (by rfl) ?_
 refine aD' ?_
 refine nrm_block (nrm_cut (.mk k (ks ++ [tyAny]), qn, cn, p + 1, G6) (by rw [show (Ty.mk k (ks ++ [tyAny])).ks.length = ks.length + 1 from by simp [Ty.ks]]; exact sMk) ?_)
 (dsimp only; refine ⟨hle6, RTyL.ty (ts := ks ++ [tyAny]) (es := es ++ [[.int .i64 1, .slice none 0 0]]) (RTyL.snoc (hst.mono hle6) (tyAny_r _)) rfl (by simpa [Ty.ks] using hsl6) hk, ?_, by omega, by omega⟩; rw [szTy, sumTy_snoc, tyAny_sz, List.length_append]; simp only [List.length_singleton]; omega)
 refine sQ (qA rfl) rfl (sD (nS (cF rfl ?_)))
 refine tS (tR (sB (qE rfl rfl) rfl rfl (fun h76 => ?_) (fun h76 => ?_)))
 refine sQ (qA rfl) rfl (sD (nS (qT rfl ?_)))
 refine tS (tR (sQ (qA rfl) rfl (sD (nS (tri_block ?_)))))
 (refine tri_freeze (by repeat (first | exact Pk.here | apply Pk.there)) (fun G3 hle3 hsl3 _ => ?_); refine tri_loopN (fun (x : Nat × Ty × Option Addr × Nat × IM) => ⟨[(6, .int .i64 x.1), (5, .pointer (some ⟨b11, 0, none⟩)), (4, .pointer (some ⟨b4, 0, none⟩))], [.blk b11 [.int .i64 x.2.1.k, .slice x.2.2.1 x.2.1.ks.length x.2.2.2.1], .blk b4 [.int .i64 0, .slice none 0 0], rd br pb nb cb (p + 1)], x.2.2.2.2⟩) (fun x => x.1 ≤ 4 ∧ IMle G3 x.2.2.2.2 ∧ RTy x.2.2.2.2 x.2.1 [.int .i64 x.2.1.k, .slice x.2.2.1 x.2.1.ks.length x.2.2.2.1] ∧ szTy x.2.1 ≤ 30 + 2 * x.1) (fun x => 4 - x.1) (0, .mk k ks, q, c, G3) ?_ ?_ ?_)
 (simp only [flat_snoc]; exact sMk)
 (dsimp only; exact ⟨by omega, IMle.refl _, (hst.mono hle3).ty rfl hsl3 hk, by (rw [szTy]; omega)⟩)
 (rintro ⟨i, ⟨tk, tks⟩, qi, ci, Gi⟩ ⟨hi, hlei, hri, hsi⟩; simp only [Ty.k, Ty.ks] at hi hlei hri hsi ⊢)
 refine tS (tS (tR (sQ (qM rfl) rfl (sB (pure_lss rfl rfl) rfl rfl (fun h95 => ?_) (fun h95 => ?_)))))
 refine sD (nS (qT rfl ?_))
 refine tK (nS (tS (tri_block (tri_draw mixed rfl ?_))))
 refine any_load (i := 1) (l' := [ff,tt,ff,ff,ff]) rfl npI (lBa rfl rfl) rfl (by kernel_rfl) rfl rfl ?_
 refine aO' 0 ?_
 refine one_val rfl rfl ((l1Any_fn _)) rfl rfl rfl ?_
 refine aO' 2 ?_
 (refine one_step0 rfl (step_buildSlice rfl rfl rfl (by omega) (by unfold maxLen; omega) rfl) rfl rfl ?_; rintro _ ⟨b108, rfl⟩)
 (refine any_freeze (cs := [.int .i64 1, .slice none 0 0, .int .i64 tk, .slice qi tks.length ci]) (by repeat (first | exact Pk.here | apply Pk.there)) (fun G7 hle7 hsl7 _ => ?_))
 refine aP 3 rfl (pBd rfl rfl) rfl ?_
 refine aO' 4 ?_
 refine one_store rfl rfl rfl rfl rfl rfl rfl rfl (by kernel_rfl) (by repeat first | exact Sw.here | apply Sw.there) (by rfl) ?_
 refine aD' ?_
 refine nrm_block (nS (tR (sQ (qM rfl) rfl (sP (pure_add rfl rfl (by omega) (by omega)) rfl rfl ?_))))
 refine sQ (qA rfl) rfl (sD (nrm_loopN (i + 1, .mk 4 [tyAny, .mk tk tks], some ⟨b108, 0, none⟩, 2, G7) ?_ ?_ ?_))
 (simp only [flat_snoc]; exact sMk)
 (dsimp only; refine ⟨by omega, hlei.trans hle7, RTyL.ty (ts := [tyAny, .mk tk tks]) (es := [[.int .i64 1, .slice none 0 0], [.int .i64 tk, .slice qi tks.length ci]]) ⟨_, _, rfl, tyAny_r _, _, _, rfl, hri.mono hle7, rfl⟩ rfl hsl7 ⟨by omega, by omega⟩, ?_⟩; rw [szTy, sumTy, sumTy, sumTy, tyAny_sz]; simp only [List.length_cons, List.length_nil]; omega)
 (show 4 - (i + 1) < 4 - i; omega)
 refine sD (nS (cF rfl ?_))
 refine tri_exit ?_
 refine ext_seq ?_
 refine ext_loopN ?_
 refine ext_block_eq ?_
 refine nrm_block (nrm_cut (.mk tk tks, qi, ci, p + 1, Gi) ?_ ?_)
 (simp only [flat_snoc]; exact sMk)
 (dsimp only; exact ⟨hle3.trans hlei, hri, by omega, by omega, by omega⟩)
 refine sQ (qA rfl) rfl (sD (nS (cF rfl ?_)))
 (refine tri_freeze (by repeat (first | exact Pk.here | apply Pk.there)) (fun G8 hle8 hsl8 _ => ?_); refine tK ?_)
 refine nrm_block (nrm_cut (.mk k ks, q, c, p + 1, G8) ?_ ?_)
 (simp only [flat_snoc]; exact sMk)
 (dsimp only; exact ⟨hle8, (hst.mono hle8).ty rfl hsl8 hk, by (rw [szTy]; omega), by omega, by omega⟩)
 (rintro ⟨t', q', c', p', G'⟩ ⟨hle9, hr9, hs9, hp9, hp9'⟩; simp only [] at hle9 hr9 hs9 hp9 hp9' ⊢)
 refine tS (tR (sL (lBa rfl rfl) rfl rfl ?_))
 refine sS' ?_
 refine sD (nS (tT (ret_own1 (outs := [rd br pb nb cb p']) (rC rfl (lBa rfl rfl)) (by repeat (first | exact SubH.nil | refine SubH.cons Pk.here ?_ | refine SubH.cons (Pk.there Pk.here) ?_ | apply SubH.drop)) ?_)))
 (exact ⟨p', by omega, by omega, rfl, t', _, rfl, hr9, by omega⟩)
mutual
def mBare : Tm → Tm
 | .mk k nm num ty fr lb ks => if k = 13 ∨ k = 14 then (mBareL ks).headD tm0 else .mk k nm num (if k = 5 then tyAny else ty0) ty0 0 (mBareL ks)
def mBareL : List Tm → List Tm
 | [] => []
 | t :: ts => mBare t :: mBareL ts
end
/-- The change that is made at a node. -/
def bareG : Tm → Tm
 | .mk k nm num ty fr lb ks => if k = 13 ∨ k = 14 then ks.headD tm0 else if k = 5 then .mk k nm num tyAny fr lb ks else .mk k nm num ty fr lb ks
def bareQ : Tm → Prop
 | .mk k _ _ _ _ _ ks => k = 13 ∨ k = 14 → ks ≠ []
theorem tNone_eq {t : Ty} (h : tNone t = true) : t = ty0 := by
 obtain ⟨k, ks⟩ := t
 obtain ⟨h1, h2⟩ : (Ty.mk k ks).k = 0 ∧ (Ty.mk k ks).ks.length = 0 := of_decide_eq_true h
 simp only [Ty.k, Ty.ks] at h1 h2
 have h3 : ks = [] := List.length_eq_zero_iff.1 (by omega)
 rw [h3, ty0]
 congr
theorem sShape_go2 {D N : Int} {k : Int} {nm : ByteArray} {num : Int} {ty fr : Ty} {lb : Int} {ks : List Tm} {d : Int} (h : sShape D N (.mk k nm num ty fr lb ks) d = true) : d ≤ D ∧ k ≠ N ∧ tmNode k nm num ty fr lb ks.length = true ∧ sShapeL D N ks (d + 1) = true := by
 rw [sShape] at h
 simp only [Bool.and_eq_true, decide_eq_true_eq] at h
 exact ⟨h.1.1.1, h.1.1.2, h.1.2, h.2⟩
section slaws
variable {P : Program} {Γ : Ctx} {env : Env} {hp : List Ent} {G : IM} {ty : TypeId}
theorem run_bound {P : Program} {w : World} {l c : Nat} (hl : l ≤ c) (code : BoundsCode) : (Instr.sliceBound (.int .i64 (l : Int)) c code).run P w = .ok l w := by
 unfold Instr.sliceBound
 simp only [asIntOf, Sem.run_bind, Sem.run_pure, Result.andThen_ok]
 rw [if_pos ⟨by omega, by omega⟩]
 simp
theorem pure_sslice {x y z : Operand} {t : TypeId} {i : TyR} [hI : TyI P t i] (hd' : i.desc = .string) {s : ByteArray} {l h : Nat}
  (hx : evo env x = some (.string s)) (hy : evo env y = some (.int .i64 (l : Int))) (hz : evo env z = some (.int .i64 (h : Int))) (hl : l ≤ h) (hh : h ≤ s.size) :
  PureOp P Γ ⟨env, hp, G⟩ (.slice t x (some y) (some z) none) ty (.string (s.extract l h)) := by
 refine ⟨fun a _ hs _ _ _ _ w => ?_⟩
 have hu := hI.und
 rw [hd'] at hu
 simp [execOp, (hs.evo hx : a.eval x = _), (hs.evo hy : a.eval y = _), (hs.evo hz : a.eval z = _), Instr.sliceAt, Sem.run_bind, run_underlying hu, Instr.slice, Instr.sliceBounds, run_bound hl, run_bound hh]
theorem pure_sslice_h {x z : Operand} {t : TypeId} {i : TyR} [hI : TyI P t i] (hd' : i.desc = .string) {s : ByteArray} {h : Nat}
  (hx : evo env x = some (.string s)) (hz : evo env z = some (.int .i64 (h : Int))) (hh : h ≤ s.size) :
  PureOp P Γ ⟨env, hp, G⟩ (.slice t x none (some z) none) ty (.string (s.extract 0 h)) := by
 refine ⟨fun a _ hs _ _ _ _ w => ?_⟩
 have hu := hI.und
 rw [hd'] at hu
 simp [execOp, (hs.evo hx : a.eval x = _), (hs.evo hz : a.eval z = _), Instr.sliceAt, Sem.run_bind, run_underlying hu, Instr.slice, Instr.sliceBounds, run_bound hh]
theorem pure_sslice_l {x y : Operand} {t : TypeId} {i : TyR} [hI : TyI P t i] (hd' : i.desc = .string) {s : ByteArray} {l : Nat}
  (hx : evo env x = some (.string s)) (hy : evo env y = some (.int .i64 (l : Int))) (hl : l ≤ s.size) :
  PureOp P Γ ⟨env, hp, G⟩ (.slice t x (some y) none none) ty (.string (s.extract l s.size)) := by
 refine ⟨fun a _ hs _ _ _ _ w => ?_⟩
 have hu := hI.und
 rw [hd'] at hu
 simp [execOp, (hs.evo hx : a.eval x = _), (hs.evo hy : a.eval y = _), Instr.sliceAt, Sem.run_bind, run_underlying hu, Instr.slice, Instr.sliceBounds, run_bound hl]
theorem pure_slss {x y : Operand} {t t' : TypeId} {r s : ByteArray} (hx : evo env x = some (.string r)) (hy : evo env y = some (.string s)) :
  PureOp P Γ ⟨env, hp, G⟩ (.binOp .lss t x y t') ty (.bool (decide (Op.bytesLess r.toList s.toList = true))) := by
 refine ⟨fun a _ hs _ _ _ _ w => ?_⟩
 simp only [execOp, eqGuard, binOp, Op.stringOp, (hs.evo hx : a.eval x = _), (hs.evo hy : a.eval y = _)]
 simp
end slaws
theorem l2Add_fn (s nm : ByteArray) (G : IM) (hs : s.size ≤ 1000) (hn : nm.size ≤ 1000) :
  Fn Tryz.prog 158 [.string s, .string nm] [] G (fun G' v outs => G' = G ∧ outs = [] ∧ ∃ r, v = .string r ∧ r.size ≤ s.size + nm.size) := by
 refine fn_enter Tryz.func158 rfl Tryz.ntmps158 Tryz.results158 rfl ?_
 intro w0
 refine tS (tR (sQ (qA rfl) rfl (sD (nS (tS (tR ?_))))))
 refine sQ (qA rfl) rfl (sD (nS (tS (tri_block ?_))))
 (refine tri_loopN (fun (i : Nat) => ⟨[(5, .int .i64 (i : Int)), (0, .string s), (1, .string nm)], [], G⟩) (fun i => i ≤ s.size) (fun i => s.size - i) 0 ?_ ?_ ?_)
 exact sMk
 exact Nat.zero_le _
 (intro i hi)
 refine tS (tS (tR (sQ (qM rfl) rfl (sQ (qM rfl) rfl (sQ (pure_len_str rfl rfl) rfl (sB (pure_lss rfl rfl) rfl rfl (fun h23 => ?_) (fun h23 => ?_)))))))
 refine sQ (qM rfl) rfl (sQ (qM rfl) rfl (sQ (qM rfl) rfl (sQ (qM rfl) rfl (sP (pure_add_nat (n := 1) rfl rfl (by omega)) rfl rfl ?_))))
 refine sP (pure_sslice (h := i + 1) rfl rfl rfl rfl (by omega) (by omega)) rfl rfl ?_
 refine sQ (qM rfl) rfl (sB (pure_slss rfl rfl) rfl rfl (fun h31 => ?_) (fun h31 => ?_))
 refine sQ (pPt rfl rfl) rfl (sD (nS (qT rfl ?_)))
 refine tK (nS (tri_block (tR (sQ (qM rfl) rfl (sP (pure_add_nat (n := 1) rfl rfl (by omega)) rfl rfl ?_)))))
 refine sQ (qA rfl) rfl (sD (nrm_block (nrm_loopN (i + 1) ?_ ?_ ?_)))
 exact sMk
 (show _ ≤ s.size; omega)
 (show s.size - _ < s.size - _; omega)
 refine sQ (pPt rfl rfl) rfl (sD (nS (cF rfl ?_)))
 refine tri_exit ?_
 refine ext_seq ?_
 refine ext_loopN ?_
 refine ext_block_eq ?_
 refine nS (tS (tS (tR (sQ (qM rfl) rfl (sQ (qM rfl) rfl (sQ (pure_len_str rfl rfl) rfl ?_))))))
 refine sP (pure_lss_t rfl rfl (by omega)) rfl rfl ?_
 refine sQ (qM rfl) rfl (sQ (qM rfl) rfl (sQ (qM rfl) rfl (sQ (qM rfl) rfl (sP (pure_add_nat (n := 1) rfl rfl (by omega)) rfl rfl ?_))))
 refine sP (pure_sslice (h := i + 1) rfl rfl rfl rfl (by omega) (by omega)) rfl rfl ?_
 refine sQ (qM rfl) rfl (sB (pure_seql rfl rfl) rfl rfl (fun h72 => ?_) (fun h72 => ?_))
 refine sQ (pPt rfl rfl) rfl (sD (nS (qT rfl ?_)))
 refine tS (tR (sQ (qM rfl) rfl (sQ (qA rfl) rfl (sD (nS (tT ?_))))))
 refine rS (ret_own1 (outs := []) (rT rfl) SubH.nil ?_)
 (exact ⟨rfl, rfl, _, rfl, Nat.le_add_right _ _⟩)
 refine sQ (pPt rfl rfl) rfl (sD (nS (cF rfl ?_)))
 refine tK (nS (tS (tri_draw mixed rfl ?_)))
 refine any_pure (i := 0) (l' := [tt,ff,ff,ff,ff,ff,ff,ff,ff,ff]) rfl npI (qM rfl) rfl (by kernel_rfl) rfl rfl ?_
 refine aP 1 rfl (qM rfl) rfl ?_
 refine aP 2 rfl (pure_sslice_h rfl rfl rfl (by omega)) rfl ?_
 refine aP 3 rfl (qM rfl) rfl ?_
 refine aP 4 rfl (pure_cat rfl rfl (by simp only [ByteArray.size_extract, ByteArray.size_append]; omega)) rfl ?_
 refine aP 5 rfl (qM rfl) rfl ?_
 refine aP 6 rfl (qM rfl) rfl ?_
 refine aP 7 rfl (pure_sslice_l rfl rfl rfl (by omega)) rfl ?_
 refine aP 8 rfl (pure_cat rfl rfl (by simp only [ByteArray.size_extract, ByteArray.size_append]; omega)) rfl ?_
 refine aP 9 rfl (qA rfl) rfl ?_
 refine aD' ?_
 refine nS (tT (ret_own1 (outs := []) (rT rfl) SubH.nil ?_))
 (exact ⟨rfl, rfl, _, rfl, by simp only [ByteArray.size_extract, ByteArray.size_append]; omega⟩)
 refine sQ (qM rfl) rfl (sK rfl rfl (sK rfl rfl (sK rfl rfl (sK rfl rfl (sK rfl rfl (sK rfl rfl ?_))))))
 refine sK rfl rfl (sQ (pPf rfl rfl) rfl (sD (nS (cF rfl ?_))))
 refine tri_exit ?_
 refine ext_seq ?_
 refine ext_loopN ?_
 refine ext_block_eq ?_
 refine nS (tS (tS (tR (sQ (qM rfl) rfl (sQ (qM rfl) rfl (sQ (pure_len_str rfl rfl) rfl ?_))))))
 refine sP (pure_lss_f rfl rfl (by omega)) rfl rfl ?_
 refine sQ (qM rfl) rfl (sK rfl rfl (sK rfl rfl (sK rfl rfl (sK rfl rfl (sK rfl rfl (sK rfl rfl ?_))))))
 refine sK rfl rfl (sQ (pPf rfl rfl) rfl (sD (nS (cF rfl ?_))))
 refine tK (nS (tS (tri_draw mixed rfl ?_)))
 refine any_pure (i := 0) (l' := [tt,ff,ff,ff,ff,ff,ff,ff,ff,ff]) rfl npI (qM rfl) rfl (by kernel_rfl) rfl rfl ?_
 refine aP 1 rfl (qM rfl) rfl ?_
 refine aP 2 rfl (pure_sslice_h rfl rfl rfl (by omega)) rfl ?_
 refine aP 3 rfl (qM rfl) rfl ?_
 refine aP 4 rfl (pure_cat rfl rfl (by simp only [ByteArray.size_extract, ByteArray.size_append]; omega)) rfl ?_
 refine aP 5 rfl (qM rfl) rfl ?_
 refine aP 6 rfl (qM rfl) rfl ?_
 refine aP 7 rfl (pure_sslice_l rfl rfl rfl (by omega)) rfl ?_
 refine aP 8 rfl (pure_cat rfl rfl (by simp only [ByteArray.size_extract, ByteArray.size_append]; omega)) rfl ?_
 refine aP 9 rfl (qA rfl) rfl ?_
 refine aD' ?_
 refine nS (tT (ret_own1 (outs := []) (rT rfl) SubH.nil ?_))
 (exact ⟨rfl, rfl, _, rfl, by simp only [ByteArray.size_extract, ByteArray.size_append]; omega⟩)
theorem ty0_r (G : IM) : RTy G ty0 [.int .i64 0, .slice none 0 0] := by
 simp only [ty0, RTy]
 exact ⟨none, 0, [], rfl, ⟨by omega, by omega⟩, SlE.of (Sl.nil _ _) rfl (by simp) (by simp), by simp [RTyL]⟩
theorem ty0_sz : szTy ty0 = 0 := rfl
theorem RTmL.tm {G : IM} {k : Int} {nm : ByteArray} {num : Int} {t : Ty} {q : Option Addr} {d : Nat} {ts : List Tm} {es : List (List Value)} {p : Option Addr} {n c : Nat} (h : RTmL G ts es) (hn : ts.length = n) (hs : Sl G p n c 9 es.flatten) (hk : I64 k) (hm : I64 num)
  (ht : RTy G t [.int .i64 t.k, .slice q t.ks.length d]) : RTm G (.mk k nm num t ty0 0 ts) [.int .i64 k, .string nm, .int .i64 num, .int .i64 t.k, .slice q t.ks.length d, .int .i64 0, .slice none 0 0, .int .i64 0, .slice p n c] := by
 subst hn
 simp only [RTm]
 exact ⟨_, _, p, c, es, rfl, hk, hm, ⟨by omega, by omega⟩, ht, ty0_r G, SlE.of hs h.len h.all (fun e he => (h.each e he).2), h⟩
theorem tz_r {G : IM} {k : Int} {nm : ByteArray} {num : Int} (hk : I64 k) (hm : I64 num) :
  RTm G (.mk k nm num ty0 ty0 0 []) [.int .i64 k, .string nm, .int .i64 num, .int .i64 0, .slice none 0 0, .int .i64 0, .slice none 0 0, .int .i64 0, .slice none 0 0] :=
 RTmL.tm (ts := []) (es := []) (t := ty0) (by simp [RTmL]) rfl (Sl.nil _ _) hk hm (ty0_r G)
theorem tz_sz (k : Int) (nm : ByteArray) (num : Int) : szTm (.mk k nm num ty0 ty0 0 []) = nm.size := by
 rw [szTm, ty0_sz, sumTm]; simp
theorem sumTm_snoc : ∀ (ts : List Tm) (t : Tm), sumTm (ts ++ [t]) = sumTm ts + szTm t
 | [], t => by simp [sumTm]
 | a :: ts, t => by simp only [List.cons_append, sumTm, sumTm_snoc ts t]; omega
theorem tmOps_le (k : Int) : tmOps k ≤ 3 := by
 unfold tmOps; repeat (split; omega)
 omega
theorem dB_le2 {d : Nat} (h : d ≤ 2) : dB (d + 1) ≤ 14 := by
 have : d = 0 ∨ d = 1 ∨ d = 2 := by omega
 rcases this with rfl | rfl | rfl <;> decide
theorem l2Num_fn (n : Int) (G : IM) : Fn Tryz.prog 58 [.int .i64 n] [] G (Val (.agg ⟨[.int .i64 2, .string ⟨⟨[]⟩⟩, .int .i64 n, .int .i64 0, .slice none 0 0, .int .i64 0, .slice none 0 0, .int .i64 0, .slice none 0 0]⟩) G) := by
 refine fn_enter Tryz.func58 rfl Tryz.ntmps58 Tryz.results58 rfl ?_
 intro w0
 refine tS (tR ?_)
 refine sE (step_alloc rfl) rfl (fun b3 => ?_)
 refine sD (nS (tS (tR (sQ (qM rfl) rfl (sQ (pBd rfl rfl) rfl (sS' ?_))))))
 refine sD (nS (tT (rF1 (rC rfl (lBa rfl rfl)) ?_)))
 exact ⟨rfl, rfl, rfl⟩
theorem l2Atom_fn (br : Nat) (pb : Option Addr) (nb cb : Nat) (bs : List UInt8) (hnb : nb ≤ 2000) (p : Nat) (G : IM) (hb : Sl G pb nb cb 1 (byts bs)) (hp : p + 3 < 1099511627776) (s : ByteArray) (hs : s.size ≤ 1000) :
  Fn Tryz.prog 157 [.pointer (some ⟨br, 0, none⟩), .string s] [rd br pb nb cb p] G
   (Drew br pb nb cb p 3 (fun G' v => ∃ t cells, v = .agg ⟨cells⟩ ∧ RTm G' t cells ∧ szTm t ≤ 1)) := by
 refine fn_enter Tryz.func157 rfl Tryz.ntmps157 Tryz.results157 rfl ?_
 intro w0
 refine tS (tR ?_)
 refine sE (step_alloc rfl) rfl (fun b3 => ?_)
 refine sD (nS (tS (tS (tR (sQ (qM rfl) rfl (sQ (pure_len_str rfl rfl) rfl ?_))))))
 refine sB (pure_gtr rfl rfl) rfl rfl (fun h11 => ?_) (fun h11 => ?_)
 refine sQ (qM rfl) rfl (sQ (qM rfl) rfl ?_)
 (refine seq_take rfl (pick_fn _ br pb nb cb p bs _ hb hnb (by omega)) (Pk.perm (by repeat (first | exact Pk.here | apply Pk.there))) rfl rfl (fun v14 G14 outs14 hle14 hh => ?_); obtain ⟨rfl, rfl, j14, rfl, hj14, hk14⟩ := hh; obtain ⟨i14, rfl⟩ := Int.eq_ofNat_of_zero_le hj14)
 replace hb := hb.mono hle14
 refine sB (pure_gtr rfl rfl) rfl rfl (fun h15 => ?_) (fun h15 => ?_)
 refine sQ (pPt rfl rfl) rfl (sD (nS (qT rfl ?_)))
 refine tS (tR (sQ (qM rfl) rfl (sQ (qM rfl) rfl (sQ (pure_len_str rfl rfl) rfl ?_))))
 (refine seq_take rfl (pick_fn _ br pb nb cb (p + 1) bs _ hb hnb (by omega)) (Pk.perm (by repeat (first | exact Pk.here | apply Pk.there))) rfl rfl (fun v25 G25 outs25 hle25 hh => ?_); obtain ⟨rfl, rfl, j25, rfl, hj25, hk25⟩ := hh; obtain ⟨i25, rfl⟩ := Int.eq_ofNat_of_zero_le hj25)
 replace hb := hb.mono hle25
 refine sQ (qA rfl) rfl (sD (nS (tS (tR (sQ (qM rfl) rfl (sQ (qM rfl) rfl ?_))))))
 refine sQ (qM rfl) rfl (sP (pure_add_nat (n := 1) rfl rfl (by omega)) rfl rfl ?_)
 refine sP (pure_sslice rfl rfl rfl rfl (by omega) (by omega)) rfl rfl ?_
 refine sQ (pBd rfl rfl) rfl (sS' ?_)
 refine sD (nS (tT (rS (ret_own1 (outs := [rd br pb nb cb (p + 1 + 1)]) (rC rfl (lBa rfl rfl)) (by repeat (first | exact SubH.nil | refine SubH.cons Pk.here ?_ | refine SubH.cons (Pk.there Pk.here) ?_ | refine SubH.cons (Pk.there (Pk.there Pk.here)) ?_ | apply SubH.drop)) ?_))))
 focus (refine ⟨_, ?_, ?_, rfl, _, _, rfl, tz_r ⟨by omega, by omega⟩ ⟨by omega, by omega⟩, ?_⟩; all_goals (try rw [tz_sz]); all_goals (first | omega | (simp only [ByteArray.size_extract]; omega) | decide))
 refine sQ (pPt rfl rfl) rfl (sD (nS (cF rfl ?_)))
 refine tK (nS (tS (tS (tR (sQ (qM rfl) rfl ?_)))))
 (refine seq_take rfl (pick_fn _ br pb nb cb (p + 1) bs _ hb hnb (by omega)) (Pk.perm (by repeat (first | exact Pk.here | apply Pk.there))) rfl rfl (fun v54 G54 outs54 hle54 hh => ?_); obtain ⟨rfl, rfl, j54, rfl, hj54, hk54⟩ := hh; obtain ⟨i54, rfl⟩ := Int.eq_ofNat_of_zero_le hj54)
 replace hb := hb.mono hle54
 refine sD (nS (tri_block (tS (tR (sB (qE rfl rfl) rfl rfl (fun h60 => ?_) (fun h60 => ?_))))))
 refine sQ (qA rfl) rfl (sD (nS (qT rfl ?_)))
 refine tS (tR (sQ (pBd rfl rfl) rfl (sS' ?_)))
 refine sD (nS (tT (rB (rS (ret_own1 (outs := [rd br pb nb cb (p + 1 + 1)]) (rC rfl (lBa rfl rfl)) (by repeat (first | exact SubH.nil | refine SubH.cons Pk.here ?_ | refine SubH.cons (Pk.there Pk.here) ?_ | refine SubH.cons (Pk.there (Pk.there Pk.here)) ?_ | apply SubH.drop)) ?_)))))
 focus (refine ⟨_, ?_, ?_, rfl, _, _, rfl, tz_r ⟨by omega, by omega⟩ ⟨by omega, by omega⟩, ?_⟩; all_goals (try rw [tz_sz]); all_goals (first | omega | (simp only [ByteArray.size_extract]; omega) | decide))
 refine sQ (qA rfl) rfl (sD (nS (cF rfl ?_)))
 refine tS (tR (sB (qE rfl rfl) rfl rfl (fun h82 => ?_) (fun h82 => ?_)))
 refine sQ (qA rfl) rfl (sD (nS (qT rfl ?_)))
 refine tS (tR (sQ (pBd rfl rfl) rfl (sS' ?_)))
 refine sD (nS (tT (rB (rS (ret_own1 (outs := [rd br pb nb cb (p + 1 + 1)]) (rC rfl (lBa rfl rfl)) (by repeat (first | exact SubH.nil | refine SubH.cons Pk.here ?_ | refine SubH.cons (Pk.there Pk.here) ?_ | refine SubH.cons (Pk.there (Pk.there Pk.here)) ?_ | apply SubH.drop)) ?_)))))
 focus (refine ⟨_, ?_, ?_, rfl, _, _, rfl, tz_r ⟨by omega, by omega⟩ ⟨by omega, by omega⟩, ?_⟩; all_goals (try rw [tz_sz]); all_goals (first | omega | (simp only [ByteArray.size_extract]; omega) | decide))
 refine sQ (qA rfl) rfl (sD (nS (cF rfl ?_)))
 refine tK (nrm_block (nS (tS (tR (sQ (qM rfl) rfl ?_)))))
 (refine seq_step (step_buildSlice rfl rfl rfl (by omega) (by unfold maxLen; omega) rfl) rfl ?_; rintro _ ⟨b108, rfl⟩)
 (refine triL_freeze (by repeat (first | exact Pk.here | apply Pk.there)) (fun Gf hlef hslf _ => ?_); refine seq_take rfl (num_fn Gf br pb nb cb (p + 1 + 1) bs _ _ _ _ (hb.mono hlef) hnb (by omega) hslf (by decide)) (Pk.perm (by repeat (first | exact Pk.here | apply Pk.there))) rfl rfl (fun v Gn outs hlen hh => ?_); obtain ⟨rfl, rfl, hv⟩ := hh; obtain ⟨kn, rfl, hkn⟩ : ∃ k, v = .int .i64 k ∧ I64 k := (by simp only [List.mem_cons, List.not_mem_nil, or_false] at hv; rcases hv with rfl | rfl | rfl | rfl | rfl | rfl <;> exact ⟨_, rfl, by unfold I64; omega⟩))
 refine seq_val rfl ((l2Num_fn _ _)) rfl rfl ?_
 refine sS' ?_
 refine sD (nS (tT (ret_own1 (outs := [rd br pb nb cb (p + 1 + 1 + 1)]) (rC rfl (lBa rfl rfl)) (by repeat (first | exact SubH.nil | refine SubH.cons Pk.here ?_ | refine SubH.cons (Pk.there Pk.here) ?_ | refine SubH.cons (Pk.there (Pk.there Pk.here)) ?_ | apply SubH.drop)) ?_)))
 focus (refine ⟨_, ?_, ?_, rfl, _, _, rfl, tz_r ⟨by omega, by omega⟩ hkn, ?_⟩; all_goals (try rw [tz_sz]); all_goals (first | omega | decide))
 refine sQ (qM rfl) rfl (sK rfl rfl (sK rfl rfl (sK rfl rfl (sQ (pPf rfl rfl) rfl (sD (nS ?_))))))
 refine cF rfl ?_
 refine tK (nS (tS (tS (tR (sQ (qM rfl) rfl ?_)))))
 (refine seq_take rfl (pick_fn _ br pb nb cb p bs _ hb hnb (by omega)) (Pk.perm (by repeat (first | exact Pk.here | apply Pk.there))) rfl rfl (fun v131 G131 outs131 hle131 hh => ?_); obtain ⟨rfl, rfl, j131, rfl, hj131, hk131⟩ := hh; obtain ⟨i131, rfl⟩ := Int.eq_ofNat_of_zero_le hj131)
 replace hb := hb.mono hle131
 refine sD (nS (tri_block (tS (tR (sB (qE rfl rfl) rfl rfl (fun h137 => ?_) (fun h137 => ?_))))))
 refine sQ (qA rfl) rfl (sD (nS (qT rfl ?_)))
 refine tS (tR (sQ (pBd rfl rfl) rfl (sS' ?_)))
 refine sD (nS (tT (rB (rS (ret_own1 (outs := [rd br pb nb cb (p + 1)]) (rC rfl (lBa rfl rfl)) (by repeat (first | exact SubH.nil | refine SubH.cons Pk.here ?_ | refine SubH.cons (Pk.there Pk.here) ?_ | refine SubH.cons (Pk.there (Pk.there Pk.here)) ?_ | apply SubH.drop)) ?_)))))
 focus (refine ⟨_, ?_, ?_, rfl, _, _, rfl, tz_r ⟨by omega, by omega⟩ ⟨by omega, by omega⟩, ?_⟩; all_goals (try rw [tz_sz]); all_goals (first | omega | (simp only [ByteArray.size_extract]; omega) | decide))
 refine sQ (qA rfl) rfl (sD (nS (cF rfl ?_)))
 refine tS (tR (sB (qE rfl rfl) rfl rfl (fun h159 => ?_) (fun h159 => ?_)))
 refine sQ (qA rfl) rfl (sD (nS (qT rfl ?_)))
 refine tS (tR (sQ (pBd rfl rfl) rfl (sS' ?_)))
 refine sD (nS (tT (rB (rS (ret_own1 (outs := [rd br pb nb cb (p + 1)]) (rC rfl (lBa rfl rfl)) (by repeat (first | exact SubH.nil | refine SubH.cons Pk.here ?_ | refine SubH.cons (Pk.there Pk.here) ?_ | refine SubH.cons (Pk.there (Pk.there Pk.here)) ?_ | apply SubH.drop)) ?_)))))
 focus (refine ⟨_, ?_, ?_, rfl, _, _, rfl, tz_r ⟨by omega, by omega⟩ ⟨by omega, by omega⟩, ?_⟩; all_goals (try rw [tz_sz]); all_goals (first | omega | (simp only [ByteArray.size_extract]; omega) | decide))
 refine sQ (qA rfl) rfl (sD (nS (cF rfl ?_)))
 refine tK (nrm_block (nS (tS (tR (sQ (qM rfl) rfl ?_)))))
 (refine seq_step (step_buildSlice rfl rfl rfl (by omega) (by unfold maxLen; omega) rfl) rfl ?_; rintro _ ⟨b185, rfl⟩)
 (refine triL_freeze (by repeat (first | exact Pk.here | apply Pk.there)) (fun Gf hlef hslf _ => ?_); refine seq_take rfl (num_fn Gf br pb nb cb (p + 1) bs _ _ _ _ (hb.mono hlef) hnb (by omega) hslf (by decide)) (Pk.perm (by repeat (first | exact Pk.here | apply Pk.there))) rfl rfl (fun v Gn outs hlen hh => ?_); obtain ⟨rfl, rfl, hv⟩ := hh; obtain ⟨kn, rfl, hkn⟩ : ∃ k, v = .int .i64 k ∧ I64 k := (by simp only [List.mem_cons, List.not_mem_nil, or_false] at hv; rcases hv with rfl | rfl | rfl | rfl | rfl | rfl <;> exact ⟨_, rfl, by unfold I64; omega⟩))
 refine seq_val rfl ((l2Num_fn _ _)) rfl rfl ?_
 refine sS' ?_
 refine sD (nS (tT (ret_own1 (outs := [rd br pb nb cb (p + 1 + 1)]) (rC rfl (lBa rfl rfl)) (by repeat (first | exact SubH.nil | refine SubH.cons Pk.here ?_ | refine SubH.cons (Pk.there Pk.here) ?_ | refine SubH.cons (Pk.there (Pk.there Pk.here)) ?_ | apply SubH.drop)) ?_)))
 focus (refine ⟨_, ?_, ?_, rfl, _, _, rfl, tz_r ⟨by omega, by omega⟩ hkn, ?_⟩; all_goals (try rw [tz_sz]); all_goals (first | omega | decide))
end Gw
end Go.Proofs.YthpdjmbpbdbodaaGreatDoor
