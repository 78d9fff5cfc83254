/-
  The reference model's tests of nodes.
-/
import Derived.Test.YtgodjiieijekiaaGreatDoorKi1
import Init
import Derived.Test.YtgodjiieijekiaaGreatDoorKi0
set_option linter.unusedVariables false
set_option linter.unusedSimpArgs false
set_option maxHeartbeats 0
set_option maxRecDepth 100000
set_option synthInstance.maxSize 4000
set_option synthInstance.maxHeartbeats 0
namespace Go.Proofs.YtgodjiieijekiaaGreatDoor
open Go Go.RowKit
namespace Gw
section blaws
variable {P : Program} {Γ : K0} {env : K3} {hp : List A4} {G : IM} {ty : TypeId}
theorem A1G {x y : Operand} {t t' : TypeId} {i : M5} [hI : I0 P t i] (hd : i.desc = .bool) {r : Bool} (hx : evo env x = some (.bool r)) (hy : evo env y = some (.bool r)) :
  H5 P Γ ⟨env, hp, G⟩ (.binOp .neq t x y t') ty (.bool false) := by
 have h := A5r (P := P) (Γ := Γ) (hp := hp) (G := G) (t := t) (t' := t') (ty := ty) hd hx hy
 rwa [decide_eq_false (by simp)] at h
theorem A73 {x y : Operand} {t t' : TypeId} {i : M5} [hI : I0 P t i] (hd : i.desc = .bool) (hx : evo env x = some (.bool true)) (hy : evo env y = some (.bool false)) :
  H5 P Γ ⟨env, hp, G⟩ (.binOp .neq t x y t') ty (.bool true) := A5r hd hx hy
theorem A5Q {x y : Operand} {t t' : TypeId} {i : M5} [hI : I0 P t i] (hd : i.desc = .bool) (hx : evo env x = some (.bool false)) (hy : evo env y = some (.bool true)) :
  H5 P Γ ⟨env, hp, G⟩ (.binOp .neq t x y t') ty (.bool true) := A5r hd hx hy
end blaws
theorem B2m (n : Int) : ((1 ≤ A0K n ∧ A0K n ≤ 99) ↔ Z0 n = true) := by
 unfold A0K Z0 X0
 simp only [Bool.or_eq_true, decide_eq_true_eq]
 split
 ·omega
 ·split <;> omega
theorem B2n (k : Int) (nm : ByteArray) (num : Int) (ty fr : Ty) (lb : Int) (ks : List Tm) (G : IM) (cells : List Value) (hr : B5 G (.mk k nm num ty fr lb ks) cells) (R : Bool)
  (hi : R = true ↔ nm = ⟨#[]⟩ ∧ num = 0 ∧ (1 ≤ A0K lb ∧ A0K lb ≤ 99) ∧ H3 ty = true ∧ H3 fr = true ∧ K2 fr ty = true) :
  Fn Tryz.prog 142 [.agg ⟨cells⟩] [] G (L6 (.bool R) G) := by
 obtain ⟨tk, tks⟩ := ty
 obtain ⟨fk, fks⟩ := fr
 obtain ⟨pt, ct, pf, cf, p, c, es, rfl, hk, hnum, hlb, hty, hfr, hsl, hkl⟩ := hr.open9
 clear hr
 have o3 := A0L _ G _ hty
 have o4 := A0L _ G _ hfr
 have o6 := B2i lb G
 refine B8 Tryz.func142 rfl Tryz.ntmps142 Tryz.results142 rfl ?_
 intro w0
 refine tS (tR ?_)
 refine sE (E7 rfl rfl) rfl (fun b3 => ?_)
 refine B7 ?_
 refine H7 rfl (o6) rfl rfl ?_
 refine B7 ?_
 refine sB (A02 rfl rfl) rfl rfl (fun h19 => ?_) (fun h19 => ?_)
 refine H0 ?_
 refine sB (qE rfl rfl) rfl rfl (fun h23 => ?_) (fun h23 => ?_)
 refine sQ (J8 rfl rfl) rfl (sQ (qM rfl) rfl (sQ (qM rfl) rfl ?_))
 refine sB (S4 rfl rfl) rfl rfl (fun h27 => ?_) (fun h27 => ?_)
 refine sQ (J8 rfl rfl) rfl (sQ (qM rfl) rfl (sQ (qM rfl) rfl ?_))
 refine sB (W8 rfl rfl) rfl rfl (fun h31 => ?_) (fun h31 => ?_)
 refine H9 ?_
 refine J4 rfl (o3) rfl rfl (fun h36 => ?_) (fun h36 => ?_)
 refine H9 ?_
 refine J4 rfl (o4) rfl rfl (fun h41 => ?_) (fun h41 => ?_)
 refine K4 ?_
 refine J4 rfl (B2l _ _ G _ _ _ _ (by assumption) (by assumption) hfr hty) rfl rfl (fun h48 => ?_) (fun h48 => ?_)
 refine K4 ?_
 exact ⟨rfl, by rw [hi.2 ⟨by (first | assumption | exact Classical.not_not.1 (by assumption)), by omega, by omega, by assumption, by assumption, by assumption⟩], rfl⟩
 refine K4 ?_
 exact ⟨rfl, by (cases R with | false => rfl | true => (exfalso; obtain ⟨i1, i2, i3, i4, i5, i6⟩ := hi.1 rfl; first | omega | (simp_all; done))), rfl⟩
 refine I5 ?_
 exact ⟨rfl, by (cases R with | false => rfl | true => (exfalso; obtain ⟨i1, i2, i3, i4, i5, i6⟩ := hi.1 rfl; first | omega | (simp_all; done))), rfl⟩
 refine A0i ?_
 exact ⟨rfl, by (cases R with | false => rfl | true => (exfalso; obtain ⟨i1, i2, i3, i4, i5, i6⟩ := hi.1 rfl; first | omega | (simp_all; done))), rfl⟩
 refine A0I ?_
 exact ⟨rfl, by (cases R with | false => rfl | true => (exfalso; obtain ⟨i1, i2, i3, i4, i5, i6⟩ := hi.1 rfl; first | omega | (simp_all; done))), rfl⟩
 refine A5G ?_
 exact ⟨rfl, by (cases R with | false => rfl | true => (exfalso; obtain ⟨i1, i2, i3, i4, i5, i6⟩ := hi.1 rfl; first | omega | (simp_all; done))), rfl⟩
 refine W9 ?_
 refine E9 (rT rfl) ?_
 exact ⟨rfl, by (cases R with | false => rfl | true => (exfalso; obtain ⟨i1, i2, i3, i4, i5, i6⟩ := hi.1 rfl; first | omega | (simp_all; done))), rfl⟩
 refine W9 ?_
 refine sQ (qA rfl) rfl (sD (nS (tT (E9 (rT rfl) ?_))))
 exact ⟨rfl, by (cases R with | false => rfl | true => (exfalso; obtain ⟨i1, i2, i3, i4, i5, i6⟩ := hi.1 rfl; first | omega | (simp_all; done))), rfl⟩
theorem A74 (k : Int) (nm : ByteArray) (num : Int) (ty fr : Ty) (lb : Int) (ks : List Tm) (G : IM) (cells : List Value) (hr : B5 G (.mk k nm num ty fr lb ks) cells) (R : Bool)
  (hi : R = true ↔ (k = 1 ∨ k = 5 → V5 nm = true) ∧ (¬(k = 1 ∨ k = 5) → nm = ⟨#[]⟩) ∧ (k = 5 ∨ k = 13 ∨ k = 14 → H3 ty = true) ∧ (¬(k = 5 ∨ k = 13 ∨ k = 14) → X1 ty = true) ∧ (k ≠ 14 → X1 fr = true ∧ lb = 0) ∧ (k = 2 → 0 ≤ num ∧ num ≤ 999) ∧ (k ≠ 2 → num = 0)) :
  Fn Tryz.prog 94 [.agg ⟨cells⟩] [] G (L6 (.bool R) G) := by
 have he : nm = ⟨#[]⟩ → V5 nm = false := by rintro rfl; rfl
 obtain ⟨tk, tks⟩ := ty
 obtain ⟨fk, fks⟩ := fr
 obtain ⟨pt, ct, pf, cf, p, c, es, rfl, hk, hnum, hlb, hty, hfr, hsl, hkl⟩ := hr.open9
 clear hr
 have o2 := A7X nm G
 have o3 := A0L _ G _ hty
 have o4 := A7Y _ G _ hty
 have o7 := A7Y _ G _ hfr
 refine B8 Tryz.func94 rfl Tryz.ntmps94 Tryz.results94 rfl ?_
 intro w0
 refine tS (tR ?_)
 refine sE (E7 rfl rfl) rfl (fun b3 => ?_)
 refine B7 ?_
 refine sB (qE rfl rfl) rfl rfl (fun h11 => ?_) (fun h11 => ?_)
 refine Q4 ?_
 refine sP (M1 rfl rfl (by omega)) rfl rfl ?_
 refine H0 ?_
 refine sP (M1 rfl rfl (by omega)) rfl rfl ?_
 refine H9 ?_
 refine sP (M1 rfl rfl (by omega)) rfl rfl ?_
 refine M2 ?_
 refine J4 rfl (o2) rfl rfl (fun h44 => ?_) (fun h44 => ?_)
 refine sQ (A1G rfl rfl rfl) rfl ?_
 refine A1R ?_
 refine J4 rfl (o4) rfl rfl (fun h70 => ?_) (fun h70 => ?_)
 refine I5 ?_
 refine sP (A0h rfl rfl (by omega)) rfl rfl ?_
 refine H0 ?_
 refine J4 rfl (o7) rfl rfl (fun h88 => ?_) (fun h88 => ?_)
 refine H9 ?_
 refine sB (P5 rfl rfl) rfl rfl (fun h93 => ?_) (fun h93 => ?_)
 refine I5 ?_
 exact ⟨rfl, by (cases R with | false => rfl | true => (exfalso; obtain ⟨i1, i2, i3, i4, i5, i6, i7⟩ := hi.1 rfl; first | omega | (have j := i1 (by omega); simp_all; done) | (have j := he (i2 (by omega)); simp_all; done) | (have j := i2 (by omega); simp_all; done) | (have j := i3 (by omega); simp_all; done) | (have j := i4 (by omega); simp_all; done) | (have j := i5 (by omega); simp_all; done))), rfl⟩
 refine Q4 ?_
 refine sP (M1 rfl rfl (by omega)) rfl rfl ?_
 refine C7 ?_
 refine sB (qE rfl rfl) rfl rfl (fun h130 => ?_) (fun h130 => ?_)
 refine sQ (qA rfl) rfl (sD (nS (tT (E9 (rT rfl) ?_))))
 exact ⟨rfl, by rw [hi.2 ⟨fun _ => by (first | assumption | (exfalso; omega)), fun _ => by (first | assumption | (exfalso; omega) | exact Classical.not_not.1 (by assumption)), fun _ => by (first | assumption | (exfalso; omega)), fun _ => by (first | assumption | (exfalso; omega)), fun _ => ⟨by (first | assumption | (exfalso; omega)), by (first | assumption | omega)⟩, by omega, by omega⟩], rfl⟩
 refine sQ (qA rfl) rfl (sD (nS (tT (E9 (rT rfl) ?_))))
 exact ⟨rfl, by (cases R with | false => rfl | true => (exfalso; obtain ⟨i1, i2, i3, i4, i5, i6, i7⟩ := hi.1 rfl; first | omega | (have j := i1 (by omega); simp_all; done) | (have j := he (i2 (by omega)); simp_all; done) | (have j := i2 (by omega); simp_all; done) | (have j := i3 (by omega); simp_all; done) | (have j := i4 (by omega); simp_all; done) | (have j := i5 (by omega); simp_all; done))), rfl⟩
 refine A0i ?_
 exact ⟨rfl, by (cases R with | false => rfl | true => (exfalso; obtain ⟨i1, i2, i3, i4, i5, i6, i7⟩ := hi.1 rfl; first | omega | (have j := i1 (by omega); simp_all; done) | (have j := he (i2 (by omega)); simp_all; done) | (have j := i2 (by omega); simp_all; done) | (have j := i3 (by omega); simp_all; done) | (have j := i4 (by omega); simp_all; done) | (have j := i5 (by omega); simp_all; done))), rfl⟩
 refine O8 ?_
 exact ⟨rfl, by (cases R with | false => rfl | true => (exfalso; obtain ⟨i1, i2, i3, i4, i5, i6, i7⟩ := hi.1 rfl; first | omega | (have j := i1 (by omega); simp_all; done) | (have j := he (i2 (by omega)); simp_all; done) | (have j := i2 (by omega); simp_all; done) | (have j := i3 (by omega); simp_all; done) | (have j := i4 (by omega); simp_all; done) | (have j := i5 (by omega); simp_all; done))), rfl⟩
 refine sQ (A73 rfl rfl rfl) rfl ?_
 refine W9 ?_
 refine C7 ?_
 exact ⟨rfl, by (cases R with | false => rfl | true => (exfalso; obtain ⟨i1, i2, i3, i4, i5, i6, i7⟩ := hi.1 rfl; first | omega | (have j := i1 (by omega); simp_all; done) | (have j := he (i2 (by omega)); simp_all; done) | (have j := i2 (by omega); simp_all; done) | (have j := i3 (by omega); simp_all; done) | (have j := i4 (by omega); simp_all; done) | (have j := i5 (by omega); simp_all; done))), rfl⟩
 refine H0 ?_
 refine sB (qE rfl rfl) rfl rfl (fun h221 => ?_) (fun h221 => ?_)
 refine F8 ?_
 refine sP (A0G rfl rfl (by omega)) rfl rfl ?_
 refine A0v ?_
 refine J4 rfl (o2) rfl rfl (fun h250 => ?_) (fun h250 => ?_)
 refine sQ (A1G rfl rfl rfl) rfl ?_
 refine O8 ?_
 refine J4 rfl (o3) rfl rfl (fun h266 => ?_) (fun h266 => ?_)
 refine A0I ?_
 refine sP (A0h rfl rfl (by omega)) rfl rfl ?_
 refine H0 ?_
 refine J4 rfl (o7) rfl rfl (fun h294 => ?_) (fun h294 => ?_)
 refine H9 ?_
 refine sB (P5 rfl rfl) rfl rfl (fun h299 => ?_) (fun h299 => ?_)
 refine I5 ?_
 exact ⟨rfl, by (cases R with | false => rfl | true => (exfalso; obtain ⟨i1, i2, i3, i4, i5, i6, i7⟩ := hi.1 rfl; first | omega | (have j := i1 (by omega); simp_all; done) | (have j := he (i2 (by omega)); simp_all; done) | (have j := i2 (by omega); simp_all; done) | (have j := i3 (by omega); simp_all; done) | (have j := i4 (by omega); simp_all; done) | (have j := i5 (by omega); simp_all; done))), rfl⟩
 refine Q4 ?_
 refine sP (M1 rfl rfl (by omega)) rfl rfl ?_
 refine C7 ?_
 refine sB (qE rfl rfl) rfl rfl (fun h336 => ?_) (fun h336 => ?_)
 refine sQ (qA rfl) rfl (sD (nS (tT (E9 (rT rfl) ?_))))
 exact ⟨rfl, by rw [hi.2 ⟨fun _ => by (first | assumption | (exfalso; omega)), fun _ => by (first | assumption | (exfalso; omega) | exact Classical.not_not.1 (by assumption)), fun _ => by (first | assumption | (exfalso; omega)), fun _ => by (first | assumption | (exfalso; omega)), fun _ => ⟨by (first | assumption | (exfalso; omega)), by (first | assumption | omega)⟩, by omega, by omega⟩], rfl⟩
 refine sQ (qA rfl) rfl (sD (nS (tT (E9 (rT rfl) ?_))))
 exact ⟨rfl, by (cases R with | false => rfl | true => (exfalso; obtain ⟨i1, i2, i3, i4, i5, i6, i7⟩ := hi.1 rfl; first | omega | (have j := i1 (by omega); simp_all; done) | (have j := he (i2 (by omega)); simp_all; done) | (have j := i2 (by omega); simp_all; done) | (have j := i3 (by omega); simp_all; done) | (have j := i4 (by omega); simp_all; done) | (have j := i5 (by omega); simp_all; done))), rfl⟩
 refine A0i ?_
 exact ⟨rfl, by (cases R with | false => rfl | true => (exfalso; obtain ⟨i1, i2, i3, i4, i5, i6, i7⟩ := hi.1 rfl; first | omega | (have j := i1 (by omega); simp_all; done) | (have j := he (i2 (by omega)); simp_all; done) | (have j := i2 (by omega); simp_all; done) | (have j := i3 (by omega); simp_all; done) | (have j := i4 (by omega); simp_all; done) | (have j := i5 (by omega); simp_all; done))), rfl⟩
 refine A1R ?_
 exact ⟨rfl, by (cases R with | false => rfl | true => (exfalso; obtain ⟨i1, i2, i3, i4, i5, i6, i7⟩ := hi.1 rfl; first | omega | (have j := i1 (by omega); simp_all; done) | (have j := he (i2 (by omega)); simp_all; done) | (have j := i2 (by omega); simp_all; done) | (have j := i3 (by omega); simp_all; done) | (have j := i4 (by omega); simp_all; done) | (have j := i5 (by omega); simp_all; done))), rfl⟩
 refine sQ (A73 rfl rfl rfl) rfl ?_
 refine W9 ?_
 refine C7 ?_
 exact ⟨rfl, by (cases R with | false => rfl | true => (exfalso; obtain ⟨i1, i2, i3, i4, i5, i6, i7⟩ := hi.1 rfl; first | omega | (have j := i1 (by omega); simp_all; done) | (have j := he (i2 (by omega)); simp_all; done) | (have j := i2 (by omega); simp_all; done) | (have j := i3 (by omega); simp_all; done) | (have j := i4 (by omega); simp_all; done) | (have j := i5 (by omega); simp_all; done))), rfl⟩
 refine F8 ?_
 refine sP (M1 rfl rfl (by omega)) rfl rfl ?_
 refine H0 ?_
 refine sB (qE rfl rfl) rfl rfl (fun h446 => ?_) (fun h446 => ?_)
 refine M3 ?_
 refine J4 rfl (o2) rfl rfl (fun h462 => ?_) (fun h462 => ?_)
 refine sQ (A5Q rfl rfl rfl) rfl ?_
 refine W9 ?_
 refine C7 ?_
 exact ⟨rfl, by (cases R with | false => rfl | true => (exfalso; obtain ⟨i1, i2, i3, i4, i5, i6, i7⟩ := hi.1 rfl; first | omega | (have j := i1 (by omega); simp_all; done) | (have j := he (i2 (by omega)); simp_all; done) | (have j := i2 (by omega); simp_all; done) | (have j := i3 (by omega); simp_all; done) | (have j := i4 (by omega); simp_all; done) | (have j := i5 (by omega); simp_all; done))), rfl⟩
 refine sQ (A1G rfl rfl rfl) rfl ?_
 refine K4 ?_
 refine sB (A1i rfl rfl) rfl rfl (fun h511 => ?_) (fun h511 => ?_)
 refine W9 ?_
 refine rS (E9 (rT rfl) ?_)
 exact ⟨rfl, by (cases R with | false => rfl | true => (exfalso; obtain ⟨i1, i2, i3, i4, i5, i6, i7⟩ := hi.1 rfl; first | omega | (have j := i1 (by omega); simp_all; done) | (have j := he (i2 (by omega)); simp_all; done) | (have j := i2 (by omega); simp_all; done) | (have j := i3 (by omega); simp_all; done) | (have j := i4 (by omega); simp_all; done) | (have j := i5 (by omega); simp_all; done))), rfl⟩
 refine B7 ?_
 refine J4 rfl (o3) rfl rfl (fun h552 => ?_) (fun h552 => ?_)
 refine A0I ?_
 refine sP (A0h rfl rfl (by omega)) rfl rfl ?_
 refine H0 ?_
 refine J4 rfl (o7) rfl rfl (fun h580 => ?_) (fun h580 => ?_)
 refine H9 ?_
 refine sB (P5 rfl rfl) rfl rfl (fun h585 => ?_) (fun h585 => ?_)
 refine I5 ?_
 exact ⟨rfl, by (cases R with | false => rfl | true => (exfalso; obtain ⟨i1, i2, i3, i4, i5, i6, i7⟩ := hi.1 rfl; first | omega | (have j := i1 (by omega); simp_all; done) | (have j := he (i2 (by omega)); simp_all; done) | (have j := i2 (by omega); simp_all; done) | (have j := i3 (by omega); simp_all; done) | (have j := i4 (by omega); simp_all; done) | (have j := i5 (by omega); simp_all; done))), rfl⟩
 refine Q4 ?_
 refine sP (M1 rfl rfl (by omega)) rfl rfl ?_
 refine C7 ?_
 refine sB (qE rfl rfl) rfl rfl (fun h622 => ?_) (fun h622 => ?_)
 refine sQ (qA rfl) rfl (sD (nS (tT (E9 (rT rfl) ?_))))
 exact ⟨rfl, by rw [hi.2 ⟨fun _ => by (first | assumption | (exfalso; omega)), fun _ => by (first | assumption | (exfalso; omega) | exact Classical.not_not.1 (by assumption)), fun _ => by (first | assumption | (exfalso; omega)), fun _ => by (first | assumption | (exfalso; omega)), fun _ => ⟨by (first | assumption | (exfalso; omega)), by (first | assumption | omega)⟩, by omega, by omega⟩], rfl⟩
 refine sQ (qA rfl) rfl (sD (nS (tT (E9 (rT rfl) ?_))))
 exact ⟨rfl, by (cases R with | false => rfl | true => (exfalso; obtain ⟨i1, i2, i3, i4, i5, i6, i7⟩ := hi.1 rfl; first | omega | (have j := i1 (by omega); simp_all; done) | (have j := he (i2 (by omega)); simp_all; done) | (have j := i2 (by omega); simp_all; done) | (have j := i3 (by omega); simp_all; done) | (have j := i4 (by omega); simp_all; done) | (have j := i5 (by omega); simp_all; done))), rfl⟩
 refine A0i ?_
 exact ⟨rfl, by (cases R with | false => rfl | true => (exfalso; obtain ⟨i1, i2, i3, i4, i5, i6, i7⟩ := hi.1 rfl; first | omega | (have j := i1 (by omega); simp_all; done) | (have j := he (i2 (by omega)); simp_all; done) | (have j := i2 (by omega); simp_all; done) | (have j := i3 (by omega); simp_all; done) | (have j := i4 (by omega); simp_all; done) | (have j := i5 (by omega); simp_all; done))), rfl⟩
 refine A1R ?_
 exact ⟨rfl, by (cases R with | false => rfl | true => (exfalso; obtain ⟨i1, i2, i3, i4, i5, i6, i7⟩ := hi.1 rfl; first | omega | (have j := i1 (by omega); simp_all; done) | (have j := he (i2 (by omega)); simp_all; done) | (have j := i2 (by omega); simp_all; done) | (have j := i3 (by omega); simp_all; done) | (have j := i4 (by omega); simp_all; done) | (have j := i5 (by omega); simp_all; done))), rfl⟩
 refine H9 ?_
 refine sB (qE rfl rfl) rfl rfl (fun h683 => ?_) (fun h683 => ?_)
 refine M2 ?_
 refine J4 rfl (o2) rfl rfl (fun h694 => ?_) (fun h694 => ?_)
 refine sQ (A5Q rfl rfl rfl) rfl ?_
 refine W9 ?_
 refine C7 ?_
 exact ⟨rfl, by (cases R with | false => rfl | true => (exfalso; obtain ⟨i1, i2, i3, i4, i5, i6, i7⟩ := hi.1 rfl; first | omega | (have j := i1 (by omega); simp_all; done) | (have j := he (i2 (by omega)); simp_all; done) | (have j := i2 (by omega); simp_all; done) | (have j := i3 (by omega); simp_all; done) | (have j := i4 (by omega); simp_all; done) | (have j := i5 (by omega); simp_all; done))), rfl⟩
 refine sQ (A1G rfl rfl rfl) rfl ?_
 refine K4 ?_
 refine sB (A1i rfl rfl) rfl rfl (fun h743 => ?_) (fun h743 => ?_)
 refine W9 ?_
 refine rS (E9 (rT rfl) ?_)
 exact ⟨rfl, by (cases R with | false => rfl | true => (exfalso; obtain ⟨i1, i2, i3, i4, i5, i6, i7⟩ := hi.1 rfl; first | omega | (have j := i1 (by omega); simp_all; done) | (have j := he (i2 (by omega)); simp_all; done) | (have j := i2 (by omega); simp_all; done) | (have j := i3 (by omega); simp_all; done) | (have j := i4 (by omega); simp_all; done) | (have j := i5 (by omega); simp_all; done))), rfl⟩
 refine B7 ?_
 refine J4 rfl (o3) rfl rfl (fun h784 => ?_) (fun h784 => ?_)
 refine A0I ?_
 refine sP (A2q rfl rfl (by omega)) rfl rfl ?_
 refine Y8 ?_
 refine sP (M1 rfl rfl (by omega)) rfl rfl ?_
 refine C7 ?_
 refine sB (qE rfl rfl) rfl rfl (fun h840 => ?_) (fun h840 => ?_)
 refine sQ (qA rfl) rfl (sD (nS (tT (E9 (rT rfl) ?_))))
 exact ⟨rfl, by rw [hi.2 ⟨fun _ => by (first | assumption | (exfalso; omega)), fun _ => by (first | assumption | (exfalso; omega) | exact Classical.not_not.1 (by assumption)), fun _ => by (first | assumption | (exfalso; omega)), fun _ => by (first | assumption | (exfalso; omega)), fun _ => ⟨by (first | assumption | (exfalso; omega)), by (first | assumption | omega)⟩, by omega, by omega⟩], rfl⟩
 refine sQ (qA rfl) rfl (sD (nS (tT (E9 (rT rfl) ?_))))
 exact ⟨rfl, by (cases R with | false => rfl | true => (exfalso; obtain ⟨i1, i2, i3, i4, i5, i6, i7⟩ := hi.1 rfl; first | omega | (have j := i1 (by omega); simp_all; done) | (have j := he (i2 (by omega)); simp_all; done) | (have j := i2 (by omega); simp_all; done) | (have j := i3 (by omega); simp_all; done) | (have j := i4 (by omega); simp_all; done) | (have j := i5 (by omega); simp_all; done))), rfl⟩
 refine A1R ?_
 exact ⟨rfl, by (cases R with | false => rfl | true => (exfalso; obtain ⟨i1, i2, i3, i4, i5, i6, i7⟩ := hi.1 rfl; first | omega | (have j := i1 (by omega); simp_all; done) | (have j := he (i2 (by omega)); simp_all; done) | (have j := i2 (by omega); simp_all; done) | (have j := i3 (by omega); simp_all; done) | (have j := i4 (by omega); simp_all; done) | (have j := i5 (by omega); simp_all; done))), rfl⟩
 refine M2 ?_
 refine J4 rfl (o2) rfl rfl (fun h888 => ?_) (fun h888 => ?_)
 refine sQ (A5Q rfl rfl rfl) rfl ?_
 refine W9 ?_
 refine C7 ?_
 exact ⟨rfl, by (cases R with | false => rfl | true => (exfalso; obtain ⟨i1, i2, i3, i4, i5, i6, i7⟩ := hi.1 rfl; first | omega | (have j := i1 (by omega); simp_all; done) | (have j := he (i2 (by omega)); simp_all; done) | (have j := i2 (by omega); simp_all; done) | (have j := i3 (by omega); simp_all; done) | (have j := i4 (by omega); simp_all; done) | (have j := i5 (by omega); simp_all; done))), rfl⟩
 refine sQ (A1G rfl rfl rfl) rfl ?_
 refine K4 ?_
 refine sB (A1i rfl rfl) rfl rfl (fun h937 => ?_) (fun h937 => ?_)
 refine W9 ?_
 refine rS (E9 (rT rfl) ?_)
 exact ⟨rfl, by (cases R with | false => rfl | true => (exfalso; obtain ⟨i1, i2, i3, i4, i5, i6, i7⟩ := hi.1 rfl; first | omega | (have j := i1 (by omega); simp_all; done) | (have j := he (i2 (by omega)); simp_all; done) | (have j := i2 (by omega); simp_all; done) | (have j := i3 (by omega); simp_all; done) | (have j := i4 (by omega); simp_all; done) | (have j := i5 (by omega); simp_all; done))), rfl⟩
 refine T5 ?_
 refine J4 rfl (o4) rfl rfl (fun h988 => ?_) (fun h988 => ?_)
 refine I5 ?_
 refine sP (A0h rfl rfl (by omega)) rfl rfl ?_
 refine H0 ?_
 refine J4 rfl (o7) rfl rfl (fun h1006 => ?_) (fun h1006 => ?_)
 refine H9 ?_
 refine sB (P5 rfl rfl) rfl rfl (fun h1011 => ?_) (fun h1011 => ?_)
 refine I5 ?_
 exact ⟨rfl, by (cases R with | false => rfl | true => (exfalso; obtain ⟨i1, i2, i3, i4, i5, i6, i7⟩ := hi.1 rfl; first | omega | (have j := i1 (by omega); simp_all; done) | (have j := he (i2 (by omega)); simp_all; done) | (have j := i2 (by omega); simp_all; done) | (have j := i3 (by omega); simp_all; done) | (have j := i4 (by omega); simp_all; done) | (have j := i5 (by omega); simp_all; done))), rfl⟩
 refine Q4 ?_
 refine sB (qE rfl rfl) rfl rfl (fun h1038 => ?_) (fun h1038 => ?_)
 refine B7 ?_
 refine sB (S4 rfl rfl) rfl rfl (fun h1046 => ?_) (fun h1046 => ?_)
 refine H0 ?_
 refine sB (W8 rfl rfl) rfl rfl (fun h1050 => ?_) (fun h1050 => ?_)
 refine B7 ?_
 exact ⟨rfl, by rw [hi.2 ⟨fun _ => by (first | assumption | (exfalso; omega)), fun _ => by (first | assumption | (exfalso; omega) | exact Classical.not_not.1 (by assumption)), fun _ => by (first | assumption | (exfalso; omega)), fun _ => by (first | assumption | (exfalso; omega)), fun _ => ⟨by (first | assumption | (exfalso; omega)), by (first | assumption | omega)⟩, by omega, by omega⟩], rfl⟩
 refine B7 ?_
 exact ⟨rfl, by (cases R with | false => rfl | true => (exfalso; obtain ⟨i1, i2, i3, i4, i5, i6, i7⟩ := hi.1 rfl; first | omega | (have j := i1 (by omega); simp_all; done) | (have j := he (i2 (by omega)); simp_all; done) | (have j := i2 (by omega); simp_all; done) | (have j := i3 (by omega); simp_all; done) | (have j := i4 (by omega); simp_all; done) | (have j := i5 (by omega); simp_all; done))), rfl⟩
 refine I6 ?_
 exact ⟨rfl, by (cases R with | false => rfl | true => (exfalso; obtain ⟨i1, i2, i3, i4, i5, i6, i7⟩ := hi.1 rfl; first | omega | (have j := i1 (by omega); simp_all; done) | (have j := he (i2 (by omega)); simp_all; done) | (have j := i2 (by omega); simp_all; done) | (have j := i3 (by omega); simp_all; done) | (have j := i4 (by omega); simp_all; done) | (have j := i5 (by omega); simp_all; done))), rfl⟩
 refine C7 ?_
 refine sB (qE rfl rfl) rfl rfl (fun h1088 => ?_) (fun h1088 => ?_)
 refine sQ (qA rfl) rfl (sD (nS (tT (E9 (rT rfl) ?_))))
 exact ⟨rfl, by rw [hi.2 ⟨fun _ => by (first | assumption | (exfalso; omega)), fun _ => by (first | assumption | (exfalso; omega) | exact Classical.not_not.1 (by assumption)), fun _ => by (first | assumption | (exfalso; omega)), fun _ => by (first | assumption | (exfalso; omega)), fun _ => ⟨by (first | assumption | (exfalso; omega)), by (first | assumption | omega)⟩, by omega, by omega⟩], rfl⟩
 refine sQ (qA rfl) rfl (sD (nS (tT (E9 (rT rfl) ?_))))
 exact ⟨rfl, by (cases R with | false => rfl | true => (exfalso; obtain ⟨i1, i2, i3, i4, i5, i6, i7⟩ := hi.1 rfl; first | omega | (have j := i1 (by omega); simp_all; done) | (have j := he (i2 (by omega)); simp_all; done) | (have j := i2 (by omega); simp_all; done) | (have j := i3 (by omega); simp_all; done) | (have j := i4 (by omega); simp_all; done) | (have j := i5 (by omega); simp_all; done))), rfl⟩
 refine A0i ?_
 exact ⟨rfl, by (cases R with | false => rfl | true => (exfalso; obtain ⟨i1, i2, i3, i4, i5, i6, i7⟩ := hi.1 rfl; first | omega | (have j := i1 (by omega); simp_all; done) | (have j := he (i2 (by omega)); simp_all; done) | (have j := i2 (by omega); simp_all; done) | (have j := i3 (by omega); simp_all; done) | (have j := i4 (by omega); simp_all; done) | (have j := i5 (by omega); simp_all; done))), rfl⟩
 refine O8 ?_
 exact ⟨rfl, by (cases R with | false => rfl | true => (exfalso; obtain ⟨i1, i2, i3, i4, i5, i6, i7⟩ := hi.1 rfl; first | omega | (have j := i1 (by omega); simp_all; done) | (have j := he (i2 (by omega)); simp_all; done) | (have j := i2 (by omega); simp_all; done) | (have j := i3 (by omega); simp_all; done) | (have j := i4 (by omega); simp_all; done) | (have j := i5 (by omega); simp_all; done))), rfl⟩
mutual
def L8 (D N : Int) : Tm → Int → Bool
 | .mk k nm num ty fr lb ks, deep => decide (deep ≤ D) && decide (k ≠ N) && U3 k nm num ty fr lb ks.length && O5 D N ks (deep + 1)
def O5 (D N : Int) : List Tm → Int → Bool
 | [], _ => true
 | t :: ts, deep => L8 D N t deep && O5 D N ts deep
end
theorem A0m (D N : Int) : ∀ (ts : List Tm) (d : Int), O5 D N ts d = true ↔ ∀ i, (h : i < ts.length) → L8 D N ts[i] d = true
 | [], d => by simp [O5]
 | t :: ts, d => by
  simp only [O5, Bool.and_eq_true, A0m D N ts d]
  constructor
  ·rintro ⟨h1, h2⟩ i hi
   cases i with
   | zero => exact h1
   | succ i => exact h2 i (by simpa using hi)
  ·intro h
   exact ⟨h 0 (by simp), fun i hi => h (i + 1) (by simpa using hi)⟩
theorem A1o {D N : Int} {k : Int} {nm : ByteArray} {num : Int} {ty fr : Ty} {lb : Int} {ks : List Tm} {d : Int} (h : D < d ∨ k = N ∨ U3 k nm num ty fr lb ks.length = false) : L8 D N (.mk k nm num ty fr lb ks) d = false := by
 rw [L8]
 rcases h with h | h | h
 ·rw [decide_eq_false (by omega)]; rfl
 ·rw [decide_eq_false (p := k ≠ N) (by omega), Bool.and_false]; rfl
 ·rw [h, Bool.and_false]; rfl
theorem A0M {D N : Int} {k : Int} {nm : ByteArray} {num : Int} {ty fr : Ty} {lb : Int} {ks : List Tm} {d : Int} (h1 : d ≤ D) (h2 : k ≠ N) (h3 : U3 k nm num ty fr lb ks.length = true) : L8 D N (.mk k nm num ty fr lb ks) d = O5 D N ks (d + 1) := by
 rw [L8, decide_eq_true h1, decide_eq_true h2, h3]; rfl
theorem A5R {D N : Int} {ks : List Tm} {d : Int} {i : Nat} (hi : i < ks.length) (h : L8 D N ks[i] d = false) : O5 D N ks d = false := by
 cases hx : O5 D N ks d with
 | false => rfl
 | true => rw [(A0m D N ks d).1 hx i hi] at h; cases h
theorem B2o {k : Int} {nm : ByteArray} {num : Int} {ty fr : Ty} {lb : Int} {n : Nat} (hk : k = 14) (ha : H6 k = n) : U3 k nm num ty fr lb n = true ↔ nm = ⟨#[]⟩ ∧ num = 0 ∧ (1 ≤ A0K lb ∧ A0K lb ≤ 99) ∧ H3 ty = true ∧ H3 fr = true ∧ K2 fr ty = true := by
 rw [U8, B2m]
 simp only [X0, A0C, decide_eq_true_eq, Bool.and_eq_true]
 constructor
 ·rintro ⟨_, _, h3, _, h5, h6, _, h8, _⟩
  have h8 := h8 hk
  exact ⟨h3 (by omega), by have := h5 (by omega); omega, h8.2, h6 (by omega), h8.1.1.1, h8.1.2⟩
 ·rintro ⟨h1, h2, h3, h4, h5, h6⟩
  exact ⟨ha, fun h => absurd h (by omega), fun _ => h1, fun h => absurd h (by omega), fun _ => by omega, fun _ => h4, fun h => absurd h (by omega), fun _ => ⟨⟨⟨h5, h4⟩, h6⟩, h3⟩, fun h => absurd hk h⟩
theorem A75 {k : Int} {nm : ByteArray} {num : Int} {ty fr : Ty} {lb : Int} {n : Nat} (hk : k ≠ 14) (ha : H6 k = n) : U3 k nm num ty fr lb n = true ↔
  (k = 1 ∨ k = 5 → V5 nm = true) ∧ (¬(k = 1 ∨ k = 5) → nm = ⟨#[]⟩) ∧ (k = 5 ∨ k = 13 ∨ k = 14 → H3 ty = true) ∧ (¬(k = 5 ∨ k = 13 ∨ k = 14) → X1 ty = true) ∧ (k ≠ 14 → X1 fr = true ∧ lb = 0) ∧ (k = 2 → 0 ≤ num ∧ num ≤ 999) ∧ (k ≠ 2 → num = 0) := by
 rw [U8]
 simp only [X0, decide_eq_true_eq]
 constructor
 ·rintro ⟨_, h2, h3, h4, h5, h6, h7, _, h9⟩
  exact ⟨h2, h3, h6, h7, h9, h4, fun h => by have := h5 h; omega⟩
 ·rintro ⟨h2, h3, h6, h7, h9, h4, h5⟩
  exact ⟨ha, h2, h3, h4, fun h => by have := h5 h; omega, h6, h7, fun h => absurd h hk, h9⟩
theorem B2p : ∀ (t : Tm) (d : Int) (G : IM) (cells : List Value), 0 ≤ d ∧ d ≤ 40 → B5 G t cells →
  Fn Tryz.prog 82 [.agg ⟨cells⟩, .int .i64 d] [] G (L6 (.bool (L8 40 13 t (41 - d))) G) := by
 refine Tm.ind fun k nm num ty fr lb ks ih d G cells hd hr => ?_
 have hr0 := hr
 have h14 := fun h : k = 14 => @B2o k nm num ty fr lb ks.length h
 have hne := fun h : k ≠ 14 => @A75 k nm num ty fr lb ks.length h
 have har := fun h : U3 k nm num ty fr lb ks.length = true => (U8.1 h).1
 obtain ⟨R, hR⟩ : ∃ R, U3 k nm num ty fr lb ks.length = R := ⟨_, rfl⟩
 rw [hR] at h14 hne har
 have hlo := B2n k nm num ty fr lb ks G cells hr0 R
 have hl2 := A74 k nm num ty fr lb ks G cells hr0 R
 have hk1 := A4t k G
 obtain ⟨tk, tks⟩ := ty
 obtain ⟨fk, fks⟩ := fr
 obtain ⟨pt, ct, pf, cf, p, c, es, rfl, hk, hnum, hlb, hty, hfr, hsl, hkl⟩ := hr.open9
 have hn := hsl.le
 clear hr hr0
 refine B8 Tryz.func82 rfl Tryz.ntmps82 Tryz.results82 rfl ?_
 intro w0
 refine tS (tR ?_)
 refine sE (E7 rfl rfl) rfl (fun b3 => ?_)
 refine sQ (qA rfl) rfl (sD (nS (tS (tS ?_))))
 refine D3 D4 rfl ?_
 refine E8 (i := 0) (l' := [tt,ff,ff,ff,ff,ff,ff,ff,ff,ff,ff,ff,ff,ff,ff,ff,ff,ff,ff,ff,ff,ff,ff,ff,ff,ff,ff,ff,ff,ff,ff,ff,ff,ff,ff,ff]) rfl C5 (qM rfl) rfl (by kernel_rfl) rfl rfl ?_
 refine A0F (i := 1) (l' := [tt,tt,ff,ff,ff,ff,ff,ff,ff,ff,ff,ff,ff,ff,ff,ff,ff,ff,ff,ff,ff,ff,ff,ff,ff,ff,ff,ff,ff,ff,ff,ff,ff,ff,ff,ff]) rfl C5 (L9 rfl rfl) rfl (by kernel_rfl) rfl rfl (fun h11 => ?_) (fun h11 => ?_)
 refine aP 2 rfl (qM rfl) rfl ?_
 refine B1 3 rfl rfl rfl ?_
 refine B1 4 rfl rfl rfl ?_
 refine B1 6 rfl rfl rfl ?_
 refine B1 7 rfl rfl rfl ?_
 refine B1 8 rfl rfl rfl ?_
 refine B1 5 rfl rfl rfl ?_
 refine B1 9 rfl rfl rfl ?_
 refine aP 10 rfl (J8 rfl rfl) rfl ?_
 refine aP 11 rfl (qM rfl) rfl ?_
 refine B1 12 rfl rfl rfl ?_
 refine B1 13 rfl rfl rfl ?_
 refine B1 14 rfl rfl rfl ?_
 refine aP 15 rfl (J8 rfl rfl) rfl ?_
 refine aP 16 rfl (qM rfl) rfl ?_
 refine B1 17 rfl rfl rfl ?_
 refine B1 18 rfl rfl rfl ?_
 refine B1 19 rfl rfl rfl ?_
 refine B1 20 rfl rfl rfl ?_
 refine B1 21 rfl rfl rfl ?_
 refine B1 22 rfl rfl rfl ?_
 refine B1 23 rfl rfl rfl ?_
 refine B1 24 rfl rfl rfl ?_
 refine aP 25 rfl (J8 rfl rfl) rfl ?_
 refine aP 26 rfl (qM rfl) rfl ?_
 refine B1 27 rfl rfl rfl ?_
 refine B1 28 rfl rfl rfl ?_
 refine B1 29 rfl rfl rfl ?_
 refine B1 30 rfl rfl rfl ?_
 refine B1 31 rfl rfl rfl ?_
 refine B1 32 rfl rfl rfl ?_
 refine B1 33 rfl rfl rfl ?_
 refine B1 34 rfl rfl rfl ?_
 refine aP 35 rfl (J8 rfl rfl) rfl ?_
 refine I6 ?_
 (rw [A1o (by rw [hR]; first | omega | exact .inr (.inr (by assumption)) | exact .inr (.inr (by cases R with | false => rfl | true => exact absurd (har rfl) (by omega))))]; exact ⟨rfl, rfl, rfl⟩)
 refine aP 2 rfl (qM rfl) rfl ?_
 refine aP 3 rfl (A9 rfl) rfl ?_
 refine aL 4 rfl (C2 rfl rfl) rfl ?_
 refine aP 6 rfl (A9 rfl) rfl ?_
 refine aL 7 rfl (C2 rfl rfl) rfl ?_
 refine aP 8 rfl (pLn rfl rfl) rfl ?_
 refine A1 5 ?_
 refine I1 rfl rfl (hk1) rfl rfl rfl ?_
 refine A0F (i := 9) (l' := [tt,tt,tt,tt,tt,tt,tt,tt,tt,tt,ff,ff,ff,ff,ff,ff,ff,ff,ff,ff,ff,ff,ff,ff,ff,ff,ff,ff,ff,ff,ff,ff,ff,ff,ff,ff]) rfl C5 (P5 rfl rfl) rfl (by kernel_rfl) rfl rfl (fun h66 => ?_) (fun h66 => ?_)
 refine aP 10 rfl (M4 rfl rfl) rfl ?_
 refine aP 11 rfl (qM rfl) rfl ?_
 refine B1 12 rfl rfl rfl ?_
 refine B1 13 rfl rfl rfl ?_
 refine B1 14 rfl rfl rfl ?_
 refine aP 15 rfl (J8 rfl rfl) rfl ?_
 refine aP 16 rfl (qM rfl) rfl ?_
 refine B1 17 rfl rfl rfl ?_
 refine B1 18 rfl rfl rfl ?_
 refine B1 19 rfl rfl rfl ?_
 refine B1 20 rfl rfl rfl ?_
 refine B1 21 rfl rfl rfl ?_
 refine B1 22 rfl rfl rfl ?_
 refine B1 23 rfl rfl rfl ?_
 refine B1 24 rfl rfl rfl ?_
 refine aP 25 rfl (J8 rfl rfl) rfl ?_
 refine aP 26 rfl (qM rfl) rfl ?_
 refine B1 27 rfl rfl rfl ?_
 refine B1 28 rfl rfl rfl ?_
 refine B1 29 rfl rfl rfl ?_
 refine B1 30 rfl rfl rfl ?_
 refine B1 31 rfl rfl rfl ?_
 refine B1 32 rfl rfl rfl ?_
 refine B1 33 rfl rfl rfl ?_
 refine B1 34 rfl rfl rfl ?_
 refine aP 35 rfl (J8 rfl rfl) rfl ?_
 refine I6 ?_
 (rw [A1o (by rw [hR]; first | omega | exact .inr (.inr (by assumption)) | exact .inr (.inr (by cases R with | false => rfl | true => exact absurd (har rfl) (by omega))))]; exact ⟨rfl, rfl, rfl⟩)
 refine aP 10 rfl (M4 rfl rfl) rfl ?_
 refine aP 11 rfl (qM rfl) rfl ?_
 refine aP 12 rfl (A9 rfl) rfl ?_
 refine aL 13 rfl (C2 rfl rfl) rfl ?_
 refine A0F (i := 14) (l' := [tt,tt,tt,tt,tt,tt,tt,tt,tt,tt,tt,tt,tt,tt,tt,ff,ff,ff,ff,ff,ff,ff,ff,ff,ff,ff,ff,ff,ff,ff,ff,ff,ff,ff,ff,ff]) rfl C5 (qE rfl rfl) rfl (by kernel_rfl) rfl rfl (fun h109 => ?_) (fun h109 => ?_)
 refine aP 15 rfl (M4 rfl rfl) rfl ?_
 refine aP 16 rfl (qM rfl) rfl ?_
 refine B1 17 rfl rfl rfl ?_
 refine B1 18 rfl rfl rfl ?_
 refine B1 19 rfl rfl rfl ?_
 refine B1 20 rfl rfl rfl ?_
 refine B1 21 rfl rfl rfl ?_
 refine B1 22 rfl rfl rfl ?_
 refine B1 23 rfl rfl rfl ?_
 refine B1 24 rfl rfl rfl ?_
 refine aP 25 rfl (J8 rfl rfl) rfl ?_
 refine aP 26 rfl (qM rfl) rfl ?_
 refine B1 27 rfl rfl rfl ?_
 refine B1 28 rfl rfl rfl ?_
 refine B1 29 rfl rfl rfl ?_
 refine B1 30 rfl rfl rfl ?_
 refine B1 31 rfl rfl rfl ?_
 refine B1 32 rfl rfl rfl ?_
 refine B1 33 rfl rfl rfl ?_
 refine B1 34 rfl rfl rfl ?_
 refine aP 35 rfl (J8 rfl rfl) rfl ?_
 refine I6 ?_
 (rw [A1o (by rw [hR]; first | omega | exact .inr (.inr (by assumption)) | exact .inr (.inr (by cases R with | false => rfl | true => exact absurd (har rfl) (by omega))))]; exact ⟨rfl, rfl, rfl⟩)
 refine aP 15 rfl (M4 rfl rfl) rfl ?_
 refine aP 16 rfl (qM rfl) rfl ?_
 refine aP 17 rfl (A9 rfl) rfl ?_
 refine aL 18 rfl (C2 rfl rfl) rfl ?_
 refine A0F (i := 19) (l' := [tt,tt,tt,tt,tt,tt,tt,tt,tt,tt,tt,tt,tt,tt,tt,tt,tt,tt,tt,tt,ff,ff,ff,ff,ff,ff,ff,ff,ff,ff,ff,ff,ff,ff,ff,ff]) rfl C5 (qE rfl rfl) rfl (by kernel_rfl) rfl rfl (fun h147 => ?_) (fun h147 => ?_)
 refine aP 20 rfl (qM rfl) rfl ?_
 refine aL 21 rfl (A2 rfl rfl) rfl ?_
 refine A1 22 ?_
 refine A0J rfl rfl (hlo (h14 (by omega) (by omega))) rfl rfl rfl (fun h151 => ?_) (fun h151 => ?_)
 refine aP 23 rfl (Y7 rfl) rfl ?_
 refine aP 24 rfl (J8 rfl rfl) rfl ?_
 refine aP 25 rfl (M4 rfl rfl) rfl ?_
 refine aP 26 rfl (qM rfl) rfl ?_
 refine aP 27 rfl (A9 rfl) rfl ?_
 refine aL 28 rfl (C2 rfl rfl) rfl ?_
 refine aP 29 rfl (A2q rfl rfl (by omega)) rfl ?_
 refine aP 30 rfl (qM rfl) rfl ?_
 refine B1 31 rfl rfl rfl ?_
 refine B1 32 rfl rfl rfl ?_
 refine B1 33 rfl rfl rfl ?_
 refine aP 34 rfl (M4 rfl rfl) rfl ?_
 refine aP 35 rfl (M4 rfl rfl) rfl ?_
 refine I6 ?_
 refine C6 ?_
 (refine N4 (fun (i : Nat) => ⟨[(5, .int .i64 i), (2, .pointer (some ⟨b3, 0, none⟩)), (1, .int .i64 d)], [.blk b3 [.int .i64 k, .string nm, .int .i64 num, .int .i64 tk, .slice pt tks.length ct, .int .i64 fk, .slice pf fks.length cf, .int .i64 lb, .slice p ks.length c]], G⟩) (fun i => i ≤ ks.length ∧ ∀ j (h : j < ks.length), j < i → L8 40 13 ks[j] (41 - d + 1) = true) (fun i => ks.length - i) 0 ?_ ?_ ?_)
 exact E0
 exact ⟨by omega, by omega⟩
 (rintro i ⟨hi, hf⟩)
 refine B7 ?_
 refine sB (L9 rfl rfl) rfl rfl (fun h188 => ?_) (fun h188 => ?_)
 refine sD (nS (qT rfl (tK (nS (tS ?_)))))
 refine C6 ?_
 refine S6 ?_
 (obtain ⟨b, o, e, rfl, hl, hat, hre, hgb⟩ := hsl.kidTm hkl (i := i) (by omega) (by omega); refine sP (D0 rfl rfl rfl (by omega)) rfl rfl ?_)
 refine sL (A6 rfl rfl (hat _) hl) rfl rfl ?_
 refine sQ (qM rfl) rfl ?_
 refine sP (Q9 rfl rfl (by omega) (by omega)) rfl rfl ?_
 (have hih := ih ks[i] (List.getElem_mem (by omega)) (d - 1) G _ (by omega) hre; rw [show 41 - (d - 1) = 41 - d + 1 by omega] at hih; refine J4 rfl hih rfl rfl (fun h205 => ?_) (fun h205 => ?_))
 refine C7 ?_
 refine sP (N0 rfl rfl (by omega) (by omega)) rfl rfl ?_
 refine sQ (qA rfl) rfl (sD ?_)
 refine K5 (i + 1) ?_ ?_ ?_
 exact E0
 exact ⟨by omega, fun j hj hji => by (by_cases he : j = i; (subst he; assumption); exact hf j hj (by omega))⟩
 omega
 refine N6 ?_
 (rw [A0M (by omega) (by omega) (hR.trans (by assumption)), A5R (i := i) (by omega) (by assumption)]; exact ⟨rfl, rfl, rfl⟩)
 refine M3 ?_
 (rw [A0M (by omega) (by omega) (hR.trans (by assumption)), (A0m 40 13 ks _).2 (fun j hj => hf j hj (by omega))]; exact ⟨rfl, rfl, rfl⟩)
 refine aP 23 rfl (pNf rfl) rfl ?_
 refine aP 24 rfl (J8 rfl rfl) rfl ?_
 refine aP 25 rfl (M4 rfl rfl) rfl ?_
 refine aP 26 rfl (qM rfl) rfl ?_
 refine B1 27 rfl rfl rfl ?_
 refine B1 28 rfl rfl rfl ?_
 refine B1 29 rfl rfl rfl ?_
 refine B1 30 rfl rfl rfl ?_
 refine B1 31 rfl rfl rfl ?_
 refine B1 32 rfl rfl rfl ?_
 refine B1 33 rfl rfl rfl ?_
 refine B1 34 rfl rfl rfl ?_
 refine aP 35 rfl (J8 rfl rfl) rfl ?_
 refine I6 ?_
 (rw [A1o (by rw [hR]; first | omega | exact .inr (.inr (by assumption)) | exact .inr (.inr (by cases R with | false => rfl | true => exact absurd (har rfl) (by omega))))]; exact ⟨rfl, rfl, rfl⟩)
 refine aP 20 rfl (qM rfl) rfl ?_
 refine B1 21 rfl rfl rfl ?_
 refine B1 22 rfl rfl rfl ?_
 refine B1 23 rfl rfl rfl ?_
 refine aP 24 rfl (M4 rfl rfl) rfl ?_
 refine aP 25 rfl (M4 rfl rfl) rfl ?_
 refine aP 26 rfl (qM rfl) rfl ?_
 refine aP 27 rfl (A9 rfl) rfl ?_
 refine aL 28 rfl (C2 rfl rfl) rfl ?_
 refine aP 29 rfl (A0h rfl rfl (by omega)) rfl ?_
 refine aP 30 rfl (qM rfl) rfl ?_
 refine aL 31 rfl (A2 rfl rfl) rfl ?_
 refine A1 32 ?_
 refine A0J rfl rfl (hl2 (hne (by omega) (by omega))) rfl rfl rfl (fun h293 => ?_) (fun h293 => ?_)
 refine aP 33 rfl (Y7 rfl) rfl ?_
 refine aP 34 rfl (J8 rfl rfl) rfl ?_
 refine aP 35 rfl (M4 rfl rfl) rfl ?_
 refine I6 ?_
 refine C6 ?_
 (refine N4 (fun (i : Nat) => ⟨[(5, .int .i64 i), (2, .pointer (some ⟨b3, 0, none⟩)), (1, .int .i64 d)], [.blk b3 [.int .i64 k, .string nm, .int .i64 num, .int .i64 tk, .slice pt tks.length ct, .int .i64 fk, .slice pf fks.length cf, .int .i64 lb, .slice p ks.length c]], G⟩) (fun i => i ≤ ks.length ∧ ∀ j (h : j < ks.length), j < i → L8 40 13 ks[j] (41 - d + 1) = true) (fun i => ks.length - i) 0 ?_ ?_ ?_)
 exact E0
 exact ⟨by omega, by omega⟩
 (rintro i ⟨hi, hf⟩)
 refine B7 ?_
 refine sB (L9 rfl rfl) rfl rfl (fun h320 => ?_) (fun h320 => ?_)
 refine sD (nS (qT rfl (tK (nS (tS ?_)))))
 refine C6 ?_
 refine S6 ?_
 (obtain ⟨b, o, e, rfl, hl, hat, hre, hgb⟩ := hsl.kidTm hkl (i := i) (by omega) (by omega); refine sP (D0 rfl rfl rfl (by omega)) rfl rfl ?_)
 refine sL (A6 rfl rfl (hat _) hl) rfl rfl ?_
 refine sQ (qM rfl) rfl ?_
 refine sP (Q9 rfl rfl (by omega) (by omega)) rfl rfl ?_
 (have hih := ih ks[i] (List.getElem_mem (by omega)) (d - 1) G _ (by omega) hre; rw [show 41 - (d - 1) = 41 - d + 1 by omega] at hih; refine J4 rfl hih rfl rfl (fun h337 => ?_) (fun h337 => ?_))
 refine C7 ?_
 refine sP (N0 rfl rfl (by omega) (by omega)) rfl rfl ?_
 refine sQ (qA rfl) rfl (sD ?_)
 refine K5 (i + 1) ?_ ?_ ?_
 exact E0
 exact ⟨by omega, fun j hj hji => by (by_cases he : j = i; (subst he; assumption); exact hf j hj (by omega))⟩
 omega
 refine N6 ?_
 (rw [A0M (by omega) (by omega) (hR.trans (by assumption)), A5R (i := i) (by omega) (by assumption)]; exact ⟨rfl, rfl, rfl⟩)
 refine M3 ?_
 (rw [A0M (by omega) (by omega) (hR.trans (by assumption)), (A0m 40 13 ks _).2 (fun j hj => hf j hj (by omega))]; exact ⟨rfl, rfl, rfl⟩)
 refine aP 33 rfl (pNf rfl) rfl ?_
 refine aP 34 rfl (J8 rfl rfl) rfl ?_
 refine aP 35 rfl (M4 rfl rfl) rfl ?_
 refine I6 ?_
 (rw [A1o (by rw [hR]; first | omega | exact .inr (.inr (by assumption)) | exact .inr (.inr (by cases R with | false => rfl | true => exact absurd (har rfl) (by omega))))]; exact ⟨rfl, rfl, rfl⟩)
theorem B2q {D N : Int} {k : Int} {nm : ByteArray} {num : Int} {ty fr : Ty} {lb : Int} {ks : List Tm} {d : Int} (h : L8 D N (.mk k nm num ty fr lb ks) d = true) : d ≤ D ∧ ∀ i, (hi : i < ks.length) → L8 D N ks[i] (d + 1) = true := by
 rw [L8] at h
 simp only [Bool.and_eq_true, decide_eq_true_eq] at h
 exact ⟨h.1.1.1, (A0m D N ks _).1 h.2⟩
mutual
theorem A5S (M D N : Int) : ∀ (t : Tm) (deep c : Int), c ≤ M → ((S7 M D N t deep c).1 = true ↔ L8 D N t deep = true ∧ c + C3 t ≤ M)
 | .mk k nm num ty fr lb ks, deep, c, hc => by
  rw [S7, C3]
  by_cases h : c + 1 > M ∨ deep > D ∨ k = N ∨ U3 k nm num ty fr lb ks.length = false
  ·rw [if_pos h]
   constructor
   ·intro h; cases h
   ·rintro ⟨h1, h2⟩
    rcases h with h | h
    ·omega
    ·rw [A1o h] at h1; cases h1
  ·rw [if_neg h]
   have hn : U3 k nm num ty fr lb ks.length = true := by
    cases hx : U3 k nm num ty fr lb ks.length with
    | true => rfl
    | false => exact absurd (Or.inr (Or.inr (Or.inr hx))) h
   rw [A0M (by omega) (by omega) hn, A76 M D N ks (deep + 1) (c + 1) (by omega)]
   constructor
   ·rintro ⟨a, b⟩; exact ⟨a, by omega⟩
   ·rintro ⟨a, b⟩; exact ⟨a, by omega⟩
theorem A76 (M D N : Int) : ∀ (ts : List Tm) (deep c : Int), c ≤ M → ((T6 M D N ts deep c).1 = true ↔ O5 D N ts deep = true ∧ c + C9 ts ≤ M)
 | [], deep, c, hc => by simp [T6, O5, C9]; omega
 | t :: ts, deep, c, hc => by
  have h0 := A5S M D N t deep c hc
  rw [T6, O5, C9, Bool.and_eq_true]
  by_cases h : (S7 M D N t deep c).1 = true
  ·rw [if_pos h, A7J M D N t deep c h, A76 M D N ts deep _ (h0.1 h).2]
   have := h0.1 h
   constructor
   ·rintro ⟨a, b⟩; exact ⟨⟨this.1, a⟩, by omega⟩
   ·rintro ⟨⟨_, a⟩, b⟩; exact ⟨a, by omega⟩
  ·rw [if_neg h]
   constructor
   ·intro h'; cases h'
   ·rintro ⟨⟨a, _⟩, b⟩
    exact absurd (h0.2 ⟨a, by omega⟩) h
end
theorem A4w (t : Tm) : R2 t = true ↔ L8 40 13 t 1 = true ∧ C3 t ≤ 200 := by
 have := A5S 200 40 13 t 1 0 (by omega)
 rw [R2, this]
 constructor
 ·rintro ⟨a, b⟩; exact ⟨a, by omega⟩
 ·rintro ⟨a, b⟩; exact ⟨a, by omega⟩
theorem A77 (D N : Int) : ∀ (t : Tm) (d : Int) (G : IM) (cells : List Value), d ≤ 40 → L8 D N t (D + 1 - d) = true → C3 t ≤ 4294967296 → B5 G t cells →
  Fn Tryz.prog 45 [.agg ⟨cells⟩, .int .i64 d] [] G (L6 (.int .i64 (C3 t : Int)) G) := by
 refine Tm.ind fun k nm num ty fr lb ks ih d G cells hd hv hcnt hr => ?_
 have hone := hr.one
 obtain ⟨hv1, hv2⟩ := B2q hv
 obtain ⟨tk, tks⟩ := ty
 obtain ⟨fk, fks⟩ := fr
 obtain ⟨pt, ct, pf, cf, p, c, es, rfl, hk, hnum, hlb, hty, hfr, hsl, hkl⟩ := hr.open9
 have hn := hsl.le
 clear hr
 rw [C3] at hcnt ⊢
 refine B8 Tryz.func45 rfl Tryz.ntmps45 Tryz.results45 rfl ?_
 intro w0
 refine tS (tR ?_)
 refine sE (E7 rfl rfl) rfl (fun b3 => ?_)
 refine O8 ?_
 refine C6 ?_
 (refine N4 (fun (i : Nat) => ⟨[(6, .int .i64 i), (5, .int .i64 ((C9 (ks.take i) + 1 : Nat) : Int)), (2, .pointer (some ⟨b3, 0, none⟩)), (1, .int .i64 d)], [.blk b3 [.int .i64 k, .string nm, .int .i64 num, .int .i64 tk, .slice pt tks.length ct, .int .i64 fk, .slice pf fks.length cf, .int .i64 lb, .slice p ks.length c]], G⟩) (fun i => i ≤ ks.length) (fun i => ks.length - i) 0 ?_ ?_ ?_)
 exact E0
 exact Nat.zero_le _
 (rintro i hi)
 refine B7 ?_
 refine sB (L9 rfl rfl) rfl rfl (fun h30 => ?_) (fun h30 => ?_)
 refine sQ (qM rfl) rfl (sQ (qM rfl) rfl ?_)
 refine sP (A5x rfl rfl (by omega)) rfl rfl ?_
 refine sQ (J8 rfl rfl) rfl (sD (nS (qT rfl (tK (nS (tS ?_))))))
 refine C6 ?_
 refine S6 ?_
 (obtain ⟨b, o, e, rfl, hl, hat, hre, hgb⟩ := hsl.kidTm hkl (i := i) (by omega) (by omega); have htk := A4q (ks := ks) (i := i) (by omega); refine sP (D0 rfl rfl rfl (by omega)) rfl rfl ?_)
 refine sL (A6 rfl rfl (hat _) hl) rfl rfl ?_
 refine sQ (qM rfl) rfl ?_
 refine sP (Q9 rfl rfl (by omega) (by omega)) rfl rfl ?_
 (have hvk := hv2 i (by omega); rw [show D + 1 - d + 1 = D + 1 - (d - 1) by omega] at hvk; refine H7 rfl (ih ks[i] (List.getElem_mem (by omega)) (d - 1) G _ (by omega) hvk (by omega) hre) rfl rfl ?_)
 refine sP (N0 rfl rfl (by omega) (by omega)) rfl rfl ?_
 refine K4 ?_
 refine sP (N0 rfl rfl (by omega) (by omega)) rfl rfl ?_
 refine sQ (qA rfl) rfl (sD ?_)
 (refine K5 (i + 1) ?_ ?_ ?_; rw [show ((C9 (ks.take (i + 1)) + 1 : Nat) : Int) = ((C9 (ks.take i) + 1 : Nat) : Int) + (C3 ks[i] : Int) from by rw [A3z (by omega)]; omega])
 exact E0
 omega
 omega
 refine A0j ?_
 (obtain rfl : i = ks.length := (by omega); rw [List.take_length]; exact ⟨rfl, rfl, rfl⟩)
theorem A78 (t : Tm) (G : IM) (cells : List Value) (hcnt : C3 t ≤ 4294967296) (hr : B5 G t cells) :
  Fn Tryz.prog 37 [.agg ⟨cells⟩] [] G (L6 (.bool (R2 t)) G) := by
 have hl := hr.len
 have hv := B2p t 40 G cells (by omega) hr
 have hc := fun h => A77 40 13 t 40 G cells (by omega) h hcnt hr
 have hi := A4w t
 obtain ⟨R, hR⟩ : ∃ R, R2 t = R := ⟨_, rfl⟩
 rw [hR] at hi ⊢
 refine B8 Tryz.func37 rfl Tryz.ntmps37 Tryz.results37 rfl ?_
 intro w0
 refine tS (tR ?_)
 refine sE (E7 rfl rfl) rfl (fun b3 => ?_)
 refine sQ (qA rfl) rfl (sD (nS (tS (tR ?_))))
 refine sL (A6 rfl rfl (C8 (by repeat first | exact mH | apply mT)) (by assumption)) rfl rfl ?_
 refine J4 rfl (hv) rfl rfl (fun h10 => ?_) (fun h10 => ?_)
 refine sQ (qM rfl) rfl ?_
 refine sL (A6 rfl rfl (C8 (by repeat first | exact mH | apply mT)) (by assumption)) rfl rfl ?_
 refine H7 rfl (hc (by assumption)) rfl rfl ?_
 refine sB (W8 rfl rfl) rfl rfl (fun h14 => ?_) (fun h14 => ?_)
 refine K4 ?_
 exact ⟨rfl, by rw [hi.2 ⟨by assumption, by omega⟩], rfl⟩
 refine K4 ?_
 exact ⟨rfl, by (cases R with | false => rfl | true => (exfalso; have h0 := hi.1 rfl; first | omega | simp_all)), rfl⟩
 refine M2 ?_
 exact ⟨rfl, by (cases R with | false => rfl | true => (exfalso; have h0 := hi.1 rfl; first | omega | simp_all)), rfl⟩
theorem A1X (t : Tm) : T7 t = true ↔ L8 12 14 t 1 = true ∧ C3 t ≤ 30 := by
 have := A5S 30 12 14 t 1 0 (by omega)
 rw [T7, this]
 constructor
 ·rintro ⟨a, b⟩; exact ⟨a, by omega⟩
 ·rintro ⟨a, b⟩; exact ⟨a, by omega⟩
theorem B2r : ∀ (t : Tm) (d : Int) (G : IM) (cells : List Value), 0 ≤ d ∧ d ≤ 12 → B5 G t cells →
  Fn Tryz.prog 44 [.agg ⟨cells⟩, .int .i64 d] [] G (L6 (.bool (L8 12 14 t (13 - d))) G) := by
 refine Tm.ind fun k nm num ty fr lb ks ih d G cells hd hr => ?_
 have hr0 := hr
 have hne := fun h : k ≠ 14 => @A75 k nm num ty fr lb ks.length h
 have har := fun h : U3 k nm num ty fr lb ks.length = true => (U8.1 h).1
 obtain ⟨R, hR⟩ : ∃ R, U3 k nm num ty fr lb ks.length = R := ⟨_, rfl⟩
 rw [hR] at hne har
 have hl2 := A74 k nm num ty fr lb ks G cells hr0 R
 have hk1 := A4t k G
 obtain ⟨tk, tks⟩ := ty
 obtain ⟨fk, fks⟩ := fr
 obtain ⟨pt, ct, pf, cf, p, c, es, rfl, hk, hnum, hlb, hty, hfr, hsl, hkl⟩ := hr.open9
 have hn := hsl.le
 clear hr hr0
 refine B8 Tryz.func44 rfl Tryz.ntmps44 Tryz.results44 rfl ?_
 intro w0
 refine tS (tR ?_)
 refine sE (E7 rfl rfl) rfl (fun b3 => ?_)
 refine sQ (qA rfl) rfl (sD (nS (tS (tS ?_))))
 refine D3 D4 rfl ?_
 refine E8 (i := 0) (l' := [tt,ff,ff,ff,ff,ff,ff,ff,ff,ff,ff,ff,ff,ff,ff,ff,ff,ff,ff,ff,ff]) rfl C5 (qM rfl) rfl (by kernel_rfl) rfl rfl ?_
 refine A0F (i := 1) (l' := [tt,tt,ff,ff,ff,ff,ff,ff,ff,ff,ff,ff,ff,ff,ff,ff,ff,ff,ff,ff,ff]) rfl C5 (L9 rfl rfl) rfl (by kernel_rfl) rfl rfl (fun h11 => ?_) (fun h11 => ?_)
 refine aP 2 rfl (qM rfl) rfl ?_
 refine B1 3 rfl rfl rfl ?_
 refine B1 4 rfl rfl rfl ?_
 refine B1 6 rfl rfl rfl ?_
 refine B1 7 rfl rfl rfl ?_
 refine B1 8 rfl rfl rfl ?_
 refine B1 5 rfl rfl rfl ?_
 refine B1 9 rfl rfl rfl ?_
 refine aP 10 rfl (J8 rfl rfl) rfl ?_
 refine aP 11 rfl (qM rfl) rfl ?_
 refine B1 12 rfl rfl rfl ?_
 refine B1 13 rfl rfl rfl ?_
 refine B1 14 rfl rfl rfl ?_
 refine aP 15 rfl (J8 rfl rfl) rfl ?_
 refine aP 16 rfl (qM rfl) rfl ?_
 refine B1 17 rfl rfl rfl ?_
 refine B1 18 rfl rfl rfl ?_
 refine B1 19 rfl rfl rfl ?_
 refine aP 20 rfl (J8 rfl rfl) rfl ?_
 refine I6 ?_
 (rw [A1o (by rw [hR]; first | omega | exact .inr (.inr (by assumption)) | exact .inr (.inr (by cases R with | false => rfl | true => exact absurd (har rfl) (by omega))))]; exact ⟨rfl, rfl, rfl⟩)
 refine aP 2 rfl (qM rfl) rfl ?_
 refine aP 3 rfl (A9 rfl) rfl ?_
 refine aL 4 rfl (C2 rfl rfl) rfl ?_
 refine aP 6 rfl (A9 rfl) rfl ?_
 refine aL 7 rfl (C2 rfl rfl) rfl ?_
 refine aP 8 rfl (pLn rfl rfl) rfl ?_
 refine A1 5 ?_
 refine I1 rfl rfl (hk1) rfl rfl rfl ?_
 refine A0F (i := 9) (l' := [tt,tt,tt,tt,tt,tt,tt,tt,tt,tt,ff,ff,ff,ff,ff,ff,ff,ff,ff,ff,ff]) rfl C5 (P5 rfl rfl) rfl (by kernel_rfl) rfl rfl (fun h51 => ?_) (fun h51 => ?_)
 refine aP 10 rfl (M4 rfl rfl) rfl ?_
 refine aP 11 rfl (qM rfl) rfl ?_
 refine B1 12 rfl rfl rfl ?_
 refine B1 13 rfl rfl rfl ?_
 refine B1 14 rfl rfl rfl ?_
 refine aP 15 rfl (J8 rfl rfl) rfl ?_
 refine aP 16 rfl (qM rfl) rfl ?_
 refine B1 17 rfl rfl rfl ?_
 refine B1 18 rfl rfl rfl ?_
 refine B1 19 rfl rfl rfl ?_
 refine aP 20 rfl (J8 rfl rfl) rfl ?_
 refine I6 ?_
 (rw [A1o (by rw [hR]; first | omega | exact .inr (.inr (by assumption)) | exact .inr (.inr (by cases R with | false => rfl | true => exact absurd (har rfl) (by omega))))]; exact ⟨rfl, rfl, rfl⟩)
 refine aP 10 rfl (M4 rfl rfl) rfl ?_
 refine aP 11 rfl (qM rfl) rfl ?_
 refine aP 12 rfl (A9 rfl) rfl ?_
 refine aL 13 rfl (C2 rfl rfl) rfl ?_
 refine A0F (i := 14) (l' := [tt,tt,tt,tt,tt,tt,tt,tt,tt,tt,tt,tt,tt,tt,tt,ff,ff,ff,ff,ff,ff]) rfl C5 (qE rfl rfl) rfl (by kernel_rfl) rfl rfl (fun h79 => ?_) (fun h79 => ?_)
 refine aP 15 rfl (M4 rfl rfl) rfl ?_
 refine aP 16 rfl (qM rfl) rfl ?_
 refine B1 17 rfl rfl rfl ?_
 refine B1 18 rfl rfl rfl ?_
 refine B1 19 rfl rfl rfl ?_
 refine aP 20 rfl (J8 rfl rfl) rfl ?_
 refine I6 ?_
 (rw [A1o (by rw [hR]; first | omega | exact .inr (.inr (by assumption)) | exact .inr (.inr (by cases R with | false => rfl | true => exact absurd (har rfl) (by omega))))]; exact ⟨rfl, rfl, rfl⟩)
 refine aP 15 rfl (M4 rfl rfl) rfl ?_
 refine aP 16 rfl (qM rfl) rfl ?_
 refine aL 17 rfl (A2 rfl rfl) rfl ?_
 refine A1 18 ?_
 refine A0J rfl rfl (hl2 (hne (by omega) (by omega))) rfl rfl rfl (fun h102 => ?_) (fun h102 => ?_)
 refine aP 19 rfl (Y7 rfl) rfl ?_
 refine aP 20 rfl (M4 rfl rfl) rfl ?_
 refine I6 ?_
 refine C6 ?_
 (refine N4 (fun (i : Nat) => ⟨[(5, .int .i64 i), (2, .pointer (some ⟨b3, 0, none⟩)), (1, .int .i64 d)], [.blk b3 [.int .i64 k, .string nm, .int .i64 num, .int .i64 tk, .slice pt tks.length ct, .int .i64 fk, .slice pf fks.length cf, .int .i64 lb, .slice p ks.length c]], G⟩) (fun i => i ≤ ks.length ∧ ∀ j (h : j < ks.length), j < i → L8 12 14 ks[j] (13 - d + 1) = true) (fun i => ks.length - i) 0 ?_ ?_ ?_)
 exact E0
 exact ⟨by omega, by omega⟩
 (rintro i ⟨hi, hf⟩)
 refine B7 ?_
 refine sB (L9 rfl rfl) rfl rfl (fun h128 => ?_) (fun h128 => ?_)
 refine sD (nS (qT rfl (tK (nS (tS ?_)))))
 refine C6 ?_
 refine S6 ?_
 (obtain ⟨b, o, e, rfl, hl, hat, hre, hgb⟩ := hsl.kidTm hkl (i := i) (by omega) (by omega); refine sP (D0 rfl rfl rfl (by omega)) rfl rfl ?_)
 refine sL (A6 rfl rfl (hat _) hl) rfl rfl ?_
 refine sQ (qM rfl) rfl ?_
 refine sP (Q9 rfl rfl (by omega) (by omega)) rfl rfl ?_
 (have hih := ih ks[i] (List.getElem_mem (by omega)) (d - 1) G _ (by omega) hre; rw [show 13 - (d - 1) = 13 - d + 1 by omega] at hih; refine J4 rfl hih rfl rfl (fun h145 => ?_) (fun h145 => ?_))
 refine C7 ?_
 refine sP (N0 rfl rfl (by omega) (by omega)) rfl rfl ?_
 refine sQ (qA rfl) rfl (sD ?_)
 refine K5 (i + 1) ?_ ?_ ?_
 exact E0
 exact ⟨by omega, fun j hj hji => by (by_cases he : j = i; (subst he; assumption); exact hf j hj (by omega))⟩
 omega
 refine N6 ?_
 (rw [A0M (by omega) (by omega) (hR.trans (by assumption)), A5R (i := i) (by omega) (by assumption)]; exact ⟨rfl, rfl, rfl⟩)
 refine M3 ?_
 (rw [A0M (by omega) (by omega) (hR.trans (by assumption)), (A0m 12 14 ks _).2 (fun j hj => hf j hj (by omega))]; exact ⟨rfl, rfl, rfl⟩)
 refine aP 19 rfl (pNf rfl) rfl ?_
 refine aP 20 rfl (M4 rfl rfl) rfl ?_
 refine I6 ?_
 (rw [A1o (by rw [hR]; first | omega | exact .inr (.inr (by assumption)) | exact .inr (.inr (by cases R with | false => rfl | true => exact absurd (har rfl) (by omega))))]; exact ⟨rfl, rfl, rfl⟩)
theorem A5T (t : Tm) (G : IM) (cells : List Value) (hcnt : C3 t ≤ 4294967296) (hr : B5 G t cells) :
  Fn Tryz.prog 15 [.agg ⟨cells⟩] [] G (L6 (.bool (T7 t)) G) := by
 have hl := hr.len
 have hv := B2r t 12 G cells (by omega) hr
 have hc := fun h => A77 12 14 t 12 G cells (by omega) h hcnt hr
 have hi := A1X t
 obtain ⟨R, hR⟩ : ∃ R, T7 t = R := ⟨_, rfl⟩
 rw [hR] at hi ⊢
 refine B8 Tryz.func15 rfl Tryz.ntmps15 Tryz.results15 rfl ?_
 intro w0
 refine tS (tR ?_)
 refine sE (E7 rfl rfl) rfl (fun b3 => ?_)
 refine sQ (qA rfl) rfl (sD (nS (tS (tR ?_))))
 refine sL (A6 rfl rfl (C8 (by repeat first | exact mH | apply mT)) (by assumption)) rfl rfl ?_
 refine J4 rfl (hv) rfl rfl (fun h10 => ?_) (fun h10 => ?_)
 refine sQ (qM rfl) rfl ?_
 refine sL (A6 rfl rfl (C8 (by repeat first | exact mH | apply mT)) (by assumption)) rfl rfl ?_
 refine H7 rfl (hc (by assumption)) rfl rfl ?_
 refine sB (W8 rfl rfl) rfl rfl (fun h14 => ?_) (fun h14 => ?_)
 refine K4 ?_
 exact ⟨rfl, by rw [hi.2 ⟨by assumption, by omega⟩], rfl⟩
 refine K4 ?_
 exact ⟨rfl, by (cases R with | false => rfl | true => (exfalso; have h0 := hi.1 rfl; first | omega | simp_all)), rfl⟩
 refine M2 ?_
 exact ⟨rfl, by (cases R with | false => rfl | true => (exfalso; have h0 := hi.1 rfl; first | omega | simp_all)), rfl⟩
end Gw
end Go.Proofs.YtgodjiieijekiaaGreatDoor
namespace Go.Proofs.YtgodjiieijekiaaGreatDoor
namespace Gw
inductive GT where
 | any | int | bool
 | fn (a b : GT)
 | pr (a b : GT)
inductive GE where
 | var (x : ByteArray)
 | num (n : Int)
 | tru (b : Bool)
 | lam (x : ByteArray) (A : GT) (e : GE)
 | app (f a : GE)
 | ar (s : Bool) (a b : GE)
 | ite (c a b : GE)
 | pair (a b : GE)
 | part (s : Bool) (e : GE)
 | cast (A B : GT) (l : Int) (e : GE)
def GT.gr : GT → GT
 | .any => .any
 | .int => .int
 | .bool => .bool
 | .fn _ _ => .fn .any .any
 | .pr _ _ => .pr .any .any
def GT.Gd (t : GT) : Prop := t ≠ .any ∧ t.gr = t
inductive Co : GT → GT → Prop
 | l {b} : Co .any b
 | r {a} : Co a .any
 | int : Co .int .int
 | bool : Co .bool .bool
 | fn {a b a' b'} : Co a a' → Co b b' → Co (.fn a b) (.fn a' b')
 | pr {a b a' b'} : Co a a' → Co b b' → Co (.pr a b) (.pr a' b')
inductive Le : GT → GT → Prop
 | any {a} : Le a .any
 | int : Le .int .int
 | bool : Le .bool .bool
 | fn {a b a' b'} : Le a a' → Le b b' → Le (.fn a b) (.fn a' b')
 | pr {a b a' b'} : Le a a' → Le b b' → Le (.pr a b) (.pr a' b')
def GE.sub : GE → ByteArray → GE → GE
 | .var y, x, v => if y = x then v else .var y
 | .num n, _, _ => .num n
 | .tru b, _, _ => .tru b
 | .lam y A e, x, v => if y = x then .lam y A e else .lam y A (e.sub x v)
 | .app f a, x, v => .app (f.sub x v) (a.sub x v)
 | .ar s a b, x, v => .ar s (a.sub x v) (b.sub x v)
 | .ite c a b, x, v => .ite (c.sub x v) (a.sub x v) (b.sub x v)
 | .pair a b, x, v => .pair (a.sub x v) (b.sub x v)
 | .part s e, x, v => .part s (e.sub x v)
 | .cast A B l e, x, v => .cast A B l (e.sub x v)
inductive GV : GE → Prop
 | num {n} : GV (.num n)
 | tru {b} : GV (.tru b)
 | lam {x A e} : GV (.lam x A e)
 | pair {a b} : GV a → GV b → GV (.pair a b)
 | pf {a b c d l e} : GV e → GV (.cast (.fn a b) (.fn c d) l e)
 | pp {a b c d l e} : GV e → GV (.cast (.pr a b) (.pr c d) l e)
 | inj {A l e} : GV e → A.Gd → GV (.cast A .any l e)
def B2s (s : Bool) (m n : Int) : GE := if s = true then .tru (decide (m < n)) else .num ((m + n) % 1000)
inductive GS : GE → GE → Prop
 | app1 {f f' a} : GS f f' → GS (.app f a) (.app f' a)
 | app2 {f a a'} : GV f → GS a a' → GS (.app f a) (.app f a')
 | ar1 {s a a' b} : GS a a' → GS (.ar s a b) (.ar s a' b)
 | ar2 {s a b b'} : GV a → GS b b' → GS (.ar s a b) (.ar s a b')
 | ite1 {c c' a b} : GS c c' → GS (.ite c a b) (.ite c' a b)
 | pair1 {a a' b} : GS a a' → GS (.pair a b) (.pair a' b)
 | pair2 {a b b'} : GV a → GS b b' → GS (.pair a b) (.pair a b')
 | part1 {s e e'} : GS e e' → GS (.part s e) (.part s e')
 | cast1 {A B l e e'} : GS e e' → GS (.cast A B l e) (.cast A B l e')
 | beta {x A b v} : GV v → GS (.app (.lam x A b) v) (b.sub x v)
 | appx {a b c d l f v} : GV f → GV v → GS (.app (.cast (.fn a b) (.fn c d) l f) v) (.cast b d l (.app f (.cast c a (-l) v)))
 | ar {s m n} : GS (.ar s (.num m) (.num n)) (B2s s m n)
 | ite {b x y} : GS (.ite (.tru b) x y) (if b = true then x else y)
 | part {s a b} : GV a → GV b → GS (.part s (.pair a b)) (if s = true then b else a)
 | partx {s a b c d l e} : GV e → GS (.part s (.cast (.pr a b) (.pr c d) l e)) (.cast (if s = true then b else a) (if s = true then d else c) l (.part s e))
 | cid {A l v} : GV v → (A = .any ∨ A = .int ∨ A = .bool) → GS (.cast A A l v) v
 | up {A l v} : GV v → A ≠ .any → A.gr ≠ A → GS (.cast A .any l v) (.cast A.gr .any l (.cast A A.gr l v))
 | down {B l v} : GV v → B ≠ .any → B.gr ≠ B → GS (.cast .any B l v) (.cast B.gr B l (.cast .any B.gr l v))
 | hit {G l m w} : GV w → G.Gd → GS (.cast .any G l (.cast G .any m w)) w
inductive Ss : GE → GE → Prop
 | refl {e} : Ss e e
 | step {a b c} : GS a b → Ss b c → Ss a c
abbrev GC := ByteArray → Option (GT × GT)
def emp : GC := fun _ => none
def gup (Γ : GC) (x : ByteArray) (A A' : GT) : GC := fun y => if x = y then some (A, A') else Γ y
inductive GP : GC → GE → GE → GT → GT → Prop
 | var {Γ x A A'} : Γ x = some (A, A') → Le A A' → GP Γ (.var x) (.var x) A A'
 | num {Γ n} : GP Γ (.num n) (.num n) .int .int
 | tru {Γ b} : GP Γ (.tru b) (.tru b) .bool .bool
 | lam {Γ x A A' B B' e e'} : Le A A' → GP (gup Γ x A A') e e' B B' → GP Γ (.lam x A e) (.lam x A' e') (.fn A B) (.fn A' B')
 | app {Γ f f' a a' A A' B B'} : GP Γ f f' (.fn A B) (.fn A' B') → GP Γ a a' A A' → GP Γ (.app f a) (.app f' a') B B'
 | ar {Γ s a a' b b'} : GP Γ a a' .int .int → GP Γ b b' .int .int → GP Γ (.ar s a b) (.ar s a' b') (if s = true then .bool else .int) (if s = true then .bool else .int)
 | ite {Γ c c' a a' b b' A A'} : GP Γ c c' .bool .bool → GP Γ a a' A A' → GP Γ b b' A A' → GP Γ (.ite c a b) (.ite c' a' b') A A'
 | pair {Γ a a' b b' A A' B B'} : GP Γ a a' A A' → GP Γ b b' B B' → GP Γ (.pair a b) (.pair a' b') (.pr A B) (.pr A' B')
 | part {Γ s e e' A A' B B'} : GP Γ e e' (.pr A B) (.pr A' B') → GP Γ (.part s e) (.part s e') (if s = true then B else A) (if s = true then B' else A')
 | castL {Γ e e' A B A' l} : GP Γ e e' A A' → Co A B → Le B A' → GP Γ (.cast A B l e) e' B A'
 | castR {Γ e e' A A' B' l} : GP Γ e e' A A' → Co A' B' → Le A B' → GP Γ e (.cast A' B' l e') A B'
 | castB {Γ e e' A B A' B' l l'} : GP Γ e e' A A' → Co A B → Co A' B' → Le B B' → GP Γ (.cast A B l e) (.cast A' B' l' e') B B'
inductive GX where
 | n (n : Int) | b (b : Bool) | p | f
def GE.tx : GE → GX
 | .num n => .n n
 | .tru b => .b b
 | .pair _ _ => .p
 | .cast _ (.fn _ _) _ _ => .f
 | .cast _ (.pr _ _) _ _ => .p
 | .cast _ _ _ e => e.tx
 | _ => .f
theorem Sl.of_blk {G : IM} {b n c sz : Nat} {A C cs : List Value} (hl : cs.length = n * sz) (hc : n ≤ c) (hm : c ≤ maxLen) (hg : G b = some (A ++ (cs ++ C))) : Sl G (some ⟨b, A.length, none⟩) n c sz cs := by
 refine ⟨hl, hc, hm, .inr ⟨b, A.length, _, rfl, hg, fun j v hj => ?_⟩⟩
 have hlt : j < cs.length := (List.getElem?_eq_some_iff.1 hj).1
 rw [List.getElem?_append, if_neg (by omega), List.getElem?_append, if_pos (by omega), show A.length + j - A.length = j by omega]
 exact hj
def InG (G : IM) (bs : A07) (F : List Nat) : Prop := (bs.map Prod.fst).Sublist F ∧ ∀ q ∈ bs, G q.1 = some q.2
mutual
theorem A2X : ∀ t : Ty, F4 t ≤ 4294967296 → t.small
 | .mk _ ks, h => by
  rw [F4] at h
  have := A08 ks
  simp only [Ty.small]
  exact ⟨by omega, A79 ks (by omega)⟩
theorem A79 : ∀ ts : List Ty, K1 ts ≤ 4294967296 → Ty.smallL ts
 | [], _ => by simp [Ty.smallL]
 | t :: ts, h => by
  rw [K1] at h
  have := A0a t
  have := A08 ts
  simp only [Ty.smallL]
  exact ⟨A2X t (by omega), A79 ts (by omega)⟩
end
mutual
theorem A8a : ∀ t : Tm, A0r t ≤ 4294967296 → t.small
 | .mk _ nm _ ty fr _ ks, h => by
  rw [A0r] at h
  have := A4s ks
  have := A0a ty
  have := A0a fr
  simp only [Tm.small]
  exact ⟨by omega, A2X ty (by omega), A2X fr (by omega), by omega, A8b ks (by omega)⟩
theorem A8b : ∀ ts : List Tm, Y3 ts ≤ 4294967296 → Tm.smallL ts
 | [], _ => by simp [Tm.smallL]
 | t :: ts, h => by
  rw [Y3] at h
  have := A7R t
  have := A4s ts
  simp only [Tm.smallL]
  exact ⟨A8a t (by omega), A8b ts (by omega)⟩
end
mutual
theorem A5U : ∀ t : Tm, (C3 t : Int) ≤ A0r t + 1
 | .mk _ nm _ ty fr _ ks => by
  have := A8c ks
  have := A0a ty
  have := A0a fr
  rw [A0r, C3]; omega
theorem A8c : ∀ ts : List Tm, (C9 ts : Int) ≤ ts.length + Y3 ts
 | [] => by rw [Y3, C9]; simp
 | t :: ts => by
  have := A5U t
  have := A8c ts
  rw [Y3, C9, List.length_cons]; omega
end
def Q1 : Ty := .mk 1 []
def Q2 : Nat → Ty → Prop
 | 0, .mk k ks => ks = [] ∧ k ≠ 4 ∧ k ≠ 5
 | n + 1, .mk k ks => (k = 4 ∨ k = 5 → ks.length = 2) ∧ (k ≠ 4 → k ≠ 5 → ks.length = 0) ∧ ∀ t ∈ ks, Q2 n t
mutual
def E4 : Ty → Prop
 | .mk k ks => (k = 4 ∨ k = 5 → ks.length = 2) ∧ (k ≠ 4 → k ≠ 5 → ks.length = 0) ∧ A0N ks
def A0N : List Ty → Prop
 | [] => True
 | t :: ts => E4 t ∧ A0N ts
end
theorem A3D : ∀ {ts : List Ty}, A0N ts ↔ ∀ t ∈ ts, E4 t
 | [] => by simp [A0N]
 | t :: ts => by simp only [A0N, A3D (ts := ts), List.forall_mem_cons]
theorem Q2.ar : ∀ {n : Nat} {t : Ty}, Q2 n t → E4 t
 | 0, .mk k ks, h => by
  obtain ⟨rfl, h1, h2⟩ := h
  rw [E4]
  exact ⟨fun h => by omega, fun _ _ => rfl, by rw [A0N]; trivial⟩
 | n + 1, .mk k ks, h => by
  obtain ⟨h1, h2, h3⟩ := h
  rw [E4]
  exact ⟨h1, h2, A3D.2 fun t ht => (h3 t ht).ar⟩
theorem Q2.up : ∀ {n : Nat} {t : Ty}, Q2 n t → Q2 (n + 1) t
 | 0, .mk k ks, h => by
  obtain ⟨rfl, h1, h2⟩ := h
  exact ⟨fun h => by omega, fun _ _ => rfl, by simp⟩
 | n + 1, .mk k ks, h => by
  obtain ⟨h1, h2, h3⟩ := h
  exact ⟨h1, h2, fun t ht => (h3 t ht).up⟩
theorem Q2.le {n m : Nat} {t : Ty} (h : Q2 n t) (hm : n ≤ m) : Q2 m t := by
 induction hm with
 | refl => exact h
 | step _ ih => exact ih.up
theorem A8d {d : Nat} {k : Int} {ts : List Ty} (h0 : d = 0 → k < 4) (hl : (ts.length : Int) = Q5 k) (h1 : 1 ≤ k) (h5 : k ≤ 5) (ha : ∀ u ∈ ts, Q2 (d - 1) u) : Q2 d (.mk k ts) := by
 have hk : k = 1 ∨ k = 2 ∨ k = 3 ∨ k = 4 ∨ k = 5 := by omega
 cases d with
 | zero =>
  have hk4 := h0 rfl
  refine ⟨?_, by omega, by omega⟩
  have : Q5 k = 0 := by
   rcases hk with rfl | rfl | rfl | rfl | rfl <;> first | rfl | omega
  exact List.length_eq_zero_iff.1 (by omega)
 | succ d =>
  refine ⟨?_, ?_, ha⟩
  ·rintro (rfl | rfl)
   ·have : Q5 4 = 2 := rfl
    omega
   ·have : Q5 5 = 2 := rfl
    omega
  ·intro h4 h5
   have : Q5 k = 0 := by
    rcases hk with rfl | rfl | rfl | rfl | rfl <;> first | rfl | omega
   omega
theorem A5V (n : Nat) : Q2 n Q1 := by
 refine Q2.le (n := 0) ⟨rfl, by decide, by decide⟩ (Nat.zero_le n)
theorem A2Y (n : Nat) {k : Int} (h4 : k ≠ 4) (h5 : k ≠ 5) : Q2 n (.mk k []) := Q2.le (n := 0) ⟨rfl, h4, h5⟩ (Nat.zero_le n)
theorem A2Z : E4 Q1 := (A5V 0).ar
mutual
theorem E4.small : ∀ {t : Ty}, E4 t → t.small
 | .mk k ks, h => by
  rw [E4] at h
  rw [Ty.small]
  exact ⟨by have h1 := h.1; have h2 := h.2.1; omega, A0N.small h.2.2⟩
theorem A0N.small : ∀ {ts : List Ty}, A0N ts → Ty.smallL ts
 | [], _ => by rw [Ty.smallL]; trivial
 | t :: ts, h => by
  rw [A0N] at h
  rw [Ty.smallL]
  exact ⟨h.1.small, A0N.small h.2⟩
end
theorem A4x : ∀ {n : Nat} {t : Ty}, Q2 n t → F4 t ≤ ((2 ^ (n + 1) - 2 : Nat) : Int)
 | 0, .mk k ks, h => by
  obtain ⟨rfl, h1, h2⟩ := h
  rw [F4, K1]; simp
 | n + 1, .mk k ks, h => by
  obtain ⟨h1, h2, h3⟩ := h
  have hp : 2 ≤ 2 ^ (n + 1) := by
   have := Nat.pow_le_pow_right (n := 2) (by omega) (show 1 ≤ n + 1 by omega)
   simpa using this
  have e : 2 ^ (n + 1 + 1) = 2 ^ (n + 1) * 2 := Nat.pow_succ ..
  have hl : ks.length = 0 ∨ ks.length = 2 := by omega
  rw [F4]
  match ks, hl, h3 with
  | [], _, _ => rw [K1]; simp
  | [a, b], _, h3 =>
   have := A4x (h3 a (by simp))
   have := A4x (h3 b (by simp))
   simp only [K1, List.length_cons, List.length_nil]; omega
theorem A8e {k : Int} {ks us : List Ty} : ∀ {n : Nat}, Q2 n (.mk k ks) → us.length = ks.length → (∀ u ∈ us, Q2 (n - 1) u) → Q2 n (.mk k us)
 | 0, h, hl, _ => by
  obtain ⟨rfl, h1, h2⟩ := h
  exact ⟨List.length_eq_zero_iff.1 (by simpa using hl), h1, h2⟩
 | n + 1, h, hl, hu => by
  obtain ⟨h1, h2, h3⟩ := h
  exact ⟨fun hk => by rw [hl]; exact h1 hk, fun a b => by rw [hl]; exact h2 a b, hu⟩
theorem A4y {k : Int} {ks : List Ty} {t : Ty} : ∀ {n : Nat}, Q2 n (.mk k ks) → t ∈ ks → Q2 (n - 1) t
 | 0, h, ht => by
  obtain ⟨rfl, h1, h2⟩ := h
  simp at ht
 | n + 1, h, ht => h.2.2 t ht
def T2 : Ty := .mk 2 []
def Z1 : Ty := .mk 3 []
mutual
def P4 : Ty → Ty → Bool
 | .mk k ks, t => decide (k = t.k) && A0s ks t.ks
def A0s : List Ty → List Ty → Bool
 | [], [] => true
 | a :: xs, b :: ys => P4 a b && A0s xs ys
 | _, _ => false
end
theorem A3E (k k' : Int) (ks ks' : List Ty) : P4 (.mk k ks) (.mk k' ks') = (decide (k = k') && A0s ks ks') := by rw [P4]; rfl
mutual
theorem A5W : ∀ (a b : Ty), P4 a b = true ↔ a = b
 | .mk k ks, .mk k' ks' => by
  rw [A3E, Bool.and_eq_true, decide_eq_true_eq, A8f ks ks', Ty.mk.injEq]
theorem A8f : ∀ (xs ys : List Ty), A0s xs ys = true ↔ xs = ys
 | [], [] => by simp [A0s]
 | [], b :: ys => by simp [A0s]
 | a :: xs, [] => by simp [A0s]
 | a :: xs, b :: ys => by
  rw [A0s, Bool.and_eq_true, A5W a b, A8f xs ys, List.cons.injEq]
end
theorem A5X (a : Ty) : P4 a a = true := (A5W a a).2 rfl
theorem A4z : ∀ (xs ys : List Ty), A0s xs ys = true ↔ xs.length = ys.length ∧ ∀ i, (h : i < xs.length) → (h' : i < ys.length) → P4 xs[i] ys[i] = true
 | [], [] => by simp [A0s]
 | [], b :: ys => by simp [A0s]
 | a :: xs, [] => by simp [A0s]
 | a :: xs, b :: ys => by
  simp only [A0s, Bool.and_eq_true, A4z xs ys, List.length_cons]
  constructor
  ·rintro ⟨h1, h2, h3⟩
   refine ⟨by omega, fun i hi hi' => ?_⟩
   cases i with
   | zero => exact h1
   | succ i => exact h3 i (by simpa using hi) (by simpa using hi')
  ·rintro ⟨h1, h2⟩
   exact ⟨h2 0 (by simp) (by simp), by omega, fun i hi hi' => h2 (i + 1) (by simpa using hi) (by simpa using hi')⟩

abbrev Cx := List (ByteArray × Ty)
def A0O (cx : Cx) (nm : ByteArray) : Nat → Option Ty
 | 0 => none
 | n + 1 => match cx[n]? with
  | some b => if b.1 = nm then some b.2 else A0O cx nm n
  | none => A0O cx nm n
def A1H (cx : Cx) (nm : ByteArray) : Option Ty := A0O cx nm cx.length
theorem B2t {cx : Cx} {nm x : ByteArray} {n : Nat} {t : Ty} (h : cx[n]? = some (x, t)) (he : x = nm) : A0O cx nm (n + 1) = some t := by
 rw [A0O, h]; simp only [he, if_true]
theorem B2u {cx : Cx} {nm x : ByteArray} {n : Nat} {t : Ty} (h : cx[n]? = some (x, t)) (he : ¬x = nm) : A0O cx nm (n + 1) = A0O cx nm n := by
 rw [A0O, h]; simp only [he, if_false]

mutual
def X2 : Ty → Ty → Ty
 | .mk k ks, b => if k = 1 then b else if b.k = 1 then .mk k ks else .mk k (W3 ks b.ks)
def W3 : List Ty → List Ty → List Ty
 | a :: xs, b :: ys => X2 a b :: W3 xs ys
 | _, _ => []
end
theorem A3F (k k' : Int) (ks ks' : List Ty) : X2 (.mk k ks) (.mk k' ks') = if k = 1 then .mk k' ks' else if k' = 1 then .mk k ks else .mk k (W3 ks ks') := by rw [X2]; rfl
def X3 (kind : Int) (t : Ty) : Option (Ty × Ty) :=
 if t.k = kind then some (t.ks.getD 0 A7, t.ks.getD 1 A7) else if t.k = 1 then some (Q1, Q1) else none
def R3 (cx : Cx) (k : Int) (nm : ByteArray) (ty : Ty) (h : List Ty) : Option (List Ty × Ty) :=
 if k = 1 then (match A1H cx nm with | some t => some ([], t) | none => none)
 else if k = 2 then some ([], T2)
 else if k = 3 ∨ k = 4 then some ([], Z1)
 else if k = 5 then some ([], .mk 4 [ty, h.getD 0 A7])
 else if k = 6 then (match X3 4 (h.getD 0 A7) with | some (a, b) => if K2 (h.getD 1 A7) a = true then some ([.mk 4 [a, b], a], b) else none | none => none)
 else if k = 7 ∨ k = 8 then (if K2 (h.getD 0 A7) T2 = true ∧ K2 (h.getD 1 A7) T2 = true then some ([T2, T2], if k = 8 then Z1 else T2) else none)
 else if k = 9 then (if K2 (h.getD 0 A7) Z1 = true ∧ K2 (h.getD 1 A7) (h.getD 2 A7) = true then some ([Z1, X2 (h.getD 1 A7) (h.getD 2 A7), X2 (h.getD 1 A7) (h.getD 2 A7)], X2 (h.getD 1 A7) (h.getD 2 A7)) else none)
 else if k = 10 then some ([], .mk 5 [h.getD 0 A7, h.getD 1 A7])
 else if k = 13 then (if K2 (h.getD 0 A7) ty = true then some ([ty], ty) else none)
 else (match X3 5 (h.getD 0 A7) with | some (a, b) => some ([.mk 5 [a, b]], if k = 12 then b else a) | none => none)
def A1p (cx : Cx) (k : Int) (nm : ByteArray) (ty : Ty) (h : List Ty) : Option (List Ty × Ty) := match R3 cx k nm ty h with
 | some (w, t) => if H3 t = true then some (w, t) else none
 | none => none
def A3G : List Ty → List Ty → Bool
 | [], _ => true
 | a :: xs, b :: ys => P4 a b && A3G xs ys
 | _ :: _, [] => false
def U4 (cx : Cx) (k : Int) (nm : ByteArray) (ty : Ty) : Cx := if k = 5 then cx ++ [(nm, ty)] else cx
mutual
def A0P (cx : Cx) : Tm → Option Ty
 | .mk k nm num ty fr lb ks => match Z2 (U4 cx k nm ty) ks with
  | none => none
  | some h => if k = 14 then (if P4 (h.getD 0 A7) fr = true then some ty else none)
   else match A1p cx k nm ty h with
    | none => none
    | some (w, t) => if A3G w h = true then some t else none
def Z2 (cx : Cx) : List Tm → Option (List Ty)
 | [] => some []
 | t :: ts => match A0P cx t with
  | none => none
  | some u => match Z2 cx ts with
   | none => none
   | some us => some (u :: us)
end
def B2v (e : Tm) : Option Ty := if R2 e = true then A0P [] e else none
def A8g (t : Ty) (G : IM) : IM → Value → List A4 → Prop := L7 fun G' v => ∃ cells' F, v = .agg ⟨cells'⟩ ∧ O4 (B6 G' G) t cells' F ∧ F.Nodup
def B6K (ks : List Ty) (G : IM) : IM → Value → List A4 → Prop := L7 fun G' v => ∃ p c F, v = .slice p ks.length c ∧ A7D (B6 G' G) ks p c F ∧ F.Nodup
def B2w (t : Tm) (G : IM) : IM → Value → List A4 → Prop := L7 fun G' v => ∃ cells' F, v = .agg ⟨cells'⟩ ∧ P0 (B6 G' G) t cells' F ∧ F.Nodup
def B6L (ks : List Tm) (G : IM) : IM → Value → List A4 → Prop := L7 fun G' v => ∃ p c F, v = .slice p ks.length c ∧ A3x (B6 G' G) ks p c F ∧ F.Nodup
theorem R4 : ∀ (t : Ty) (G : IM) (cells : List Value), t.small → B3 G t cells → Fn Tryz.prog 170 [.agg ⟨cells⟩] [] G (A8g t G) := by
 refine Ty.ind fun k ks ih G cells hts hr => ?_
 simp only [Ty.small] at hts
 obtain ⟨hsm, hks⟩ := hts
 obtain ⟨p, c, es, rfl, hk, hsl, hkl⟩ := hr.open
 simp only [Ty.k, Ty.ks] at hk hsl hkl ⊢
 have hn := hsl.le
 refine B8 Tryz.func170 rfl Tryz.ntmps170 Tryz.results170 rfl ?_
 intro w0
 refine tS (tR ?_)
 refine sE (E7 rfl rfl) rfl (fun b3 => ?_)
 refine sE (A8 rfl) rfl (fun b4 => ?_)
 refine B7 ?_
 refine sE (A8 rfl) rfl (fun b12 => ?_)
 refine H2 ?_
 refine sD (nS (tS (tS (tR (sQ (qA rfl) rfl (sD (nS ?_)))))))
 refine C6 ?_
 (refine A0B 25 2 ?_; refine N4 (fun (x : Nat × Option Addr × Nat × List (List Value) × List Nat × IM) => ⟨[(4, .int .i64 x.1), (3, .pointer (some ⟨b12, 0, none⟩)), (1, .pointer (some ⟨b3, 0, none⟩)), (2, .pointer (some ⟨b4, 0, none⟩))], [.blk b12 [.int .i64 k, .slice x.2.1 x.1 x.2.2.1], .slc x.2.1 x.2.2.1 25 2 x.1 x.2.2.2.1.flatten, .blk b4 [.int .i64 0, .slice none 0 0], .blk b3 [.int .i64 k, .slice p ks.length c]], x.2.2.2.2.2⟩) (fun x => x.1 ≤ ks.length ∧ B2 G x.2.2.2.2.2 ∧ N8 (B6 x.2.2.2.2.2 G) (ks.take x.1) x.2.2.2.1 x.2.2.2.2.1 ∧ x.2.2.2.2.1.Nodup) (fun x => ks.length - x.1) (0, none, 0, [], [], G) ?_ ?_ ?_)
 (simp only [J9]; exact E0)
 exact ⟨by simp, B2.refl _, by simp [N8], by simp⟩
 (rintro ⟨i, pn, cn, es', F, Gi⟩ ⟨hi, hle, hst, hnd⟩; simp only [] at hi hle hst hnd ⊢; replace hsl := hsl.mono hle; replace hkl := hkl.mono hle)
 refine B7 ?_
 refine sB (L9 rfl rfl) rfl rfl (fun h34 => ?_) (fun h34 => ?_)
 refine sD (nS (qT rfl (tK (nS (tS ?_)))))
 refine C6 ?_
 (obtain ⟨b, o, p2, c2, rfl, hat, hre, hgb⟩ := hsl.kidTy hkl (i := i) (by omega) (by omega); refine D3 D4 rfl ?_)
 refine E8 (i := 0) (l' := [tt,ff,ff,ff,ff,ff,ff,ff,ff,ff,ff,ff]) rfl C5 (A9 rfl) rfl (by kernel_rfl) rfl rfl ?_
 refine aL 1 rfl (C2 rfl rfl) rfl ?_
 refine aP 2 rfl (A9 rfl) rfl ?_
 refine aL 3 rfl (C2 rfl rfl) rfl ?_
 refine aP 4 rfl (qM rfl) rfl ?_
 refine aP 5 rfl (D0 rfl rfl rfl (by omega)) rfl ?_
 refine aL 6 rfl (A6 rfl rfl (hat _) rfl) rfl ?_
 refine A1 7 ?_
 (refine M6 rfl rfl (ih ks[i] (List.getElem_mem (by omega)) _ _ (Ty.smallL_mem hks _ (List.getElem_mem (by omega))) hre) rfl rfl rfl (fun v G1 hle1 hh => ?_); obtain ⟨cells', F', rfl, hs', hnd'⟩ := hh; obtain ⟨p3, c3, es3, rfl, _⟩ := hs'.R.open)
 refine A1 8 ?_
 (refine I7 rfl (D1 rfl rfl rfl (by omega) (by unfold maxLen; omega) rfl) rfl rfl ?_; rintro _ ⟨b53, rfl⟩)
 refine A1 9 ?_
 refine W2 rfl rfl rfl rfl rfl rfl (fun _ _ => by repeat (first | exact Sw.here | apply Sw.there)) (R0 (by repeat first | exact mH | apply mT)) rfl (by simp [Value.oneCell']) (by unfold maxLen; omega) (by omega) rfl rfl (by repeat (first | exact A5.nil | apply A5.dep (by decide +kernel) | apply A5.blk (by decide +kernel) (by repeat (first | exact Pk.here | apply Pk.there)) (by repeat first | exact mH | apply mT))) (fun pn' cn' => ?_)
 refine aP 10 rfl (A9 rfl) rfl ?_
 refine A1 11 ?_
 refine K6 rfl rfl rfl rfl rfl rfl rfl rfl (by kernel_rfl) (by repeat first | exact Sw.here | apply Sw.there) (by rfl) ?_
 refine D8 (O3 (nS (tR (sQ (qM rfl) rfl ?_))))
 refine sP (N0 rfl rfl (by omega) (by omega)) rfl rfl ?_
 refine sQ (qA rfl) rfl (sD ?_)
 refine K5 (i + 1, pn', cn', es' ++ [[.int .i64 ks[i].k, .slice p3 ks[i].ks.length c3]], F ++ F', G1) ?_ ?_ ?_
 (simp only [J9]; exact E0)
 exact ⟨by omega, hle.trans hle1, N8.step hst hnd hle hle1 (by omega) hs' hnd'⟩
 (show ks.length - (i + 1) < ks.length - i; omega)
 refine O8 ?_
 (refine L4 (by repeat (first | exact Pk.here | apply Pk.there)) (fun G2 hle2 hsl2 hno2 => ?_); obtain rfl : i = ks.length := (by omega))
 refine tT ?_
 refine E9 (rC rfl (A2 rfl rfl)) ?_
 (rw [List.take_length] at hst; obtain ⟨F2, hf1, hf2⟩ := O4.fin hst hnd hle hle2 hsl2 hno2 hk; exact ⟨rfl, _, F2, rfl, hf1, hf2⟩)
theorem A5Y : ∀ (t : Tm) (G : IM) (cells : List Value), t.small → B5 G t cells → Fn Tryz.prog 113 [.agg ⟨cells⟩] [] G (B2w t G) := by
 refine Tm.ind fun k nm num ty fr lb ks ih G cells hts hr => ?_
 have hone := hr.one
 simp only [Tm.small] at hts
 obtain ⟨hnm, hty', hfr', hsm, hks⟩ := hts
 obtain ⟨tk, tks⟩ := ty
 obtain ⟨fk, fks⟩ := fr
 obtain ⟨pt, ct, pf, cf, p, c, es, rfl, hk, hnum, hlb, hty, hfr, hsl, hkl⟩ := hr.open9
 have hn := hsl.le
 have hT := R4 (.mk tk tks) G _ hty' hty
 refine B8 Tryz.func113 rfl Tryz.ntmps113 Tryz.results113 rfl ?_
 intro w0
 refine tS (tR ?_)
 refine sE (E7 rfl rfl) rfl (fun b3 => ?_)
 refine sE (A8 rfl) rfl (fun b4 => ?_)
 refine sD (nS (tS (tR (sL (A2 rfl rfl) rfl rfl ?_))))
 refine sE (A8 rfl) rfl (fun b10 => ?_)
 refine B7 ?_
 (refine D9 rfl hT rfl rfl (fun v G1 hle1 hh => ?_); obtain ⟨Q0, F1, rfl, hs1, hn1⟩ := hh; obtain ⟨p1, c1, rfl, _⟩ := hs1.open; have hF := R4 (.mk fk fks) G1 _ hfr' (hfr.mono hle1))
 refine F8 ?_
 (refine D9 rfl hF rfl rfl (fun v G2 hle2 hh => ?_); obtain ⟨cs2, F2, rfl, hs2, hn2⟩ := hh; obtain ⟨p2, c2, rfl, _⟩ := hs2.open; replace hsl := hsl.mono (hle1.trans hle2); replace hkl := hkl.mono (hle1.trans hle2))
 refine N6 ?_
 refine C6 ?_
 (refine A0B 28 9 ?_; refine N4 (fun (x : Nat × Option Addr × Nat × List (List Value) × List Nat × IM) => ⟨[(4, .int .i64 x.1), (3, .pointer (some ⟨b10, 0, none⟩)), (1, .pointer (some ⟨b3, 0, none⟩)), (2, .pointer (some ⟨b4, 0, none⟩))], [.blk b10 [.int .i64 k, .string nm, .int .i64 num, .int .i64 tk, .slice p1 tks.length c1, .int .i64 fk, .slice p2 fks.length c2, .int .i64 lb, .slice x.2.1 x.1 x.2.2.1], .slc x.2.1 x.2.2.1 28 9 x.1 x.2.2.2.1.flatten, .blk b4 [.int .i64 0, .string ⟨⟨[]⟩⟩, .int .i64 0, .int .i64 0, .slice none 0 0, .int .i64 0, .slice none 0 0, .int .i64 0, .slice none 0 0], .blk b3 [.int .i64 k, .string nm, .int .i64 num, .int .i64 tk, .slice pt tks.length ct, .int .i64 fk, .slice pf fks.length cf, .int .i64 lb, .slice p ks.length c]], x.2.2.2.2.2⟩) (fun x => x.1 ≤ ks.length ∧ B2 G2 x.2.2.2.2.2 ∧ N9 (B6 x.2.2.2.2.2 G2) (ks.take x.1) x.2.2.2.1 x.2.2.2.2.1 ∧ x.2.2.2.2.1.Nodup) (fun x => ks.length - x.1) (0, none, 0, [], [], G2) ?_ ?_ ?_)
 (simp only [J9]; exact E0)
 exact ⟨by simp, B2.refl _, by simp [N9], by simp⟩
 (rintro ⟨i, pn, cn, es', F, Gi⟩ ⟨hi, hle, hst, hnd⟩; simp only [] at hi hle hst hnd ⊢; replace hsl := hsl.mono hle; replace hkl := hkl.mono hle)
 refine B7 ?_
 refine sB (L9 rfl rfl) rfl rfl (fun h56 => ?_) (fun h56 => ?_)
 refine sD (nS (qT rfl (tK (nS (tS ?_)))))
 refine C6 ?_
 (obtain ⟨b, o, e, rfl, hl, hat, hre, hgb⟩ := hsl.kidTm hkl (i := i) (by omega) (by omega); have hone := hre.one; refine D3 D4 rfl ?_)
 refine E8 (i := 0) (l' := [tt,ff,ff,ff,ff,ff,ff,ff,ff,ff,ff,ff]) rfl C5 (A9 rfl) rfl (by kernel_rfl) rfl rfl ?_
 refine aL 1 rfl (C2 rfl rfl) rfl ?_
 refine aP 2 rfl (A9 rfl) rfl ?_
 refine aL 3 rfl (C2 rfl rfl) rfl ?_
 refine aP 4 rfl (qM rfl) rfl ?_
 refine aP 5 rfl (D0 rfl rfl rfl (by omega)) rfl ?_
 refine aL 6 rfl (A6 rfl rfl (hat _) hl) rfl ?_
 refine A1 7 ?_
 (refine M6 rfl rfl (ih ks[i] (List.getElem_mem (by omega)) _ _ (Tm.smallL_mem hks _ (List.getElem_mem (by omega))) hre) rfl rfl rfl (fun v G3 hle3 hh => ?_); obtain ⟨cells', F', rfl, hs', hnd'⟩ := hh; obtain ⟨qt, dt, et', qf, df, ef', q3, d3, es3, rfl, _⟩ := hs'.R.open)
 refine A1 8 ?_
 (refine I7 rfl (D1 rfl rfl rfl (by omega) (by unfold maxLen; omega) rfl) rfl rfl ?_; rintro _ ⟨b75, rfl⟩)
 refine A1 9 ?_
 refine W2 rfl rfl rfl rfl rfl rfl (fun _ _ => by repeat (first | exact Sw.here | apply Sw.there)) (R0 (by repeat first | exact mH | apply mT)) rfl (by simp [Value.oneCell']) (by unfold maxLen; omega) (by omega) rfl rfl (by repeat (first | exact A5.nil | apply A5.dep (by decide +kernel) | apply A5.blk (by decide +kernel) (by repeat (first | exact Pk.here | apply Pk.there)) (by repeat first | exact mH | apply mT))) (fun pn' cn' => ?_)
 refine aP 10 rfl (A9 rfl) rfl ?_
 refine A1 11 ?_
 refine K6 rfl rfl rfl rfl rfl rfl rfl rfl (by kernel_rfl) (by repeat first | exact Sw.here | apply Sw.there) (by rfl) ?_
 refine D8 (O3 (nS (tR (sQ (qM rfl) rfl ?_))))
 refine sP (N0 rfl rfl (by omega) (by omega)) rfl rfl ?_
 refine sQ (qA rfl) rfl (sD ?_)
 refine K5 (i + 1, pn', cn', es' ++ [[.int .i64 ks[i].k, .string ks[i].nm, .int .i64 ks[i].num, .int .i64 ks[i].ty.k, .slice qt ks[i].ty.ks.length dt, .int .i64 ks[i].fr.k, .slice qf ks[i].fr.ks.length df, .int .i64 ks[i].lb, .slice q3 ks[i].ks.length d3]], F ++ F', G3) ?_ ?_ ?_
 (simp only [J9]; exact E0)
 exact ⟨by omega, hle.trans hle3, N9.step hst hnd hle hle3 (by omega) hs' hnd'⟩
 (show ks.length - (i + 1) < ks.length - i; omega)
 refine O8 ?_
 (refine L4 (by repeat (first | exact Pk.here | apply Pk.there)) (fun G4 hle4 hsl4 hno4 => ?_); obtain rfl : i = ks.length := (by omega))
 refine tT ?_
 refine E9 (rC rfl (A2 rfl rfl)) ?_
 (rw [List.take_length] at hst; obtain ⟨F3, hf1, hf2⟩ := A3x.fin hst hnd hle hle4 hsl4 hno4; obtain ⟨F5, hg1, hg2⟩ := P0.mk3 (nm := nm) hk hnum hlb hle1 hle2 (hle.trans hle4) hs1 hn1 hs2 hn2 hf1 hf2; exact ⟨rfl, _, F5, rfl, hg1, hg2⟩)
mutual
def A5Z (g : Tm → Tm) : Tm → Tm
 | .mk k nm num ty fr lb ks => g (.mk k nm num ty fr lb (A50 g ks))
def A50 (g : Tm → Tm) : List Tm → List Tm
 | [] => []
 | t :: ts => A5Z g t :: A50 g ts
end
mutual
def mOk (Q : Tm → Prop) (g : Tm → Tm) : Tm → Prop
 | .mk k nm num ty fr lb ks => A8h Q g ks ∧ Q (.mk k nm num ty fr lb (A50 g ks))
def A8h (Q : Tm → Prop) (g : Tm → Tm) : List Tm → Prop
 | [] => True
 | t :: ts => mOk Q g t ∧ A8h Q g ts
end
def B6M (g : Tm → Tm) (Q : Tm → Prop) (fid : FuncId) (us cs : List Value) : Prop := ∀ (t : Tm) (G0 G1 : IM) (cells : List Value) (F : List Nat), Q t → B2 G0 G1 → P0 (B6 G1 G0) t cells F → F.Nodup →
 Fn Tryz.prog fid (us ++ [.agg ⟨cells⟩] ++ cs) [] G1 (L7 fun G2 v => ∃ cells' F', v = .agg ⟨cells'⟩ ∧ P0 (B6 G2 G0) (g t) cells' F' ∧ F'.Nodup)
theorem Sw.same {hp hp' : List A4} {e : A4} (h : Sw hp e e hp') : hp' = hp := by
 generalize he : e = e' at h
 have : ∀ {hp e e' hp'}, Sw hp e e' hp' → e = e' → hp' = hp := by
  intro hp e e' hp' h
  induction h with
  | here => rintro rfl; rfl
  | there _ ih => intro he; rw [ih he]
 subst he
 exact this h rfl
section
variable {P : Program} {Γ : K0} {env : K3} {hp : List A4} {G : IM} {ty : TypeId}
theorem B2x {d : Nat} {x y : Operand} {t el : TypeId} {i : M5} {sz by' : Nat} {zs : List Value} [hI : I0 P t i] {ie : M5} [hEl : I0 P el ie] (hd' : i.desc = .slice el) [hE : Z8 P el sz by' zs] {p q : Option Addr} {c n m c2 : Nat} {cs news : List Value} {hp' : Option Addr → Nat → List A4}
  (hd : Nat.blt d Γ.n = true) (hx : evo env x = some (.slice p n c)) (hy : evo env y = some (.slice q m c2)) (hsz : Nat.blt 0 sz = true)
  (hm : ∀ p' c', Sw hp (.slc p c el sz n cs) (.slc p' c' el sz (n + m) (cs ++ news)) (hp' p' c'))
  (hS : Sl G q m c2 sz news) (h1 : ∀ u ∈ news, u.oneCell' = true) (hc : n ≤ c)
  (h63 : n + m ≤ maxLen) (hb : (n + m) * by' ≤ 140737488355328) :
  Y1 P Γ ⟨env, hp, G⟩ (some d) (.call ⟨.builtin .append, ⟨[x, y]⟩, ⟨[t, t]⟩⟩) ty (I8 p) (fun σ' => ∃ p' c', σ' = ⟨(d, .slice p' (n + m) c') :: env, hp' p' c', G⟩) := by
 obtain ⟨hl, _, _, hat⟩ := hS
 rcases Nat.eq_zero_or_pos m with rfl | hm0
 ·obtain rfl : news = [] := List.length_eq_zero_iff.1 (by omega)
  have hpu := B1A (P := P) (Γ := Γ) (hp := hp) (G := G) (ty := ty) (t := t) (el := el) hd' hx hy hc
  refine ⟨fun a w hs pos af gd Q next hn => ?_⟩
  simp only [Oper.wp, hpu.run a w hs, Oper.upon]
  refine hn _ _ _ (hs.put d _ (by simpa using hd) hs.res) (Ext.refl _ _) ⟨p, c, ?_⟩
  have h0 := hm p c
  simp only [Nat.add_zero, List.append_nil] at h0 ⊢
  rw [h0.same]
 ·obtain ⟨b, o, full, rfl, hg, hv⟩ := hat.resolve_left (by omega)
  exact A5B hd' hd hx hy hsz hm (Q3 hg hv) hl h1 h63 hb
variable {K : Po} {ops : Array Oper} {rest : List Oper} {pos : String} {af : Array Edge} {gd : Option (Nat × Bool)}
theorem A20 {H : List (Nat × Nat)} {fuel : Nat} {listed l' : List Bool} {j d : Nat} {cs : List Value} {x y : Operand} {t el : TypeId} {i : M5} {sz by' : Nat} {zs : List Value} [hI : I0 P t i] {ie : M5} [hEl : I0 P el ie] [hE : Z8 P el sz by' zs] {p q : Option Addr} {c n m c2 : Nat} {news : List Value} {hp' : Option Addr → Nat → List A4} {H' : List (Nat × Nat)}
  (hi : ops[j]? = some ⟨some d, .call ⟨.builtin .append, ⟨[x, y]⟩, ⟨[t, t]⟩⟩, ty, pos, af, gd⟩) (hd' : i.desc = .slice el)
  (hd : Nat.blt d Γ.n = true) (hx : evo env x = some (.slice p n c)) (hy : evo env y = some (.slice q m c2)) (hsz : Nat.blt 0 sz = true)
  (hm : ∀ p' c', Sw hp (.slc p c el sz n cs) (.slc p' c' el sz (n + m) (cs ++ news)) (hp' p' c'))
  (hS : Sl G q m c2 sz news) (h1 : ∀ u ∈ news, u.oneCell' = true) (hc : n ≤ c)
  (h63 : n + m ≤ maxLen) (hb : (n + m) * by' ≤ 140737488355328) (hw : N1 ops env gd = some true) (hl : listed.set j true = l')
  (hok : A5 ops j hp G (.slc p c el sz n cs) H H')
  (k : ∀ p' c', O1 P Γ ops K H' fuel l' ⟨(d, .slice p' (n + m) c') :: env, hp' p' c', G⟩) : W1 P Γ ops K H fuel listed j ⟨env, hp, G⟩ :=
 A2S hi (B2x hd' hd hx hy hsz hm hS h1 hc h63 hb) hw hl (fun _ _ hs => hok.spec hs) hok.filter (by rintro _ ⟨p', c', rfl⟩; exact k p' c')
theorem W4 {H H' : List (Nat × Nat)} {fuel : Nat} {listed l' : List Bool} {j d : Nat} {f : FuncId} [hF : B9 P f] {xs : List Operand} {ats : Array TypeId} {vs : List Value} {e : A4} {rst : List A4} {post : IM → Value → List A4 → Prop}
  (hi : ops[j]? = some ⟨some d, .call ⟨.value (.func f), ⟨xs⟩, ats⟩, ty, pos, af, gd⟩) (hx : evl env xs = some vs) (h : Fn P f vs [e] G post) (hp' : hp.Perm ([e] ++ rst)) (hw : N1 ops env gd = some true) (hd : Nat.blt d Γ.n = true) (hl : listed.set j true = l')
  (hok : A5 ops j hp G e H H')
  (k : ∀ v G' outs, B2 G G' → post G' v outs → O1 P Γ ops K H' fuel l' ⟨(d, v) :: env, outs ++ rst, G'⟩) : W1 P Γ ops K H fuel listed j ⟨env, hp, G⟩ :=
 A2S hi (A4g hx h hp' hd) hw hl (fun _ _ hs => by simpa [Fp] using hok.spec hs) hok.filter (by rintro _ ⟨v, G', outs, rfl, hle, hq⟩; exact k v G' outs hle hq)
end
section forget
variable {P : Program} {Γ : K0} {env : K3} {hp : List A4} {G : IM} {K : Po} {ops : Array Oper} {rest : List Oper} {ty : TypeId} {pos : String} {af : Array Edge} {gd : Option (Nat × Bool)}
end forget
def tAt : Tm → List Int → Option Tm
 | t, [] => some t
 | .mk _ _ _ _ _ _ ks, i :: is => if h : 0 ≤ i ∧ i < ks.length then tAt (ks[i.toNat]'(by omega)) is else none
def z9 : List Value := [.int .i64 0, .string ⟨⟨[]⟩⟩, .int .i64 0, .int .i64 0, .slice none 0 0, .int .i64 0, .slice none 0 0, .int .i64 0, .slice none 0 0]
def AtP (t : Tm) (path : List Int) (G : IM) : IM → Value → List A4 → Prop := fun G' v outs => G' = G ∧ outs = [] ∧
 ((∃ x cells, tAt t path = some x ∧ B5 G x cells ∧ v = .tuple ⟨[.agg ⟨cells⟩, .bool true]⟩) ∨ (tAt t path = none ∧ v = .tuple ⟨[.agg ⟨z9⟩, .bool false]⟩))
def K7 : Tm := .mk 0 ⟨⟨[]⟩⟩ 0 (.mk 0 []) (.mk 0 []) 0 []
theorem P0.zero (G : IM) : P0 G K7 z9 [] := by
 simp only [K7, P0, O4, N8, N9, z9]
 refine ⟨[.int .i64 0, .slice none 0 0], [.int .i64 0, .slice none 0 0], none, 0, [], [], [], [], rfl, ⟨by omega, by omega⟩, ⟨by omega, by omega⟩, ⟨by omega, by omega⟩, ?_, ?_, D5.nil _ _, ⟨rfl, rfl⟩, rfl, by simp [I8]⟩
 ·exact ⟨none, 0, [], [], rfl, ⟨by omega, by omega⟩, D5.nil _ _, ⟨rfl, rfl⟩, rfl, by simp [I8]⟩
 ·exact ⟨none, 0, [], [], rfl, ⟨by omega, by omega⟩, D5.nil _ _, ⟨rfl, rfl⟩, rfl, by simp [I8]⟩
def B6N (t : Tm) (path : List Int) : Tm × Bool := if R2 t = true then (match tAt t path with | some x => (x, true) | none => (K7, false)) else (K7, false)
def TbP (r : Tm × Bool) (G : IM) : IM → Value → List A4 → Prop := L7 fun G' v => ∃ cells F, v = .tuple ⟨[.agg ⟨cells⟩, .bool r.2]⟩ ∧ P0 (B6 G' G) r.1 cells F ∧ F.Nodup
section rlaws
variable {P : Program} {Γ : K0} {env : K3} {hp : List A4} {G : IM} {ty : TypeId}
theorem B2y {m n : Nat} (hm : m < 4611686018427387904) (hn : n < 4611686018427387904) : m ^^^ n < 4611686018427387904 := by
 have := @Nat.xor_lt_two_pow m n 62 (by omega) (by omega)
 simpa using this
theorem B2z {x y : Operand} {t t' : TypeId} {m n : Nat} (hx : evo env x = some (.int .i64 (m : Int))) (hy : evo env y = some (.int .i64 (n : Int))) (hm : m < 4611686018427387904) (hn : n < 4611686018427387904) :
  H5 P Γ ⟨env, hp, G⟩ (.binOp .xor t x y t') ty (.int .i64 ((m ^^^ n : Nat) : Int)) := by
 refine ⟨fun a _ hs _ _ _ _ w => ?_⟩
 have hlt := B2y hm hn
 have e : (BitVec.ofInt 64 (m : Int) ^^^ BitVec.ofInt 64 (n : Int)).toNat = m ^^^ n := by
  rw [BitVec.toNat_xor, BitVec.toNat_ofInt, BitVec.toNat_ofInt]
  congr 1 <;> omega
 have hw : IntKind.i64.wrap (((BitVec.ofInt 64 (m : Int) ^^^ BitVec.ofInt 64 (n : Int)).toNat : Nat) : Int) = ((m ^^^ n : Nat) : Int) := by
  rw [e]; exact A2n _ rfl (by omega) (by omega)
 simp only [execOp, eqGuard, binOp, Op.intBits, (hs.evo hx : a.eval x = _), (hs.evo hy : a.eval y = _), ne_eq, not_true_eq_false, if_false, Sem.run_bind, Sem.run_pure, Result.andThen_ok]
 rw [show IntKind.bits .i64 = 64 from rfl] at *
 simp only [hw]
 simp
theorem A2w {x y : Operand} {t t' : TypeId} {m n : Nat} (hx : evo env x = some (.int .i64 (m : Int))) (hy : evo env y = some (.int .i64 (n : Int))) (h : m * n ≤ 9223372036854775807) :
  H5 P Γ ⟨env, hp, G⟩ (.binOp .mul t x y t') ty (.int .i64 ((m * n : Nat) : Int)) := by
 have e : ((m : Int) * (n : Int)) = ((m * n : Nat) : Int) := by simp
 have h2 := A5p (P := P) (Γ := Γ) (hp := hp) (G := G) (ty := ty) (t := t) (t' := t') hx hy (by rw [e]; omega) (by rw [e]; omega)
 rwa [e] at h2
theorem K8 {x y : Operand} {t t' : TypeId} {m n : Nat} (hx : evo env x = some (.int .i64 (m : Int))) (hy : evo env y = some (.int .i64 (n : Int))) (h : m + n ≤ 9223372036854775807) :
  H5 P Γ ⟨env, hp, G⟩ (.binOp .add t x y t') ty (.int .i64 ((m + n : Nat) : Int)) := by
 have e : ((m : Int) + (n : Int)) = ((m + n : Nat) : Int) := by simp
 have h2 := N0 (P := P) (Γ := Γ) (hp := hp) (G := G) (ty := ty) (t := t) (t' := t') hx hy (by rw [e]; omega) (by rw [e]; omega)
 rwa [e] at h2
theorem T4 {x y : Operand} {t t' : TypeId} {m : Nat} (hx : evo env x = some (.int .i64 ((m + 1 : Nat) : Int))) (hy : evo env y = some (.int .i64 1)) (h : m ≤ 9223372036854775807) :
  H5 P Γ ⟨env, hp, G⟩ (.binOp .sub t x y t') ty (.int .i64 (m : Int)) := by
 have e : (((m + 1 : Nat) : Int) - 1) = (m : Int) := by omega
 have h2 := Q9 (P := P) (Γ := Γ) (hp := hp) (G := G) (ty := ty) (t := t) (t' := t') hx hy (by rw [e]; omega) (by rw [e]; omega)
 rwa [e] at h2
theorem A3H {s d : TypeId} {is id : M5} [hS : I0 P s is] [hD : I0 P d id] (hd : id.desc = .int .i64) {k : IntKind} (hs : is.desc = .int k) {x : Operand} {n : Int} (hx : evo env x = some (.int k n)) (h0 : -9223372036854775808 ≤ n) (h1 : n ≤ 9223372036854775807) :
  H5 P Γ ⟨env, hp, G⟩ (.convert s d x) ty (.int .i64 n) := by
 refine ⟨fun a _ hst _ _ _ _ w => ?_⟩
 have hu := hD.und
 rw [hd] at hu
 have hus := hS.und
 rw [hs] at hus
 have hw : IntKind.i64.wrap n = n := A2n n rfl h0 h1
 simp [execOp, convert, run_underlying hus, run_underlying hu, (hst.evo hx : a.eval x = _), Conv.intToInt, hw]
theorem B2A {x y : Operand} {t el : TypeId} {i : M5} {sz by' : Nat} {zs : List Value} [hI : I0 P t i] (hd' : i.desc = .slice el) [hE : Z8 P el sz by' zs] {p : Option Addr} {n c l : Nat}
  (hx : evo env x = some (.slice p n c)) (hy : evo env y = some (.int .i64 (l : Int))) (hl : l ≤ c) :
  H5 P Γ ⟨env, hp, G⟩ (.slice t x none (some y) none) ty (.slice p l c) := by
 refine ⟨fun a _ hs _ _ _ _ w => ?_⟩
 have hu := hI.und
 rw [hd'] at hu
 obtain ⟨d, hE⟩ := hE.ok
 obtain ⟨inf, z, t1, t2, t3, _⟩ := A3t (P := P) (t := el)
 have e1 : a.eval x = _ := hs.evo hx
 have e2 : a.eval y = _ := hs.evo hy
 have hb : ∀ code, (Instr.sliceBound (.int .i64 (l : Int)) c code).run P w = .ok l w := fun code => by
  unfold Instr.sliceBound
  simp only [asIntOf, Sem.run_bind, Sem.run_pure, Result.andThen_ok]
  rw [if_pos ⟨by omega, by omega⟩]
  simp
 simp only [execOp, Option.map, e1, e2, Instr.sliceAt, Sem.run_bind, run_underlying hu, Result.andThen_ok, Instr.slice, Instr.sliceBounds, Sem.run_pure, hb, t3]
 by_cases h : c = 0
 ·subst h; simp
 ·rw [if_neg h]; simp; cases p <;> simp [Addr.add]
end rlaws
def N2 (bs : List UInt8) : List Value := bs.map fun b => .int .u8 (b.toNat : Int)
theorem A8i (bs : List UInt8) : (N2 bs).length = bs.length := by simp [N2]
theorem A51 {bs : List UInt8} {i : Nat} {v : Value} (h : (N2 bs)[i]? = some v) : ∃ b : Nat, b < 256 ∧ v = .int .u8 (b : Int) := by
 unfold N2 at h
 rw [List.getElem?_map] at h
 cases hb : bs[i]? with
 | none => rw [hb] at h; simp at h
 | some b => rw [hb] at h; simp at h; exact ⟨b.toNat, b.toNat_lt, h.symm⟩
def rd (br : Nat) (pb : Option Addr) (nb cb p : Nat) : A4 := .blk br [.slice pb nb cb, .int .i64 (p : Int)]
def X4 (br : Nat) (pb : Option Addr) (nb cb p B : Nat) (Φ : IM → Value → Prop) : IM → Value → List A4 → Prop := fun G' v outs => ∃ p', p ≤ p' ∧ p' ≤ p + B ∧ outs = [rd br pb nb cb p'] ∧ Φ G' v
theorem S0 (G : IM) (br : Nat) (pb : Option Addr) (nb cb p : Nat) (bs : List UInt8) (n : Int) (hb : Sl G pb nb cb 1 (N2 bs)) (hnb : nb ≤ 2000) (hp : p < 1099511627776) :
  Fn Tryz.prog 59 [.pointer (some ⟨br, 0, none⟩), .int .i64 n] [rd br pb nb cb p] G (fun G' v outs => G' = G ∧ outs = [rd br pb nb cb (p + 1)] ∧ ∃ k, v = .int .i64 k ∧ 0 ≤ k ∧ (1 ≤ n → k < n)) := by
 unfold rd
 have hm1 : ∀ q, 0 < nb → q % nb < nb := fun q h => Nat.mod_lt _ h
 have hdv : p / nb ≤ p := Nat.div_le_self _ _
 refine B8 Tryz.func59 rfl Tryz.ntmps59 Tryz.results59 rfl ?_
 intro w0
 refine C7 ?_
 refine sQ (C1 rfl) rfl ?_
 refine sQ (A9 rfl) rfl (sL (C2 rfl rfl) rfl rfl ?_)
 refine sP (K8 (n := 1) rfl rfl (by omega)) rfl rfl ?_
 refine sQ (C1 rfl) rfl ?_
 refine F8 ?_
 refine sB (L9 rfl rfl) rfl rfl (fun h23 => ?_) (fun h23 => ?_)
 refine A0i ?_
 refine C4 (rT rfl) A0.refl ?_
 exact ⟨rfl, rfl, 0, rfl, Int.le_refl _, fun h => by omega⟩
 refine sQ (qM rfl) rfl (sQ (qM rfl) rfl ?_)
 refine sQ (C1 rfl) rfl ?_
 refine H0 ?_
 refine sB (qE rfl rfl) rfl rfl (fun h50 => ?_) (fun h50 => ?_)
 refine I6 ?_
 refine C4 (rT rfl) A0.refl ?_
 exact ⟨rfl, rfl, 0, rfl, Int.le_refl _, fun h => by omega⟩
 refine C7 ?_
 refine sQ (C1 rfl) rfl ?_
 refine sQ (A9 rfl) rfl (sL (C2 rfl rfl) rfl rfl ?_)
 refine sP (T4 rfl rfl (by omega)) rfl rfl ?_
 refine F8 ?_
 refine sQ (C1 rfl) rfl ?_
 refine H0 ?_
 refine sB (L9 rfl rfl) rfl rfl (fun h89 => ?_) (fun h89 => ?_)
 refine sD (nS (qT rfl (tS (tR (sQ (qM rfl) rfl ?_)))))
 refine sQ (C1 rfl) rfl ?_
 refine H0 ?_
 (obtain ⟨b, o, v, rfl, hv, hat, hgb⟩ := hb.kid (i := p) (by omega); obtain ⟨y, hy, rfl⟩ := A51 hv; refine sP (D0 rfl rfl rfl (by omega)) rfl rfl ?_)
 refine sL (M7 rfl rfl (hat _)) rfl rfl ?_
 refine sP (A3H rfl rfl rfl (by omega) (by omega)) rfl rfl ?_
 refine sQ (qM rfl) rfl ?_
 refine sP (A5q rfl rfl (by omega)) rfl rfl ?_
 refine sQ (qA rfl) rfl (sD (nS (tT (rS ?_))))
 refine C4 (rT rfl) A0.refl ?_
 exact ⟨rfl, rfl, _, rfl, Int.tmod_nonneg _ (by omega), fun h => Int.tmod_lt_of_pos _ (by omega)⟩
 refine sD (nS (cF rfl (tK (nS (tS ?_)))))
 (obtain ⟨b, o, v1, rfl, hv1, hat1, _⟩ := hb.kid (i := HMod.hMod p nb) (hm1 _ (by omega)); obtain ⟨y1, hy1, rfl⟩ := A51 hv1; obtain ⟨b', o', v2, hbb, hv2, hat2, _⟩ := hb.kid (i := HMod.hMod (p * 7 + 3) nb) (hm1 _ (by omega)); obtain ⟨y2, hy2, rfl⟩ := A51 hv2; cases hbb; have hl1 := hm1 p (by omega); have hl2 := hm1 (p * 7 + 3) (by omega); refine D3 D4 rfl ?_)
 refine E8 (i := 0) (l' := [tt,ff,ff,ff,ff,ff,ff,ff,ff,ff,ff,ff,ff,ff,ff,ff,ff,ff,ff,ff,ff,ff,ff,ff,ff,ff,ff,ff,ff,ff,ff,ff,ff,ff,ff,ff,ff,ff,ff,ff,ff,ff,ff,ff,ff,ff]) rfl C5 (qM rfl) rfl (by kernel_rfl) rfl rfl ?_
 refine aP 1 rfl (C1 rfl) rfl ?_
 refine aP 2 rfl (A9 rfl) rfl ?_
 refine aL 3 rfl (C2 rfl rfl) rfl ?_
 refine aP 4 rfl (qM rfl) rfl ?_
 refine aP 5 rfl (qM rfl) rfl ?_
 refine aP 6 rfl (C1 rfl) rfl ?_
 refine aP 7 rfl (A9 rfl) rfl ?_
 refine aL 8 rfl (C2 rfl rfl) rfl ?_
 refine aP 9 rfl (pLn rfl rfl) rfl ?_
 refine aP 10 rfl (A5H rfl rfl (by omega)) rfl ?_
 refine aP 11 rfl (D0 rfl rfl rfl (by first | exact hl1 | exact hl2)) rfl ?_
 refine aL 12 rfl (M7 rfl rfl (hat1 _)) rfl ?_
 refine aP 13 rfl (A3H rfl rfl rfl (by omega) (by omega)) rfl ?_
 refine aP 14 rfl (A2w (n := 131) rfl rfl (by omega)) rfl ?_
 refine aP 15 rfl (qM rfl) rfl ?_
 refine aP 16 rfl (C1 rfl) rfl ?_
 refine aP 17 rfl (A9 rfl) rfl ?_
 refine aL 18 rfl (C2 rfl rfl) rfl ?_
 refine aP 19 rfl (qM rfl) rfl ?_
 refine aP 20 rfl (A2w (n := 7) rfl rfl (by omega)) rfl ?_
 refine aP 21 rfl (K8 (n := 3) rfl rfl (by omega)) rfl ?_
 refine aP 22 rfl (qM rfl) rfl ?_
 refine aP 23 rfl (C1 rfl) rfl ?_
 refine aP 24 rfl (A9 rfl) rfl ?_
 refine aL 25 rfl (C2 rfl rfl) rfl ?_
 refine aP 26 rfl (pLn rfl rfl) rfl ?_
 refine aP 27 rfl (A5H rfl rfl (by omega)) rfl ?_
 refine aP 28 rfl (D0 rfl rfl rfl (by first | exact hl1 | exact hl2)) rfl ?_
 refine aL 29 rfl (M7 rfl rfl (hat2 _)) rfl ?_
 refine aP 30 rfl (A3H rfl rfl rfl (by omega) (by omega)) rfl ?_
 refine aP 31 rfl (A2w (n := 1117) rfl rfl (by omega)) rfl ?_
 refine aP 32 rfl (K8 rfl rfl (by omega)) rfl ?_
 refine aP 33 rfl (qM rfl) rfl ?_
 refine aP 34 rfl (A2w (n := 29) rfl rfl (by omega)) rfl ?_
 refine aP 35 rfl (K8 rfl rfl (by omega)) rfl ?_
 refine aP 36 rfl (qM rfl) rfl ?_
 refine aP 37 rfl (qM rfl) rfl ?_
 refine aP 38 rfl (C1 rfl) rfl ?_
 refine aP 39 rfl (A9 rfl) rfl ?_
 refine aL 40 rfl (C2 rfl rfl) rfl ?_
 refine aP 41 rfl (pLn rfl rfl) rfl ?_
 refine aP 42 rfl (A5I rfl rfl (by omega) (by omega)) rfl ?_
 refine aP 43 rfl (A2w (n := 53) rfl rfl (by omega)) rfl ?_
 refine aP 44 rfl (K8 rfl rfl (by omega)) rfl ?_
 refine aP 45 rfl (qA rfl) rfl ?_
 refine D8 (nS (tS (tR (sQ (qM rfl) rfl (sQ (qM rfl) rfl ?_)))))
 refine sP (A5I (n := 64) rfl rfl (by omega) (by omega)) rfl rfl ?_
 refine sP (B2z rfl rfl (by omega) (by omega)) rfl rfl ?_
 refine B7 ?_
 refine sP (A5q rfl rfl (by omega)) rfl rfl ?_
 refine sQ (qA rfl) rfl (sD (nS (tT ?_)))
 refine C4 (rT rfl) A0.refl ?_
 exact ⟨rfl, rfl, _, rfl, Int.tmod_nonneg _ (by omega), fun h => Int.tmod_lt_of_pos _ (by omega)⟩
structure A4A {ι : Type} (S : ι → Sy) (φ : ι → Prop) (e : Exit) (σ : Sy) : Prop where
 run : match e with
  | .normal => ∃ i, φ i ∧ Sub σ (S i)
  | _ => False
section cut
variable {P : Program} {Γ : K0} {K : Po} {σ : Sy} {ι : Type}
theorem A0b {c y : Code} (S : ι → Sy) (φ : ι → Prop) (h : I9 P Γ c (A4A S φ) σ) (k : ∀ i, φ i → I9 P Γ y K (S i)) : I9 P Γ c (A0Z P Γ y K) σ := by
 refine tri_post h ?_
 rintro e σ ⟨hk⟩
 cases e with
 | normal => obtain ⟨i, hi, hs⟩ := hk; exact ⟨A69 hs (k i hi)⟩
 | _ => exact hk.elim
where
 tri_post {c : Code} {K K' : Po} {σ : Sy} (h : I9 P Γ c K σ) (hk : ∀ e σ, K e σ → K' e σ) : I9 P Γ c K' σ := A5l h hk
theorem P1 {S : ι → Sy} {φ : ι → Prop} {σ : Sy} (i : ι) (hs : Sub σ (S i)) (h : φ i) : A4A S φ .normal σ := ⟨⟨i, h, hs⟩⟩
theorem B2B {S : ι → Sy} {φ : ι → Prop} : Z7 (A4A S φ) := fun _ _ h => h.run
instance npC5 {S : ι → Sy} {φ : ι → Prop} : NpC (A4A S φ) := ⟨B2B⟩
end cut
section take
variable {P : Program} {Γ : K0} {env : K3} {hp : List A4} {G : IM} {K : Po} {ops : Array Oper} {rest : List Oper} {ty : TypeId} {pos : String} {af : Array Edge} {gd : Option (Nat × Bool)}
theorem C0 {d : Nat} {f : FuncId} [hF : B9 P f] {xs : List Operand} {ats : Array TypeId} {vs : List Value} {ins rst : List A4} {post : IM → Value → List A4 → Prop}
  (hx : evl env xs = some vs) (h : Fn P f vs ins G post) (hp' : hp.Perm (ins ++ rst)) (hw : N1 ops env gd = some true) (hd : Nat.blt d Γ.n = true)
  (k : ∀ v G' outs, B2 G G' → post G' v outs → I3 P Γ ops rest K ⟨(d, v) :: env, outs ++ rst, G'⟩) : I3 P Γ ops (⟨some d, .call ⟨.value (.func f), ⟨xs⟩, ats⟩, ty, pos, af, gd⟩ :: rest) K ⟨env, hp, G⟩ :=
 D7 (A4g hx h hp' hd) hw (by rintro _ ⟨v, G', outs, rfl, hle, hq⟩; exact k v G' outs hle hq)
end take
theorem Z3 (G : IM) (br : Nat) (pb : Option Addr) (nb cb p : Nat) (bs : List UInt8) (q : Option Addr) (n c : Nat) (xs : List Value) (hb : Sl G pb nb cb 1 (N2 bs)) (hnb : nb ≤ 2000) (hp : p < 1099511627776) (hx : Sl G q n c 1 xs) (hn : 0 < n) :
  Fn Tryz.prog 99 [.pointer (some ⟨br, 0, none⟩), .slice q n c] [rd br pb nb cb p] G (fun G' v outs => G' = G ∧ outs = [rd br pb nb cb (p + 1)] ∧ v ∈ xs) := by
 refine B8 Tryz.func99 rfl Tryz.ntmps99 Tryz.results99 rfl ?_
 intro w0
 refine I6 ?_
 (refine C0 rfl (S0 G br pb nb cb p bs (n : Int) hb hnb hp) (List.Perm.refl _) rfl rfl (fun v G1 outs hle1 hh => ?_); obtain ⟨rfl, rfl, k, rfl, hk0, hkn⟩ := hh; obtain ⟨j, rfl⟩ := Int.eq_ofNat_of_zero_le hk0)
 (obtain ⟨b, o, v, rfl, hv, hat, _⟩ := hx.kid (i := j) (by omega); refine sP (D0 rfl rfl rfl (by omega)) rfl rfl ?_)
 refine sL (M7 rfl rfl (hat _)) rfl rfl ?_
 refine sQ (qA rfl) rfl (sD (nS (tT ?_)))
 refine C4 (rT rfl) A0.refl ?_
 exact ⟨rfl, rfl, List.mem_of_getElem? hv⟩
theorem A4B (G : IM) (br : Nat) (pb : Option Addr) (nb cb p : Nat) (bs : List UInt8) (q : Option Addr) (n c : Nat) (xs : List Value) (hb : Sl G pb nb cb 1 (N2 bs)) (hnb : nb ≤ 2000) (hp : p < 1099511627776) (hx : Sl G q n c 1 xs) (hn : 0 < n) :
  Fn Tryz.prog 96 [.pointer (some ⟨br, 0, none⟩), .slice q n c] [rd br pb nb cb p] G (fun G' v outs => G' = G ∧ outs = [rd br pb nb cb (p + 1)] ∧ v ∈ xs) := by
 refine B8 Tryz.func96 rfl Tryz.ntmps96 Tryz.results96 rfl ?_
 intro w0
 refine I6 ?_
 (refine C0 rfl (S0 G br pb nb cb p bs (n : Int) hb hnb hp) (List.Perm.refl _) rfl rfl (fun v G1 outs hle1 hh => ?_); obtain ⟨rfl, rfl, k, rfl, hk0, hkn⟩ := hh; obtain ⟨j, rfl⟩ := Int.eq_ofNat_of_zero_le hk0)
 (obtain ⟨b, o, v, rfl, hv, hat, _⟩ := hx.kid (i := j) (by omega); refine sP (D0 rfl rfl rfl (by omega)) rfl rfl ?_)
 refine sL (M7 rfl rfl (hat _)) rfl rfl ?_
 refine sQ (qA rfl) rfl (sD (nS (tT ?_)))
 refine C4 (rT rfl) A0.refl ?_
 exact ⟨rfl, rfl, List.mem_of_getElem? hv⟩
theorem A09 (G : IM) : Fn Tryz.prog 116 [] [] G (L6 (.agg ⟨[.int .i64 1, .slice none 0 0]⟩) G) := by
 refine B8 Tryz.func116 rfl Tryz.ntmps116 Tryz.results116 rfl ?_
 intro w0
 refine tS (tR ?_)
 refine sE (A8 rfl) rfl (fun b3 => ?_)
 refine C7 ?_
 refine E9 (rC rfl (A2 rfl rfl)) ?_
 exact ⟨rfl, rfl, rfl⟩
def dB : Nat → Nat
 | 0 => 0
 | d + 1 => 2 * dB d + 2
theorem A8j {d : Nat} (h : d ≤ 3) : dB (d + 1) ≤ 30 := by
 have : d = 0 ∨ d = 1 ∨ d = 2 ∨ d = 3 := by omega
 rcases this with rfl | rfl | rfl | rfl <;> decide
theorem A8k (k : Int) : Q5 k ≤ 2 := by
 unfold Q5; split <;> try split
 all_goals omega
theorem A1Y : ∀ (ts : List Ty) (t : Ty), K1 (ts ++ [t]) = K1 ts + F4 t
 | [], t => by simp [K1]
 | a :: ts, t => by simp only [List.cons_append, K1, A1Y ts t]; omega
theorem E1.ty {G : IM} {k : Int} {ts : List Ty} {es : List (List Value)} {p : Option Addr} {n c : Nat} (h : E1 G ts es) (hn : ts.length = n) (hs : Sl G p n c 2 es.flatten) (hk : H4 k) : B3 G (.mk k ts) [.int .i64 k, .slice p n c] := by
 subst hn
 simp only [B3]
 exact ⟨p, c, es, rfl, hk, D5.of hs h.len h.all (fun e he => (h.each e he).2), h⟩
theorem A3I (br : Nat) (pb : Option Addr) (nb cb : Nat) (bs : List UInt8) (hnb : nb ≤ 2000) : ∀ (d p : Nat) (G : IM), d ≤ 1000 → Sl G pb nb cb 1 (N2 bs) → p + dB (d + 1) < 1099511627776 →
  Fn Tryz.prog 111 [.pointer (some ⟨br, 0, none⟩), .int .i64 ((d + 1 : Nat) : Int)] [rd br pb nb cb p] G
   (X4 br pb nb cb p (dB (d + 1)) (fun G' v => ∃ t cells, v = .agg ⟨cells⟩ ∧ B3 G' t cells ∧ F4 t ≤ ((dB (d + 1) : Nat) : Int) ∧ Q2 d t)) := by
 refine fun d => Nat.strongRecOn d fun d ih p G hd hb hp => ?_
 rw [dB] at hp ⊢
 refine B8 Tryz.func111 rfl Tryz.ntmps111 Tryz.results111 rfl ?_
 intro w0
 refine tS (tR ?_)
 refine sE (A8 rfl) rfl (fun b3 => ?_)
 refine sD (nS (tS (tR (sQ (qM rfl) rfl ?_))))
 (refine D7 (D1 rfl rfl rfl (by omega) (by unfold maxLen; omega) rfl) rfl ?_; rintro _ ⟨b9, rfl⟩)
 (refine P2 (by repeat (first | exact Pk.here | apply Pk.there)) (fun G1 hle1 hsl1 _ => ?_); refine C0 rfl (Z3 G1 br pb nb cb p bs _ _ _ _ (hb.mono hle1) hnb (by omega) hsl1 (by decide)) (Pk.perm (by repeat (first | exact Pk.here | apply Pk.there))) rfl rfl (fun v G2 outs hle2 hh => ?_); obtain ⟨rfl, rfl, hv⟩ := hh; replace hb := hb.mono hle1; obtain ⟨k, rfl, hk1⟩ : ∃ k, v = .int .i64 k ∧ 1 ≤ k ∧ k ≤ 5 := (by simp only [List.mem_cons, List.not_mem_nil, or_false] at hv; rcases hv with rfl | rfl | rfl | rfl | rfl | rfl | rfl <;> exact ⟨_, rfl, by decide, by decide⟩))
 refine sQ (qA rfl) rfl (sD (nS (tS (tS ?_))))
 (have hv' := hv; refine A0b (fun (x : Bool) => ⟨(16, .bool x) :: [(5, .int .i64 k), (4, .pointer (some ⟨b3, 0, none⟩)), (0, .pointer (some ⟨br, 0, none⟩)), (1, .int .i64 ((d + 1 : Nat) : Int))], [rd br pb nb cb (p + 1), .blk b3 [.int .i64 0, .slice none 0 0]], G2⟩) (fun x => x = false → d = 0 → k < 4) ?_ ?_)
 refine tR (sQ (qM rfl) rfl ?_)
 refine sB (L9 rfl rfl) rfl rfl (fun h19 => ?_) (fun h19 => ?_)
 refine sQ (qM rfl) rfl (sQ (qM rfl) rfl ?_)
 refine sB (S4 rfl rfl) rfl rfl (fun h22 => ?_) (fun h22 => ?_)
 refine sQ (J8 rfl rfl) rfl (sD ?_)
 refine P1 true (N7 (by repeat (first | exact E6.nil | refine E6.cons rfl ?_)) (by repeat (first | exact A0.refl | exact A0.nil | refine A0.cons (by repeat (first | exact Pk.here | apply Pk.there)) ?_ | apply A0.drop))) ?_
 (show _ = false → d = 0 → k < 4; intro hf h0; first | exact absurd hf (by decide) | omega)
 refine sQ (J8 rfl rfl) rfl (sD ?_)
 refine P1 false (N7 (by repeat (first | exact E6.nil | refine E6.cons rfl ?_)) (by repeat (first | exact A0.refl | exact A0.nil | refine A0.cons (by repeat (first | exact Pk.here | apply Pk.there)) ?_ | apply A0.drop))) ?_
 (show _ = false → d = 0 → k < 4; intro hf h0; first | exact absurd hf (by decide) | omega)
 refine S6 ?_
 refine P1 false (N7 (by repeat (first | exact E6.nil | refine E6.cons rfl ?_)) (by repeat (first | exact A0.refl | exact A0.nil | refine A0.cons (by repeat (first | exact Pk.here | apply Pk.there)) ?_ | apply A0.drop))) ?_
 (show _ = false → d = 0 → k < 4; intro hf h0; first | exact absurd hf (by decide) | omega)
 (rintro x hx; clear hv)
 (show I9 _ _ (.cond (.tmp 16) _ _) _ _; refine A0b (fun (x : Int) => ⟨[(5, .int .i64 x), (4, .pointer (some ⟨b3, 0, none⟩)), (0, .pointer (some ⟨br, 0, none⟩)), (1, .int .i64 ((d + 1 : Nat) : Int))], [rd br pb nb cb (p + 1), .blk b3 [.int .i64 0, .slice none 0 0]], G2⟩) (fun x => 1 ≤ x ∧ x ≤ 5 ∧ (d = 0 → x < 4)) (A2m rfl (fun hxt => ?_) (fun hxf => ?_)) ?_)
 refine tR (sQ (qA rfl) rfl (sD ?_))
 refine P1 1 (N7 (by repeat (first | exact E6.nil | refine E6.cons rfl ?_)) (by repeat (first | exact A0.refl | exact A0.nil | refine A0.cons (by repeat (first | exact Pk.here | apply Pk.there)) ?_ | apply A0.drop))) ?_
 (first | exact ⟨by omega, by omega, by omega⟩ | exact ⟨by omega, by omega, fun h0 => by have := hx hxf h0; omega⟩)
 refine tK ?_
 refine P1 k (N7 (by repeat (first | exact E6.nil | refine E6.cons rfl ?_)) (by repeat (first | exact A0.refl | exact A0.nil | refine A0.cons (by repeat (first | exact Pk.here | apply Pk.there)) ?_ | apply A0.drop))) ?_
 (first | exact ⟨by omega, by omega, by omega⟩ | exact ⟨by omega, by omega, fun h0 => by have := hx hxf h0; omega⟩)
 (rintro kk ⟨hk2, hk3, hk4⟩; have hop := A8k kk; have hk5 := (N5 kk).1; have hk6 := (N5 kk).2.1; have hK := A5P kk)
 refine tS (tR (sQ (qM rfl) rfl (sQ (P6 rfl rfl) rfl ?_)))
 refine sE (A8 rfl) rfl (fun b53 => ?_)
 refine H2 ?_
 refine sD (nS (tS (tS (tR (sQ (qA rfl) rfl (sD (nS ?_)))))))
 refine C6 ?_
 (refine A0B 25 2 ?_; refine N4 (fun (x : Nat × Option Addr × Nat × List Ty × List (List Value) × Nat × IM) => ⟨[(7, .int .i64 x.1), (5, .int .i64 kk), (6, .pointer (some ⟨b53, 0, none⟩)), (4, .pointer (some ⟨b3, 0, none⟩)), (0, .pointer (some ⟨br, 0, none⟩)), (1, .int .i64 ((d + 1 : Nat) : Int))], [.blk b53 [.int .i64 kk, .slice x.2.1 x.1 x.2.2.1], .slc x.2.1 x.2.2.1 25 2 x.1 x.2.2.2.2.1.flatten, rd br pb nb cb x.2.2.2.2.2.1, .blk b3 [.int .i64 0, .slice none 0 0]], x.2.2.2.2.2.2⟩) (fun x => (∀ u ∈ x.2.2.2.1, Q2 (d - 1) u) ∧ (x.1 : Int) ≤ Q5 kk ∧ B2 G2 x.2.2.2.2.2.2 ∧ x.2.2.2.1.length = x.1 ∧ E1 x.2.2.2.2.2.2 x.2.2.2.1 x.2.2.2.2.1 ∧ K1 x.2.2.2.1 ≤ ((x.1 * dB d : Nat) : Int) ∧ p + 1 ≤ x.2.2.2.2.2.1 ∧ x.2.2.2.2.2.1 ≤ p + 1 + x.1 * dB d) (fun x => (Q5 kk).toNat - x.1) (0, none, 0, [], [], p + 1, G2) ?_ ?_ ?_)
 (simp only [J9]; exact E0)
 (exact ⟨by simp, by dsimp only; omega, B2.refl _, rfl, by simp [E1], by simp [K1], by dsimp only; omega, by dsimp only; omega⟩)
 (rintro ⟨i, pn, cn, ts, es', p', Gi⟩ ⟨hah, hi, hle, hlt, hst, hsum, hq1, hq2⟩; simp only [] at hah hi hle hlt hst hsum hq1 hq2 ⊢; have hid : i * dB d ≤ 2 * dB d := Nat.mul_le_mul_right _ (by omega))
 refine tS (tS (tR (sQ (qM rfl) rfl (sQ (qM rfl) rfl ?_))))
 refine H7 rfl ((hK _)) rfl rfl ?_
 refine sB (L9 rfl rfl) rfl rfl (fun h74 => ?_) (fun h74 => ?_)
 refine sD (nS (qT rfl (tK (nS (tS ?_)))))
 refine C6 ?_
 (obtain ⟨d', rfl⟩ : ∃ d', d = d' + 1 := ⟨d - 1, by omega⟩; have hih := ih d' (by omega) p' Gi (by omega) (hb.mono hle) (by have := Nat.mul_le_mul_right (dB (d' + 1)) (show i + 1 ≤ 2 by omega); rw [Nat.succ_mul] at this; omega); refine D3 D4 rfl ?_)
 refine E8 (i := 0) (l' := [tt,ff,ff,ff,ff,ff,ff,ff,ff,ff]) rfl C5 (A9 rfl) rfl (by kernel_rfl) rfl rfl ?_
 refine aL 1 rfl (C2 rfl rfl) rfl ?_
 refine aP 2 rfl (qM rfl) rfl ?_
 refine aP 3 rfl (qM rfl) rfl ?_
 refine aP 4 rfl (T4 rfl rfl (by omega)) rfl ?_
 refine A1 5 ?_
 (refine W4 (l' := [tt,tt,tt,tt,tt,tt,ff,ff,ff,ff]) rfl rfl hih (Pk.perm (by repeat (first | exact Pk.here | apply Pk.there))) rfl rfl rfl (by repeat (first | exact A5.nil | apply A5.dep (by decide +kernel) | apply A5.blk (by decide +kernel) (by repeat (first | exact Pk.here | apply Pk.there)) (by repeat first | exact mH | apply mT))) (fun v G3 outs hle3 hh => ?_); obtain ⟨p3, hp31, hp32, rfl, t3, cells3, rfl, hr3, hs3, ha3⟩ := hh; obtain ⟨q3, c3, es3, rfl, _⟩ := hr3.open)
 refine A1 6 ?_
 (refine I7 rfl (D1 rfl rfl rfl (by omega) (by unfold maxLen; omega) rfl) rfl rfl ?_; rintro _ ⟨b91, rfl⟩)
 refine A1 7 ?_
 refine W2 rfl rfl rfl rfl rfl rfl (fun _ _ => by repeat (first | exact Sw.here | apply Sw.there)) (R0 (by repeat first | exact mH | apply mT)) rfl (by simp [Value.oneCell']) (by unfold maxLen; omega) (by omega) rfl rfl (by repeat (first | exact A5.nil | apply A5.dep (by decide +kernel) | apply A5.blk (by decide +kernel) (by repeat (first | exact Pk.here | apply Pk.there)) (by repeat first | exact mH | apply mT))) (fun pn' cn' => ?_)
 refine aP 8 rfl (A9 rfl) rfl ?_
 refine A1 9 ?_
 refine K6 rfl rfl rfl rfl rfl rfl rfl rfl (by kernel_rfl) (by repeat first | exact Sw.here | apply Sw.there) (by rfl) ?_
 refine D8 (O3 (nS (tR (sQ (qM rfl) rfl ?_))))
 refine sP (N0 rfl rfl (by omega) (by omega)) rfl rfl ?_
 refine sQ (qA rfl) rfl (sD ?_)
 refine K5 (i + 1, pn', cn', ts ++ [t3], es' ++ [[.int .i64 t3.k, .slice q3 t3.ks.length c3]], p3, G3) ?_ ?_ ?_
 (simp only [J9]; exact E0)
 (dsimp only; have e1 : (i + 1) * dB (d' + 1) = i * dB (d' + 1) + dB (d' + 1) := Nat.succ_mul _ _; have e2 := A1Y ts t3; exact ⟨by simp only [List.forall_mem_append, List.forall_mem_singleton]; exact ⟨hah, ha3⟩, by omega, hle.trans hle3, by simp [hlt], E1.snoc (hst.mono hle3) hr3, by omega, by omega, by omega⟩)
 (show (Q5 kk).toNat - (i + 1) < (Q5 kk).toNat - i; omega)
 refine O8 ?_
 (refine L4 (by repeat (first | exact Pk.here | apply Pk.there)) (fun G5 hle5 hsl5 hno5 => ?_))
 refine tT ?_
 refine C4 (outs := [rd br pb nb cb p']) (rC rfl (A2 rfl rfl)) (by repeat (first | exact A0.nil | refine A0.cons Pk.here ?_ | refine A0.cons (Pk.there Pk.here) ?_ | apply A0.drop)) ?_
 (refine ⟨p', by omega, by omega, rfl, .mk kk ts, _, rfl, (hst.mono hle5).ty hlt hsl5 ⟨by omega, by omega⟩, ?_, A8d hk4 (by omega) hk2 hk3 hah⟩; rw [F4]; omega)
theorem A8l (br : Nat) (pb : Option Addr) (nb cb : Nat) (bs : List UInt8) (hnb : nb ≤ 2000) (d p : Nat) (G : IM) (hd : d ≤ 1000) (hb : Sl G pb nb cb 1 (N2 bs)) (hp : p + dB (d + 1) < 1099511627776) :
  Fn Tryz.prog 111 [.pointer (some ⟨br, 0, none⟩), .int .i64 ((d + 1 : Nat) : Int)] [rd br pb nb cb p] G
   (X4 br pb nb cb p (dB (d + 1)) (fun G' v => ∃ t cells, v = .agg ⟨cells⟩ ∧ B3 G' t cells ∧ F4 t ≤ ((dB (d + 1) : Nat) : Int))) :=
 (A3I br pb nb cb bs hnb d p G hd hb hp).mono fun G' v outs _ ⟨p', h1, h2, h3, t, cells, h4, h5, h6, _⟩ => ⟨p', h1, h2, h3, t, cells, h4, h5, h6⟩
theorem A8m (br : Nat) (pb : Option Addr) (nb cb : Nat) (bs : List UInt8) (hnb : nb ≤ 2000) (p : Nat) (G : IM) (hb : Sl G pb nb cb 1 (N2 bs)) (hp : p + 31 < 1099511627776) :
  Fn Tryz.prog 115 [.pointer (some ⟨br, 0, none⟩)] [rd br pb nb cb p] G
   (X4 br pb nb cb p 31 (fun G' v => ∃ t cells, v = .agg ⟨cells⟩ ∧ B3 G' t cells ∧ F4 t ≤ 30 ∧ Q2 3 t)) := by
 refine B8 Tryz.func115 rfl Tryz.ntmps115 Tryz.results115 rfl ?_
 intro w0
 refine tS (tR ?_)
 refine sE (A8 rfl) rfl (fun b3 => ?_)
 refine sD (nS (tS (tR (sQ (qM rfl) rfl (sQ (qM rfl) rfl ?_)))))
 (refine D7 (D1 rfl rfl rfl (by omega) (by unfold maxLen; omega) rfl) rfl ?_; rintro _ ⟨b10, rfl⟩)
 (refine P2 (by repeat (first | exact Pk.here | apply Pk.there)) (fun G1 hle1 hsl1 _ => ?_); refine C0 rfl (Z3 G1 br pb nb cb p bs _ _ _ _ (hb.mono hle1) hnb (by omega) hsl1 (by decide)) (Pk.perm (by repeat (first | exact Pk.here | apply Pk.there))) rfl rfl (fun v G2 outs hle2 hh => ?_); obtain ⟨rfl, rfl, hv⟩ := hh; replace hb := hb.mono hle1; obtain ⟨d, rfl, hd⟩ : ∃ d : Nat, v = .int .i64 ((d + 1 : Nat) : Int) ∧ d ≤ 3 := (by simp only [List.mem_cons, List.not_mem_nil, or_false] at hv; rcases hv with rfl | rfl | rfl | rfl | rfl <;> first | exact ⟨0, rfl, by decide⟩ | exact ⟨1, rfl, by decide⟩ | exact ⟨2, rfl, by decide⟩ | exact ⟨3, rfl, by decide⟩))
 (have hdB := A8j hd; refine C0 rfl (A3I br pb nb cb bs hnb d (p + 1) G2 (by omega) hb (by omega)) (Pk.perm (by repeat (first | exact Pk.here | apply Pk.there))) rfl rfl (fun v G3 outs hle3 hh => ?_); obtain ⟨p3, hp31, hp32, rfl, t3, cells3, rfl, hr3, hs3, ha3⟩ := hh; obtain ⟨q3, c3, es3, rfl, _⟩ := hr3.open)
 refine H2 ?_
 refine sD (nS (tT ?_))
 refine C4 (outs := [rd br pb nb cb p3]) (rC rfl (A2 rfl rfl)) (by repeat (first | exact A0.nil | refine A0.cons Pk.here ?_ | refine A0.cons (Pk.there Pk.here) ?_ | apply A0.drop)) ?_
 exact ⟨p3, by omega, by omega, rfl, t3, _, rfl, hr3, by omega, ha3.le hd⟩
theorem A8n (br : Nat) (pb : Option Addr) (nb cb : Nat) (bs : List UInt8) (hnb : nb ≤ 2000) (p : Nat) (G : IM) (hb : Sl G pb nb cb 1 (N2 bs)) (hp : p + 31 < 1099511627776) :
  Fn Tryz.prog 115 [.pointer (some ⟨br, 0, none⟩)] [rd br pb nb cb p] G
   (X4 br pb nb cb p 31 (fun G' v => ∃ t cells, v = .agg ⟨cells⟩ ∧ B3 G' t cells ∧ F4 t ≤ 30)) :=
 (A8m br pb nb cb bs hnb p G hb hp).mono fun G' v outs _ ⟨p', h1, h2, h3, t, cells, h4, h5, h6, _⟩ => ⟨p', h1, h2, h3, t, cells, h4, h5, h6⟩
theorem B2C (k : Int) (ks : List Ty) (G : IM) (p : Option Addr) (c : Nat) (hts : (Ty.mk k ks).small) (hr : B3 G (.mk k ks) [.int .i64 k, .slice p ks.length c]) : Fn Tryz.prog 170 [.agg ⟨[.int .i64 k, .slice p ks.length c]⟩] [] G
  (fun G' v outs => ∃ p c es, v = .agg ⟨[.int .i64 k, .slice p ks.length c]⟩ ∧ outs = [.slc p c 25 2 ks.length es.flatten] ∧ E1 G' ks es) := by
 simp only [Ty.small] at hts
 obtain ⟨hsm, hks⟩ := hts
 obtain ⟨p', c', es, he, hk, hsl, hkl⟩ := hr.open
 simp only [Ty.k, Ty.ks, List.cons.injEq, Value.slice.injEq, true_and, and_true] at he hk hsl hkl
 obtain ⟨rfl, rfl⟩ := he
 have hn := hsl.le
 refine B8 Tryz.func170 rfl Tryz.ntmps170 Tryz.results170 rfl ?_
 intro w0
 refine tS (tR ?_)
 refine sE (E7 rfl rfl) rfl (fun b3 => ?_)
 refine sE (A8 rfl) rfl (fun b4 => ?_)
 refine B7 ?_
 refine sE (A8 rfl) rfl (fun b12 => ?_)
 refine H2 ?_
 refine sD (nS (tS (tS (tR (sQ (qA rfl) rfl (sD (nS ?_)))))))
 refine C6 ?_
 (refine A0B 25 2 ?_; refine N4 (fun (x : Nat × Option Addr × Nat × List (List Value) × IM) => ⟨[(4, .int .i64 x.1), (3, .pointer (some ⟨b12, 0, none⟩)), (1, .pointer (some ⟨b3, 0, none⟩)), (2, .pointer (some ⟨b4, 0, none⟩))], [.blk b12 [.int .i64 k, .slice x.2.1 x.1 x.2.2.1], .slc x.2.1 x.2.2.1 25 2 x.1 x.2.2.2.1.flatten, .blk b4 [.int .i64 0, .slice none 0 0], .blk b3 [.int .i64 k, .slice p ks.length c]], x.2.2.2.2⟩) (fun x => x.1 ≤ ks.length ∧ B2 G x.2.2.2.2 ∧ E1 x.2.2.2.2 (ks.take x.1) x.2.2.2.1) (fun x => ks.length - x.1) (0, none, 0, [], G) ?_ ?_ ?_)
 (simp only [J9]; exact E0)
 exact ⟨by simp, B2.refl _, by simp [E1]⟩
 (rintro ⟨i, pn, cn, es', Gi⟩ ⟨hi, hle, hst⟩; simp only [] at hi hle hst ⊢; replace hsl := hsl.mono hle; replace hkl := hkl.mono hle)
 refine B7 ?_
 refine sB (L9 rfl rfl) rfl rfl (fun h34 => ?_) (fun h34 => ?_)
 refine sD (nS (qT rfl (tK (nS (tS ?_)))))
 refine C6 ?_
 (obtain ⟨b, o, p2, c2, rfl, hat, hre, hgb⟩ := hsl.kidTy hkl (i := i) (by omega) (by omega); refine D3 D4 rfl ?_)
 refine E8 (i := 0) (l' := [tt,ff,ff,ff,ff,ff,ff,ff,ff,ff,ff,ff]) rfl C5 (A9 rfl) rfl (by kernel_rfl) rfl rfl ?_
 refine aL 1 rfl (C2 rfl rfl) rfl ?_
 refine aP 2 rfl (A9 rfl) rfl ?_
 refine aL 3 rfl (C2 rfl rfl) rfl ?_
 refine aP 4 rfl (qM rfl) rfl ?_
 refine aP 5 rfl (D0 rfl rfl rfl (by omega)) rfl ?_
 refine aL 6 rfl (A6 rfl rfl (hat _) rfl) rfl ?_
 refine A1 7 ?_
 (refine M6 rfl rfl (R4 ks[i] _ _ (Ty.smallL_mem hks _ (List.getElem_mem (by omega))) hre) rfl rfl rfl (fun v G1 hle1 hh => ?_); obtain ⟨cells', F', rfl, hs', hnd'⟩ := hh; have hr' := hs'.R.mono (B6.le _ _); obtain ⟨p3, c3, es3, rfl, _⟩ := hr'.open)
 refine A1 8 ?_
 (refine I7 rfl (D1 rfl rfl rfl (by omega) (by unfold maxLen; omega) rfl) rfl rfl ?_; rintro _ ⟨b53, rfl⟩)
 refine A1 9 ?_
 refine W2 rfl rfl rfl rfl rfl rfl (fun _ _ => by repeat (first | exact Sw.here | apply Sw.there)) (R0 (by repeat first | exact mH | apply mT)) rfl (by simp [Value.oneCell']) (by unfold maxLen; omega) (by omega) rfl rfl (by repeat (first | exact A5.nil | apply A5.dep (by decide +kernel) | apply A5.blk (by decide +kernel) (by repeat (first | exact Pk.here | apply Pk.there)) (by repeat first | exact mH | apply mT))) (fun pn' cn' => ?_)
 refine aP 10 rfl (A9 rfl) rfl ?_
 refine A1 11 ?_
 refine K6 rfl rfl rfl rfl rfl rfl rfl rfl (by kernel_rfl) (by repeat first | exact Sw.here | apply Sw.there) (by rfl) ?_
 refine D8 (O3 (nS (tR (sQ (qM rfl) rfl ?_))))
 refine sP (N0 rfl rfl (by omega) (by omega)) rfl rfl ?_
 refine sQ (qA rfl) rfl (sD ?_)
 refine K5 (i + 1, pn', cn', es' ++ [[.int .i64 ks[i].k, .slice p3 ks[i].ks.length c3]], G1) ?_ ?_ ?_
 (simp only [J9]; exact E0)
 (dsimp only; exact ⟨by omega, hle.trans hle1, by rw [List.take_succ_eq_append_getElem (by omega)]; exact E1.snoc (hst.mono hle1) hr'⟩)
 (show ks.length - (i + 1) < ks.length - i; omega)
 refine M3 ?_
 (obtain rfl : i = ks.length := (by omega); refine C4 (outs := [.slc pn cn 25 2 ks.length es'.flatten]) (rC rfl (A2 rfl rfl)) (by repeat (first | exact A0.nil | refine A0.cons Pk.here ?_ | refine A0.cons (Pk.there Pk.here) ?_ | apply A0.drop)) ?_)
 (rw [List.take_length] at hst; exact ⟨pn, cn, es', rfl, rfl, hst⟩)
theorem A1a (G : IM) : B3 G Q1 [.int .i64 1, .slice none 0 0] := by
 simp only [Q1, B3]
 exact ⟨none, 0, [], rfl, ⟨by omega, by omega⟩, D5.of (Sl.nil _ _) rfl (by simp) (by simp), by simp [E1]⟩
theorem A4C : F4 Q1 = 0 := rfl
theorem A8o (br : Nat) (pb : Option Addr) (nb cb : Nat) (bs : List UInt8) (hnb : nb ≤ 2000) (p : Nat) (G : IM) (hb : Sl G pb nb cb 1 (N2 bs)) (hp : p + 31 < 1099511627776) (t : Ty) (cells : List Value) (hr : B3 G t cells) (hsz : F4 t ≤ 30) :
  Fn Tryz.prog 114 [.pointer (some ⟨br, 0, none⟩), .agg ⟨cells⟩] [rd br pb nb cb p] G
   (X4 br pb nb cb p 2 (fun G' v => ∃ t cells, v = .agg ⟨cells⟩ ∧ B3 G' t cells ∧ F4 t ≤ 38)) := by
 have hts := A2X t (by omega)
 obtain ⟨k, ks⟩ := t
 rw [F4] at hsz
 have hsn := A08 ks
 obtain ⟨q0, c0, es0, rfl, hk, _⟩ := hr.open
 simp only [Ty.k, Ty.ks] at hk hr ⊢
 refine B8 Tryz.func114 rfl Tryz.ntmps114 Tryz.results114 rfl ?_
 intro w0
 refine tS (tR ?_)
 refine sE (E7 rfl rfl) rfl (fun b3 => ?_)
 refine sE (A8 rfl) rfl (fun b4 => ?_)
 refine sD (nS (tS (tR (sL (A2 rfl rfl) rfl rfl ?_))))
 (refine A5C rfl (B2C k ks G q0 c0 hts hr) rfl rfl (fun v G1 outs hle1 hh => ?_); obtain ⟨q, c, es, rfl, rfl, hst⟩ := hh)
 refine sE (A8 rfl) rfl (fun b11 => ?_)
 refine H2 ?_
 refine sD (nS (tS (tS (tR (sQ (qM rfl) rfl ?_)))))
 (refine C0 rfl (S0 G1 br pb nb cb p bs 40 (hb.mono hle1) hnb (by omega)) (Pk.perm (by repeat (first | exact Pk.here | apply Pk.there))) rfl rfl (fun v G2 outs hle2 hh => ?_); obtain ⟨rfl, rfl, j, rfl, hj0, hj1⟩ := hh; replace hb := hb.mono hle1)
 refine sD (nS ?_)
 (show I9 _ _ (.block 0 _) _ _; refine A0b (fun (x : Ty × Option Addr × Nat × Nat × IM) => ⟨[(5, .pointer (some ⟨b11, 0, none⟩)), (4, .pointer (some ⟨b4, 0, none⟩))], [.blk b11 [.int .i64 x.1.k, .slice x.2.1 x.1.ks.length x.2.2.1], .blk b4 [.int .i64 0, .slice none 0 0], rd br pb nb cb x.2.2.2.1], x.2.2.2.2⟩) (fun x => B2 G2 x.2.2.2.2 ∧ B3 x.2.2.2.2 x.1 [.int .i64 x.1.k, .slice x.2.1 x.1.ks.length x.2.2.1] ∧ F4 x.1 ≤ 38 ∧ p ≤ x.2.2.2.1 ∧ x.2.2.2.1 ≤ p + 2) ?_ ?_)
 refine C6 (tS (tR (sB (qE rfl rfl) rfl rfl (fun h26 => ?_) (fun h26 => ?_))))
 refine sQ (qA rfl) rfl (sD (nS (qT rfl (tR (sQ (qM rfl) rfl ?_)))))
 (refine D7 (D1 rfl rfl rfl (by omega) (by unfold maxLen; omega) rfl) rfl ?_; rintro _ ⟨b33, rfl⟩)
 (refine P2 (by repeat (first | exact Pk.here | apply Pk.there)) (fun G3 hle3 hsl3 _ => ?_); refine P2 (by repeat (first | exact Pk.here | apply Pk.there)) (fun G4 hle4 hsl4 _ => ?_); refine C0 rfl (Z3 G4 br pb nb cb (p + 1) bs _ _ _ _ (hb.mono (hle3.trans hle4)) hnb (by omega) (hsl3.mono hle4) (by decide)) (Pk.perm (by repeat (first | exact Pk.here | apply Pk.there))) rfl rfl (fun v G5 outs hle5 hh => ?_); obtain ⟨rfl, rfl, hv⟩ := hh; obtain ⟨k', rfl, hk'⟩ : ∃ k', v = .int .i64 k' ∧ H4 k' := (by simp only [List.mem_cons, List.not_mem_nil, or_false] at hv; rcases hv with rfl | rfl | rfl | rfl | rfl <;> exact ⟨_, rfl, by unfold H4; omega⟩))
 refine sQ (A9 rfl) rfl (H2 ?_)
 refine sD (O3 ?_)
 refine P1 (.mk k' ks, q, c, p + 2, G5) ?_ ?_
 (simp only [J9]; exact E0)
 (dsimp only; exact ⟨hle3.trans hle4, (hst.mono (hle3.trans hle4)).ty rfl hsl4 hk', by (rw [F4]; omega), by omega, by omega⟩)
 refine sQ (qA rfl) rfl (sD (nS (cF rfl (tS (tR ?_)))))
 refine sB (qE rfl rfl) rfl rfl (fun h48 => ?_) (fun h48 => ?_)
 refine sQ (qA rfl) rfl (sD (nS (qT rfl ?_)))
 refine D3 D4 rfl ?_
 refine E8 (i := 0) (l' := [tt,ff,ff,ff,ff,ff,ff]) rfl C5 (A9 rfl) rfl (by kernel_rfl) rfl rfl ?_
 refine aL 1 rfl (C2 rfl rfl) rfl ?_
 refine A1 2 ?_
 refine I1 rfl rfl ((A09 _)) rfl rfl rfl ?_
 refine A1 3 ?_
 (refine I7 rfl (D1 rfl rfl rfl (by omega) (by unfold maxLen; omega) rfl) rfl rfl ?_; rintro _ ⟨b59, rfl⟩)
 refine A1 4 ?_
 refine W2 rfl rfl rfl rfl rfl rfl (fun _ _ => by repeat (first | exact Sw.here | apply Sw.there)) (R0 (by repeat first | exact mH | apply mT)) rfl (by simp [Value.oneCell']) (by unfold maxLen; omega) (by omega) rfl rfl (by repeat (first | exact A5.nil | apply A5.dep (by decide +kernel) | apply A5.blk (by decide +kernel) (by repeat (first | exact Pk.here | apply Pk.there)) (by repeat first | exact mH | apply mT))) (fun qn cn => ?_)
 (refine A7q (cs := es.flatten ++ [.int .i64 1, .slice none 0 0]) (by repeat (first | exact Pk.here | apply Pk.there)) (fun G6 hle6 hsl6 _ => ?_))
 refine aP 5 rfl (A9 rfl) rfl ?_
 refine A1 6 ?_
 refine K6 rfl rfl rfl rfl rfl rfl rfl rfl (by kernel_rfl) (by repeat first | exact Sw.here | apply Sw.there) (by rfl) ?_
 refine D8 (O3 ?_)
 refine P1 (.mk k (ks ++ [Q1]), qn, cn, p + 1, G6) (by rw [show (Ty.mk k (ks ++ [Q1])).ks.length = ks.length + 1 from by simp [Ty.ks]]; exact E0) ?_
 (dsimp only; refine ⟨hle6, E1.ty (ts := ks ++ [Q1]) (es := es ++ [[.int .i64 1, .slice none 0 0]]) (E1.snoc (hst.mono hle6) (A1a _)) rfl (by simpa [Ty.ks] using hsl6) hk, ?_, by omega, by omega⟩; rw [F4, A1Y, A4C, List.length_append]; simp only [List.length_singleton]; omega)
 refine sQ (qA rfl) rfl (sD (nS (cF rfl (tS (tR ?_)))))
 refine sB (qE rfl rfl) rfl rfl (fun h76 => ?_) (fun h76 => ?_)
 refine C7 ?_
 refine C6 ?_
 (refine A0H (by repeat (first | exact Pk.here | apply Pk.there)) (fun G3 hle3 hsl3 _ => ?_); refine N4 (fun (x : Nat × Ty × Option Addr × Nat × IM) => ⟨[(6, .int .i64 x.1), (5, .pointer (some ⟨b11, 0, none⟩)), (4, .pointer (some ⟨b4, 0, none⟩))], [.blk b11 [.int .i64 x.2.1.k, .slice x.2.2.1 x.2.1.ks.length x.2.2.2.1], .blk b4 [.int .i64 0, .slice none 0 0], rd br pb nb cb (p + 1)], x.2.2.2.2⟩) (fun x => x.1 ≤ 4 ∧ B2 G3 x.2.2.2.2 ∧ B3 x.2.2.2.2 x.2.1 [.int .i64 x.2.1.k, .slice x.2.2.1 x.2.1.ks.length x.2.2.2.1] ∧ F4 x.2.1 ≤ 30 + 2 * x.1) (fun x => 4 - x.1) (0, .mk k ks, q, c, G3) ?_ ?_ ?_)
 (simp only [J9]; exact E0)
 (dsimp only; exact ⟨by omega, B2.refl _, (hst.mono hle3).ty rfl hsl3 hk, by (rw [F4]; omega)⟩)
 (rintro ⟨i, ⟨tk, tks⟩, qi, ci, Gi⟩ ⟨hi, hlei, hri, hsi⟩; simp only [Ty.k, Ty.ks] at hi hlei hri hsi ⊢)
 refine tS (tS (tR (sQ (qM rfl) rfl ?_)))
 refine sB (L9 rfl rfl) rfl rfl (fun h95 => ?_) (fun h95 => ?_)
 refine sD (nS (qT rfl (tK (nS (tS ?_)))))
 refine C6 ?_
 refine D3 D4 rfl ?_
 refine S3 (i := 1) (l' := [ff,tt,ff,ff,ff]) rfl C5 (A2 rfl rfl) rfl (by kernel_rfl) rfl rfl ?_
 refine A1 0 ?_
 refine I1 rfl rfl ((A09 _)) rfl rfl rfl ?_
 refine A1 2 ?_
 (refine I7 rfl (D1 rfl rfl rfl (by omega) (by unfold maxLen; omega) rfl) rfl rfl ?_; rintro _ ⟨b108, rfl⟩)
 (refine A7q (cs := [.int .i64 1, .slice none 0 0, .int .i64 tk, .slice qi tks.length ci]) (by repeat (first | exact Pk.here | apply Pk.there)) (fun G7 hle7 hsl7 _ => ?_))
 refine aP 3 rfl (P6 rfl rfl) rfl ?_
 refine A1 4 ?_
 refine K6 rfl rfl rfl rfl rfl rfl rfl rfl (by kernel_rfl) (by repeat first | exact Sw.here | apply Sw.there) (by rfl) ?_
 refine D8 (O3 (nS (tR (sQ (qM rfl) rfl ?_))))
 refine sP (N0 rfl rfl (by omega) (by omega)) rfl rfl ?_
 refine sQ (qA rfl) rfl (sD ?_)
 refine K5 (i + 1, .mk 4 [Q1, .mk tk tks], some ⟨b108, 0, none⟩, 2, G7) ?_ ?_ ?_
 (simp only [J9]; exact E0)
 (dsimp only; refine ⟨by omega, hlei.trans hle7, E1.ty (ts := [Q1, .mk tk tks]) (es := [[.int .i64 1, .slice none 0 0], [.int .i64 tk, .slice qi tks.length ci]]) ⟨_, _, rfl, A1a _, _, _, rfl, hri.mono hle7, rfl⟩ rfl hsl7 ⟨by omega, by omega⟩, ?_⟩; rw [F4, K1, K1, K1, A4C]; simp only [List.length_cons, List.length_nil]; omega)
 (show 4 - (i + 1) < 4 - i; omega)
 refine F8 ?_
 refine P1 (.mk tk tks, qi, ci, p + 1, Gi) ?_ ?_
 (simp only [J9]; exact E0)
 (dsimp only; exact ⟨hle3.trans hlei, hri, by omega, by omega, by omega⟩)
 refine sQ (qA rfl) rfl (sD (nS (cF rfl ?_)))
 (refine A0H (by repeat (first | exact Pk.here | apply Pk.there)) (fun G8 hle8 hsl8 _ => ?_); refine tK ?_)
 refine O3 ?_
 refine P1 (.mk k ks, q, c, p + 1, G8) ?_ ?_
 (simp only [J9]; exact E0)
 (dsimp only; exact ⟨hle8, (hst.mono hle8).ty rfl hsl8 hk, by (rw [F4]; omega), by omega, by omega⟩)
 (rintro ⟨t', q', c', p', G'⟩ ⟨hle9, hr9, hs9, hp9, hp9'⟩; simp only [] at hle9 hr9 hs9 hp9 hp9' ⊢)
 refine tS (tR (sL (A2 rfl rfl) rfl rfl (H2 ?_)))
 refine sD (nS (tT ?_))
 refine C4 (outs := [rd br pb nb cb p']) (rC rfl (A2 rfl rfl)) (by repeat (first | exact A0.nil | refine A0.cons Pk.here ?_ | refine A0.cons (Pk.there Pk.here) ?_ | apply A0.drop)) ?_
 (exact ⟨p', by omega, by omega, rfl, t', _, rfl, hr9, by omega⟩)
mutual
def A2x : Tm → Tm
 | .mk k nm num ty fr lb ks => if k = 13 ∨ k = 14 then (A52 ks).headD K7 else .mk k nm num (if k = 5 then Q1 else A7) A7 0 (A52 ks)
def A52 : List Tm → List Tm
 | [] => []
 | t :: ts => A2x t :: A52 ts
end
def B6O : Tm → Tm
 | .mk k nm num ty fr lb ks => if k = 13 ∨ k = 14 then ks.headD K7 else if k = 5 then .mk k nm num Q1 fr lb ks else .mk k nm num ty fr lb ks
def B6P : Tm → Prop
 | .mk k _ _ _ _ _ ks => k = 13 ∨ k = 14 → ks ≠ []
theorem A8p {t : Ty} (h : X1 t = true) : t = A7 := by
 obtain ⟨k, ks⟩ := t
 obtain ⟨h1, h2⟩ : (Ty.mk k ks).k = 0 ∧ (Ty.mk k ks).ks.length = 0 := of_decide_eq_true h
 simp only [Ty.k, Ty.ks] at h1 h2
 have h3 : ks = [] := List.length_eq_zero_iff.1 (by omega)
 rw [h3, A7]
 congr
theorem Z4 {D N : Int} {k : Int} {nm : ByteArray} {num : Int} {ty fr : Ty} {lb : Int} {ks : List Tm} {d : Int} (h : L8 D N (.mk k nm num ty fr lb ks) d = true) : d ≤ D ∧ k ≠ N ∧ U3 k nm num ty fr lb ks.length = true ∧ O5 D N ks (d + 1) = true := by
 rw [L8] at h
 simp only [Bool.and_eq_true, decide_eq_true_eq] at h
 exact ⟨h.1.1.1, h.1.1.2, h.1.2, h.2⟩
section slaws
variable {P : Program} {Γ : K0} {env : K3} {hp : List A4} {G : IM} {ty : TypeId}
theorem A4D {P : Program} {w : World} {l c : Nat} (hl : l ≤ c) (code : BoundsCode) : (Instr.sliceBound (.int .i64 (l : Int)) c code).run P w = .ok l w := by
 unfold Instr.sliceBound
 simp only [asIntOf, Sem.run_bind, Sem.run_pure, Result.andThen_ok]
 rw [if_pos ⟨by omega, by omega⟩]
 simp
theorem A0Q {x y z : Operand} {t : TypeId} {i : M5} [hI : I0 P t i] (hd' : i.desc = .string) {s : ByteArray} {l h : Nat}
  (hx : evo env x = some (.string s)) (hy : evo env y = some (.int .i64 (l : Int))) (hz : evo env z = some (.int .i64 (h : Int))) (hl : l ≤ h) (hh : h ≤ s.size) :
  H5 P Γ ⟨env, hp, G⟩ (.slice t x (some y) (some z) none) ty (.string (s.extract l h)) := by
 refine ⟨fun a _ hs _ _ _ _ w => ?_⟩
 have hu := hI.und
 rw [hd'] at hu
 simp [execOp, (hs.evo hx : a.eval x = _), (hs.evo hy : a.eval y = _), (hs.evo hz : a.eval z = _), Instr.sliceAt, Sem.run_bind, run_underlying hu, Instr.slice, Instr.sliceBounds, A4D hl, A4D hh]
theorem A1Z {x z : Operand} {t : TypeId} {i : M5} [hI : I0 P t i] (hd' : i.desc = .string) {s : ByteArray} {h : Nat}
  (hx : evo env x = some (.string s)) (hz : evo env z = some (.int .i64 (h : Int))) (hh : h ≤ s.size) :
  H5 P Γ ⟨env, hp, G⟩ (.slice t x none (some z) none) ty (.string (s.extract 0 h)) := by
 refine ⟨fun a _ hs _ _ _ _ w => ?_⟩
 have hu := hI.und
 rw [hd'] at hu
 simp [execOp, (hs.evo hx : a.eval x = _), (hs.evo hz : a.eval z = _), Instr.sliceAt, Sem.run_bind, run_underlying hu, Instr.slice, Instr.sliceBounds, A4D hh]
theorem U5 {x y : Operand} {t : TypeId} {i : M5} [hI : I0 P t i] (hd' : i.desc = .string) {s : ByteArray} {l : Nat}
  (hx : evo env x = some (.string s)) (hy : evo env y = some (.int .i64 (l : Int))) (hl : l ≤ s.size) :
  H5 P Γ ⟨env, hp, G⟩ (.slice t x (some y) none none) ty (.string (s.extract l s.size)) := by
 refine ⟨fun a _ hs _ _ _ _ w => ?_⟩
 have hu := hI.und
 rw [hd'] at hu
 simp [execOp, (hs.evo hx : a.eval x = _), (hs.evo hy : a.eval y = _), Instr.sliceAt, Sem.run_bind, run_underlying hu, Instr.slice, Instr.sliceBounds, A4D hl]
theorem B2D {x y : Operand} {t t' : TypeId} {r s : ByteArray} (hx : evo env x = some (.string r)) (hy : evo env y = some (.string s)) :
  H5 P Γ ⟨env, hp, G⟩ (.binOp .lss t x y t') ty (.bool (decide (Op.bytesLess r.toList s.toList = true))) := by
 refine ⟨fun a _ hs _ _ _ _ w => ?_⟩
 simp only [execOp, eqGuard, binOp, Op.stringOp, (hs.evo hx : a.eval x = _), (hs.evo hy : a.eval y = _)]
 simp
end slaws
theorem B2E (s nm : ByteArray) (G : IM) (hs : s.size ≤ 1000) (hn : nm.size ≤ 1000) :
  Fn Tryz.prog 125 [.string s, .string nm] [] G (fun G' v outs => G' = G ∧ outs = [] ∧ ∃ r, v = .string r ∧ r.size ≤ s.size + nm.size) := by
 refine B8 Tryz.func125 rfl Tryz.ntmps125 Tryz.results125 rfl ?_
 intro w0
 refine I6 ?_
 refine C6 ?_
 (refine N4 (fun (i : Nat) => ⟨[(5, .int .i64 (i : Int)), (0, .string s), (1, .string nm)], [], G⟩) (fun i => i ≤ s.size) (fun i => s.size - i) 0 ?_ ?_ ?_)
 exact E0
 exact Nat.zero_le _
 (intro i hi)
 refine tS (tS (tR (sQ (qM rfl) rfl (sQ (qM rfl) rfl ?_))))
 refine sQ (P9 rfl rfl) rfl (sB (L9 rfl rfl) rfl rfl (fun h23 => ?_) (fun h23 => ?_))
 refine H9 ?_
 refine sP (K8 (n := 1) rfl rfl (by omega)) rfl rfl ?_
 refine sP (A0Q (h := i + 1) rfl rfl rfl rfl (by omega) (by omega)) rfl rfl ?_
 refine sQ (qM rfl) rfl ?_
 refine sB (B2D rfl rfl) rfl rfl (fun h31 => ?_) (fun h31 => ?_)
 refine sQ (J8 rfl rfl) rfl (sD (nS (qT rfl (tK (nS ?_)))))
 refine C6 ?_
 refine tR (sQ (qM rfl) rfl ?_)
 refine sP (K8 (n := 1) rfl rfl (by omega)) rfl rfl ?_
 refine sQ (qA rfl) rfl (sD (O3 ?_))
 refine K5 (i + 1) ?_ ?_ ?_
 exact E0
 (show _ ≤ s.size; omega)
 (show s.size - _ < s.size - _; omega)
 refine O8 ?_
 refine sQ (P9 rfl rfl) rfl ?_
 refine sP (A0A rfl rfl (by omega)) rfl rfl ?_
 refine H9 ?_
 refine sP (K8 (n := 1) rfl rfl (by omega)) rfl rfl ?_
 refine sP (A0Q (h := i + 1) rfl rfl rfl rfl (by omega) (by omega)) rfl rfl ?_
 refine sQ (qM rfl) rfl ?_
 refine sB (A02 rfl rfl) rfl rfl (fun h72 => ?_) (fun h72 => ?_)
 refine Q4 ?_
 refine C4 (outs := []) (rT rfl) A0.nil ?_
 (exact ⟨rfl, rfl, _, rfl, Nat.le_add_right _ _⟩)
 refine sQ (J8 rfl rfl) rfl (sD (nS (cF rfl (tK (nS (tS ?_))))))
 refine D3 D4 rfl ?_
 refine E8 (i := 0) (l' := [tt,ff,ff,ff,ff,ff,ff,ff,ff,ff]) rfl C5 (qM rfl) rfl (by kernel_rfl) rfl rfl ?_
 refine aP 1 rfl (qM rfl) rfl ?_
 refine aP 2 rfl (A1Z rfl rfl rfl (by omega)) rfl ?_
 refine aP 3 rfl (qM rfl) rfl ?_
 refine aP 4 rfl (A2o rfl rfl (by simp only [ByteArray.size_extract, ByteArray.size_append]; omega)) rfl ?_
 refine aP 5 rfl (qM rfl) rfl ?_
 refine aP 6 rfl (qM rfl) rfl ?_
 refine aP 7 rfl (U5 rfl rfl rfl (by omega)) rfl ?_
 refine aP 8 rfl (A2o rfl rfl (by simp only [ByteArray.size_extract, ByteArray.size_append]; omega)) rfl ?_
 refine aP 9 rfl (qA rfl) rfl ?_
 refine D8 (nS (tT ?_))
 refine C4 (outs := []) (rT rfl) A0.nil ?_
 (exact ⟨rfl, rfl, _, rfl, by simp only [ByteArray.size_extract, ByteArray.size_append]; omega⟩)
 refine A2R ?_
 refine sQ (P9 rfl rfl) rfl ?_
 refine sP (V4 rfl rfl (by omega)) rfl rfl ?_
 refine M3 ?_
 refine D3 D4 rfl ?_
 refine E8 (i := 0) (l' := [tt,ff,ff,ff,ff,ff,ff,ff,ff,ff]) rfl C5 (qM rfl) rfl (by kernel_rfl) rfl rfl ?_
 refine aP 1 rfl (qM rfl) rfl ?_
 refine aP 2 rfl (A1Z rfl rfl rfl (by omega)) rfl ?_
 refine aP 3 rfl (qM rfl) rfl ?_
 refine aP 4 rfl (A2o rfl rfl (by simp only [ByteArray.size_extract, ByteArray.size_append]; omega)) rfl ?_
 refine aP 5 rfl (qM rfl) rfl ?_
 refine aP 6 rfl (qM rfl) rfl ?_
 refine aP 7 rfl (U5 rfl rfl rfl (by omega)) rfl ?_
 refine aP 8 rfl (A2o rfl rfl (by simp only [ByteArray.size_extract, ByteArray.size_append]; omega)) rfl ?_
 refine aP 9 rfl (qA rfl) rfl ?_
 refine D8 (nS (tT ?_))
 refine C4 (outs := []) (rT rfl) A0.nil ?_
 (exact ⟨rfl, rfl, _, rfl, by simp only [ByteArray.size_extract, ByteArray.size_append]; omega⟩)
theorem A0D (G : IM) : B3 G A7 [.int .i64 0, .slice none 0 0] := by
 simp only [A7, B3]
 exact ⟨none, 0, [], rfl, ⟨by omega, by omega⟩, D5.of (Sl.nil _ _) rfl (by simp) (by simp), by simp [E1]⟩
theorem A53 : F4 A7 = 0 := rfl
theorem E5.tm {G : IM} {k : Int} {nm : ByteArray} {num : Int} {t : Ty} {q : Option Addr} {d : Nat} {ts : List Tm} {es : List (List Value)} {p : Option Addr} {n c : Nat} (h : E5 G ts es) (hn : ts.length = n) (hs : Sl G p n c 9 es.flatten) (hk : H4 k) (hm : H4 num)
  (ht : B3 G t [.int .i64 t.k, .slice q t.ks.length d]) : B5 G (.mk k nm num t A7 0 ts) [.int .i64 k, .string nm, .int .i64 num, .int .i64 t.k, .slice q t.ks.length d, .int .i64 0, .slice none 0 0, .int .i64 0, .slice p n c] := by
 subst hn
 simp only [B5]
 exact ⟨_, _, p, c, es, rfl, hk, hm, ⟨by omega, by omega⟩, ht, A0D G, D5.of hs h.len h.all (fun e he => (h.each e he).2), h⟩
theorem A1b {G : IM} {k : Int} {nm : ByteArray} {num : Int} (hk : H4 k) (hm : H4 num) :
  B5 G (.mk k nm num A7 A7 0 []) [.int .i64 k, .string nm, .int .i64 num, .int .i64 0, .slice none 0 0, .int .i64 0, .slice none 0 0, .int .i64 0, .slice none 0 0] :=
 E5.tm (ts := []) (es := []) (t := A7) (by simp [E5]) rfl (Sl.nil _ _) hk hm (A0D G)
theorem A1I (k : Int) (nm : ByteArray) (num : Int) : A0r (.mk k nm num A7 A7 0 []) = nm.size := by
 rw [A0r, A53, Y3]; simp
theorem A54 : ∀ (ts : List Tm) (t : Tm), Y3 (ts ++ [t]) = Y3 ts + A0r t
 | [], t => by simp [Y3]
 | a :: ts, t => by simp only [List.cons_append, Y3, A54 ts t]; omega
theorem A2y (k : Int) : H6 k ≤ 3 := by
 unfold H6; repeat (split; omega)
 omega
theorem A55 {d : Nat} (h : d ≤ 2) : dB (d + 1) ≤ 14 := by
 have : d = 0 ∨ d = 1 ∨ d = 2 := by omega
 rcases this with rfl | rfl | rfl <;> decide
theorem A10 (n : Int) (G : IM) : Fn Tryz.prog 100 [.int .i64 n] [] G (L6 (.agg ⟨[.int .i64 2, .string ⟨⟨[]⟩⟩, .int .i64 n, .int .i64 0, .slice none 0 0, .int .i64 0, .slice none 0 0, .int .i64 0, .slice none 0 0]⟩) G) := by
 refine B8 Tryz.func100 rfl Tryz.ntmps100 Tryz.results100 rfl ?_
 intro w0
 refine tS (tR ?_)
 refine sE (A8 rfl) rfl (fun b3 => ?_)
 refine M2 ?_
 refine E9 (rC rfl (A2 rfl rfl)) ?_
 exact ⟨rfl, rfl, rfl⟩
theorem A8q (br : Nat) (pb : Option Addr) (nb cb : Nat) (bs : List UInt8) (hnb : nb ≤ 2000) (p : Nat) (G : IM) (hb : Sl G pb nb cb 1 (N2 bs)) (hp : p + 3 < 1099511627776) (s : ByteArray) (hs : s.size ≤ 1000) :
  Fn Tryz.prog 165 [.pointer (some ⟨br, 0, none⟩), .string s] [rd br pb nb cb p] G
   (X4 br pb nb cb p 3 (fun G' v => ∃ t cells, v = .agg ⟨cells⟩ ∧ B5 G' t cells ∧ A0r t ≤ 1)) := by
 refine B8 Tryz.func165 rfl Tryz.ntmps165 Tryz.results165 rfl ?_
 intro w0
 refine tS (tR ?_)
 refine sE (A8 rfl) rfl (fun b3 => ?_)
 refine sD (nS (tS (tS (tR (sQ (qM rfl) rfl ?_)))))
 refine sQ (P9 rfl rfl) rfl ?_
 refine sB (Y2 rfl rfl) rfl rfl (fun h11 => ?_) (fun h11 => ?_)
 refine sQ (qM rfl) rfl (sQ (qM rfl) rfl ?_)
 (refine C0 rfl (S0 _ br pb nb cb p bs _ hb hnb (by omega)) (Pk.perm (by repeat (first | exact Pk.here | apply Pk.there))) rfl rfl (fun v14 G14 outs14 hle14 hh => ?_); obtain ⟨rfl, rfl, j14, rfl, hj14, hk14⟩ := hh; obtain ⟨i14, rfl⟩ := Int.eq_ofNat_of_zero_le hj14)
 replace hb := hb.mono hle14
 refine sB (Y2 rfl rfl) rfl rfl (fun h15 => ?_) (fun h15 => ?_)
 refine F8 ?_
 refine sQ (P9 rfl rfl) rfl ?_
 (refine C0 rfl (S0 _ br pb nb cb (p + 1) bs _ hb hnb (by omega)) (Pk.perm (by repeat (first | exact Pk.here | apply Pk.there))) rfl rfl (fun v25 G25 outs25 hle25 hh => ?_); obtain ⟨rfl, rfl, j25, rfl, hj25, hk25⟩ := hh; obtain ⟨i25, rfl⟩ := Int.eq_ofNat_of_zero_le hj25)
 replace hb := hb.mono hle25
 refine F8 ?_
 refine sP (K8 (n := 1) rfl rfl (by omega)) rfl rfl ?_
 refine sP (A0Q rfl rfl rfl rfl (by omega) (by omega)) rfl rfl ?_
 refine sQ (P6 rfl rfl) rfl (H2 ?_)
 refine sD (nS (tT (rS ?_)))
 refine C4 (outs := [rd br pb nb cb (p + 1 + 1)]) (rC rfl (A2 rfl rfl)) (by repeat (first | exact A0.nil | refine A0.cons Pk.here ?_ | refine A0.cons (Pk.there Pk.here) ?_ | refine A0.cons (Pk.there (Pk.there Pk.here)) ?_ | apply A0.drop)) ?_
 focus (refine ⟨_, ?_, ?_, rfl, _, _, rfl, A1b ⟨by omega, by omega⟩ ⟨by omega, by omega⟩, ?_⟩; all_goals (try rw [A1I]); all_goals (first | omega | (simp only [ByteArray.size_extract]; omega) | decide))
 refine M2 ?_
 (refine C0 rfl (S0 _ br pb nb cb (p + 1) bs _ hb hnb (by omega)) (Pk.perm (by repeat (first | exact Pk.here | apply Pk.there))) rfl rfl (fun v54 G54 outs54 hle54 hh => ?_); obtain ⟨rfl, rfl, j54, rfl, hj54, hk54⟩ := hh; obtain ⟨i54, rfl⟩ := Int.eq_ofNat_of_zero_le hj54)
 replace hb := hb.mono hle54
 refine sD (nS ?_)
 refine C6 (tS (tR (sB (qE rfl rfl) rfl rfl (fun h60 => ?_) (fun h60 => ?_))))
 refine I5 ?_
 refine C4 (outs := [rd br pb nb cb (p + 1 + 1)]) (rC rfl (A2 rfl rfl)) (by repeat (first | exact A0.nil | refine A0.cons Pk.here ?_ | refine A0.cons (Pk.there Pk.here) ?_ | refine A0.cons (Pk.there (Pk.there Pk.here)) ?_ | apply A0.drop)) ?_
 focus (refine ⟨_, ?_, ?_, rfl, _, _, rfl, A1b ⟨by omega, by omega⟩ ⟨by omega, by omega⟩, ?_⟩; all_goals (try rw [A1I]); all_goals (first | omega | (simp only [ByteArray.size_extract]; omega) | decide))
 refine sQ (qA rfl) rfl (sD (nS (cF rfl (tS (tR ?_)))))
 refine sB (qE rfl rfl) rfl rfl (fun h82 => ?_) (fun h82 => ?_)
 refine I5 ?_
 refine C4 (outs := [rd br pb nb cb (p + 1 + 1)]) (rC rfl (A2 rfl rfl)) (by repeat (first | exact A0.nil | refine A0.cons Pk.here ?_ | refine A0.cons (Pk.there Pk.here) ?_ | refine A0.cons (Pk.there (Pk.there Pk.here)) ?_ | apply A0.drop)) ?_
 focus (refine ⟨_, ?_, ?_, rfl, _, _, rfl, A1b ⟨by omega, by omega⟩ ⟨by omega, by omega⟩, ?_⟩; all_goals (try rw [A1I]); all_goals (first | omega | (simp only [ByteArray.size_extract]; omega) | decide))
 refine M2 ?_
 (refine D7 (D1 rfl rfl rfl (by omega) (by unfold maxLen; omega) rfl) rfl ?_; rintro _ ⟨b108, rfl⟩)
 (refine P2 (by repeat (first | exact Pk.here | apply Pk.there)) (fun Gf hlef hslf _ => ?_); refine C0 rfl (Z3 Gf br pb nb cb (p + 1 + 1) bs _ _ _ _ (hb.mono hlef) hnb (by omega) hslf (by decide)) (Pk.perm (by repeat (first | exact Pk.here | apply Pk.there))) rfl rfl (fun v Gn outs hlen hh => ?_); obtain ⟨rfl, rfl, hv⟩ := hh; obtain ⟨kn, rfl, hkn⟩ : ∃ k, v = .int .i64 k ∧ H4 k := (by simp only [List.mem_cons, List.not_mem_nil, or_false] at hv; rcases hv with rfl | rfl | rfl | rfl | rfl | rfl <;> exact ⟨_, rfl, by unfold H4; omega⟩))
 refine H7 rfl ((A10 _ _)) rfl rfl ?_
 refine H2 ?_
 refine sD (nS (tT ?_))
 refine C4 (outs := [rd br pb nb cb (p + 1 + 1 + 1)]) (rC rfl (A2 rfl rfl)) (by repeat (first | exact A0.nil | refine A0.cons Pk.here ?_ | refine A0.cons (Pk.there Pk.here) ?_ | refine A0.cons (Pk.there (Pk.there Pk.here)) ?_ | apply A0.drop)) ?_
 focus (refine ⟨_, ?_, ?_, rfl, _, _, rfl, A1b ⟨by omega, by omega⟩ hkn, ?_⟩; all_goals (try rw [A1I]); all_goals (first | omega | decide))
 refine O8 ?_
 (refine C0 rfl (S0 _ br pb nb cb p bs _ hb hnb (by omega)) (Pk.perm (by repeat (first | exact Pk.here | apply Pk.there))) rfl rfl (fun v131 G131 outs131 hle131 hh => ?_); obtain ⟨rfl, rfl, j131, rfl, hj131, hk131⟩ := hh; obtain ⟨i131, rfl⟩ := Int.eq_ofNat_of_zero_le hj131)
 replace hb := hb.mono hle131
 refine sD (nS ?_)
 refine C6 (tS (tR (sB (qE rfl rfl) rfl rfl (fun h137 => ?_) (fun h137 => ?_))))
 refine I5 ?_
 refine C4 (outs := [rd br pb nb cb (p + 1)]) (rC rfl (A2 rfl rfl)) (by repeat (first | exact A0.nil | refine A0.cons Pk.here ?_ | refine A0.cons (Pk.there Pk.here) ?_ | refine A0.cons (Pk.there (Pk.there Pk.here)) ?_ | apply A0.drop)) ?_
 focus (refine ⟨_, ?_, ?_, rfl, _, _, rfl, A1b ⟨by omega, by omega⟩ ⟨by omega, by omega⟩, ?_⟩; all_goals (try rw [A1I]); all_goals (first | omega | (simp only [ByteArray.size_extract]; omega) | decide))
 refine sQ (qA rfl) rfl (sD (nS (cF rfl (tS (tR ?_)))))
 refine sB (qE rfl rfl) rfl rfl (fun h159 => ?_) (fun h159 => ?_)
 refine I5 ?_
 refine C4 (outs := [rd br pb nb cb (p + 1)]) (rC rfl (A2 rfl rfl)) (by repeat (first | exact A0.nil | refine A0.cons Pk.here ?_ | refine A0.cons (Pk.there Pk.here) ?_ | refine A0.cons (Pk.there (Pk.there Pk.here)) ?_ | apply A0.drop)) ?_
 focus (refine ⟨_, ?_, ?_, rfl, _, _, rfl, A1b ⟨by omega, by omega⟩ ⟨by omega, by omega⟩, ?_⟩; all_goals (try rw [A1I]); all_goals (first | omega | (simp only [ByteArray.size_extract]; omega) | decide))
 refine M2 ?_
 (refine D7 (D1 rfl rfl rfl (by omega) (by unfold maxLen; omega) rfl) rfl ?_; rintro _ ⟨b185, rfl⟩)
 (refine P2 (by repeat (first | exact Pk.here | apply Pk.there)) (fun Gf hlef hslf _ => ?_); refine C0 rfl (Z3 Gf br pb nb cb (p + 1) bs _ _ _ _ (hb.mono hlef) hnb (by omega) hslf (by decide)) (Pk.perm (by repeat (first | exact Pk.here | apply Pk.there))) rfl rfl (fun v Gn outs hlen hh => ?_); obtain ⟨rfl, rfl, hv⟩ := hh; obtain ⟨kn, rfl, hkn⟩ : ∃ k, v = .int .i64 k ∧ H4 k := (by simp only [List.mem_cons, List.not_mem_nil, or_false] at hv; rcases hv with rfl | rfl | rfl | rfl | rfl | rfl <;> exact ⟨_, rfl, by unfold H4; omega⟩))
 refine H7 rfl ((A10 _ _)) rfl rfl ?_
 refine H2 ?_
 refine sD (nS (tT ?_))
 refine C4 (outs := [rd br pb nb cb (p + 1 + 1)]) (rC rfl (A2 rfl rfl)) (by repeat (first | exact A0.nil | refine A0.cons Pk.here ?_ | refine A0.cons (Pk.there Pk.here) ?_ | refine A0.cons (Pk.there (Pk.there Pk.here)) ?_ | apply A0.drop)) ?_
 focus (refine ⟨_, ?_, ?_, rfl, _, _, rfl, A1b ⟨by omega, by omega⟩ hkn, ?_⟩; all_goals (try rw [A1I]); all_goals (first | omega | decide))
end Gw
end Go.Proofs.YtgodjiieijekiaaGreatDoor
