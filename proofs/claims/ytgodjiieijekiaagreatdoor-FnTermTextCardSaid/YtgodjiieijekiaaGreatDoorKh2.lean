/-
  The reference model's tests of nodes.
-/
import Derived.Test.YtgodjiieijekiaaGreatDoorKh1
import Init
import Derived.Test.YtgodjiieijekiaaGreatDoorKh0
set_option linter.unusedVariables false
set_option linter.unusedSimpArgs false
set_option maxHeartbeats 0
set_option maxRecDepth 100000
set_option synthInstance.maxSize 4000
set_option synthInstance.maxHeartbeats 0
namespace Go.Proofs.YtgodjiieijekiaaGreatDoor
open Go Go.RowKit
namespace Gw
section blaws
variable {P : Program} {Γ : F8} {env : H1} {hp : List A1} {G : IM} {ty : TypeId}
theorem A0N {x y : Operand} {t t' : TypeId} {i : J4} [hI : E6 P t i] (hd : i.desc = .bool) {r : Bool} (hx : evo env x = some (.bool r)) (hy : evo env y = some (.bool r)) :
  C9 P Γ ⟨env, hp, G⟩ (.binOp .neq t x y t') ty (.bool false) := by
 have h := A3C (P := P) (Γ := Γ) (hp := hp) (G := G) (t := t) (t' := t') (ty := ty) hd hx hy
 rwa [decide_eq_false (by simp)] at h
theorem A5X {x y : Operand} {t t' : TypeId} {i : J4} [hI : E6 P t i] (hd : i.desc = .bool) (hx : evo env x = some (.bool true)) (hy : evo env y = some (.bool false)) :
  C9 P Γ ⟨env, hp, G⟩ (.binOp .neq t x y t') ty (.bool true) := A3C hd hx hy
theorem A3Z {x y : Operand} {t t' : TypeId} {i : J4} [hI : E6 P t i] (hd : i.desc = .bool) (hx : evo env x = some (.bool false)) (hy : evo env y = some (.bool true)) :
  C9 P Γ ⟨env, hp, G⟩ (.binOp .neq t x y t') ty (.bool true) := A3C hd hx hy
end blaws
theorem A9p (k : Int) (nm : ByteArray) (num : Int) (ty fr : Ty) (lb : Int) (ks : List Tm) (G : IM) (cells : List Value) (hr : B6 G (.mk k nm num ty fr lb ks) cells) (R : Bool)
  (hi : R = true ↔ (k = 1 ∨ k = 5 → S2 nm = true) ∧ (¬(k = 1 ∨ k = 5) → nm = ⟨#[]⟩) ∧ (k = 5 ∨ k = 13 ∨ k = 14 → R2 ty = true) ∧ (¬(k = 5 ∨ k = 13 ∨ k = 14) → S8 ty = true) ∧ (k ≠ 14 → S8 fr = true ∧ lb = 0) ∧ (k = 2 → 0 ≤ num ∧ num ≤ 999) ∧ (k ≠ 2 → num = 0)) :
  Fn Tryz.prog 94 [.agg ⟨cells⟩] [] G (J8 (.bool R) G) := by
 have he : nm = ⟨#[]⟩ → S2 nm = false := by rintro rfl; rfl
 obtain ⟨tk, tks⟩ := ty
 obtain ⟨fk, fks⟩ := fr
 obtain ⟨pt, ct, pf, cf, p, c, es, rfl, hk, hnum, hlb, hty, hfr, hsl, hkl⟩ := hr.open9
 clear hr
 have o2 := A5T nm G
 have o3 := A9o _ G _ hty
 have o4 := A5U _ G _ hty
 have o7 := A5U _ G _ hfr
 refine B5 Tryz.func94 rfl Tryz.ntmps94 Tryz.results94 rfl ?_
 intro w0
 refine tS (tR ?_)
 refine sE (K0 rfl rfl) rfl (fun b3 => ?_)
 refine B8 ?_
 refine sB (qE rfl rfl) rfl rfl (fun h11 => ?_) (fun h11 => ?_)
 refine Q6 ?_
 refine sP (I0 rfl rfl (by omega)) rfl rfl ?_
 refine F9 ?_
 refine sP (I0 rfl rfl (by omega)) rfl rfl ?_
 refine I5 ?_
 refine sP (I0 rfl rfl (by omega)) rfl rfl ?_
 refine O2 ?_
 refine H7 rfl (o2) rfl rfl (fun h44 => ?_) (fun h44 => ?_)
 refine sQ (A0N rfl rfl rfl) rfl ?_
 refine A0Y ?_
 refine H7 rfl (o4) rfl rfl (fun h70 => ?_) (fun h70 => ?_)
 refine H3 ?_
 refine sP (V2 rfl rfl (by omega)) rfl rfl ?_
 refine F9 ?_
 refine H7 rfl (o7) rfl rfl (fun h88 => ?_) (fun h88 => ?_)
 refine I5 ?_
 refine sB (N8 rfl rfl) rfl rfl (fun h93 => ?_) (fun h93 => ?_)
 refine H3 ?_
 exact ⟨rfl, by (cases R with | false => rfl | true => (exfalso; obtain ⟨i1, i2, i3, i4, i5, i6, i7⟩ := hi.1 rfl; first | omega | (have j := i1 (by omega); simp_all; done) | (have j := he (i2 (by omega)); simp_all; done) | (have j := i2 (by omega); simp_all; done) | (have j := i3 (by omega); simp_all; done) | (have j := i4 (by omega); simp_all; done) | (have j := i5 (by omega); simp_all; done))), rfl⟩
 refine Q6 ?_
 refine sP (I0 rfl rfl (by omega)) rfl rfl ?_
 refine C2 ?_
 refine sB (qE rfl rfl) rfl rfl (fun h130 => ?_) (fun h130 => ?_)
 refine sQ (qA rfl) rfl (sD (nS (tT (F0 (rT rfl) ?_))))
 exact ⟨rfl, by rw [hi.2 ⟨fun _ => by (first | assumption | (exfalso; omega)), fun _ => by (first | assumption | (exfalso; omega) | exact Classical.not_not.1 (by assumption)), fun _ => by (first | assumption | (exfalso; omega)), fun _ => by (first | assumption | (exfalso; omega)), fun _ => ⟨by (first | assumption | (exfalso; omega)), by (first | assumption | omega)⟩, by omega, by omega⟩], rfl⟩
 refine sQ (qA rfl) rfl (sD (nS (tT (F0 (rT rfl) ?_))))
 exact ⟨rfl, by (cases R with | false => rfl | true => (exfalso; obtain ⟨i1, i2, i3, i4, i5, i6, i7⟩ := hi.1 rfl; first | omega | (have j := i1 (by omega); simp_all; done) | (have j := he (i2 (by omega)); simp_all; done) | (have j := i2 (by omega); simp_all; done) | (have j := i3 (by omega); simp_all; done) | (have j := i4 (by omega); simp_all; done) | (have j := i5 (by omega); simp_all; done))), rfl⟩
 refine W2 ?_
 exact ⟨rfl, by (cases R with | false => rfl | true => (exfalso; obtain ⟨i1, i2, i3, i4, i5, i6, i7⟩ := hi.1 rfl; first | omega | (have j := i1 (by omega); simp_all; done) | (have j := he (i2 (by omega)); simp_all; done) | (have j := i2 (by omega); simp_all; done) | (have j := i3 (by omega); simp_all; done) | (have j := i4 (by omega); simp_all; done) | (have j := i5 (by omega); simp_all; done))), rfl⟩
 refine O3 ?_
 exact ⟨rfl, by (cases R with | false => rfl | true => (exfalso; obtain ⟨i1, i2, i3, i4, i5, i6, i7⟩ := hi.1 rfl; first | omega | (have j := i1 (by omega); simp_all; done) | (have j := he (i2 (by omega)); simp_all; done) | (have j := i2 (by omega); simp_all; done) | (have j := i3 (by omega); simp_all; done) | (have j := i4 (by omega); simp_all; done) | (have j := i5 (by omega); simp_all; done))), rfl⟩
 refine sQ (A5X rfl rfl rfl) rfl ?_
 refine S7 ?_
 refine C2 ?_
 exact ⟨rfl, by (cases R with | false => rfl | true => (exfalso; obtain ⟨i1, i2, i3, i4, i5, i6, i7⟩ := hi.1 rfl; first | omega | (have j := i1 (by omega); simp_all; done) | (have j := he (i2 (by omega)); simp_all; done) | (have j := i2 (by omega); simp_all; done) | (have j := i3 (by omega); simp_all; done) | (have j := i4 (by omega); simp_all; done) | (have j := i5 (by omega); simp_all; done))), rfl⟩
 refine F9 ?_
 refine sB (qE rfl rfl) rfl rfl (fun h221 => ?_) (fun h221 => ?_)
 refine E0 ?_
 refine sP (Z9 rfl rfl (by omega)) rfl rfl ?_
 refine W3 ?_
 refine H7 rfl (o2) rfl rfl (fun h250 => ?_) (fun h250 => ?_)
 refine sQ (A0N rfl rfl rfl) rfl ?_
 refine O3 ?_
 refine H7 rfl (o3) rfl rfl (fun h266 => ?_) (fun h266 => ?_)
 refine A0K ?_
 refine sP (V2 rfl rfl (by omega)) rfl rfl ?_
 refine F9 ?_
 refine H7 rfl (o7) rfl rfl (fun h294 => ?_) (fun h294 => ?_)
 refine I5 ?_
 refine sB (N8 rfl rfl) rfl rfl (fun h299 => ?_) (fun h299 => ?_)
 refine H3 ?_
 exact ⟨rfl, by (cases R with | false => rfl | true => (exfalso; obtain ⟨i1, i2, i3, i4, i5, i6, i7⟩ := hi.1 rfl; first | omega | (have j := i1 (by omega); simp_all; done) | (have j := he (i2 (by omega)); simp_all; done) | (have j := i2 (by omega); simp_all; done) | (have j := i3 (by omega); simp_all; done) | (have j := i4 (by omega); simp_all; done) | (have j := i5 (by omega); simp_all; done))), rfl⟩
 refine Q6 ?_
 refine sP (I0 rfl rfl (by omega)) rfl rfl ?_
 refine C2 ?_
 refine sB (qE rfl rfl) rfl rfl (fun h336 => ?_) (fun h336 => ?_)
 refine sQ (qA rfl) rfl (sD (nS (tT (F0 (rT rfl) ?_))))
 exact ⟨rfl, by rw [hi.2 ⟨fun _ => by (first | assumption | (exfalso; omega)), fun _ => by (first | assumption | (exfalso; omega) | exact Classical.not_not.1 (by assumption)), fun _ => by (first | assumption | (exfalso; omega)), fun _ => by (first | assumption | (exfalso; omega)), fun _ => ⟨by (first | assumption | (exfalso; omega)), by (first | assumption | omega)⟩, by omega, by omega⟩], rfl⟩
 refine sQ (qA rfl) rfl (sD (nS (tT (F0 (rT rfl) ?_))))
 exact ⟨rfl, by (cases R with | false => rfl | true => (exfalso; obtain ⟨i1, i2, i3, i4, i5, i6, i7⟩ := hi.1 rfl; first | omega | (have j := i1 (by omega); simp_all; done) | (have j := he (i2 (by omega)); simp_all; done) | (have j := i2 (by omega); simp_all; done) | (have j := i3 (by omega); simp_all; done) | (have j := i4 (by omega); simp_all; done) | (have j := i5 (by omega); simp_all; done))), rfl⟩
 refine W2 ?_
 exact ⟨rfl, by (cases R with | false => rfl | true => (exfalso; obtain ⟨i1, i2, i3, i4, i5, i6, i7⟩ := hi.1 rfl; first | omega | (have j := i1 (by omega); simp_all; done) | (have j := he (i2 (by omega)); simp_all; done) | (have j := i2 (by omega); simp_all; done) | (have j := i3 (by omega); simp_all; done) | (have j := i4 (by omega); simp_all; done) | (have j := i5 (by omega); simp_all; done))), rfl⟩
 refine A0Y ?_
 exact ⟨rfl, by (cases R with | false => rfl | true => (exfalso; obtain ⟨i1, i2, i3, i4, i5, i6, i7⟩ := hi.1 rfl; first | omega | (have j := i1 (by omega); simp_all; done) | (have j := he (i2 (by omega)); simp_all; done) | (have j := i2 (by omega); simp_all; done) | (have j := i3 (by omega); simp_all; done) | (have j := i4 (by omega); simp_all; done) | (have j := i5 (by omega); simp_all; done))), rfl⟩
 refine sQ (A5X rfl rfl rfl) rfl ?_
 refine S7 ?_
 refine C2 ?_
 exact ⟨rfl, by (cases R with | false => rfl | true => (exfalso; obtain ⟨i1, i2, i3, i4, i5, i6, i7⟩ := hi.1 rfl; first | omega | (have j := i1 (by omega); simp_all; done) | (have j := he (i2 (by omega)); simp_all; done) | (have j := i2 (by omega); simp_all; done) | (have j := i3 (by omega); simp_all; done) | (have j := i4 (by omega); simp_all; done) | (have j := i5 (by omega); simp_all; done))), rfl⟩
 refine E0 ?_
 refine sP (I0 rfl rfl (by omega)) rfl rfl ?_
 refine F9 ?_
 refine sB (qE rfl rfl) rfl rfl (fun h446 => ?_) (fun h446 => ?_)
 refine L6 ?_
 refine H7 rfl (o2) rfl rfl (fun h462 => ?_) (fun h462 => ?_)
 refine sQ (A3Z rfl rfl rfl) rfl ?_
 refine S7 ?_
 refine C2 ?_
 exact ⟨rfl, by (cases R with | false => rfl | true => (exfalso; obtain ⟨i1, i2, i3, i4, i5, i6, i7⟩ := hi.1 rfl; first | omega | (have j := i1 (by omega); simp_all; done) | (have j := he (i2 (by omega)); simp_all; done) | (have j := i2 (by omega); simp_all; done) | (have j := i3 (by omega); simp_all; done) | (have j := i4 (by omega); simp_all; done) | (have j := i5 (by omega); simp_all; done))), rfl⟩
 refine sQ (A0N rfl rfl rfl) rfl ?_
 refine K8 ?_
 refine sB (A0m rfl rfl) rfl rfl (fun h511 => ?_) (fun h511 => ?_)
 refine S7 ?_
 refine rS (F0 (rT rfl) ?_)
 exact ⟨rfl, by (cases R with | false => rfl | true => (exfalso; obtain ⟨i1, i2, i3, i4, i5, i6, i7⟩ := hi.1 rfl; first | omega | (have j := i1 (by omega); simp_all; done) | (have j := he (i2 (by omega)); simp_all; done) | (have j := i2 (by omega); simp_all; done) | (have j := i3 (by omega); simp_all; done) | (have j := i4 (by omega); simp_all; done) | (have j := i5 (by omega); simp_all; done))), rfl⟩
 refine B8 ?_
 refine H7 rfl (o3) rfl rfl (fun h552 => ?_) (fun h552 => ?_)
 refine A0K ?_
 refine sP (V2 rfl rfl (by omega)) rfl rfl ?_
 refine F9 ?_
 refine H7 rfl (o7) rfl rfl (fun h580 => ?_) (fun h580 => ?_)
 refine I5 ?_
 refine sB (N8 rfl rfl) rfl rfl (fun h585 => ?_) (fun h585 => ?_)
 refine H3 ?_
 exact ⟨rfl, by (cases R with | false => rfl | true => (exfalso; obtain ⟨i1, i2, i3, i4, i5, i6, i7⟩ := hi.1 rfl; first | omega | (have j := i1 (by omega); simp_all; done) | (have j := he (i2 (by omega)); simp_all; done) | (have j := i2 (by omega); simp_all; done) | (have j := i3 (by omega); simp_all; done) | (have j := i4 (by omega); simp_all; done) | (have j := i5 (by omega); simp_all; done))), rfl⟩
 refine Q6 ?_
 refine sP (I0 rfl rfl (by omega)) rfl rfl ?_
 refine C2 ?_
 refine sB (qE rfl rfl) rfl rfl (fun h622 => ?_) (fun h622 => ?_)
 refine sQ (qA rfl) rfl (sD (nS (tT (F0 (rT rfl) ?_))))
 exact ⟨rfl, by rw [hi.2 ⟨fun _ => by (first | assumption | (exfalso; omega)), fun _ => by (first | assumption | (exfalso; omega) | exact Classical.not_not.1 (by assumption)), fun _ => by (first | assumption | (exfalso; omega)), fun _ => by (first | assumption | (exfalso; omega)), fun _ => ⟨by (first | assumption | (exfalso; omega)), by (first | assumption | omega)⟩, by omega, by omega⟩], rfl⟩
 refine sQ (qA rfl) rfl (sD (nS (tT (F0 (rT rfl) ?_))))
 exact ⟨rfl, by (cases R with | false => rfl | true => (exfalso; obtain ⟨i1, i2, i3, i4, i5, i6, i7⟩ := hi.1 rfl; first | omega | (have j := i1 (by omega); simp_all; done) | (have j := he (i2 (by omega)); simp_all; done) | (have j := i2 (by omega); simp_all; done) | (have j := i3 (by omega); simp_all; done) | (have j := i4 (by omega); simp_all; done) | (have j := i5 (by omega); simp_all; done))), rfl⟩
 refine W2 ?_
 exact ⟨rfl, by (cases R with | false => rfl | true => (exfalso; obtain ⟨i1, i2, i3, i4, i5, i6, i7⟩ := hi.1 rfl; first | omega | (have j := i1 (by omega); simp_all; done) | (have j := he (i2 (by omega)); simp_all; done) | (have j := i2 (by omega); simp_all; done) | (have j := i3 (by omega); simp_all; done) | (have j := i4 (by omega); simp_all; done) | (have j := i5 (by omega); simp_all; done))), rfl⟩
 refine A0Y ?_
 exact ⟨rfl, by (cases R with | false => rfl | true => (exfalso; obtain ⟨i1, i2, i3, i4, i5, i6, i7⟩ := hi.1 rfl; first | omega | (have j := i1 (by omega); simp_all; done) | (have j := he (i2 (by omega)); simp_all; done) | (have j := i2 (by omega); simp_all; done) | (have j := i3 (by omega); simp_all; done) | (have j := i4 (by omega); simp_all; done) | (have j := i5 (by omega); simp_all; done))), rfl⟩
 refine I5 ?_
 refine sB (qE rfl rfl) rfl rfl (fun h683 => ?_) (fun h683 => ?_)
 refine O2 ?_
 refine H7 rfl (o2) rfl rfl (fun h694 => ?_) (fun h694 => ?_)
 refine sQ (A3Z rfl rfl rfl) rfl ?_
 refine S7 ?_
 refine C2 ?_
 exact ⟨rfl, by (cases R with | false => rfl | true => (exfalso; obtain ⟨i1, i2, i3, i4, i5, i6, i7⟩ := hi.1 rfl; first | omega | (have j := i1 (by omega); simp_all; done) | (have j := he (i2 (by omega)); simp_all; done) | (have j := i2 (by omega); simp_all; done) | (have j := i3 (by omega); simp_all; done) | (have j := i4 (by omega); simp_all; done) | (have j := i5 (by omega); simp_all; done))), rfl⟩
 refine sQ (A0N rfl rfl rfl) rfl ?_
 refine K8 ?_
 refine sB (A0m rfl rfl) rfl rfl (fun h743 => ?_) (fun h743 => ?_)
 refine S7 ?_
 refine rS (F0 (rT rfl) ?_)
 exact ⟨rfl, by (cases R with | false => rfl | true => (exfalso; obtain ⟨i1, i2, i3, i4, i5, i6, i7⟩ := hi.1 rfl; first | omega | (have j := i1 (by omega); simp_all; done) | (have j := he (i2 (by omega)); simp_all; done) | (have j := i2 (by omega); simp_all; done) | (have j := i3 (by omega); simp_all; done) | (have j := i4 (by omega); simp_all; done) | (have j := i5 (by omega); simp_all; done))), rfl⟩
 refine B8 ?_
 refine H7 rfl (o3) rfl rfl (fun h784 => ?_) (fun h784 => ?_)
 refine A0K ?_
 refine sP (A1B rfl rfl (by omega)) rfl rfl ?_
 refine A0o ?_
 refine sP (I0 rfl rfl (by omega)) rfl rfl ?_
 refine C2 ?_
 refine sB (qE rfl rfl) rfl rfl (fun h840 => ?_) (fun h840 => ?_)
 refine sQ (qA rfl) rfl (sD (nS (tT (F0 (rT rfl) ?_))))
 exact ⟨rfl, by rw [hi.2 ⟨fun _ => by (first | assumption | (exfalso; omega)), fun _ => by (first | assumption | (exfalso; omega) | exact Classical.not_not.1 (by assumption)), fun _ => by (first | assumption | (exfalso; omega)), fun _ => by (first | assumption | (exfalso; omega)), fun _ => ⟨by (first | assumption | (exfalso; omega)), by (first | assumption | omega)⟩, by omega, by omega⟩], rfl⟩
 refine sQ (qA rfl) rfl (sD (nS (tT (F0 (rT rfl) ?_))))
 exact ⟨rfl, by (cases R with | false => rfl | true => (exfalso; obtain ⟨i1, i2, i3, i4, i5, i6, i7⟩ := hi.1 rfl; first | omega | (have j := i1 (by omega); simp_all; done) | (have j := he (i2 (by omega)); simp_all; done) | (have j := i2 (by omega); simp_all; done) | (have j := i3 (by omega); simp_all; done) | (have j := i4 (by omega); simp_all; done) | (have j := i5 (by omega); simp_all; done))), rfl⟩
 refine A0Y ?_
 exact ⟨rfl, by (cases R with | false => rfl | true => (exfalso; obtain ⟨i1, i2, i3, i4, i5, i6, i7⟩ := hi.1 rfl; first | omega | (have j := i1 (by omega); simp_all; done) | (have j := he (i2 (by omega)); simp_all; done) | (have j := i2 (by omega); simp_all; done) | (have j := i3 (by omega); simp_all; done) | (have j := i4 (by omega); simp_all; done) | (have j := i5 (by omega); simp_all; done))), rfl⟩
 refine O2 ?_
 refine H7 rfl (o2) rfl rfl (fun h888 => ?_) (fun h888 => ?_)
 refine sQ (A3Z rfl rfl rfl) rfl ?_
 refine S7 ?_
 refine C2 ?_
 exact ⟨rfl, by (cases R with | false => rfl | true => (exfalso; obtain ⟨i1, i2, i3, i4, i5, i6, i7⟩ := hi.1 rfl; first | omega | (have j := i1 (by omega); simp_all; done) | (have j := he (i2 (by omega)); simp_all; done) | (have j := i2 (by omega); simp_all; done) | (have j := i3 (by omega); simp_all; done) | (have j := i4 (by omega); simp_all; done) | (have j := i5 (by omega); simp_all; done))), rfl⟩
 refine sQ (A0N rfl rfl rfl) rfl ?_
 refine K8 ?_
 refine sB (A0m rfl rfl) rfl rfl (fun h937 => ?_) (fun h937 => ?_)
 refine S7 ?_
 refine rS (F0 (rT rfl) ?_)
 exact ⟨rfl, by (cases R with | false => rfl | true => (exfalso; obtain ⟨i1, i2, i3, i4, i5, i6, i7⟩ := hi.1 rfl; first | omega | (have j := i1 (by omega); simp_all; done) | (have j := he (i2 (by omega)); simp_all; done) | (have j := i2 (by omega); simp_all; done) | (have j := i3 (by omega); simp_all; done) | (have j := i4 (by omega); simp_all; done) | (have j := i5 (by omega); simp_all; done))), rfl⟩
 refine W1 ?_
 refine H7 rfl (o4) rfl rfl (fun h988 => ?_) (fun h988 => ?_)
 refine H3 ?_
 refine sP (V2 rfl rfl (by omega)) rfl rfl ?_
 refine F9 ?_
 refine H7 rfl (o7) rfl rfl (fun h1006 => ?_) (fun h1006 => ?_)
 refine I5 ?_
 refine sB (N8 rfl rfl) rfl rfl (fun h1011 => ?_) (fun h1011 => ?_)
 refine H3 ?_
 exact ⟨rfl, by (cases R with | false => rfl | true => (exfalso; obtain ⟨i1, i2, i3, i4, i5, i6, i7⟩ := hi.1 rfl; first | omega | (have j := i1 (by omega); simp_all; done) | (have j := he (i2 (by omega)); simp_all; done) | (have j := i2 (by omega); simp_all; done) | (have j := i3 (by omega); simp_all; done) | (have j := i4 (by omega); simp_all; done) | (have j := i5 (by omega); simp_all; done))), rfl⟩
 refine Q6 ?_
 refine sB (qE rfl rfl) rfl rfl (fun h1038 => ?_) (fun h1038 => ?_)
 refine B8 ?_
 refine sB (P6 rfl rfl) rfl rfl (fun h1046 => ?_) (fun h1046 => ?_)
 refine F9 ?_
 refine sB (T2 rfl rfl) rfl rfl (fun h1050 => ?_) (fun h1050 => ?_)
 refine B8 ?_
 exact ⟨rfl, by rw [hi.2 ⟨fun _ => by (first | assumption | (exfalso; omega)), fun _ => by (first | assumption | (exfalso; omega) | exact Classical.not_not.1 (by assumption)), fun _ => by (first | assumption | (exfalso; omega)), fun _ => by (first | assumption | (exfalso; omega)), fun _ => ⟨by (first | assumption | (exfalso; omega)), by (first | assumption | omega)⟩, by omega, by omega⟩], rfl⟩
 refine B8 ?_
 exact ⟨rfl, by (cases R with | false => rfl | true => (exfalso; obtain ⟨i1, i2, i3, i4, i5, i6, i7⟩ := hi.1 rfl; first | omega | (have j := i1 (by omega); simp_all; done) | (have j := he (i2 (by omega)); simp_all; done) | (have j := i2 (by omega); simp_all; done) | (have j := i3 (by omega); simp_all; done) | (have j := i4 (by omega); simp_all; done) | (have j := i5 (by omega); simp_all; done))), rfl⟩
 refine I3 ?_
 exact ⟨rfl, by (cases R with | false => rfl | true => (exfalso; obtain ⟨i1, i2, i3, i4, i5, i6, i7⟩ := hi.1 rfl; first | omega | (have j := i1 (by omega); simp_all; done) | (have j := he (i2 (by omega)); simp_all; done) | (have j := i2 (by omega); simp_all; done) | (have j := i3 (by omega); simp_all; done) | (have j := i4 (by omega); simp_all; done) | (have j := i5 (by omega); simp_all; done))), rfl⟩
 refine C2 ?_
 refine sB (qE rfl rfl) rfl rfl (fun h1088 => ?_) (fun h1088 => ?_)
 refine sQ (qA rfl) rfl (sD (nS (tT (F0 (rT rfl) ?_))))
 exact ⟨rfl, by rw [hi.2 ⟨fun _ => by (first | assumption | (exfalso; omega)), fun _ => by (first | assumption | (exfalso; omega) | exact Classical.not_not.1 (by assumption)), fun _ => by (first | assumption | (exfalso; omega)), fun _ => by (first | assumption | (exfalso; omega)), fun _ => ⟨by (first | assumption | (exfalso; omega)), by (first | assumption | omega)⟩, by omega, by omega⟩], rfl⟩
 refine sQ (qA rfl) rfl (sD (nS (tT (F0 (rT rfl) ?_))))
 exact ⟨rfl, by (cases R with | false => rfl | true => (exfalso; obtain ⟨i1, i2, i3, i4, i5, i6, i7⟩ := hi.1 rfl; first | omega | (have j := i1 (by omega); simp_all; done) | (have j := he (i2 (by omega)); simp_all; done) | (have j := i2 (by omega); simp_all; done) | (have j := i3 (by omega); simp_all; done) | (have j := i4 (by omega); simp_all; done) | (have j := i5 (by omega); simp_all; done))), rfl⟩
 refine W2 ?_
 exact ⟨rfl, by (cases R with | false => rfl | true => (exfalso; obtain ⟨i1, i2, i3, i4, i5, i6, i7⟩ := hi.1 rfl; first | omega | (have j := i1 (by omega); simp_all; done) | (have j := he (i2 (by omega)); simp_all; done) | (have j := i2 (by omega); simp_all; done) | (have j := i3 (by omega); simp_all; done) | (have j := i4 (by omega); simp_all; done) | (have j := i5 (by omega); simp_all; done))), rfl⟩
 refine O3 ?_
 exact ⟨rfl, by (cases R with | false => rfl | true => (exfalso; obtain ⟨i1, i2, i3, i4, i5, i6, i7⟩ := hi.1 rfl; first | omega | (have j := i1 (by omega); simp_all; done) | (have j := he (i2 (by omega)); simp_all; done) | (have j := i2 (by omega); simp_all; done) | (have j := i3 (by omega); simp_all; done) | (have j := i4 (by omega); simp_all; done) | (have j := i5 (by omega); simp_all; done))), rfl⟩
mutual
def N7 (D N : Int) : Tm → Int → Bool
 | .mk k nm num ty fr lb ks, deep => decide (deep ≤ D) && decide (k ≠ N) && S3 k nm num ty fr lb ks.length && Y6 D N ks (deep + 1)
def Y6 (D N : Int) : List Tm → Int → Bool
 | [], _ => true
 | t :: ts, deep => N7 D N t deep && Y6 D N ts deep
end
theorem A0O (D N : Int) : ∀ (ts : List Tm) (d : Int), Y6 D N ts d = true ↔ ∀ i, (h : i < ts.length) → N7 D N ts[i] d = true
 | [], d => by simp [Y6]
 | t :: ts, d => by
  simp only [Y6, Bool.and_eq_true, A0O D N ts d]
  constructor
  ·rintro ⟨h1, h2⟩ i hi
   cases i with
   | zero => exact h1
   | succ i => exact h2 i (by simpa using hi)
  ·intro h
   exact ⟨h 0 (by simp), fun i hi => h (i + 1) (by simpa using hi)⟩
theorem A2k {D N : Int} {k : Int} {nm : ByteArray} {num : Int} {ty fr : Ty} {lb : Int} {ks : List Tm} {d : Int} (h : D < d ∨ k = N ∨ S3 k nm num ty fr lb ks.length = false) : N7 D N (.mk k nm num ty fr lb ks) d = false := by
 rw [N7]
 rcases h with h | h | h
 ·rw [decide_eq_false (by omega)]; rfl
 ·rw [decide_eq_false (p := k ≠ N) (by omega), Bool.and_false]; rfl
 ·rw [h, Bool.and_false]; rfl
theorem A30 {D N : Int} {k : Int} {nm : ByteArray} {num : Int} {ty fr : Ty} {lb : Int} {ks : List Tm} {d : Int} (h1 : d ≤ D) (h2 : k ≠ N) (h3 : S3 k nm num ty fr lb ks.length = true) : N7 D N (.mk k nm num ty fr lb ks) d = Y6 D N ks (d + 1) := by
 rw [N7, decide_eq_true h1, decide_eq_true h2, h3]; rfl
theorem A9q {D N : Int} {ks : List Tm} {d : Int} {i : Nat} (hi : i < ks.length) (h : N7 D N ks[i] d = false) : Y6 D N ks d = false := by
 cases hx : Y6 D N ks d with
 | false => rfl
 | true => rw [(A0O D N ks d).1 hx i hi] at h; cases h
theorem A9r {k : Int} {nm : ByteArray} {num : Int} {ty fr : Ty} {lb : Int} {n : Nat} (hk : k ≠ 14) (ha : J3 k = n) : S3 k nm num ty fr lb n = true ↔
  (k = 1 ∨ k = 5 → S2 nm = true) ∧ (¬(k = 1 ∨ k = 5) → nm = ⟨#[]⟩) ∧ (k = 5 ∨ k = 13 ∨ k = 14 → R2 ty = true) ∧ (¬(k = 5 ∨ k = 13 ∨ k = 14) → S8 ty = true) ∧ (k ≠ 14 → S8 fr = true ∧ lb = 0) ∧ (k = 2 → 0 ≤ num ∧ num ≤ 999) ∧ (k ≠ 2 → num = 0) := by
 rw [A1G]
 simp only [U3, decide_eq_true_eq]
 constructor
 ·rintro ⟨_, h2, h3, h4, h5, h6, h7, _, h9⟩
  exact ⟨h2, h3, h6, h7, h9, h4, fun h => by have := h5 h; omega⟩
 ·rintro ⟨h2, h3, h6, h7, h9, h4, h5⟩
  exact ⟨ha, h2, h3, h4, fun h => by have := h5 h; omega, h6, h7, fun h => absurd h hk, h9⟩
theorem A9s {D N : Int} {k : Int} {nm : ByteArray} {num : Int} {ty fr : Ty} {lb : Int} {ks : List Tm} {d : Int} (h : N7 D N (.mk k nm num ty fr lb ks) d = true) : d ≤ D ∧ ∀ i, (hi : i < ks.length) → N7 D N ks[i] (d + 1) = true := by
 rw [N7] at h
 simp only [Bool.and_eq_true, decide_eq_true_eq] at h
 exact ⟨h.1.1.1, (A0O D N ks _).1 h.2⟩
mutual
theorem A5Y (M D N : Int) : ∀ (t : Tm) (deep c : Int), c ≤ M → ((O0 M D N t deep c).1 = true ↔ N7 D N t deep = true ∧ c + D4 t ≤ M)
 | .mk k nm num ty fr lb ks, deep, c, hc => by
  rw [O0, D4]
  by_cases h : c + 1 > M ∨ deep > D ∨ k = N ∨ S3 k nm num ty fr lb ks.length = false
  ·rw [if_pos h]
   constructor
   ·intro h; cases h
   ·rintro ⟨h1, h2⟩
    rcases h with h | h
    ·omega
    ·rw [A2k h] at h1; cases h1
  ·rw [if_neg h]
   have hn : S3 k nm num ty fr lb ks.length = true := by
    cases hx : S3 k nm num ty fr lb ks.length with
    | true => rfl
    | false => exact absurd (Or.inr (Or.inr (Or.inr hx))) h
   rw [A30 (by omega) (by omega) hn, A5Z M D N ks (deep + 1) (c + 1) (by omega)]
   constructor
   ·rintro ⟨a, b⟩; exact ⟨a, by omega⟩
   ·rintro ⟨a, b⟩; exact ⟨a, by omega⟩
theorem A5Z (M D N : Int) : ∀ (ts : List Tm) (deep c : Int), c ≤ M → ((O8 M D N ts deep c).1 = true ↔ Y6 D N ts deep = true ∧ c + H0 ts ≤ M)
 | [], deep, c, hc => by simp [O8, Y6, H0]; omega
 | t :: ts, deep, c, hc => by
  have h0 := A5Y M D N t deep c hc
  rw [O8, Y6, H0, Bool.and_eq_true]
  by_cases h : (O0 M D N t deep c).1 = true
  ·rw [if_pos h, A5E M D N t deep c h, A5Z M D N ts deep _ (h0.1 h).2]
   have := h0.1 h
   constructor
   ·rintro ⟨a, b⟩; exact ⟨⟨this.1, a⟩, by omega⟩
   ·rintro ⟨⟨_, a⟩, b⟩; exact ⟨a, by omega⟩
  ·rw [if_neg h]
   constructor
   ·intro h'; cases h'
   ·rintro ⟨⟨a, _⟩, b⟩
    exact absurd (h0.2 ⟨a, by omega⟩) h
end
theorem A9t (D N : Int) : ∀ (t : Tm) (d : Int) (G : IM) (cells : List Value), d ≤ 40 → N7 D N t (D + 1 - d) = true → D4 t ≤ 4294967296 → B6 G t cells →
  Fn Tryz.prog 45 [.agg ⟨cells⟩, .int .i64 d] [] G (J8 (.int .i64 (D4 t : Int)) G) := by
 refine Tm.ind fun k nm num ty fr lb ks ih d G cells hd hv hcnt hr => ?_
 have hone := hr.one
 obtain ⟨hv1, hv2⟩ := A9s hv
 obtain ⟨tk, tks⟩ := ty
 obtain ⟨fk, fks⟩ := fr
 obtain ⟨pt, ct, pf, cf, p, c, es, rfl, hk, hnum, hlb, hty, hfr, hsl, hkl⟩ := hr.open9
 have hn := hsl.le
 clear hr
 rw [D4] at hcnt ⊢
 refine B5 Tryz.func45 rfl Tryz.ntmps45 Tryz.results45 rfl ?_
 intro w0
 refine tS (tR ?_)
 refine sE (K0 rfl rfl) rfl (fun b3 => ?_)
 refine O3 ?_
 refine D2 ?_
 (refine Q5 (fun (i : Nat) => ⟨[(6, .int .i64 i), (5, .int .i64 ((H0 (ks.take i) + 1 : Nat) : Int)), (2, .pointer (some ⟨b3, 0, none⟩)), (1, .int .i64 d)], [.blk b3 [.int .i64 k, .string nm, .int .i64 num, .int .i64 tk, .slice pt tks.length ct, .int .i64 fk, .slice pf fks.length cf, .int .i64 lb, .slice p ks.length c]], G⟩) (fun i => i ≤ ks.length) (fun i => ks.length - i) 0 ?_ ?_ ?_)
 exact I9
 exact Nat.zero_le _
 (rintro i hi)
 refine B8 ?_
 refine sB (M9 rfl rfl) rfl rfl (fun h30 => ?_) (fun h30 => ?_)
 refine sQ (qM rfl) rfl (sQ (qM rfl) rfl ?_)
 refine sP (A3H rfl rfl (by omega)) rfl rfl ?_
 refine sQ (L4 rfl rfl) rfl (sD (nS (qT rfl (tK (nS (tS ?_))))))
 refine D2 ?_
 refine P9 ?_
 (obtain ⟨b, o, e, rfl, hl, hat, hre, hgb⟩ := hsl.kidTm hkl (i := i) (by omega) (by omega); have htk := A8X (ks := ks) (i := i) (by omega); refine sP (L9 rfl rfl rfl (by omega)) rfl rfl ?_)
 refine sL (C4 rfl rfl (hat _) hl) rfl rfl ?_
 refine sQ (qM rfl) rfl ?_
 refine sP (A0V rfl rfl (by omega) (by omega)) rfl rfl ?_
 (have hvk := hv2 i (by omega); rw [show D + 1 - d + 1 = D + 1 - (d - 1) by omega] at hvk; refine J9 rfl (ih ks[i] (List.getElem_mem (by omega)) (d - 1) G _ (by omega) hvk (by omega) hre) rfl rfl ?_)
 refine sP (O6 rfl rfl (by omega) (by omega)) rfl rfl ?_
 refine K8 ?_
 refine sP (O6 rfl rfl (by omega) (by omega)) rfl rfl ?_
 refine sQ (qA rfl) rfl (sD ?_)
 (refine P5 (i + 1) ?_ ?_ ?_; rw [show ((H0 (ks.take (i + 1)) + 1 : Nat) : Int) = ((H0 (ks.take i) + 1 : Nat) : Int) + (D4 ks[i] : Int) from by rw [A8Y (by omega)]; omega])
 exact I9
 omega
 omega
 refine Y5 ?_
 (obtain rfl : i = ks.length := (by omega); rw [List.take_length]; exact ⟨rfl, rfl, rfl⟩)
theorem A50 (t : Tm) : N5 t = true ↔ N7 12 14 t 1 = true ∧ D4 t ≤ 30 := by
 have := A5Y 30 12 14 t 1 0 (by omega)
 rw [N5, this]
 constructor
 ·rintro ⟨a, b⟩; exact ⟨a, by omega⟩
 ·rintro ⟨a, b⟩; exact ⟨a, by omega⟩
theorem A9u : ∀ (t : Tm) (d : Int) (G : IM) (cells : List Value), 0 ≤ d ∧ d ≤ 12 → B6 G t cells →
  Fn Tryz.prog 44 [.agg ⟨cells⟩, .int .i64 d] [] G (J8 (.bool (N7 12 14 t (13 - d))) G) := by
 refine Tm.ind fun k nm num ty fr lb ks ih d G cells hd hr => ?_
 have hr0 := hr
 have hne := fun h : k ≠ 14 => @A9r k nm num ty fr lb ks.length h
 have har := fun h : S3 k nm num ty fr lb ks.length = true => (A1G.1 h).1
 obtain ⟨R, hR⟩ : ∃ R, S3 k nm num ty fr lb ks.length = R := ⟨_, rfl⟩
 rw [hR] at hne har
 have hl2 := A9p k nm num ty fr lb ks G cells hr0 R
 have hk1 := A3Y k G
 obtain ⟨tk, tks⟩ := ty
 obtain ⟨fk, fks⟩ := fr
 obtain ⟨pt, ct, pf, cf, p, c, es, rfl, hk, hnum, hlb, hty, hfr, hsl, hkl⟩ := hr.open9
 have hn := hsl.le
 clear hr hr0
 refine B5 Tryz.func44 rfl Tryz.ntmps44 Tryz.results44 rfl ?_
 intro w0
 refine tS (tR ?_)
 refine sE (K0 rfl rfl) rfl (fun b3 => ?_)
 refine sQ (qA rfl) rfl (sD (nS (tS (tS ?_))))
 refine I7 J0 rfl ?_
 refine H2 (i := 0) (l' := [tt,ff,ff,ff,ff,ff,ff,ff,ff,ff,ff,ff,ff,ff,ff,ff,ff,ff,ff,ff,ff]) rfl E8 (qM rfl) rfl (by kernel_rfl) rfl rfl ?_
 refine A0U (i := 1) (l' := [tt,tt,ff,ff,ff,ff,ff,ff,ff,ff,ff,ff,ff,ff,ff,ff,ff,ff,ff,ff,ff]) rfl E8 (M9 rfl rfl) rfl (by kernel_rfl) rfl rfl (fun h11 => ?_) (fun h11 => ?_)
 refine aP 2 rfl (qM rfl) rfl ?_
 refine D6 3 rfl rfl rfl ?_
 refine D6 4 rfl rfl rfl ?_
 refine D6 6 rfl rfl rfl ?_
 refine D6 7 rfl rfl rfl ?_
 refine D6 8 rfl rfl rfl ?_
 refine D6 5 rfl rfl rfl ?_
 refine D6 9 rfl rfl rfl ?_
 refine aP 10 rfl (L4 rfl rfl) rfl ?_
 refine aP 11 rfl (qM rfl) rfl ?_
 refine D6 12 rfl rfl rfl ?_
 refine D6 13 rfl rfl rfl ?_
 refine D6 14 rfl rfl rfl ?_
 refine aP 15 rfl (L4 rfl rfl) rfl ?_
 refine aP 16 rfl (qM rfl) rfl ?_
 refine D6 17 rfl rfl rfl ?_
 refine D6 18 rfl rfl rfl ?_
 refine D6 19 rfl rfl rfl ?_
 refine aP 20 rfl (L4 rfl rfl) rfl ?_
 refine I3 ?_
 (rw [A2k (by rw [hR]; first | omega | exact .inr (.inr (by assumption)) | exact .inr (.inr (by cases R with | false => rfl | true => exact absurd (har rfl) (by omega))))]; exact ⟨rfl, rfl, rfl⟩)
 refine aP 2 rfl (qM rfl) rfl ?_
 refine aP 3 rfl (A5 rfl) rfl ?_
 refine aL 4 rfl (C1 rfl rfl) rfl ?_
 refine aP 6 rfl (A5 rfl) rfl ?_
 refine aL 7 rfl (C1 rfl rfl) rfl ?_
 refine aP 8 rfl (pLn rfl rfl) rfl ?_
 refine A8 5 ?_
 refine M3 rfl rfl (hk1) rfl rfl rfl ?_
 refine A0U (i := 9) (l' := [tt,tt,tt,tt,tt,tt,tt,tt,tt,tt,ff,ff,ff,ff,ff,ff,ff,ff,ff,ff,ff]) rfl E8 (N8 rfl rfl) rfl (by kernel_rfl) rfl rfl (fun h51 => ?_) (fun h51 => ?_)
 refine aP 10 rfl (M2 rfl rfl) rfl ?_
 refine aP 11 rfl (qM rfl) rfl ?_
 refine D6 12 rfl rfl rfl ?_
 refine D6 13 rfl rfl rfl ?_
 refine D6 14 rfl rfl rfl ?_
 refine aP 15 rfl (L4 rfl rfl) rfl ?_
 refine aP 16 rfl (qM rfl) rfl ?_
 refine D6 17 rfl rfl rfl ?_
 refine D6 18 rfl rfl rfl ?_
 refine D6 19 rfl rfl rfl ?_
 refine aP 20 rfl (L4 rfl rfl) rfl ?_
 refine I3 ?_
 (rw [A2k (by rw [hR]; first | omega | exact .inr (.inr (by assumption)) | exact .inr (.inr (by cases R with | false => rfl | true => exact absurd (har rfl) (by omega))))]; exact ⟨rfl, rfl, rfl⟩)
 refine aP 10 rfl (M2 rfl rfl) rfl ?_
 refine aP 11 rfl (qM rfl) rfl ?_
 refine aP 12 rfl (A5 rfl) rfl ?_
 refine aL 13 rfl (C1 rfl rfl) rfl ?_
 refine A0U (i := 14) (l' := [tt,tt,tt,tt,tt,tt,tt,tt,tt,tt,tt,tt,tt,tt,tt,ff,ff,ff,ff,ff,ff]) rfl E8 (qE rfl rfl) rfl (by kernel_rfl) rfl rfl (fun h79 => ?_) (fun h79 => ?_)
 refine aP 15 rfl (M2 rfl rfl) rfl ?_
 refine aP 16 rfl (qM rfl) rfl ?_
 refine D6 17 rfl rfl rfl ?_
 refine D6 18 rfl rfl rfl ?_
 refine D6 19 rfl rfl rfl ?_
 refine aP 20 rfl (L4 rfl rfl) rfl ?_
 refine I3 ?_
 (rw [A2k (by rw [hR]; first | omega | exact .inr (.inr (by assumption)) | exact .inr (.inr (by cases R with | false => rfl | true => exact absurd (har rfl) (by omega))))]; exact ⟨rfl, rfl, rfl⟩)
 refine aP 15 rfl (M2 rfl rfl) rfl ?_
 refine aP 16 rfl (qM rfl) rfl ?_
 refine aL 17 rfl (A7 rfl rfl) rfl ?_
 refine A8 18 ?_
 refine A8I rfl rfl (hl2 (hne (by omega) (by omega))) rfl rfl rfl (fun h102 => ?_) (fun h102 => ?_)
 refine aP 19 rfl (pNt rfl) rfl ?_
 refine aP 20 rfl (M2 rfl rfl) rfl ?_
 refine I3 ?_
 refine D2 ?_
 (refine Q5 (fun (i : Nat) => ⟨[(5, .int .i64 i), (2, .pointer (some ⟨b3, 0, none⟩)), (1, .int .i64 d)], [.blk b3 [.int .i64 k, .string nm, .int .i64 num, .int .i64 tk, .slice pt tks.length ct, .int .i64 fk, .slice pf fks.length cf, .int .i64 lb, .slice p ks.length c]], G⟩) (fun i => i ≤ ks.length ∧ ∀ j (h : j < ks.length), j < i → N7 12 14 ks[j] (13 - d + 1) = true) (fun i => ks.length - i) 0 ?_ ?_ ?_)
 exact I9
 exact ⟨by omega, by omega⟩
 (rintro i ⟨hi, hf⟩)
 refine B8 ?_
 refine sB (M9 rfl rfl) rfl rfl (fun h128 => ?_) (fun h128 => ?_)
 refine sD (nS (qT rfl (tK (nS (tS ?_)))))
 refine D2 ?_
 refine P9 ?_
 (obtain ⟨b, o, e, rfl, hl, hat, hre, hgb⟩ := hsl.kidTm hkl (i := i) (by omega) (by omega); refine sP (L9 rfl rfl rfl (by omega)) rfl rfl ?_)
 refine sL (C4 rfl rfl (hat _) hl) rfl rfl ?_
 refine sQ (qM rfl) rfl ?_
 refine sP (A0V rfl rfl (by omega) (by omega)) rfl rfl ?_
 (have hih := ih ks[i] (List.getElem_mem (by omega)) (d - 1) G _ (by omega) hre; rw [show 13 - (d - 1) = 13 - d + 1 by omega] at hih; refine H7 rfl hih rfl rfl (fun h145 => ?_) (fun h145 => ?_))
 refine C2 ?_
 refine sP (O6 rfl rfl (by omega) (by omega)) rfl rfl ?_
 refine sQ (qA rfl) rfl (sD ?_)
 refine P5 (i + 1) ?_ ?_ ?_
 exact I9
 exact ⟨by omega, fun j hj hji => by (by_cases he : j = i; (subst he; assumption); exact hf j hj (by omega))⟩
 omega
 refine M8 ?_
 (rw [A30 (by omega) (by omega) (hR.trans (by assumption)), A9q (i := i) (by omega) (by assumption)]; exact ⟨rfl, rfl, rfl⟩)
 refine L6 ?_
 (rw [A30 (by omega) (by omega) (hR.trans (by assumption)), (A0O 12 14 ks _).2 (fun j hj => hf j hj (by omega))]; exact ⟨rfl, rfl, rfl⟩)
 refine aP 19 rfl (pNf rfl) rfl ?_
 refine aP 20 rfl (M2 rfl rfl) rfl ?_
 refine I3 ?_
 (rw [A2k (by rw [hR]; first | omega | exact .inr (.inr (by assumption)) | exact .inr (.inr (by cases R with | false => rfl | true => exact absurd (har rfl) (by omega))))]; exact ⟨rfl, rfl, rfl⟩)
theorem A1I (t : Tm) (G : IM) (cells : List Value) (hcnt : D4 t ≤ 4294967296) (hr : B6 G t cells) :
  Fn Tryz.prog 15 [.agg ⟨cells⟩] [] G (J8 (.bool (N5 t)) G) := by
 have hl := hr.len
 have hv := A9u t 12 G cells (by omega) hr
 have hc := fun h => A9t 12 14 t 12 G cells (by omega) h hcnt hr
 have hi := A50 t
 obtain ⟨R, hR⟩ : ∃ R, N5 t = R := ⟨_, rfl⟩
 rw [hR] at hi ⊢
 refine B5 Tryz.func15 rfl Tryz.ntmps15 Tryz.results15 rfl ?_
 intro w0
 refine tS (tR ?_)
 refine sE (K0 rfl rfl) rfl (fun b3 => ?_)
 refine sQ (qA rfl) rfl (sD (nS (tS (tR ?_))))
 refine sL (C4 rfl rfl (E7 (by repeat first | exact mH | apply mT)) (by assumption)) rfl rfl ?_
 refine H7 rfl (hv) rfl rfl (fun h10 => ?_) (fun h10 => ?_)
 refine sQ (qM rfl) rfl ?_
 refine sL (C4 rfl rfl (E7 (by repeat first | exact mH | apply mT)) (by assumption)) rfl rfl ?_
 refine J9 rfl (hc (by assumption)) rfl rfl ?_
 refine sB (T2 rfl rfl) rfl rfl (fun h14 => ?_) (fun h14 => ?_)
 refine K8 ?_
 exact ⟨rfl, by rw [hi.2 ⟨by assumption, by omega⟩], rfl⟩
 refine K8 ?_
 exact ⟨rfl, by (cases R with | false => rfl | true => (exfalso; have h0 := hi.1 rfl; first | omega | simp_all)), rfl⟩
 refine O2 ?_
 exact ⟨rfl, by (cases R with | false => rfl | true => (exfalso; have h0 := hi.1 rfl; first | omega | simp_all)), rfl⟩
end Gw
end Go.Proofs.YtgodjiieijekiaaGreatDoor
namespace Go.Proofs.YtgodjiieijekiaaGreatDoor
namespace Gw
inductive GT where
 | any | int | bool
 | fn (a b : GT)
 | pr (a b : GT)
inductive GE where
 | var (x : ByteArray)
 | num (n : Int)
 | tru (b : Bool)
 | lam (x : ByteArray) (A : GT) (e : GE)
 | app (f a : GE)
 | ar (s : Bool) (a b : GE)
 | ite (c a b : GE)
 | pair (a b : GE)
 | part (s : Bool) (e : GE)
 | cast (A B : GT) (l : Int) (e : GE)
def GT.gr : GT → GT
 | .any => .any
 | .int => .int
 | .bool => .bool
 | .fn _ _ => .fn .any .any
 | .pr _ _ => .pr .any .any
def GT.Gd (t : GT) : Prop := t ≠ .any ∧ t.gr = t
inductive Co : GT → GT → Prop
 | l {b} : Co .any b
 | r {a} : Co a .any
 | int : Co .int .int
 | bool : Co .bool .bool
 | fn {a b a' b'} : Co a a' → Co b b' → Co (.fn a b) (.fn a' b')
 | pr {a b a' b'} : Co a a' → Co b b' → Co (.pr a b) (.pr a' b')
inductive Le : GT → GT → Prop
 | any {a} : Le a .any
 | int : Le .int .int
 | bool : Le .bool .bool
 | fn {a b a' b'} : Le a a' → Le b b' → Le (.fn a b) (.fn a' b')
 | pr {a b a' b'} : Le a a' → Le b b' → Le (.pr a b) (.pr a' b')
def GE.sub : GE → ByteArray → GE → GE
 | .var y, x, v => if y = x then v else .var y
 | .num n, _, _ => .num n
 | .tru b, _, _ => .tru b
 | .lam y A e, x, v => if y = x then .lam y A e else .lam y A (e.sub x v)
 | .app f a, x, v => .app (f.sub x v) (a.sub x v)
 | .ar s a b, x, v => .ar s (a.sub x v) (b.sub x v)
 | .ite c a b, x, v => .ite (c.sub x v) (a.sub x v) (b.sub x v)
 | .pair a b, x, v => .pair (a.sub x v) (b.sub x v)
 | .part s e, x, v => .part s (e.sub x v)
 | .cast A B l e, x, v => .cast A B l (e.sub x v)
inductive GV : GE → Prop
 | num {n} : GV (.num n)
 | tru {b} : GV (.tru b)
 | lam {x A e} : GV (.lam x A e)
 | pair {a b} : GV a → GV b → GV (.pair a b)
 | pf {a b c d l e} : GV e → GV (.cast (.fn a b) (.fn c d) l e)
 | pp {a b c d l e} : GV e → GV (.cast (.pr a b) (.pr c d) l e)
 | inj {A l e} : GV e → A.Gd → GV (.cast A .any l e)
def A9v (s : Bool) (m n : Int) : GE := if s = true then .tru (decide (m < n)) else .num ((m + n) % 1000)
inductive GS : GE → GE → Prop
 | app1 {f f' a} : GS f f' → GS (.app f a) (.app f' a)
 | app2 {f a a'} : GV f → GS a a' → GS (.app f a) (.app f a')
 | ar1 {s a a' b} : GS a a' → GS (.ar s a b) (.ar s a' b)
 | ar2 {s a b b'} : GV a → GS b b' → GS (.ar s a b) (.ar s a b')
 | ite1 {c c' a b} : GS c c' → GS (.ite c a b) (.ite c' a b)
 | pair1 {a a' b} : GS a a' → GS (.pair a b) (.pair a' b)
 | pair2 {a b b'} : GV a → GS b b' → GS (.pair a b) (.pair a b')
 | part1 {s e e'} : GS e e' → GS (.part s e) (.part s e')
 | cast1 {A B l e e'} : GS e e' → GS (.cast A B l e) (.cast A B l e')
 | beta {x A b v} : GV v → GS (.app (.lam x A b) v) (b.sub x v)
 | appx {a b c d l f v} : GV f → GV v → GS (.app (.cast (.fn a b) (.fn c d) l f) v) (.cast b d l (.app f (.cast c a (-l) v)))
 | ar {s m n} : GS (.ar s (.num m) (.num n)) (A9v s m n)
 | ite {b x y} : GS (.ite (.tru b) x y) (if b = true then x else y)
 | part {s a b} : GV a → GV b → GS (.part s (.pair a b)) (if s = true then b else a)
 | partx {s a b c d l e} : GV e → GS (.part s (.cast (.pr a b) (.pr c d) l e)) (.cast (if s = true then b else a) (if s = true then d else c) l (.part s e))
 | cid {A l v} : GV v → (A = .any ∨ A = .int ∨ A = .bool) → GS (.cast A A l v) v
 | up {A l v} : GV v → A ≠ .any → A.gr ≠ A → GS (.cast A .any l v) (.cast A.gr .any l (.cast A A.gr l v))
 | down {B l v} : GV v → B ≠ .any → B.gr ≠ B → GS (.cast .any B l v) (.cast B.gr B l (.cast .any B.gr l v))
 | hit {G l m w} : GV w → G.Gd → GS (.cast .any G l (.cast G .any m w)) w
inductive Ss : GE → GE → Prop
 | refl {e} : Ss e e
 | step {a b c} : GS a b → Ss b c → Ss a c
abbrev GC := ByteArray → Option (GT × GT)
def emp : GC := fun _ => none
def gup (Γ : GC) (x : ByteArray) (A A' : GT) : GC := fun y => if x = y then some (A, A') else Γ y
inductive GP : GC → GE → GE → GT → GT → Prop
 | var {Γ x A A'} : Γ x = some (A, A') → Le A A' → GP Γ (.var x) (.var x) A A'
 | num {Γ n} : GP Γ (.num n) (.num n) .int .int
 | tru {Γ b} : GP Γ (.tru b) (.tru b) .bool .bool
 | lam {Γ x A A' B B' e e'} : Le A A' → GP (gup Γ x A A') e e' B B' → GP Γ (.lam x A e) (.lam x A' e') (.fn A B) (.fn A' B')
 | app {Γ f f' a a' A A' B B'} : GP Γ f f' (.fn A B) (.fn A' B') → GP Γ a a' A A' → GP Γ (.app f a) (.app f' a') B B'
 | ar {Γ s a a' b b'} : GP Γ a a' .int .int → GP Γ b b' .int .int → GP Γ (.ar s a b) (.ar s a' b') (if s = true then .bool else .int) (if s = true then .bool else .int)
 | ite {Γ c c' a a' b b' A A'} : GP Γ c c' .bool .bool → GP Γ a a' A A' → GP Γ b b' A A' → GP Γ (.ite c a b) (.ite c' a' b') A A'
 | pair {Γ a a' b b' A A' B B'} : GP Γ a a' A A' → GP Γ b b' B B' → GP Γ (.pair a b) (.pair a' b') (.pr A B) (.pr A' B')
 | part {Γ s e e' A A' B B'} : GP Γ e e' (.pr A B) (.pr A' B') → GP Γ (.part s e) (.part s e') (if s = true then B else A) (if s = true then B' else A')
 | castL {Γ e e' A B A' l} : GP Γ e e' A A' → Co A B → Le B A' → GP Γ (.cast A B l e) e' B A'
 | castR {Γ e e' A A' B' l} : GP Γ e e' A A' → Co A' B' → Le A B' → GP Γ e (.cast A' B' l e') A B'
 | castB {Γ e e' A B A' B' l l'} : GP Γ e e' A A' → Co A B → Co A' B' → Le B B' → GP Γ (.cast A B l e) (.cast A' B' l' e') B B'
inductive GX where
 | n (n : Int) | b (b : Bool) | p | f
def GE.tx : GE → GX
 | .num n => .n n
 | .tru b => .b b
 | .pair _ _ => .p
 | .cast _ (.fn _ _) _ _ => .f
 | .cast _ (.pr _ _) _ _ => .p
 | .cast _ _ _ e => e.tx
 | _ => .f
def InG (G : IM) (bs : A0d) (F : List Nat) : Prop := (bs.map Prod.fst).Sublist F ∧ ∀ q ∈ bs, G q.1 = some q.2
mutual
theorem A2l : ∀ t : Ty, M4 t ≤ 4294967296 → t.small
 | .mk _ ks, h => by
  rw [M4] at h
  have := A2h ks
  simp only [Ty.small]
  exact ⟨by omega, A51 ks (by omega)⟩
theorem A51 : ∀ ts : List Ty, U7 ts ≤ 4294967296 → Ty.smallL ts
 | [], _ => by simp [Ty.smallL]
 | t :: ts, h => by
  rw [U7] at h
  have := A00 t
  have := A2h ts
  simp only [Ty.smallL]
  exact ⟨A2l t (by omega), A51 ts (by omega)⟩
end
mutual
theorem A52 : ∀ t : Tm, S9 t ≤ 4294967296 → t.small
 | .mk _ nm _ ty fr _ ks, h => by
  rw [S9] at h
  have := A2X ks
  have := A00 ty
  have := A00 fr
  simp only [Tm.small]
  exact ⟨by omega, A2l ty (by omega), A2l fr (by omega), by omega, A53 ks (by omega)⟩
theorem A53 : ∀ ts : List Tm, S4 ts ≤ 4294967296 → Tm.smallL ts
 | [], _ => by simp [Tm.smallL]
 | t :: ts, h => by
  rw [S4] at h
  have := A5M t
  have := A2X ts
  simp only [Tm.smallL]
  exact ⟨A52 t (by omega), A53 ts (by omega)⟩
end
mutual
theorem A1J : ∀ t : Tm, (D4 t : Int) ≤ S9 t + 1
 | .mk _ nm _ ty fr _ ks => by
  have := A54 ks
  have := A00 ty
  have := A00 fr
  rw [S9, D4]; omega
theorem A54 : ∀ ts : List Tm, (H0 ts : Int) ≤ ts.length + S4 ts
 | [] => by rw [S4, H0]; simp
 | t :: ts => by
  have := A1J t
  have := A54 ts
  rw [S4, H0, List.length_cons]; omega
end
def O7 : Ty := .mk 1 []
def W6 : Nat → Ty → Prop
 | 0, .mk k ks => ks = [] ∧ k ≠ 4 ∧ k ≠ 5
 | n + 1, .mk k ks => (k = 4 ∨ k = 5 → ks.length = 2) ∧ (k ≠ 4 → k ≠ 5 → ks.length = 0) ∧ ∀ t ∈ ks, W6 n t
mutual
def V3 : Ty → Prop
 | .mk k ks => (k = 4 ∨ k = 5 → ks.length = 2) ∧ (k ≠ 4 → k ≠ 5 → ks.length = 0) ∧ A55 ks
def A55 : List Ty → Prop
 | [] => True
 | t :: ts => V3 t ∧ A55 ts
end
theorem W6.up : ∀ {n : Nat} {t : Ty}, W6 n t → W6 (n + 1) t
 | 0, .mk k ks, h => by
  obtain ⟨rfl, h1, h2⟩ := h
  exact ⟨fun h => by omega, fun _ _ => rfl, by simp⟩
 | n + 1, .mk k ks, h => by
  obtain ⟨h1, h2, h3⟩ := h
  exact ⟨h1, h2, fun t ht => (h3 t ht).up⟩
theorem W6.le {n m : Nat} {t : Ty} (h : W6 n t) (hm : n ≤ m) : W6 m t := by
 induction hm with
 | refl => exact h
 | step _ ih => exact ih.up
theorem A9w {d : Nat} {k : Int} {ts : List Ty} (h0 : d = 0 → k < 4) (hl : (ts.length : Int) = R1 k) (h1 : 1 ≤ k) (h5 : k ≤ 5) (ha : ∀ u ∈ ts, W6 (d - 1) u) : W6 d (.mk k ts) := by
 have hk : k = 1 ∨ k = 2 ∨ k = 3 ∨ k = 4 ∨ k = 5 := by omega
 cases d with
 | zero =>
  have hk4 := h0 rfl
  refine ⟨?_, by omega, by omega⟩
  have : R1 k = 0 := by
   rcases hk with rfl | rfl | rfl | rfl | rfl <;> first | rfl | omega
  exact List.length_eq_zero_iff.1 (by omega)
 | succ d =>
  refine ⟨?_, ?_, ha⟩
  ·rintro (rfl | rfl)
   ·have : R1 4 = 2 := rfl
    omega
   ·have : R1 5 = 2 := rfl
    omega
  ·intro h4 h5
   have : R1 k = 0 := by
    rcases hk with rfl | rfl | rfl | rfl | rfl <;> first | rfl | omega
   omega
def A1K : Ty := .mk 2 []
def A2Y : Ty := .mk 3 []
mutual
def W7 : Ty → Ty → Bool
 | .mk k ks, t => decide (k = t.k) && A56 ks t.ks
def A56 : List Ty → List Ty → Bool
 | [], [] => true
 | a :: xs, b :: ys => W7 a b && A56 xs ys
 | _, _ => false
end
abbrev Cx := List (ByteArray × Ty)
def A31 (cx : Cx) (nm : ByteArray) : Nat → Option Ty
 | 0 => none
 | n + 1 => match cx[n]? with
  | some b => if b.1 = nm then some b.2 else A31 cx nm n
  | none => A31 cx nm n
def A2Z (cx : Cx) (nm : ByteArray) : Option Ty := A31 cx nm cx.length
mutual
def A20 : Ty → Ty → Ty
 | .mk k ks, b => if k = 1 then b else if b.k = 1 then .mk k ks else .mk k (A57 ks b.ks)
def A57 : List Ty → List Ty → List Ty
 | a :: xs, b :: ys => A20 a b :: A57 xs ys
 | _, _ => []
end
def A2m (kind : Int) (t : Ty) : Option (Ty × Ty) :=
 if t.k = kind then some (t.ks.getD 0 A4, t.ks.getD 1 A4) else if t.k = 1 then some (O7, O7) else none
def A2n (cx : Cx) (k : Int) (nm : ByteArray) (ty : Ty) (h : List Ty) : Option (List Ty × Ty) :=
 if k = 1 then (match A2Z cx nm with | some t => some ([], t) | none => none)
 else if k = 2 then some ([], A1K)
 else if k = 3 ∨ k = 4 then some ([], A2Y)
 else if k = 5 then some ([], .mk 4 [ty, h.getD 0 A4])
 else if k = 6 then (match A2m 4 (h.getD 0 A4) with | some (a, b) => if U4 (h.getD 1 A4) a = true then some ([.mk 4 [a, b], a], b) else none | none => none)
 else if k = 7 ∨ k = 8 then (if U4 (h.getD 0 A4) A1K = true ∧ U4 (h.getD 1 A4) A1K = true then some ([A1K, A1K], if k = 8 then A2Y else A1K) else none)
 else if k = 9 then (if U4 (h.getD 0 A4) A2Y = true ∧ U4 (h.getD 1 A4) (h.getD 2 A4) = true then some ([A2Y, A20 (h.getD 1 A4) (h.getD 2 A4), A20 (h.getD 1 A4) (h.getD 2 A4)], A20 (h.getD 1 A4) (h.getD 2 A4)) else none)
 else if k = 10 then some ([], .mk 5 [h.getD 0 A4, h.getD 1 A4])
 else if k = 13 then (if U4 (h.getD 0 A4) ty = true then some ([ty], ty) else none)
 else (match A2m 5 (h.getD 0 A4) with | some (a, b) => some ([.mk 5 [a, b]], if k = 12 then b else a) | none => none)
def A58 (cx : Cx) (k : Int) (nm : ByteArray) (ty : Ty) (h : List Ty) : Option (List Ty × Ty) := match A2n cx k nm ty h with
 | some (w, t) => if R2 t = true then some (w, t) else none
 | none => none
def A59 : List Ty → List Ty → Bool
 | [], _ => true
 | a :: xs, b :: ys => W7 a b && A59 xs ys
 | _ :: _, [] => false
def A32 (cx : Cx) (k : Int) (nm : ByteArray) (ty : Ty) : Cx := if k = 5 then cx ++ [(nm, ty)] else cx
mutual
def A21 (cx : Cx) : Tm → Option Ty
 | .mk k nm num ty fr lb ks => match A6a (A32 cx k nm ty) ks with
  | none => none
  | some h => if k = 14 then (if W7 (h.getD 0 A4) fr = true then some ty else none)
   else match A58 cx k nm ty h with
    | none => none
    | some (w, t) => if A59 w h = true then some t else none
def A6a (cx : Cx) : List Tm → Option (List Ty)
 | [] => some []
 | t :: ts => match A21 cx t with
  | none => none
  | some u => match A6a cx ts with
   | none => none
   | some us => some (u :: us)
end
def A9x (e : Tm) : Option Ty := if U5 e = true then A21 [] e else none
def A6b (t : Ty) (G : IM) : IM → Value → List A1 → Prop := I1 fun G' v => ∃ cells' F, v = .agg ⟨cells'⟩ ∧ K4 (B0 G' G) t cells' F ∧ F.Nodup
def B2t (ks : List Ty) (G : IM) : IM → Value → List A1 → Prop := I1 fun G' v => ∃ p c F, v = .slice p ks.length c ∧ A5z (B0 G' G) ks p c F ∧ F.Nodup
def A9y (t : Tm) (G : IM) : IM → Value → List A1 → Prop := I1 fun G' v => ∃ cells' F, v = .agg ⟨cells'⟩ ∧ L8 (B0 G' G) t cells' F ∧ F.Nodup
def B2u (ks : List Tm) (G : IM) : IM → Value → List A1 → Prop := I1 fun G' v => ∃ p c F, v = .slice p ks.length c ∧ A2f (B0 G' G) ks p c F ∧ F.Nodup
theorem A33 : ∀ (t : Ty) (G : IM) (cells : List Value), t.small → C5 G t cells → Fn Tryz.prog 170 [.agg ⟨cells⟩] [] G (A6b t G) := by
 refine Ty.ind fun k ks ih G cells hts hr => ?_
 simp only [Ty.small] at hts
 obtain ⟨hsm, hks⟩ := hts
 obtain ⟨p, c, es, rfl, hk, hsl, hkl⟩ := hr.open
 simp only [Ty.k, Ty.ks] at hk hsl hkl ⊢
 have hn := hsl.le
 refine B5 Tryz.func170 rfl Tryz.ntmps170 Tryz.results170 rfl ?_
 intro w0
 refine tS (tR ?_)
 refine sE (K0 rfl rfl) rfl (fun b3 => ?_)
 refine sE (C0 rfl) rfl (fun b4 => ?_)
 refine B8 ?_
 refine sE (C0 rfl) rfl (fun b12 => ?_)
 refine I8 ?_
 refine sD (nS (tS (tS (tR (sQ (qA rfl) rfl (sD (nS ?_)))))))
 refine D2 ?_
 (refine A1D 25 2 ?_; refine Q5 (fun (x : Nat × Option Addr × Nat × List (List Value) × List Nat × IM) => ⟨[(4, .int .i64 x.1), (3, .pointer (some ⟨b12, 0, none⟩)), (1, .pointer (some ⟨b3, 0, none⟩)), (2, .pointer (some ⟨b4, 0, none⟩))], [.blk b12 [.int .i64 k, .slice x.2.1 x.1 x.2.2.1], .slc x.2.1 x.2.2.1 25 2 x.1 x.2.2.2.1.flatten, .blk b4 [.int .i64 0, .slice none 0 0], .blk b3 [.int .i64 k, .slice p ks.length c]], x.2.2.2.2.2⟩) (fun x => x.1 ≤ ks.length ∧ A9 G x.2.2.2.2.2 ∧ J5 (B0 x.2.2.2.2.2 G) (ks.take x.1) x.2.2.2.1 x.2.2.2.2.1 ∧ x.2.2.2.2.1.Nodup) (fun x => ks.length - x.1) (0, none, 0, [], [], G) ?_ ?_ ?_)
 (simp only [P3]; exact I9)
 exact ⟨by simp, A9.refl _, by simp [J5], by simp⟩
 (rintro ⟨i, pn, cn, es', F, Gi⟩ ⟨hi, hle, hst, hnd⟩; simp only [] at hi hle hst hnd ⊢; replace hsl := hsl.mono hle; replace hkl := hkl.mono hle)
 refine B8 ?_
 refine sB (M9 rfl rfl) rfl rfl (fun h34 => ?_) (fun h34 => ?_)
 refine sD (nS (qT rfl (tK (nS (tS ?_)))))
 refine D2 ?_
 (obtain ⟨b, o, p2, c2, rfl, hat, hre, hgb⟩ := hsl.kidTy hkl (i := i) (by omega) (by omega); refine I7 J0 rfl ?_)
 refine H2 (i := 0) (l' := [tt,ff,ff,ff,ff,ff,ff,ff,ff,ff,ff,ff]) rfl E8 (A5 rfl) rfl (by kernel_rfl) rfl rfl ?_
 refine aL 1 rfl (C1 rfl rfl) rfl ?_
 refine aP 2 rfl (A5 rfl) rfl ?_
 refine aL 3 rfl (C1 rfl rfl) rfl ?_
 refine aP 4 rfl (qM rfl) rfl ?_
 refine aP 5 rfl (L9 rfl rfl rfl (by omega)) rfl ?_
 refine aL 6 rfl (C4 rfl rfl (hat _) rfl) rfl ?_
 refine A8 7 ?_
 (refine A2c rfl rfl (ih ks[i] (List.getElem_mem (by omega)) _ _ (Ty.smallL_mem hks _ (List.getElem_mem (by omega))) hre) rfl rfl rfl (fun v G1 hle1 hh => ?_); obtain ⟨cells', F', rfl, hs', hnd'⟩ := hh; obtain ⟨p3, c3, es3, rfl, _⟩ := hs'.R.open)
 refine A8 8 ?_
 (refine T4 rfl (I4 rfl rfl rfl (by omega) (by unfold maxLen; omega) rfl) rfl rfl ?_; rintro _ ⟨b53, rfl⟩)
 refine A8 9 ?_
 refine A0p rfl rfl rfl rfl rfl rfl (fun _ _ => by repeat (first | exact Sw.here | apply Sw.there)) (U2 (by repeat first | exact mH | apply mT)) rfl (by simp [Value.oneCell']) (by unfold maxLen; omega) (by omega) rfl rfl (by repeat (first | exact B7.nil | apply B7.dep (by decide +kernel) | apply B7.blk (by decide +kernel) (by repeat (first | exact Pk.here | apply Pk.there)) (by repeat first | exact mH | apply mT))) (fun pn' cn' => ?_)
 refine aP 10 rfl (A5 rfl) rfl ?_
 refine A8 11 ?_
 refine N2 rfl rfl rfl rfl rfl rfl rfl rfl (by kernel_rfl) (by repeat first | exact Sw.here | apply Sw.there) (by rfl) ?_
 refine M7 (P7 (nS (tR (sQ (qM rfl) rfl ?_))))
 refine sP (O6 rfl rfl (by omega) (by omega)) rfl rfl ?_
 refine sQ (qA rfl) rfl (sD ?_)
 refine P5 (i + 1, pn', cn', es' ++ [[.int .i64 ks[i].k, .slice p3 ks[i].ks.length c3]], F ++ F', G1) ?_ ?_ ?_
 (simp only [P3]; exact I9)
 exact ⟨by omega, hle.trans hle1, J5.step hst hnd hle hle1 (by omega) hs' hnd'⟩
 (show ks.length - (i + 1) < ks.length - i; omega)
 refine O3 ?_
 (refine Y4 (by repeat (first | exact Pk.here | apply Pk.there)) (fun G2 hle2 hsl2 hno2 => ?_); obtain rfl : i = ks.length := (by omega))
 refine tT ?_
 refine F0 (rC rfl (A7 rfl rfl)) ?_
 (rw [List.take_length] at hst; obtain ⟨F2, hf1, hf2⟩ := K4.fin hst hnd hle hle2 hsl2 hno2 hk; exact ⟨rfl, _, F2, rfl, hf1, hf2⟩)
theorem A9z : ∀ (t : Tm) (G : IM) (cells : List Value), t.small → B6 G t cells → Fn Tryz.prog 113 [.agg ⟨cells⟩] [] G (A9y t G) := by
 refine Tm.ind fun k nm num ty fr lb ks ih G cells hts hr => ?_
 have hone := hr.one
 simp only [Tm.small] at hts
 obtain ⟨hnm, hty', hfr', hsm, hks⟩ := hts
 obtain ⟨tk, tks⟩ := ty
 obtain ⟨fk, fks⟩ := fr
 obtain ⟨pt, ct, pf, cf, p, c, es, rfl, hk, hnum, hlb, hty, hfr, hsl, hkl⟩ := hr.open9
 have hn := hsl.le
 have hT := A33 (.mk tk tks) G _ hty' hty
 refine B5 Tryz.func113 rfl Tryz.ntmps113 Tryz.results113 rfl ?_
 intro w0
 refine tS (tR ?_)
 refine sE (K0 rfl rfl) rfl (fun b3 => ?_)
 refine sE (C0 rfl) rfl (fun b4 => ?_)
 refine sD (nS (tS (tR (sL (A7 rfl rfl) rfl rfl ?_))))
 refine sE (C0 rfl) rfl (fun b10 => ?_)
 refine B8 ?_
 (refine L5 rfl hT rfl rfl (fun v G1 hle1 hh => ?_); obtain ⟨V9, F1, rfl, hs1, hn1⟩ := hh; obtain ⟨p1, c1, rfl, _⟩ := hs1.open; have hF := A33 (.mk fk fks) G1 _ hfr' (hfr.mono hle1))
 refine E0 ?_
 (refine L5 rfl hF rfl rfl (fun v G2 hle2 hh => ?_); obtain ⟨cs2, F2, rfl, hs2, hn2⟩ := hh; obtain ⟨p2, c2, rfl, _⟩ := hs2.open; replace hsl := hsl.mono (hle1.trans hle2); replace hkl := hkl.mono (hle1.trans hle2))
 refine M8 ?_
 refine D2 ?_
 (refine A1D 28 9 ?_; refine Q5 (fun (x : Nat × Option Addr × Nat × List (List Value) × List Nat × IM) => ⟨[(4, .int .i64 x.1), (3, .pointer (some ⟨b10, 0, none⟩)), (1, .pointer (some ⟨b3, 0, none⟩)), (2, .pointer (some ⟨b4, 0, none⟩))], [.blk b10 [.int .i64 k, .string nm, .int .i64 num, .int .i64 tk, .slice p1 tks.length c1, .int .i64 fk, .slice p2 fks.length c2, .int .i64 lb, .slice x.2.1 x.1 x.2.2.1], .slc x.2.1 x.2.2.1 28 9 x.1 x.2.2.2.1.flatten, .blk b4 [.int .i64 0, .string ⟨⟨[]⟩⟩, .int .i64 0, .int .i64 0, .slice none 0 0, .int .i64 0, .slice none 0 0, .int .i64 0, .slice none 0 0], .blk b3 [.int .i64 k, .string nm, .int .i64 num, .int .i64 tk, .slice pt tks.length ct, .int .i64 fk, .slice pf fks.length cf, .int .i64 lb, .slice p ks.length c]], x.2.2.2.2.2⟩) (fun x => x.1 ≤ ks.length ∧ A9 G2 x.2.2.2.2.2 ∧ J6 (B0 x.2.2.2.2.2 G2) (ks.take x.1) x.2.2.2.1 x.2.2.2.2.1 ∧ x.2.2.2.2.1.Nodup) (fun x => ks.length - x.1) (0, none, 0, [], [], G2) ?_ ?_ ?_)
 (simp only [P3]; exact I9)
 exact ⟨by simp, A9.refl _, by simp [J6], by simp⟩
 (rintro ⟨i, pn, cn, es', F, Gi⟩ ⟨hi, hle, hst, hnd⟩; simp only [] at hi hle hst hnd ⊢; replace hsl := hsl.mono hle; replace hkl := hkl.mono hle)
 refine B8 ?_
 refine sB (M9 rfl rfl) rfl rfl (fun h56 => ?_) (fun h56 => ?_)
 refine sD (nS (qT rfl (tK (nS (tS ?_)))))
 refine D2 ?_
 (obtain ⟨b, o, e, rfl, hl, hat, hre, hgb⟩ := hsl.kidTm hkl (i := i) (by omega) (by omega); have hone := hre.one; refine I7 J0 rfl ?_)
 refine H2 (i := 0) (l' := [tt,ff,ff,ff,ff,ff,ff,ff,ff,ff,ff,ff]) rfl E8 (A5 rfl) rfl (by kernel_rfl) rfl rfl ?_
 refine aL 1 rfl (C1 rfl rfl) rfl ?_
 refine aP 2 rfl (A5 rfl) rfl ?_
 refine aL 3 rfl (C1 rfl rfl) rfl ?_
 refine aP 4 rfl (qM rfl) rfl ?_
 refine aP 5 rfl (L9 rfl rfl rfl (by omega)) rfl ?_
 refine aL 6 rfl (C4 rfl rfl (hat _) hl) rfl ?_
 refine A8 7 ?_
 (refine A2c rfl rfl (ih ks[i] (List.getElem_mem (by omega)) _ _ (Tm.smallL_mem hks _ (List.getElem_mem (by omega))) hre) rfl rfl rfl (fun v G3 hle3 hh => ?_); obtain ⟨cells', F', rfl, hs', hnd'⟩ := hh; obtain ⟨qt, dt, et', qf, df, ef', q3, d3, es3, rfl, _⟩ := hs'.R.open)
 refine A8 8 ?_
 (refine T4 rfl (I4 rfl rfl rfl (by omega) (by unfold maxLen; omega) rfl) rfl rfl ?_; rintro _ ⟨b75, rfl⟩)
 refine A8 9 ?_
 refine A0p rfl rfl rfl rfl rfl rfl (fun _ _ => by repeat (first | exact Sw.here | apply Sw.there)) (U2 (by repeat first | exact mH | apply mT)) rfl (by simp [Value.oneCell']) (by unfold maxLen; omega) (by omega) rfl rfl (by repeat (first | exact B7.nil | apply B7.dep (by decide +kernel) | apply B7.blk (by decide +kernel) (by repeat (first | exact Pk.here | apply Pk.there)) (by repeat first | exact mH | apply mT))) (fun pn' cn' => ?_)
 refine aP 10 rfl (A5 rfl) rfl ?_
 refine A8 11 ?_
 refine N2 rfl rfl rfl rfl rfl rfl rfl rfl (by kernel_rfl) (by repeat first | exact Sw.here | apply Sw.there) (by rfl) ?_
 refine M7 (P7 (nS (tR (sQ (qM rfl) rfl ?_))))
 refine sP (O6 rfl rfl (by omega) (by omega)) rfl rfl ?_
 refine sQ (qA rfl) rfl (sD ?_)
 refine P5 (i + 1, pn', cn', es' ++ [[.int .i64 ks[i].k, .string ks[i].nm, .int .i64 ks[i].num, .int .i64 ks[i].ty.k, .slice qt ks[i].ty.ks.length dt, .int .i64 ks[i].fr.k, .slice qf ks[i].fr.ks.length df, .int .i64 ks[i].lb, .slice q3 ks[i].ks.length d3]], F ++ F', G3) ?_ ?_ ?_
 (simp only [P3]; exact I9)
 exact ⟨by omega, hle.trans hle3, J6.step hst hnd hle hle3 (by omega) hs' hnd'⟩
 (show ks.length - (i + 1) < ks.length - i; omega)
 refine O3 ?_
 (refine Y4 (by repeat (first | exact Pk.here | apply Pk.there)) (fun G4 hle4 hsl4 hno4 => ?_); obtain rfl : i = ks.length := (by omega))
 refine tT ?_
 refine F0 (rC rfl (A7 rfl rfl)) ?_
 (rw [List.take_length] at hst; obtain ⟨F3, hf1, hf2⟩ := A2f.fin hst hnd hle hle4 hsl4 hno4; obtain ⟨F5, hg1, hg2⟩ := L8.mk3 (nm := nm) hk hnum hlb hle1 hle2 (hle.trans hle4) hs1 hn1 hs2 hn2 hf1 hf2; exact ⟨rfl, _, F5, rfl, hg1, hg2⟩)
mutual
def A34 (g : Tm → Tm) : Tm → Tm
 | .mk k nm num ty fr lb ks => g (.mk k nm num ty fr lb (A35 g ks))
def A35 (g : Tm → Tm) : List Tm → List Tm
 | [] => []
 | t :: ts => A34 g t :: A35 g ts
end
mutual
def mOk (Q : Tm → Prop) (g : Tm → Tm) : Tm → Prop
 | .mk k nm num ty fr lb ks => A6c Q g ks ∧ Q (.mk k nm num ty fr lb (A35 g ks))
def A6c (Q : Tm → Prop) (g : Tm → Tm) : List Tm → Prop
 | [] => True
 | t :: ts => mOk Q g t ∧ A6c Q g ts
end
def B2v (g : Tm → Tm) (Q : Tm → Prop) (fid : FuncId) (us cs : List Value) : Prop := ∀ (t : Tm) (G0 G1 : IM) (cells : List Value) (F : List Nat), Q t → A9 G0 G1 → L8 (B0 G1 G0) t cells F → F.Nodup →
 Fn Tryz.prog fid (us ++ [.agg ⟨cells⟩] ++ cs) [] G1 (I1 fun G2 v => ∃ cells' F', v = .agg ⟨cells'⟩ ∧ L8 (B0 G2 G0) (g t) cells' F' ∧ F'.Nodup)
section
variable {P : Program} {Γ : F8} {env : H1} {hp : List A1} {G : IM} {ty : TypeId}
variable {K : Po} {ops : Array Oper} {rest : List Oper} {pos : String} {af : Array Edge} {gd : Option (Nat × Bool)}
theorem A1L {H H' : List (Nat × Nat)} {fuel : Nat} {listed l' : List Bool} {j d : Nat} {f : FuncId} [hF : B1 P f] {xs : List Operand} {ats : Array TypeId} {vs : List Value} {e : A1} {rst : List A1} {post : IM → Value → List A1 → Prop}
  (hi : ops[j]? = some ⟨some d, .call ⟨.value (.func f), ⟨xs⟩, ats⟩, ty, pos, af, gd⟩) (hx : evl env xs = some vs) (h : Fn P f vs [e] G post) (hp' : hp.Perm ([e] ++ rst)) (hw : J1 ops env gd = some true) (hd : Nat.blt d Γ.n = true) (hl : listed.set j true = l')
  (hok : B7 ops j hp G e H H')
  (k : ∀ v G' outs, A9 G G' → post G' v outs → K7 P Γ ops K H' fuel l' ⟨(d, v) :: env, outs ++ rst, G'⟩) : T1 P Γ ops K H fuel listed j ⟨env, hp, G⟩ :=
 A2b hi (A2J hx h hp' hd) hw hl (fun _ _ hs => by simpa [Fp] using hok.spec hs) hok.filter (by rintro _ ⟨v, G', outs, rfl, hle, hq⟩; exact k v G' outs hle hq)
end
section forget
variable {P : Program} {Γ : F8} {env : H1} {hp : List A1} {G : IM} {K : Po} {ops : Array Oper} {rest : List Oper} {ty : TypeId} {pos : String} {af : Array Edge} {gd : Option (Nat × Bool)}
end forget
def tAt : Tm → List Int → Option Tm
 | t, [] => some t
 | .mk _ _ _ _ _ _ ks, i :: is => if h : 0 ≤ i ∧ i < ks.length then tAt (ks[i.toNat]'(by omega)) is else none
def z9 : List Value := [.int .i64 0, .string ⟨⟨[]⟩⟩, .int .i64 0, .int .i64 0, .slice none 0 0, .int .i64 0, .slice none 0 0, .int .i64 0, .slice none 0 0]
def AtP (t : Tm) (path : List Int) (G : IM) : IM → Value → List A1 → Prop := fun G' v outs => G' = G ∧ outs = [] ∧
 ((∃ x cells, tAt t path = some x ∧ B6 G x cells ∧ v = .tuple ⟨[.agg ⟨cells⟩, .bool true]⟩) ∨ (tAt t path = none ∧ v = .tuple ⟨[.agg ⟨z9⟩, .bool false]⟩))
def K1 : Tm := .mk 0 ⟨⟨[]⟩⟩ 0 (.mk 0 []) (.mk 0 []) 0 []
theorem L8.zero (G : IM) : L8 G K1 z9 [] := by
 simp only [K1, L8, K4, J5, J6, z9]
 refine ⟨[.int .i64 0, .slice none 0 0], [.int .i64 0, .slice none 0 0], none, 0, [], [], [], [], rfl, ⟨by omega, by omega⟩, ⟨by omega, by omega⟩, ⟨by omega, by omega⟩, ?_, ?_, D0.nil _ _, ⟨rfl, rfl⟩, rfl, by simp [E5]⟩
 ·exact ⟨none, 0, [], [], rfl, ⟨by omega, by omega⟩, D0.nil _ _, ⟨rfl, rfl⟩, rfl, by simp [E5]⟩
 ·exact ⟨none, 0, [], [], rfl, ⟨by omega, by omega⟩, D0.nil _ _, ⟨rfl, rfl⟩, rfl, by simp [E5]⟩
def B2w (t : Tm) (path : List Int) : Tm × Bool := if U5 t = true then (match tAt t path with | some x => (x, true) | none => (K1, false)) else (K1, false)
def TbP (r : Tm × Bool) (G : IM) : IM → Value → List A1 → Prop := I1 fun G' v => ∃ cells F, v = .tuple ⟨[.agg ⟨cells⟩, .bool r.2]⟩ ∧ L8 (B0 G' G) r.1 cells F ∧ F.Nodup
section rlaws
variable {P : Program} {Γ : F8} {env : H1} {hp : List A1} {G : IM} {ty : TypeId}
theorem A9A {m n : Nat} (hm : m < 4611686018427387904) (hn : n < 4611686018427387904) : m ^^^ n < 4611686018427387904 := by
 have := @Nat.xor_lt_two_pow m n 62 (by omega) (by omega)
 simpa using this
theorem A9B {x y : Operand} {t t' : TypeId} {m n : Nat} (hx : evo env x = some (.int .i64 (m : Int))) (hy : evo env y = some (.int .i64 (n : Int))) (hm : m < 4611686018427387904) (hn : n < 4611686018427387904) :
  C9 P Γ ⟨env, hp, G⟩ (.binOp .xor t x y t') ty (.int .i64 ((m ^^^ n : Nat) : Int)) := by
 refine ⟨fun a _ hs _ _ _ _ w => ?_⟩
 have hlt := A9A hm hn
 have e : (BitVec.ofInt 64 (m : Int) ^^^ BitVec.ofInt 64 (n : Int)).toNat = m ^^^ n := by
  rw [BitVec.toNat_xor, BitVec.toNat_ofInt, BitVec.toNat_ofInt]
  congr 1 <;> omega
 have hw : IntKind.i64.wrap (((BitVec.ofInt 64 (m : Int) ^^^ BitVec.ofInt 64 (n : Int)).toNat : Nat) : Int) = ((m ^^^ n : Nat) : Int) := by
  rw [e]; exact A1f _ rfl (by omega) (by omega)
 simp only [execOp, eqGuard, binOp, Op.intBits, (hs.evo hx : a.eval x = _), (hs.evo hy : a.eval y = _), ne_eq, not_true_eq_false, if_false, Sem.run_bind, Sem.run_pure, Result.andThen_ok]
 rw [show IntKind.bits .i64 = 64 from rfl] at *
 simp only [hw]
 simp
theorem A1m {x y : Operand} {t t' : TypeId} {m n : Nat} (hx : evo env x = some (.int .i64 (m : Int))) (hy : evo env y = some (.int .i64 (n : Int))) (h : m * n ≤ 9223372036854775807) :
  C9 P Γ ⟨env, hp, G⟩ (.binOp .mul t x y t') ty (.int .i64 ((m * n : Nat) : Int)) := by
 have e : ((m : Int) * (n : Int)) = ((m * n : Nat) : Int) := by simp
 have h2 := A3A (P := P) (Γ := Γ) (hp := hp) (G := G) (ty := ty) (t := t) (t' := t') hx hy (by rw [e]; omega) (by rw [e]; omega)
 rwa [e] at h2
theorem H4 {x y : Operand} {t t' : TypeId} {m n : Nat} (hx : evo env x = some (.int .i64 (m : Int))) (hy : evo env y = some (.int .i64 (n : Int))) (h : m + n ≤ 9223372036854775807) :
  C9 P Γ ⟨env, hp, G⟩ (.binOp .add t x y t') ty (.int .i64 ((m + n : Nat) : Int)) := by
 have e : ((m : Int) + (n : Int)) = ((m + n : Nat) : Int) := by simp
 have h2 := O6 (P := P) (Γ := Γ) (hp := hp) (G := G) (ty := ty) (t := t) (t' := t') hx hy (by rw [e]; omega) (by rw [e]; omega)
 rwa [e] at h2
theorem X7 {x y : Operand} {t t' : TypeId} {m : Nat} (hx : evo env x = some (.int .i64 ((m + 1 : Nat) : Int))) (hy : evo env y = some (.int .i64 1)) (h : m ≤ 9223372036854775807) :
  C9 P Γ ⟨env, hp, G⟩ (.binOp .sub t x y t') ty (.int .i64 (m : Int)) := by
 have e : (((m + 1 : Nat) : Int) - 1) = (m : Int) := by omega
 have h2 := A0V (P := P) (Γ := Γ) (hp := hp) (G := G) (ty := ty) (t := t) (t' := t') hx hy (by rw [e]; omega) (by rw [e]; omega)
 rwa [e] at h2
theorem A2o {s d : TypeId} {is id : J4} [hS : E6 P s is] [hD : E6 P d id] (hd : id.desc = .int .i64) {k : IntKind} (hs : is.desc = .int k) {x : Operand} {n : Int} (hx : evo env x = some (.int k n)) (h0 : -9223372036854775808 ≤ n) (h1 : n ≤ 9223372036854775807) :
  C9 P Γ ⟨env, hp, G⟩ (.convert s d x) ty (.int .i64 n) := by
 refine ⟨fun a _ hst _ _ _ _ w => ?_⟩
 have hu := hD.und
 rw [hd] at hu
 have hus := hS.und
 rw [hs] at hus
 have hw : IntKind.i64.wrap n = n := A1f n rfl h0 h1
 simp [execOp, convert, run_underlying hus, run_underlying hu, (hst.evo hx : a.eval x = _), Conv.intToInt, hw]
theorem A9C {x y : Operand} {t el : TypeId} {i : J4} {sz by' : Nat} {zs : List Value} [hI : E6 P t i] (hd' : i.desc = .slice el) [hE : V7 P el sz by' zs] {p : Option Addr} {n c l : Nat}
  (hx : evo env x = some (.slice p n c)) (hy : evo env y = some (.int .i64 (l : Int))) (hl : l ≤ c) :
  C9 P Γ ⟨env, hp, G⟩ (.slice t x none (some y) none) ty (.slice p l c) := by
 refine ⟨fun a _ hs _ _ _ _ w => ?_⟩
 have hu := hI.und
 rw [hd'] at hu
 obtain ⟨d, hE⟩ := hE.ok
 obtain ⟨inf, z, t1, t2, t3, _⟩ := A2O (P := P) (t := el)
 have e1 : a.eval x = _ := hs.evo hx
 have e2 : a.eval y = _ := hs.evo hy
 have hb : ∀ code, (Instr.sliceBound (.int .i64 (l : Int)) c code).run P w = .ok l w := fun code => by
  unfold Instr.sliceBound
  simp only [asIntOf, Sem.run_bind, Sem.run_pure, Result.andThen_ok]
  rw [if_pos ⟨by omega, by omega⟩]
  simp
 simp only [execOp, Option.map, e1, e2, Instr.sliceAt, Sem.run_bind, run_underlying hu, Result.andThen_ok, Instr.slice, Instr.sliceBounds, Sem.run_pure, hb, t3]
 by_cases h : c = 0
 ·subst h; simp
 ·rw [if_neg h]; simp; cases p <;> simp [Addr.add]
end rlaws
def K2 (bs : List UInt8) : List Value := bs.map fun b => .int .u8 (b.toNat : Int)
theorem A6d (bs : List UInt8) : (K2 bs).length = bs.length := by simp [K2]
theorem A36 {bs : List UInt8} {i : Nat} {v : Value} (h : (K2 bs)[i]? = some v) : ∃ b : Nat, b < 256 ∧ v = .int .u8 (b : Int) := by
 unfold K2 at h
 rw [List.getElem?_map] at h
 cases hb : bs[i]? with
 | none => rw [hb] at h; simp at h
 | some b => rw [hb] at h; simp at h; exact ⟨b.toNat, b.toNat_lt, h.symm⟩
def rd (br : Nat) (pb : Option Addr) (nb cb p : Nat) : A1 := .blk br [.slice pb nb cb, .int .i64 (p : Int)]
def W8 (br : Nat) (pb : Option Addr) (nb cb p B : Nat) (Φ : IM → Value → Prop) : IM → Value → List A1 → Prop := fun G' v outs => ∃ p', p ≤ p' ∧ p' ≤ p + B ∧ outs = [rd br pb nb cb p'] ∧ Φ G' v
theorem W9 (G : IM) (br : Nat) (pb : Option Addr) (nb cb p : Nat) (bs : List UInt8) (n : Int) (hb : Sl G pb nb cb 1 (K2 bs)) (hnb : nb ≤ 2000) (hp : p < 1099511627776) :
  Fn Tryz.prog 59 [.pointer (some ⟨br, 0, none⟩), .int .i64 n] [rd br pb nb cb p] G (fun G' v outs => G' = G ∧ outs = [rd br pb nb cb (p + 1)] ∧ ∃ k, v = .int .i64 k ∧ 0 ≤ k ∧ (1 ≤ n → k < n)) := by
 unfold rd
 have hm1 : ∀ q, 0 < nb → q % nb < nb := fun q h => Nat.mod_lt _ h
 have hdv : p / nb ≤ p := Nat.div_le_self _ _
 refine B5 Tryz.func59 rfl Tryz.ntmps59 Tryz.results59 rfl ?_
 intro w0
 refine C2 ?_
 refine sQ (A6 rfl) rfl ?_
 refine sQ (A5 rfl) rfl (sL (C1 rfl rfl) rfl rfl ?_)
 refine sP (H4 (n := 1) rfl rfl (by omega)) rfl rfl ?_
 refine sQ (A6 rfl) rfl ?_
 refine E0 ?_
 refine sB (M9 rfl rfl) rfl rfl (fun h23 => ?_) (fun h23 => ?_)
 refine W2 ?_
 refine B2 (rT rfl) A2.refl ?_
 exact ⟨rfl, rfl, 0, rfl, Int.le_refl _, fun h => by omega⟩
 refine sQ (qM rfl) rfl (sQ (qM rfl) rfl ?_)
 refine sQ (A6 rfl) rfl ?_
 refine F9 ?_
 refine sB (qE rfl rfl) rfl rfl (fun h50 => ?_) (fun h50 => ?_)
 refine I3 ?_
 refine B2 (rT rfl) A2.refl ?_
 exact ⟨rfl, rfl, 0, rfl, Int.le_refl _, fun h => by omega⟩
 refine C2 ?_
 refine sQ (A6 rfl) rfl ?_
 refine sQ (A5 rfl) rfl (sL (C1 rfl rfl) rfl rfl ?_)
 refine sP (X7 rfl rfl (by omega)) rfl rfl ?_
 refine E0 ?_
 refine sQ (A6 rfl) rfl ?_
 refine F9 ?_
 refine sB (M9 rfl rfl) rfl rfl (fun h89 => ?_) (fun h89 => ?_)
 refine sD (nS (qT rfl (tS (tR (sQ (qM rfl) rfl ?_)))))
 refine sQ (A6 rfl) rfl ?_
 refine F9 ?_
 (obtain ⟨b, o, v, rfl, hv, hat, hgb⟩ := hb.kid (i := p) (by omega); obtain ⟨y, hy, rfl⟩ := A36 hv; refine sP (L9 rfl rfl rfl (by omega)) rfl rfl ?_)
 refine sL (J2 rfl rfl (hat _)) rfl rfl ?_
 refine sP (A2o rfl rfl rfl (by omega) (by omega)) rfl rfl ?_
 refine sQ (qM rfl) rfl ?_
 refine sP (A3B rfl rfl (by omega)) rfl rfl ?_
 refine sQ (qA rfl) rfl (sD (nS (tT (rS ?_))))
 refine B2 (rT rfl) A2.refl ?_
 exact ⟨rfl, rfl, _, rfl, Int.tmod_nonneg _ (by omega), fun h => Int.tmod_lt_of_pos _ (by omega)⟩
 refine sD (nS (cF rfl (tK (nS (tS ?_)))))
 (obtain ⟨b, o, v1, rfl, hv1, hat1, _⟩ := hb.kid (i := HMod.hMod p nb) (hm1 _ (by omega)); obtain ⟨y1, hy1, rfl⟩ := A36 hv1; obtain ⟨b', o', v2, hbb, hv2, hat2, _⟩ := hb.kid (i := HMod.hMod (p * 7 + 3) nb) (hm1 _ (by omega)); obtain ⟨y2, hy2, rfl⟩ := A36 hv2; cases hbb; have hl1 := hm1 p (by omega); have hl2 := hm1 (p * 7 + 3) (by omega); refine I7 J0 rfl ?_)
 refine H2 (i := 0) (l' := [tt,ff,ff,ff,ff,ff,ff,ff,ff,ff,ff,ff,ff,ff,ff,ff,ff,ff,ff,ff,ff,ff,ff,ff,ff,ff,ff,ff,ff,ff,ff,ff,ff,ff,ff,ff,ff,ff,ff,ff,ff,ff,ff,ff,ff,ff]) rfl E8 (qM rfl) rfl (by kernel_rfl) rfl rfl ?_
 refine aP 1 rfl (A6 rfl) rfl ?_
 refine aP 2 rfl (A5 rfl) rfl ?_
 refine aL 3 rfl (C1 rfl rfl) rfl ?_
 refine aP 4 rfl (qM rfl) rfl ?_
 refine aP 5 rfl (qM rfl) rfl ?_
 refine aP 6 rfl (A6 rfl) rfl ?_
 refine aP 7 rfl (A5 rfl) rfl ?_
 refine aL 8 rfl (C1 rfl rfl) rfl ?_
 refine aP 9 rfl (pLn rfl rfl) rfl ?_
 refine aP 10 rfl (A3R rfl rfl (by omega)) rfl ?_
 refine aP 11 rfl (L9 rfl rfl rfl (by first | exact hl1 | exact hl2)) rfl ?_
 refine aL 12 rfl (J2 rfl rfl (hat1 _)) rfl ?_
 refine aP 13 rfl (A2o rfl rfl rfl (by omega) (by omega)) rfl ?_
 refine aP 14 rfl (A1m (n := 131) rfl rfl (by omega)) rfl ?_
 refine aP 15 rfl (qM rfl) rfl ?_
 refine aP 16 rfl (A6 rfl) rfl ?_
 refine aP 17 rfl (A5 rfl) rfl ?_
 refine aL 18 rfl (C1 rfl rfl) rfl ?_
 refine aP 19 rfl (qM rfl) rfl ?_
 refine aP 20 rfl (A1m (n := 7) rfl rfl (by omega)) rfl ?_
 refine aP 21 rfl (H4 (n := 3) rfl rfl (by omega)) rfl ?_
 refine aP 22 rfl (qM rfl) rfl ?_
 refine aP 23 rfl (A6 rfl) rfl ?_
 refine aP 24 rfl (A5 rfl) rfl ?_
 refine aL 25 rfl (C1 rfl rfl) rfl ?_
 refine aP 26 rfl (pLn rfl rfl) rfl ?_
 refine aP 27 rfl (A3R rfl rfl (by omega)) rfl ?_
 refine aP 28 rfl (L9 rfl rfl rfl (by first | exact hl1 | exact hl2)) rfl ?_
 refine aL 29 rfl (J2 rfl rfl (hat2 _)) rfl ?_
 refine aP 30 rfl (A2o rfl rfl rfl (by omega) (by omega)) rfl ?_
 refine aP 31 rfl (A1m (n := 1117) rfl rfl (by omega)) rfl ?_
 refine aP 32 rfl (H4 rfl rfl (by omega)) rfl ?_
 refine aP 33 rfl (qM rfl) rfl ?_
 refine aP 34 rfl (A1m (n := 29) rfl rfl (by omega)) rfl ?_
 refine aP 35 rfl (H4 rfl rfl (by omega)) rfl ?_
 refine aP 36 rfl (qM rfl) rfl ?_
 refine aP 37 rfl (qM rfl) rfl ?_
 refine aP 38 rfl (A6 rfl) rfl ?_
 refine aP 39 rfl (A5 rfl) rfl ?_
 refine aL 40 rfl (C1 rfl rfl) rfl ?_
 refine aP 41 rfl (pLn rfl rfl) rfl ?_
 refine aP 42 rfl (A3S rfl rfl (by omega) (by omega)) rfl ?_
 refine aP 43 rfl (A1m (n := 53) rfl rfl (by omega)) rfl ?_
 refine aP 44 rfl (H4 rfl rfl (by omega)) rfl ?_
 refine aP 45 rfl (qA rfl) rfl ?_
 refine M7 (nS (tS (tR (sQ (qM rfl) rfl (sQ (qM rfl) rfl ?_)))))
 refine sP (A3S (n := 64) rfl rfl (by omega) (by omega)) rfl rfl ?_
 refine sP (A9B rfl rfl (by omega) (by omega)) rfl rfl ?_
 refine B8 ?_
 refine sP (A3B rfl rfl (by omega)) rfl rfl ?_
 refine sQ (qA rfl) rfl (sD (nS (tT ?_)))
 refine B2 (rT rfl) A2.refl ?_
 exact ⟨rfl, rfl, _, rfl, Int.tmod_nonneg _ (by omega), fun h => Int.tmod_lt_of_pos _ (by omega)⟩
structure A22 {ι : Type} (S : ι → Sy) (φ : ι → Prop) (e : Exit) (σ : Sy) : Prop where
 run : match e with
  | .normal => ∃ i, φ i ∧ Y2 σ (S i)
  | _ => False
section cut
variable {P : Program} {Γ : F8} {K : Po} {σ : Sy} {ι : Type}
theorem A0v {c y : Code} (S : ι → Sy) (φ : ι → Prop) (h : H8 P Γ c (A22 S φ) σ) (k : ∀ i, φ i → H8 P Γ y K (S i)) : H8 P Γ c (A0k P Γ y K) σ := by
 refine tri_post h ?_
 rintro e σ ⟨hk⟩
 cases e with
 | normal => obtain ⟨i, hi, hs⟩ := hk; exact ⟨A76 hs (k i hi)⟩
 | _ => exact hk.elim
where
 tri_post {c : Code} {K K' : Po} {σ : Sy} (h : H8 P Γ c K σ) (hk : ∀ e σ, K e σ → K' e σ) : H8 P Γ c K' σ := A41 h hk
theorem O9 {S : ι → Sy} {φ : ι → Prop} {σ : Sy} (i : ι) (hs : Y2 σ (S i)) (h : φ i) : A22 S φ .normal σ := ⟨⟨i, h, hs⟩⟩
theorem A9D {S : ι → Sy} {φ : ι → Prop} : V1 (A22 S φ) := fun _ _ h => h.run
instance npC5 {S : ι → Sy} {φ : ι → Prop} : Y3 (A22 S φ) := ⟨A9D⟩
end cut
section take
variable {P : Program} {Γ : F8} {env : H1} {hp : List A1} {G : IM} {K : Po} {ops : Array Oper} {rest : List Oper} {ty : TypeId} {pos : String} {af : Array Edge} {gd : Option (Nat × Bool)}
theorem B4 {d : Nat} {f : FuncId} [hF : B1 P f] {xs : List Operand} {ats : Array TypeId} {vs : List Value} {ins rst : List A1} {post : IM → Value → List A1 → Prop}
  (hx : evl env xs = some vs) (h : Fn P f vs ins G post) (hp' : hp.Perm (ins ++ rst)) (hw : J1 ops env gd = some true) (hd : Nat.blt d Γ.n = true)
  (k : ∀ v G' outs, A9 G G' → post G' v outs → D8 P Γ ops rest K ⟨(d, v) :: env, outs ++ rst, G'⟩) : D8 P Γ ops (⟨some d, .call ⟨.value (.func f), ⟨xs⟩, ats⟩, ty, pos, af, gd⟩ :: rest) K ⟨env, hp, G⟩ :=
 D1 (A2J hx h hp' hd) hw (by rintro _ ⟨v, G', outs, rfl, hle, hq⟩; exact k v G' outs hle hq)
end take
theorem X0 (G : IM) (br : Nat) (pb : Option Addr) (nb cb p : Nat) (bs : List UInt8) (q : Option Addr) (n c : Nat) (xs : List Value) (hb : Sl G pb nb cb 1 (K2 bs)) (hnb : nb ≤ 2000) (hp : p < 1099511627776) (hx : Sl G q n c 1 xs) (hn : 0 < n) :
  Fn Tryz.prog 99 [.pointer (some ⟨br, 0, none⟩), .slice q n c] [rd br pb nb cb p] G (fun G' v outs => G' = G ∧ outs = [rd br pb nb cb (p + 1)] ∧ v ∈ xs) := by
 refine B5 Tryz.func99 rfl Tryz.ntmps99 Tryz.results99 rfl ?_
 intro w0
 refine I3 ?_
 (refine B4 rfl (W9 G br pb nb cb p bs (n : Int) hb hnb hp) (List.Perm.refl _) rfl rfl (fun v G1 outs hle1 hh => ?_); obtain ⟨rfl, rfl, k, rfl, hk0, hkn⟩ := hh; obtain ⟨j, rfl⟩ := Int.eq_ofNat_of_zero_le hk0)
 (obtain ⟨b, o, v, rfl, hv, hat, _⟩ := hx.kid (i := j) (by omega); refine sP (L9 rfl rfl rfl (by omega)) rfl rfl ?_)
 refine sL (J2 rfl rfl (hat _)) rfl rfl ?_
 refine sQ (qA rfl) rfl (sD (nS (tT ?_)))
 refine B2 (rT rfl) A2.refl ?_
 exact ⟨rfl, rfl, List.mem_of_getElem? hv⟩
theorem A37 (G : IM) (br : Nat) (pb : Option Addr) (nb cb p : Nat) (bs : List UInt8) (q : Option Addr) (n c : Nat) (xs : List Value) (hb : Sl G pb nb cb 1 (K2 bs)) (hnb : nb ≤ 2000) (hp : p < 1099511627776) (hx : Sl G q n c 1 xs) (hn : 0 < n) :
  Fn Tryz.prog 96 [.pointer (some ⟨br, 0, none⟩), .slice q n c] [rd br pb nb cb p] G (fun G' v outs => G' = G ∧ outs = [rd br pb nb cb (p + 1)] ∧ v ∈ xs) := by
 refine B5 Tryz.func96 rfl Tryz.ntmps96 Tryz.results96 rfl ?_
 intro w0
 refine I3 ?_
 (refine B4 rfl (W9 G br pb nb cb p bs (n : Int) hb hnb hp) (List.Perm.refl _) rfl rfl (fun v G1 outs hle1 hh => ?_); obtain ⟨rfl, rfl, k, rfl, hk0, hkn⟩ := hh; obtain ⟨j, rfl⟩ := Int.eq_ofNat_of_zero_le hk0)
 (obtain ⟨b, o, v, rfl, hv, hat, _⟩ := hx.kid (i := j) (by omega); refine sP (L9 rfl rfl rfl (by omega)) rfl rfl ?_)
 refine sL (J2 rfl rfl (hat _)) rfl rfl ?_
 refine sQ (qA rfl) rfl (sD (nS (tT ?_)))
 refine B2 (rT rfl) A2.refl ?_
 exact ⟨rfl, rfl, List.mem_of_getElem? hv⟩
theorem A38 (G : IM) : Fn Tryz.prog 116 [] [] G (J8 (.agg ⟨[.int .i64 1, .slice none 0 0]⟩) G) := by
 refine B5 Tryz.func116 rfl Tryz.ntmps116 Tryz.results116 rfl ?_
 intro w0
 refine tS (tR ?_)
 refine sE (C0 rfl) rfl (fun b3 => ?_)
 refine C2 ?_
 refine F0 (rC rfl (A7 rfl rfl)) ?_
 exact ⟨rfl, rfl, rfl⟩
def dB : Nat → Nat
 | 0 => 0
 | d + 1 => 2 * dB d + 2
theorem A9E {d : Nat} (h : d ≤ 3) : dB (d + 1) ≤ 30 := by
 have : d = 0 ∨ d = 1 ∨ d = 2 ∨ d = 3 := by omega
 rcases this with rfl | rfl | rfl | rfl <;> decide
theorem A9F (k : Int) : R1 k ≤ 2 := by
 unfold R1; split <;> try split
 all_goals omega
theorem A39 : ∀ (ts : List Ty) (t : Ty), U7 (ts ++ [t]) = U7 ts + M4 t
 | [], t => by simp [U7]
 | a :: ts, t => by simp only [List.cons_append, U7, A39 ts t]; omega
theorem F4.ty {G : IM} {k : Int} {ts : List Ty} {es : List (List Value)} {p : Option Addr} {n c : Nat} (h : F4 G ts es) (hn : ts.length = n) (hs : Sl G p n c 2 es.flatten) (hk : D7 k) : C5 G (.mk k ts) [.int .i64 k, .slice p n c] := by
 subst hn
 simp only [C5]
 exact ⟨p, c, es, rfl, hk, D0.of hs h.len h.all (fun e he => (h.each e he).2), h⟩
theorem A6e (br : Nat) (pb : Option Addr) (nb cb : Nat) (bs : List UInt8) (hnb : nb ≤ 2000) : ∀ (d p : Nat) (G : IM), d ≤ 1000 → Sl G pb nb cb 1 (K2 bs) → p + dB (d + 1) < 1099511627776 →
  Fn Tryz.prog 111 [.pointer (some ⟨br, 0, none⟩), .int .i64 ((d + 1 : Nat) : Int)] [rd br pb nb cb p] G
   (W8 br pb nb cb p (dB (d + 1)) (fun G' v => ∃ t cells, v = .agg ⟨cells⟩ ∧ C5 G' t cells ∧ M4 t ≤ ((dB (d + 1) : Nat) : Int) ∧ W6 d t)) := by
 refine fun d => Nat.strongRecOn d fun d ih p G hd hb hp => ?_
 rw [dB] at hp ⊢
 refine B5 Tryz.func111 rfl Tryz.ntmps111 Tryz.results111 rfl ?_
 intro w0
 refine tS (tR ?_)
 refine sE (C0 rfl) rfl (fun b3 => ?_)
 refine sD (nS (tS (tR (sQ (qM rfl) rfl ?_))))
 (refine D1 (I4 rfl rfl rfl (by omega) (by unfold maxLen; omega) rfl) rfl ?_; rintro _ ⟨b9, rfl⟩)
 (refine N4 (by repeat (first | exact Pk.here | apply Pk.there)) (fun G1 hle1 hsl1 _ => ?_); refine B4 rfl (X0 G1 br pb nb cb p bs _ _ _ _ (hb.mono hle1) hnb (by omega) hsl1 (by decide)) (Pk.perm (by repeat (first | exact Pk.here | apply Pk.there))) rfl rfl (fun v G2 outs hle2 hh => ?_); obtain ⟨rfl, rfl, hv⟩ := hh; replace hb := hb.mono hle1; obtain ⟨k, rfl, hk1⟩ : ∃ k, v = .int .i64 k ∧ 1 ≤ k ∧ k ≤ 5 := (by simp only [List.mem_cons, List.not_mem_nil, or_false] at hv; rcases hv with rfl | rfl | rfl | rfl | rfl | rfl | rfl <;> exact ⟨_, rfl, by decide, by decide⟩))
 refine sQ (qA rfl) rfl (sD (nS (tS (tS ?_))))
 (have hv' := hv; refine A0v (fun (x : Bool) => ⟨(16, .bool x) :: [(5, .int .i64 k), (4, .pointer (some ⟨b3, 0, none⟩)), (0, .pointer (some ⟨br, 0, none⟩)), (1, .int .i64 ((d + 1 : Nat) : Int))], [rd br pb nb cb (p + 1), .blk b3 [.int .i64 0, .slice none 0 0]], G2⟩) (fun x => x = false → d = 0 → k < 4) ?_ ?_)
 refine tR (sQ (qM rfl) rfl ?_)
 refine sB (M9 rfl rfl) rfl rfl (fun h19 => ?_) (fun h19 => ?_)
 refine sQ (qM rfl) rfl (sQ (qM rfl) rfl ?_)
 refine sB (P6 rfl rfl) rfl rfl (fun h22 => ?_) (fun h22 => ?_)
 refine sQ (L4 rfl rfl) rfl (sD ?_)
 refine O9 true (P8 (by repeat (first | exact H9.nil | refine H9.cons rfl ?_)) (by repeat (first | exact A2.refl | exact A2.nil | refine A2.cons (by repeat (first | exact Pk.here | apply Pk.there)) ?_ | apply A2.drop))) ?_
 (show _ = false → d = 0 → k < 4; intro hf h0; first | exact absurd hf (by decide) | omega)
 refine sQ (L4 rfl rfl) rfl (sD ?_)
 refine O9 false (P8 (by repeat (first | exact H9.nil | refine H9.cons rfl ?_)) (by repeat (first | exact A2.refl | exact A2.nil | refine A2.cons (by repeat (first | exact Pk.here | apply Pk.there)) ?_ | apply A2.drop))) ?_
 (show _ = false → d = 0 → k < 4; intro hf h0; first | exact absurd hf (by decide) | omega)
 refine P9 ?_
 refine O9 false (P8 (by repeat (first | exact H9.nil | refine H9.cons rfl ?_)) (by repeat (first | exact A2.refl | exact A2.nil | refine A2.cons (by repeat (first | exact Pk.here | apply Pk.there)) ?_ | apply A2.drop))) ?_
 (show _ = false → d = 0 → k < 4; intro hf h0; first | exact absurd hf (by decide) | omega)
 (rintro x hx; clear hv)
 (show H8 _ _ (.cond (.tmp 16) _ _) _ _; refine A0v (fun (x : Int) => ⟨[(5, .int .i64 x), (4, .pointer (some ⟨b3, 0, none⟩)), (0, .pointer (some ⟨br, 0, none⟩)), (1, .int .i64 ((d + 1 : Nat) : Int))], [rd br pb nb cb (p + 1), .blk b3 [.int .i64 0, .slice none 0 0]], G2⟩) (fun x => 1 ≤ x ∧ x ≤ 5 ∧ (d = 0 → x < 4)) (A3w rfl (fun hxt => ?_) (fun hxf => ?_)) ?_)
 refine tR (sQ (qA rfl) rfl (sD ?_))
 refine O9 1 (P8 (by repeat (first | exact H9.nil | refine H9.cons rfl ?_)) (by repeat (first | exact A2.refl | exact A2.nil | refine A2.cons (by repeat (first | exact Pk.here | apply Pk.there)) ?_ | apply A2.drop))) ?_
 (first | exact ⟨by omega, by omega, by omega⟩ | exact ⟨by omega, by omega, fun h0 => by have := hx hxf h0; omega⟩)
 refine tK ?_
 refine O9 k (P8 (by repeat (first | exact H9.nil | refine H9.cons rfl ?_)) (by repeat (first | exact A2.refl | exact A2.nil | refine A2.cons (by repeat (first | exact Pk.here | apply Pk.there)) ?_ | apply A2.drop))) ?_
 (first | exact ⟨by omega, by omega, by omega⟩ | exact ⟨by omega, by omega, fun h0 => by have := hx hxf h0; omega⟩)
 (rintro kk ⟨hk2, hk3, hk4⟩; have hop := A9F kk; have hk5 := (K5 kk).1; have hk6 := (K5 kk).2.1; have hK := A5S kk)
 refine tS (tR (sQ (qM rfl) rfl (sQ (W0 rfl rfl) rfl ?_)))
 refine sE (C0 rfl) rfl (fun b53 => ?_)
 refine I8 ?_
 refine sD (nS (tS (tS (tR (sQ (qA rfl) rfl (sD (nS ?_)))))))
 refine D2 ?_
 (refine A1D 25 2 ?_; refine Q5 (fun (x : Nat × Option Addr × Nat × List Ty × List (List Value) × Nat × IM) => ⟨[(7, .int .i64 x.1), (5, .int .i64 kk), (6, .pointer (some ⟨b53, 0, none⟩)), (4, .pointer (some ⟨b3, 0, none⟩)), (0, .pointer (some ⟨br, 0, none⟩)), (1, .int .i64 ((d + 1 : Nat) : Int))], [.blk b53 [.int .i64 kk, .slice x.2.1 x.1 x.2.2.1], .slc x.2.1 x.2.2.1 25 2 x.1 x.2.2.2.2.1.flatten, rd br pb nb cb x.2.2.2.2.2.1, .blk b3 [.int .i64 0, .slice none 0 0]], x.2.2.2.2.2.2⟩) (fun x => (∀ u ∈ x.2.2.2.1, W6 (d - 1) u) ∧ (x.1 : Int) ≤ R1 kk ∧ A9 G2 x.2.2.2.2.2.2 ∧ x.2.2.2.1.length = x.1 ∧ F4 x.2.2.2.2.2.2 x.2.2.2.1 x.2.2.2.2.1 ∧ U7 x.2.2.2.1 ≤ ((x.1 * dB d : Nat) : Int) ∧ p + 1 ≤ x.2.2.2.2.2.1 ∧ x.2.2.2.2.2.1 ≤ p + 1 + x.1 * dB d) (fun x => (R1 kk).toNat - x.1) (0, none, 0, [], [], p + 1, G2) ?_ ?_ ?_)
 (simp only [P3]; exact I9)
 (exact ⟨by simp, by dsimp only; omega, A9.refl _, rfl, by simp [F4], by simp [U7], by dsimp only; omega, by dsimp only; omega⟩)
 (rintro ⟨i, pn, cn, ts, es', p', Gi⟩ ⟨hah, hi, hle, hlt, hst, hsum, hq1, hq2⟩; simp only [] at hah hi hle hlt hst hsum hq1 hq2 ⊢; have hid : i * dB d ≤ 2 * dB d := Nat.mul_le_mul_right _ (by omega))
 refine tS (tS (tR (sQ (qM rfl) rfl (sQ (qM rfl) rfl ?_))))
 refine J9 rfl ((hK _)) rfl rfl ?_
 refine sB (M9 rfl rfl) rfl rfl (fun h74 => ?_) (fun h74 => ?_)
 refine sD (nS (qT rfl (tK (nS (tS ?_)))))
 refine D2 ?_
 (obtain ⟨d', rfl⟩ : ∃ d', d = d' + 1 := ⟨d - 1, by omega⟩; have hih := ih d' (by omega) p' Gi (by omega) (hb.mono hle) (by have := Nat.mul_le_mul_right (dB (d' + 1)) (show i + 1 ≤ 2 by omega); rw [Nat.succ_mul] at this; omega); refine I7 J0 rfl ?_)
 refine H2 (i := 0) (l' := [tt,ff,ff,ff,ff,ff,ff,ff,ff,ff]) rfl E8 (A5 rfl) rfl (by kernel_rfl) rfl rfl ?_
 refine aL 1 rfl (C1 rfl rfl) rfl ?_
 refine aP 2 rfl (qM rfl) rfl ?_
 refine aP 3 rfl (qM rfl) rfl ?_
 refine aP 4 rfl (X7 rfl rfl (by omega)) rfl ?_
 refine A8 5 ?_
 (refine A1L (l' := [tt,tt,tt,tt,tt,tt,ff,ff,ff,ff]) rfl rfl hih (Pk.perm (by repeat (first | exact Pk.here | apply Pk.there))) rfl rfl rfl (by repeat (first | exact B7.nil | apply B7.dep (by decide +kernel) | apply B7.blk (by decide +kernel) (by repeat (first | exact Pk.here | apply Pk.there)) (by repeat first | exact mH | apply mT))) (fun v G3 outs hle3 hh => ?_); obtain ⟨p3, hp31, hp32, rfl, t3, cells3, rfl, hr3, hs3, ha3⟩ := hh; obtain ⟨q3, c3, es3, rfl, _⟩ := hr3.open)
 refine A8 6 ?_
 (refine T4 rfl (I4 rfl rfl rfl (by omega) (by unfold maxLen; omega) rfl) rfl rfl ?_; rintro _ ⟨b91, rfl⟩)
 refine A8 7 ?_
 refine A0p rfl rfl rfl rfl rfl rfl (fun _ _ => by repeat (first | exact Sw.here | apply Sw.there)) (U2 (by repeat first | exact mH | apply mT)) rfl (by simp [Value.oneCell']) (by unfold maxLen; omega) (by omega) rfl rfl (by repeat (first | exact B7.nil | apply B7.dep (by decide +kernel) | apply B7.blk (by decide +kernel) (by repeat (first | exact Pk.here | apply Pk.there)) (by repeat first | exact mH | apply mT))) (fun pn' cn' => ?_)
 refine aP 8 rfl (A5 rfl) rfl ?_
 refine A8 9 ?_
 refine N2 rfl rfl rfl rfl rfl rfl rfl rfl (by kernel_rfl) (by repeat first | exact Sw.here | apply Sw.there) (by rfl) ?_
 refine M7 (P7 (nS (tR (sQ (qM rfl) rfl ?_))))
 refine sP (O6 rfl rfl (by omega) (by omega)) rfl rfl ?_
 refine sQ (qA rfl) rfl (sD ?_)
 refine P5 (i + 1, pn', cn', ts ++ [t3], es' ++ [[.int .i64 t3.k, .slice q3 t3.ks.length c3]], p3, G3) ?_ ?_ ?_
 (simp only [P3]; exact I9)
 (dsimp only; have e1 : (i + 1) * dB (d' + 1) = i * dB (d' + 1) + dB (d' + 1) := Nat.succ_mul _ _; have e2 := A39 ts t3; exact ⟨by simp only [List.forall_mem_append, List.forall_mem_singleton]; exact ⟨hah, ha3⟩, by omega, hle.trans hle3, by simp [hlt], F4.snoc (hst.mono hle3) hr3, by omega, by omega, by omega⟩)
 (show (R1 kk).toNat - (i + 1) < (R1 kk).toNat - i; omega)
 refine O3 ?_
 (refine Y4 (by repeat (first | exact Pk.here | apply Pk.there)) (fun G5 hle5 hsl5 hno5 => ?_))
 refine tT ?_
 refine B2 (outs := [rd br pb nb cb p']) (rC rfl (A7 rfl rfl)) (by repeat (first | exact A2.nil | refine A2.cons Pk.here ?_ | refine A2.cons (Pk.there Pk.here) ?_ | apply A2.drop)) ?_
 (refine ⟨p', by omega, by omega, rfl, .mk kk ts, _, rfl, (hst.mono hle5).ty hlt hsl5 ⟨by omega, by omega⟩, ?_, A9w hk4 (by omega) hk2 hk3 hah⟩; rw [M4]; omega)
theorem A6f (br : Nat) (pb : Option Addr) (nb cb : Nat) (bs : List UInt8) (hnb : nb ≤ 2000) (d p : Nat) (G : IM) (hd : d ≤ 1000) (hb : Sl G pb nb cb 1 (K2 bs)) (hp : p + dB (d + 1) < 1099511627776) :
  Fn Tryz.prog 111 [.pointer (some ⟨br, 0, none⟩), .int .i64 ((d + 1 : Nat) : Int)] [rd br pb nb cb p] G
   (W8 br pb nb cb p (dB (d + 1)) (fun G' v => ∃ t cells, v = .agg ⟨cells⟩ ∧ C5 G' t cells ∧ M4 t ≤ ((dB (d + 1) : Nat) : Int))) :=
 (A6e br pb nb cb bs hnb d p G hd hb hp).mono fun G' v outs _ ⟨p', h1, h2, h3, t, cells, h4, h5, h6, _⟩ => ⟨p', h1, h2, h3, t, cells, h4, h5, h6⟩
theorem A9G (br : Nat) (pb : Option Addr) (nb cb : Nat) (bs : List UInt8) (hnb : nb ≤ 2000) (p : Nat) (G : IM) (hb : Sl G pb nb cb 1 (K2 bs)) (hp : p + 31 < 1099511627776) :
  Fn Tryz.prog 115 [.pointer (some ⟨br, 0, none⟩)] [rd br pb nb cb p] G
   (W8 br pb nb cb p 31 (fun G' v => ∃ t cells, v = .agg ⟨cells⟩ ∧ C5 G' t cells ∧ M4 t ≤ 30 ∧ W6 3 t)) := by
 refine B5 Tryz.func115 rfl Tryz.ntmps115 Tryz.results115 rfl ?_
 intro w0
 refine tS (tR ?_)
 refine sE (C0 rfl) rfl (fun b3 => ?_)
 refine sD (nS (tS (tR (sQ (qM rfl) rfl (sQ (qM rfl) rfl ?_)))))
 (refine D1 (I4 rfl rfl rfl (by omega) (by unfold maxLen; omega) rfl) rfl ?_; rintro _ ⟨b10, rfl⟩)
 (refine N4 (by repeat (first | exact Pk.here | apply Pk.there)) (fun G1 hle1 hsl1 _ => ?_); refine B4 rfl (X0 G1 br pb nb cb p bs _ _ _ _ (hb.mono hle1) hnb (by omega) hsl1 (by decide)) (Pk.perm (by repeat (first | exact Pk.here | apply Pk.there))) rfl rfl (fun v G2 outs hle2 hh => ?_); obtain ⟨rfl, rfl, hv⟩ := hh; replace hb := hb.mono hle1; obtain ⟨d, rfl, hd⟩ : ∃ d : Nat, v = .int .i64 ((d + 1 : Nat) : Int) ∧ d ≤ 3 := (by simp only [List.mem_cons, List.not_mem_nil, or_false] at hv; rcases hv with rfl | rfl | rfl | rfl | rfl <;> first | exact ⟨0, rfl, by decide⟩ | exact ⟨1, rfl, by decide⟩ | exact ⟨2, rfl, by decide⟩ | exact ⟨3, rfl, by decide⟩))
 (have hdB := A9E hd; refine B4 rfl (A6e br pb nb cb bs hnb d (p + 1) G2 (by omega) hb (by omega)) (Pk.perm (by repeat (first | exact Pk.here | apply Pk.there))) rfl rfl (fun v G3 outs hle3 hh => ?_); obtain ⟨p3, hp31, hp32, rfl, t3, cells3, rfl, hr3, hs3, ha3⟩ := hh; obtain ⟨q3, c3, es3, rfl, _⟩ := hr3.open)
 refine I8 ?_
 refine sD (nS (tT ?_))
 refine B2 (outs := [rd br pb nb cb p3]) (rC rfl (A7 rfl rfl)) (by repeat (first | exact A2.nil | refine A2.cons Pk.here ?_ | refine A2.cons (Pk.there Pk.here) ?_ | apply A2.drop)) ?_
 exact ⟨p3, by omega, by omega, rfl, t3, _, rfl, hr3, by omega, ha3.le hd⟩
theorem A9H (br : Nat) (pb : Option Addr) (nb cb : Nat) (bs : List UInt8) (hnb : nb ≤ 2000) (p : Nat) (G : IM) (hb : Sl G pb nb cb 1 (K2 bs)) (hp : p + 31 < 1099511627776) :
  Fn Tryz.prog 115 [.pointer (some ⟨br, 0, none⟩)] [rd br pb nb cb p] G
   (W8 br pb nb cb p 31 (fun G' v => ∃ t cells, v = .agg ⟨cells⟩ ∧ C5 G' t cells ∧ M4 t ≤ 30)) :=
 (A9G br pb nb cb bs hnb p G hb hp).mono fun G' v outs _ ⟨p', h1, h2, h3, t, cells, h4, h5, h6, _⟩ => ⟨p', h1, h2, h3, t, cells, h4, h5, h6⟩
theorem A9I (k : Int) (ks : List Ty) (G : IM) (p : Option Addr) (c : Nat) (hts : (Ty.mk k ks).small) (hr : C5 G (.mk k ks) [.int .i64 k, .slice p ks.length c]) : Fn Tryz.prog 170 [.agg ⟨[.int .i64 k, .slice p ks.length c]⟩] [] G
  (fun G' v outs => ∃ p c es, v = .agg ⟨[.int .i64 k, .slice p ks.length c]⟩ ∧ outs = [.slc p c 25 2 ks.length es.flatten] ∧ F4 G' ks es) := by
 simp only [Ty.small] at hts
 obtain ⟨hsm, hks⟩ := hts
 obtain ⟨p', c', es, he, hk, hsl, hkl⟩ := hr.open
 simp only [Ty.k, Ty.ks, List.cons.injEq, Value.slice.injEq, true_and, and_true] at he hk hsl hkl
 obtain ⟨rfl, rfl⟩ := he
 have hn := hsl.le
 refine B5 Tryz.func170 rfl Tryz.ntmps170 Tryz.results170 rfl ?_
 intro w0
 refine tS (tR ?_)
 refine sE (K0 rfl rfl) rfl (fun b3 => ?_)
 refine sE (C0 rfl) rfl (fun b4 => ?_)
 refine B8 ?_
 refine sE (C0 rfl) rfl (fun b12 => ?_)
 refine I8 ?_
 refine sD (nS (tS (tS (tR (sQ (qA rfl) rfl (sD (nS ?_)))))))
 refine D2 ?_
 (refine A1D 25 2 ?_; refine Q5 (fun (x : Nat × Option Addr × Nat × List (List Value) × IM) => ⟨[(4, .int .i64 x.1), (3, .pointer (some ⟨b12, 0, none⟩)), (1, .pointer (some ⟨b3, 0, none⟩)), (2, .pointer (some ⟨b4, 0, none⟩))], [.blk b12 [.int .i64 k, .slice x.2.1 x.1 x.2.2.1], .slc x.2.1 x.2.2.1 25 2 x.1 x.2.2.2.1.flatten, .blk b4 [.int .i64 0, .slice none 0 0], .blk b3 [.int .i64 k, .slice p ks.length c]], x.2.2.2.2⟩) (fun x => x.1 ≤ ks.length ∧ A9 G x.2.2.2.2 ∧ F4 x.2.2.2.2 (ks.take x.1) x.2.2.2.1) (fun x => ks.length - x.1) (0, none, 0, [], G) ?_ ?_ ?_)
 (simp only [P3]; exact I9)
 exact ⟨by simp, A9.refl _, by simp [F4]⟩
 (rintro ⟨i, pn, cn, es', Gi⟩ ⟨hi, hle, hst⟩; simp only [] at hi hle hst ⊢; replace hsl := hsl.mono hle; replace hkl := hkl.mono hle)
 refine B8 ?_
 refine sB (M9 rfl rfl) rfl rfl (fun h34 => ?_) (fun h34 => ?_)
 refine sD (nS (qT rfl (tK (nS (tS ?_)))))
 refine D2 ?_
 (obtain ⟨b, o, p2, c2, rfl, hat, hre, hgb⟩ := hsl.kidTy hkl (i := i) (by omega) (by omega); refine I7 J0 rfl ?_)
 refine H2 (i := 0) (l' := [tt,ff,ff,ff,ff,ff,ff,ff,ff,ff,ff,ff]) rfl E8 (A5 rfl) rfl (by kernel_rfl) rfl rfl ?_
 refine aL 1 rfl (C1 rfl rfl) rfl ?_
 refine aP 2 rfl (A5 rfl) rfl ?_
 refine aL 3 rfl (C1 rfl rfl) rfl ?_
 refine aP 4 rfl (qM rfl) rfl ?_
 refine aP 5 rfl (L9 rfl rfl rfl (by omega)) rfl ?_
 refine aL 6 rfl (C4 rfl rfl (hat _) rfl) rfl ?_
 refine A8 7 ?_
 (refine A2c rfl rfl (A33 ks[i] _ _ (Ty.smallL_mem hks _ (List.getElem_mem (by omega))) hre) rfl rfl rfl (fun v G1 hle1 hh => ?_); obtain ⟨cells', F', rfl, hs', hnd'⟩ := hh; have hr' := hs'.R.mono (B0.le _ _); obtain ⟨p3, c3, es3, rfl, _⟩ := hr'.open)
 refine A8 8 ?_
 (refine T4 rfl (I4 rfl rfl rfl (by omega) (by unfold maxLen; omega) rfl) rfl rfl ?_; rintro _ ⟨b53, rfl⟩)
 refine A8 9 ?_
 refine A0p rfl rfl rfl rfl rfl rfl (fun _ _ => by repeat (first | exact Sw.here | apply Sw.there)) (U2 (by repeat first | exact mH | apply mT)) rfl (by simp [Value.oneCell']) (by unfold maxLen; omega) (by omega) rfl rfl (by repeat (first | exact B7.nil | apply B7.dep (by decide +kernel) | apply B7.blk (by decide +kernel) (by repeat (first | exact Pk.here | apply Pk.there)) (by repeat first | exact mH | apply mT))) (fun pn' cn' => ?_)
 refine aP 10 rfl (A5 rfl) rfl ?_
 refine A8 11 ?_
 refine N2 rfl rfl rfl rfl rfl rfl rfl rfl (by kernel_rfl) (by repeat first | exact Sw.here | apply Sw.there) (by rfl) ?_
 refine M7 (P7 (nS (tR (sQ (qM rfl) rfl ?_))))
 refine sP (O6 rfl rfl (by omega) (by omega)) rfl rfl ?_
 refine sQ (qA rfl) rfl (sD ?_)
 refine P5 (i + 1, pn', cn', es' ++ [[.int .i64 ks[i].k, .slice p3 ks[i].ks.length c3]], G1) ?_ ?_ ?_
 (simp only [P3]; exact I9)
 (dsimp only; exact ⟨by omega, hle.trans hle1, by rw [List.take_succ_eq_append_getElem (by omega)]; exact F4.snoc (hst.mono hle1) hr'⟩)
 (show ks.length - (i + 1) < ks.length - i; omega)
 refine L6 ?_
 (obtain rfl : i = ks.length := (by omega); refine B2 (outs := [.slc pn cn 25 2 ks.length es'.flatten]) (rC rfl (A7 rfl rfl)) (by repeat (first | exact A2.nil | refine A2.cons Pk.here ?_ | refine A2.cons (Pk.there Pk.here) ?_ | apply A2.drop)) ?_)
 (rw [List.take_length] at hst; exact ⟨pn, cn, es', rfl, rfl, hst⟩)
theorem A4a (G : IM) : C5 G O7 [.int .i64 1, .slice none 0 0] := by
 simp only [O7, C5]
 exact ⟨none, 0, [], rfl, ⟨by omega, by omega⟩, D0.of (Sl.nil _ _) rfl (by simp) (by simp), by simp [F4]⟩
theorem A6g : M4 O7 = 0 := rfl
theorem A9J (br : Nat) (pb : Option Addr) (nb cb : Nat) (bs : List UInt8) (hnb : nb ≤ 2000) (p : Nat) (G : IM) (hb : Sl G pb nb cb 1 (K2 bs)) (hp : p + 31 < 1099511627776) (t : Ty) (cells : List Value) (hr : C5 G t cells) (hsz : M4 t ≤ 30) :
  Fn Tryz.prog 114 [.pointer (some ⟨br, 0, none⟩), .agg ⟨cells⟩] [rd br pb nb cb p] G
   (W8 br pb nb cb p 2 (fun G' v => ∃ t cells, v = .agg ⟨cells⟩ ∧ C5 G' t cells ∧ M4 t ≤ 38)) := by
 have hts := A2l t (by omega)
 obtain ⟨k, ks⟩ := t
 rw [M4] at hsz
 have hsn := A2h ks
 obtain ⟨q0, c0, es0, rfl, hk, _⟩ := hr.open
 simp only [Ty.k, Ty.ks] at hk hr ⊢
 refine B5 Tryz.func114 rfl Tryz.ntmps114 Tryz.results114 rfl ?_
 intro w0
 refine tS (tR ?_)
 refine sE (K0 rfl rfl) rfl (fun b3 => ?_)
 refine sE (C0 rfl) rfl (fun b4 => ?_)
 refine sD (nS (tS (tR (sL (A7 rfl rfl) rfl rfl ?_))))
 (refine A5k rfl (A9I k ks G q0 c0 hts hr) rfl rfl (fun v G1 outs hle1 hh => ?_); obtain ⟨q, c, es, rfl, rfl, hst⟩ := hh)
 refine sE (C0 rfl) rfl (fun b11 => ?_)
 refine I8 ?_
 refine sD (nS (tS (tS (tR (sQ (qM rfl) rfl ?_)))))
 (refine B4 rfl (W9 G1 br pb nb cb p bs 40 (hb.mono hle1) hnb (by omega)) (Pk.perm (by repeat (first | exact Pk.here | apply Pk.there))) rfl rfl (fun v G2 outs hle2 hh => ?_); obtain ⟨rfl, rfl, j, rfl, hj0, hj1⟩ := hh; replace hb := hb.mono hle1)
 refine sD (nS ?_)
 (show H8 _ _ (.block 0 _) _ _; refine A0v (fun (x : Ty × Option Addr × Nat × Nat × IM) => ⟨[(5, .pointer (some ⟨b11, 0, none⟩)), (4, .pointer (some ⟨b4, 0, none⟩))], [.blk b11 [.int .i64 x.1.k, .slice x.2.1 x.1.ks.length x.2.2.1], .blk b4 [.int .i64 0, .slice none 0 0], rd br pb nb cb x.2.2.2.1], x.2.2.2.2⟩) (fun x => A9 G2 x.2.2.2.2 ∧ C5 x.2.2.2.2 x.1 [.int .i64 x.1.k, .slice x.2.1 x.1.ks.length x.2.2.1] ∧ M4 x.1 ≤ 38 ∧ p ≤ x.2.2.2.1 ∧ x.2.2.2.1 ≤ p + 2) ?_ ?_)
 refine D2 (tS (tR (sB (qE rfl rfl) rfl rfl (fun h26 => ?_) (fun h26 => ?_))))
 refine sQ (qA rfl) rfl (sD (nS (qT rfl (tR (sQ (qM rfl) rfl ?_)))))
 (refine D1 (I4 rfl rfl rfl (by omega) (by unfold maxLen; omega) rfl) rfl ?_; rintro _ ⟨b33, rfl⟩)
 (refine N4 (by repeat (first | exact Pk.here | apply Pk.there)) (fun G3 hle3 hsl3 _ => ?_); refine N4 (by repeat (first | exact Pk.here | apply Pk.there)) (fun G4 hle4 hsl4 _ => ?_); refine B4 rfl (X0 G4 br pb nb cb (p + 1) bs _ _ _ _ (hb.mono (hle3.trans hle4)) hnb (by omega) (hsl3.mono hle4) (by decide)) (Pk.perm (by repeat (first | exact Pk.here | apply Pk.there))) rfl rfl (fun v G5 outs hle5 hh => ?_); obtain ⟨rfl, rfl, hv⟩ := hh; obtain ⟨k', rfl, hk'⟩ : ∃ k', v = .int .i64 k' ∧ D7 k' := (by simp only [List.mem_cons, List.not_mem_nil, or_false] at hv; rcases hv with rfl | rfl | rfl | rfl | rfl <;> exact ⟨_, rfl, by unfold D7; omega⟩))
 refine sQ (A5 rfl) rfl (I8 ?_)
 refine sD (P7 ?_)
 refine O9 (.mk k' ks, q, c, p + 2, G5) ?_ ?_
 (simp only [P3]; exact I9)
 (dsimp only; exact ⟨hle3.trans hle4, (hst.mono (hle3.trans hle4)).ty rfl hsl4 hk', by (rw [M4]; omega), by omega, by omega⟩)
 refine sQ (qA rfl) rfl (sD (nS (cF rfl (tS (tR ?_)))))
 refine sB (qE rfl rfl) rfl rfl (fun h48 => ?_) (fun h48 => ?_)
 refine sQ (qA rfl) rfl (sD (nS (qT rfl ?_)))
 refine I7 J0 rfl ?_
 refine H2 (i := 0) (l' := [tt,ff,ff,ff,ff,ff,ff]) rfl E8 (A5 rfl) rfl (by kernel_rfl) rfl rfl ?_
 refine aL 1 rfl (C1 rfl rfl) rfl ?_
 refine A8 2 ?_
 refine M3 rfl rfl ((A38 _)) rfl rfl rfl ?_
 refine A8 3 ?_
 (refine T4 rfl (I4 rfl rfl rfl (by omega) (by unfold maxLen; omega) rfl) rfl rfl ?_; rintro _ ⟨b59, rfl⟩)
 refine A8 4 ?_
 refine A0p rfl rfl rfl rfl rfl rfl (fun _ _ => by repeat (first | exact Sw.here | apply Sw.there)) (U2 (by repeat first | exact mH | apply mT)) rfl (by simp [Value.oneCell']) (by unfold maxLen; omega) (by omega) rfl rfl (by repeat (first | exact B7.nil | apply B7.dep (by decide +kernel) | apply B7.blk (by decide +kernel) (by repeat (first | exact Pk.here | apply Pk.there)) (by repeat first | exact mH | apply mT))) (fun qn cn => ?_)
 (refine A5j (cs := es.flatten ++ [.int .i64 1, .slice none 0 0]) (by repeat (first | exact Pk.here | apply Pk.there)) (fun G6 hle6 hsl6 _ => ?_))
 refine aP 5 rfl (A5 rfl) rfl ?_
 refine A8 6 ?_
 refine N2 rfl rfl rfl rfl rfl rfl rfl rfl (by kernel_rfl) (by repeat first | exact Sw.here | apply Sw.there) (by rfl) ?_
 refine M7 (P7 ?_)
 refine O9 (.mk k (ks ++ [O7]), qn, cn, p + 1, G6) (by rw [show (Ty.mk k (ks ++ [O7])).ks.length = ks.length + 1 from by simp [Ty.ks]]; exact I9) ?_
 (dsimp only; refine ⟨hle6, F4.ty (ts := ks ++ [O7]) (es := es ++ [[.int .i64 1, .slice none 0 0]]) (F4.snoc (hst.mono hle6) (A4a _)) rfl (by simpa [Ty.ks] using hsl6) hk, ?_, by omega, by omega⟩; rw [M4, A39, A6g, List.length_append]; simp only [List.length_singleton]; omega)
 refine sQ (qA rfl) rfl (sD (nS (cF rfl (tS (tR ?_)))))
 refine sB (qE rfl rfl) rfl rfl (fun h76 => ?_) (fun h76 => ?_)
 refine C2 ?_
 refine D2 ?_
 (refine A2P (by repeat (first | exact Pk.here | apply Pk.there)) (fun G3 hle3 hsl3 _ => ?_); refine Q5 (fun (x : Nat × Ty × Option Addr × Nat × IM) => ⟨[(6, .int .i64 x.1), (5, .pointer (some ⟨b11, 0, none⟩)), (4, .pointer (some ⟨b4, 0, none⟩))], [.blk b11 [.int .i64 x.2.1.k, .slice x.2.2.1 x.2.1.ks.length x.2.2.2.1], .blk b4 [.int .i64 0, .slice none 0 0], rd br pb nb cb (p + 1)], x.2.2.2.2⟩) (fun x => x.1 ≤ 4 ∧ A9 G3 x.2.2.2.2 ∧ C5 x.2.2.2.2 x.2.1 [.int .i64 x.2.1.k, .slice x.2.2.1 x.2.1.ks.length x.2.2.2.1] ∧ M4 x.2.1 ≤ 30 + 2 * x.1) (fun x => 4 - x.1) (0, .mk k ks, q, c, G3) ?_ ?_ ?_)
 (simp only [P3]; exact I9)
 (dsimp only; exact ⟨by omega, A9.refl _, (hst.mono hle3).ty rfl hsl3 hk, by (rw [M4]; omega)⟩)
 (rintro ⟨i, ⟨tk, tks⟩, qi, ci, Gi⟩ ⟨hi, hlei, hri, hsi⟩; simp only [Ty.k, Ty.ks] at hi hlei hri hsi ⊢)
 refine tS (tS (tR (sQ (qM rfl) rfl ?_)))
 refine sB (M9 rfl rfl) rfl rfl (fun h95 => ?_) (fun h95 => ?_)
 refine sD (nS (qT rfl (tK (nS (tS ?_)))))
 refine D2 ?_
 refine I7 J0 rfl ?_
 refine A16 (i := 1) (l' := [ff,tt,ff,ff,ff]) rfl E8 (A7 rfl rfl) rfl (by kernel_rfl) rfl rfl ?_
 refine A8 0 ?_
 refine M3 rfl rfl ((A38 _)) rfl rfl rfl ?_
 refine A8 2 ?_
 (refine T4 rfl (I4 rfl rfl rfl (by omega) (by unfold maxLen; omega) rfl) rfl rfl ?_; rintro _ ⟨b108, rfl⟩)
 (refine A5j (cs := [.int .i64 1, .slice none 0 0, .int .i64 tk, .slice qi tks.length ci]) (by repeat (first | exact Pk.here | apply Pk.there)) (fun G7 hle7 hsl7 _ => ?_))
 refine aP 3 rfl (W0 rfl rfl) rfl ?_
 refine A8 4 ?_
 refine N2 rfl rfl rfl rfl rfl rfl rfl rfl (by kernel_rfl) (by repeat first | exact Sw.here | apply Sw.there) (by rfl) ?_
 refine M7 (P7 (nS (tR (sQ (qM rfl) rfl ?_))))
 refine sP (O6 rfl rfl (by omega) (by omega)) rfl rfl ?_
 refine sQ (qA rfl) rfl (sD ?_)
 refine P5 (i + 1, .mk 4 [O7, .mk tk tks], some ⟨b108, 0, none⟩, 2, G7) ?_ ?_ ?_
 (simp only [P3]; exact I9)
 (dsimp only; refine ⟨by omega, hlei.trans hle7, F4.ty (ts := [O7, .mk tk tks]) (es := [[.int .i64 1, .slice none 0 0], [.int .i64 tk, .slice qi tks.length ci]]) ⟨_, _, rfl, A4a _, _, _, rfl, hri.mono hle7, rfl⟩ rfl hsl7 ⟨by omega, by omega⟩, ?_⟩; rw [M4, U7, U7, U7, A6g]; simp only [List.length_cons, List.length_nil]; omega)
 (show 4 - (i + 1) < 4 - i; omega)
 refine E0 ?_
 refine O9 (.mk tk tks, qi, ci, p + 1, Gi) ?_ ?_
 (simp only [P3]; exact I9)
 (dsimp only; exact ⟨hle3.trans hlei, hri, by omega, by omega, by omega⟩)
 refine sQ (qA rfl) rfl (sD (nS (cF rfl ?_)))
 (refine A2P (by repeat (first | exact Pk.here | apply Pk.there)) (fun G8 hle8 hsl8 _ => ?_); refine tK ?_)
 refine P7 ?_
 refine O9 (.mk k ks, q, c, p + 1, G8) ?_ ?_
 (simp only [P3]; exact I9)
 (dsimp only; exact ⟨hle8, (hst.mono hle8).ty rfl hsl8 hk, by (rw [M4]; omega), by omega, by omega⟩)
 (rintro ⟨t', q', c', p', G'⟩ ⟨hle9, hr9, hs9, hp9, hp9'⟩; simp only [] at hle9 hr9 hs9 hp9 hp9' ⊢)
 refine tS (tR (sL (A7 rfl rfl) rfl rfl (I8 ?_)))
 refine sD (nS (tT ?_))
 refine B2 (outs := [rd br pb nb cb p']) (rC rfl (A7 rfl rfl)) (by repeat (first | exact A2.nil | refine A2.cons Pk.here ?_ | refine A2.cons (Pk.there Pk.here) ?_ | apply A2.drop)) ?_
 (exact ⟨p', by omega, by omega, rfl, t', _, rfl, hr9, by omega⟩)
mutual
def A1n : Tm → Tm
 | .mk k nm num ty fr lb ks => if k = 13 ∨ k = 14 then (A4b ks).headD K1 else .mk k nm num (if k = 5 then O7 else A4) A4 0 (A4b ks)
def A4b : List Tm → List Tm
 | [] => []
 | t :: ts => A1n t :: A4b ts
end
def B2x : Tm → Tm
 | .mk k nm num ty fr lb ks => if k = 13 ∨ k = 14 then ks.headD K1 else if k = 5 then .mk k nm num O7 fr lb ks else .mk k nm num ty fr lb ks
def B2y : Tm → Prop
 | .mk k _ _ _ _ _ ks => k = 13 ∨ k = 14 → ks ≠ []
theorem A1o {D N : Int} {k : Int} {nm : ByteArray} {num : Int} {ty fr : Ty} {lb : Int} {ks : List Tm} {d : Int} (h : N7 D N (.mk k nm num ty fr lb ks) d = true) : d ≤ D ∧ k ≠ N ∧ S3 k nm num ty fr lb ks.length = true ∧ Y6 D N ks (d + 1) = true := by
 rw [N7] at h
 simp only [Bool.and_eq_true, decide_eq_true_eq] at h
 exact ⟨h.1.1.1, h.1.1.2, h.1.2, h.2⟩
section slaws
variable {P : Program} {Γ : F8} {env : H1} {hp : List A1} {G : IM} {ty : TypeId}
theorem A23 {P : Program} {w : World} {l c : Nat} (hl : l ≤ c) (code : BoundsCode) : (Instr.sliceBound (.int .i64 (l : Int)) c code).run P w = .ok l w := by
 unfold Instr.sliceBound
 simp only [asIntOf, Sem.run_bind, Sem.run_pure, Result.andThen_ok]
 rw [if_pos ⟨by omega, by omega⟩]
 simp
theorem Y7 {x y z : Operand} {t : TypeId} {i : J4} [hI : E6 P t i] (hd' : i.desc = .string) {s : ByteArray} {l h : Nat}
  (hx : evo env x = some (.string s)) (hy : evo env y = some (.int .i64 (l : Int))) (hz : evo env z = some (.int .i64 (h : Int))) (hl : l ≤ h) (hh : h ≤ s.size) :
  C9 P Γ ⟨env, hp, G⟩ (.slice t x (some y) (some z) none) ty (.string (s.extract l h)) := by
 refine ⟨fun a _ hs _ _ _ _ w => ?_⟩
 have hu := hI.und
 rw [hd'] at hu
 simp [execOp, (hs.evo hx : a.eval x = _), (hs.evo hy : a.eval y = _), (hs.evo hz : a.eval z = _), Instr.sliceAt, Sem.run_bind, run_underlying hu, Instr.slice, Instr.sliceBounds, A23 hl, A23 hh]
theorem A02 {x z : Operand} {t : TypeId} {i : J4} [hI : E6 P t i] (hd' : i.desc = .string) {s : ByteArray} {h : Nat}
  (hx : evo env x = some (.string s)) (hz : evo env z = some (.int .i64 (h : Int))) (hh : h ≤ s.size) :
  C9 P Γ ⟨env, hp, G⟩ (.slice t x none (some z) none) ty (.string (s.extract 0 h)) := by
 refine ⟨fun a _ hs _ _ _ _ w => ?_⟩
 have hu := hI.und
 rw [hd'] at hu
 simp [execOp, (hs.evo hx : a.eval x = _), (hs.evo hz : a.eval z = _), Instr.sliceAt, Sem.run_bind, run_underlying hu, Instr.slice, Instr.sliceBounds, A23 hh]
theorem P4 {x y : Operand} {t : TypeId} {i : J4} [hI : E6 P t i] (hd' : i.desc = .string) {s : ByteArray} {l : Nat}
  (hx : evo env x = some (.string s)) (hy : evo env y = some (.int .i64 (l : Int))) (hl : l ≤ s.size) :
  C9 P Γ ⟨env, hp, G⟩ (.slice t x (some y) none none) ty (.string (s.extract l s.size)) := by
 refine ⟨fun a _ hs _ _ _ _ w => ?_⟩
 have hu := hI.und
 rw [hd'] at hu
 simp [execOp, (hs.evo hx : a.eval x = _), (hs.evo hy : a.eval y = _), Instr.sliceAt, Sem.run_bind, run_underlying hu, Instr.slice, Instr.sliceBounds, A23 hl]
theorem A9K {x y : Operand} {t t' : TypeId} {r s : ByteArray} (hx : evo env x = some (.string r)) (hy : evo env y = some (.string s)) :
  C9 P Γ ⟨env, hp, G⟩ (.binOp .lss t x y t') ty (.bool (decide (Op.bytesLess r.toList s.toList = true))) := by
 refine ⟨fun a _ hs _ _ _ _ w => ?_⟩
 simp only [execOp, eqGuard, binOp, Op.stringOp, (hs.evo hx : a.eval x = _), (hs.evo hy : a.eval y = _)]
 simp
end slaws
theorem A9L (s nm : ByteArray) (G : IM) (hs : s.size ≤ 1000) (hn : nm.size ≤ 1000) :
  Fn Tryz.prog 125 [.string s, .string nm] [] G (fun G' v outs => G' = G ∧ outs = [] ∧ ∃ r, v = .string r ∧ r.size ≤ s.size + nm.size) := by
 refine B5 Tryz.func125 rfl Tryz.ntmps125 Tryz.results125 rfl ?_
 intro w0
 refine I3 ?_
 refine D2 ?_
 (refine Q5 (fun (i : Nat) => ⟨[(5, .int .i64 (i : Int)), (0, .string s), (1, .string nm)], [], G⟩) (fun i => i ≤ s.size) (fun i => s.size - i) 0 ?_ ?_ ?_)
 exact I9
 exact Nat.zero_le _
 (intro i hi)
 refine tS (tS (tR (sQ (qM rfl) rfl (sQ (qM rfl) rfl ?_))))
 refine sQ (M0 rfl rfl) rfl (sB (M9 rfl rfl) rfl rfl (fun h23 => ?_) (fun h23 => ?_))
 refine I5 ?_
 refine sP (H4 (n := 1) rfl rfl (by omega)) rfl rfl ?_
 refine sP (Y7 (h := i + 1) rfl rfl rfl rfl (by omega) (by omega)) rfl rfl ?_
 refine sQ (qM rfl) rfl ?_
 refine sB (A9K rfl rfl) rfl rfl (fun h31 => ?_) (fun h31 => ?_)
 refine sQ (L4 rfl rfl) rfl (sD (nS (qT rfl (tK (nS ?_)))))
 refine D2 ?_
 refine tR (sQ (qM rfl) rfl ?_)
 refine sP (H4 (n := 1) rfl rfl (by omega)) rfl rfl ?_
 refine sQ (qA rfl) rfl (sD (P7 ?_))
 refine P5 (i + 1) ?_ ?_ ?_
 exact I9
 (show _ ≤ s.size; omega)
 (show s.size - _ < s.size - _; omega)
 refine O3 ?_
 refine sQ (M0 rfl rfl) rfl ?_
 refine sP (X5 rfl rfl (by omega)) rfl rfl ?_
 refine I5 ?_
 refine sP (H4 (n := 1) rfl rfl (by omega)) rfl rfl ?_
 refine sP (Y7 (h := i + 1) rfl rfl rfl rfl (by omega) (by omega)) rfl rfl ?_
 refine sQ (qM rfl) rfl ?_
 refine sB (A0W rfl rfl) rfl rfl (fun h72 => ?_) (fun h72 => ?_)
 refine Q6 ?_
 refine B2 (outs := []) (rT rfl) A2.nil ?_
 (exact ⟨rfl, rfl, _, rfl, Nat.le_add_right _ _⟩)
 refine sQ (L4 rfl rfl) rfl (sD (nS (cF rfl (tK (nS (tS ?_))))))
 refine I7 J0 rfl ?_
 refine H2 (i := 0) (l' := [tt,ff,ff,ff,ff,ff,ff,ff,ff,ff]) rfl E8 (qM rfl) rfl (by kernel_rfl) rfl rfl ?_
 refine aP 1 rfl (qM rfl) rfl ?_
 refine aP 2 rfl (A02 rfl rfl rfl (by omega)) rfl ?_
 refine aP 3 rfl (qM rfl) rfl ?_
 refine aP 4 rfl (A1g rfl rfl (by simp only [ByteArray.size_extract, ByteArray.size_append]; omega)) rfl ?_
 refine aP 5 rfl (qM rfl) rfl ?_
 refine aP 6 rfl (qM rfl) rfl ?_
 refine aP 7 rfl (P4 rfl rfl rfl (by omega)) rfl ?_
 refine aP 8 rfl (A1g rfl rfl (by simp only [ByteArray.size_extract, ByteArray.size_append]; omega)) rfl ?_
 refine aP 9 rfl (qA rfl) rfl ?_
 refine M7 (nS (tT ?_))
 refine B2 (outs := []) (rT rfl) A2.nil ?_
 (exact ⟨rfl, rfl, _, rfl, by simp only [ByteArray.size_extract, ByteArray.size_append]; omega⟩)
 refine A1E ?_
 refine sQ (M0 rfl rfl) rfl ?_
 refine sP (S1 rfl rfl (by omega)) rfl rfl ?_
 refine L6 ?_
 refine I7 J0 rfl ?_
 refine H2 (i := 0) (l' := [tt,ff,ff,ff,ff,ff,ff,ff,ff,ff]) rfl E8 (qM rfl) rfl (by kernel_rfl) rfl rfl ?_
 refine aP 1 rfl (qM rfl) rfl ?_
 refine aP 2 rfl (A02 rfl rfl rfl (by omega)) rfl ?_
 refine aP 3 rfl (qM rfl) rfl ?_
 refine aP 4 rfl (A1g rfl rfl (by simp only [ByteArray.size_extract, ByteArray.size_append]; omega)) rfl ?_
 refine aP 5 rfl (qM rfl) rfl ?_
 refine aP 6 rfl (qM rfl) rfl ?_
 refine aP 7 rfl (P4 rfl rfl rfl (by omega)) rfl ?_
 refine aP 8 rfl (A1g rfl rfl (by simp only [ByteArray.size_extract, ByteArray.size_append]; omega)) rfl ?_
 refine aP 9 rfl (qA rfl) rfl ?_
 refine M7 (nS (tT ?_))
 refine B2 (outs := []) (rT rfl) A2.nil ?_
 (exact ⟨rfl, rfl, _, rfl, by simp only [ByteArray.size_extract, ByteArray.size_append]; omega⟩)
theorem X8 (G : IM) : C5 G A4 [.int .i64 0, .slice none 0 0] := by
 simp only [A4, C5]
 exact ⟨none, 0, [], rfl, ⟨by omega, by omega⟩, D0.of (Sl.nil _ _) rfl (by simp) (by simp), by simp [F4]⟩
theorem A4c : M4 A4 = 0 := rfl
theorem D3.tm {G : IM} {k : Int} {nm : ByteArray} {num : Int} {t : Ty} {q : Option Addr} {d : Nat} {ts : List Tm} {es : List (List Value)} {p : Option Addr} {n c : Nat} (h : D3 G ts es) (hn : ts.length = n) (hs : Sl G p n c 9 es.flatten) (hk : D7 k) (hm : D7 num)
  (ht : C5 G t [.int .i64 t.k, .slice q t.ks.length d]) : B6 G (.mk k nm num t A4 0 ts) [.int .i64 k, .string nm, .int .i64 num, .int .i64 t.k, .slice q t.ks.length d, .int .i64 0, .slice none 0 0, .int .i64 0, .slice p n c] := by
 subst hn
 simp only [B6]
 exact ⟨_, _, p, c, es, rfl, hk, hm, ⟨by omega, by omega⟩, ht, X8 G, D0.of hs h.len h.all (fun e he => (h.each e he).2), h⟩
theorem A0e {G : IM} {k : Int} {nm : ByteArray} {num : Int} (hk : D7 k) (hm : D7 num) :
  B6 G (.mk k nm num A4 A4 0 []) [.int .i64 k, .string nm, .int .i64 num, .int .i64 0, .slice none 0 0, .int .i64 0, .slice none 0 0, .int .i64 0, .slice none 0 0] :=
 D3.tm (ts := []) (es := []) (t := A4) (by simp [D3]) rfl (Sl.nil _ _) hk hm (X8 G)
theorem A0f (k : Int) (nm : ByteArray) (num : Int) : S9 (.mk k nm num A4 A4 0 []) = nm.size := by
 rw [S9, A4c, S4]; simp
theorem A4d : ∀ (ts : List Tm) (t : Tm), S4 (ts ++ [t]) = S4 ts + S9 t
 | [], t => by simp [S4]
 | a :: ts, t => by simp only [List.cons_append, S4, A4d ts t]; omega
theorem A6h (k : Int) : J3 k ≤ 3 := by
 unfold J3; repeat (split; omega)
 omega
theorem A6i {d : Nat} (h : d ≤ 2) : dB (d + 1) ≤ 14 := by
 have : d = 0 ∨ d = 1 ∨ d = 2 := by omega
 rcases this with rfl | rfl | rfl <;> decide
theorem A1M (n : Int) (G : IM) : Fn Tryz.prog 100 [.int .i64 n] [] G (J8 (.agg ⟨[.int .i64 2, .string ⟨⟨[]⟩⟩, .int .i64 n, .int .i64 0, .slice none 0 0, .int .i64 0, .slice none 0 0, .int .i64 0, .slice none 0 0]⟩) G) := by
 refine B5 Tryz.func100 rfl Tryz.ntmps100 Tryz.results100 rfl ?_
 intro w0
 refine tS (tR ?_)
 refine sE (C0 rfl) rfl (fun b3 => ?_)
 refine O2 ?_
 refine F0 (rC rfl (A7 rfl rfl)) ?_
 exact ⟨rfl, rfl, rfl⟩
theorem A6j (br : Nat) (pb : Option Addr) (nb cb : Nat) (bs : List UInt8) (hnb : nb ≤ 2000) (p : Nat) (G : IM) (hb : Sl G pb nb cb 1 (K2 bs)) (hp : p + 3 < 1099511627776) (s : ByteArray) (hs : s.size ≤ 1000) :
  Fn Tryz.prog 165 [.pointer (some ⟨br, 0, none⟩), .string s] [rd br pb nb cb p] G
   (W8 br pb nb cb p 3 (fun G' v => ∃ t cells, v = .agg ⟨cells⟩ ∧ B6 G' t cells ∧ S9 t ≤ 1)) := by
 refine B5 Tryz.func165 rfl Tryz.ntmps165 Tryz.results165 rfl ?_
 intro w0
 refine tS (tR ?_)
 refine sE (C0 rfl) rfl (fun b3 => ?_)
 refine sD (nS (tS (tS (tR (sQ (qM rfl) rfl ?_)))))
 refine sQ (M0 rfl rfl) rfl ?_
 refine sB (V8 rfl rfl) rfl rfl (fun h11 => ?_) (fun h11 => ?_)
 refine sQ (qM rfl) rfl (sQ (qM rfl) rfl ?_)
 (refine B4 rfl (W9 _ br pb nb cb p bs _ hb hnb (by omega)) (Pk.perm (by repeat (first | exact Pk.here | apply Pk.there))) rfl rfl (fun v14 G14 outs14 hle14 hh => ?_); obtain ⟨rfl, rfl, j14, rfl, hj14, hk14⟩ := hh; obtain ⟨i14, rfl⟩ := Int.eq_ofNat_of_zero_le hj14)
 replace hb := hb.mono hle14
 refine sB (V8 rfl rfl) rfl rfl (fun h15 => ?_) (fun h15 => ?_)
 refine E0 ?_
 refine sQ (M0 rfl rfl) rfl ?_
 (refine B4 rfl (W9 _ br pb nb cb (p + 1) bs _ hb hnb (by omega)) (Pk.perm (by repeat (first | exact Pk.here | apply Pk.there))) rfl rfl (fun v25 G25 outs25 hle25 hh => ?_); obtain ⟨rfl, rfl, j25, rfl, hj25, hk25⟩ := hh; obtain ⟨i25, rfl⟩ := Int.eq_ofNat_of_zero_le hj25)
 replace hb := hb.mono hle25
 refine E0 ?_
 refine sP (H4 (n := 1) rfl rfl (by omega)) rfl rfl ?_
 refine sP (Y7 rfl rfl rfl rfl (by omega) (by omega)) rfl rfl ?_
 refine sQ (W0 rfl rfl) rfl (I8 ?_)
 refine sD (nS (tT (rS ?_)))
 refine B2 (outs := [rd br pb nb cb (p + 1 + 1)]) (rC rfl (A7 rfl rfl)) (by repeat (first | exact A2.nil | refine A2.cons Pk.here ?_ | refine A2.cons (Pk.there Pk.here) ?_ | refine A2.cons (Pk.there (Pk.there Pk.here)) ?_ | apply A2.drop)) ?_
 focus (refine ⟨_, ?_, ?_, rfl, _, _, rfl, A0e ⟨by omega, by omega⟩ ⟨by omega, by omega⟩, ?_⟩; all_goals (try rw [A0f]); all_goals (first | omega | (simp only [ByteArray.size_extract]; omega) | decide))
 refine O2 ?_
 (refine B4 rfl (W9 _ br pb nb cb (p + 1) bs _ hb hnb (by omega)) (Pk.perm (by repeat (first | exact Pk.here | apply Pk.there))) rfl rfl (fun v54 G54 outs54 hle54 hh => ?_); obtain ⟨rfl, rfl, j54, rfl, hj54, hk54⟩ := hh; obtain ⟨i54, rfl⟩ := Int.eq_ofNat_of_zero_le hj54)
 replace hb := hb.mono hle54
 refine sD (nS ?_)
 refine D2 (tS (tR (sB (qE rfl rfl) rfl rfl (fun h60 => ?_) (fun h60 => ?_))))
 refine H3 ?_
 refine B2 (outs := [rd br pb nb cb (p + 1 + 1)]) (rC rfl (A7 rfl rfl)) (by repeat (first | exact A2.nil | refine A2.cons Pk.here ?_ | refine A2.cons (Pk.there Pk.here) ?_ | refine A2.cons (Pk.there (Pk.there Pk.here)) ?_ | apply A2.drop)) ?_
 focus (refine ⟨_, ?_, ?_, rfl, _, _, rfl, A0e ⟨by omega, by omega⟩ ⟨by omega, by omega⟩, ?_⟩; all_goals (try rw [A0f]); all_goals (first | omega | (simp only [ByteArray.size_extract]; omega) | decide))
 refine sQ (qA rfl) rfl (sD (nS (cF rfl (tS (tR ?_)))))
 refine sB (qE rfl rfl) rfl rfl (fun h82 => ?_) (fun h82 => ?_)
 refine H3 ?_
 refine B2 (outs := [rd br pb nb cb (p + 1 + 1)]) (rC rfl (A7 rfl rfl)) (by repeat (first | exact A2.nil | refine A2.cons Pk.here ?_ | refine A2.cons (Pk.there Pk.here) ?_ | refine A2.cons (Pk.there (Pk.there Pk.here)) ?_ | apply A2.drop)) ?_
 focus (refine ⟨_, ?_, ?_, rfl, _, _, rfl, A0e ⟨by omega, by omega⟩ ⟨by omega, by omega⟩, ?_⟩; all_goals (try rw [A0f]); all_goals (first | omega | (simp only [ByteArray.size_extract]; omega) | decide))
 refine O2 ?_
 (refine D1 (I4 rfl rfl rfl (by omega) (by unfold maxLen; omega) rfl) rfl ?_; rintro _ ⟨b108, rfl⟩)
 (refine N4 (by repeat (first | exact Pk.here | apply Pk.there)) (fun Gf hlef hslf _ => ?_); refine B4 rfl (X0 Gf br pb nb cb (p + 1 + 1) bs _ _ _ _ (hb.mono hlef) hnb (by omega) hslf (by decide)) (Pk.perm (by repeat (first | exact Pk.here | apply Pk.there))) rfl rfl (fun v Gn outs hlen hh => ?_); obtain ⟨rfl, rfl, hv⟩ := hh; obtain ⟨kn, rfl, hkn⟩ : ∃ k, v = .int .i64 k ∧ D7 k := (by simp only [List.mem_cons, List.not_mem_nil, or_false] at hv; rcases hv with rfl | rfl | rfl | rfl | rfl | rfl <;> exact ⟨_, rfl, by unfold D7; omega⟩))
 refine J9 rfl ((A1M _ _)) rfl rfl ?_
 refine I8 ?_
 refine sD (nS (tT ?_))
 refine B2 (outs := [rd br pb nb cb (p + 1 + 1 + 1)]) (rC rfl (A7 rfl rfl)) (by repeat (first | exact A2.nil | refine A2.cons Pk.here ?_ | refine A2.cons (Pk.there Pk.here) ?_ | refine A2.cons (Pk.there (Pk.there Pk.here)) ?_ | apply A2.drop)) ?_
 focus (refine ⟨_, ?_, ?_, rfl, _, _, rfl, A0e ⟨by omega, by omega⟩ hkn, ?_⟩; all_goals (try rw [A0f]); all_goals (first | omega | decide))
 refine O3 ?_
 (refine B4 rfl (W9 _ br pb nb cb p bs _ hb hnb (by omega)) (Pk.perm (by repeat (first | exact Pk.here | apply Pk.there))) rfl rfl (fun v131 G131 outs131 hle131 hh => ?_); obtain ⟨rfl, rfl, j131, rfl, hj131, hk131⟩ := hh; obtain ⟨i131, rfl⟩ := Int.eq_ofNat_of_zero_le hj131)
 replace hb := hb.mono hle131
 refine sD (nS ?_)
 refine D2 (tS (tR (sB (qE rfl rfl) rfl rfl (fun h137 => ?_) (fun h137 => ?_))))
 refine H3 ?_
 refine B2 (outs := [rd br pb nb cb (p + 1)]) (rC rfl (A7 rfl rfl)) (by repeat (first | exact A2.nil | refine A2.cons Pk.here ?_ | refine A2.cons (Pk.there Pk.here) ?_ | refine A2.cons (Pk.there (Pk.there Pk.here)) ?_ | apply A2.drop)) ?_
 focus (refine ⟨_, ?_, ?_, rfl, _, _, rfl, A0e ⟨by omega, by omega⟩ ⟨by omega, by omega⟩, ?_⟩; all_goals (try rw [A0f]); all_goals (first | omega | (simp only [ByteArray.size_extract]; omega) | decide))
 refine sQ (qA rfl) rfl (sD (nS (cF rfl (tS (tR ?_)))))
 refine sB (qE rfl rfl) rfl rfl (fun h159 => ?_) (fun h159 => ?_)
 refine H3 ?_
 refine B2 (outs := [rd br pb nb cb (p + 1)]) (rC rfl (A7 rfl rfl)) (by repeat (first | exact A2.nil | refine A2.cons Pk.here ?_ | refine A2.cons (Pk.there Pk.here) ?_ | refine A2.cons (Pk.there (Pk.there Pk.here)) ?_ | apply A2.drop)) ?_
 focus (refine ⟨_, ?_, ?_, rfl, _, _, rfl, A0e ⟨by omega, by omega⟩ ⟨by omega, by omega⟩, ?_⟩; all_goals (try rw [A0f]); all_goals (first | omega | (simp only [ByteArray.size_extract]; omega) | decide))
 refine O2 ?_
 (refine D1 (I4 rfl rfl rfl (by omega) (by unfold maxLen; omega) rfl) rfl ?_; rintro _ ⟨b185, rfl⟩)
 (refine N4 (by repeat (first | exact Pk.here | apply Pk.there)) (fun Gf hlef hslf _ => ?_); refine B4 rfl (X0 Gf br pb nb cb (p + 1) bs _ _ _ _ (hb.mono hlef) hnb (by omega) hslf (by decide)) (Pk.perm (by repeat (first | exact Pk.here | apply Pk.there))) rfl rfl (fun v Gn outs hlen hh => ?_); obtain ⟨rfl, rfl, hv⟩ := hh; obtain ⟨kn, rfl, hkn⟩ : ∃ k, v = .int .i64 k ∧ D7 k := (by simp only [List.mem_cons, List.not_mem_nil, or_false] at hv; rcases hv with rfl | rfl | rfl | rfl | rfl | rfl <;> exact ⟨_, rfl, by unfold D7; omega⟩))
 refine J9 rfl ((A1M _ _)) rfl rfl ?_
 refine I8 ?_
 refine sD (nS (tT ?_))
 refine B2 (outs := [rd br pb nb cb (p + 1 + 1)]) (rC rfl (A7 rfl rfl)) (by repeat (first | exact A2.nil | refine A2.cons Pk.here ?_ | refine A2.cons (Pk.there Pk.here) ?_ | refine A2.cons (Pk.there (Pk.there Pk.here)) ?_ | apply A2.drop)) ?_
 focus (refine ⟨_, ?_, ?_, rfl, _, _, rfl, A0e ⟨by omega, by omega⟩ hkn, ?_⟩; all_goals (try rw [A0f]); all_goals (first | omega | decide))
def tB : Nat → Nat
 | 0 => 3
 | d + 1 => 3 * tB d + 20
theorem A6k (d : Nat) : 3 ≤ tB d := by cases d <;> simp only [tB] <;> omega
theorem A24 (br : Nat) (pb : Option Addr) (nb cb : Nat) (bs : List UInt8) (hnb : nb ≤ 2000) : ∀ (d p : Nat) (G : IM) (s : ByteArray), d ≤ 900 → s.size + d ≤ 950 → Sl G pb nb cb 1 (K2 bs) → p + tB d < 1099511627776 →
  Fn Tryz.prog 98 [.pointer (some ⟨br, 0, none⟩), .string s, .int .i64 ((d + 1 : Nat) : Int)] [rd br pb nb cb p] G
   (W8 br pb nb cb p (tB d) (fun G' v => ∃ t cells, v = .agg ⟨cells⟩ ∧ B6 G' t cells ∧ S9 t ≤ ((tB d : Nat) : Int))) := by
 refine fun d => Nat.strongRecOn d fun d ih p G s hd hs hb hp => ?_
 have hge := A6k d
 refine B5 Tryz.func98 rfl Tryz.ntmps98 Tryz.results98 rfl ?_
 intro w0
 refine tS (tR ?_)
 refine sE (C0 rfl) rfl (fun b3 => ?_)
 refine sD (nS (tS (tS (tR (sQ (qM rfl) rfl ?_)))))
 refine sB (M9 rfl rfl) rfl rfl (fun h10 => ?_) (fun h10 => ?_)
 ·refine Q6 ?_
  (refine B4 rfl (A6j br pb nb cb bs hnb p _ hb (by omega) s (by omega)) (Pk.perm (by repeat (first | exact Pk.here | apply Pk.there))) rfl rfl (fun v Ga outs hlea hh => ?_); obtain ⟨pa, hpa1, hpa2, rfl, ta, cellsa, rfl, hra, hsa⟩ := hh; have hl9 := hra.len; have ho9 := hra.one)
  refine sS rfl rfl rfl hl9 ho9 rfl ?_ (hu := by exact M1 hl9.symm)
  refine sD (nS (tT (rS ?_)))
  refine B2 (outs := [rd br pb nb cb pa]) (rC rfl (C4 rfl rfl (E7 (by repeat first | exact mH | apply mT)) hl9)) (by repeat (first | exact A2.nil | refine A2.cons Pk.here ?_ | refine A2.cons (Pk.there Pk.here) ?_ | refine A2.cons (Pk.there (Pk.there Pk.here)) ?_ | apply A2.drop)) ?_
  (exact ⟨pa, by omega, by omega, rfl, ta, cellsa, rfl, hra, by omega⟩)
 ·refine sQ (qM rfl) rfl (sQ (qM rfl) rfl ?_)
  (have hB4 : 4 ≤ tB d := (by obtain ⟨d1, rfl⟩ : ∃ d1, d = d1 + 1 := ⟨d - 1, by omega⟩; simp only [tB]; have := A6k d1; omega); refine B4 rfl (W9 _ br pb nb cb p bs _ hb hnb (by omega)) (Pk.perm (by repeat (first | exact Pk.here | apply Pk.there))) rfl rfl (fun v33 G33 outs33 hle33 hh => ?_); obtain ⟨rfl, rfl, j33, rfl, hj33, hk33⟩ := hh)
  replace hb := hb.mono hle33
  refine sB (qE rfl rfl) rfl rfl (fun h34 => ?_) (fun h34 => ?_)
  ·refine E0 ?_
   (refine B4 rfl (A6j br pb nb cb bs hnb (p + 1) _ hb (by omega) s (by omega)) (Pk.perm (by repeat (first | exact Pk.here | apply Pk.there))) rfl rfl (fun v Ga outs hlea hh => ?_); obtain ⟨pa, hpa1, hpa2, rfl, ta, cellsa, rfl, hra, hsa⟩ := hh; have hl9 := hra.len; have ho9 := hra.one)
   refine sS rfl rfl rfl hl9 ho9 rfl ?_ (hu := by exact M1 hl9.symm)
   refine sD (nS (tT (rS ?_)))
   refine B2 (outs := [rd br pb nb cb pa]) (rC rfl (C4 rfl rfl (E7 (by repeat first | exact mH | apply mT)) hl9)) (by repeat (first | exact A2.nil | refine A2.cons Pk.here ?_ | refine A2.cons (Pk.there Pk.here) ?_ | refine A2.cons (Pk.there (Pk.there Pk.here)) ?_ | apply A2.drop)) ?_
   (exact ⟨pa, by omega, by omega, rfl, ta, cellsa, rfl, hra, by omega⟩)
  ·refine C2 ?_
   (refine D1 (I4 rfl rfl rfl (by omega) (by unfold maxLen; omega) rfl) rfl ?_; rintro _ ⟨b60, rfl⟩)
   (refine N4 (by repeat (first | exact Pk.here | apply Pk.there)) (fun Gf hlef hslf _ => ?_); refine B4 rfl (X0 Gf br pb nb cb (p + 1) bs _ _ _ _ (hb.mono hlef) hnb (by omega) hslf (by decide)) (Pk.perm (by repeat (first | exact Pk.here | apply Pk.there))) rfl rfl (fun v Gk outs hlek hh => ?_); obtain ⟨rfl, rfl, hv⟩ := hh; replace hb := hb.mono hlef; obtain ⟨k, rfl, hk1, hk2⟩ : ∃ k, v = .int .i64 k ∧ 5 ≤ k ∧ k ≤ 13 := (by simp only [List.mem_cons, List.not_mem_nil, or_false] at hv; rcases hv with rfl | rfl | rfl | rfl | rfl | rfl | rfl | rfl | rfl | rfl | rfl <;> exact ⟨_, rfl, by decide, by decide⟩); obtain ⟨d1, rfl⟩ : ∃ d1, d = d1 + 1 := ⟨d - 1, by omega⟩; have hB : tB (d1 + 1) = 3 * tB d1 + 20 := rfl)
   refine B8 ?_
   refine sE (C0 rfl) rfl (fun b69 => ?_)
   refine I8 ?_
   refine sD (nS (tS (tS (tR (sQ (qM rfl) rfl ?_)))))
   refine sB (qE rfl rfl) rfl rfl (fun h77 => ?_) (fun h77 => ?_)
   ·refine sD (nS ?_)
    (show H8 _ _ (.cond (.tmp 26) _ _) _ _; refine A0v (fun (x : ByteArray × ByteArray × Nat × IM) => ⟨[(7, .int .i64 k), (8, .pointer (some ⟨b69, 0, none⟩)), (6, .pointer (some ⟨b3, 0, none⟩)), (0, .pointer (some ⟨br, 0, none⟩)), (1, .string x.2.1), (2, .int .i64 ((d1 + 1 + 1 : Nat) : Int))], [.blk b69 [.int .i64 k, .string x.1, .int .i64 0, .int .i64 0, .slice none 0 0, .int .i64 0, .slice none 0 0, .int .i64 0, .slice none 0 0], .blk b3 [.int .i64 0, .string ⟨⟨[]⟩⟩, .int .i64 0, .int .i64 0, .slice none 0 0, .int .i64 0, .slice none 0 0, .int .i64 0, .slice none 0 0], rd br pb nb cb x.2.2.1], x.2.2.2⟩) (fun x => A9 Gk x.2.2.2 ∧ x.1.size ≤ 1 ∧ x.2.1.size ≤ s.size + 1 ∧ p + 2 ≤ x.2.2.1 ∧ x.2.2.1 ≤ p + 3) ?_ ?_)
    ·refine qT rfl (tS (tR (sQ (qM rfl) rfl ?_)))
     (refine D1 (I4 rfl rfl rfl (by omega) (by unfold maxLen; omega) rfl) rfl ?_; rintro _ ⟨b85, rfl⟩)
     (refine N4 (by repeat (first | exact Pk.here | apply Pk.there)) (fun Gf2 hlef2 hslf2 _ => ?_); refine B4 rfl (A37 Gf2 br pb nb cb (p + 1 + 1) bs _ _ _ _ (hb.mono hlef2) hnb (by omega) hslf2 (by decide)) (Pk.perm (by repeat (first | exact Pk.here | apply Pk.there))) rfl rfl (fun v Go outs hleo hh => ?_); obtain ⟨rfl, rfl, hv2⟩ := hh; obtain ⟨nmA, rfl, hnA⟩ : ∃ nm, v = .string nm ∧ nm.size ≤ 1 := (by simp only [List.mem_cons, List.not_mem_nil, or_false] at hv2; rcases hv2 with rfl | rfl | rfl | rfl <;> exact ⟨_, rfl, by decide⟩))
     refine E0 ?_
     (refine A5k rfl (A9L s nmA _ (by omega) (by omega)) rfl rfl (fun v Ga outs hlea hh => ?_); obtain ⟨rfl, rfl, sA, rfl, hsA⟩ := hh)
     refine sQ (qA rfl) rfl (sD ?_)
     refine O9 (nmA, sA, p + 1 + 1 + 1, Ga) (P8 (by repeat (first | exact H9.nil | refine H9.cons rfl ?_)) (by repeat (first | exact A2.refl | exact A2.nil | refine A2.cons (by repeat (first | exact Pk.here | apply Pk.there)) ?_ | apply A2.drop))) ?_
     (dsimp only; exact ⟨hlef2, hnA, by omega, by omega, by omega⟩)
    ·(rintro ⟨(nm : ByteArray), s', p1, G1⟩ ⟨hleA, hnm, hss, hpA, hpB⟩; simp only [] at hleA hnm hss hpA hpB ⊢; replace hb := hb.mono hleA; have hmark := hleA)
     refine tS (tS ?_)
     (have hm' := hmark; refine A0v (fun (x : Bool) => ⟨(40, .bool x) :: [(7, .int .i64 k), (8, .pointer (some ⟨b69, 0, none⟩)), (6, .pointer (some ⟨b3, 0, none⟩)), (0, .pointer (some ⟨br, 0, none⟩)), (1, .string s'), (2, .int .i64 ((d1 + 1 + 1 : Nat) : Int))], [.blk b69 [.int .i64 k, .string nm, .int .i64 0, .int .i64 0, .slice none 0 0, .int .i64 0, .slice none 0 0, .int .i64 0, .slice none 0 0], .blk b3 [.int .i64 0, .string ⟨⟨[]⟩⟩, .int .i64 0, .int .i64 0, .slice none 0 0, .int .i64 0, .slice none 0 0, .int .i64 0, .slice none 0 0], rd br pb nb cb p1], G1⟩) (fun x => True) ?_ ?_)
     ·refine tR (sQ (qM rfl) rfl ?_)
      refine sP (Z9 rfl rfl (by omega)) rfl rfl ?_
      refine P9 ?_
      refine O9 true (P8 (by repeat (first | exact H9.nil | refine H9.cons rfl ?_)) (by repeat (first | exact A2.refl | exact A2.nil | refine A2.cons (by repeat (first | exact Pk.here | apply Pk.there)) ?_ | apply A2.drop))) ?_
      trivial
     ·(rintro x _; clear hmark)
      (show H8 _ _ (.cond (.tmp 40) _ _) _ _; refine A0v (fun (x : Ty × Option Addr × Nat × Nat × IM) => ⟨[(7, .int .i64 k), (8, .pointer (some ⟨b69, 0, none⟩)), (6, .pointer (some ⟨b3, 0, none⟩)), (0, .pointer (some ⟨br, 0, none⟩)), (1, .string s'), (2, .int .i64 ((d1 + 1 + 1 : Nat) : Int))], [.blk b69 [.int .i64 k, .string nm, .int .i64 0, .int .i64 x.1.k, .slice x.2.1 x.1.ks.length x.2.2.1, .int .i64 0, .slice none 0 0, .int .i64 0, .slice none 0 0], .blk b3 [.int .i64 0, .string ⟨⟨[]⟩⟩, .int .i64 0, .int .i64 0, .slice none 0 0, .int .i64 0, .slice none 0 0, .int .i64 0, .slice none 0 0], rd br pb nb cb x.2.2.2.1], x.2.2.2.2⟩) (fun x => A9 G1 x.2.2.2.2 ∧ C5 x.2.2.2.2 x.1 [.int .i64 x.1.k, .slice x.2.1 x.1.ks.length x.2.2.1] ∧ M4 x.1 ≤ 14 ∧ p1 ≤ x.2.2.2.1 ∧ x.2.2.2.1 ≤ p1 + 15) (A3w rfl (fun hxt => ?_) (fun hxf => ?_)) ?_)
      ·refine tR (sQ (qM rfl) rfl (sQ (qM rfl) rfl ?_))
       (refine D1 (I4 rfl rfl rfl (by omega) (by unfold maxLen; omega) rfl) rfl ?_; rintro _ ⟨b119, rfl⟩)
       (refine N4 (by repeat (first | exact Pk.here | apply Pk.there)) (fun Gf hlef3 hslf _ => ?_); refine B4 rfl (X0 Gf br pb nb cb p1 bs _ _ _ _ (hb.mono hlef3) hnb (by omega) hslf (by decide)) (Pk.perm (by repeat (first | exact Pk.here | apply Pk.there))) rfl rfl (fun v Gn outs hlen hh => ?_); obtain ⟨rfl, rfl, hv⟩ := hh; replace hb := hb.mono hlef3; obtain ⟨dd, rfl, hdd⟩ : ∃ d : Nat, v = .int .i64 ((d + 1 : Nat) : Int) ∧ d ≤ 2 := (by simp only [List.mem_cons, List.not_mem_nil, or_false] at hv; rcases hv with rfl | rfl | rfl | rfl <;> first | exact ⟨0, rfl, by decide⟩ | exact ⟨1, rfl, by decide⟩ | exact ⟨2, rfl, by decide⟩))
       (have hdB := A6i hdd; refine B4 rfl (A6f br pb nb cb bs hnb dd (p1 + 1) _ (by omega) hb (by omega)) (Pk.perm (by repeat (first | exact Pk.here | apply Pk.there))) rfl rfl (fun v G3 outs hle3 hh => ?_); obtain ⟨p3, hp31, hp32, rfl, t3, cells3, rfl, hr3, hs3⟩ := hh; obtain ⟨q3, c3, es3, rfl, _⟩ := hr3.open)
       refine sQ (A5 rfl) rfl (I8 ?_)
       refine sD ?_
       refine O9 (t3, q3, c3, p3, G3) (P8 (by repeat (first | exact H9.nil | refine H9.cons rfl ?_)) (by repeat (first | exact A2.refl | exact A2.nil | refine A2.cons (by repeat (first | exact Pk.here | apply Pk.there)) ?_ | apply A2.drop))) ?_
       (dsimp only; exact ⟨hlef3.trans hle3, hr3, by omega, by omega, by omega⟩)
      ·refine tK ?_
       refine O9 (A4, none, 0, p1, G1) (P8 (by repeat (first | exact H9.nil | refine H9.cons rfl ?_)) (by repeat (first | exact A2.refl | exact A2.nil | refine A2.cons (by repeat (first | exact Pk.here | apply Pk.there)) ?_ | apply A2.drop))) ?_
       (dsimp only; exact ⟨A9.refl _, X8 _, by decide, by omega, by omega⟩)
      ·(rintro ⟨(t' : Ty), q', c', p2, G2⟩ ⟨hleB, hrB, hsB, hpC, hpD⟩; simp only [] at hleB hrB hsB hpC hpD ⊢; replace hb := hb.mono hleB; have hop := A6h k; have hK := A3Y k)
       refine tS (tS (tR (sQ (qA rfl) rfl (sD (nS ?_)))))
       refine D2 ?_
       (refine A1D 28 9 ?_; refine Q5 (fun (x : Nat × Option Addr × Nat × List Tm × List (List Value) × Nat × IM) => ⟨[(9, .int .i64 x.1), (7, .int .i64 k), (8, .pointer (some ⟨b69, 0, none⟩)), (6, .pointer (some ⟨b3, 0, none⟩)), (0, .pointer (some ⟨br, 0, none⟩)), (1, .string s'), (2, .int .i64 ((d1 + 1 + 1 : Nat) : Int))], [.blk b69 [.int .i64 k, .string nm, .int .i64 0, .int .i64 t'.k, .slice q' t'.ks.length c', .int .i64 0, .slice none 0 0, .int .i64 0, .slice x.2.1 x.1 x.2.2.1], .slc x.2.1 x.2.2.1 28 9 x.1 x.2.2.2.2.1.flatten, rd br pb nb cb x.2.2.2.2.2.1, .blk b3 [.int .i64 0, .string ⟨⟨[]⟩⟩, .int .i64 0, .int .i64 0, .slice none 0 0, .int .i64 0, .slice none 0 0, .int .i64 0, .slice none 0 0]], x.2.2.2.2.2.2⟩) (fun x => ((x.1 : Int) ≤ J3 k ∨ x.1 = 0) ∧ A9 G2 x.2.2.2.2.2.2 ∧ x.2.2.2.1.length = x.1 ∧ D3 x.2.2.2.2.2.2 x.2.2.2.1 x.2.2.2.2.1 ∧ S4 x.2.2.2.1 ≤ ((x.1 * tB d1 : Nat) : Int) ∧ p2 ≤ x.2.2.2.2.2.1 ∧ x.2.2.2.2.2.1 ≤ p2 + x.1 * tB d1) (fun x => (J3 k).toNat - x.1) (0, none, 0, [], [], p2, G2) ?_ ?_ ?_)
       ·(simp only [P3]; exact I9)
       ·(exact ⟨.inr rfl, A9.refl _, rfl, by simp [D3], by simp [S4], by dsimp only; omega, by dsimp only; omega⟩)
       ·(rintro ⟨i, pn, cn, ts, es', p', Gi⟩ ⟨hi, hle, hlt, hst, hsum, hq1, hq2⟩; simp only [] at hi hle hlt hst hsum hq1 hq2 ⊢; have hid : i * tB d1 ≤ 3 * tB d1 := Nat.mul_le_mul_right _ (by omega))
        refine tS (tS (tR (sQ (qM rfl) rfl (sQ (qM rfl) rfl ?_))))
        refine J9 rfl ((hK _)) rfl rfl ?_
        refine sB (M9 rfl rfl) rfl rfl (fun h148 => ?_) (fun h148 => ?_)
        ·refine sD (nS (qT rfl (tK (nS (tS ?_)))))
         refine D2 ?_
         (have hih := ih d1 (by omega) p' Gi s' (by omega) (by omega) (hb.mono hle) (by have := Nat.mul_le_mul_right (tB d1) (show i + 1 ≤ 3 by omega); rw [Nat.succ_mul] at this; omega); refine I7 J0 rfl ?_)
         refine H2 (i := 0) (l' := [tt,ff,ff,ff,ff,ff,ff,ff,ff,ff,ff]) rfl E8 (A5 rfl) rfl (by kernel_rfl) rfl rfl ?_
         refine aL 1 rfl (C1 rfl rfl) rfl ?_
         refine aP 2 rfl (qM rfl) rfl ?_
         refine aP 3 rfl (qM rfl) rfl ?_
         refine aP 4 rfl (qM rfl) rfl ?_
         refine aP 5 rfl (X7 rfl rfl (by omega)) rfl ?_
         refine A8 6 ?_
         (refine A1L (l' := [tt,tt,tt,tt,tt,tt,tt,ff,ff,ff,ff]) rfl rfl hih (Pk.perm (by repeat (first | exact Pk.here | apply Pk.there))) rfl rfl rfl (by repeat (first | exact B7.nil | apply B7.dep (by decide +kernel) | apply B7.blk (by decide +kernel) (by repeat (first | exact Pk.here | apply Pk.there)) (by repeat first | exact mH | apply mT))) (fun v G3 outs hle3 hh => ?_); obtain ⟨p3, hp31, hp32, rfl, t3, cells3, rfl, hr3, hs3⟩ := hh; obtain ⟨qt, dt, et, qf, df, ef, q3, d3, es3, rfl, _⟩ := hr3.open)
         refine A8 7 ?_
         (refine T4 rfl (I4 rfl rfl rfl (by omega) (by unfold maxLen; omega) rfl) rfl rfl ?_; rintro _ ⟨b166, rfl⟩)
         refine A8 8 ?_
         refine A0p rfl rfl rfl rfl rfl rfl (fun _ _ => by repeat (first | exact Sw.here | apply Sw.there)) (U2 (by repeat first | exact mH | apply mT)) rfl (by simp [Value.oneCell']) (by unfold maxLen; omega) (by omega) rfl rfl (by repeat (first | exact B7.nil | apply B7.dep (by decide +kernel) | apply B7.blk (by decide +kernel) (by repeat (first | exact Pk.here | apply Pk.there)) (by repeat first | exact mH | apply mT))) (fun pn' cn' => ?_)
         refine aP 9 rfl (A5 rfl) rfl ?_
         refine A8 10 ?_
         refine N2 rfl rfl rfl rfl rfl rfl rfl rfl (by kernel_rfl) (by repeat first | exact Sw.here | apply Sw.there) (by rfl) ?_
         refine M7 (P7 (nS (tR (sQ (qM rfl) rfl ?_))))
         refine sP (O6 rfl rfl (by omega) (by omega)) rfl rfl ?_
         refine sQ (qA rfl) rfl (sD ?_)
         refine P5 (i + 1, pn', cn', ts ++ [t3], es' ++ [[.int .i64 t3.k, .string t3.nm, .int .i64 t3.num, .int .i64 t3.ty.k, .slice qt t3.ty.ks.length dt, .int .i64 t3.fr.k, .slice qf t3.fr.ks.length df, .int .i64 t3.lb, .slice q3 t3.ks.length d3]], p3, G3) ?_ ?_ ?_
         ·(simp only [P3]; exact I9)
         ·(dsimp only; have e1 : (i + 1) * tB d1 = i * tB d1 + tB d1 := Nat.succ_mul _ _; have e2 := A4d ts t3; exact ⟨.inl (by omega), hle.trans hle3, by simp [hlt], D3.snoc (hst.mono hle3) hr3, by omega, by omega, by omega⟩)
         ·(show (J3 k).toNat - (i + 1) < (J3 k).toNat - i; omega)
        ·refine O3 ?_
         (refine Y4 (by repeat (first | exact Pk.here | apply Pk.there)) (fun G5 hle5 hsl5 hno5 => ?_))
         refine tT ?_
         refine B2 (outs := [rd br pb nb cb p']) (rC rfl (A7 rfl rfl)) (by repeat (first | exact A2.nil | refine A2.cons Pk.here ?_ | refine A2.cons (Pk.there Pk.here) ?_ | refine A2.cons (Pk.there (Pk.there Pk.here)) ?_ | apply A2.drop)) ?_
         (refine ⟨p', by omega, by omega, rfl, .mk k nm 0 t' A4 0 ts, _, rfl, (hst.mono hle5).tm hlt hsl5 ⟨by omega, by omega⟩ ⟨by omega, by omega⟩ (hrB.mono (hle.trans hle5)), ?_⟩; rw [S9, A4c]; omega)
   ·refine sD (nS ?_)
    (show H8 _ _ (.cond (.tmp 26) _ _) _ _; refine A0v (fun (x : ByteArray × ByteArray × Nat × IM) => ⟨[(7, .int .i64 k), (8, .pointer (some ⟨b69, 0, none⟩)), (6, .pointer (some ⟨b3, 0, none⟩)), (0, .pointer (some ⟨br, 0, none⟩)), (1, .string x.2.1), (2, .int .i64 ((d1 + 1 + 1 : Nat) : Int))], [.blk b69 [.int .i64 k, .string x.1, .int .i64 0, .int .i64 0, .slice none 0 0, .int .i64 0, .slice none 0 0, .int .i64 0, .slice none 0 0], .blk b3 [.int .i64 0, .string ⟨⟨[]⟩⟩, .int .i64 0, .int .i64 0, .slice none 0 0, .int .i64 0, .slice none 0 0, .int .i64 0, .slice none 0 0], rd br pb nb cb x.2.2.1], x.2.2.2⟩) (fun x => A9 Gk x.2.2.2 ∧ x.1.size ≤ 1 ∧ x.2.1.size ≤ s.size + 1 ∧ p + 2 ≤ x.2.2.1 ∧ x.2.2.1 ≤ p + 3) ?_ ?_)
    ·refine cF rfl (tK ?_)
     refine O9 (⟨⟨[]⟩⟩, s, p + 1 + 1, Gk) (P8 (by repeat (first | exact H9.nil | refine H9.cons rfl ?_)) (by repeat (first | exact A2.refl | exact A2.nil | refine A2.cons (by repeat (first | exact Pk.here | apply Pk.there)) ?_ | apply A2.drop))) ?_
     (dsimp only; exact ⟨A9.refl _, by decide, by omega, by omega, by omega⟩)
    ·(rintro ⟨(nm : ByteArray), s', p1, G1⟩ ⟨hleA, hnm, hss, hpA, hpB⟩; simp only [] at hleA hnm hss hpA hpB ⊢; replace hb := hb.mono hleA; have hmark := hleA)
     refine tS (tS ?_)
     (have hm' := hmark; refine A0v (fun (x : Bool) => ⟨(40, .bool x) :: [(7, .int .i64 k), (8, .pointer (some ⟨b69, 0, none⟩)), (6, .pointer (some ⟨b3, 0, none⟩)), (0, .pointer (some ⟨br, 0, none⟩)), (1, .string s'), (2, .int .i64 ((d1 + 1 + 1 : Nat) : Int))], [.blk b69 [.int .i64 k, .string nm, .int .i64 0, .int .i64 0, .slice none 0 0, .int .i64 0, .slice none 0 0, .int .i64 0, .slice none 0 0], .blk b3 [.int .i64 0, .string ⟨⟨[]⟩⟩, .int .i64 0, .int .i64 0, .slice none 0 0, .int .i64 0, .slice none 0 0, .int .i64 0, .slice none 0 0], rd br pb nb cb p1], G1⟩) (fun x => True) ?_ ?_)
     ·refine tR (sQ (qM rfl) rfl ?_)
      refine sP (I0 rfl rfl (by omega)) rfl rfl ?_
      refine sQ (qM rfl) rfl (sQ (qM rfl) rfl ?_)
      refine sB (qE rfl rfl) rfl rfl (fun h218 => ?_) (fun h218 => ?_)
      ·refine sQ (M2 rfl rfl) rfl (sD ?_)
       refine O9 true (P8 (by repeat (first | exact H9.nil | refine H9.cons rfl ?_)) (by repeat (first | exact A2.refl | exact A2.nil | refine A2.cons (by repeat (first | exact Pk.here | apply Pk.there)) ?_ | apply A2.drop))) ?_
       trivial
      ·refine sQ (M2 rfl rfl) rfl (sD ?_)
       refine O9 false (P8 (by repeat (first | exact H9.nil | refine H9.cons rfl ?_)) (by repeat (first | exact A2.refl | exact A2.nil | refine A2.cons (by repeat (first | exact Pk.here | apply Pk.there)) ?_ | apply A2.drop))) ?_
       trivial
     ·(rintro x _; clear hmark)
      (show H8 _ _ (.cond (.tmp 40) _ _) _ _; refine A0v (fun (x : Ty × Option Addr × Nat × Nat × IM) => ⟨[(7, .int .i64 k), (8, .pointer (some ⟨b69, 0, none⟩)), (6, .pointer (some ⟨b3, 0, none⟩)), (0, .pointer (some ⟨br, 0, none⟩)), (1, .string s'), (2, .int .i64 ((d1 + 1 + 1 : Nat) : Int))], [.blk b69 [.int .i64 k, .string nm, .int .i64 0, .int .i64 x.1.k, .slice x.2.1 x.1.ks.length x.2.2.1, .int .i64 0, .slice none 0 0, .int .i64 0, .slice none 0 0], .blk b3 [.int .i64 0, .string ⟨⟨[]⟩⟩, .int .i64 0, .int .i64 0, .slice none 0 0, .int .i64 0, .slice none 0 0, .int .i64 0, .slice none 0 0], rd br pb nb cb x.2.2.2.1], x.2.2.2.2⟩) (fun x => A9 G1 x.2.2.2.2 ∧ C5 x.2.2.2.2 x.1 [.int .i64 x.1.k, .slice x.2.1 x.1.ks.length x.2.2.1] ∧ M4 x.1 ≤ 14 ∧ p1 ≤ x.2.2.2.1 ∧ x.2.2.2.1 ≤ p1 + 15) (A3w rfl (fun hxt => ?_) (fun hxf => ?_)) ?_)
      ·refine tR (sQ (qM rfl) rfl (sQ (qM rfl) rfl ?_))
       (refine D1 (I4 rfl rfl rfl (by omega) (by unfold maxLen; omega) rfl) rfl ?_; rintro _ ⟨b232, rfl⟩)
       (refine N4 (by repeat (first | exact Pk.here | apply Pk.there)) (fun Gf hlef3 hslf _ => ?_); refine B4 rfl (X0 Gf br pb nb cb p1 bs _ _ _ _ (hb.mono hlef3) hnb (by omega) hslf (by decide)) (Pk.perm (by repeat (first | exact Pk.here | apply Pk.there))) rfl rfl (fun v Gn outs hlen hh => ?_); obtain ⟨rfl, rfl, hv⟩ := hh; replace hb := hb.mono hlef3; obtain ⟨dd, rfl, hdd⟩ : ∃ d : Nat, v = .int .i64 ((d + 1 : Nat) : Int) ∧ d ≤ 2 := (by simp only [List.mem_cons, List.not_mem_nil, or_false] at hv; rcases hv with rfl | rfl | rfl | rfl <;> first | exact ⟨0, rfl, by decide⟩ | exact ⟨1, rfl, by decide⟩ | exact ⟨2, rfl, by decide⟩))
       (have hdB := A6i hdd; refine B4 rfl (A6f br pb nb cb bs hnb dd (p1 + 1) _ (by omega) hb (by omega)) (Pk.perm (by repeat (first | exact Pk.here | apply Pk.there))) rfl rfl (fun v G3 outs hle3 hh => ?_); obtain ⟨p3, hp31, hp32, rfl, t3, cells3, rfl, hr3, hs3⟩ := hh; obtain ⟨q3, c3, es3, rfl, _⟩ := hr3.open)
       refine sQ (A5 rfl) rfl (I8 ?_)
       refine sD ?_
       refine O9 (t3, q3, c3, p3, G3) (P8 (by repeat (first | exact H9.nil | refine H9.cons rfl ?_)) (by repeat (first | exact A2.refl | exact A2.nil | refine A2.cons (by repeat (first | exact Pk.here | apply Pk.there)) ?_ | apply A2.drop))) ?_
       (dsimp only; exact ⟨hlef3.trans hle3, hr3, by omega, by omega, by omega⟩)
      ·refine tK ?_
       refine O9 (A4, none, 0, p1, G1) (P8 (by repeat (first | exact H9.nil | refine H9.cons rfl ?_)) (by repeat (first | exact A2.refl | exact A2.nil | refine A2.cons (by repeat (first | exact Pk.here | apply Pk.there)) ?_ | apply A2.drop))) ?_
       (dsimp only; exact ⟨A9.refl _, X8 _, by decide, by omega, by omega⟩)
      ·(rintro ⟨(t' : Ty), q', c', p2, G2⟩ ⟨hleB, hrB, hsB, hpC, hpD⟩; simp only [] at hleB hrB hsB hpC hpD ⊢; replace hb := hb.mono hleB; have hop := A6h k; have hK := A3Y k)
       refine tS (tS (tR (sQ (qA rfl) rfl (sD (nS ?_)))))
       refine D2 ?_
       (refine A1D 28 9 ?_; refine Q5 (fun (x : Nat × Option Addr × Nat × List Tm × List (List Value) × Nat × IM) => ⟨[(9, .int .i64 x.1), (7, .int .i64 k), (8, .pointer (some ⟨b69, 0, none⟩)), (6, .pointer (some ⟨b3, 0, none⟩)), (0, .pointer (some ⟨br, 0, none⟩)), (1, .string s'), (2, .int .i64 ((d1 + 1 + 1 : Nat) : Int))], [.blk b69 [.int .i64 k, .string nm, .int .i64 0, .int .i64 t'.k, .slice q' t'.ks.length c', .int .i64 0, .slice none 0 0, .int .i64 0, .slice x.2.1 x.1 x.2.2.1], .slc x.2.1 x.2.2.1 28 9 x.1 x.2.2.2.2.1.flatten, rd br pb nb cb x.2.2.2.2.2.1, .blk b3 [.int .i64 0, .string ⟨⟨[]⟩⟩, .int .i64 0, .int .i64 0, .slice none 0 0, .int .i64 0, .slice none 0 0, .int .i64 0, .slice none 0 0]], x.2.2.2.2.2.2⟩) (fun x => ((x.1 : Int) ≤ J3 k ∨ x.1 = 0) ∧ A9 G2 x.2.2.2.2.2.2 ∧ x.2.2.2.1.length = x.1 ∧ D3 x.2.2.2.2.2.2 x.2.2.2.1 x.2.2.2.2.1 ∧ S4 x.2.2.2.1 ≤ ((x.1 * tB d1 : Nat) : Int) ∧ p2 ≤ x.2.2.2.2.2.1 ∧ x.2.2.2.2.2.1 ≤ p2 + x.1 * tB d1) (fun x => (J3 k).toNat - x.1) (0, none, 0, [], [], p2, G2) ?_ ?_ ?_)
       ·(simp only [P3]; exact I9)
       ·(exact ⟨.inr rfl, A9.refl _, rfl, by simp [D3], by simp [S4], by dsimp only; omega, by dsimp only; omega⟩)
       ·(rintro ⟨i, pn, cn, ts, es', p', Gi⟩ ⟨hi, hle, hlt, hst, hsum, hq1, hq2⟩; simp only [] at hi hle hlt hst hsum hq1 hq2 ⊢; have hid : i * tB d1 ≤ 3 * tB d1 := Nat.mul_le_mul_right _ (by omega))
        refine tS (tS (tR (sQ (qM rfl) rfl (sQ (qM rfl) rfl ?_))))
        refine J9 rfl ((hK _)) rfl rfl ?_
        refine sB (M9 rfl rfl) rfl rfl (fun h261 => ?_) (fun h261 => ?_)
        ·refine sD (nS (qT rfl (tK (nS (tS ?_)))))
         refine D2 ?_
         (have hih := ih d1 (by omega) p' Gi s' (by omega) (by omega) (hb.mono hle) (by have := Nat.mul_le_mul_right (tB d1) (show i + 1 ≤ 3 by omega); rw [Nat.succ_mul] at this; omega); refine I7 J0 rfl ?_)
         refine H2 (i := 0) (l' := [tt,ff,ff,ff,ff,ff,ff,ff,ff,ff,ff]) rfl E8 (A5 rfl) rfl (by kernel_rfl) rfl rfl ?_
         refine aL 1 rfl (C1 rfl rfl) rfl ?_
         refine aP 2 rfl (qM rfl) rfl ?_
         refine aP 3 rfl (qM rfl) rfl ?_
         refine aP 4 rfl (qM rfl) rfl ?_
         refine aP 5 rfl (X7 rfl rfl (by omega)) rfl ?_
         refine A8 6 ?_
         (refine A1L (l' := [tt,tt,tt,tt,tt,tt,tt,ff,ff,ff,ff]) rfl rfl hih (Pk.perm (by repeat (first | exact Pk.here | apply Pk.there))) rfl rfl rfl (by repeat (first | exact B7.nil | apply B7.dep (by decide +kernel) | apply B7.blk (by decide +kernel) (by repeat (first | exact Pk.here | apply Pk.there)) (by repeat first | exact mH | apply mT))) (fun v G3 outs hle3 hh => ?_); obtain ⟨p3, hp31, hp32, rfl, t3, cells3, rfl, hr3, hs3⟩ := hh; obtain ⟨qt, dt, et, qf, df, ef, q3, d3, es3, rfl, _⟩ := hr3.open)
         refine A8 7 ?_
         (refine T4 rfl (I4 rfl rfl rfl (by omega) (by unfold maxLen; omega) rfl) rfl rfl ?_; rintro _ ⟨b279, rfl⟩)
         refine A8 8 ?_
         refine A0p rfl rfl rfl rfl rfl rfl (fun _ _ => by repeat (first | exact Sw.here | apply Sw.there)) (U2 (by repeat first | exact mH | apply mT)) rfl (by simp [Value.oneCell']) (by unfold maxLen; omega) (by omega) rfl rfl (by repeat (first | exact B7.nil | apply B7.dep (by decide +kernel) | apply B7.blk (by decide +kernel) (by repeat (first | exact Pk.here | apply Pk.there)) (by repeat first | exact mH | apply mT))) (fun pn' cn' => ?_)
         refine aP 9 rfl (A5 rfl) rfl ?_
         refine A8 10 ?_
         refine N2 rfl rfl rfl rfl rfl rfl rfl rfl (by kernel_rfl) (by repeat first | exact Sw.here | apply Sw.there) (by rfl) ?_
         refine M7 (P7 (nS (tR (sQ (qM rfl) rfl ?_))))
         refine sP (O6 rfl rfl (by omega) (by omega)) rfl rfl ?_
         refine sQ (qA rfl) rfl (sD ?_)
         refine P5 (i + 1, pn', cn', ts ++ [t3], es' ++ [[.int .i64 t3.k, .string t3.nm, .int .i64 t3.num, .int .i64 t3.ty.k, .slice qt t3.ty.ks.length dt, .int .i64 t3.fr.k, .slice qf t3.fr.ks.length df, .int .i64 t3.lb, .slice q3 t3.ks.length d3]], p3, G3) ?_ ?_ ?_
         ·(simp only [P3]; exact I9)
         ·(dsimp only; have e1 : (i + 1) * tB d1 = i * tB d1 + tB d1 := Nat.succ_mul _ _; have e2 := A4d ts t3; exact ⟨.inl (by omega), hle.trans hle3, by simp [hlt], D3.snoc (hst.mono hle3) hr3, by omega, by omega, by omega⟩)
         ·(show (J3 k).toNat - (i + 1) < (J3 k).toNat - i; omega)
        ·refine O3 ?_
         (refine Y4 (by repeat (first | exact Pk.here | apply Pk.there)) (fun G5 hle5 hsl5 hno5 => ?_))
         refine tT ?_
         refine B2 (outs := [rd br pb nb cb p']) (rC rfl (A7 rfl rfl)) (by repeat (first | exact A2.nil | refine A2.cons Pk.here ?_ | refine A2.cons (Pk.there Pk.here) ?_ | refine A2.cons (Pk.there (Pk.there Pk.here)) ?_ | apply A2.drop)) ?_
         (refine ⟨p', by omega, by omega, rfl, .mk k nm 0 t' A4 0 ts, _, rfl, (hst.mono hle5).tm hlt hsl5 ⟨by omega, by omega⟩ ⟨by omega, by omega⟩ (hrB.mono (hle.trans hle5)), ?_⟩; rw [S9, A4c]; omega)
theorem Sl.pre {G : IM} {p : Option Addr} {n c m : Nat} {cs : List Value} (h : Sl G p n c 1 cs) (hm : m ≤ n) : Sl G p m c 1 (cs.take m) := by
 obtain ⟨h1, h2, h3, h4⟩ := h
 refine ⟨by rw [List.length_take]; omega, by omega, h3, ?_⟩
 rcases h4 with h4 | ⟨b, o, full, e1, e2, e3⟩
 ·exact .inl (by omega)
 ·refine .inr ⟨b, o, full, e1, e2, fun j v hj => e3 j v ?_⟩
  rw [List.getElem?_take] at hj
  split at hj
  ·exact hj
  ·cases hj
theorem A9M (bs : List UInt8) (m : Nat) : K2 (bs.take m) = (K2 bs).take m := by unfold K2; rw [List.map_take]
theorem A25 {d : Nat} (h : d ≤ 4) : tB d ≤ 1043 := by
 have : d = 0 ∨ d = 1 ∨ d = 2 ∨ d = 3 ∨ d = 4 := by omega
 rcases this with rfl | rfl | rfl | rfl | rfl <;> decide
def A2p (G : IM) : IM → Value → List A1 → Prop := fun G' v outs => G' = G ∧ ∃ br pb nb cb bs, v = .pointer (some ⟨br, 0, none⟩) ∧ outs = [rd br pb nb cb 0] ∧ nb ≤ 2000 ∧ Sl G pb nb cb 1 (K2 bs)
theorem A2p.mk {G : IM} {b : Nat} {pb : Option Addr} {nb cb : Nat} {bs : List UInt8} (h : nb ≤ 2000) (hb : Sl G pb nb cb 1 (K2 bs)) : A2p G G (.pointer (some ⟨b, 0, none⟩)) [.blk b [.slice pb nb cb, .int .i64 0]] := ⟨rfl, _, _, _, _, bs, rfl, rfl, h, hb⟩
theorem A6l (G : IM) (q : Option Addr) (n c : Nat) (bs : List UInt8) (hb : Sl G q n c 1 (K2 bs)) :
  Fn Tryz.prog 48 [.slice q n c] [] G (A2p G) := by
 have hn := hb.le
 have hnc := hb.2.1
 have hpre := fun h : 2000 ≤ n => hb.pre h
 refine B5 Tryz.func48 rfl Tryz.ntmps48 Tryz.results48 rfl ?_
 intro w0
 refine O2 ?_
 refine sB (V8 rfl rfl) rfl rfl (fun h11 => ?_) (fun h11 => ?_)
 refine sD (nS (qT rfl (tR (sQ (qM rfl) rfl ?_))))
 refine sP (A9C (l := 2000) rfl rfl rfl (by omega)) rfl rfl ?_
 refine B8 ?_
 refine sE (K0 rfl rfl) rfl (fun b25 => ?_)
 refine sQ (qA rfl) rfl (sD (nS (tT ?_)))
 refine B2 (rT rfl) A2.refl ?_
 exact A2p.mk (Nat.le_refl _) (by rw [A9M]; exact hpre (by omega))
 refine C2 ?_
 refine sE (K0 rfl rfl) rfl (fun b41 => ?_)
 refine sQ (qA rfl) rfl (sD (nS (tT ?_)))
 refine B2 (rT rfl) A2.refl ?_
 exact A2p.mk (by omega) hb
theorem A9N (br : Nat) (pb : Option Addr) (nb cb : Nat) (bs : List UInt8) (hnb : nb ≤ 2000) (p : Nat) (G : IM) (hb : Sl G pb nb cb 1 (K2 bs)) (hp : p + 1100 < 1099511627776) :
  Fn Tryz.prog 97 [.pointer (some ⟨br, 0, none⟩)] [rd br pb nb cb p] G
   (W8 br pb nb cb p 1100 (fun G' v => ∃ t cells, v = .agg ⟨cells⟩ ∧ B6 G' t cells ∧ S9 t ≤ 1043)) := by
 refine B5 Tryz.func97 rfl Tryz.ntmps97 Tryz.results97 rfl ?_
 intro w0
 refine tS (tR ?_)
 refine sE (C0 rfl) rfl (fun b3 => ?_)
 refine sD (nS (tS (tR (sQ (qM rfl) rfl (sQ (qM rfl) rfl ?_)))))
 (refine D1 (I4 rfl rfl rfl (by omega) (by unfold maxLen; omega) rfl) rfl ?_; rintro _ ⟨b10, rfl⟩)
 (refine N4 (by repeat (first | exact Pk.here | apply Pk.there)) (fun Gf hlef hslf _ => ?_); refine B4 rfl (X0 Gf br pb nb cb p bs _ _ _ _ (hb.mono hlef) hnb (by omega) hslf (by decide)) (Pk.perm (by repeat (first | exact Pk.here | apply Pk.there))) rfl rfl (fun v Gn outs hlen hh => ?_); obtain ⟨rfl, rfl, hv⟩ := hh; replace hb := hb.mono hlef; obtain ⟨dd, rfl, hdd⟩ : ∃ d : Nat, v = .int .i64 ((d + 1 : Nat) : Int) ∧ d ≤ 4 := (by simp only [List.mem_cons, List.not_mem_nil, or_false] at hv; rcases hv with rfl | rfl | rfl | rfl | rfl <;> first | exact ⟨3, rfl, by decide⟩ | exact ⟨2, rfl, by decide⟩ | exact ⟨4, rfl, by decide⟩ | exact ⟨1, rfl, by decide⟩); have htB := A25 hdd)
 (refine B4 rfl (A24 br pb nb cb bs hnb dd (p + 1) Gn ⟨⟨[]⟩⟩ (by omega) (by have hz : (⟨⟨[]⟩⟩ : ByteArray).size ≤ 2 := (by decide); omega) hb (by omega)) (Pk.perm (by repeat (first | exact Pk.here | apply Pk.there))) rfl rfl (fun v G3 outs hle3 hh => ?_); obtain ⟨p3, hp31, hp32, rfl, t3, cells3, rfl, hr3, hs3⟩ := hh; have hl3 := hr3.len; have ho3 := hr3.one; have hc3 := A1J t3; have hv3 := A1I t3 G3 cells3 (by omega) hr3)
 refine sE (C0 rfl) rfl (fun b13 => ?_)
 refine sS rfl rfl rfl hl3 ho3 rfl ?_ (hu := by exact M1 hl3.symm)
 refine sD (nS (tS (tS (tR ?_))))
 refine sL (C4 rfl rfl (E7 (by repeat first | exact mH | apply mT)) hl3) rfl rfl ?_
 refine H7 rfl (hv3) rfl rfl (fun h21 => ?_) (fun h21 => ?_)
 refine sD (nS (qT rfl (tS (tR ?_))))
 refine sL (C4 rfl rfl (E7 (by repeat first | exact mH | apply mT)) hl3) rfl rfl ?_
 refine sS rfl rfl rfl hl3 ho3 rfl ?_ (hu := by exact M1 hl3.symm)
 refine sD (nS (tT (rS ?_)))
 refine B2 (outs := [rd br pb nb cb p3]) (rC rfl (C4 rfl rfl (E7 (by repeat first | exact mH | apply mT)) hl3)) (by repeat (first | exact A2.nil | refine A2.cons Pk.here ?_ | refine A2.cons (Pk.there Pk.here) ?_ | refine A2.cons (Pk.there (Pk.there Pk.here)) ?_ | apply A2.drop)) ?_
 (exact ⟨p3, by omega, by omega, rfl, t3, cells3, rfl, hr3, by omega⟩)
 refine sD (nS (cF rfl (tK (nS (tS (tR ?_))))))
 refine J9 rfl ((A1M _ _)) rfl rfl ?_
 refine I8 ?_
 refine sD (nS (tT ?_))
 refine B2 (outs := [rd br pb nb cb p3]) (rC rfl (A7 rfl rfl)) (by repeat (first | exact A2.nil | refine A2.cons Pk.here ?_ | refine A2.cons (Pk.there Pk.here) ?_ | refine A2.cons (Pk.there (Pk.there Pk.here)) ?_ | apply A2.drop)) ?_
 (exact ⟨p3, by omega, by omega, rfl, _, _, rfl, A0e ⟨by omega, by omega⟩ ⟨by omega, by omega⟩, by rw [A0f]; decide⟩)
theorem A9O (br : Nat) (pb : Option Addr) (nb cb : Nat) (bs : List UInt8) (hnb : nb ≤ 2000) (p : Nat) (G : IM) (hb : Sl G pb nb cb 1 (K2 bs)) (hp : p + 1200 < 1099511627776) :
  Fn Tryz.prog 50 [.pointer (some ⟨br, 0, none⟩)] [rd br pb nb cb p] G
   (W8 br pb nb cb p 1200 (fun G' v => ∃ t cells, v = .agg ⟨cells⟩ ∧ B6 G' t cells ∧ S9 t ≤ 1043)) := by
 refine B5 Tryz.func50 rfl Tryz.ntmps50 Tryz.results50 rfl ?_
 intro w0
 refine tS (tR ?_)
 refine sE (C0 rfl) rfl (fun b3 => ?_)
 refine sD (nS (tS (tS (tR (sQ (qM rfl) rfl ?_)))))
 (refine B4 rfl (W9 _ br pb nb cb p bs _ hb hnb (by omega)) (Pk.perm (by repeat (first | exact Pk.here | apply Pk.there))) rfl rfl (fun v10 G10 outs10 hle10 hh => ?_); obtain ⟨rfl, rfl, j10, rfl, hj10, hk10⟩ := hh)
 replace hb := hb.mono hle10
 refine sB (V8 rfl rfl) rfl rfl (fun h11 => ?_) (fun h11 => ?_)
 refine sD (nS (qT rfl (tS (tR (sQ (qM rfl) rfl ?_)))))
 (refine B4 rfl (A9N br pb nb cb bs hnb (p + 1) _ hb (by omega)) (Pk.perm (by repeat (first | exact Pk.here | apply Pk.there))) rfl rfl (fun v G3 outs hle3 hh => ?_); obtain ⟨p3, hp31, hp32, rfl, t3, cells3, rfl, hr3, hs3⟩ := hh; have hl3 := hr3.len; have ho3 := hr3.one)
 refine sS rfl rfl rfl hl3 ho3 rfl ?_ (hu := by exact M1 hl3.symm)
 refine sD (nS (tT (rS ?_)))
 refine B2 (outs := [rd br pb nb cb p3]) (rC rfl (C4 rfl rfl (E7 (by repeat first | exact mH | apply mT)) hl3)) (by repeat (first | exact A2.nil | refine A2.cons Pk.here ?_ | refine A2.cons (Pk.there Pk.here) ?_ | refine A2.cons (Pk.there (Pk.there Pk.here)) ?_ | apply A2.drop)) ?_
 (exact ⟨p3, by omega, by omega, rfl, t3, cells3, rfl, hr3, by omega⟩)
 refine C2 ?_
 (refine D1 (I4 rfl rfl rfl (by omega) (by unfold maxLen; omega) rfl) rfl ?_; rintro _ ⟨b35, rfl⟩)
 (refine N4 (by repeat (first | exact Pk.here | apply Pk.there)) (fun Gf hlef hslf _ => ?_); refine B4 rfl (X0 Gf br pb nb cb (p + 1) bs _ _ _ _ (hb.mono hlef) hnb (by omega) hslf (by decide)) (Pk.perm (by repeat (first | exact Pk.here | apply Pk.there))) rfl rfl (fun v Gn outs hlen hh => ?_); obtain ⟨rfl, rfl, hv⟩ := hh; replace hb := hb.mono hlef; obtain ⟨dd, rfl, hdd⟩ : ∃ d : Nat, v = .int .i64 ((d + 1 : Nat) : Int) ∧ d ≤ 4 := (by simp only [List.mem_cons, List.not_mem_nil, or_false] at hv; rcases hv with rfl | rfl | rfl <;> first | exact ⟨2, rfl, by decide⟩ | exact ⟨1, rfl, by decide⟩ | exact ⟨3, rfl, by decide⟩); have htB := A25 hdd)
 (refine B4 rfl (A24 br pb nb cb bs hnb dd (p + 1 + 1) Gn ⟨⟨[120, 122]⟩⟩ (by omega) (by have hz : (⟨⟨[120, 122]⟩⟩ : ByteArray).size ≤ 2 := (by decide); omega) hb (by omega)) (Pk.perm (by repeat (first | exact Pk.here | apply Pk.there))) rfl rfl (fun v G3 outs hle3 hh => ?_); obtain ⟨p3, hp31, hp32, rfl, t3, cells3, rfl, hr3, hs3⟩ := hh; have hl3 := hr3.len; have ho3 := hr3.one; have hc3 := A1J t3; have hv3 := A1I t3 G3 cells3 (by omega) hr3)
 refine sE (C0 rfl) rfl (fun b38 => ?_)
 refine sS rfl rfl rfl hl3 ho3 rfl ?_ (hu := by exact M1 hl3.symm)
 refine sD (nS (tS (tS (tR ?_))))
 refine sL (C4 rfl rfl (E7 (by repeat first | exact mH | apply mT)) hl3) rfl rfl ?_
 refine H7 rfl (hv3) rfl rfl (fun h46 => ?_) (fun h46 => ?_)
 refine sD (nS (qT rfl (tS (tR ?_))))
 refine sL (C4 rfl rfl (E7 (by repeat first | exact mH | apply mT)) hl3) rfl rfl ?_
 refine sS rfl rfl rfl hl3 ho3 rfl ?_ (hu := by exact M1 hl3.symm)
 refine sD (nS (tT (rS ?_)))
 refine B2 (outs := [rd br pb nb cb p3]) (rC rfl (C4 rfl rfl (E7 (by repeat first | exact mH | apply mT)) hl3)) (by repeat (first | exact A2.nil | refine A2.cons Pk.here ?_ | refine A2.cons (Pk.there Pk.here) ?_ | refine A2.cons (Pk.there (Pk.there Pk.here)) ?_ | apply A2.drop)) ?_
 (exact ⟨p3, by omega, by omega, rfl, t3, cells3, rfl, hr3, by omega⟩)
 refine sD (nS (cF rfl (tK (nS (tS (tR ?_))))))
 refine J9 rfl ((A1M _ _)) rfl rfl ?_
 refine I8 ?_
 refine sD (nS (tT ?_))
 refine B2 (outs := [rd br pb nb cb p3]) (rC rfl (A7 rfl rfl)) (by repeat (first | exact A2.nil | refine A2.cons Pk.here ?_ | refine A2.cons (Pk.there Pk.here) ?_ | refine A2.cons (Pk.there (Pk.there Pk.here)) ?_ | apply A2.drop)) ?_
 (exact ⟨p3, by omega, by omega, rfl, _, _, rfl, A0e ⟨by omega, by omega⟩ ⟨by omega, by omega⟩, by rw [A0f]; decide⟩)
theorem A4e (G : IM) {k : Int} (hk : D7 k) : C5 G (.mk k []) [.int .i64 k, .slice none 0 0] := by
 simp only [C5]
 exact ⟨none, 0, [], rfl, hk, D0.of (Sl.nil _ _) rfl (by simp) (by simp), by simp [F4]⟩
def TyB (B : Int) (G : IM) : IM → Value → List A1 → Prop := I1 fun G' v => ∃ t cells b, v = .tuple ⟨[.agg ⟨cells⟩, .bool b]⟩ ∧ C5 G' t cells ∧ V3 t ∧ M4 t ≤ B
def B2z (B : Int) (G : IM) : IM → Value → List A1 → Prop := I1 fun G' v => ∃ a ca b cb x, v = .tuple ⟨[.agg ⟨ca⟩, .agg ⟨cb⟩, .bool x]⟩ ∧ C5 G' a ca ∧ V3 a ∧ M4 a ≤ B ∧ C5 G' b cb ∧ V3 b ∧ M4 b ≤ B
def TyP (B : Int) (Q : Ty → Prop) (G : IM) : IM → Value → List A1 → Prop := I1 fun G' v => ∃ t cells, v = .agg ⟨cells⟩ ∧ C5 G' t cells ∧ V3 t ∧ M4 t ≤ B ∧ Q t
def HTm (G : IM) (t : Tm) (k : Int) (cells : List Value) : Prop := ∃ pt ct et pf cf ef p c es,
 cells = [.int .i64 t.k, .string t.nm, .int .i64 t.num, .int .i64 t.ty.k, .slice pt t.ty.ks.length ct, .int .i64 t.fr.k, .slice pf t.fr.ks.length cf, .int .i64 t.lb, .slice p t.ks.length c] ∧
 D0 G pt t.ty.ks.length ct 2 et ∧ F4 G (A0Z t.ty.ks k) et ∧ D0 G pf t.fr.ks.length cf 2 ef ∧ F4 G (A0Z t.fr.ks (k + U6 t.ty.ks)) ef ∧ D0 G p t.ks.length c 9 es ∧ D3 G (A2W t.ks (k + U6 t.ty.ks + U6 t.fr.ks)) es
def RBd (G : IM) (e : List Value) : Prop := ∃ nm t q d, e = [.string nm, .int .i64 t.k, .slice q t.ks.length d] ∧ C5 G t [.int .i64 t.k, .slice q t.ks.length d] ∧ V3 t ∧ M4 t ≤ 30 ∧ nm.size ≤ 1
def GCx (G : IM) (p : Option Addr) (n c : Nat) : Prop := ∃ es, es.length = n ∧ D0 G p n c 3 es ∧ ∀ e ∈ es, RBd G e
end Gw
end Go.Proofs.YtgodjiieijekiaaGreatDoor
