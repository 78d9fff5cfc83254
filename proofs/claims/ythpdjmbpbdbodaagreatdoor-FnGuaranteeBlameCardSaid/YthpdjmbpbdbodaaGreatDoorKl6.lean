/-
  Types are kept by steps; a closed term with a type does not get stuck, and what is blamed is a label of its casts. A term with its casts put in is valid, and has the type that the term has. Terms that hold a type. Precision of terms, on both sides. Values of the stack machine: as trees, and as they lie in memory; what an instruction does, in plain words. The reference's decimal digits of a number. The program's RunTerm: texts of values. The program's insertion of casts: a cast. The program's insertion of casts. CastTypeOf. The program's InsertCasts, TypeOf. The program's RunTerm. The reference's typing, exactly.
-/
import Derived.Test.YthpdjmbpbdbodaaGreatDoorKl4
import Derived.Test.YthpdjmbpbdbodaaGreatDoorKl5
import Derived.Test.YthpdjmbpbdbodaaGreatDoorKl3
import Derived.Test.YthpdjmbpbdbodaaGreatDoorKl2
import Derived.Test.YthpdjmbpbdbodaaGreatDoorKl1
import Derived.Lib.ItoaNum
set_option linter.unusedVariables false
set_option linter.unusedSimpArgs false
set_option maxHeartbeats 0
set_option maxRecDepth 100000
set_option synthInstance.maxSize 4000
set_option synthInstance.maxHeartbeats 0
namespace Go.Proofs.YthpdjmbpbdbodaaGreatDoor
open Go Go.RowKit
namespace Gw
mutual
def W2 (L : Int → Prop) : Tm → Prop
 | .mk k nm num ty fr lb ks => (k = 14 → L lb) ∧ A1u L ks
def A1u (L : Int → Prop) : List Tm → Prop
 | [] => True
 | t :: ts => W2 L t ∧ A1u L ts
end
theorem A0B {L : Int → Prop} {k : Int} {nm : ByteArray} {num : Int} {ty fr : Ty} {lb : Int} {ks : List Tm} : W2 L (.mk k nm num ty fr lb ks) ↔ (k = 14 → L lb) ∧ A1u L ks := by rw [W2]
theorem A1Y {L : Int → Prop} : ∀ {ts : List Tm}, A1u L ts ↔ ∀ t ∈ ts, W2 L t
 | [] => by simp [A1u]
 | t :: ts => by rw [A1u, A1Y (ts := ts)]; simp
theorem A2W {L : Int → Prop} {e : Tm} {a b : Ty} {l : Int} (hl : L l) (h : W2 L e) : W2 L (K7 e a b l) := by
 rw [K7, A0B]; exact ⟨fun _ => hl, by simp [A1u, h]⟩
theorem A7b {L : Int → Prop} {k : Int} {ks : List Tm} (hk : k ≠ 14) (h : ∀ t ∈ ks, W2 L t) : W2 L (Y2 k ks) := by
 rw [Y2, A0B]; exact ⟨fun e => absurd e hk, A1Y.2 h⟩
mutual
theorem B0T {L : Int → Prop} {x : ByteArray} {v : Tm} (hv : W2 L v) : ∀ t, W2 L t → W2 L (R8 x v t)
 | .mk k nm num ty fr lb ks, h => by
  rw [A0B] at h
  rw [R8]
  split
  ·exact hv
  ·split
   ·rw [A0B]; exact h
   ·rw [A0B]; exact ⟨h.1, B0U hv ks h.2⟩
theorem B0U {L : Int → Prop} {x : ByteArray} {v : Tm} (hv : W2 L v) : ∀ ts, A1u L ts → A1u L (Q0 x v ts)
 | [], _ => by rw [Q0]; trivial
 | t :: ts, h => by rw [Q0, A1u]; exact ⟨B0T hv t h.1, B0U hv ts h.2⟩
end
theorem A3B {f : Tm} {U : Ty} (hv : E3 f = true) (ht : I2 [] f = some U) (hc : cv f) :
  (U.k = 2 → f.k = 2) ∧ (U.k = 3 → f.k = 3 ∨ f.k = 4) ∧ (U.k = 4 → f.k = 5 ∨ (O9 f = true ∧ f.ty.k = 4)) ∧ (U.k = 5 → f.k = 10 ∨ (O9 f = true ∧ f.ty.k = 5)) ∧ (U.k = 1 → inj f = true) := by
 obtain ⟨k, nm, num, ty, fr, lb, ks⟩ := f
 obtain ⟨hN, _⟩ := hc.node
 have hop := hN.ops
 rw [A0N, A4n]
 show (U.k = 2 → k = 2) ∧ (U.k = 3 → k = 3 ∨ k = 4) ∧ (U.k = 4 → k = 5 ∨ (_ ∧ ty.k = 4)) ∧ (U.k = 5 → k = 10 ∨ (_ ∧ ty.k = 5)) ∧ (U.k = 1 → _)
 by_cases h10 : k = 10
 ·subst h10
  obtain ⟨a, b, rfl⟩ := ks2 (ks := ks) (by have : D7 10 = 2 := rfl; omega)
  obtain ⟨A, B, _, _, rfl⟩ := B0f ht
  refine ⟨fun h => ?_, fun h => ?_, fun h => ?_, fun h => .inl rfl, fun h => ?_⟩ <;> (exfalso; simp [Ty.k, P9, U4] at h)
 by_cases h14 : k = 14
 ·subst h14
  obtain ⟨a, rfl⟩ := Z6 (ks := ks) (by have : D7 14 = 1 := rfl; omega)
  obtain ⟨_, rfl⟩ := A4g ht
  by_cases hp : fr.k = U.k ∧ (U.k = 4 ∨ U.k = 5)
  ·refine ⟨fun h => by omega, fun h => by omega, fun h => .inr ⟨decide_eq_true ⟨rfl, hp⟩, h⟩, fun h => .inr ⟨decide_eq_true ⟨rfl, hp⟩, h⟩, fun h => by omega⟩
  ·by_cases hi : U.k = 1 ∧ R7 fr = true
   ·refine ⟨fun h => by omega, fun h => by omega, fun h => by omega, fun h => by omega, fun _ => ?_⟩
    rw [hi.2, decide_eq_true ⟨rfl, hi.1⟩]; rfl
   ·exfalso
    rw [E3, if_neg (by rintro (h | h | h); exact absurd h (by decide); exact hp h.2; exact hi h.2)] at hv
    exact absurd (of_decide_eq_true hv) (by decide)
 ·have hk : k = 2 ∨ k = 3 ∨ k = 4 ∨ k = 5 := by
   rw [E3, if_neg (by rintro (h | h | h); exact h10 h; exact h14 h.1; exact h14 h.1)] at hv
   exact of_decide_eq_true hv
  by_cases h5 : k = 5
  ·subst h5
   obtain ⟨a, rfl⟩ := Z6 (ks := ks) (by have : D7 5 = 1 := rfl; omega)
   obtain ⟨B, _, rfl⟩ := B0h ht
   refine ⟨fun h => ?_, fun h => ?_, fun h => .inl rfl, fun h => ?_, fun h => ?_⟩ <;> (exfalso; simp [Ty.k, P9, U4] at h)
  ·have hks : ks = [] := List.length_eq_zero_iff.1 (by
    rcases hk with h | h | h | h
    ·subst h; have : D7 2 = 0 := rfl; omega
    ·subst h; have : D7 3 = 0 := rfl; omega
    ·subst h; have : D7 4 = 0 := rfl; omega
    ·exact absurd h h5)
   subst hks
   by_cases h2 : k = 2
   ·subst h2
    obtain rfl := B5a ht
    refine ⟨fun _ => rfl, fun h => ?_, fun h => ?_, fun h => ?_, fun h => ?_⟩ <;> (exfalso; simp [Ty.k, P9, U4] at h)
   ·have h34 : k = 3 ∨ k = 4 := by omega
    obtain rfl := B5b h34 ht
    refine ⟨fun h => ?_, fun _ => h34, fun h => ?_, fun h => ?_, fun h => ?_⟩ <;> (exfalso; simp [Ty.k, P9, U4] at h)
theorem B0V {k : Int} {nm : ByteArray} {num : Int} {ty fr : Ty} {lb : Int} {ks : List Tm} (h : O9 (.mk k nm num ty fr lb ks) = true) : k = 14 ∧ fr.k = ty.k ∧ (ty.k = 4 ∨ ty.k = 5) := by
 rw [A0N] at h; exact of_decide_eq_true h
theorem B6a {n : Int} (h : A0J n = true) : n ≠ 0 := by
 simp only [A0J, Bool.or_eq_true, A2b] at h; omega
def A2X (L : Int → Prop) (T : Ty) (r : Stp) : Prop := (r.2.1 = 1 ∧ I2 [] r.1 = some T ∧ W2 L r.1) ∨ (r.2.1 = 2 ∧ L r.2.2)
theorem B0W {t : Ty} (h : R7 t = true) : t = T3 t := by
 unfold R7 at h
 rw [Bool.and_eq_true] at h
 exact (Z2 _ _).1 h.2
theorem B6b {t u : Ty} (h : t.k = u.k) : T3 t = T3 u := by unfold T3; rw [h]
theorem B6c (L : Int → Prop) (hL : ∀ l, L l → L (-l)) {k : Int} {nm : ByteArray} {num : Int} {ty fr : Ty} {lb : Int} {ks : List Tm} {T : Ty} (hc : cv (.mk k nm num ty fr lb ks))
  (h8 : k = 1 ∨ k = 6 ∨ k = 7 ∨ k = 8 ∨ k = 9 ∨ k = 11 ∨ k = 12 ∨ k = 14) (hnv : E3 (.mk k nm num ty fr lb ks) = false)
  (hval : ∀ i, i < (if k = 9 then 1 else ks.length) → (hl : i < ks.length) → E3 ks[i] = true)
  (ht : I2 [] (.mk k nm num ty fr lb ks) = some T) (hlb : W2 L (.mk k nm num ty fr lb ks)) : A2X L T (N1 k ty fr lb ks) := by
 obtain ⟨hN, hkk⟩ := hc.node
 have hop := hN.ops
 rw [A0B, A1Y] at hlb
 obtain ⟨hl14, hlk⟩ := hlb
 have hTv := B0d hc ht
 unfold N1
 by_cases h6 : k = 6
 ·subst h6
  obtain ⟨f, v, rfl⟩ := ks2 (ks := ks) (by have : D7 6 = 2 := rfl; omega)
  obtain ⟨A, hf, hv⟩ := B45 ht
  have hcf := hkk f (by simp)
  have hcv := hkk v (by simp)
  have hlf := hlk f (by simp)
  have hlv := hlk v (by simp)
  have hvf : E3 f = true := hval 0 (by simp) (by simp)
  have hfv := B0d hcf hf
  rw [if_pos rfl]
  obtain ⟨_, _, hcan, _⟩ := A3B hvf hf hcf
  obtain ⟨fk, fnm, fnum, fty, ffr, flb, fks⟩ := f
  obtain ⟨hNf, hkf⟩ := hcf.node
  have hopf := hNf.ops
  rw [A0B, A1Y] at hlf
  show A2X L T (if fk = 5 then (R8 fnm v (kd fks 0), 1, 0) else if O9 (.mk fk fnm fnum fty ffr flb fks) = true ∧ fty.k = 4 then (K7 (Y2 6 [kd fks 0, K7 v (kt fty.ks 0) (kt ffr.ks 0) (-flb)]) (kt ffr.ks 1) (kt fty.ks 1) flb, 1, 0) else Q2)
  by_cases h5 : fk = 5
  ·subst h5
   rw [if_pos rfl]
   obtain ⟨b, rfl⟩ := Z6 (ks := fks) (by have : D7 5 = 1 := rfl; omega)
   obtain ⟨B, hb, hT⟩ := B0h hf
   cases hT
   refine .inl ⟨rfl, ?_, B0T hlv _ (hlf.2 b (by simp))⟩
   exact B0l hv b _ [] _ (hkf b (by simp)) (fun y hy => by rw [A1o, if_neg (fun e => hy e.symm)]) (by rw [A1o, if_pos rfl]) hb
  ·rw [if_neg h5]
   have hcan' : O9 (.mk fk fnm fnum fty ffr flb fks) = true ∧ fty.k = 4 := (hcan rfl).resolve_left h5
   rw [if_pos hcan']
   obtain ⟨rfl, hfk, _⟩ := B0V hcan'.1
   obtain ⟨g, rfl⟩ := Z6 (ks := fks) (by have : D7 14 = 1 := rfl; omega)
   obtain ⟨hg, rfl⟩ := A4g hf
   obtain ⟨_, hv1, hv2⟩ := hNf.c14 rfl
   obtain ⟨frk, frs⟩ := ffr
   obtain rfl : frk = 4 := hfk.trans hcan'.2
   obtain ⟨C, D, rfl, hC, hD⟩ := A3v (.inl rfl) hv2
   have hfl := hlf.1 rfl
   refine .inl ⟨rfl, ?_, A2W hfl (A7b (by decide) (by
    intro t htm
    simp only [List.mem_cons, List.not_mem_nil, or_false] at htm
    rcases htm with rfl | rfl
    ·exact hlf.2 _ (by simp [kd])
    ·exact A2W (hL _ hfl) hlv))⟩
   exact A1V (B46 (A := C) hD hg (A1V hv))
 rw [if_neg h6]
 by_cases h7 : k = 7 ∨ k = 8
 ·obtain ⟨a, b, rfl⟩ := ks2 (ks := ks) (by rcases h7 with h | h <;> subst h <;> (first | (have : D7 7 = 2 := rfl; omega) | (have : D7 8 = 2 := rfl; omega)))
  obtain ⟨ha, hb, hT⟩ := B47 h7 ht
  have hva : E3 a = true := hval 0 (by rw [if_neg (by omega)]; simp) (by simp)
  have hvb : E3 b = true := hval 1 (by rw [if_neg (by omega)]; simp) (by simp)
  have ha2 := (A3B hva ha (hkk a (by simp))).1 rfl
  have hb2 := (A3B hvb hb (hkk b (by simp))).1 rfl
  rw [if_pos h7, if_pos (show (kd [a, b] 0).k = 2 ∧ (kd [a, b] 1).k = 2 from ⟨ha2, hb2⟩)]
  by_cases hk7 : k = 7
  ·rw [if_pos hk7]
   rw [if_neg (by omega)] at hT
   subst hT
   exact .inl ⟨rfl, rfl, by rw [A2a, A0B]; exact ⟨fun e => absurd e (by decide), trivial⟩⟩
  ·rw [if_neg hk7]
   rw [if_pos (by omega)] at hT
   subst hT
   refine .inl ⟨rfl, ?_, ?_⟩
   ·unfold Y3; split <;> rfl
   ·unfold Y3; exact A7b (by split <;> decide) (by simp)
 rw [if_neg h7]
 by_cases h9 : k = 9
 ·subst h9
  obtain ⟨a, b, c, rfl⟩ := ks3 (ks := ks) (by have : D7 9 = 3 := rfl; omega)
  obtain ⟨ha, hb, hcc⟩ := B48 ht
  have hva : E3 a = true := hval 0 (by simp) (by simp)
  have ha2 := (A3B hva ha (hkk a (by simp))).2.1 rfl
  rw [if_pos rfl]
  show A2X L T (if a.k = 3 then (b, 1, 0) else if a.k = 4 then (c, 1, 0) else Q2)
  by_cases h3 : a.k = 3
  ·rw [if_pos h3]; exact .inl ⟨rfl, hb, hlk b (by simp)⟩
  ·rw [if_neg h3, if_pos (by omega)]; exact .inl ⟨rfl, hcc, hlk c (by simp)⟩
 rw [if_neg h9]
 by_cases h11 : k = 11 ∨ k = 12
 ·obtain ⟨a, rfl⟩ := Z6 (ks := ks) (by rcases h11 with h | h <;> subst h <;> (first | (have : D7 11 = 1 := rfl; omega) | (have : D7 12 = 1 := rfl; omega)))
  obtain ⟨A, B, ha, hT⟩ := B49 h11 ht
  have hva : E3 a = true := hval 0 (by rw [if_neg (by omega)]; simp) (by simp)
  have hca := hkk a (by simp)
  have hla := hlk a (by simp)
  have ha2 := (A3B hva ha hca).2.2.2.1 rfl
  rw [if_pos h11]
  obtain ⟨fk, fnm, fnum, fty, ffr, flb, fks⟩ := a
  obtain ⟨hNf, hkf⟩ := hca.node
  have hopf := hNf.ops
  rw [A0B, A1Y] at hla
  show A2X L T (if fk = 10 then (kd fks (k - 11).toNat, 1, 0) else if O9 (.mk fk fnm fnum fty ffr flb fks) = true ∧ fty.k = 5 then (K7 (Y2 k [kd fks 0]) (kt ffr.ks (k - 11).toNat) (kt fty.ks (k - 11).toNat) flb, 1, 0) else Q2)
  by_cases h10 : fk = 10
  ·subst h10
   rw [if_pos rfl]
   obtain ⟨x, y, rfl⟩ := ks2 (ks := fks) (by have : D7 10 = 2 := rfl; omega)
   obtain ⟨A', B', hx, hy, he⟩ := B0f ha
   cases he
   rcases h11 with rfl | rfl
   ·rw [if_neg (by decide)] at hT; subst hT; exact .inl ⟨rfl, hx, hla.2 x (by simp)⟩
   ·rw [if_pos rfl] at hT; subst hT; exact .inl ⟨rfl, hy, hla.2 y (by simp)⟩
  ·rw [if_neg h10]
   have hcan' : O9 (.mk fk fnm fnum fty ffr flb fks) = true ∧ fty.k = 5 := ha2.resolve_left h10
   rw [if_pos hcan']
   obtain ⟨rfl, hfk, _⟩ := B0V hcan'.1
   obtain ⟨g, rfl⟩ := Z6 (ks := fks) (by have : D7 14 = 1 := rfl; omega)
   obtain ⟨hg, rfl⟩ := A4g ha
   obtain ⟨_, hv1, hv2⟩ := hNf.c14 rfl
   obtain ⟨frk, frs⟩ := ffr
   obtain rfl : frk = 5 := hfk.trans hcan'.2
   obtain ⟨C, D, rfl, hC, hD⟩ := A3v (.inr rfl) hv2
   have hfl := hla.1 rfl
   refine .inl ⟨rfl, ?_, A2W hfl (A7b (by omega) (by
    intro t htm
    simp only [List.mem_cons, List.not_mem_nil, or_false] at htm
    subst htm
    exact hla.2 _ (by simp [kd])))⟩
   have hg' : I2 [] (kd [g] 0) = some (.mk 5 [C, D]) := hg
   rcases h11 with rfl | rfl
   ·rw [if_neg (by decide)] at hT; subst hT
    exact A1V (B0g (k := 11) (.inl rfl) (by rw [if_neg (by decide)]; exact hC) hg')
   ·rw [if_pos rfl] at hT; subst hT
    exact A1V (B0g (k := 12) (.inr rfl) (by rw [if_pos rfl]; exact hD) hg')
 rw [if_neg h11]
 by_cases h14 : k = 14
 ·subst h14
  obtain ⟨a, rfl⟩ := Z6 (ks := ks) (by have : D7 14 = 1 := rfl; omega)
  obtain ⟨ha, rfl⟩ := A4g ht
  have hva : E3 a = true := hval 0 (by simp) (by simp)
  have hca := hkk a (by simp)
  have hla := hlk a (by simp)
  have hlb := hl14 rfl
  obtain ⟨hcons, htv, hfv⟩ := hN.c14 rfl
  rw [if_pos rfl]
  have hnp : ¬(fr.k = T.k ∧ (T.k = 4 ∨ T.k = 5)) := by
   intro hh
   rw [A3x (.inr (.inl (by rw [A0N]; exact decide_eq_true ⟨rfl, hh⟩))), List.all_cons, hva] at hnv
   cases hnv
  by_cases h1 : fr.k = T.k
  ·rw [if_pos h1]
   refine .inl ⟨rfl, ?_, hla⟩
   show I2 [] a = some T
   rw [ha]
   obtain ⟨fk, fs⟩ := fr
   obtain ⟨tk, ts⟩ := T
   obtain rfl : fk = tk := h1
   obtain ⟨_, rfl⟩ := A6S hfv (fun e => hnp ⟨rfl, .inl e⟩) (fun e => hnp ⟨rfl, .inr e⟩)
   obtain ⟨_, rfl⟩ := A6S htv (fun e => hnp ⟨rfl, .inl e⟩) (fun e => hnp ⟨rfl, .inr e⟩)
   rfl
  ·rw [if_neg h1]
   by_cases h2 : T.k = 1
   ·rw [if_pos h2]
    exact .inl ⟨rfl, A1V (A1V ha), A2W hlb (A2W hlb hla)⟩
   ·rw [if_neg h2]
    by_cases h3 : R7 T = false
    ·rw [if_pos h3]
     exact .inl ⟨rfl, A1V (A1V ha), A2W hlb (A2W hlb hla)⟩
    ·rw [if_neg h3]
     have hfr1 : fr.k = 1 := by
      obtain ⟨fk, fs⟩ := fr
      obtain ⟨tk, ts⟩ := T
      rw [U6] at hcons
      simp only [Bool.or_eq_true, Bool.and_eq_true, decide_eq_true_eq] at hcons
      rcases hcons with (h | h) | h
      ·exact h
      ·exact absurd h h2
      ·exact absurd h.1 h1
     have hi := (A3B hva ha hca).2.2.2.2 hfr1
     rw [if_neg (by rw [show kd [a] 0 = a from rfl, hi]; decide)]
     have hg : R7 T = true := by cases h : R7 T with | true => rfl | false => exact absurd h h3
     obtain ⟨fk, fnm, fnum, fty, ffr, flb, fks⟩ := a
     obtain ⟨hNf, _⟩ := hca.node
     have hopf := hNf.ops
     rw [A0B, A1Y] at hla
     have hgi := A61 hi
     obtain rfl : fk = 14 := A4o hi
     obtain ⟨g, rfl⟩ := Z6 (ks := fks) (by have : D7 14 = 1 := rfl; omega)
     obtain ⟨hgt, _⟩ := A4g ha
     show A2X L T (if ffr.k = T.k then (kd [g] 0, 1, 0) else (I3, 2, lb))
     by_cases h4 : ffr.k = T.k
     ·rw [if_pos h4]
      refine .inl ⟨rfl, ?_, hla.2 g (by simp)⟩
      show I2 [] g = some T
      rw [hgt]
      congr 1
      exact (B0W hgi).trans ((B6b h4).trans (B0W hg).symm)
     ·rw [if_neg h4]
      exact .inr ⟨rfl, hlb⟩
 ·exfalso
  obtain rfl : k = 1 := by omega
  have hks : ks = [] := List.length_eq_zero_iff.1 (by have : D7 1 = 0 := rfl; omega)
  subst hks
  have := B0i ht
  simp [P4, V8] at this
theorem B6d {L : Int → Prop} {ks : List Tm} {i : Nat} {u : Tm} (h : ∀ t ∈ ks, W2 L t) (hu : W2 L u) : ∀ t ∈ ks.set i u, W2 L t := by
 intro t ht
 rcases List.mem_or_eq_of_mem_set ht with h1 | h1
 ·exact h t h1
 ·rw [h1]; exact hu
theorem B6e (L : Int → Prop) (hL : ∀ l, L l → L (-l)) : ∀ (e : Tm) (T : Ty), cv e → E3 e = false → I2 [] e = some T → W2 L e → A2X L T (H0 e) := by
 refine Tm.ind fun k nm num ty fr lb ks ih T hc hv ht hlb => ?_
 obtain ⟨hN, hkk⟩ := hc.node
 by_cases hall : ∀ i, i < (if k = 9 then 1 else ks.length) → (hl : i < ks.length) → E3 ks[i] = true
 ·have h8 := A63 hc hv hall
  have := B6c L hL hc h8 hv hall ht hlb
  rw [H0, A5v _ _ hall]
  exact this
 ·
  have hex : ∃ i, ∃ (hl : i < ks.length), i < (if k = 9 then 1 else ks.length) ∧ E3 ks[i] = false ∧ ∀ j, j < i → (h : j < ks.length) → E3 ks[j] = true := by
   have h0 : ∃ i, ∃ (hl : i < ks.length), i < (if k = 9 then 1 else ks.length) ∧ E3 ks[i] = false := by
    apply Classical.byContradiction
    intro hn
    exact hall fun i hi hl => by
     cases h : E3 ks[i] with
     | true => rfl
     | false => exact absurd ⟨i, hl, hi, h⟩ hn
   obtain ⟨i, h1⟩ := h0
   induction i using Nat.strongRecOn with
   | _ i ih2 =>
    obtain ⟨hl, hi, hvi⟩ := h1
    by_cases hj : ∃ j, j < i ∧ ∃ (h : j < ks.length), E3 ks[j] = false
    ·obtain ⟨j, hji, hjl, hjv⟩ := hj
     exact ih2 j hji ⟨hjl, by omega, hjv⟩
    ·refine ⟨i, hl, hi, hvi, fun j hji hjl => ?_⟩
     cases h : E3 ks[j] with
     | true => rfl
     | false => exact absurd ⟨j, hji, hjl, h⟩ hj
  obtain ⟨i, hl, hi, hvi, hbe⟩ := hex
  obtain ⟨s1, s2, s3⟩ := @B0M k nm num ty fr lb ks i hl hi hbe hvi
  have hk5 : k ≠ 5 := by
   rintro rfl
   rw [E3, if_neg (by omega)] at hv
   exact absurd hv (by decide)
  have hlb2 := (A0B.1 hlb).2
  rw [A1Y] at hlb2
  rw [I2] at ht
  split at ht
  ·cases ht
  ·rename_i us hu
   rw [K1, if_neg hk5] at hu
   obtain ⟨U, hU, hset⟩ := A95 hu i hl
   have hg := ih ks[i] (List.getElem_mem hl) U (hkk _ (List.getElem_mem hl)) hvi hU (hlb2 _ (List.getElem_mem hl))
   unfold A2X
   rw [s1, s2]
   rcases hg with ⟨g1, g2, g3⟩ | ⟨g1, g2⟩
   ·refine .inl ⟨g1, ?_, ?_⟩
    ·rw [s3 g1, I2, K1, if_neg hk5, hset _ g2]
     exact ht
    ·rw [s3 g1, A0B]
     exact ⟨(A0B.1 hlb).1, A1Y.2 (B6d hlb2 g3)⟩
   ·exact .inr ⟨g1, g2⟩
mutual
theorem B0X : ∀ e : Tm, cv e → W2 (fun l => l ≠ 0) e
 | .mk k nm num ty fr lb ks, h => by
  obtain ⟨hN, hk⟩ := h.node
  obtain ⟨d, hd⟩ := h
  obtain ⟨_, _, h3, _⟩ := A0s hd
  obtain ⟨_, _, _, _, _, _, _, n8, _⟩ := U3.1 h3
  rw [A0B]
  exact ⟨fun hk14 => B6a (n8 hk14).2, A1Y.2 fun t ht => (B0Y ks hk) t ht⟩
theorem B0Y : ∀ ts : List Tm, (∀ t ∈ ts, cv t) → ∀ t ∈ ts, W2 (fun l => l ≠ 0) t
 | [], _ => by simp
 | t :: ts, h => fun u hu => by
  rcases List.mem_cons.1 hu with h1 | hu
  ·rw [h1]; exact B0X t (h t List.mem_cons_self)
  ·exact B0Y ts (fun x hx => h x (List.mem_cons_of_mem _ hx)) u hu
end
theorem B0Z (L : Int → Prop) (hL : ∀ l, L l → L (-l)) (e : Tm) (T : Ty) (hc : M9 e = true) (ht : I2 [] e = some T) (hl : W2 L e) :
  (F9 e = (e, 0, 0) ∧ E3 e = true) ∨ (∃ l, F9 e = (I3, 2, l) ∧ L l) ∨ F9 e = (I3, 4, 0) ∨ (∃ u, F9 e = (u, 1, 0) ∧ M9 u = true ∧ I2 [] u = some T ∧ W2 L u) := by
 cases hv : E3 e with
 | true => exact .inl ⟨A4q hc hv, rfl⟩
 | false =>
  rcases B6e L hL e T (A1U hc).1 hv ht hl with ⟨g1, g2, g3⟩ | ⟨g1, g2⟩
  ·cases hcv : M9 (H0 e).1 with
   | false => exact .inr (.inr (.inl (A4s hc hv g1 hcv)))
   | true => exact .inr (.inr (.inr ⟨_, A4t hc hv g1 hcv, hcv, g2, g3⟩))
  ·exact .inr (.inl ⟨(H0 e).2.2, by rw [A4r hc hv (by omega), g1], g2⟩)
theorem B00 (L : Int → Prop) (hL : ∀ l, L l → L (-l)) : ∀ (n : Nat) (e : Tm) (T : Ty), M9 e = true → I2 [] e = some T → W2 L e →
  ((I0 n e).2.1 = 0 ∧ (I0 n e).2.2.1 = 0 ∧ I2 [] (I0 n e).1 = some T ∧ E3 (I0 n e).1 = true ∧ M9 (I0 n e).1 = true) ∨ ((I0 n e).2.1 = 2 ∧ L (I0 n e).2.2.1) ∨ ((I0 n e).2.1 = 4 ∧ (I0 n e).2.2.1 = 0) ∨ ((I0 n e).2.1 = 5 ∧ (I0 n e).2.2.1 = 0)
 | 0, e, T, hc, ht, hl => by
  rcases B0Z L hL e T hc ht hl with ⟨h, hv⟩ | ⟨l, h, hl⟩ | h | ⟨u, h, hu1, hu2, hu3⟩
  ·simp [I0, h, ht, hv, hc]
  ·simp [I0, h, hl]
  ·simp [I0, h]
  ·simp [I0, h]
 | n + 1, e, T, hc, ht, hl => by
  rcases B0Z L hL e T hc ht hl with ⟨h, hv⟩ | ⟨l, h, hl⟩ | h | ⟨u, h, hu1, hu2, hu3⟩
  ·simp [I0, h, ht, hv, hc]
  ·simp [I0, h, hl]
  ·simp [I0, h]
  ·have ih := B00 L hL n u T hu1 hu2 hu3
   simpa only [I0, h, if_true] using ih
mutual
theorem B01 : ∀ a b : Ty, K5 a b = true → K5 b a = true
 | .mk k ks, .mk k' ks', h => by
  rw [U6] at h ⊢
  simp only [Bool.or_eq_true, Bool.and_eq_true, decide_eq_true_eq] at h ⊢
  rcases h with (h | h) | h
  ·exact .inl (.inr h)
  ·exact .inl (.inl h)
  ·exact .inr ⟨h.1.symm, B02 ks ks' h.2⟩
theorem B02 : ∀ xs ys : List Ty, N8 xs ys = true → N8 ys xs = true
 | [], [], _ => rfl
 | [], b :: ys, h => by simp [N8] at h
 | a :: xs, [], h => by simp [N8] at h
 | a :: xs, b :: ys, h => by
  simp only [N8, Bool.and_eq_true] at h ⊢
  exact ⟨B01 a b h.1, B02 xs ys h.2⟩
end
mutual
theorem B03 : ∀ a b : Ty, K5 a b = true → K5 a (U8 a b) = true ∧ K5 b (U8 a b) = true
 | .mk k ks, .mk k' ks', h => by
  rw [A1a]
  by_cases h1 : k = 1
  ·rw [if_pos h1]
   exact ⟨h, A2h _⟩
  ·rw [if_neg h1]
   by_cases h2 : k' = 1
   ·rw [if_pos h2]
    exact ⟨A2h _, B01 _ _ h⟩
   ·rw [if_neg h2]
    rw [U6] at h
    simp only [Bool.or_eq_true, Bool.and_eq_true, decide_eq_true_eq] at h
    have h3 : k = k' ∧ N8 ks ks' = true := by
     rcases h with (h | h) | h
     ·exact absurd h h1
     ·exact absurd h h2
     ·exact h
    obtain ⟨m1, m2⟩ := B04 ks ks' h3.2
    rw [U6, U6, m1, m2]
    simp [h3.1]
theorem B04 : ∀ xs ys : List Ty, N8 xs ys = true → N8 xs (T2 xs ys) = true ∧ N8 ys (T2 xs ys) = true
 | [], [], _ => ⟨rfl, rfl⟩
 | [], b :: ys, h => by simp [N8] at h
 | a :: xs, [], h => by simp [N8] at h
 | a :: xs, b :: ys, h => by
  simp only [N8, Bool.and_eq_true] at h
  obtain ⟨m1, m2⟩ := B03 a b h.1
  obtain ⟨m3, m4⟩ := B04 xs ys h.2
  simp only [T2, N8, m1, m2, m3, m4]
  exact ⟨rfl, rfl⟩
end
theorem B6f {k : Int} {a b : Ty} (hk : k = 4 ∨ k = 5) (h : F4 (.mk k [a, b]) = true) : F4 a = true ∧ F4 b = true := by
 obtain ⟨x, y, he, h1, h2⟩ := A3v hk h
 cases he
 exact ⟨h1, h2⟩
theorem B6g {k : Int} (hk : k = 4 ∨ k = 5) : F4 (.mk k [Q5, Q5]) = true := by rcases hk with rfl | rfl <;> decide
theorem B05 {k : Int} {t a b : Ty} (hk : k = 4 ∨ k = 5) (ht : F4 t = true) (h : R6 k t = some (a, b)) : F4 (.mk k [a, b]) = true ∧ K5 t (.mk k [a, b]) = true := by
 obtain ⟨tk, ks⟩ := t
 rw [A1d] at h
 by_cases he : tk = k
 ·subst he
  rw [if_pos rfl] at h
  obtain ⟨x, y, rfl, _, _⟩ := A3v hk ht
  cases h
  exact ⟨ht, A2h _⟩
 ·rw [if_neg he] at h
  by_cases h1 : tk = 1
  ·rw [if_pos h1] at h
   cases h
   refine ⟨B6g hk, ?_⟩
   rw [U6, h1]; rfl
  ·rw [if_neg h1] at h; cases h
structure Wt (cx : Cx) (k : Int) (nm : ByteArray) (ty : Ty) (h w : List Ty) (t : Ty) : Prop where
 len : w = [] ∨ w.length = h.length
 ok : ∀ i, (hi : i < w.length) → (hh : i < h.length) → K5 h[i] w[i] = true ∧ F4 w[i] = true
 again : k ≠ 13 → J7 cx k nm ty (if w = [] then h else w) = some (w, t)
 asT : k = 13 → w = [t]
theorem B06 {cx : Cx} {k : Int} {nm : ByteArray} {ty : Ty} {h w : List Ty} {t : Ty} (hh : ∀ a ∈ h, F4 a = true) (hty : k = 13 → F4 ty = true) (hn : D7 k = (h.length : Int)) (h14 : k ≠ 14) (hw : J7 cx k nm ty h = some (w, t)) : Wt cx k nm ty h w t := by
 have hkr := A4p (by rw [hn]; omega : 0 ≤ D7 k)
 have hkk : k = 1 ∨ k = 2 ∨ (k = 3 ∨ k = 4) ∨ k = 5 ∨ k = 6 ∨ (k = 7 ∨ k = 8) ∨ k = 9 ∨ k = 10 ∨ (k = 11 ∨ k = 12) ∨ k = 13 := by omega
 have nil : w = [] → k ≠ 13 → Wt cx k nm ty h w t := by
  rintro rfl h13
  exact ⟨.inl rfl, fun i hi => by simp at hi, fun _ => by rw [if_pos rfl]; exact hw, fun h => absurd h h13⟩
 rcases hkk with rfl | rfl | hk | rfl | rfl | hk | rfl | rfl | hk | rfl
 ·refine nil ?_ (by decide)
  rw [mW1] at hw; split at hw <;> cases hw; rfl
 ·refine nil ?_ (by decide)
  rw [mW2] at hw; cases hw; rfl
 ·refine nil ?_ (by omega)
  rw [A4b hk] at hw; cases hw; rfl
 ·refine nil ?_ (by decide)
  rw [mW5] at hw; cases hw; rfl
 ·match h, (show h.length = 2 by have : D7 6 = 2 := rfl; omega) with
  | [x, y], _ =>
  rw [mW6] at hw
  simp only [List.getD_cons_zero, List.getD_cons_succ] at hw
  split at hw
  ·rename_i a b hm
   split at hw
   ·rename_i hc
    cases hw
    obtain ⟨v1, v2⟩ := B05 (.inl rfl) (hh x (by simp)) hm
    obtain ⟨v3, v4⟩ := B6f (.inl rfl) v1
    refine ⟨.inr rfl, fun i hi hi2 => ?_, fun _ => ?_, fun h => absurd h (by decide)⟩
    ·match i, hi with
     | 0, _ => exact ⟨v2, v1⟩
     | 1, _ => exact ⟨hc, v3⟩
    ·rw [if_neg (by simp), mW6]
     simp only [List.getD_cons_zero, List.getD_cons_succ, A1d, if_true, A2h]
   ·cases hw
  ·cases hw
 ·match h, (show h.length = 2 by rcases hk with rfl | rfl <;> (first | (have : D7 7 = 2 := rfl; omega) | (have : D7 8 = 2 := rfl; omega))) with
  | [x, y], _ =>
  rw [W5 hk] at hw
  simp only [List.getD_cons_zero, List.getD_cons_succ] at hw
  split at hw
  ·rename_i hc
   cases hw
   refine ⟨.inr rfl, fun i hi hi2 => ?_, fun _ => ?_, fun h => by omega⟩
   ·match i, hi with
    | 0, _ => exact ⟨hc.1, (show F4 P9 = true by decide)⟩
    | 1, _ => exact ⟨hc.2, (show F4 P9 = true by decide)⟩
   ·rw [if_neg (by simp), W5 hk]
    simp only [List.getD_cons_zero, List.getD_cons_succ, A2h, and_self, if_true]
  ·cases hw
 ·match h, (show h.length = 3 by have : D7 9 = 3 := rfl; omega) with
  | [x, y, z], _ =>
  rw [mW9] at hw
  simp only [List.getD_cons_zero, List.getD_cons_succ] at hw
  split at hw
  ·rename_i hc
   cases hw
   obtain ⟨c1, c2⟩ := B03 y z hc.2
   have vm := A6O y z 1 hc.2 (hh y (by simp)) (hh z (by simp))
   refine ⟨.inr rfl, fun i hi hi2 => ?_, fun _ => ?_, fun h => absurd h (by decide)⟩
   ·match i, hi with
    | 0, _ => exact ⟨hc.1, (show F4 U4 = true by decide)⟩
    | 1, _ => exact ⟨c1, vm⟩
    | 2, _ => exact ⟨c2, vm⟩
   ·rw [if_neg (by simp), mW9]
    simp only [List.getD_cons_zero, List.getD_cons_succ, A2h, and_self, if_true, B0b]
  ·cases hw
 ·refine nil ?_ (by decide)
  rw [A5i] at hw; cases hw; rfl
 ·match h, (show h.length = 1 by rcases hk with rfl | rfl <;> (first | (have : D7 11 = 1 := rfl; omega) | (have : D7 12 = 1 := rfl; omega))) with
  | [x], _ =>
  rw [A3s hk] at hw
  simp only [List.getD_cons_zero] at hw
  split at hw
  ·rename_i a b hm
   cases hw
   obtain ⟨v1, v2⟩ := B05 (.inr rfl) (hh x (by simp)) hm
   refine ⟨.inr rfl, fun i hi hi2 => ?_, fun _ => ?_, fun h => by omega⟩
   ·match i, hi with
    | 0, _ => exact ⟨v2, v1⟩
   ·rw [if_neg (by simp), A3s hk]
    simp only [List.getD_cons_zero, List.getD_cons_succ, A1d, if_true]
  ·cases hw
 ·match h, (show h.length = 1 by have : D7 13 = 1 := rfl; omega) with
  | [x], _ =>
  rw [A2Q] at hw
  simp only [List.getD_cons_zero] at hw
  split at hw
  ·rename_i hc
   cases hw
   refine ⟨.inr rfl, fun i hi hi2 => ?_, fun h => absurd rfl h, fun _ => rfl⟩
   match i, hi with
   | 0, _ => exact ⟨hc, hty rfl⟩
  ·cases hw
theorem B6h {l : Int} (h1 : 1 ≤ l) (h2 : l ≤ 99) : A0J l = true := by
 unfold A0J
 rw [A2b.2 ⟨h1, h2⟩]; rfl
theorem B6i {u : Tm} {a b : Ty} {l D : Int} (hu : M8 40 13 u (D + 1) = true) (hc : K5 a b = true) (ha : F4 a = true) (hb : F4 b = true) (h1 : 1 ≤ l) (h2 : l ≤ 99) (hD : D ≤ 40) : M8 40 13 (K7 u a b l) D = true := by
 unfold K7
 rw [A2E hD (by decide) (U3.2 ⟨rfl, by simp, fun _ => rfl, by simp, fun _ => rfl, fun _ => hb, by simp, fun _ => ⟨by simp [A15, ha, hb, hc], B6h h1 h2⟩, by simp⟩)]
 simp [O0, hu]
theorem A7c {cx : Cx} : ∀ (us : List Tm) (h w : List Ty) (l D : Int), us.length = h.length → w.length = h.length → (∀ i, (hi : i < w.length) → (hh : i < h.length) → K5 h[i] w[i] = true ∧ F4 w[i] = true) → (∀ a ∈ h, F4 a = true) → M4 cx us = some h → O0 40 13 us (D + 1) = true → 0 ≤ l → (H2 us h w l).2 ≤ 99 → D ≤ 40 →
  M4 cx (H2 us h w l).1 = some w ∧ O0 40 13 (H2 us h w l).1 D = true ∧ (E9 (H2 us h w l).1 : Int) = E9 us + ((H2 us h w l).2 - l)
 | [], [], [], l, D, _, _, _, _, ht, _, _, _, _ => by simp [H2, M4, O0, E9]
 | [], a :: h, w, l, D, hl, _, _, _, _, _, _, _, _ => by simp at hl
 | u :: us, [], w, l, D, hl, _, _, _, _, _, _, _, _ => by simp at hl
 | [], [], b :: w, l, D, _, hl, _, _, _, _, _, _, _ => by simp at hl
 | u :: us, a :: h, [], l, D, _, hl, _, _, _, _, _, _, _ => by simp at hl
 | u :: us, a :: h, b :: w, l, D, h1, h2, hw, hv, ht, hs, hl, h99, hD => by
  rw [M4] at ht
  split at ht
  ·cases ht
  ·rename_i a' ha
   split at ht
   ·cases ht
   ·rename_i h' hh'
    simp only [Option.some.injEq, List.cons.injEq] at ht
    obtain ⟨rfl, rfl⟩ := ht
    rw [O0, Bool.and_eq_true] at hs
    obtain ⟨c1, c2⟩ := hw 0 (by simp) (by simp)
    have hw' : ∀ i, (hi : i < w.length) → (hh : i < h'.length) → K5 h'[i] w[i] = true ∧ F4 w[i] = true := fun i hi hh => hw (i + 1) (by simpa using hi) (by simpa using hh)
    have hv' : ∀ x ∈ h', F4 x = true := fun x hx => hv x (List.mem_cons_of_mem _ hx)
    simp only [H2] at h99 ⊢
    by_cases he : M5 a' b = true
    ·simp only [if_pos he] at h99 ⊢
     obtain ⟨i1, i2, i3⟩ := A7c us h' w l D (by simpa using h1) (by simpa using h2) hw' hv' hh' hs.2 hl h99 hD
     have hab := (Z2 _ _).1 he
     subst hab
     refine ⟨by rw [M4, ha, i1], ?_, ?_⟩
     ·rw [O0, Bool.and_eq_true]; exact ⟨A6N 40 13 u (D + 1) D (by omega) hs.1, i2⟩
     ·simp only [E9]; omega
    ·simp only [if_neg he] at h99 ⊢
     obtain ⟨i1, i2, i3⟩ := A7c us h' w (l + 1) D (by simpa using h1) (by simpa using h2) hw' hv' hh' hs.2 (by omega) h99 hD
     have hlab := A1p us h' w (l + 1)
     refine ⟨by rw [M4, K7, A1V ha, i1], ?_, ?_⟩
     ·rw [O0, Bool.and_eq_true]
      exact ⟨B6i hs.1 c1 (hv a' List.mem_cons_self) c2 (by omega) (by omega) hD, i2⟩
     ·simp only [E9, A2e]; omega
def B07 (cx : Cx) (t : Tm) (D l : Int) (u : Tm) (a : Ty) (l' : Int) : Prop := M8 40 13 u D = true ∧ I2 cx u = some a ∧ F4 a = true ∧ l ≤ l' ∧ l' + 1 ≤ l + (D6 t : Int) ∧ (D6 u : Int) ≤ D6 t + (l' - l)
theorem A7d (ks : List Tm) (ih : ∀ t ∈ ks, ∀ (d D : Int) (cx : Cx) (l : Int) (u : Tm) (a : Ty) (l' : Int), M8 12 14 t d = true → cxV cx → 0 ≤ l → M6 cx t l = some (u, a, l') → l' ≤ 99 → D + 2 * (13 - d) ≤ 41 → B07 cx t D l u a l') :
  ∀ (d D : Int) (cx : Cx) (l : Int) (us : List Tm) (h : List Ty) (l' : Int), O0 12 14 ks d = true → cxV cx → 0 ≤ l → L9 cx ks l = some (us, h, l') → l' ≤ 99 → D + 2 * (13 - d) ≤ 41 →
   O0 40 13 us D = true ∧ M4 cx us = some h ∧ (∀ a ∈ h, F4 a = true) ∧ l ≤ l' ∧ l' + ks.length ≤ l + (E9 ks : Int) ∧ (E9 us : Int) ≤ E9 ks + (l' - l) ∧ h.length = ks.length ∧ us.length = ks.length := by
 induction ks with
 | nil =>
  intro d D cx l us h l' _ _ _ he _ _
  simp only [L9, Option.some.injEq, Prod.mk.injEq] at he
  obtain ⟨rfl, rfl, rfl⟩ := he
  simp [O0, M4, E9]
 | cons t ts ihl =>
  intro d D cx l us h l' hs hcx hl he h99 hD
  rw [O0, Bool.and_eq_true] at hs
  rw [L9] at he
  split at he
  ·cases he
  ·rename_i u a l1 h1
   split at he
   ·cases he
   ·rename_i us' h' l2 h2
    simp only [Option.some.injEq, Prod.mk.injEq] at he
    obtain ⟨rfl, rfl, rfl⟩ := he
    have hp := B3a t
    
    have hmono : l1 ≤ l2 := by
     have : ∀ (zs : List Tm) (l : Int) us h l', L9 cx zs l = some (us, h, l') → l ≤ l' := by
      intro zs
      induction zs with
      | nil => intro l us h l' he; simp only [L9, Option.some.injEq, Prod.mk.injEq] at he; omega
      | cons z zs ihz =>
       intro l us h l' he
       rw [L9] at he
       split at he
       ·cases he
       ·rename_i u a l1 hz
        split at he
        ·cases he
        ·rename_i us' h' l2 hzs
         simp only [Option.some.injEq, Prod.mk.injEq] at he
         have := ihz _ _ _ _ hzs
         have := el_mono cx z l _ _ _ hz
         omega
     exact this ts l1 us' h' l2 h2
    obtain ⟨a1, a2, a3, a4, a5, a6⟩ := ih t List.mem_cons_self d D cx l u a l1 hs.1 hcx hl h1 (by omega) hD
    obtain ⟨b1, b2, b3, b4, b5, b6, b7, b8⟩ := ihl (fun x hx => ih x (List.mem_cons_of_mem _ hx)) d D cx l1 us' h' l2 hs.2 hcx (by omega) h2 h99 hD
    refine ⟨by rw [O0, a1, b1]; rfl, by rw [M4, a2, b2], ?_, by omega, ?_, ?_, by simp [b7], by simp [b8]⟩
    ·intro x hx
     rcases List.mem_cons.1 hx with h | h
     ·rw [h]; exact a3
     ·exact b3 x h
    ·simp only [E9, List.length_cons]; omega
    ·simp only [E9]; omega
where
 el_mono (cx : Cx) : ∀ (z : Tm) (l : Int) (u : Tm) (a : Ty) (l' : Int), M6 cx z l = some (u, a, l') → l ≤ l' := by
  intro z
  revert cx
  refine Tm.ind (C := fun z => ∀ (cx : Cx) (l : Int) (u : Tm) (a : Ty) (l' : Int), M6 cx z l = some (u, a, l') → l ≤ l') ?_ z
  intro k nm num ty fr lb ks ih cx l u a l' he
  rw [M6] at he
  have hL : ∀ (zs : List Tm), (∀ t ∈ zs, t ∈ ks) → ∀ (cx : Cx) (l : Int) us h l', L9 cx zs l = some (us, h, l') → l ≤ l' := by
   intro zs
   induction zs with
   | nil => intro _ cx l us h l' he; simp only [L9, Option.some.injEq, Prod.mk.injEq] at he; omega
   | cons z zs ihz =>
    intro hin cx l us h l' he
    rw [L9] at he
    split at he
    ·cases he
    ·rename_i u a l1 hz
     split at he
     ·cases he
     ·rename_i us' h' l2 hzs
      simp only [Option.some.injEq, Prod.mk.injEq] at he
      have := ihz (fun t ht => hin t (List.mem_cons_of_mem _ ht)) _ _ _ _ _ hzs
      have := ih z (hin z List.mem_cons_self) _ l _ _ _ hz
      omega
  split at he
  ·cases he
  ·rename_i us h l1 hk
   have h1 := hL ks (fun _ h => h) _ _ _ _ _ hk
   unfold Q7 at he
   split at he
   ·cases he
   ·rename_i w t hn
    simp only [Option.some.injEq, Prod.mk.injEq] at he
    have := A1p us h w l1
    omega
theorem B6j : ∀ (t : Tm) (d D : Int) (cx : Cx) (l : Int) (u : Tm) (a : Ty) (l' : Int), M8 12 14 t d = true → cxV cx → 0 ≤ l → M6 cx t l = some (u, a, l') → l' ≤ 99 → D + 2 * (13 - d) ≤ 41 → B07 cx t D l u a l' := by
 refine Tm.ind fun k nm num ty fr lb ks ih d D cx l u a l' hs hcx hl he h99 hD => ?_
 obtain ⟨hd, h14, h3, h4⟩ := A0s hs
 obtain ⟨n1, n2, n3, n4, n5, n6, n7, n8, n9⟩ := U3.1 h3
 rw [M6] at he
 split at he
 ·cases he
 ·rename_i us h l1 hL
  unfold Q7 at he
  split at he
  ·cases he
  ·rename_i w t hN
   simp only [Option.some.injEq, Prod.mk.injEq] at he
   obtain ⟨hu, rfl, rfl⟩ := he
   have hlab := A1p us h w l1
   obtain ⟨b1, b2, b3, b4, b5, b6, b7, b8⟩ := A7d ks ih (d + 1) (D + 2) (K1 cx k nm ty) l us h l1 h4 (A4e hcx fun hk => n6 (.inl hk)) hl hL (by omega) (by omega)
   obtain ⟨hv, hw⟩ := A4c hN
   have hwt := B06 b3 (fun hk => n6 (.inr (.inl hk))) (by rw [b7]; exact n1) h14 hw
   
   obtain ⟨c1, c2, c3⟩ : M4 (K1 cx k nm ty) (H2 us h w l1).1 = some (if w = [] then h else w) ∧ O0 40 13 (H2 us h w l1).1 (D + 1) = true ∧ (E9 (H2 us h w l1).1 : Int) = E9 us + ((H2 us h w l1).2 - l1) := by
    rcases hwt.len with hn | hn
    ·subst hn
     rw [V4, if_pos rfl]
     refine ⟨b2, ?_, by simp⟩
     exact A5k 40 13 us (D + 2) (D + 1) (by omega) b1
    ·by_cases hn0 : w = []
     ·subst hn0
      rw [V4, if_pos rfl]
      refine ⟨b2, ?_, by simp⟩
      exact A5k 40 13 us (D + 2) (D + 1) (by omega) b1
     ·rw [if_neg hn0]
      exact A7c us h w l1 (D + 1) (by omega) hn hwt.ok b3 b2 (by rw [show D + 1 + 1 = D + 2 by omega]; exact b1) (by omega) h99 (by omega)
   have hlm := A1W us h w l1
   have hck : D6 (.mk k nm num ty fr lb ks) = E9 ks + 1 := Z4 ..
   refine ⟨?_, ?_, hv, by omega, by rw [hck]; omega, ?_⟩
   ·rw [← hu]
    split
    ·rename_i hk
     have hl1 : ks.length = 1 := by rw [hk] at n1; have : D7 13 = 1 := rfl; omega
     have h0 : 0 < (H2 us h w l1).1.length := by omega
     rw [getD0' h0]
     have := (A0W 40 13 _ _).1 c2 0 h0
     exact A6N 40 13 _ (D + 1) D (by omega) this
    ·rename_i hk
     rw [A2E (by omega) hk (by rw [hlm, b8]; exact h3)]
     exact c2
   ·rw [← hu]
    split
    ·rename_i hk
     have hl1 : ks.length = 1 := by rw [hk] at n1; have : D7 13 = 1 := rfl; omega
     have h0 : 0 < (H2 us h w l1).1.length := by omega
     rw [getD0' h0]
     rw [hwt.asT hk, if_neg (by simp)] at c1
     rw [K1, if_neg (by omega)] at c1
     rw [← hwt.asT hk] at c1
     obtain ⟨x, hx⟩ : ∃ x, (H2 us h w l1).1 = [x] := by
      match hm : (H2 us h w l1).1, (show (H2 us h w l1).1.length = 1 by omega) with
      | [x], _ => exact ⟨x, rfl⟩
     simp only [hx, List.getElem_cons_zero] at c1 ⊢
     obtain ⟨y, hy, he⟩ := A4f c1
     rw [hwt.asT hk] at he
     cases he; exact hy
    ·rename_i hk
     refine A6Q c1 h14 hv (hwt.again hk) ?_
     by_cases hn0 : w = []
     ·rw [hn0]; rfl
     ·rw [if_neg hn0]; exact A5m w
   ·rw [← hu, hck]
    split
    ·rename_i hk
     have hl1 : ks.length = 1 := by rw [hk] at n1; have : D7 13 = 1 := rfl; omega
     have h0 : 0 < (H2 us h w l1).1.length := by omega
     rw [getD0' h0]
     have := A56 (List.getElem_mem h0)
     omega
    ·rw [Z4]; omega
where
 getD0' {us : List Tm} (h : 0 < us.length) : us.getD 0 I3 = us[0] := by rw [List.getD_eq_getElem?_getD, List.getElem?_eq_getElem h, Option.getD_some]
theorem B08 : ∀ (t : Tm) (d : Int) (cx : Cx) (l : Int) (u : Tm) (a : Ty) (l' : Int), M8 12 14 t d = true → M6 cx t l = some (u, a, l') → l' + 1 ≤ l + (D6 t : Int) := by
 refine Tm.ind fun k nm num ty fr lb ks ih d cx l u a l' hs he => ?_
 obtain ⟨hd, h14, h3, h4⟩ := A0s hs
 obtain ⟨n1, _⟩ := U3.1 h3
 have hL : ∀ (zs : List Tm), (∀ t ∈ zs, t ∈ ks) → O0 12 14 zs (d + 1) = true → ∀ (cx : Cx) (l : Int) us h l', L9 cx zs l = some (us, h, l') → l' + zs.length ≤ l + (E9 zs : Int) ∧ us.length = zs.length := by
  intro zs
  induction zs with
  | nil => intro _ _ cx l us h l' he; simp only [L9, Option.some.injEq, Prod.mk.injEq] at he; obtain ⟨rfl, _, rfl⟩ := he; simp [E9]
  | cons z zs ihz =>
   intro hin hsz cx l us h l' he
   rw [O0, Bool.and_eq_true] at hsz
   rw [L9] at he
   split at he
   ·cases he
   ·rename_i u a l1 hz
    split at he
    ·cases he
    ·rename_i us' h' l2 hzs
     simp only [Option.some.injEq, Prod.mk.injEq] at he
     obtain ⟨rfl, rfl, rfl⟩ := he
     have h5 := ihz (fun t ht => hin t (List.mem_cons_of_mem _ ht)) hsz.2 _ _ _ _ _ hzs
     have h6 := ih z (hin z List.mem_cons_self) (d + 1) _ l _ _ _ hsz.1 hz
     simp only [E9, List.length_cons]
     exact ⟨by omega, by omega⟩
 rw [M6] at he
 split at he
 ·cases he
 ·rename_i us h l1 hk
  obtain ⟨g1, g2⟩ := hL ks (fun _ h => h) h4 _ _ _ _ _ hk
  unfold Q7 at he
  split at he
  ·cases he
  ·rename_i w t hn
   simp only [Option.some.injEq, Prod.mk.injEq] at he
   have := A1p us h w l1
   have hck : D6 (.mk k nm num ty fr lb ks) = E9 ks + 1 := Z4 ..
   rw [hck]; omega
theorem A4u {e u : Tm} {t : Ty} (h : T7 e = some (u, t)) : M9 u = true ∧ I2 [] u = some t ∧ F4 t = true := by
 unfold T7 at h
 split at h
 ·rename_i hv
  obtain ⟨h1, h2⟩ := (A0L e).1 hv
  split at h
  ·rename_i u' t' l' he
   cases h
   have hl : l' ≤ 99 := by
    have := A7d.el_mono [] e 0 _ _ _ he
    have h3 : ∀ (t : Tm) (cx : Cx) (l : Int) (u : Tm) (a : Ty) (l' : Int), M6 cx t l = some (u, a, l') → l' ≤ l + 4 * (D6 t : Int) → True := fun _ _ _ _ _ _ _ _ => trivial
    exact el_lab e 1 h1 (by omega) he
   obtain ⟨g1, g2, g3, g4, g5, g6⟩ := B6j e 1 1 [] 0 u t l' h1 A3t (by omega) he hl (by omega)
   exact ⟨(A6v u).2 ⟨g1, by omega⟩, g2, g3⟩
  ·cases h
 ·cases h
where
 el_lab (e : Tm) (d : Int) (h1 : M8 12 14 e d = true) (h2 : D6 e ≤ 30) {u : Tm} {t : Ty} {l' : Int} (he : M6 [] e 0 = some (u, t, l')) : l' ≤ 99 := by
  have := B08 e d [] 0 u t l' h1 he
  omega
def A2Y (k : Int) : Bool := decide (k = 5 ∨ k = 13)
theorem A7e {Q : Prop} (h : Q := by exact ⟨rfl, by (show _ = Value.bool (decide (k = 5 ∨ k = 13)); first | rw [decide_eq_true (by omega)] | rw [decide_eq_false (by omega)]), rfl⟩) : Q := h
theorem B6k (t : Tm) (G : IM) (cells : List Value) (hr : B3 G t cells) : Fn Tryz.prog 90 [.agg ⟨cells⟩] [] G (H5 (.bool (A2Y t.k)) G) := by
 obtain ⟨k, nm, num, ⟨tk, tks⟩, ⟨fk, fks⟩, lb, ks⟩ := t
 obtain ⟨pt, ct, pf, cf, p, c, es, rfl, hk, hnum, hlb, hty, hfr, hsl, hkl⟩ := hr.open9
 refine C2 Tryz.func90 rfl Tryz.ntmps90 Tryz.results90 rfl ?_
 intro w0
 refine A5 ?_
 refine sE (C7 rfl rfl) rfl (fun b3 => ?_)
 refine B5 ?_
 refine sB (qE rfl rfl) rfl rfl (fun h11 => ?_) (fun h11 => ?_)
 refine J0 ?_
 exact A7e
 refine B9 ?_
 refine sB (qE rfl rfl) rfl rfl (fun h26 => ?_) (fun h26 => ?_)
 refine B0 ?_
 exact A7e
 refine B0 ?_
 exact A7e
theorem B09 (G : IM) (e e' : List Value) (b : Bool) (bd : Nat) (F : Value) (hl : e.length = 9) (hl' : e'.length = 9) (ho : e.all (·.oneCell') = true) (ho' : e'.all (·.oneCell') = true) (hF : F = .func (.func 93) ⟨[]⟩ ⟨[]⟩)
  (h : Fn Tryz.prog 92 [.agg ⟨e⟩, .agg ⟨e'⟩, F] [] G (H5 (.bool b) G)) :
  Fn Tryz.prog 135 [.agg ⟨e⟩, .agg ⟨e'⟩, .pointer (some ⟨bd, 0, none⟩)] [.blk bd [F]] G (T9 (.bool b) [.blk bd [F]] G) := by
 subst hF
 refine C2 Tryz.func135 rfl Tryz.ntmps135 Tryz.results135 rfl ?_
 intro w0
 refine A5 ?_
 refine sE (C7 rfl rfl) rfl (fun b3 => ?_)
 refine sE (C7 rfl rfl) rfl (fun b4 => ?_)
 refine B2 ?_
 refine sL (A3 rfl rfl (B1 (by repeat first | exact mH | apply mT)) hl) rfl rfl ?_
 refine sL (A3 rfl rfl (B1 (by repeat first | exact mH | apply mT)) hl') rfl rfl ?_
 refine F0 ?_
 refine H9 rfl (h) rfl rfl ?_
 refine B7 ?_
 refine H7 (outs := [.blk bd [.func (.func 93) ⟨[]⟩ ⟨[]⟩]]) (rT rfl) (A0.cons (by repeat (first | exact Pk.here | apply Pk.there)) A0.nil) ?_
 exact ⟨rfl, rfl, rfl⟩
theorem B1a {Q : Prop} (h : Q := by (rw [ht.2 ⟨by omega, by assumption, by omega, fun hc => by first | assumption | exact absurd hc (hhn.1 (by assumption)), by assumption⟩]; exact ⟨rfl, rfl, rfl⟩)) : Q := h
theorem A1Z {Q : Prop} (h : Q := by (rw [hf (fun ⟨c1, c2, c3, c4, c5⟩ => by first | omega | exact absurd c2 (by assumption) | exact Bool.noConfusion ((c4 (hhk.1 (by assumption))).symm.trans (show V9 (.mk tk tks) (.mk tk' tks') = false by assumption)) | exact Bool.noConfusion (c5.symm.trans (show A = false by assumption)))]; exact ⟨rfl, rfl, rfl⟩)) : Q := h
theorem B6l : ∀ (t t' : Tm) (G : IM) (cells cells' : List Value), B3 G t cells → B3 G t' cells' →
  Fn Tryz.prog 92 [.agg ⟨cells⟩, .agg ⟨cells'⟩, .func (.func 93) ⟨[]⟩ ⟨[]⟩] [] G (H5 (.bool (W0 t t')) G) := by
 refine Tm.ind fun k nm num ty fr lb ks ih t' G cells cells' hr hr' => ?_
 obtain ⟨k', nm', num', ⟨tk', tks'⟩, ⟨fk', fks'⟩, lb', ks'⟩ := t'
 obtain ⟨tk, tks⟩ := ty
 obtain ⟨fk, fks⟩ := fr
 have hT := B6k _ G cells hr
 obtain ⟨pt, ct, pf, cf, p, c, es, rfl, hk, hnum, hlb, hty, hfr, hsl, hkl⟩ := hr.open9
 obtain ⟨pt', ct', pf', cf', p', c', es', rfl, hk', hnum', hlb', hty', hfr', hsl', hkl'⟩ := hr'.open9
 have hP := B5i _ _ G _ _ hty hty'
 obtain ⟨A, hA⟩ : ∃ A, X1 ks ks' = A := ⟨_, rfl⟩
 have hA' : A = true ↔ ks.length = ks'.length ∧ ∀ i, i < ks.length → W0 (ks.getD i I3) (ks'.getD i I3) = true := by
  rw [← hA, A4j]
  constructor
  ·rintro ⟨h1, h2⟩
   refine ⟨h1, fun i hi => ?_⟩
   have := h2 i hi (by omega)
   simpa [List.getD_eq_getElem?_getD, List.getElem?_eq_getElem hi, List.getElem?_eq_getElem (show i < ks'.length by omega)] using this
  ·rintro ⟨h1, h2⟩
   refine ⟨h1, fun i hi hi' => ?_⟩
   have := h2 i hi
   simpa [List.getD_eq_getElem?_getD, List.getElem?_eq_getElem hi, List.getElem?_eq_getElem hi'] using this
 have hf := @B0p k k' nm nm' num num' (.mk tk tks) (.mk tk' tks') (.mk fk fks) (.mk fk' fks') lb lb' ks ks'
 have ht := @A2R k k' nm nm' num num' (.mk tk tks) (.mk tk' tks') (.mk fk fks) (.mk fk' fks') lb lb' ks ks'
 generalize W0 (.mk k nm num (.mk tk tks) (.mk fk fks) lb ks) (.mk k' nm' num' (.mk tk' tks') (.mk fk' fks') lb' ks') = R at *
 rw [hA] at hf ht
 have hhk : A2Y k = true ↔ k = 5 ∨ k = 13 := by unfold A2Y; rw [decide_eq_true_eq]
 have hhn : A2Y k = false ↔ ¬ (k = 5 ∨ k = 13) := by unfold A2Y; rw [decide_eq_false_iff_not]
 have hT' : Fn Tryz.prog 90 _ [] G (H5 (.bool (A2Y k)) G) := hT
 generalize A2Y k = Hk at *
 refine C2 Tryz.func92 rfl Tryz.ntmps92 Tryz.results92 rfl ?_
 intro w0
 refine A5 ?_
 refine sE (C7 rfl rfl) rfl (fun b3 => ?_)
 refine sE (C7 rfl rfl) rfl (fun b4 => ?_)
 (refine J5 (A71 rfl rfl rfl) rfl ?_; rintro _ ⟨b5, rfl⟩)
 refine B5 ?_
 refine E8 rfl (hT') rfl rfl (fun h13 => ?_) (fun h13 => ?_)
 refine B2 ?_
 refine sB (qE rfl rfl) rfl rfl (fun h19 => ?_) (fun h19 => ?_)
 refine B5 ?_
 refine B2T rfl rfl hP rfl rfl (fun h27 => ?_) (fun h27 => ?_)
 refine J4 ?_
 refine sP (W8 rfl rfl (by omega)) rfl rfl ?_
 refine B2 ?_
 refine sB (A0F rfl rfl) rfl rfl (fun h47 => ?_) (fun h47 => ?_)
 refine B0 ?_
 refine sB (qE rfl rfl) rfl rfl (fun h54 => ?_) (fun h54 => ?_)
 refine B0 ?_
 refine sQ (A12 rfl rfl) rfl (A2x rfl (B0q _ _ _ _ _ _ _ _ _ hsl hsl' _ [] _ [.blk b5 [.func (.func 93) ⟨[]⟩ ⟨[]⟩]] (fun i => W0 (ks.getD i I3) (ks'.getD i I3)) A hA' (fun i e e' he he' => B09 _ _ _ _ _ _ (hsl.all e (List.mem_of_getElem? he)) (hsl'.all e' (List.mem_of_getElem? he')) (hkl.inv he I3).2.one (hkl'.inv he' I3).2.one rfl (ih _ (hkl.inv he I3).1 _ _ _ _ (hkl.inv he I3).2 (hkl'.inv he' I3).2))) A0f rfl rfl (fun h62 => ?_) (fun h62 => ?_))
 refine B0 ?_
 exact B1a
 refine B0 ?_
 exact A1Z
 refine J1 ?_
 exact A1Z
 refine X6 ?_
 exact A1Z
 refine J4 ?_
 exact A1Z
 refine X6 ?_
 refine sP (I7 rfl rfl (by omega)) rfl rfl ?_
 refine A3R ?_
 exact A1Z
 refine A3R ?_
 refine sB (qE rfl rfl) rfl rfl (fun h205 => ?_) (fun h205 => ?_)
 refine B2 ?_
 refine sB (A0F rfl rfl) rfl rfl (fun h211 => ?_) (fun h211 => ?_)
 refine B0 ?_
 refine sB (qE rfl rfl) rfl rfl (fun h218 => ?_) (fun h218 => ?_)
 refine B0 ?_
 refine sQ (A12 rfl rfl) rfl (A2x rfl (B0q _ _ _ _ _ _ _ _ _ hsl hsl' _ [] _ [.blk b5 [.func (.func 93) ⟨[]⟩ ⟨[]⟩]] (fun i => W0 (ks.getD i I3) (ks'.getD i I3)) A hA' (fun i e e' he he' => B09 _ _ _ _ _ _ (hsl.all e (List.mem_of_getElem? he)) (hsl'.all e' (List.mem_of_getElem? he')) (hkl.inv he I3).2.one (hkl'.inv he' I3).2.one rfl (ih _ (hkl.inv he I3).1 _ _ _ _ (hkl.inv he I3).2 (hkl'.inv he' I3).2))) A0f rfl rfl (fun h226 => ?_) (fun h226 => ?_))
 refine B0 ?_
 exact B1a
 refine B0 ?_
 exact A1Z
 refine J1 ?_
 exact A1Z
 refine X6 ?_
 exact A1Z
 refine A3R ?_
 exact A1Z
theorem A2l {Q : Prop} (h : Q := by exact ⟨rfl, by simp only [X2]; simp only [*, Bool.true_and, Bool.false_and, Bool.and_true], rfl⟩) : Q := h
theorem B6m (t t' : Tm) (G : IM) (cells cells' : List Value) (hr : B3 G t cells) (hr' : B3 G t' cells') :
  Fn Tryz.prog 52 [.agg ⟨cells⟩, .agg ⟨cells'⟩] [] G (H5 (.bool (X2 t t')) G) := by
 have hl := hr.len
 have hl' := hr'.len
 have hv := A42 t G cells hr
 have hv' := A42 t' G cells' hr'
 have hc := B6l t t' G cells cells' hr hr'
 refine C2 Tryz.func52 rfl Tryz.ntmps52 Tryz.results52 rfl ?_
 intro w0
 refine A5 ?_
 refine sE (C7 rfl rfl) rfl (fun b3 => ?_)
 refine sE (C7 rfl rfl) rfl (fun b4 => ?_)
 refine B2 ?_
 refine sL (A3 rfl rfl (B1 (by repeat first | exact mH | apply mT)) (by assumption)) rfl rfl ?_
 refine E8 rfl (hv) rfl rfl (fun h11 => ?_) (fun h11 => ?_)
 refine F0 ?_
 refine sL (A3 rfl rfl (B1 (by repeat first | exact mH | apply mT)) (by assumption)) rfl rfl ?_
 refine E8 rfl (hv') rfl rfl (fun h14 => ?_) (fun h14 => ?_)
 refine A5 ?_
 refine sL (A3 rfl rfl (B1 (by repeat first | exact mH | apply mT)) (by assumption)) rfl rfl ?_
 refine sL (A3 rfl rfl (B1 (by repeat first | exact mH | apply mT)) (by assumption)) rfl rfl ?_
 refine E8 rfl (hc) rfl rfl (fun h19 => ?_) (fun h19 => ?_)
 refine B0 ?_
 exact A2l
 refine B0 ?_
 exact A2l
 refine I8 ?_
 exact A2l
 refine J1 ?_
 exact A2l
theorem A10 {Q : Prop} (h : Q := by (rw [hf (fun ⟨c1, c2, c3, c4, c5⟩ => by first | omega | exact absurd c2 (by assumption) | (have := (A4j ks ks').1 c5; omega) | exact Bool.noConfusion ((c4 (by omega)).symm.trans (show V9 (.mk tk tks) (.mk tk' tks') = false by assumption)) | exact Bool.noConfusion ((((A4j ks ks').1 c5).2 i (by omega) (by omega)).symm.trans (show W0 ks[i] ks'[i] = false by assumption)))]; exact ⟨rfl, rfl, rfl⟩)) : Q := h
theorem A7f {Q : Prop} (h : Q := by exact ⟨by omega, fun j hj hj' hji => by (by_cases he : j = i; (subst he; assumption); exact hfj j hj hj' (by omega))⟩) : Q := h
theorem A7g {Q : Prop} (h : Q := by (rw [ht.2 ⟨by omega, by first | assumption | exact Classical.not_not.1 (by assumption), by omega, fun hc => by first | assumption | (exfalso; omega), (A4j ks _).2 ⟨hll, fun j hj hj' => hfj j hj hj' (by omega)⟩⟩]; exact ⟨rfl, rfl, rfl⟩)) : Q := h
theorem B6n : ∀ (t t' : Tm) (G : IM) (cells cells' : List Value) (d d' : Int), M8 12 14 t d = true → M8 12 14 t' d' = true → B3 G t cells → B3 G t' cells' →
  Fn Tryz.prog 96 [.agg ⟨cells⟩, .agg ⟨cells'⟩] [] G (H5 (.bool (W0 t t')) G) := by
 refine Tm.ind fun k nm num ty fr lb ks ih t' G cells cells' d d' hs hs' hr hr' => ?_
 obtain ⟨k', nm', num', ⟨tk', tks'⟩, ⟨fk', fks'⟩, lb', ks'⟩ := t'
 obtain ⟨tk, tks⟩ := ty
 obtain ⟨fk, fks⟩ := fr
 obtain ⟨_, _, s3, s4⟩ := A0s hs
 obtain ⟨_, _, s3', s4'⟩ := A0s hs'
 obtain ⟨_, _, _, _, _, n6, _⟩ := U3.1 s3
 obtain ⟨_, _, _, _, _, n6', _⟩ := U3.1 s3'
 have q4 := (A0W (D := 12) (N := 14) ks (d + 1)).1 s4
 have q4' := (A0W (D := 12) (N := 14) ks' (d' + 1)).1 s4'
 obtain ⟨pt, ct, pf, cf, p, c, es, rfl, hk, hnum, hlb, hty, hfr, hsl, hkl⟩ := hr.open9
 obtain ⟨pt', ct', pf', cf', p', c', es', rfl, hk', hnum', hlb', hty', hfr', hsl', hkl'⟩ := hr'.open9
 have hn := hsl.le
 have hn' := hsl'.le
 have hf := @B0p k k' nm nm' num num' (.mk tk tks) (.mk tk' tks') (.mk fk fks) (.mk fk' fks') lb lb' ks ks'
 have ht := @A2R k k' nm nm' num num' (.mk tk tks) (.mk tk' tks') (.mk fk fks) (.mk fk' fks') lb lb' ks ks'
 generalize W0 (.mk k nm num (.mk tk tks) (.mk fk fks) lb ks) (.mk k' nm' num' (.mk tk' tks') (.mk fk' fks') lb' ks') = R at *
 refine C2 Tryz.func96 rfl Tryz.ntmps96 Tryz.results96 rfl ?_
 intro w0
 refine A5 ?_
 refine sE (C7 rfl rfl) rfl (fun b3 => ?_)
 refine sE (C7 rfl rfl) rfl (fun b4 => ?_)
 refine J0 ?_
 refine sB (M1 rfl rfl) rfl rfl (fun h15 => ?_) (fun h15 => ?_)
 refine Z0 ?_
 refine B7 ?_
 exact A10
 refine B2 ?_
 refine sB (A13 rfl rfl) rfl rfl (fun h56 => ?_) (fun h56 => ?_)
 refine A5Y ?_
 exact A10
 refine B0 ?_
 refine sB (M1 rfl rfl) rfl rfl (fun h92 => ?_) (fun h92 => ?_)
 refine X6 ?_
 exact A10
 refine D0 ?_
 refine sB (M1 rfl rfl) rfl rfl (fun h123 => ?_) (fun h123 => ?_)
 refine N5 ?_
 exact A10
 refine I8 ?_
 refine sB (qE rfl rfl) rfl rfl (fun h148 => ?_) (fun h148 => ?_)
 refine J0 ?_
 refine E8 rfl (B0r (.mk tk tks) (.mk tk' tks') G _ _ 1 1 (n6 (by omega)) (n6' (by omega)) hty hty') rfl rfl (fun h159 => ?_) (fun h159 => ?_)
 refine J4 ?_
 refine C3 ?_
 (have hll : ks.length = ks'.length := (by omega); refine K2 (fun (i : Nat) => ⟨[(5, .int .i64 i), (3, .pointer (some ⟨b4, 0, none⟩)), (2, .pointer (some ⟨b3, 0, none⟩))], [.blk b3 [.int .i64 k, .string nm, .int .i64 num, .int .i64 tk, .slice pt tks.length ct, .int .i64 fk, .slice pf fks.length cf, .int .i64 lb, .slice p ks.length c], .blk b4 [.int .i64 k', .string nm', .int .i64 num', .int .i64 tk', .slice pt' tks'.length ct', .int .i64 fk', .slice pf' fks'.length cf', .int .i64 lb', .slice p' ks'.length c']], G⟩) (fun i => i ≤ ks.length ∧ ∀ j (h : j < ks.length) (h' : j < ks'.length), j < i → W0 ks[j] ks'[j] = true) (fun i => ks.length - i) 0 ?_ ?_ ?_)
 exact E2
 exact ⟨by omega, by omega⟩
 (rintro i ⟨hi, hfj⟩)
 refine B5 ?_
 refine sB (J8 rfl rfl) rfl rfl (fun h185 => ?_) (fun h185 => ?_)
 refine B0 ?_
 refine C3 ?_
 refine tS ?_
 (obtain ⟨b, o, e, rfl, hl, hat, hre, hgb⟩ := hsl.kidTm hkl (i := i) (by omega) (by omega); obtain ⟨b', o', e', rfl, hl', hat', hre', hgb'⟩ := hsl'.kidTm hkl' (i := i) (by omega) (by omega); refine D8 D9 rfl ?_)
 refine I6 (i := 0) (l' := [tt,ff,ff,ff,ff,ff,ff,ff,ff,ff,ff,ff]) rfl D3 (B8 rfl) rfl (by kernel_rfl) rfl rfl ?_
 refine aL 1 rfl (C4 rfl rfl) rfl ?_
 refine aP 2 rfl (qM rfl) rfl ?_
 refine aP 3 rfl (B6 rfl rfl rfl (by omega)) rfl ?_
 refine aL 4 rfl (A3 rfl rfl (hat _) hl) rfl ?_
 refine aP 5 rfl (B8 rfl) rfl ?_
 refine aL 6 rfl (C4 rfl rfl) rfl ?_
 refine aP 7 rfl (qM rfl) rfl ?_
 refine aP 8 rfl (B6 rfl rfl rfl (by omega)) rfl ?_
 refine aL 9 rfl (A3 rfl rfl (hat' _) hl') rfl ?_
 refine A4 10 ?_
 refine S2 rfl rfl (ih ks[i] (List.getElem_mem (by omega)) ks'[i] G _ _ _ _ (q4 i (by omega)) (q4' i (by omega)) hre hre') rfl rfl rfl (fun h206 => ?_) (fun h206 => ?_)
 refine aP 11 rfl (pNt rfl) rfl ?_
 refine D0 ?_
 refine sP (J6 rfl rfl (by omega) (by omega)) rfl rfl ?_
 refine A5 ?_
 refine K3 (i + 1) ?_ ?_ ?_
 exact E2
 exact A7f
 omega
 refine aP 11 rfl (pNf rfl) rfl ?_
 refine H6 ?_
 exact A10
 refine H6 ?_
 exact A7g
 refine J4 ?_
 exact A10
 refine B9 ?_
 refine sB (qE rfl rfl) rfl rfl (fun h273 => ?_) (fun h273 => ?_)
 refine B0 ?_
 refine E8 rfl (B0r (.mk tk tks) (.mk tk' tks') G _ _ 1 1 (n6 (by omega)) (n6' (by omega)) hty hty') rfl rfl (fun h280 => ?_) (fun h280 => ?_)
 refine J4 ?_
 refine C3 ?_
 (have hll : ks.length = ks'.length := (by omega); refine K2 (fun (i : Nat) => ⟨[(5, .int .i64 i), (3, .pointer (some ⟨b4, 0, none⟩)), (2, .pointer (some ⟨b3, 0, none⟩))], [.blk b3 [.int .i64 k, .string nm, .int .i64 num, .int .i64 tk, .slice pt tks.length ct, .int .i64 fk, .slice pf fks.length cf, .int .i64 lb, .slice p ks.length c], .blk b4 [.int .i64 k', .string nm', .int .i64 num', .int .i64 tk', .slice pt' tks'.length ct', .int .i64 fk', .slice pf' fks'.length cf', .int .i64 lb', .slice p' ks'.length c']], G⟩) (fun i => i ≤ ks.length ∧ ∀ j (h : j < ks.length) (h' : j < ks'.length), j < i → W0 ks[j] ks'[j] = true) (fun i => ks.length - i) 0 ?_ ?_ ?_)
 exact E2
 exact ⟨by omega, by omega⟩
 (rintro i ⟨hi, hfj⟩)
 refine B5 ?_
 refine sB (J8 rfl rfl) rfl rfl (fun h306 => ?_) (fun h306 => ?_)
 refine B0 ?_
 refine C3 ?_
 refine tS ?_
 (obtain ⟨b, o, e, rfl, hl, hat, hre, hgb⟩ := hsl.kidTm hkl (i := i) (by omega) (by omega); obtain ⟨b', o', e', rfl, hl', hat', hre', hgb'⟩ := hsl'.kidTm hkl' (i := i) (by omega) (by omega); refine D8 D9 rfl ?_)
 refine I6 (i := 0) (l' := [tt,ff,ff,ff,ff,ff,ff,ff,ff,ff,ff,ff]) rfl D3 (B8 rfl) rfl (by kernel_rfl) rfl rfl ?_
 refine aL 1 rfl (C4 rfl rfl) rfl ?_
 refine aP 2 rfl (qM rfl) rfl ?_
 refine aP 3 rfl (B6 rfl rfl rfl (by omega)) rfl ?_
 refine aL 4 rfl (A3 rfl rfl (hat _) hl) rfl ?_
 refine aP 5 rfl (B8 rfl) rfl ?_
 refine aL 6 rfl (C4 rfl rfl) rfl ?_
 refine aP 7 rfl (qM rfl) rfl ?_
 refine aP 8 rfl (B6 rfl rfl rfl (by omega)) rfl ?_
 refine aL 9 rfl (A3 rfl rfl (hat' _) hl') rfl ?_
 refine A4 10 ?_
 refine S2 rfl rfl (ih ks[i] (List.getElem_mem (by omega)) ks'[i] G _ _ _ _ (q4 i (by omega)) (q4' i (by omega)) hre hre') rfl rfl rfl (fun h327 => ?_) (fun h327 => ?_)
 refine aP 11 rfl (pNt rfl) rfl ?_
 refine D0 ?_
 refine sP (J6 rfl rfl (by omega) (by omega)) rfl rfl ?_
 refine A5 ?_
 refine K3 (i + 1) ?_ ?_ ?_
 exact E2
 exact A7f
 omega
 refine aP 11 rfl (pNf rfl) rfl ?_
 refine H6 ?_
 exact A10
 refine H6 ?_
 exact A7g
 refine J4 ?_
 exact A10
 refine A0o ?_
 refine C3 ?_
 (have hll : ks.length = ks'.length := (by omega); refine K2 (fun (i : Nat) => ⟨[(5, .int .i64 i), (3, .pointer (some ⟨b4, 0, none⟩)), (2, .pointer (some ⟨b3, 0, none⟩))], [.blk b3 [.int .i64 k, .string nm, .int .i64 num, .int .i64 tk, .slice pt tks.length ct, .int .i64 fk, .slice pf fks.length cf, .int .i64 lb, .slice p ks.length c], .blk b4 [.int .i64 k', .string nm', .int .i64 num', .int .i64 tk', .slice pt' tks'.length ct', .int .i64 fk', .slice pf' fks'.length cf', .int .i64 lb', .slice p' ks'.length c']], G⟩) (fun i => i ≤ ks.length ∧ ∀ j (h : j < ks.length) (h' : j < ks'.length), j < i → W0 ks[j] ks'[j] = true) (fun i => ks.length - i) 0 ?_ ?_ ?_)
 exact E2
 exact ⟨by omega, by omega⟩
 (rintro i ⟨hi, hfj⟩)
 refine B5 ?_
 refine sB (J8 rfl rfl) rfl rfl (fun h423 => ?_) (fun h423 => ?_)
 refine B0 ?_
 refine C3 ?_
 refine tS ?_
 (obtain ⟨b, o, e, rfl, hl, hat, hre, hgb⟩ := hsl.kidTm hkl (i := i) (by omega) (by omega); obtain ⟨b', o', e', rfl, hl', hat', hre', hgb'⟩ := hsl'.kidTm hkl' (i := i) (by omega) (by omega); refine D8 D9 rfl ?_)
 refine I6 (i := 0) (l' := [tt,ff,ff,ff,ff,ff,ff,ff,ff,ff,ff,ff]) rfl D3 (B8 rfl) rfl (by kernel_rfl) rfl rfl ?_
 refine aL 1 rfl (C4 rfl rfl) rfl ?_
 refine aP 2 rfl (qM rfl) rfl ?_
 refine aP 3 rfl (B6 rfl rfl rfl (by omega)) rfl ?_
 refine aL 4 rfl (A3 rfl rfl (hat _) hl) rfl ?_
 refine aP 5 rfl (B8 rfl) rfl ?_
 refine aL 6 rfl (C4 rfl rfl) rfl ?_
 refine aP 7 rfl (qM rfl) rfl ?_
 refine aP 8 rfl (B6 rfl rfl rfl (by omega)) rfl ?_
 refine aL 9 rfl (A3 rfl rfl (hat' _) hl') rfl ?_
 refine A4 10 ?_
 refine S2 rfl rfl (ih ks[i] (List.getElem_mem (by omega)) ks'[i] G _ _ _ _ (q4 i (by omega)) (q4' i (by omega)) hre hre') rfl rfl rfl (fun h444 => ?_) (fun h444 => ?_)
 refine aP 11 rfl (pNt rfl) rfl ?_
 refine D0 ?_
 refine sP (J6 rfl rfl (by omega) (by omega)) rfl rfl ?_
 refine A5 ?_
 refine K3 (i + 1) ?_ ?_ ?_
 exact E2
 exact A7f
 omega
 refine aP 11 rfl (pNf rfl) rfl ?_
 refine H6 ?_
 exact A10
 refine H6 ?_
 exact A7g
theorem B6o (t t' : Tm) (G : IM) (cells cells' : List Value) (hc1 : D6 t ≤ 4294967296) (hc2 : D6 t' ≤ 4294967296) (hr : B3 G t cells) (hr' : B3 G t' cells') :
  Fn Tryz.prog 54 [.agg ⟨cells⟩, .agg ⟨cells'⟩] [] G (H5 (.bool (X2 t t')) G) := by
 have hl := hr.len
 have hl' := hr'.len
 have hv := A3h t G cells hc1 hr
 have hv' := A3h t' G cells' hc2 hr'
 have hc := fun h1 h2 => B6n t t' G cells cells' 1 1 ((A0L t).1 h1).1 ((A0L t').1 h2).1 hr hr'
 refine C2 Tryz.func54 rfl Tryz.ntmps54 Tryz.results54 rfl ?_
 intro w0
 refine A5 ?_
 refine sE (C7 rfl rfl) rfl (fun b3 => ?_)
 refine sE (C7 rfl rfl) rfl (fun b4 => ?_)
 refine B2 ?_
 refine sL (A3 rfl rfl (B1 (by repeat first | exact mH | apply mT)) (by assumption)) rfl rfl ?_
 refine E8 rfl (hv) rfl rfl (fun h11 => ?_) (fun h11 => ?_)
 refine F0 ?_
 refine sL (A3 rfl rfl (B1 (by repeat first | exact mH | apply mT)) (by assumption)) rfl rfl ?_
 refine E8 rfl (hv') rfl rfl (fun h14 => ?_) (fun h14 => ?_)
 refine A5 ?_
 refine sL (A3 rfl rfl (B1 (by repeat first | exact mH | apply mT)) (by assumption)) rfl rfl ?_
 refine sL (A3 rfl rfl (B1 (by repeat first | exact mH | apply mT)) (by assumption)) rfl rfl ?_
 refine E8 rfl (hc (by assumption) (by assumption)) rfl rfl (fun h19 => ?_) (fun h19 => ?_)
 refine B0 ?_
 exact A2l
 refine B0 ?_
 exact A2l
 refine I8 ?_
 exact A2l
 refine J1 ?_
 exact A2l
inductive MV where
 | mk (k num : Int) (env parts : List MV)
def MV.k : MV → Int | .mk k _ _ _ => k
def MV.num : MV → Int | .mk _ n _ _ => n
def MV.env : MV → List MV | .mk _ _ e _ => e
def MV.parts : MV → List MV | .mk _ _ _ p => p
def mv0 : MV := .mk 0 0 [] []
mutual
def RMv (kc : Int → Int) (G : IM) : MV → List Value → Prop
 | .mk k num env parts, cells => ∃ p c es q d fs, cells = [.int .i64 (kc k), .int .i64 num, .slice p env.length c, .slice q parts.length d] ∧ H1 num ∧ H1 (kc k) ∧ E0 G p env.length c 4 es ∧ A3C kc G env es ∧ E0 G q parts.length d 4 fs ∧ A3C kc G parts fs
def A3C (kc : Int → Int) (G : IM) : List MV → List (List Value) → Prop
 | [], es => es = []
 | t :: ts, es => ∃ a r, es = a :: r ∧ RMv kc G t a ∧ A3C kc G ts r
end
section
variable {kc : Int → Int} {G : IM}
end

def RFr (kc : Int → Int) (G : IM) (f : Int × List MV) (cells : List Value) : Prop := ∃ p c es, cells = [.int .i64 f.1, .slice p f.2.length c] ∧ H1 f.1 ∧ E0 G p f.2.length c 4 es ∧ A3C kc G f.2 es
def B1b (kc : Int → Int) (G : IM) : List (Int × List MV) → List (List Value) → Prop
 | [], es => es = []
 | t :: ts, es => ∃ a r, es = a :: r ∧ RFr kc G t a ∧ B1b kc G ts r
section
variable {kc : Int → Int} {G : IM}
end

structure MSt where
 at' : Int
 st : List MV
 env : List MV
 fr : List (Int × List MV)
def RSs (kc : Int → Int) (G : IM) (s : MSt) (cells : List Value) : Prop := ∃ pe ce ps cs pf cf ee es ef, cells = [.int .i64 s.at', .slice pe s.env.length ce, .slice ps s.st.length cs, .slice pf s.fr.length cf] ∧ H1 s.at' ∧
 E0 G pe s.env.length ce 4 ee ∧ A3C kc G s.env ee ∧ E0 G ps s.st.length cs 4 es ∧ A3C kc G s.st es ∧ E0 G pf s.fr.length cf 2 ef ∧ B1b kc G s.fr ef
def A5z (k : Int) : Nat := if k = 6 ∨ k = 7 ∨ k = 8 ∨ k = 11 then 2 else if k = 9 ∨ k = 12 ∨ k = 13 then 1 else 0
def A7h (k : Int) : Int × Nat × Int := if k = 6 then (2, 1, 1) else if k = 7 ∨ k = 8 then (0, 2, 2) else if k = 9 then (1, 1, 3) else if k = 12 ∨ k = 13 then (3, 1, 4) else (0, 0, 0)
def A2m (s : MSt) (v : MV) : MSt := { s with st := s.st ++ [v] }
def mGo (k a : Int) (s : MSt) (v : List MV) : MSt ⊕ (Int × Int) :=
 if k = 1 then .inl (A2m s (.mk 0 a [] []))
 else if k = 2 then .inl (A2m s (.mk 1 a [] []))
 else if k = 3 then (if (s.env.length : Int) - 1 - a < 0 then .inr (3, 0) else .inl (A2m s (s.env.getD ((s.env.length : Int) - 1 - a).toNat mv0)))
 else if k = 4 then .inl { A2m s (.mk 2 s.at' s.env []) with at' := s.at' + a }
 else if k = 5 then (if s.fr.length = 0 then .inr (3, 0) else .inl { s with at' := (s.fr.getD (s.fr.length - 1) (0, [])).1, env := (s.fr.getD (s.fr.length - 1) (0, [])).2, fr := s.fr.take (s.fr.length - 1) })
 else if k = 6 then .inl { s with at' := (v.getD 0 mv0).num, env := (v.getD 0 mv0).env ++ [v.getD 1 mv0], fr := s.fr ++ [(s.at', s.env)] }
 else if k = 7 then .inl (A2m s (.mk 0 (((v.getD 0 mv0).num + (v.getD 1 mv0).num) % 1000) [] []))
 else if k = 8 then .inl (A2m s (.mk 1 (if (v.getD 0 mv0).num < (v.getD 1 mv0).num then 1 else 0) [] []))
 else if k = 9 then .inl (if (v.getD 0 mv0).num = 0 then { s with at' := s.at' + a } else s)
 else if k = 10 then .inl { s with at' := s.at' + a }
 else if k = 11 then .inl (A2m s (.mk 3 0 [] v))
 else .inl (A2m s ((v.getD 0 mv0).parts.getD (k - 12).toNat mv0))
def B6p (k : Int) (v : List MV) : Bool := (v.take (A7h k).2.1).all fun u => decide (u.k = (A7h k).1)
def B6q (k a : Int) (s : MSt) : MSt ⊕ (Int × Int) :=
 if s.st.length < A5z k then .inr (3, 0)
 else if B6p k (s.st.drop (s.st.length - A5z k)) = true then mGo k a { s with at' := s.at' + 1, st := s.st.take (s.st.length - A5z k) } (s.st.drop (s.st.length - A5z k))
 else .inr (2, (A7h k).2.2)
def B6r (v : MV) : ByteArray := if v.k = 0 then ⟨(Lib.decDigits v.num.toNat).toArray⟩ else if v.k = 1 then (if v.num = 0 then ⟨#[70]⟩ else ⟨#[84]⟩) else if v.k = 2 then ⟨⟨[102, 117, 110, 99, 116, 105, 111, 110]⟩⟩ else ⟨⟨[112, 97, 105, 114]⟩⟩
def B6s (s : MSt) : ByteArray × Int × Int := if s.st.length ≠ 1 ∨ 0 < s.fr.length then (⟨#[]⟩, 3, 0) else (B6r (s.st.getD 0 mv0), 0, 0)
def B1c (ops : List (Int × Int)) : Nat → MSt → ByteArray × Int × Int
 | t, s => if (ops.length : Int) ≤ s.at' then B6s s else match t with
  | 0 => (⟨#[]⟩, 5, 0)
  | t + 1 => match B6q (ops.getD s.at'.toNat (0, 0)).1 (ops.getD s.at'.toNat (0, 0)).2 s with
   | .inl s' => B1c ops t s'
   | .inr (c, e) => (⟨#[]⟩, c, e)
def B6t (k behind : Int) : Int := if k = 1 then 999 else if k = 2 then 1 else if k = 3 then 11 else if k = 4 ∨ k = 9 ∨ k = 10 then behind else 0
def B6u (n : Nat) (i : Nat) (x : Int × Int) : Bool := decide (1 ≤ x.1 ∧ x.1 ≤ 13 ∧ 0 ≤ x.2 ∧ x.2 ≤ B6t x.1 ((n : Int) - 1 - i))
def B6v (ops : List (Int × Int)) : Bool := decide (1 ≤ ops.length ∧ ops.length ≤ 120) && (List.range ops.length).all fun i => B6u ops.length i (ops.getD i (0, 0))
def B8w (ops : List (Int × Int)) (ticks : Int) : ByteArray × Int × Int :=
 if B6v ops = true ∧ 0 ≤ ticks ∧ ticks ≤ 2000 then B1c ops ticks.toNat ⟨0, [], [], []⟩ else (⟨#[]⟩, 3, 0)
theorem B1d (k : Nat) : strOfNums [dgi k] = (⟨[UInt8.ofNat (48 + k % 10)].toArray⟩ : ByteArray) := by
 have : (dgi k).toNat = 48 + k % 10 := by unfold dgi; omega
 simp [strOfNums, this]
theorem B6w (a b : List UInt8) : (⟨a.toArray⟩ : ByteArray) ++ ⟨b.toArray⟩ = ⟨(a ++ b).toArray⟩ := by
 apply ByteArray.ext; simp
theorem B6x {k : Nat} {out : ByteArray} (h : 9 < k) : (⟨(Lib.decDigits (k / 10)).toArray⟩ : ByteArray) ++ (strOfNums [dgi k] ++ out) = ⟨(Lib.decDigits k).toArray⟩ ++ out := by
 have e : (⟨(Lib.decDigits k).toArray⟩ : ByteArray) = ⟨(Lib.decDigits (k / 10)).toArray⟩ ++ ⟨[UInt8.ofNat (48 + k % 10)].toArray⟩ := by
  rw [B6w (Lib.decDigits (k / 10))]
  congr 2
  rw [Lib.decDigits, dif_neg (by omega)]
 rw [e, B1d, ByteArray.append_assoc]
theorem B6y {k : Nat} {out : ByteArray} (h : ¬9 < k) : strOfNums [dgi k] ++ out = ⟨(Lib.decDigits k).toArray⟩ ++ out := by
 rw [B1d, Lib.decDigits, dif_pos (by omega), Nat.mod_eq_of_lt (by omega)]
theorem B6z {k : Nat} (h : ¬9 < k) : dgi k = 48 + (k : Int) := by unfold dgi; omega
theorem B6A (k : Nat) (hk : k < 10000) (G : IM) : Fn Tryz.prog 86 [.int .i64 (k : Int)] [] G (H5 (.string ⟨(Lib.decDigits k).toArray⟩) G) := by
 refine C2 Tryz.func86 rfl Tryz.ntmps86 Tryz.results86 rfl ?_
 intro w0
 refine E1 ?_
 refine sP (A2t rfl rfl (by omega)) rfl rfl ?_
 refine E1 ?_
 refine sP (A2t rfl rfl (by omega)) rfl rfl ?_
 refine I8 ?_
 refine C3 (K2 (fun (x : Nat × ByteArray) => ⟨[(0, .int .i64 (x.1 : Int)), (2, .string ⟨#[]⟩), (3, .string x.2)], [], G⟩) (fun x => x.1 < 10000 ∧ x.1 + x.2.size < 10020 ∧ (⟨(Lib.decDigits x.1).toArray⟩ : ByteArray) ++ x.2 = ⟨(Lib.decDigits k).toArray⟩) (fun x => x.1) (k, ⟨#[]⟩) ?_ ?_ ?_)
 (simp only [J9]; exact E2)
 (dsimp only; exact ⟨hk, by have : (⟨#[]⟩ : ByteArray).size = 0 := rfl; omega, ByteArray.append_empty⟩)
 (rintro ⟨j, out⟩ ⟨hj, hsz, hd⟩; simp only [] at hj hsz hd ⊢)
 refine B7 ?_
 refine sB (Y9 rfl rfl) rfl rfl (fun h41 => ?_) (fun h41 => ?_)
 refine B2 ?_
 refine C3 ?_
 refine B9 ?_
 refine sP (A53 (n := 10) rfl rfl (by omega)) rfl rfl ?_
 refine sP (J6 rfl rfl (by omega) (by omega)) rfl rfl ?_
 refine sP (A8p rfl rfl rfl (by omega) (by omega)) rfl rfl ?_
 (refine J5 (D2 rfl rfl rfl (by omega) (by unfold maxLen; omega) rfl) rfl ?_; rintro _ ⟨b54, rfl⟩)
 refine sL (A8q (xs := [dgi j]) rfl rfl rfl rfl rfl (O2 (by repeat first | exact mH | apply mT))) rfl rfl ?_
 refine F0 ?_
 (have hs1 := strOfNums_size [dgi j]; have hs2 : [dgi j].length = 1 := rfl; refine sP (A24 rfl rfl (by omega)) rfl rfl ?_)
 refine B2 ?_
 refine sP (A54 (n := 10) rfl rfl (by omega) (by omega)) rfl rfl ?_
 refine B9 ?_
 refine K3 (j / 10, strOfNums [dgi j] ++ out) ?_ ?_ ?_
 (simp only [J9]; exact E2)
 (dsimp only; exact ⟨by omega, by (rw [ByteArray.size_append]; omega), by rw [← hd]; exact B6x (by omega)⟩)
 (show j / 10 < j; omega)
 refine I8 ?_
 refine sP (J6 rfl rfl (by omega) (by omega)) rfl rfl ?_
 refine sP (A8p rfl rfl rfl (by omega) (by omega)) rfl rfl ?_
 (refine J5 (D2 rfl rfl rfl (by omega) (by unfold maxLen; omega) rfl) rfl ?_; rintro _ ⟨b84, rfl⟩)
 (have hs9 := B6z (k := j) (by omega); refine sL (A8q (xs := [48 + (j : Int)]) rfl rfl rfl rfl rfl (O2 (by repeat first | exact mH | apply mT))) rfl rfl ?_; rw [← hs9])
 refine F0 ?_
 (have hs1 := strOfNums_size [dgi j]; have hs2 : [dgi j].length = 1 := rfl; refine sP (A24 rfl rfl (by omega)) rfl rfl ?_)
 refine B2 ?_
 exact ⟨rfl, by rw [B6y (by omega), hd], rfl⟩
def A7i : ByteArray := ⟨⟨[112, 97, 105, 114]⟩⟩
def A7j : ByteArray := ⟨⟨[102, 117, 110, 99, 116, 105, 111, 110]⟩⟩
def txT : ByteArray := ⟨⟨[84]⟩⟩
def txF : ByteArray := ⟨⟨[70]⟩⟩
def B1e (n : Int) : ByteArray := ⟨(Lib.decDigits n.toNat).toArray⟩
def A11 (k num : Int) : ByteArray := if k = 2 then B1e num else if k = 3 then txT else txF
mutual
def A0d : Tm → ByteArray
 | .mk k nm num ty fr lb ks => if k = 10 ∨ (O9 (.mk k nm num ty fr lb []) = true ∧ ty.k = 5) then A7i else if k = 5 ∨ O9 (.mk k nm num ty fr lb []) = true then A7j else if k = 14 then B6B ks else A11 k num
def B6B : List Tm → ByteArray
 | [] => ⟨⟨[]⟩⟩
 | t :: _ => A0d t
end
theorem B6C (k : Int) (nm : ByteArray) (num : Int) (ty fr : Ty) (lb : Int) (ks : List Tm) (G : IM) (cells : List Value) (hT : A0K G) (hk3 : k = 2 ∨ k = 3 ∨ k = 4) (hn : 0 ≤ num ∧ num ≤ 999) (hr : B3 G (.mk k nm num ty fr lb ks) cells) : Fn Tryz.prog 74 [.agg ⟨cells⟩] [] G (H5 (.string (A11 k num)) G) := by
 obtain ⟨tk, tks⟩ := ty
 obtain ⟨fk, fks⟩ := fr
 obtain ⟨pt, ct, pf, cf, p, c, es, rfl, hk, hnum, hlb, hty, hfr, hsl, hkl⟩ := hr.open9
 have hI := B3j num G hT hn.1 hn.2
 refine C2 Tryz.func74 rfl Tryz.ntmps74 Tryz.results74 rfl ?_
 intro w0
 refine A5 ?_
 refine sE (C7 rfl rfl) rfl (fun b3 => ?_)
 refine B2 ?_
 refine sQ (A12 rfl rfl) rfl ?_
 refine J0 ?_
 refine C3 ?_
 refine A5 ?_
 refine sP (I7 rfl rfl (by omega)) rfl rfl ?_
 refine B0 ?_
 refine sB (qE rfl rfl) rfl rfl (fun h30 => ?_) (fun h30 => ?_)
 refine D0 ?_
 refine H9 rfl (hI) rfl rfl ?_
 refine B5 ?_
 (exact ⟨rfl, by unfold A11; rw [if_pos (by omega)]; rfl, rfl⟩)
 refine B0 ?_
 refine sB (qE rfl rfl) rfl rfl (fun h54 => ?_) (fun h54 => ?_)
 refine J4 ?_
 (exact ⟨rfl, by unfold A11; rw [if_neg (by omega), if_pos (by omega)]; rfl, rfl⟩)
 refine B0 ?_
 refine sP (W8 rfl rfl (by omega)) rfl rfl ?_
 refine J4 ?_
 (exact ⟨rfl, by unfold A11; rw [if_neg (by omega), if_neg (by omega)]; rfl, rfl⟩)
section
variable {k : Int} {nm : ByteArray} {num : Int} {ty fr : Ty} {lb : Int} {ks : List Tm}
theorem B1f (h : k = 10 ∨ (O9 (.mk k nm num ty fr lb ks) = true ∧ ty.k = 5)) : A0d (.mk k nm num ty fr lb ks) = A7i := by
 rw [A0d]
 exact if_pos h
theorem B1g (h : ¬(k = 10 ∨ (O9 (.mk k nm num ty fr lb ks) = true ∧ ty.k = 5))) (h2 : k = 5 ∨ O9 (.mk k nm num ty fr lb ks) = true) : A0d (.mk k nm num ty fr lb ks) = A7j := by
 rw [A0d]
 exact (if_neg h).trans (if_pos h2)
theorem A7k (h : O9 (.mk k nm num ty fr lb ks) = false) (hk : k = 14) (h0 : 0 < ks.length) : A0d (.mk k nm num ty fr lb ks) = A0d ks[0] := by
 rw [A0d, if_neg (by rintro (h1 | h1); omega; exact Bool.noConfusion (h1.1.symm.trans h)), if_neg (by rintro (h1 | h1); omega; exact Bool.noConfusion (h1.symm.trans h)), if_pos hk]
 cases ks with
 | nil => simp at h0
 | cons t ts => rfl
theorem B1h (h : O9 (.mk k nm num ty fr lb ks) = false) (hk : k ≠ 14) (h10 : k ≠ 10) (h5 : k ≠ 5) : A0d (.mk k nm num ty fr lb ks) = A11 k num := by
 rw [A0d, if_neg (by rintro (h1 | h1); omega; exact Bool.noConfusion (h1.1.symm.trans h)), if_neg (by rintro (h1 | h1); omega; exact Bool.noConfusion (h1.symm.trans h)), if_neg hk]
end
theorem B1i {Q : Prop} (h : Q := by (exact ⟨rfl, congrArg Value.string (hvp (by first | exact .inl (by omega) | exact .inr ⟨by assumption, by assumption⟩)).symm, rfl⟩)) : Q := h
theorem A7l {Q : Prop} (h : Q := by (exact ⟨rfl, congrArg Value.string (hvf (by rintro (h | ⟨h1, h2⟩) <;> first | omega | exact Bool.noConfusion (h1.symm.trans (show bp = false by assumption)) | (simp only [Ty.k] at h2; omega)) (by first | exact .inl (by omega) | exact .inr (by assumption))).symm, rfl⟩)) : Q := h
theorem B6D : ∀ (t : Tm) (G : IM) (cells : List Value), A0K G → cv t → E3 t = true → B3 G t cells → Fn Tryz.prog 38 [.agg ⟨cells⟩] [] G (H5 (.string (A0d t)) G) := by
 refine Tm.ind fun k nm num ty fr lb ks ih G cells hT hc hv hr => ?_
 have hr0 := hr
 have hP := A2U _ G _ hr
 obtain ⟨hN, hkk⟩ := hc.node
 have hop := hN.ops
 have h14 : k = 14 → ks.length = 1 := fun h => by rw [h] at hop; have : D7 14 = 1 := rfl; omega
 have hL := fun h => B6C k nm num ty fr lb ks G cells hT h hN.num0 hr
 have hvp := @B1f k nm num ty fr lb ks
 have hvf := @B1g k nm num ty fr lb ks
 have hvc := @A7k k nm num ty fr lb ks
 have hvl := @B1h k nm num ty fr lb ks
 have hvn := @A5s k nm num ty fr lb ks
 have hvy := @A3x k nm num ty fr lb ks
 have hprx := A0N k nm num ty fr lb ks
 have hinj := A4n k nm num ty fr lb ks
 have hleaf : O9 (.mk k nm num ty fr lb ks) = false → k ≠ 14 → k ≠ 10 → k ≠ 5 → k = 2 ∨ k = 3 ∨ k = 4 := by
  intro h1 h2 h3 h4
  have := hvn h3 h1 (by rw [hinj, decide_eq_false (by omega)]; rfl)
  rw [this] at hv
  have := of_decide_eq_true hv
  omega
 have hkv : O9 (.mk k nm num ty fr lb ks) = false → k = 14 → ∀ t ∈ ks, E3 t = true := by
  intro h1 h2 t ht
  cases hi : inj (.mk k nm num ty fr lb ks) with
  | true => have := hvy (.inr (.inr hi)); rw [hv] at this; exact List.all_eq_true.1 this.symm t ht
  | false =>
   have := hvn (by omega) h1 hi
   rw [hv] at this
   have := of_decide_eq_true this.symm
   omega
 generalize hpx : O9 (.mk k nm num ty fr lb ks) = bp at *
 obtain ⟨tk, tks⟩ := ty
 obtain ⟨fk, fks⟩ := fr
 obtain ⟨pt, ct, pf, cf, p, c, es, rfl, hk, hnum, hlb, hty, hfr, hsl, hkl⟩ := hr.open9
 refine C2 Tryz.func38 rfl Tryz.ntmps38 Tryz.results38 rfl ?_
 intro w0
 refine A5 ?_
 refine sE (C7 rfl rfl) rfl (fun b3 => ?_)
 refine B7 ?_
 refine C3 ?_
 refine B7 ?_
 refine sB (qE rfl rfl) rfl rfl (fun h13 => ?_) (fun h13 => ?_)
 refine A06 ?_
 exact B1i
 refine A5 ?_
 refine E8 rfl (hP) rfl rfl (fun h40 => ?_) (fun h40 => ?_)
 refine B7 ?_
 refine sB (qE rfl rfl) rfl rfl (fun h45 => ?_) (fun h45 => ?_)
 refine H6 ?_
 exact B1i
 refine J0 ?_
 refine sB (qE rfl rfl) rfl rfl (fun h72 => ?_) (fun h72 => ?_)
 refine U5 ?_
 exact A7l
 refine A5 ?_
 refine E8 rfl (hP) rfl rfl (fun h93 => ?_) (fun h93 => ?_)
 refine J1 ?_
 exact A7l
 refine E1 ?_
 refine sB (qE rfl rfl) rfl rfl (fun h118 => ?_) (fun h118 => ?_)
 refine D0 ?_
 (have hl1 := h14 (by omega); obtain ⟨bx, ox, e, rfl, hl, hat, hre, hgb⟩ := hsl.kidTm hkl (i := 0) (by omega) (by omega); have hih := ih ks[0] (List.getElem_mem (by omega)) G e hT (hkk _ (List.getElem_mem (by omega))) (hkv (by assumption) (by omega) _ (List.getElem_mem (by omega))) hre; refine sP (B6 (j := 0) rfl rfl rfl (by omega)) rfl rfl ?_)
 refine sL (A3 rfl rfl (hat _) hl) rfl rfl ?_
 refine H9 rfl (hih) rfl rfl ?_
 refine B5 ?_
 (exfalso; have h1 : bp = true := (by assumption); have h2 : bp = false := (by assumption); rw [h1] at h2; cases h2)
 refine J0 ?_
 refine H9 rfl ((hL (hleaf (by assumption) (by omega) (by omega) (by omega)))) rfl rfl ?_
 refine B2 ?_
 (exfalso; have h1 : bp = true := (by assumption); have h2 : bp = false := (by assumption); rw [h1] at h2; cases h2)
 refine H6 ?_
 refine sB (qE rfl rfl) rfl rfl (fun h170 => ?_) (fun h170 => ?_)
 refine U5 ?_
 exact A7l
 refine A5 ?_
 refine E8 rfl (hP) rfl rfl (fun h191 => ?_) (fun h191 => ?_)
 refine J1 ?_
 (exfalso; have h1 : bp = true := (by assumption); have h2 : bp = false := (by assumption); rw [h1] at h2; cases h2)
 refine E1 ?_
 refine sB (qE rfl rfl) rfl rfl (fun h216 => ?_) (fun h216 => ?_)
 refine D0 ?_
 (have hl1 := h14 (by omega); obtain ⟨bx, ox, e, rfl, hl, hat, hre, hgb⟩ := hsl.kidTm hkl (i := 0) (by omega) (by omega); have hih := ih ks[0] (List.getElem_mem (by omega)) G e hT (hkk _ (List.getElem_mem (by omega))) (hkv (by assumption) (by omega) _ (List.getElem_mem (by omega))) hre; refine sP (B6 (j := 0) rfl rfl rfl (by omega)) rfl rfl ?_)
 refine sL (A3 rfl rfl (hat _) hl) rfl rfl ?_
 refine H9 rfl (hih) rfl rfl ?_
 refine B5 ?_
 (exact ⟨rfl, congrArg Value.string (hvc (by assumption) (by omega) (by omega)).symm, rfl⟩)
 refine J0 ?_
 refine H9 rfl ((hL (hleaf (by assumption) (by omega) (by omega) (by omega)))) rfl rfl ?_
 refine B2 ?_
 (exact ⟨rfl, congrArg Value.string (hvl (by assumption) (by omega) (by omega) (by omega)).symm, rfl⟩)
section fin
variable {P : Program} {Γ : M2} {env : M7} {hp : List A7} {G : IM}
theorem A2Z {r r2 r3 : ResultVar} {post : IM → Value → List A7 → Prop} {v v2 v3 : Value} {outs : List A7} (h : A0a P Γ ⟨env, hp, G⟩ r v) (h2 : A0a P Γ ⟨env, hp, G⟩ r2 v2) (h3 : A0a P Γ ⟨env, hp, G⟩ r3 v3) (ho : A0 hp outs) (hk : post G (.tuple ⟨[v, v2, v3]⟩) outs) :
  A0G P Γ [r, r2, r3] post .ret ⟨env, hp, G⟩ := A75 (.cons h (.cons h2 (.cons h3 .nil))) ho.spec hk
end fin
def CsP (bx : Nat) (e : Tm) (a b : Ty) (l : Int) : IM → Value → List A7 → Prop := fun G' v outs => ∃ cells, v = .agg ⟨cells⟩ ∧ outs = [.blk bx [.int .i64 (if M5 a b = true then l else l + 1)]] ∧ B3 G' (if M5 a b = true then e else K7 e a b (l + 1)) cells
theorem CsP.yes {G : IM} {bx : Nat} {e : Tm} {a b : Ty} {l : Int} {cells : List Value} (h : M5 a b = true) (hr : B3 G e cells) : CsP bx e a b l G (.agg ⟨cells⟩) [.blk bx [.int .i64 l]] := ⟨cells, rfl, by rw [if_pos h], by rw [if_pos h]; exact hr⟩
theorem CsP.no {G : IM} {bx : Nat} {e : Tm} {a b : Ty} {l : Int} {cells : List Value} (h : M5 a b = false) (hr : B3 G (K7 e a b (l + 1)) cells) : CsP bx e a b l G (.agg ⟨cells⟩) [.blk bx [.int .i64 (l + 1)]] := ⟨cells, rfl, by rw [if_neg (by rw [h]; decide)], by rw [if_neg (by rw [h]; decide)]; exact hr⟩
theorem B6E (bx : Nat) (e : Tm) (a b : Ty) (l : Int) (G : IM) (ce ca cb : List Value) (hl : -1000000000000 ≤ l ∧ l ≤ 1000000000000) (hre : B3 G e ce) (hra : C1 G a ca) (hrb : C1 G b cb) :
  Fn Tryz.prog 126 [.pointer (some ⟨bx, 0, none⟩), .agg ⟨ce⟩, .agg ⟨ca⟩, .agg ⟨cb⟩] [.blk bx [.int .i64 l]] G (CsP bx e a b l) := by
 have hel := hre.len
 have heo := hre.one
 have hS := A6M a b G ca cb hra hrb
 obtain ⟨v1, v2, v3, v4, v5, v6, v7, v8, v9, rfl⟩ := nine hel
 obtain ⟨ak, aks⟩ := a
 obtain ⟨bk, bks⟩ := b
 obtain ⟨pa, cca, ea, rfl, hka, _⟩ := hra.open
 obtain ⟨pb, ccb, eb, rfl, hkb, _⟩ := hrb.open
 refine C2 Tryz.func126 rfl Tryz.ntmps126 Tryz.results126 rfl ?_
 intro w0
 refine A5 ?_
 refine sE (C7 rfl rfl) rfl (fun b3 => ?_)
 refine sE (C7 rfl rfl) rfl (fun b4 => ?_)
 refine sE (C7 rfl rfl) rfl (fun b5 => ?_)
 refine sE (A8 rfl) rfl (fun b6 => ?_)
 refine B5 ?_
 refine E8 rfl (hS) rfl rfl (fun h14 => ?_) (fun h14 => ?_)
 refine B2 ?_
 refine sL (A3 rfl rfl (B1 (by repeat first | exact mH | apply mT)) hel) rfl rfl ?_
 refine sS rfl rfl rfl hel heo rfl ?_ (hu := by exact D4 hel.symm)
 refine B7 ?_
 refine H7 (outs := [.blk bx [.int .i64 _]]) (rC rfl (A6 rfl rfl)) (A0.cons (by repeat (first | exact Pk.here | apply Pk.there)) A0.nil) ?_
 (exact CsP.yes (by assumption) hre)
 refine D0 ?_
 refine sQ (Z9 rfl) rfl ?_
 refine A5 ?_
 refine sP (J6 rfl rfl (by omega) (by omega)) rfl rfl ?_
 refine sQ (Z9 rfl) rfl ?_
 refine B2 ?_
 refine D8 D9 rfl ?_
 refine L3 (i := 6) (l' := [ff,ff,ff,ff,ff,ff,tt,ff,ff,ff]) rfl D3 (A3 rfl rfl (B1 (by repeat first | exact mH | apply mT)) hel) rfl (by kernel_rfl) rfl rfl ?_
 refine aL 0 rfl (A6 rfl rfl) rfl ?_
 refine aL 1 rfl (A6 rfl rfl) rfl ?_
 refine aP 2 rfl (qM rfl) rfl ?_
 refine aP 3 rfl (Z9 rfl) rfl ?_
 refine aP 4 rfl (B8 rfl) rfl ?_
 refine aL 5 rfl (C4 rfl rfl) rfl ?_
 refine A4 7 ?_
 (refine E6 rfl (D2 rfl rfl rfl (by omega) (by unfold maxLen; omega) rfl) rfl rfl ?_; rintro _ ⟨b55, rfl⟩)
 refine aP 8 rfl (X5 rfl rfl) rfl ?_
 refine A4 9 ?_
 refine H8 rfl ?_
 refine A5 ?_
 (refine H3 (cs := [v1, v2, v3, v4, v5, v6, v7, v8, v9]) (by repeat (first | exact Pk.here | apply Pk.there)) (fun G2 hle2 hsl2 hno2 => ?_))
 refine tT ?_
 refine H7 (outs := [.blk bx [.int .i64 _]]) (rC rfl (A6 rfl rfl)) (A0.cons (by repeat (first | exact Pk.here | apply Pk.there)) A0.nil) ?_
 (exact CsP.no (by assumption) (B3.put (us := [e]) (es := [[v1, v2, v3, v4, v5, v6, v7, v8, v9]]) ⟨by decide, by decide⟩ ⟨by decide, by decide⟩ ⟨by omega, by omega⟩ (hrb.mono hle2) (hra.mono hle2) rfl (E0.of hsl2 rfl (by intro x hx; obtain rfl := List.mem_singleton.1 hx; rfl) (by intro x hx; obtain rfl := List.mem_singleton.1 hx; exact heo)) (by simp only [E4]; exact ⟨_, _, rfl, hre.mono hle2, rfl⟩)))
def ElP (bx : Nat) (cx : Cx) (e : Tm) (l : Int) : IM → Value → List A7 → Prop := fun G' v outs => ∃ u cu t ct l', v = .tuple ⟨[.agg ⟨cu⟩, .agg ⟨ct⟩, .bool (M6 cx e l).isSome]⟩ ∧ outs = [.blk bx [.int .i64 l']] ∧ B3 G' u cu ∧ C1 G' t ct ∧ l ≤ l' ∧ l' + 1 ≤ l + (D6 e : Int) ∧ ∀ r, M6 cx e l = some r → r = (u, t, l')
theorem ElP.no {G : IM} {bx : Nat} {cx : Cx} {e : Tm} {l l' : Int} {u : Tm} {t : Ty} {cu ct : List Value} (h : M6 cx e l = none) (hu : B3 G u cu) (ht : C1 G t ct) (h1 : l ≤ l') (h2 : l' + 1 ≤ l + (D6 e : Int)) : ElP bx cx e l G (.tuple ⟨[.agg ⟨cu⟩, .agg ⟨ct⟩, .bool false]⟩) [.blk bx [.int .i64 l']] :=
 ⟨u, cu, t, ct, l', by rw [h]; rfl, rfl, hu, ht, h1, h2, fun r hr => by rw [h] at hr; cases hr⟩
theorem ElP.yes {G : IM} {bx : Nat} {cx : Cx} {e : Tm} {l l' : Int} {u : Tm} {t : Ty} {cu ct : List Value} (h : M6 cx e l = some (u, t, l')) (hu : B3 G u cu) (ht : C1 G t ct) (h1 : l ≤ l') (h2 : l' + 1 ≤ l + (D6 e : Int)) : ElP bx cx e l G (.tuple ⟨[.agg ⟨cu⟩, .agg ⟨ct⟩, .bool true]⟩) [.blk bx [.int .i64 l']] :=
 ⟨u, cu, t, ct, l', by rw [h]; rfl, rfl, hu, ht, h1, h2, fun r hr => by rw [h] at hr; cases hr; rfl⟩
section
variable {cx : Cx} {k : Int} {nm : ByteArray} {num : Int} {ty fr : Ty} {lb : Int} {ks us : List Tm} {h : List Ty} {l l' : Int}
theorem B6F (hL : L9 (K1 cx k nm ty) ks l = none) : M6 cx (.mk k nm num ty fr lb ks) l = none := by rw [M6, hL]
theorem B1j (hL : L9 (K1 cx k nm ty) ks l = some (us, h, l')) (hn : T6 cx k nm ty h = none) : M6 cx (.mk k nm num ty fr lb ks) l = none := by rw [M6, hL]; simp only [Q7, hn]
theorem B6G {w : List Ty} {t : Ty} (hL : L9 (K1 cx k nm ty) ks l = some (us, h, l')) (hn : T6 cx k nm ty h = some (w, t)) (hk : k = 13) : M6 cx (.mk k nm num ty fr lb ks) l = some ((H2 us h w l').1.getD 0 I3, t, (H2 us h w l').2) := by
 rw [M6, hL]; simp only [Q7, hn, if_pos hk]
theorem B1k {w : List Ty} {t : Ty} (hL : L9 (K1 cx k nm ty) ks l = some (us, h, l')) (hn : T6 cx k nm ty h = some (w, t)) (hk : k ≠ 13) : M6 cx (.mk k nm num ty fr lb ks) l = some (.mk k nm num ty fr lb (H2 us h w l').1, t, (H2 us h w l').2) := by
 rw [M6, hL]; simp only [Q7, hn, if_neg hk]
end
theorem A2n {t : Ty} (h : F4 t = true) : F8 t := (A37 h).1
theorem B1l {us : List Tm} (h : 0 < us.length) : us.getD 0 I3 = us[0] := by rw [List.getD_eq_getElem?_getD, List.getElem?_eq_getElem h, Option.getD_some]
theorem B1m {Q : Prop} (h : Q := by (exact ElP.no (B1j hml (A5j hmw (b := false) (by assumption))) (P5 _) (O3 _ ⟨by omega, by omega⟩) (by omega) (by rw [hck]; omega))) : Q := h
theorem B1n (bx : Nat) : ∀ (e : Tm) (d : Int) (cx : Cx) (l0 : Int) (G : IM) (pc : Option Addr) (nc cc : Nat) (cells : List Value), M8 12 14 e d = true → (nc : Int) ≤ d → cxV cx → T4 G cx pc nc cc → B3 G e cells → 0 ≤ l0 → l0 + (D6 e : Int) ≤ 1000000000 →
  Fn Tryz.prog 83 [.pointer (some ⟨bx, 0, none⟩), .slice pc nc cc, .agg ⟨cells⟩] [.blk bx [.int .i64 l0]] G (ElP bx cx e l0) := by
 refine Tm.ind fun k nm num ty fr lb ks ih d cx l0 G pc nc cc cells hv hnd hcv hx hr hl0 hlc => ?_
 have hr0 := hr
 have hone := hr.one
 obtain ⟨hv1, hv2, hv3, hv4⟩ := A0s hv
 have hvk := (A0W 12 14 ks _).1 hv4
 have har := (U3.1 hv3).1
 have hop := A3l har
 obtain ⟨hta, hts⟩ := A3m hv3
 have hkr : 1 ≤ k ∧ k ≤ 14 := A4p (by rw [har]; omega)
 have hcvX : cxV (K1 cx k nm ty) := A4e hcv fun hk => (U3.1 hv3).2.2.2.2.2.1 (.inl hk)
 have hck : D6 (.mk k nm num ty fr lb ks) = E9 ks + 1 := Z4 ..
 rw [hck] at hlc
 obtain ⟨tk, tks⟩ := ty
 obtain ⟨fk, fks⟩ := fr
 obtain ⟨pt, ct, pf, cf, q, cq, es, rfl, hk, hnum, hlb, hty, hfr, hsl, hkl⟩ := hr.open9
 have hlen : ks.length ≤ 3 := by have := A1m k; omega
 obtain ⟨hx1, esx, hx2, hx3⟩ := id hx
 have hcl := B4R G pc nc cc esx hx2 (by omega)
 have hcnt0 := A57 ks
 refine C2 Tryz.func83 rfl Tryz.ntmps83 Tryz.results83 rfl ?_
 intro w0
 refine A5 ?_
 refine sE (C7 rfl rfl) rfl (fun b3 => ?_)
 refine sE (A8 rfl) rfl (fun b4 => ?_)
 refine sE (A8 rfl) rfl (fun b5 => ?_)
 refine J0 ?_
 (show J2 _ _ (.seq (.region 2 _ _) (.cond (.tmp 25) _ _)) _ _; refine A0j (fun (x : Option Addr × Nat × Nat × IM) => ⟨[(9, .slice x.1 x.2.1 x.2.2.1), (1, .slice pc nc cc), (0, .pointer (some ⟨bx, 0, none⟩)), (5, .pointer (some ⟨b3, 0, none⟩)), (6, .pointer (some ⟨b4, 0, none⟩)), (7, .pointer (some ⟨b5, 0, none⟩))], [.blk b5 [.int .i64 0, .slice none 0 0], .blk b4 [.int .i64 0, .string ⟨⟨[]⟩⟩, .int .i64 0, .int .i64 0, .slice none 0 0, .int .i64 0, .slice none 0 0, .int .i64 0, .slice none 0 0], .blk b3 [.int .i64 k, .string nm, .int .i64 num, .int .i64 tk, .slice pt tks.length ct, .int .i64 fk, .slice pf fks.length cf, .int .i64 lb, .slice q ks.length cq], .blk bx [.int .i64 l0]], x.2.2.2⟩) (fun x => C6 G x.2.2.2 ∧ T4 x.2.2.2 (K1 cx k nm (.mk tk tks)) x.1 x.2.1 x.2.2.1 ∧ x.2.1 ≤ nc + 1) ?_ ?_)
 ·refine B7 ?_
  refine sB (qE rfl rfl) rfl rfl (fun h21 => ?_) (fun h21 => ?_)
  ·refine B9 ?_
   refine D8 D9 rfl ?_
   refine I6 (i := 0) (l' := [tt,ff,ff,ff,ff,ff,ff,ff,ff,ff]) rfl D3 (qM rfl) rfl (by kernel_rfl) rfl rfl ?_
   refine aP 2 rfl (B8 rfl) rfl ?_
   refine aL 3 rfl (C4 rfl rfl) rfl ?_
   refine aP 4 rfl (B8 rfl) rfl ?_
   refine aL 5 rfl (A6 rfl rfl) rfl ?_
   refine aP 6 rfl (X5 rfl rfl) rfl ?_
   refine Q8 (j := 1) (j' := 7) (by kernel_rfl) ?_ ?_
   ·(refine A8f rfl rfl hcl rfl rfl rfl (fun v33 G33 outs33 hle33 h33 => ?_); obtain ⟨hG, p1, c1, rfl, rfl⟩ := h33; replace hG := hG.symm; subst hG)
    replace hr := hr.mono hle33
    replace hr0 := hr0.mono hle33
    replace hty := hty.mono hle33
    replace hfr := hfr.mono hle33
    replace hsl := hsl.mono hle33
    replace hkl := hkl.mono hle33
    replace hx2 := hx2.mono hle33
    refine A4 7 ?_
    (refine E6 rfl (D2 rfl rfl rfl (by omega) (by unfold maxLen; omega) rfl) rfl rfl ?_; rintro _ ⟨b35, rfl⟩)
    refine A4 8 ?_
    (refine R4 rfl rfl rfl rfl rfl rfl (fun _ _ => by repeat (first | exact Sw.here | apply Sw.there)) (O2 (by repeat first | exact mH | apply mT)) rfl (by simp [Value.oneCell']) (by unfold maxLen; omega) (by omega) rfl rfl (by repeat (first | exact A9.nil | apply A9.dep (by decide +kernel) | apply A9.blk (by decide +kernel) (by repeat (first | exact Pk.here | apply Pk.there)) (by repeat first | exact mH | apply mT))) (fun p5 c5 => ?_); refine A4O (cs := esx.flatten ++ [.string nm, .int .i64 tk, .slice pt tks.length ct]) (by repeat (first | exact Pk.here | apply Pk.there)) (fun Gf hleF hslF hnoF => ?_); have hxF := T4.snoc (nm := nm) (t := .mk tk tks) hx1 hx2.len hx2.all hx2.one hx3 hleF ⟨_, _, rfl, hty.mono hleF⟩ hslF)
    refine aP 9 rfl (qA rfl) rfl ?_
    refine aD' ?_
    refine P8 (p5, nc + 1, c5, Gf) (M0 (by repeat (first | exact E7.nil | refine E7.cons rfl ?_)) (by repeat (first | exact A0.refl | exact A0.nil | refine A0.cons (by repeat (first | exact Pk.here | apply Pk.there)) ?_ | apply A0.drop))) ⟨hleF, by (dsimp only; rw [K1, if_pos (by omega)]; exact hxF), by (dsimp only; omega)⟩
   ·(refine E6 rfl (D2 rfl rfl rfl (by omega) (by unfold maxLen; omega) rfl) rfl rfl ?_; rintro _ ⟨b41, rfl⟩)
    refine A4 1 ?_
    (refine A8f rfl rfl hcl rfl rfl rfl (fun v43 G43 outs43 hle43 h43 => ?_); obtain ⟨hG, p1, c1, rfl, rfl⟩ := h43; replace hG := hG.symm; subst hG)
    replace hr := hr.mono hle43
    replace hr0 := hr0.mono hle43
    replace hty := hty.mono hle43
    replace hfr := hfr.mono hle43
    replace hsl := hsl.mono hle43
    replace hkl := hkl.mono hle43
    replace hx2 := hx2.mono hle43
    refine A4 8 ?_
    (refine R4 rfl rfl rfl rfl rfl rfl (fun _ _ => by repeat (first | exact Sw.here | apply Sw.there)) (O2 (by repeat first | exact mH | apply mT)) rfl (by simp [Value.oneCell']) (by unfold maxLen; omega) (by omega) rfl rfl (by repeat (first | exact A9.nil | apply A9.dep (by decide +kernel) | apply A9.blk (by decide +kernel) (by repeat (first | exact Pk.here | apply Pk.there)) (by repeat first | exact mH | apply mT))) (fun p5 c5 => ?_); refine A4O (cs := esx.flatten ++ [.string nm, .int .i64 tk, .slice pt tks.length ct]) (by repeat (first | exact Pk.here | apply Pk.there)) (fun Gf hleF hslF hnoF => ?_); have hxF := T4.snoc (nm := nm) (t := .mk tk tks) hx1 hx2.len hx2.all hx2.one hx3 hleF ⟨_, _, rfl, hty.mono hleF⟩ hslF)
    refine aP 9 rfl (qA rfl) rfl ?_
    refine aD' ?_
    refine P8 (p5, nc + 1, c5, Gf) (M0 (by repeat (first | exact E7.nil | refine E7.cons rfl ?_)) (by repeat (first | exact A0.refl | exact A0.nil | refine A0.cons (by repeat (first | exact Pk.here | apply Pk.there)) ?_ | apply A0.drop))) ⟨hleF, by (dsimp only; rw [K1, if_pos (by omega)]; exact hxF), by (dsimp only; omega)⟩
  ·refine B7 ?_
   refine P8 (pc, nc, cc, G) (M0 (by repeat (first | exact E7.nil | refine E7.cons rfl ?_)) (by repeat (first | exact A0.refl | exact A0.nil | refine A0.cons (by repeat (first | exact Pk.here | apply Pk.there)) ?_ | apply A0.drop))) ⟨C6.refl _, by (dsimp only; rw [K1, if_neg (by omega)]; exact hx), by (dsimp only; omega)⟩
 ·(rintro ⟨p6, n6, c6, Gx⟩ ⟨hleX, hxX, hn6⟩; simp only [] at hleX hxX hn6 ⊢; replace hsl := hsl.mono hleX; replace hkl := hkl.mono hleX; replace hx := hx.mono hleX; replace hr0 := hr0.mono hleX; replace hty := hty.mono hleX; replace hfr := hfr.mono hleX)
  refine B9 ?_
  refine sE (A8 rfl) rfl (fun b58 => ?_)
  refine A06 ?_
  refine C3 ?_
  (refine U9 28 9 ?_; refine U9 25 2 ?_; refine K2 (fun (x : Nat × (Option Addr × Nat × List Tm × List (List Value)) × (Option Addr × Nat × List Ty × List (List Value)) × Int × IM) => ⟨[(40, .int .i64 x.1), (39, .int .i64 ks.length), (38, .slice q ks.length cq), (11, .slice x.2.2.1.1 x.1 x.2.2.1.2.1), (9, .slice p6 n6 c6), (1, .slice pc nc cc), (0, .pointer (some ⟨bx, 0, none⟩)), (5, .pointer (some ⟨b3, 0, none⟩)), (6, .pointer (some ⟨b4, 0, none⟩)), (7, .pointer (some ⟨b5, 0, none⟩)), (10, .pointer (some ⟨b58, 0, none⟩))], [.blk b58 [.int .i64 k, .string nm, .int .i64 num, .int .i64 tk, .slice pt tks.length ct, .int .i64 fk, .slice pf fks.length cf, .int .i64 lb, .slice x.2.1.1 x.1 x.2.1.2.1], .slc x.2.1.1 x.2.1.2.1 28 9 x.1 x.2.1.2.2.2.flatten, .slc x.2.2.1.1 x.2.2.1.2.1 25 2 x.1 x.2.2.1.2.2.2.flatten, .blk b5 [.int .i64 0, .slice none 0 0], .blk b4 [.int .i64 0, .string ⟨⟨[]⟩⟩, .int .i64 0, .int .i64 0, .slice none 0 0, .int .i64 0, .slice none 0 0, .int .i64 0, .slice none 0 0], .blk b3 [.int .i64 k, .string nm, .int .i64 num, .int .i64 tk, .slice pt tks.length ct, .int .i64 fk, .slice pf fks.length cf, .int .i64 lb, .slice q ks.length cq], .blk bx [.int .i64 x.2.2.2.1]], x.2.2.2.2⟩) (fun x => x.1 ≤ ks.length ∧ C6 Gx x.2.2.2.2 ∧ x.2.1.2.2.1.length = x.1 ∧ E4 x.2.2.2.2 x.2.1.2.2.1 x.2.1.2.2.2 ∧ x.2.2.1.2.2.1.length = x.1 ∧ D5 x.2.2.2.2 x.2.2.1.2.2.1 x.2.2.1.2.2.2 ∧ (∀ t ∈ x.2.2.1.2.2.1, F8 t) ∧ L9 (K1 cx k nm (.mk tk tks)) (ks.take x.1) l0 = some (x.2.1.2.2.1, x.2.2.1.2.2.1, x.2.2.2.1) ∧ l0 ≤ x.2.2.2.1 ∧ x.2.2.2.1 + x.1 ≤ l0 + (E9 (ks.take x.1) : Int)) (fun x => ks.length - x.1) (0, (none, 0, [], []), (none, 0, [], []), l0, Gx) ?_ ?_ ?_)
  ·(simp only [List.take_zero, V4]; exact (M0 (by repeat (first | exact E7.nil | refine E7.cons rfl ?_)) (by repeat (first | exact A0.refl | exact A0.nil | refine A0.cons (by repeat (first | exact Pk.here | apply Pk.there)) ?_ | apply A0.drop))))
  ·(exact ⟨by simp, C6.refl _, rfl, by simp [E4], rfl, by simp [D5], by simp, by simp [L9], Int.le_refl _, by simp [E9]⟩)
  ·(rintro ⟨i, ⟨pn, cn, us, es'⟩, ⟨pm, cm, ts, ess⟩, l, Gi⟩ ⟨hi, hle, hlu, hst, hlt, hstt, hat, hml, hl1, hl2⟩; simp only [] at hi hle hlu hst hlt hstt hat hml hl1 hl2 ⊢; replace hty := hty.mono hle; replace hfr := hfr.mono hle; replace hsl := hsl.mono hle; replace hkl := hkl.mono hle; replace hr0 := hr0.mono hle; replace hx := hx.mono hle; replace hxX := hxX.mono hle)
   refine A5 ?_
   refine sB (J8 rfl rfl) rfl rfl (fun h89 => ?_) (fun h89 => ?_)
   ·refine B5 ?_
    refine C3 ?_
    refine A5 ?_
    (obtain ⟨b, o, e, rfl, hl, hate, hre, hgb⟩ := hsl.kidTm hkl (i := i) (by omega) (by omega); have hon := hre.one; have hsc := A1J (ks := ks) (i := i) (by omega); have hsk := A1I (ks := ks) (i := i) (by omega); refine sP (B6 rfl rfl rfl (by omega)) rfl rfl ?_)
    refine sL (A3 rfl rfl (hate _) hl) rfl rfl ?_
    refine sE (A8 rfl) rfl (fun b102 => ?_)
    refine sS rfl rfl rfl hl hon rfl ?_ (hu := by exact D4 hl.symm)
    refine B0 ?_
    refine sL (A3 rfl rfl (B1 (by repeat first | exact mH | apply mT)) hl) rfl rfl ?_
    (refine I9 rfl (ih ks[i] (List.getElem_mem (by omega)) (d + 1) _ l Gi p6 n6 c6 _ (hvk i (by omega)) (by omega) hcvX hxX hre (by omega) (by omega)) (Pk.perm (by repeat (first | exact Pk.here | apply Pk.there))) rfl rfl (fun v G3 outs hle3 hh => ?_); obtain ⟨u, uc, t, tc, l3, rfl, rfl, hru, hrt, hl3, hl4, hu⟩ := hh; obtain ⟨v1, v2, v3, v4, v5, v6, v7, v8, v9, rfl⟩ := nine hru.len; obtain ⟨p3, c3, e3, rfl, _⟩ := hrt.open; have hlu9 := hru.len; have hou9 := hru.one; rcases hE : M6 (K1 cx k nm (Ty.mk tk tks)) ks[i] l with _ | ⟨u2, t2, l2⟩; rotate_left; have hue := hu _ hE; simp only [Prod.mk.injEq] at hue; obtain ⟨rfl, rfl, rfl⟩ := hue; rotate_left)
    ·refine B7 ?_
     refine sE (A8 rfl) rfl (fun b116 => ?_)
     refine sE (A8 rfl) rfl (fun b117 => ?_)
     refine sS rfl rfl rfl hlu9 hou9 rfl ?_ (hu := by exact D4 hlu9.symm)
     refine A5Y ?_
     refine A2Z (outs := [.blk bx [.int .i64 _]]) (rC rfl (A6 rfl rfl)) (rC rfl (A6 rfl rfl)) (rT rfl) (A0.cons (by repeat (first | exact Pk.here | apply Pk.there)) A0.nil) ?_
     (exact ElP.no (B6F (A6U (by omega) hml hE)) (P5 _) (O3 _ ⟨by omega, by omega⟩) (by omega) (by rw [hck]; omega))
    ·refine B7 ?_
     refine sE (A8 rfl) rfl (fun b153 => ?_)
     refine sE (A8 rfl) rfl (fun b154 => ?_)
     refine sS rfl rfl rfl hlu9 hou9 rfl ?_ (hu := by exact D4 hlu9.symm)
     refine J1 ?_
     refine D8 D9 rfl ?_
     refine I6 (i := 0) (l' := [tt,ff,ff,ff,ff,ff,ff,ff,ff,ff,ff,ff]) rfl D3 (B8 rfl) rfl (by kernel_rfl) rfl rfl ?_
     refine aL 1 rfl (C4 rfl rfl) rfl ?_
     refine aL 2 rfl (A6 rfl rfl) rfl ?_
     refine aP 5 rfl (qM rfl) rfl ?_
     refine aL 6 rfl (A6 rfl rfl) rfl ?_
     refine Q8 (j := 3) (j' := 7) (by kernel_rfl) ?_ ?_
     ·(refine E6 rfl (D2 rfl rfl rfl (by omega) (by unfold maxLen; omega) rfl) rfl rfl ?_; rintro _ ⟨b177, rfl⟩)
      refine Q8 (j := 4) (j' := 7) (by kernel_rfl) ?_ ?_
      ·(refine R4 rfl rfl rfl rfl rfl rfl (fun _ _ => by repeat (first | exact Sw.here | apply Sw.there)) (O2 (by repeat first | exact mH | apply mT)) rfl (fun u hu => List.all_eq_true.1 hou9 u hu) (by unfold maxLen; omega) (by omega) rfl rfl (by repeat (first | exact A9.nil | apply A9.dep (by decide +kernel) | apply A9.im (by decide +kernel) (by assumption) (by repeat first | exact mH | apply mT) | apply A9.blk (by decide +kernel) (by repeat (first | exact Pk.here | apply Pk.there)) (by repeat first | exact mH | apply mT) | apply A9.slc (by decide +kernel) (by repeat (first | exact Pk.here | apply Pk.there)) (by repeat first | exact mH | apply mT))) (fun pn' cn' => ?_))
       refine aP 9 rfl (B8 rfl) rfl ?_
       refine A4 7 ?_
       (refine E6 rfl (D2 rfl rfl rfl (by omega) (by unfold maxLen; omega) rfl) rfl rfl ?_; rintro _ ⟨b182, rfl⟩)
       refine A4 8 ?_
       (refine R4 rfl rfl rfl rfl rfl rfl (fun _ _ => by repeat (first | exact Sw.here | apply Sw.there)) (O2 (by repeat first | exact mH | apply mT)) rfl (by simp [Value.oneCell']) (by unfold maxLen; omega) (by omega) rfl rfl (by repeat (first | exact A9.nil | apply A9.dep (by decide +kernel) | apply A9.im (by decide +kernel) (by assumption) (by repeat first | exact mH | apply mT) | apply A9.blk (by decide +kernel) (by repeat (first | exact Pk.here | apply Pk.there)) (by repeat first | exact mH | apply mT) | apply A9.slc (by decide +kernel) (by repeat (first | exact Pk.here | apply Pk.there)) (by repeat first | exact mH | apply mT))) (fun pm' cm' => ?_))
       refine A4 10 ?_
       refine oS rfl rfl rfl rfl rfl rfl rfl rfl ?_
       refine aP 11 rfl (qA rfl) rfl ?_
       refine B7 ?_
       refine sP (J6 rfl rfl (by omega) (by omega)) rfl rfl ?_
       refine A5 ?_
       refine K3 (i + 1, (pn', cn', us ++ [u2], es' ++ [[v1, v2, v3, v4, v5, v6, v7, v8, v9]]), (pm', cm', ts ++ [t2], ess ++ [[.int .i64 t2.k, .slice p3 t2.ks.length c3]]), l2, G3) ?_ ?_ ?_
       ·(simp only [J9]; exact E2)
       ·(dsimp only; exact ⟨by omega, hle.trans hle3, by simp [hlu], E4.snoc (hst.mono hle3) hru, by simp [hlt], D5.snoc (hstt.mono hle3) hrt, A3k hat (A2n ((A3u ks[i] (d + 1) _ l (hvk i (by omega)) hcvX).1 _ _ _ hE).2), A4h (by omega) hml hE, by omega, by omega⟩)
       ·(show ks.length - (i + 1) < ks.length - i; omega)
      ·(refine E6 rfl (D2 rfl rfl rfl (by omega) (by unfold maxLen; omega) rfl) rfl rfl ?_; rintro _ ⟨b199, rfl⟩)
       refine A4 4 ?_
       (refine R4 rfl rfl rfl rfl rfl rfl (fun _ _ => by repeat (first | exact Sw.here | apply Sw.there)) (O2 (by repeat first | exact mH | apply mT)) rfl (fun u hu => List.all_eq_true.1 hou9 u hu) (by unfold maxLen; omega) (by omega) rfl rfl (by repeat (first | exact A9.nil | apply A9.dep (by decide +kernel) | apply A9.im (by decide +kernel) (by assumption) (by repeat first | exact mH | apply mT) | apply A9.blk (by decide +kernel) (by repeat (first | exact Pk.here | apply Pk.there)) (by repeat first | exact mH | apply mT) | apply A9.slc (by decide +kernel) (by repeat (first | exact Pk.here | apply Pk.there)) (by repeat first | exact mH | apply mT))) (fun pn' cn' => ?_))
       refine aP 9 rfl (B8 rfl) rfl ?_
       refine A4 8 ?_
       (refine R4 rfl rfl rfl rfl rfl rfl (fun _ _ => by repeat (first | exact Sw.here | apply Sw.there)) (O2 (by repeat first | exact mH | apply mT)) rfl (by simp [Value.oneCell']) (by unfold maxLen; omega) (by omega) rfl rfl (by repeat (first | exact A9.nil | apply A9.dep (by decide +kernel) | apply A9.im (by decide +kernel) (by assumption) (by repeat first | exact mH | apply mT) | apply A9.blk (by decide +kernel) (by repeat (first | exact Pk.here | apply Pk.there)) (by repeat first | exact mH | apply mT) | apply A9.slc (by decide +kernel) (by repeat (first | exact Pk.here | apply Pk.there)) (by repeat first | exact mH | apply mT))) (fun pm' cm' => ?_))
       refine A4 10 ?_
       refine oS rfl rfl rfl rfl rfl rfl rfl rfl ?_
       refine aP 11 rfl (qA rfl) rfl ?_
       refine B7 ?_
       refine sP (J6 rfl rfl (by omega) (by omega)) rfl rfl ?_
       refine A5 ?_
       refine K3 (i + 1, (pn', cn', us ++ [u2], es' ++ [[v1, v2, v3, v4, v5, v6, v7, v8, v9]]), (pm', cm', ts ++ [t2], ess ++ [[.int .i64 t2.k, .slice p3 t2.ks.length c3]]), l2, G3) ?_ ?_ ?_
       ·(simp only [J9]; exact E2)
       ·(dsimp only; exact ⟨by omega, hle.trans hle3, by simp [hlu], E4.snoc (hst.mono hle3) hru, by simp [hlt], D5.snoc (hstt.mono hle3) hrt, A3k hat (A2n ((A3u ks[i] (d + 1) _ l (hvk i (by omega)) hcvX).1 _ _ _ hE).2), A4h (by omega) hml hE, by omega, by omega⟩)
       ·(show ks.length - (i + 1) < ks.length - i; omega)
     ·(refine E6 rfl (D2 rfl rfl rfl (by omega) (by unfold maxLen; omega) rfl) rfl rfl ?_; rintro _ ⟨b219, rfl⟩)
      refine A4 3 ?_
      (refine E6 rfl (D2 rfl rfl rfl (by omega) (by unfold maxLen; omega) rfl) rfl rfl ?_; rintro _ ⟨b221, rfl⟩)
      refine A4 4 ?_
      (refine R4 rfl rfl rfl rfl rfl rfl (fun _ _ => by repeat (first | exact Sw.here | apply Sw.there)) (O2 (by repeat first | exact mH | apply mT)) rfl (fun u hu => List.all_eq_true.1 hou9 u hu) (by unfold maxLen; omega) (by omega) rfl rfl (by repeat (first | exact A9.nil | apply A9.dep (by decide +kernel) | apply A9.im (by decide +kernel) (by assumption) (by repeat first | exact mH | apply mT) | apply A9.blk (by decide +kernel) (by repeat (first | exact Pk.here | apply Pk.there)) (by repeat first | exact mH | apply mT) | apply A9.slc (by decide +kernel) (by repeat (first | exact Pk.here | apply Pk.there)) (by repeat first | exact mH | apply mT))) (fun pn' cn' => ?_))
      refine aP 9 rfl (B8 rfl) rfl ?_
      refine A4 8 ?_
      (refine R4 rfl rfl rfl rfl rfl rfl (fun _ _ => by repeat (first | exact Sw.here | apply Sw.there)) (O2 (by repeat first | exact mH | apply mT)) rfl (by simp [Value.oneCell']) (by unfold maxLen; omega) (by omega) rfl rfl (by repeat (first | exact A9.nil | apply A9.dep (by decide +kernel) | apply A9.im (by decide +kernel) (by assumption) (by repeat first | exact mH | apply mT) | apply A9.blk (by decide +kernel) (by repeat (first | exact Pk.here | apply Pk.there)) (by repeat first | exact mH | apply mT) | apply A9.slc (by decide +kernel) (by repeat (first | exact Pk.here | apply Pk.there)) (by repeat first | exact mH | apply mT))) (fun pm' cm' => ?_))
      refine A4 10 ?_
      refine oS rfl rfl rfl rfl rfl rfl rfl rfl ?_
      refine aP 11 rfl (qA rfl) rfl ?_
      refine B7 ?_
      refine sP (J6 rfl rfl (by omega) (by omega)) rfl rfl ?_
      refine A5 ?_
      refine K3 (i + 1, (pn', cn', us ++ [u2], es' ++ [[v1, v2, v3, v4, v5, v6, v7, v8, v9]]), (pm', cm', ts ++ [t2], ess ++ [[.int .i64 t2.k, .slice p3 t2.ks.length c3]]), l2, G3) ?_ ?_ ?_
      ·(simp only [J9]; exact E2)
      ·(dsimp only; exact ⟨by omega, hle.trans hle3, by simp [hlu], E4.snoc (hst.mono hle3) hru, by simp [hlt], D5.snoc (hstt.mono hle3) hrt, A3k hat (A2n ((A3u ks[i] (d + 1) _ l (hvk i (by omega)) hcvX).1 _ _ _ hE).2), A4h (by omega) hml hE, by omega, by omega⟩)
      ·(show ks.length - (i + 1) < ks.length - i; omega)
   ·refine J1 ?_
    (obtain rfl : i = ks.length := (by omega); have hk14 : k ≠ 14 := hv2; rw [List.take_length] at hml hl2; refine V0 (cs := ess.flatten) (by repeat (first | exact Pk.here | apply Pk.there)) (fun G3 hle3 hsl3 hno3 => ?_); have hst3 := hstt.mono hle3; have hslU : E0 G3 pm ks.length cm 2 ess := E0.of hsl3 (by rw [hst3.len, hlt]) hst3.all (fun e he => (hst3.each e he).2); refine E5 rfl (B4O cx k nm num (.mk tk tks) (.mk fk fks) lb ks ts G3 pc nc cc _ pm ks.length cm ess (hx.mono hle3) har hlt.symm hk14 hta (hr0.mono hle3) hslU hst3 hat) rfl rfl (fun v G4 hle4 hh => ?_); obtain ⟨pw, nw, cw, ew, w, wc, wt, rfl, hnw, hslw, hstw, hrt, hw⟩ := hh; obtain ⟨p3, c3, e3, rfl, _⟩ := hrt.open; replace hst3 := hst3.mono hle4; replace hslU := hslU.mono hle4; have hle34 := hle3.trans hle4; replace hst := hst.mono hle34; replace hty := hty.mono hle34; replace hfr := hfr.mono hle34; rcases hmw : J7 cx k nm (Ty.mk tk tks) ts with _ | ⟨w2, t2⟩; rotate_left; have hwe := hw _ hmw; simp only [Prod.mk.injEq] at hwe; obtain ⟨rfl, rfl⟩ := hwe; have hwl := B4Q (by rw [hlt]; exact hop) hkr hk14 hmw; have hcl2 := A1p us ts w2 l; rcases Nat.eq_zero_or_pos ks.length with h0 | h0; rotate_left; rotate_left)
    ·refine B7 ?_
     refine sE (A8 rfl) rfl (fun b260 => ?_)
     refine A3R ?_
     (refine H3 (cs := es'.flatten) (by repeat (first | exact Pk.here | apply Pk.there)) (fun G8 hle8 hsl8 hno8 => ?_); have hst8 := hst.mono hle8)
     refine A5 ?_
     refine A2Z (outs := [.blk bx [.int .i64 _]]) (rC rfl (A6 rfl rfl)) (rC rfl (A6 rfl rfl)) (rT rfl) (A0.cons (by repeat (first | exact Pk.here | apply Pk.there)) A0.nil) ?_
     (exact ElP.no (B1j hml (B4S hmw)) (P5 _) (O3 _ ⟨by omega, by omega⟩) (by omega) (by rw [hck]; omega))
    ·refine B7 ?_
     refine sE (A8 rfl) rfl (fun b297 => ?_)
     refine N5 ?_
     refine E8 rfl ((A3Y _ _ _ hrt)) rfl rfl (fun h310 => ?_) (fun h310 => ?_)
     ·refine H6 ?_
      refine C3 ?_
      (have h0' : ks.length = 0 := h0; refine K2 (fun (_ : Nat) => ⟨[(86, .int .i64 0), (85, .int .i64 nw), (84, .slice pw nw cw), (11, .slice pm ks.length cm), (1, .slice pc nc cc), (0, .pointer (some ⟨bx, 0, none⟩)), (5, .pointer (some ⟨b3, 0, none⟩)), (6, .pointer (some ⟨b4, 0, none⟩)), (7, .pointer (some ⟨b5, 0, none⟩)), (10, .pointer (some ⟨b58, 0, none⟩)), (18, .pointer (some ⟨b297, 0, none⟩))], [.blk b297 [.int .i64 t2.k, .slice p3 t2.ks.length c3], .blk b58 [.int .i64 k, .string nm, .int .i64 num, .int .i64 tk, .slice pt tks.length ct, .int .i64 fk, .slice pf fks.length cf, .int .i64 lb, .slice pn ks.length cn], .slc pn cn 28 9 ks.length es'.flatten, .blk b5 [.int .i64 0, .slice none 0 0], .blk b4 [.int .i64 0, .string ⟨⟨[]⟩⟩, .int .i64 0, .int .i64 0, .slice none 0 0, .int .i64 0, .slice none 0 0, .int .i64 0, .slice none 0 0], .blk b3 [.int .i64 k, .string nm, .int .i64 num, .int .i64 tk, .slice pt tks.length ct, .int .i64 fk, .slice pf fks.length cf, .int .i64 lb, .slice q ks.length cq], .blk bx [.int .i64 l]], G4⟩) (fun _ => True) (fun i => i) 0 ?_ ?_ ?_)
      ·exact E2
      ·trivial
      ·(rintro (i0 : Nat) _)
       refine A5 ?_
       refine sP (A2t rfl rfl (by omega)) rfl rfl ?_
       refine J1 ?_
       refine sP (I7 rfl rfl (by omega)) rfl rfl ?_
       refine B0 ?_
       refine D8 D9 rfl ?_
       refine L3 (i := 0) (l' := [tt,ff,ff,ff,ff]) rfl D3 (A6 rfl rfl) rfl (by kernel_rfl) rfl rfl ?_
       refine aL 1 rfl (A6 rfl rfl) rfl ?_
       refine A4 2 ?_
       refine oS rfl rfl rfl rfl rfl rfl rfl rfl ?_
       refine A4 3 ?_
       refine oS rfl rfl rfl rfl rfl rfl rfl rfl ?_
       refine aP 4 rfl (qA rfl) rfl ?_
       refine A5 ?_
       (refine H3 (cs := es'.flatten) (by repeat (first | exact Pk.here | apply Pk.there)) (fun G8 hle8 hsl8 hno8 => ?_); have hst8 := hst.mono hle8)
       refine tT ?_
       refine A2Z (outs := [.blk bx [.int .i64 _]]) (rC rfl (A6 rfl rfl)) (rC rfl (A6 rfl rfl)) (rT rfl) (A0.cons (by repeat (first | exact Pk.here | apply Pk.there)) A0.nil) ?_
       (obtain rfl : w2 = [] := List.length_eq_zero_iff.1 (by omega); have hne : k ≠ 13 := (fun h => by have := hop.2.2 (.inr (.inr (.inr h))); omega); have hel := B1k (num := num) (fr := .mk fk fks) (lb := lb) hml (A5j hmw (b := true) (by assumption)) hne; rw [V4] at hel; exact ElP.yes hel (B3.put hk hnum hlb (hty.mono hle8) (hfr.mono hle8) (by rw [hlu]) (E0.of hsl8 (by rw [hst8.len, hlu]) hst8.all (fun e he => (hst8.each e he).2)) hst8) (hrt.mono hle8) (by omega) (by rw [hck]; omega))
     ·refine J1 ?_
      (refine H3 (cs := es'.flatten) (by repeat (first | exact Pk.here | apply Pk.there)) (fun G8 hle8 hsl8 hno8 => ?_); have hst8 := hst.mono hle8)
      refine A5 ?_
      refine A2Z (outs := [.blk bx [.int .i64 _]]) (rC rfl (A6 rfl rfl)) (rC rfl (A6 rfl rfl)) (rT rfl) (A0.cons (by repeat (first | exact Pk.here | apply Pk.there)) A0.nil) ?_
      exact B1m
    ·(refine A38 (cs := es'.flatten) (by repeat (first | exact Pk.here | apply Pk.there)) h0 (fun bc C hpe hnc hcm => ?_); subst hpe; refine sQ (qM rfl) rfl ?_)
     refine B9 ?_
     refine sE (A8 rfl) rfl (fun b392 => ?_)
     refine N5 ?_
     refine E8 rfl ((A3Y _ _ _ hrt)) rfl rfl (fun h405 => ?_) (fun h405 => ?_)
     ·refine H6 ?_
      refine C3 ?_
      (have h0' := h0; refine K2 (fun (x : Nat × List (List Value) × IM) => ⟨[(86, .int .i64 x.1), (85, .int .i64 nw), (84, .slice pw nw cw), (11, .slice pm ks.length cm), (1, .slice pc nc cc), (0, .pointer (some ⟨bx, 0, none⟩)), (5, .pointer (some ⟨b3, 0, none⟩)), (6, .pointer (some ⟨b4, 0, none⟩)), (7, .pointer (some ⟨b5, 0, none⟩)), (10, .pointer (some ⟨b58, 0, none⟩)), (18, .pointer (some ⟨b392, 0, none⟩))], [.blk b392 [.int .i64 t2.k, .slice p3 t2.ks.length c3], .blk b58 [.int .i64 k, .string nm, .int .i64 num, .int .i64 tk, .slice pt tks.length ct, .int .i64 fk, .slice pf fks.length cf, .int .i64 lb, .slice (some ⟨bc, 0, none⟩) ks.length cn], .blk bc (x.2.1.flatten ++ C), .blk b5 [.int .i64 0, .slice none 0 0], .blk b4 [.int .i64 0, .string ⟨⟨[]⟩⟩, .int .i64 0, .int .i64 0, .slice none 0 0, .int .i64 0, .slice none 0 0, .int .i64 0, .slice none 0 0], .blk b3 [.int .i64 k, .string nm, .int .i64 num, .int .i64 tk, .slice pt tks.length ct, .int .i64 fk, .slice pf fks.length cf, .int .i64 lb, .slice q ks.length cq], .blk bx [.int .i64 (H2 us ts (w2.take x.1) l).2]], x.2.2⟩) (fun x => x.1 ≤ nw ∧ C6 G4 x.2.2 ∧ E4 x.2.2 (H2 us ts (w2.take x.1) l).1 x.2.1) (fun x => nw - x.1) (0, es', G4) ?_ ?_ ?_)
      ·(simp only [List.take_zero, V4]; exact (M0 (by repeat (first | exact E7.nil | refine E7.cons rfl ?_)) (by repeat (first | exact A0.refl | exact A0.nil | refine A0.cons (by repeat (first | exact Pk.here | apply Pk.there)) ?_ | apply A0.drop))))
      ·(exact ⟨Nat.zero_le _, C6.refl _, by simp only [List.take_zero, V4]; exact hst⟩)
      ·(rintro ⟨j, es2, G6⟩ ⟨hj, hle6, hst2⟩; simp only [] at hj hle6 hst2 ⊢; replace hslw := hslw.mono hle6; replace hstw := hstw.mono hle6; replace hslU := hslU.mono hle6; replace hst3 := hst3.mono hle6; replace hty := hty.mono hle6; replace hfr := hfr.mono hle6; replace hrt := hrt.mono hle6; have hall2 := hst2.all; have hle2s := hst2.len; rw [A1W] at hle2s)
       refine A5 ?_
       refine sB (J8 rfl rfl) rfl rfl (fun h428 => ?_) (fun h428 => ?_)
       ·refine B5 ?_
        refine C3 ?_
        refine B9 ?_
        (have hjw : j < w2.length := (by omega); obtain ⟨b5w, o5w, q5, d5, hp5, hat, hrw, hgb⟩ := hslw.kidTy hstw (i := j) (by omega) (by omega); cases hp5; refine sP (B6 rfl rfl rfl (by omega)) rfl rfl ?_)
        refine sL (A3 rfl rfl (hat _) rfl) rfl rfl ?_
        refine sE (A8 rfl) rfl (fun b442 => ?_)
        refine B7 ?_
        (have hjw2 := hjw; obtain ⟨b0, o0, q0, d0, hp0, hat0, hre0, hg0⟩ := hslU.kidTy hst3 (i := j) (by omega) (by omega); cases hp0; obtain ⟨m1, m2, _⟩ := A4i us ts w2 l j hjw (by omega) (by omega); obtain ⟨m3, m4⟩ := B0n (us := us) (h := ts) (w := w2) (l := l) hjw (by omega) (by omega); obtain ⟨hE1, hE2⟩ := hst2.at2 (i := j) (by omega) (by omega); rw [m2] at hE2; have hE3 := hE2.len; have hE4 := hE2.one; have hcj := A1p us ts (w2.take j) l; refine D8 D9 rfl ?_)
        refine I6 (i := 0) (l' := [tt,ff,ff,ff,ff,ff,ff,ff,ff,ff,ff,ff,ff,ff,ff,ff,ff]) rfl D3 (B8 rfl) rfl (by kernel_rfl) rfl rfl ?_
        refine aL 1 rfl (C4 rfl rfl) rfl ?_
        refine aP 2 rfl (qM rfl) rfl ?_
        refine aP 3 rfl (qM rfl) rfl ?_
        refine aP 4 rfl (B8 rfl) rfl ?_
        refine aL 5 rfl (C4 rfl rfl) rfl ?_
        refine aP 6 rfl (qM rfl) rfl ?_
        refine aP 7 rfl (B6 (j := j) rfl rfl rfl (by omega)) rfl ?_
        refine aL 8 rfl (A3 rfl rfl (A5d (es := es2) (by repeat first | exact mH | apply mT) (by omega) hall2) hE3) rfl ?_
        refine aP 9 rfl (qM rfl) rfl ?_
        refine aP 10 rfl (qM rfl) rfl ?_
        refine aP 11 rfl (B6 (j := j) rfl rfl rfl (by omega)) rfl ?_
        refine aL 12 rfl (A3 rfl rfl (hat0 _) rfl) rfl ?_
        refine aL 13 rfl (A6 rfl rfl) rfl ?_
        refine A4 14 ?_
        (refine X8 (l' := [tt,tt,tt,tt,tt,tt,tt,tt,tt,tt,tt,tt,tt,tt,tt,ff,ff]) rfl rfl (B6E bx us[j] ts[j] w2[j] (H2 us ts (w2.take j) l).2 G6 _ _ _ (by omega) hE2 hre0 hrw) (Pk.perm (by repeat (first | exact Pk.here | apply Pk.there))) rfl rfl rfl (by repeat (first | exact A9.nil | apply A9.dep (by decide +kernel) | apply A9.im (by decide +kernel) (by assumption) (by repeat first | exact mH | apply mT) | apply A9.blk (by decide +kernel) (by repeat (first | exact Pk.here | apply Pk.there)) (by repeat first | exact mH | apply mT) | apply A9.slc (by decide +kernel) (by repeat (first | exact Pk.here | apply Pk.there)) (by repeat first | exact mH | apply mT))) (fun v G7 outs hle7 hh => ?_); obtain ⟨uc, rfl, rfl, hru⟩ := hh; rw [← m4]; have hlu9 := hru.len; have hou9 := hru.one)
        refine aP 15 rfl (B6 (j := j) rfl rfl rfl (by omega)) rfl ?_
        refine A4 16 ?_
        refine R9 rfl rfl rfl rfl hlu9 hou9 rfl rfl (by kernel_rfl) (by repeat first | exact Sw.here | apply Sw.there) (by exact A39 (by omega) hall2 hlu9) ?_
        refine B7 ?_
        refine sP (J6 rfl rfl (by omega) (by omega)) rfl rfl ?_
        refine A5 ?_
        refine K3 (j + 1, es2.set j uc, G7) ?_ ?_ ?_
        ·(simp only [List.take_zero, V4]; exact (M0 (by repeat (first | exact E7.nil | refine E7.cons rfl ?_)) (by repeat (first | exact A0.refl | exact A0.nil | refine A0.cons (by repeat (first | exact Pk.here | apply Pk.there)) ?_ | apply A0.drop))))
        ·(dsimp only; exact ⟨by omega, hle6.trans hle7, by rw [m3]; exact E4.set (hst2.mono hle7) hru⟩)
        ·(show nw - (j + 1) < nw - j; omega)
       ·refine J1 ?_
        refine sB (qE rfl rfl) rfl rfl (fun h492 => ?_) (fun h492 => ?_)
        ·refine B7 ?_
         (have hq13 : k = 13 := (by omega); have hl13 := hop.2.2 (.inr (.inr (.inr hq13))); have hjw : j = w2.length := (by omega); rw [hjw, List.take_length] at hst2; have hm0 := A1W us ts w2 l; obtain ⟨hE1, hE2⟩ := hst2.at2 (i := 0) (by omega) (by omega); have hE3 := hE2.len; have hE4 := hE2.one; refine D8 D9 rfl ?_)
         refine I6 (i := 0) (l' := [tt,ff,ff,ff,ff,ff,ff,ff]) rfl D3 (B8 rfl) rfl (by kernel_rfl) rfl rfl ?_
         refine aL 1 rfl (C4 rfl rfl) rfl ?_
         refine aP 2 rfl (B6 (j := 0) rfl rfl rfl (by omega)) rfl ?_
         refine aL 3 rfl (A3 rfl rfl (A5d (es := es2) (by repeat first | exact mH | apply mT) (by omega) hall2) hE3) rfl ?_
         refine aL 4 rfl (A6 rfl rfl) rfl ?_
         refine A4 5 ?_
         refine oS rfl rfl rfl rfl hE3 hE4 rfl rfl ?_ (hu := by exact D4 hE3.symm)
         refine A4 6 ?_
         refine oS rfl rfl rfl rfl rfl rfl rfl rfl ?_
         refine aP 7 rfl (qA rfl) rfl ?_
         refine A5 ?_
         (refine A2y (bs := [(bc, es2.flatten ++ C)]) (Pk.perm (by repeat (first | exact Pk.here | apply Pk.there))) (fun hn9 hd9 hle9 => ?_))
         refine A5 ?_
         refine A2Z (outs := [.blk bx [.int .i64 _]]) (rC rfl (A3 rfl rfl (B1 (by repeat first | exact mH | apply mT)) hE3)) (rC rfl (A6 rfl rfl)) (rT rfl) (A0.cons (by repeat (first | exact Pk.here | apply Pk.there)) A0.nil) ?_
         (have hel := B6G (num := num) (fr := .mk fk fks) (lb := lb) hml (A5j hmw (b := true) (by assumption)) hq13; rw [B1l (by omega)] at hel; rw [hjw, List.take_length]; exact ElP.yes hel (hE2.mono hle9) (hrt.mono hle9) (by omega) (by rw [hck]; omega))
        ·refine B0 ?_
         refine D8 D9 rfl ?_
         refine L3 (i := 0) (l' := [tt,ff,ff,ff,ff]) rfl D3 (A6 rfl rfl) rfl (by kernel_rfl) rfl rfl ?_
         refine aL 1 rfl (A6 rfl rfl) rfl ?_
         refine A4 2 ?_
         refine oS rfl rfl rfl rfl rfl rfl rfl rfl ?_
         refine A4 3 ?_
         refine oS rfl rfl rfl rfl rfl rfl rfl rfl ?_
         refine aP 4 rfl (qA rfl) rfl ?_
         refine A5 ?_
         (refine A2y (bs := [(bc, es2.flatten ++ C)]) (Pk.perm (by repeat (first | exact Pk.here | apply Pk.there))) (fun hn9 hd9 hle9 => ?_))
         refine tT ?_
         refine A2Z (outs := [.blk bx [.int .i64 _]]) (rC rfl (A6 rfl rfl)) (rC rfl (A6 rfl rfl)) (rT rfl) (A0.cons (by repeat (first | exact Pk.here | apply Pk.there)) A0.nil) ?_
         (have hjw : j = w2.length := (by omega); rw [hjw, List.take_length] at hst2; have hst9 := hst2.mono hle9; have hel := B1k (num := num) (fr := .mk fk fks) (lb := lb) hml (A5j hmw (b := true) (by assumption)) (show k ≠ 13 by omega); rw [hjw, List.take_length]; have hm0 := A1W us ts w2 l; exact ElP.yes hel (B3.put hk hnum hlb (hty.mono hle9) (hfr.mono hle9) (by rw [hm0, hlu]) (E0.of (Sl.of_blk (A := []) (by rw [A0T hst9.all, hst9.len, hm0, hlu]) (by omega) hcm (Wi.in hn9 List.mem_cons_self)) (by rw [hst9.len, hm0, hlu]) hst9.all (fun e he => (hst9.each e he).2)) hst9) (hrt.mono hle9) (by omega) (by rw [hck]; omega))
     ·refine K4 ?_
      refine A2Z (outs := [.blk bx [.int .i64 _]]) (rC rfl (A6 rfl rfl)) (rC rfl (A6 rfl rfl)) (rT rfl) (A0.cons (by repeat (first | exact Pk.here | apply Pk.there)) A0.nil) ?_
      exact B1m
def A1f (r : Option (Tm × Ty)) : IM → Value → List A7 → Prop := M3 fun G' v => ∃ cu ct, v = .tuple ⟨[.agg ⟨cu⟩, .agg ⟨ct⟩, .bool r.isSome]⟩ ∧ B3 G' (r.getD (I3, B4)).1 cu ∧ C1 G' (r.getD (I3, B4)).2 ct
theorem A1f.no {G : IM} {r : Option (Tm × Ty)} {cu ct : List Value} (h : r = none) (hu : B3 G I3 cu) (ht : C1 G B4 ct) : A1f r G (.tuple ⟨[.agg ⟨cu⟩, .agg ⟨ct⟩, .bool false]⟩) [] := by subst h; exact ⟨rfl, cu, ct, rfl, hu, ht⟩
theorem A1f.yes {G : IM} {r : Option (Tm × Ty)} {u : Tm} {t : Ty} {cu ct : List Value} (h : r = some (u, t)) (hu : B3 G u cu) (ht : C1 G t ct) : A1f r G (.tuple ⟨[.agg ⟨cu⟩, .agg ⟨ct⟩, .bool true]⟩) [] := by subst h; exact ⟨rfl, cu, ct, rfl, hu, ht⟩
theorem B1o {e : Tm} (h : S9 e = false) : T7 e = none := by unfold T7; rw [if_neg (by rw [h]; decide)]
theorem A7m {e : Tm} (h : S9 e = true) (h2 : M6 [] e 0 = none) : T7 e = none := by unfold T7; rw [if_pos h, h2]
theorem A7n {e u : Tm} {t : Ty} {l : Int} (h : S9 e = true) (h2 : M6 [] e 0 = some (u, t, l)) : T7 e = some (u, t) := by unfold T7; rw [if_pos h, h2]
theorem B6H (e : Tm) (G : IM) (cells : List Value) (hr : B3 G e cells) : Fn Tryz.prog 43 [.agg ⟨cells⟩] [] G (A1f (T7 e)) := by
 have hRl := hr.len
 have hRo := hr.one
 have hV := A42 e G cells hr
 have hno := @B1o e
 have hnn := @A7m e
 have hso := @A7n e
 refine C2 Tryz.func43 rfl Tryz.ntmps43 Tryz.results43 rfl ?_
 intro w0
 refine A5 ?_
 refine sE (C7 rfl rfl) rfl (fun b3 => ?_)
 refine sE (A8 rfl) rfl (fun b4 => ?_)
 refine sE (A8 rfl) rfl (fun b5 => ?_)
 refine B0 ?_
 refine sL (A3 rfl rfl (B1 (by repeat first | exact mH | apply mT)) hRl) rfl rfl ?_
 refine E8 rfl (hV) rfl rfl (fun h13 => ?_) (fun h13 => ?_)
 refine E1 ?_
 refine sE (C7 rfl rfl) rfl (fun b23 => ?_)
 refine sL (A3 rfl rfl (B1 (by repeat first | exact mH | apply mT)) hRl) rfl rfl ?_
 focus (have htv : S9 e = true := (by assumption); obtain ⟨hsh, hcn⟩ := (A0L e).1 htv; refine I9 rfl (B1n _ e 1 [] 0 G none 0 0 _ hsh (by omega) A3t (T4.nil G) hr (by omega) (by omega)) (Pk.perm (by repeat (first | exact Pk.here | apply Pk.there))) rfl rfl (fun v G1 outs hle1 hh => ?_); obtain ⟨u, uc, t, tc, l3, rfl, rfl, hru, hrt, hl3, hl4, hu⟩ := hh; have hul := hru.len; have huo := hru.one; obtain ⟨p3, c3, e3, rfl, _⟩ := hrt.open; have hnn := hnn htv; have hso := @hso u t l3 htv; rcases hE : M6 [] e 0 with _ | ⟨u2, t2, l2⟩; rotate_left; have hue := hu _ hE; simp only [Prod.mk.injEq] at hue; obtain ⟨rfl, rfl, rfl⟩ := hue; have hso := hso hE; obtain ⟨hg1, hg2, hg3⟩ := A4u hso; rotate_left; simp only [Option.isSome]; rotate_left; simp only [Option.isSome])
 refine B7 ?_
 refine sE (A8 rfl) rfl (fun b30 => ?_)
 refine sE (A8 rfl) rfl (fun b31 => ?_)
 refine sS rfl rfl rfl hul huo rfl ?_ (hu := by exact D4 hul.symm)
 refine H6 ?_
 refine D8 D9 rfl ?_
 refine L3 (i := 0) (l' := [tt,ff,ff,ff,ff,ff,ff]) rfl D3 (A3 rfl rfl (B1 (by repeat first | exact mH | apply mT)) hul) rfl (by kernel_rfl) rfl rfl ?_
 refine aL 2 rfl (A6 rfl rfl) rfl ?_
 refine A4 1 ?_
 (refine H4 rfl rfl (A6t _ _ _ (A5w hg1) hru) rfl rfl rfl (fun v G2 hle2 hh => ?_); obtain ⟨cs2, F2, rfl, hs2, hn2⟩ := hh; have hwl := hs2.R.len; have hwo := hs2.R.one; have hr2 := hs2.R.mono (C9.le G2 G1); replace hrt := hrt.mono hle2)
 refine A4 3 ?_
 (refine H4 rfl rfl (A2F _ _ _ (A2n hg3).small hrt) rfl rfl rfl (fun v G3 hle3 hh => ?_); obtain ⟨cs3, F3, rfl, hs3, hn3⟩ := hh; obtain ⟨p4, c4, rfl, _⟩ := hs3.open; have hr3 := hs3.R.mono (C9.le G3 G2); replace hr2 := hr2.mono hle3)
 refine A4 4 ?_
 refine oS rfl rfl rfl rfl hwl hwo rfl rfl ?_ (hu := by exact D4 hwl.symm)
 refine A4 5 ?_
 refine oS rfl rfl rfl rfl rfl rfl rfl rfl ?_
 refine aP 6 rfl (qA rfl) rfl ?_
 refine B9 ?_
 refine D1 (rC rfl (A3 rfl rfl (B1 (by repeat first | exact mH | apply mT)) hwl)) (rC rfl (A6 rfl rfl)) (rT rfl) ?_
 (exact A1f.yes hso hr2 hr3)
 refine B7 ?_
 refine sE (A8 rfl) rfl (fun b69 => ?_)
 refine sE (A8 rfl) rfl (fun b70 => ?_)
 refine sS rfl rfl rfl hul huo rfl ?_ (hu := by exact D4 hul.symm)
 refine A06 ?_
 refine D1 (rC rfl (A6 rfl rfl)) (rC rfl (A6 rfl rfl)) (rT rfl) ?_
 (exact A1f.no (hnn hE) (P5 _) (O3 _ ⟨by omega, by omega⟩))
 refine H6 ?_
 refine D1 (rC rfl (A6 rfl rfl)) (rC rfl (A6 rfl rfl)) (rT rfl) ?_
 (exact A1f.no (hno (by assumption)) (P5 _) (O3 _ ⟨by omega, by omega⟩))
def P1 (e : Tm) : Option Ty := match T7 e with | some (_, t) => some t | none => none
theorem B6I (e : Tm) (G : IM) (cells : List Value) (htv : S9 e = true) (hr : B3 G e cells) : Fn Tryz.prog 134 [.slice none 0 0, .agg ⟨cells⟩] [] G (Y4 (P1 e) G) := by
 have hRl := hr.len
 have hRo := hr.one
 have hnn := @A7m e htv
 have hso := fun u t l => @A7n e u t l htv
 obtain ⟨hsh, hcn⟩ := (A0L e).1 htv
 refine C2 Tryz.func134 rfl Tryz.ntmps134 Tryz.results134 rfl ?_
 intro w0
 refine A5 ?_
 refine sE (C7 rfl rfl) rfl (fun b3 => ?_)
 refine sE (A8 rfl) rfl (fun b4 => ?_)
 refine B0 ?_
 refine sE (C7 rfl rfl) rfl (fun b11 => ?_)
 refine F0 ?_
 refine sL (A3 rfl rfl (B1 (by repeat first | exact mH | apply mT)) hRl) rfl rfl ?_
 focus (refine I9 rfl (B1n _ e 1 [] 0 G none 0 0 _ hsh (by omega) A3t (T4.nil G) hr (by omega) (by omega)) (Pk.perm (by repeat (first | exact Pk.here | apply Pk.there))) rfl rfl (fun v G1 outs hle1 hh => ?_); obtain ⟨u, uc, t, tc, l3, rfl, rfl, hru, hrt, hl3, hl4, hu⟩ := hh; have hul := hru.len; have huo := hru.one; obtain ⟨p3, c3, e3, rfl, _⟩ := hrt.open; have hso := hso u t l3; rcases hE : M6 [] e 0 with _ | ⟨u2, t2, l2⟩; rotate_left; have hue := hu _ hE; simp only [Prod.mk.injEq] at hue; obtain ⟨rfl, rfl, rfl⟩ := hue; have hso := hso hE; rotate_left; simp only [Option.isSome]; rotate_left; simp only [Option.isSome])
 refine B7 ?_
 refine sE (A8 rfl) rfl (fun b19 => ?_)
 refine sE (A8 rfl) rfl (fun b20 => ?_)
 refine sS rfl rfl rfl hul huo rfl ?_ (hu := by exact D4 hul.symm)
 refine J4 ?_
 refine I5 (rC rfl (A6 rfl rfl)) (rT rfl) ?_
 (exact Y4.yes hrt rfl (by unfold P1; rw [hso]))
 refine B7 ?_
 refine sE (A8 rfl) rfl (fun b41 => ?_)
 refine sE (A8 rfl) rfl (fun b42 => ?_)
 refine sS rfl rfl rfl hul huo rfl ?_ (hu := by exact D4 hul.symm)
 refine J4 ?_
 refine I5 (rC rfl (A6 rfl rfl)) (rT rfl) ?_
 (exact Y4.no hrt rfl (by unfold P1; rw [hnn hE]))
theorem B6J (fid : FuncId) (us cs : List Value) (G : IM) : Fn Tryz.prog 179 [.slice none 0 0, .func (.func fid) ⟨us⟩ ⟨cs⟩] [] G (H5 (.int .i64 (-1)) G) := by
 refine C2 Tryz.func179 rfl Tryz.ntmps179 Tryz.results179 rfl ?_
 intro w0
 refine J4 ?_
 refine C3 ?_
 refine K2 (fun (_ : Nat) => ⟨[(8, .int .i64 0), (7, .int .i64 0)], [], G⟩) (fun _ => True) (fun i => i) 0 ?_ ?_ ?_
 ·exact E2
 ·trivial
 ·(rintro (i0 : Nat) _)
  refine A5 ?_
  refine sP (A2t rfl rfl (by omega)) rfl rfl ?_
  refine K4 ?_
  trivial
theorem B6K (fid : FuncId) (us cs : List Value) (G : IM) : Fn Tryz.prog 164 [.slice none 0 0, .func (.func fid) ⟨us⟩ ⟨cs⟩] [] G (H5 (.bool false) G) := by
 refine C2 Tryz.func164 rfl Tryz.ntmps164 Tryz.results164 rfl ?_
 intro w0
 refine E1 ?_
 refine H9 rfl (B6J fid us cs G) rfl rfl ?_
 refine sP (B2K rfl rfl (by omega)) rfl rfl ?_
 refine B2 ?_
 (exact ⟨rfl, rfl, rfl⟩)
theorem B6L (G : IM) : Fn Tryz.prog 133 [.slice none 0 0] [] G (H5 (.bool true) G) := by
 refine C2 Tryz.func133 rfl Tryz.ntmps133 Tryz.results133 rfl ?_
 intro w0
 refine E1 ?_
 refine sP (A76 rfl rfl (by omega)) rfl rfl ?_
 refine A5 ?_
 refine H9 rfl ((B6K _ _ _ _)) rfl rfl ?_
 refine B5 ?_
 (exact ⟨rfl, rfl, rfl⟩)
theorem B1p {e : Tm} (h : S9 e = false) : P1 e = none := by unfold P1; rw [B1o h]
theorem B6M {e : Tm} {t : Ty} (h : P1 e = some t) : F4 t = true := by
 unfold P1 at h
 split at h
 ·rename_i u t' hi; cases h; exact (A4u hi).2.2
 ·cases h
theorem B6N (e : Tm) (G : IM) (cells : List Value) (hr : B3 G e cells) : Fn Tryz.prog 91 [.slice none 0 0, .agg ⟨cells⟩] [] G (Y4 (P1 e) G) := by
 have hRl := hr.len
 have hRo := hr.one
 refine C2 Tryz.func91 rfl Tryz.ntmps91 Tryz.results91 rfl ?_
 intro w0
 refine A5 ?_
 refine sE (C7 rfl rfl) rfl (fun b3 => ?_)
 refine sE (A8 rfl) rfl (fun b4 => ?_)
 refine B5 ?_
 refine H9 rfl ((B6L _)) rfl rfl ?_
 refine A5 ?_
 refine sL (A3 rfl rfl (B1 (by repeat first | exact mH | apply mT)) hRl) rfl rfl ?_
 refine E8 rfl ((A42 e _ _ hr)) rfl rfl (fun h16 => ?_) (fun h16 => ?_)
 refine J0 ?_
 refine sL (A3 rfl rfl (B1 (by repeat first | exact mH | apply mT)) hRl) rfl rfl ?_
 focus (refine E5 rfl (B6I e G cells (by assumption) hr) rfl rfl (fun v G1 hle1 hh => ?_); obtain ⟨cu, u, rfl, hru, hu⟩ := hh; obtain ⟨p1, c1, e1, rfl, _⟩ := hru.open; rcases hct : P1 e with _ | u2; rotate_left; obtain rfl := hu u2 hct; have hgv := B6M hct; rotate_left; simp only [Option.isSome]; rotate_left; simp only [Option.isSome])
 refine B9 ?_
 refine sE (A8 rfl) rfl (fun b32 => ?_)
 refine U5 ?_
 (refine E5 rfl (A2F _ G1 _ (A2n hgv).small hru) rfl rfl (fun v G2 hle2 hh => ?_); obtain ⟨cs2, F2, rfl, hs2, hn2⟩ := hh; obtain ⟨p2, c2, rfl, _⟩ := hs2.open; have hr2 := hs2.R.mono (C9.le G2 G1))
 refine B2 ?_
 refine I5 (rC rfl (A6 rfl rfl)) (rT rfl) ?_
 (exact Y4.yes hr2 rfl (by first | exact hct | rfl))
 refine B9 ?_
 refine sE (A8 rfl) rfl (fun b61 => ?_)
 refine X6 ?_
 refine I5 (rC rfl (A6 rfl rfl)) (rT rfl) ?_
 (exact Y4.no (u := B4) (O3 _ ⟨by omega, by omega⟩) rfl (by first | exact hct | rfl))
 refine J1 ?_
 refine I5 (rC rfl (A6 rfl rfl)) (rT rfl) ?_
 (exact Y4.no (u := B4) (O3 _ ⟨by omega, by omega⟩) rfl (B1p (by assumption)))
theorem B6O (e : Tm) (G : IM) (cells : List Value) (hr : B3 G e cells) : Fn Tryz.prog 51 [.agg ⟨cells⟩] [] G (Y4 (P1 e) G) := by
 have hRl := hr.len
 have hRo := hr.one
 refine C2 Tryz.func51 rfl Tryz.ntmps51 Tryz.results51 rfl ?_
 intro w0
 refine A5 ?_
 refine sE (C7 rfl rfl) rfl (fun b3 => ?_)
 refine sE (A8 rfl) rfl (fun b4 => ?_)
 refine B2 ?_
 refine sL (A3 rfl rfl (B1 (by repeat first | exact mH | apply mT)) hRl) rfl rfl ?_
 (refine E5 rfl (B6N e G cells hr) rfl rfl (fun v G1 hle1 hh => ?_); obtain ⟨cu, u, rfl, hru, hu⟩ := hh; obtain ⟨p1, c1, e1, rfl, _⟩ := hru.open)
 refine B5 ?_
 refine I5 (rC rfl (A6 rfl rfl)) (rT rfl) ?_
 (exact ⟨rfl, _, u, rfl, hru, hu⟩)
def O1 (e : Tm) (fuel : Int) : ByteArray × Int × Int := match T7 e with
 | none => (⟨⟨[]⟩⟩, 3, 0)
 | some (u, _) => if (S3 u fuel).2.1 = 0 then (A0d (S3 u fuel).1, 0, 0) else (⟨⟨[]⟩⟩, (S3 u fuel).2.1, (S3 u fuel).2.2)
def B1q (r : ByteArray × Int × Int) (G : IM) : IM → Value → List A7 → Prop := M3 fun _ v => v = .tuple ⟨[.string r.1, .int .i64 r.2.1, .int .i64 r.2.2]⟩
theorem A7o {e : Tm} {fuel : Int} (h : T7 e = none) : O1 e fuel = (⟨⟨[]⟩⟩, 3, 0) := by unfold O1; rw [h]
theorem A4v {e u : Tm} {t : Ty} {fuel : Int} (h : T7 e = some (u, t)) (h0 : (S3 u fuel).2.1 = 0) : O1 e fuel = (A0d (S3 u fuel).1, 0, 0) := by unfold O1; rw [h]; simp only [h0, if_true]
theorem A3D {e u : Tm} {t : Ty} {fuel : Int} (h : T7 e = some (u, t)) (h0 : (S3 u fuel).2.1 ≠ 0) : O1 e fuel = (⟨⟨[]⟩⟩, (S3 u fuel).2.1, (S3 u fuel).2.2) := by unfold O1; rw [h]; simp only [if_neg h0]
theorem B1r : ∀ (n : Nat) (e : Tm), (P0 n e).2.1 = 0 → M9 (P0 n e).1 = true ∧ E3 (P0 n e).1 = true ∧ (P0 n e).2.2.1 = 0
 | 0, e, h => by rw [A66] at h ⊢; exact stepv e h
 | n + 1, e, h => by
  by_cases h1 : (F9 e).2.1 = 1
  ·rw [A67 h1] at h ⊢; exact B1r n _ h
  ·rw [A68 h1] at h ⊢; exact stepv e h
where
 stepv (e : Tm) (h : (F9 e).2.1 = 0) : M9 (F9 e).1 = true ∧ E3 (F9 e).1 = true ∧ (F9 e).2.2 = 0 := by
  cases h1 : M9 e with
  | false => rw [A5x h1] at h; simp at h
  | true =>
   cases h2 : E3 e with
   | true => rw [A4q h1 h2]; exact ⟨h1, h2, rfl⟩
   | false =>
    by_cases h3 : (H0 e).2.1 = 1
    ·cases h4 : M9 (H0 e).1 with
     | false => rw [A4s h1 h2 h3 h4] at h; simp at h
     | true => rw [A4t h1 h2 h3 h4] at h; simp at h
    ·rw [A4r h1 h2 h3] at h
     exact absurd h (stp_ne0 e)
 stp_ne0 : ∀ (e : Tm), (H0 e).2.1 ≠ 0 := by
  refine Tm.ind fun k nm num ty fr lb ks ih => ?_
  rw [H0]
  cases hL : V2 (if k = 9 then 1 else ks.length) ks with
  | none => exact red_ne0 k ty fr lb ks
  | some p =>
   obtain ⟨us, c, l⟩ := p
   have := stpL_ne0 ks ih _ us c l hL
   simp only
   by_cases hc : c = 1
   ·rw [if_pos hc]; simp
   ·rw [if_neg hc]; exact this
 red_ne0 (k : Int) (ty fr : Ty) (lb : Int) (ks : List Tm) : (N1 k ty fr lb ks).2.1 ≠ 0 := by
  unfold N1 Q2
  repeat' split
  all_goals simp
 stpL_ne0 (ks : List Tm) (ih : ∀ t ∈ ks, (H0 t).2.1 ≠ 0) : ∀ (n : Nat) us c l, V2 n ks = some (us, c, l) → c ≠ 0 := by
  induction ks with
  | nil => intro n us c l h; cases n <;> simp [V2] at h
  | cons t ts iht =>
   intro n us c l h
   cases n with
   | zero => simp [V2] at h
   | succ n =>
    rw [A5u] at h
    by_cases hv : E3 t = true
    ·rw [if_pos hv] at h
     split at h
     ·rename_i us' c' l' h'
      simp only [Option.some.injEq, Prod.mk.injEq] at h
      obtain ⟨_, rfl, _⟩ := h
      exact iht (fun u hu => ih u (List.mem_cons_of_mem _ hu)) n _ _ _ h'
     ·cases h
    ·rw [if_neg hv] at h
     simp only [Option.some.injEq, Prod.mk.injEq] at h
     obtain ⟨_, rfl, _⟩ := h
     exact ih t List.mem_cons_self
theorem B1s {e : Tm} {fuel : Int} (h : (S3 e fuel).2.1 = 0) : M9 (S3 e fuel).1 = true ∧ E3 (S3 e fuel).1 = true ∧ (S3 e fuel).2.2 = 0 := by
 cases hf : N7 fuel 0 300 with
 | false => rw [A7a hf] at h; simp at h
 | true =>
  by_cases h1 : (P0 fuel.toNat e).2.1 = 1
  ·rw [B0R hf h1] at h; simp at h
  ·rw [B0S hf h1] at h ⊢; exact B1r _ _ h
theorem B1t {Q : Prop} (h : Q := by (obtain rfl : c = 0 := (by omega); subst he3; exact ⟨rfl, by rw [hyv rfl]⟩)) : Q := h
theorem A5A (e : Tm) (fuel : Int) (G : IM) (cells : List Value) (hT : A0K G) (hr : B3 G e cells) : Fn Tryz.prog 17 [.agg ⟨cells⟩, .int .i64 fuel] [] G (B1q (O1 e fuel) G) := by
 have hRl := hr.len
 have hRo := hr.one
 have hno := @A7o e fuel
 have hyv := fun u t => @A4v e u t fuel
 have hyn := fun u t => @A3D e u t fuel
 refine C2 Tryz.func17 rfl Tryz.ntmps17 Tryz.results17 rfl ?_
 intro w0
 refine A5 ?_
 refine sE (C7 rfl rfl) rfl (fun b3 => ?_)
 refine B5 ?_
 refine sL (A3 rfl rfl (B1 (by repeat first | exact mH | apply mT)) hRl) rfl rfl ?_
 focus (refine E5 rfl (B6H e G cells hr) rfl rfl (fun v G1 hle1 hh => ?_); obtain ⟨cu, ct, rfl, hru, hrt⟩ := hh; rcases hI : T7 e with _ | ⟨u, t⟩; rotate_left; rw [hI] at hru hrt; simp only [Option.getD_some] at hru hrt; rotate_left; rw [hI] at hru hrt; simp only [Option.getD_none] at hru hrt; simp only [Option.isSome]; rotate_left; simp only [Option.isSome]; rotate_left; all_goals (have hul := hru.len; have huo := hru.one; obtain ⟨p3, c3, e3, rfl, _⟩ := hrt.open))
 refine B7 ?_
 refine sE (A8 rfl) rfl (fun b17 => ?_)
 refine sE (A8 rfl) rfl (fun b18 => ?_)
 refine sS rfl rfl rfl hul huo rfl ?_ (hu := by exact D4 hul.symm)
 refine X6 ?_
 refine D1 (rT rfl) (rT rfl) (rT rfl) ?_
 (exact ⟨rfl, by rw [hno (by first | exact hI | rfl | assumption)]⟩)
 refine B7 ?_
 refine sE (A8 rfl) rfl (fun b47 => ?_)
 refine sE (A8 rfl) rfl (fun b48 => ?_)
 refine sS rfl rfl rfl hul huo rfl ?_ (hu := by exact D4 hul.symm)
 refine K4 ?_
 refine sL (A3 rfl rfl (B1 (by repeat first | exact mH | apply mT)) hul) rfl rfl ?_
 refine F0 ?_
 (have hyv := hyv u t hI; have hyn := hyn u t hI; have hev := @B1s u fuel; refine E5 rfl (B59 u fuel G1 cu hru) rfl rfl (fun v G2 hle2 hh => ?_); obtain ⟨wc, hvv, hrw⟩ := hh; have hwl := hrw.len; have hwo := hrw.one; generalize S3 u fuel = r at hvv hrw hyv hyn hev; obtain ⟨w, c, l⟩ := r; simp only at hvv hrw hyv hyn hev; subst hvv)
 refine B7 ?_
 refine sE (A8 rfl) rfl (fun b73 => ?_)
 refine sS rfl rfl rfl hwl hwo rfl ?_ (hu := by exact D4 hwl.symm)
 refine D0 ?_
 refine sB (M1 rfl rfl) rfl rfl (fun h83 => ?_) (fun h83 => ?_)
 refine J1 ?_
 refine D1 (rT rfl) (rT rfl) (rT rfl) ?_
 (exact ⟨rfl, by rw [hyn (by omega)]⟩)
 refine B5 ?_
 refine sL (A3 rfl rfl (B1 (by repeat first | exact mH | apply mT)) hwl) rfl rfl ?_
 (obtain ⟨he1, he2, he3⟩ := hev (by omega); refine H9 rfl (B6D w G2 wc (hT.mono (hle1.trans hle2)) (A1U he1).1 he2 hrw) rfl rfl ?_)
 refine D0 ?_
 refine D1 (rT rfl) (rT rfl) (rT rfl) ?_
 exact B1t
def S1 (o : Option Ty) (G : IM) : IM → Value → List A7 → Prop := M3 fun G' v => ∃ t cells, v = .tuple ⟨[.agg ⟨cells⟩, .bool o.isSome]⟩ ∧ C1 G' t cells ∧ F8 t ∧ ∀ u, o = some u → u = t
theorem S1.yes {G G' : IM} {o : Option Ty} {t : Ty} {cells : List Value} (h : o = some t) (hr : C1 G' t cells) (ha : F8 t) : S1 o G G' (.tuple ⟨[.agg ⟨cells⟩, .bool true]⟩) [] := by
 subst h; exact ⟨rfl, t, cells, rfl, hr, ha, fun u h => (by cases h; rfl)⟩
theorem S1.no {G G' : IM} {o : Option Ty} {t : Ty} {cells : List Value} (h : o = none) (hr : C1 G' t cells) (ha : F8 t) : S1 o G G' (.tuple ⟨[.agg ⟨cells⟩, .bool false]⟩) [] := by
 subst h; exact ⟨rfl, t, cells, rfl, hr, ha, fun u h => (by cases h)⟩
theorem S1.mk {G G' : IM} {o : Option Ty} {b : Bool} {t : Ty} {cells : List Value} (h : o = if b = true then some t else none) (hr : C1 G' t cells) (ha : F8 t) : S1 o G G' (.tuple ⟨[.agg ⟨cells⟩, .bool b]⟩) [] := by
 cases b
 ·exact S1.no h hr ha
 ·exact S1.yes h hr ha
theorem A7p {t : Ty} (h : F4 t = true) : F8 t := (A37 h).1
theorem A20 (k : Int) (a b : Ty) (G : IM) (ca cb : List Value) (hk : k = 4 ∨ k = 5) (ha : F8 a) (hb : F8 b) (hra : C1 G a ca) (hrb : C1 G b cb) :
  Fn Tryz.prog 160 [.int .i64 k, .agg ⟨ca⟩, .agg ⟨cb⟩] [] G (M3 fun G' v => ∃ cells, v = .tuple ⟨[.agg ⟨cells⟩, .bool (F4 (.mk k [a, b]))]⟩ ∧ C1 G' (.mk k [a, b]) cells) := by
 obtain ⟨ak, aks⟩ := a
 obtain ⟨bk, bks⟩ := b
 obtain ⟨pa, cca, ea, rfl, _⟩ := hra.open
 obtain ⟨pb, ccb, eb, rfl, _⟩ := hrb.open
 have hki : H1 k := ⟨by omega, by omega⟩
 refine C2 Tryz.func160 rfl Tryz.ntmps160 Tryz.results160 rfl ?_
 intro w0
 refine A5 ?_
 refine sE (C7 rfl rfl) rfl (fun b3 => ?_)
 refine sE (C7 rfl rfl) rfl (fun b4 => ?_)
 refine sE (A8 rfl) rfl (fun b5 => ?_)
 refine B7 ?_
 refine D8 D9 rfl ?_
 refine I6 (i := 0) (l' := [tt,ff,ff,ff,ff,ff,ff,ff,ff]) rfl D3 (qM rfl) rfl (by kernel_rfl) rfl rfl ?_
 refine aL 1 rfl (A6 rfl rfl) rfl ?_
 refine aL 3 rfl (A6 rfl rfl) rfl ?_
 refine Q8 (j := 2) (j' := 7) (by kernel_rfl) ?_ ?_
 (refine H4 rfl rfl (P7 _ G _ ha.small hra) rfl rfl rfl (fun v G1 hle1 hh => ?_); obtain ⟨cs1, F1, rfl, hs1, hn1⟩ := hh; obtain ⟨p1, c1, rfl, _⟩ := hs1.open; have hC2 := P7 _ G1 _ hb.small (hrb.mono hle1))
 refine Q8 (j := 4) (j' := 7) (by kernel_rfl) ?_ ?_
 (refine H4 rfl rfl hC2 rfl rfl rfl (fun v G2 hle2 hh => ?_); obtain ⟨cs2, F2, rfl, hs2, hn2⟩ := hh; obtain ⟨p2, c2, rfl, _⟩ := hs2.open; have hr1 := hs1.R.mono ((C9.le G1 G).trans hle2); have hr2 := hs2.R.mono (C9.le G2 G1))
 refine Q8 (j := 5) (j' := 7) (by kernel_rfl) ?_ ?_
 (refine E6 rfl (D2 rfl rfl rfl (by omega) (by unfold maxLen; omega) rfl) rfl rfl ?_; rintro _ ⟨b19, rfl⟩)
 refine aP 6 rfl (X5 rfl rfl) rfl ?_
 refine A4 7 ?_
 (refine E6 rfl (A8 rfl) rfl rfl ?_; rintro _ ⟨b22, rfl⟩)
 refine A4 8 ?_
 refine H8 rfl ?_
 refine B9 ?_
 (have hr1' := hr1; refine A14 (by repeat (first | exact Pk.here | apply Pk.there)) (fun G5 hle5 hsl5 hno5 => ?_); have hRT : C1 G5 (.mk k [.mk ak aks, .mk bk bks]) _ := D5.ty (ts := [.mk ak aks, .mk bk bks]) (es := [[.int .i64 ak, .slice p1 aks.length c1], [.int .i64 bk, .slice p2 bks.length c2]]) ⟨_, _, rfl, hr1.mono hle5, _, _, rfl, hr2.mono hle5, rfl⟩ rfl hsl5 hki; have hV := A1O _ G5 _ hRT; refine D8 D9 rfl ?_)
 refine L3 (i := 0) (l' := [tt,ff,ff,ff,ff]) rfl D3 (A6 rfl rfl) rfl (by kernel_rfl) rfl rfl ?_
 refine aL 1 rfl (A6 rfl rfl) rfl ?_
 refine A4 2 ?_
 refine N6 rfl rfl (hV) rfl rfl rfl ?_
 refine A4 3 ?_
 refine H8 rfl ?_
 refine aP 4 rfl (qA rfl) rfl ?_
 refine B9 ?_
 refine I5 (rC rfl (A6 rfl rfl)) (rT rfl) ?_
 (exact ⟨rfl, _, rfl, hRT⟩)
 (refine E6 rfl (A8 rfl) rfl rfl ?_; rintro _ ⟨b41, rfl⟩)
 refine A4 5 ?_
 (refine E6 rfl (D2 rfl rfl rfl (by omega) (by unfold maxLen; omega) rfl) rfl rfl ?_; rintro _ ⟨b43, rfl⟩)
 refine aP 6 rfl (X5 rfl rfl) rfl ?_
 refine A4 8 ?_
 refine H8 rfl ?_
 refine B9 ?_
 (have hr1' := hr1; refine A14 (by repeat (first | exact Pk.here | apply Pk.there)) (fun G5 hle5 hsl5 hno5 => ?_); have hRT : C1 G5 (.mk k [.mk ak aks, .mk bk bks]) _ := D5.ty (ts := [.mk ak aks, .mk bk bks]) (es := [[.int .i64 ak, .slice p1 aks.length c1], [.int .i64 bk, .slice p2 bks.length c2]]) ⟨_, _, rfl, hr1.mono hle5, _, _, rfl, hr2.mono hle5, rfl⟩ rfl hsl5 hki; have hV := A1O _ G5 _ hRT; refine D8 D9 rfl ?_)
 refine L3 (i := 0) (l' := [tt,ff,ff,ff,ff]) rfl D3 (A6 rfl rfl) rfl (by kernel_rfl) rfl rfl ?_
 refine aL 1 rfl (A6 rfl rfl) rfl ?_
 refine A4 2 ?_
 refine N6 rfl rfl (hV) rfl rfl rfl ?_
 refine A4 3 ?_
 refine H8 rfl ?_
 refine aP 4 rfl (qA rfl) rfl ?_
 refine B9 ?_
 refine I5 (rC rfl (A6 rfl rfl)) (rT rfl) ?_
 (exact ⟨rfl, _, rfl, hRT⟩)
 (refine E6 rfl (A8 rfl) rfl rfl ?_; rintro _ ⟨b63, rfl⟩)
 refine A4 4 ?_
 (refine H4 rfl rfl hC2 rfl rfl rfl (fun v G2 hle2 hh => ?_); obtain ⟨cs2, F2, rfl, hs2, hn2⟩ := hh; obtain ⟨p2, c2, rfl, _⟩ := hs2.open; have hr1 := hs1.R.mono ((C9.le G1 G).trans hle2); have hr2 := hs2.R.mono (C9.le G2 G1))
 refine A4 5 ?_
 (refine E6 rfl (D2 rfl rfl rfl (by omega) (by unfold maxLen; omega) rfl) rfl rfl ?_; rintro _ ⟨b67, rfl⟩)
 refine aP 6 rfl (X5 rfl rfl) rfl ?_
 refine A4 8 ?_
 refine H8 rfl ?_
 refine B9 ?_
 (have hr1' := hr1; refine A14 (by repeat (first | exact Pk.here | apply Pk.there)) (fun G5 hle5 hsl5 hno5 => ?_); have hRT : C1 G5 (.mk k [.mk ak aks, .mk bk bks]) _ := D5.ty (ts := [.mk ak aks, .mk bk bks]) (es := [[.int .i64 ak, .slice p1 aks.length c1], [.int .i64 bk, .slice p2 bks.length c2]]) ⟨_, _, rfl, hr1.mono hle5, _, _, rfl, hr2.mono hle5, rfl⟩ rfl hsl5 hki; have hV := A1O _ G5 _ hRT; refine D8 D9 rfl ?_)
 refine L3 (i := 0) (l' := [tt,ff,ff,ff,ff]) rfl D3 (A6 rfl rfl) rfl (by kernel_rfl) rfl rfl ?_
 refine aL 1 rfl (A6 rfl rfl) rfl ?_
 refine A4 2 ?_
 refine N6 rfl rfl (hV) rfl rfl rfl ?_
 refine A4 3 ?_
 refine H8 rfl ?_
 refine aP 4 rfl (qA rfl) rfl ?_
 refine B9 ?_
 refine I5 (rC rfl (A6 rfl rfl)) (rT rfl) ?_
 (exact ⟨rfl, _, rfl, hRT⟩)
 (refine E6 rfl (A8 rfl) rfl rfl ?_; rintro _ ⟨b87, rfl⟩)
 refine A4 2 ?_
 (refine H4 rfl rfl (P7 _ G _ ha.small hra) rfl rfl rfl (fun v G1 hle1 hh => ?_); obtain ⟨cs1, F1, rfl, hs1, hn1⟩ := hh; obtain ⟨p1, c1, rfl, _⟩ := hs1.open; have hC2 := P7 _ G1 _ hb.small (hrb.mono hle1))
 refine A4 4 ?_
 (refine H4 rfl rfl hC2 rfl rfl rfl (fun v G2 hle2 hh => ?_); obtain ⟨cs2, F2, rfl, hs2, hn2⟩ := hh; obtain ⟨p2, c2, rfl, _⟩ := hs2.open; have hr1 := hs1.R.mono ((C9.le G1 G).trans hle2); have hr2 := hs2.R.mono (C9.le G2 G1))
 refine A4 5 ?_
 (refine E6 rfl (D2 rfl rfl rfl (by omega) (by unfold maxLen; omega) rfl) rfl rfl ?_; rintro _ ⟨b93, rfl⟩)
 refine aP 6 rfl (X5 rfl rfl) rfl ?_
 refine A4 8 ?_
 refine H8 rfl ?_
 refine B9 ?_
 (have hr1' := hr1; refine A14 (by repeat (first | exact Pk.here | apply Pk.there)) (fun G5 hle5 hsl5 hno5 => ?_); have hRT : C1 G5 (.mk k [.mk ak aks, .mk bk bks]) _ := D5.ty (ts := [.mk ak aks, .mk bk bks]) (es := [[.int .i64 ak, .slice p1 aks.length c1], [.int .i64 bk, .slice p2 bks.length c2]]) ⟨_, _, rfl, hr1.mono hle5, _, _, rfl, hr2.mono hle5, rfl⟩ rfl hsl5 hki; have hV := A1O _ G5 _ hRT; refine D8 D9 rfl ?_)
 refine L3 (i := 0) (l' := [tt,ff,ff,ff,ff]) rfl D3 (A6 rfl rfl) rfl (by kernel_rfl) rfl rfl ?_
 refine aL 1 rfl (A6 rfl rfl) rfl ?_
 refine A4 2 ?_
 refine N6 rfl rfl (hV) rfl rfl rfl ?_
 refine A4 3 ?_
 refine H8 rfl ?_
 refine aP 4 rfl (qA rfl) rfl ?_
 refine B9 ?_
 refine I5 (rC rfl (A6 rfl rfl)) (rT rfl) ?_
 (exact ⟨rfl, _, rfl, hRT⟩)
theorem A3E (k : Int) (t : Ty) (G : IM) (cells : List Value) (hk : k = 4 ∨ k = 5) (ha : F8 t) (hr : C1 G t cells) :
  Fn Tryz.prog 162 [.int .i64 k, .agg ⟨cells⟩] [] G (A9X k t G) := by
 obtain ⟨tk, ks⟩ := t
 have ha2 := ha
 rw [F8] at ha2
 have hkid := ha.kid
 obtain ⟨p, c, es, rfl, htk, hsl, hkl⟩ := hr.open
 simp only [Ty.k, Ty.ks] at htk hsl hkl ⊢
 refine C2 Tryz.func162 rfl Tryz.ntmps162 Tryz.results162 rfl ?_
 intro w0
 refine A5 ?_
 refine sE (C7 rfl rfl) rfl (fun b3 => ?_)
 refine sE (A8 rfl) rfl (fun b4 => ?_)
 refine sE (A8 rfl) rfl (fun b5 => ?_)
 refine D0 ?_
 refine sB (qE rfl rfl) rfl rfl (fun h14 => ?_) (fun h14 => ?_)
 refine B2 ?_
 refine H9 rfl ((A1Q _)) rfl rfl ?_
 refine H9 rfl ((A1Q _)) rfl rfl ?_
 refine B5 ?_
 refine D1 (rC rfl (A6 rfl rfl)) (rC rfl (A6 rfl rfl)) (rT rfl) ?_
 (refine ⟨rfl, _, _, _, _, ?_, A0M _, A0M _, A30, A30, ?_⟩ <;> rw [A1d, if_neg (by omega), if_pos (by omega)] <;> first | rfl | (intro p hp; cases hp; rfl))
 refine I8 ?_
 refine sB (M1 rfl rfl) rfl rfl (fun h42 => ?_) (fun h42 => ?_)
 refine J1 ?_
 refine D1 (rC rfl (A6 rfl rfl)) (rC rfl (A6 rfl rfl)) (rT rfl) ?_
 (refine ⟨rfl, B4, _, B4, _, ?_, O3 _ ⟨by omega, by omega⟩, O3 _ ⟨by omega, by omega⟩, X0 (by omega) (by omega), X0 (by omega) (by omega), ?_⟩ <;> rw [A1d, if_neg (by omega), if_neg (by omega)] <;> first | rfl | (intro p hp; cases hp))
 refine B0 ?_
 (have hlen : ks.length = 2 := ha2.1 (by omega); obtain ⟨b, o, q0, d0, hp0, hat0, hre0, hg0⟩ := hsl.kidTy hkl (i := 0) (by omega) (by omega); obtain ⟨b', o', q1, d1, hp1, hat1, hre1, hg1⟩ := hsl.kidTy hkl (i := 1) (by omega) (by omega); subst hp0; cases hp1; have hC1 := P7 _ G _ (hkid _ (List.getElem_mem (by omega))).small hre0; refine D8 D9 rfl ?_)
 refine I6 (i := 0) (l' := [tt,ff,ff,ff,ff,ff,ff,ff,ff,ff,ff,ff,ff]) rfl D3 (B8 rfl) rfl (by kernel_rfl) rfl rfl ?_
 refine aL 1 rfl (C4 rfl rfl) rfl ?_
 refine aP 2 rfl (B6 (j := 0) rfl rfl rfl (by omega)) rfl ?_
 refine aL 3 rfl (A3 rfl rfl (hat0 _) rfl) rfl ?_
 refine aP 5 rfl (B8 rfl) rfl ?_
 refine aL 6 rfl (C4 rfl rfl) rfl ?_
 refine aP 7 rfl (B6 (j := 1) rfl rfl rfl (by omega)) rfl ?_
 refine aL 8 rfl (A3 rfl rfl (hat1 _) rfl) rfl ?_
 refine A4 4 ?_
 (refine H4 rfl rfl hC1 rfl rfl rfl (fun v G1 hle1 hh => ?_); obtain ⟨cs1, F1, rfl, hs1, hn1⟩ := hh; obtain ⟨p1, c1, rfl, _⟩ := hs1.open; have hC2 := P7 _ G1 _ (hkid _ (List.getElem_mem (by omega))).small (hre1.mono hle1))
 refine A4 9 ?_
 (refine H4 rfl rfl hC2 rfl rfl rfl (fun v G2 hle2 hh => ?_); obtain ⟨cs2, F2, rfl, hs2, hn2⟩ := hh; obtain ⟨p2, c2, rfl, _⟩ := hs2.open; have hr1 := hs1.R.mono ((C9.le G1 G).trans hle2); have hr2 := hs2.R.mono (C9.le G2 G1))
 refine A4 10 ?_
 refine H8 rfl ?_
 refine A4 11 ?_
 refine R9 rfl rfl rfl rfl rfl rfl rfl rfl (by decide +kernel) (by repeat first | exact Sw.here | apply Sw.there) (by rfl) ?_
 refine aP 12 rfl (qA rfl) rfl ?_
 refine B9 ?_
 refine D1 (rC rfl (A6 rfl rfl)) (rC rfl (A6 rfl rfl)) (rT rfl) ?_
 (refine ⟨rfl, _, _, _, _, ?_, hr1, hr2, hkid _ (List.getElem_mem (by omega)), hkid _ (List.getElem_mem (by omega)), ?_⟩ <;> rw [A1d, if_pos (by omega)] <;> first | rfl | (intro p hp; cases hp; simp [hlen]))
theorem B6P (G : IM) (cx : Cx) (hv : cxV cx) (p : Option Addr) (n c : Nat) (nm : ByteArray) (hx : T4 G cx p n c) :
  Fn Tryz.prog 116 [.slice p n c, .string nm] [] G (S1 (P4 cx nm) G) := by
 have hn := hx.le
 refine C2 Tryz.func116 rfl Tryz.ntmps116 Tryz.results116 rfl ?_
 intro w0
 refine A5 ?_
 refine sE (A8 rfl) rfl (fun b3 => ?_)
 refine D0 ?_
 refine sP (P3 rfl rfl (by omega) (by omega)) rfl rfl ?_
 refine B9 ?_
 refine C3 ?_
 (refine K2 (fun (i : Nat) => ⟨[(6, .int .i64 ((i : Int) - 1)), (0, .slice p n c), (1, .string nm), (4, .pointer (some ⟨b3, 0, none⟩))], [.blk b3 [.int .i64 0, .slice none 0 0]], G⟩) (fun i => i ≤ n ∧ P4 cx nm = V8 cx nm i) (fun i => i) n ?_ ?_ ?_)
 exact E2
 (exact ⟨Nat.le_refl _, by unfold P4; rw [hx.1]⟩)
 (rintro i ⟨hi, hlk⟩)
 refine B7 ?_
 refine sB (A0S rfl rfl) rfl rfl (fun h25 => ?_) (fun h25 => ?_)
 refine B0 ?_
 (show J2 _ _ (.block 1 _) _ _; obtain ⟨j, rfl⟩ : ∃ j, i = j + 1 := ⟨i - 1, by omega⟩; rw [show ((j + 1 : Nat) : Int) - 1 = (j : Int) from by omega]; obtain ⟨b, o, nm1, t1, q1, d1, hcx, rfl, hat, hr1, hgb⟩ := hx.get (i := j) (by omega); have ha1 := A7p (hv _ (List.mem_of_getElem? hcx)); refine C3 ?_)
 refine B7 ?_
 refine sP (B6 rfl rfl rfl (by omega)) rfl rfl ?_
 refine F0 ?_
 refine sL (A0E rfl rfl ((hat _).sub (j := 0) rfl)) rfl rfl ?_
 refine F0 ?_
 refine sB (A0F rfl rfl) rfl rfl (fun h41 => ?_) (fun h41 => ?_)
 refine B5 ?_
 refine sP (B6 rfl rfl rfl (by omega)) rfl rfl ?_
 refine F0 ?_
 refine sL (A3 rfl rfl (hat _).drop rfl) rfl rfl ?_
 (refine E5 rfl (P7 _ G _ ha1.small hr1) rfl rfl (fun v G1 hle1 hh => ?_); obtain ⟨cs1, F1, rfl, hs1', hn1⟩ := hh; obtain ⟨p1, c1, rfl, _⟩ := hs1'.open; have hrr := hs1'.R.mono (C9.le G1 G))
 refine J0 ?_
 refine I5 (rC rfl (A6 rfl rfl)) (rT rfl) ?_
 (exact S1.yes (by rw [hlk]; exact A33 hcx (by assumption)) hrr ha1)
 refine D0 ?_
 refine sP (P3 rfl rfl (by omega) (by omega)) rfl rfl ?_
 refine A5 ?_
 refine K3 j ?_ ?_ ?_
 exact E2
 (exact ⟨by omega, by rw [hlk]; exact A34 hcx (by assumption)⟩)
 (show _ < _ + 1; omega)
 refine K4 ?_
 refine I5 (rC rfl (A6 rfl rfl)) (rT rfl) ?_
 (obtain rfl : i = 0 := (by omega); exact S1.no (by rw [hlk]; rfl) (O3 _ ⟨by omega, by omega⟩) (X0 (by omega) (by omega)))
end Gw
end Go.Proofs.YthpdjmbpbdbodaaGreatDoor
