/-
  Types are kept by steps; a closed term with a type does not get stuck, and what is blamed is a label of its casts. A term with its casts put in is valid, and has the type that the term has. Terms that hold a type. Precision of terms, on both sides. Values of the stack machine: as trees, and as they lie in memory; what an instruction does, in plain words. The reference's decimal digits of a number. The program's RunTerm: texts of values. The program's insertion of casts: a cast. The program's insertion of casts. CastTypeOf. The program's InsertCasts, TypeOf. The program's RunTerm. The reference's typing, exactly. The reference's typing, exactly: meets, the types of nodes.
-/
import Derived.Test.YtebfignffjhnhaaGreatDoorKk4
import Derived.Test.YtebfignffjhnhaaGreatDoorKk5
import Derived.Test.YtebfignffjhnhaaGreatDoorKk3
import Derived.Test.YtebfignffjhnhaaGreatDoorKk2
import Derived.Test.YtebfignffjhnhaaGreatDoorKk1
import Derived.Lib.ItoaNum
set_option linter.unusedVariables false
set_option linter.unusedSimpArgs false
set_option maxHeartbeats 0
set_option maxRecDepth 100000
set_option synthInstance.maxSize 4000
set_option synthInstance.maxHeartbeats 0
namespace Go.Proofs.YtebfignffjhnhaaGreatDoor
open Go Go.RowKit
namespace Gw
mutual
def W9 (L : Int → Prop) : Tm → Prop
 | .mk k nm num ty fr lb ks => (k = 14 → L lb) ∧ A1u L ks
def A1u (L : Int → Prop) : List Tm → Prop
 | [] => True
 | t :: ts => W9 L t ∧ A1u L ts
end
theorem A0x {L : Int → Prop} {k : Int} {nm : ByteArray} {num : Int} {ty fr : Ty} {lb : Int} {ks : List Tm} : W9 L (.mk k nm num ty fr lb ks) ↔ (k = 14 → L lb) ∧ A1u L ks := by rw [W9]
theorem A07 {L : Int → Prop} : ∀ {ts : List Tm}, A1u L ts ↔ ∀ t ∈ ts, W9 L t
 | [] => by simp [A1u]
 | t :: ts => by rw [A1u, A07 (ts := ts)]; simp
theorem A3e {L : Int → Prop} {e : Tm} {a b : Ty} {l : Int} (hl : L l) (h : W9 L e) : W9 L (K5 e a b l) := by
 rw [K5, A0x]; exact ⟨fun _ => hl, by simp [A1u, h]⟩
theorem A7x {L : Int → Prop} {k : Int} {ks : List Tm} (hk : k ≠ 14) (h : ∀ t ∈ ks, W9 L t) : W9 L (Y5 k ks) := by
 rw [Y5, A0x]; exact ⟨fun e => absurd e hk, A07.2 h⟩
mutual
theorem B07 {L : Int → Prop} {x : ByteArray} {v : Tm} (hv : W9 L v) : ∀ t, W9 L t → W9 L (S2 x v t)
 | .mk k nm num ty fr lb ks, h => by
  rw [A0x] at h
  rw [S2]
  split
  ·exact hv
  ·split
   ·rw [A0x]; exact h
   ·rw [A0x]; exact ⟨h.1, B08 hv ks h.2⟩
theorem B08 {L : Int → Prop} {x : ByteArray} {v : Tm} (hv : W9 L v) : ∀ ts, A1u L ts → A1u L (R0 x v ts)
 | [], _ => by rw [R0]; trivial
 | t :: ts, h => by rw [R0, A1u]; exact ⟨B07 hv t h.1, B08 hv ts h.2⟩
end
theorem A3V {f : Tm} {U : Ty} (hv : E4 f = true) (ht : I4 [] f = some U) (hc : cv f) :
  (U.k = 2 → f.k = 2) ∧ (U.k = 3 → f.k = 3 ∨ f.k = 4) ∧ (U.k = 4 → f.k = 5 ∨ (P6 f = true ∧ f.ty.k = 4)) ∧ (U.k = 5 → f.k = 10 ∨ (P6 f = true ∧ f.ty.k = 5)) ∧ (U.k = 1 → inj f = true) := by
 obtain ⟨k, nm, num, ty, fr, lb, ks⟩ := f
 obtain ⟨hN, _⟩ := hc.node
 have hop := hN.ops
 rw [A05, A4O]
 show (U.k = 2 → k = 2) ∧ (U.k = 3 → k = 3 ∨ k = 4) ∧ (U.k = 4 → k = 5 ∨ (_ ∧ ty.k = 4)) ∧ (U.k = 5 → k = 10 ∨ (_ ∧ ty.k = 5)) ∧ (U.k = 1 → _)
 by_cases h10 : k = 10
 ·subst h10
  obtain ⟨a, b, rfl⟩ := ks2 (ks := ks) (by have : D9 10 = 2 := rfl; omega)
  obtain ⟨A, B, _, _, rfl⟩ := B0y ht
  refine ⟨fun h => ?_, fun h => ?_, fun h => ?_, fun h => .inl rfl, fun h => ?_⟩ <;> (exfalso; simp [Ty.k, Q9, U9] at h)
 by_cases h14 : k = 14
 ·subst h14
  obtain ⟨a, rfl⟩ := Z6 (ks := ks) (by have : D9 14 = 1 := rfl; omega)
  obtain ⟨_, rfl⟩ := A4I ht
  by_cases hp : fr.k = U.k ∧ (U.k = 4 ∨ U.k = 5)
  ·refine ⟨fun h => by omega, fun h => by omega, fun h => .inr ⟨decide_eq_true ⟨rfl, hp⟩, h⟩, fun h => .inr ⟨decide_eq_true ⟨rfl, hp⟩, h⟩, fun h => by omega⟩
  ·by_cases hi : U.k = 1 ∧ R9 fr = true
   ·refine ⟨fun h => by omega, fun h => by omega, fun h => by omega, fun h => by omega, fun _ => ?_⟩
    rw [hi.2, decide_eq_true ⟨rfl, hi.1⟩]; rfl
   ·exfalso
    rw [E4, if_neg (by rintro (h | h | h); exact absurd h (by decide); exact hp h.2; exact hi h.2)] at hv
    exact absurd (of_decide_eq_true hv) (by decide)
 ·have hk : k = 2 ∨ k = 3 ∨ k = 4 ∨ k = 5 := by
   rw [E4, if_neg (by rintro (h | h | h); exact h10 h; exact h14 h.1; exact h14 h.1)] at hv
   exact of_decide_eq_true hv
  by_cases h5 : k = 5
  ·subst h5
   obtain ⟨a, rfl⟩ := Z6 (ks := ks) (by have : D9 5 = 1 := rfl; omega)
   obtain ⟨B, _, rfl⟩ := B0A ht
   refine ⟨fun h => ?_, fun h => ?_, fun h => .inl rfl, fun h => ?_, fun h => ?_⟩ <;> (exfalso; simp [Ty.k, Q9, U9] at h)
  ·have hks : ks = [] := List.length_eq_zero_iff.1 (by
    rcases hk with h | h | h | h
    ·subst h; have : D9 2 = 0 := rfl; omega
    ·subst h; have : D9 3 = 0 := rfl; omega
    ·subst h; have : D9 4 = 0 := rfl; omega
    ·exact absurd h h5)
   subst hks
   by_cases h2 : k = 2
   ·subst h2
    obtain rfl := B5N ht
    refine ⟨fun _ => rfl, fun h => ?_, fun h => ?_, fun h => ?_, fun h => ?_⟩ <;> (exfalso; simp [Ty.k, Q9, U9] at h)
   ·have h34 : k = 3 ∨ k = 4 := by omega
    obtain rfl := B5O h34 ht
    refine ⟨fun h => ?_, fun _ => h34, fun h => ?_, fun h => ?_, fun h => ?_⟩ <;> (exfalso; simp [Ty.k, Q9, U9] at h)
theorem B09 {k : Int} {nm : ByteArray} {num : Int} {ty fr : Ty} {lb : Int} {ks : List Tm} (h : P6 (.mk k nm num ty fr lb ks) = true) : k = 14 ∧ fr.k = ty.k ∧ (ty.k = 4 ∨ ty.k = 5) := by
 rw [A05] at h; exact of_decide_eq_true h
def A3f (L : Int → Prop) (T : Ty) (r : Stp) : Prop := (r.2.1 = 1 ∧ I4 [] r.1 = some T ∧ W9 L r.1) ∨ (r.2.1 = 2 ∧ L r.2.2)
theorem B1a {t : Ty} (h : R9 t = true) : t = T8 t := by
 unfold R9 at h
 rw [Bool.and_eq_true] at h
 exact (Z2 _ _).1 h.2
theorem B6L {t u : Ty} (h : t.k = u.k) : T8 t = T8 u := by unfold T8; rw [h]
theorem B6M (L : Int → Prop) (hL : ∀ l, L l → L (-l)) {k : Int} {nm : ByteArray} {num : Int} {ty fr : Ty} {lb : Int} {ks : List Tm} {T : Ty} (hc : cv (.mk k nm num ty fr lb ks))
  (h8 : k = 1 ∨ k = 6 ∨ k = 7 ∨ k = 8 ∨ k = 9 ∨ k = 11 ∨ k = 12 ∨ k = 14) (hnv : E4 (.mk k nm num ty fr lb ks) = false)
  (hval : ∀ i, i < (if k = 9 then 1 else ks.length) → (hl : i < ks.length) → E4 ks[i] = true)
  (ht : I4 [] (.mk k nm num ty fr lb ks) = some T) (hlb : W9 L (.mk k nm num ty fr lb ks)) : A3f L T (M7 k ty fr lb ks) := by
 obtain ⟨hN, hkk⟩ := hc.node
 have hop := hN.ops
 rw [A0x, A07] at hlb
 obtain ⟨hl14, hlk⟩ := hlb
 have hTv := B0w hc ht
 unfold M7
 by_cases h6 : k = 6
 ·subst h6
  obtain ⟨f, v, rfl⟩ := ks2 (ks := ks) (by have : D9 6 = 2 := rfl; omega)
  obtain ⟨A, hf, hv⟩ := B5I ht
  have hcf := hkk f (by simp)
  have hcv := hkk v (by simp)
  have hlf := hlk f (by simp)
  have hlv := hlk v (by simp)
  have hvf : E4 f = true := hval 0 (by simp) (by simp)
  have hfv := B0w hcf hf
  rw [if_pos rfl]
  obtain ⟨_, _, hcan, _⟩ := A3V hvf hf hcf
  obtain ⟨fk, fnm, fnum, fty, ffr, flb, fks⟩ := f
  obtain ⟨hNf, hkf⟩ := hcf.node
  have hopf := hNf.ops
  rw [A0x, A07] at hlf
  show A3f L T (if fk = 5 then (S2 fnm v (kd fks 0), 1, 0) else if P6 (.mk fk fnm fnum fty ffr flb fks) = true ∧ fty.k = 4 then (K5 (Y5 6 [kd fks 0, K5 v (kt fty.ks 0) (kt ffr.ks 0) (-flb)]) (kt ffr.ks 1) (kt fty.ks 1) flb, 1, 0) else Q7)
  by_cases h5 : fk = 5
  ·subst h5
   rw [if_pos rfl]
   obtain ⟨b, rfl⟩ := Z6 (ks := fks) (by have : D9 5 = 1 := rfl; omega)
   obtain ⟨B, hb, hT⟩ := B0A hf
   cases hT
   refine .inl ⟨rfl, ?_, B07 hlv _ (hlf.2 b (by simp))⟩
   exact B0E hv b _ [] _ (hkf b (by simp)) (fun y hy => by rw [A1D, if_neg (fun e => hy e.symm)]) (by rw [A1D, if_pos rfl]) hb
  ·rw [if_neg h5]
   have hcan' : P6 (.mk fk fnm fnum fty ffr flb fks) = true ∧ fty.k = 4 := (hcan rfl).resolve_left h5
   rw [if_pos hcan']
   obtain ⟨rfl, hfk, _⟩ := B09 hcan'.1
   obtain ⟨g, rfl⟩ := Z6 (ks := fks) (by have : D9 14 = 1 := rfl; omega)
   obtain ⟨hg, rfl⟩ := A4I hf
   obtain ⟨_, hv1, hv2⟩ := hNf.c14 rfl
   obtain ⟨frk, frs⟩ := ffr
   obtain rfl : frk = 4 := hfk.trans hcan'.2
   obtain ⟨C, D, rfl, hC, hD⟩ := A3P (.inl rfl) hv2
   have hfl := hlf.1 rfl
   refine .inl ⟨rfl, ?_, A3e hfl (A7x (by decide) (by
    intro t htm
    simp only [List.mem_cons, List.not_mem_nil, or_false] at htm
    rcases htm with rfl | rfl
    ·exact hlf.2 _ (by simp [kd])
    ·exact A3e (hL _ hfl) hlv))⟩
   exact A2c (B5J (A := C) hD hg (A2c hv))
 rw [if_neg h6]
 by_cases h7 : k = 7 ∨ k = 8
 ·obtain ⟨a, b, rfl⟩ := ks2 (ks := ks) (by rcases h7 with h | h <;> subst h <;> (first | (have : D9 7 = 2 := rfl; omega) | (have : D9 8 = 2 := rfl; omega)))
  obtain ⟨ha, hb, hT⟩ := B5K h7 ht
  have hva : E4 a = true := hval 0 (by rw [if_neg (by omega)]; simp) (by simp)
  have hvb : E4 b = true := hval 1 (by rw [if_neg (by omega)]; simp) (by simp)
  have ha2 := (A3V hva ha (hkk a (by simp))).1 rfl
  have hb2 := (A3V hvb hb (hkk b (by simp))).1 rfl
  rw [if_pos h7, if_pos (show (kd [a, b] 0).k = 2 ∧ (kd [a, b] 1).k = 2 from ⟨ha2, hb2⟩)]
  by_cases hk7 : k = 7
  ·rw [if_pos hk7]
   rw [if_neg (by omega)] at hT
   subst hT
   exact .inl ⟨rfl, rfl, by rw [A2o, A0x]; exact ⟨fun e => absurd e (by decide), trivial⟩⟩
  ·rw [if_neg hk7]
   rw [if_pos (by omega)] at hT
   subst hT
   refine .inl ⟨rfl, ?_, ?_⟩
   ·unfold Y6; split <;> rfl
   ·unfold Y6; exact A7x (by split <;> decide) (by simp)
 rw [if_neg h7]
 by_cases h9 : k = 9
 ·subst h9
  obtain ⟨a, b, c, rfl⟩ := ks3 (ks := ks) (by have : D9 9 = 3 := rfl; omega)
  obtain ⟨ha, hb, hcc⟩ := B5L ht
  have hva : E4 a = true := hval 0 (by simp) (by simp)
  have ha2 := (A3V hva ha (hkk a (by simp))).2.1 rfl
  rw [if_pos rfl]
  show A3f L T (if a.k = 3 then (b, 1, 0) else if a.k = 4 then (c, 1, 0) else Q7)
  by_cases h3 : a.k = 3
  ·rw [if_pos h3]; exact .inl ⟨rfl, hb, hlk b (by simp)⟩
  ·rw [if_neg h3, if_pos (by omega)]; exact .inl ⟨rfl, hcc, hlk c (by simp)⟩
 rw [if_neg h9]
 by_cases h11 : k = 11 ∨ k = 12
 ·obtain ⟨a, rfl⟩ := Z6 (ks := ks) (by rcases h11 with h | h <;> subst h <;> (first | (have : D9 11 = 1 := rfl; omega) | (have : D9 12 = 1 := rfl; omega)))
  obtain ⟨A, B, ha, hT⟩ := B5M h11 ht
  have hva : E4 a = true := hval 0 (by rw [if_neg (by omega)]; simp) (by simp)
  have hca := hkk a (by simp)
  have hla := hlk a (by simp)
  have ha2 := (A3V hva ha hca).2.2.2.1 rfl
  rw [if_pos h11]
  obtain ⟨fk, fnm, fnum, fty, ffr, flb, fks⟩ := a
  obtain ⟨hNf, hkf⟩ := hca.node
  have hopf := hNf.ops
  rw [A0x, A07] at hla
  show A3f L T (if fk = 10 then (kd fks (k - 11).toNat, 1, 0) else if P6 (.mk fk fnm fnum fty ffr flb fks) = true ∧ fty.k = 5 then (K5 (Y5 k [kd fks 0]) (kt ffr.ks (k - 11).toNat) (kt fty.ks (k - 11).toNat) flb, 1, 0) else Q7)
  by_cases h10 : fk = 10
  ·subst h10
   rw [if_pos rfl]
   obtain ⟨x, y, rfl⟩ := ks2 (ks := fks) (by have : D9 10 = 2 := rfl; omega)
   obtain ⟨A', B', hx, hy, he⟩ := B0y ha
   cases he
   rcases h11 with rfl | rfl
   ·rw [if_neg (by decide)] at hT; subst hT; exact .inl ⟨rfl, hx, hla.2 x (by simp)⟩
   ·rw [if_pos rfl] at hT; subst hT; exact .inl ⟨rfl, hy, hla.2 y (by simp)⟩
  ·rw [if_neg h10]
   have hcan' : P6 (.mk fk fnm fnum fty ffr flb fks) = true ∧ fty.k = 5 := ha2.resolve_left h10
   rw [if_pos hcan']
   obtain ⟨rfl, hfk, _⟩ := B09 hcan'.1
   obtain ⟨g, rfl⟩ := Z6 (ks := fks) (by have : D9 14 = 1 := rfl; omega)
   obtain ⟨hg, rfl⟩ := A4I ha
   obtain ⟨_, hv1, hv2⟩ := hNf.c14 rfl
   obtain ⟨frk, frs⟩ := ffr
   obtain rfl : frk = 5 := hfk.trans hcan'.2
   obtain ⟨C, D, rfl, hC, hD⟩ := A3P (.inr rfl) hv2
   have hfl := hla.1 rfl
   refine .inl ⟨rfl, ?_, A3e hfl (A7x (by omega) (by
    intro t htm
    simp only [List.mem_cons, List.not_mem_nil, or_false] at htm
    subst htm
    exact hla.2 _ (by simp [kd])))⟩
   have hg' : I4 [] (kd [g] 0) = some (.mk 5 [C, D]) := hg
   rcases h11 with rfl | rfl
   ·rw [if_neg (by decide)] at hT; subst hT
    exact A2c (B0z (k := 11) (.inl rfl) (by rw [if_neg (by decide)]; exact hC) hg')
   ·rw [if_pos rfl] at hT; subst hT
    exact A2c (B0z (k := 12) (.inr rfl) (by rw [if_pos rfl]; exact hD) hg')
 rw [if_neg h11]
 by_cases h14 : k = 14
 ·subst h14
  obtain ⟨a, rfl⟩ := Z6 (ks := ks) (by have : D9 14 = 1 := rfl; omega)
  obtain ⟨ha, rfl⟩ := A4I ht
  have hva : E4 a = true := hval 0 (by simp) (by simp)
  have hca := hkk a (by simp)
  have hla := hlk a (by simp)
  have hlb := hl14 rfl
  obtain ⟨hcons, htv, hfv⟩ := hN.c14 rfl
  rw [if_pos rfl]
  have hnp : ¬(fr.k = T.k ∧ (T.k = 4 ∨ T.k = 5)) := by
   intro hh
   rw [A3R (.inr (.inl (by rw [A05]; exact decide_eq_true ⟨rfl, hh⟩))), List.all_cons, hva] at hnv
   cases hnv
  by_cases h1 : fr.k = T.k
  ·rw [if_pos h1]
   refine .inl ⟨rfl, ?_, hla⟩
   show I4 [] a = some T
   rw [ha]
   obtain ⟨fk, fs⟩ := fr
   obtain ⟨tk, ts⟩ := T
   obtain rfl : fk = tk := h1
   obtain ⟨_, rfl⟩ := A7f hfv (fun e => hnp ⟨rfl, .inl e⟩) (fun e => hnp ⟨rfl, .inr e⟩)
   obtain ⟨_, rfl⟩ := A7f htv (fun e => hnp ⟨rfl, .inl e⟩) (fun e => hnp ⟨rfl, .inr e⟩)
   rfl
  ·rw [if_neg h1]
   by_cases h2 : T.k = 1
   ·rw [if_pos h2]
    exact .inl ⟨rfl, A2c (A2c ha), A3e hlb (A3e hlb hla)⟩
   ·rw [if_neg h2]
    by_cases h3 : R9 T = false
    ·rw [if_pos h3]
     exact .inl ⟨rfl, A2c (A2c ha), A3e hlb (A3e hlb hla)⟩
    ·rw [if_neg h3]
     have hfr1 : fr.k = 1 := by
      obtain ⟨fk, fs⟩ := fr
      obtain ⟨tk, ts⟩ := T
      rw [V3] at hcons
      simp only [Bool.or_eq_true, Bool.and_eq_true, decide_eq_true_eq] at hcons
      rcases hcons with (h | h) | h
      ·exact h
      ·exact absurd h h2
      ·exact absurd h.1 h1
     have hi := (A3V hva ha hca).2.2.2.2 hfr1
     rw [if_neg (by rw [show kd [a] 0 = a from rfl, hi]; decide)]
     have hg : R9 T = true := by cases h : R9 T with | true => rfl | false => exact absurd h h3
     obtain ⟨fk, fnm, fnum, fty, ffr, flb, fks⟩ := a
     obtain ⟨hNf, _⟩ := hca.node
     have hopf := hNf.ops
     rw [A0x, A07] at hla
     have hgi := A7n hi
     obtain rfl : fk = 14 := A4P hi
     obtain ⟨g, rfl⟩ := Z6 (ks := fks) (by have : D9 14 = 1 := rfl; omega)
     obtain ⟨hgt, _⟩ := A4I ha
     show A3f L T (if ffr.k = T.k then (kd [g] 0, 1, 0) else (J7, 2, lb))
     by_cases h4 : ffr.k = T.k
     ·rw [if_pos h4]
      refine .inl ⟨rfl, ?_, hla.2 g (by simp)⟩
      show I4 [] g = some T
      rw [hgt]
      congr 1
      exact (B1a hgi).trans ((B6L h4).trans (B1a hg).symm)
     ·rw [if_neg h4]
      exact .inr ⟨rfl, hlb⟩
 ·exfalso
  obtain rfl : k = 1 := by omega
  have hks : ks = [] := List.length_eq_zero_iff.1 (by have : D9 1 = 0 := rfl; omega)
  subst hks
  have := B0B ht
  simp [Q1, W7] at this
theorem B6N {L : Int → Prop} {ks : List Tm} {i : Nat} {u : Tm} (h : ∀ t ∈ ks, W9 L t) (hu : W9 L u) : ∀ t ∈ ks.set i u, W9 L t := by
 intro t ht
 rcases List.mem_or_eq_of_mem_set ht with h1 | h1
 ·exact h t h1
 ·rw [h1]; exact hu
theorem B6O (L : Int → Prop) (hL : ∀ l, L l → L (-l)) : ∀ (e : Tm) (T : Ty), cv e → E4 e = false → I4 [] e = some T → W9 L e → A3f L T (F0 e) := by
 refine Tm.ind fun k nm num ty fr lb ks ih T hc hv ht hlb => ?_
 obtain ⟨hN, hkk⟩ := hc.node
 by_cases hall : ∀ i, i < (if k = 9 then 1 else ks.length) → (hl : i < ks.length) → E4 ks[i] = true
 ·have h8 := A7p hc hv hall
  have := B6M L hL hc h8 hv hall ht hlb
  rw [F0, A5Q _ _ hall]
  exact this
 ·
  have hex : ∃ i, ∃ (hl : i < ks.length), i < (if k = 9 then 1 else ks.length) ∧ E4 ks[i] = false ∧ ∀ j, j < i → (h : j < ks.length) → E4 ks[j] = true := by
   have h0 : ∃ i, ∃ (hl : i < ks.length), i < (if k = 9 then 1 else ks.length) ∧ E4 ks[i] = false := by
    apply Classical.byContradiction
    intro hn
    exact hall fun i hi hl => by
     cases h : E4 ks[i] with
     | true => rfl
     | false => exact absurd ⟨i, hl, hi, h⟩ hn
   obtain ⟨i, h1⟩ := h0
   induction i using Nat.strongRecOn with
   | _ i ih2 =>
    obtain ⟨hl, hi, hvi⟩ := h1
    by_cases hj : ∃ j, j < i ∧ ∃ (h : j < ks.length), E4 ks[j] = false
    ·obtain ⟨j, hji, hjl, hjv⟩ := hj
     exact ih2 j hji ⟨hjl, by omega, hjv⟩
    ·refine ⟨i, hl, hi, hvi, fun j hji hjl => ?_⟩
     cases h : E4 ks[j] with
     | true => rfl
     | false => exact absurd ⟨j, hji, hjl, h⟩ hj
  obtain ⟨i, hl, hi, hvi, hbe⟩ := hex
  obtain ⟨s1, s2, s3⟩ := @B01 k nm num ty fr lb ks i hl hi hbe hvi
  have hk5 : k ≠ 5 := by
   rintro rfl
   rw [E4, if_neg (by omega)] at hv
   exact absurd hv (by decide)
  have hlb2 := (A0x.1 hlb).2
  rw [A07] at hlb2
  rw [I4] at ht
  split at ht
  ·cases ht
  ·rename_i us hu
   rw [K1, if_neg hk5] at hu
   obtain ⟨U, hU, hset⟩ := B0o hu i hl
   have hg := ih ks[i] (List.getElem_mem hl) U (hkk _ (List.getElem_mem hl)) hvi hU (hlb2 _ (List.getElem_mem hl))
   unfold A3f
   rw [s1, s2]
   rcases hg with ⟨g1, g2, g3⟩ | ⟨g1, g2⟩
   ·refine .inl ⟨g1, ?_, ?_⟩
    ·rw [s3 g1, I4, K1, if_neg hk5, hset _ g2]
     exact ht
    ·rw [s3 g1, A0x]
     exact ⟨(A0x.1 hlb).1, A07.2 (B6N hlb2 g3)⟩
   ·exact .inr ⟨g1, g2⟩
theorem B1b (L : Int → Prop) (hL : ∀ l, L l → L (-l)) (e : Tm) (T : Ty) (hc : M5 e = true) (ht : I4 [] e = some T) (hl : W9 L e) :
  (H4 e = (e, 0, 0) ∧ E4 e = true) ∨ (∃ l, H4 e = (J7, 2, l) ∧ L l) ∨ H4 e = (J7, 4, 0) ∨ (∃ u, H4 e = (u, 1, 0) ∧ M5 u = true ∧ I4 [] u = some T ∧ W9 L u) := by
 cases hv : E4 e with
 | true => exact .inl ⟨A4R hc hv, rfl⟩
 | false =>
  rcases B6O L hL e T (A03 hc).1 hv ht hl with ⟨g1, g2, g3⟩ | ⟨g1, g2⟩
  ·cases hcv : M5 (F0 e).1 with
   | false => exact .inr (.inr (.inl (A4T hc hv g1 hcv)))
   | true => exact .inr (.inr (.inr ⟨_, A4U hc hv g1 hcv, hcv, g2, g3⟩))
  ·exact .inr (.inl ⟨(F0 e).2.2, by rw [A4S hc hv (by omega), g1], g2⟩)
theorem A7y (L : Int → Prop) (hL : ∀ l, L l → L (-l)) : ∀ (n : Nat) (e : Tm) (T : Ty), M5 e = true → I4 [] e = some T → W9 L e →
  ((K3 n e).2.1 = 0 ∧ (K3 n e).2.2.1 = 0 ∧ I4 [] (K3 n e).1 = some T ∧ E4 (K3 n e).1 = true ∧ M5 (K3 n e).1 = true) ∨ ((K3 n e).2.1 = 2 ∧ L (K3 n e).2.2.1) ∨ ((K3 n e).2.1 = 4 ∧ (K3 n e).2.2.1 = 0) ∨ ((K3 n e).2.1 = 5 ∧ (K3 n e).2.2.1 = 0)
 | 0, e, T, hc, ht, hl => by
  rcases B1b L hL e T hc ht hl with ⟨h, hv⟩ | ⟨l, h, hl⟩ | h | ⟨u, h, hu1, hu2, hu3⟩
  ·simp [K3, h, ht, hv, hc]
  ·simp [K3, h, hl]
  ·simp [K3, h]
  ·simp [K3, h]
 | n + 1, e, T, hc, ht, hl => by
  rcases B1b L hL e T hc ht hl with ⟨h, hv⟩ | ⟨l, h, hl⟩ | h | ⟨u, h, hu1, hu2, hu3⟩
  ·simp [K3, h, ht, hv, hc]
  ·simp [K3, h, hl]
  ·simp [K3, h]
  ·have ih := A7y L hL n u T hu1 hu2 hu3
   simpa only [K3, h, if_true] using ih
mutual
theorem B1c : ∀ a b : Ty, K6 a b = true → K6 b a = true
 | .mk k ks, .mk k' ks', h => by
  rw [V3] at h ⊢
  simp only [Bool.or_eq_true, Bool.and_eq_true, decide_eq_true_eq] at h ⊢
  rcases h with (h | h) | h
  ·exact .inl (.inr h)
  ·exact .inl (.inl h)
  ·exact .inr ⟨h.1.symm, B1d ks ks' h.2⟩
theorem B1d : ∀ xs ys : List Ty, O0 xs ys = true → O0 ys xs = true
 | [], [], _ => rfl
 | [], b :: ys, h => by simp [O0] at h
 | a :: xs, [], h => by simp [O0] at h
 | a :: xs, b :: ys, h => by
  simp only [O0, Bool.and_eq_true] at h ⊢
  exact ⟨B1c a b h.1, B1d xs ys h.2⟩
end
mutual
theorem B1e : ∀ a b : Ty, K6 a b = true → K6 a (V6 a b) = true ∧ K6 b (V6 a b) = true
 | .mk k ks, .mk k' ks', h => by
  rw [A1n]
  by_cases h1 : k = 1
  ·rw [if_pos h1]
   exact ⟨h, A2u _⟩
  ·rw [if_neg h1]
   by_cases h2 : k' = 1
   ·rw [if_pos h2]
    exact ⟨A2u _, B1c _ _ h⟩
   ·rw [if_neg h2]
    rw [V3] at h
    simp only [Bool.or_eq_true, Bool.and_eq_true, decide_eq_true_eq] at h
    have h3 : k = k' ∧ O0 ks ks' = true := by
     rcases h with (h | h) | h
     ·exact absurd h h1
     ·exact absurd h h2
     ·exact h
    obtain ⟨m1, m2⟩ := B1f ks ks' h3.2
    rw [V3, V3, m1, m2]
    simp [h3.1]
theorem B1f : ∀ xs ys : List Ty, O0 xs ys = true → O0 xs (T7 xs ys) = true ∧ O0 ys (T7 xs ys) = true
 | [], [], _ => ⟨rfl, rfl⟩
 | [], b :: ys, h => by simp [O0] at h
 | a :: xs, [], h => by simp [O0] at h
 | a :: xs, b :: ys, h => by
  simp only [O0, Bool.and_eq_true] at h
  obtain ⟨m1, m2⟩ := B1e a b h.1
  obtain ⟨m3, m4⟩ := B1f xs ys h.2
  simp only [T7, O0, m1, m2, m3, m4]
  exact ⟨rfl, rfl⟩
end
theorem B6P {k : Int} {a b : Ty} (hk : k = 4 ∨ k = 5) (h : F4 (.mk k [a, b]) = true) : F4 a = true ∧ F4 b = true := by
 obtain ⟨x, y, he, h1, h2⟩ := A3P hk h
 cases he
 exact ⟨h1, h2⟩
theorem B6Q {k : Int} (hk : k = 4 ∨ k = 5) : F4 (.mk k [R4, R4]) = true := by rcases hk with rfl | rfl <;> decide
theorem B1g {k : Int} {t a b : Ty} (hk : k = 4 ∨ k = 5) (ht : F4 t = true) (h : S1 k t = some (a, b)) : F4 (.mk k [a, b]) = true ∧ K6 t (.mk k [a, b]) = true := by
 obtain ⟨tk, ks⟩ := t
 rw [A1s] at h
 by_cases he : tk = k
 ·subst he
  rw [if_pos rfl] at h
  obtain ⟨x, y, rfl, _, _⟩ := A3P hk ht
  cases h
  exact ⟨ht, A2u _⟩
 ·rw [if_neg he] at h
  by_cases h1 : tk = 1
  ·rw [if_pos h1] at h
   cases h
   refine ⟨B6Q hk, ?_⟩
   rw [V3, h1]; rfl
  ·rw [if_neg h1] at h; cases h
structure Wt (cx : Cx) (k : Int) (nm : ByteArray) (ty : Ty) (h w : List Ty) (t : Ty) : Prop where
 len : w = [] ∨ w.length = h.length
 ok : ∀ i, (hi : i < w.length) → (hh : i < h.length) → K6 h[i] w[i] = true ∧ F4 w[i] = true
 again : k ≠ 13 → J6 cx k nm ty (if w = [] then h else w) = some (w, t)
 asT : k = 13 → w = [t]
theorem B1h {cx : Cx} {k : Int} {nm : ByteArray} {ty : Ty} {h w : List Ty} {t : Ty} (hh : ∀ a ∈ h, F4 a = true) (hty : k = 13 → F4 ty = true) (hn : D9 k = (h.length : Int)) (h14 : k ≠ 14) (hw : J6 cx k nm ty h = some (w, t)) : Wt cx k nm ty h w t := by
 have hkr := A4Q (by rw [hn]; omega : 0 ≤ D9 k)
 have hkk : k = 1 ∨ k = 2 ∨ (k = 3 ∨ k = 4) ∨ k = 5 ∨ k = 6 ∨ (k = 7 ∨ k = 8) ∨ k = 9 ∨ k = 10 ∨ (k = 11 ∨ k = 12) ∨ k = 13 := by omega
 have nil : w = [] → k ≠ 13 → Wt cx k nm ty h w t := by
  rintro rfl h13
  exact ⟨.inl rfl, fun i hi => by simp at hi, fun _ => by rw [if_pos rfl]; exact hw, fun h => absurd h h13⟩
 rcases hkk with rfl | rfl | hk | rfl | rfl | hk | rfl | rfl | hk | rfl
 ·refine nil ?_ (by decide)
  rw [mW1] at hw; split at hw <;> cases hw; rfl
 ·refine nil ?_ (by decide)
  rw [mW2] at hw; cases hw; rfl
 ·refine nil ?_ (by omega)
  rw [A4C hk] at hw; cases hw; rfl
 ·refine nil ?_ (by decide)
  rw [mW5] at hw; cases hw; rfl
 ·match h, (show h.length = 2 by have : D9 6 = 2 := rfl; omega) with
  | [x, y], _ =>
  rw [mW6] at hw
  simp only [List.getD_cons_zero, List.getD_cons_succ] at hw
  split at hw
  ·rename_i a b hm
   split at hw
   ·rename_i hc
    cases hw
    obtain ⟨v1, v2⟩ := B1g (.inl rfl) (hh x (by simp)) hm
    obtain ⟨v3, v4⟩ := B6P (.inl rfl) v1
    refine ⟨.inr rfl, fun i hi hi2 => ?_, fun _ => ?_, fun h => absurd h (by decide)⟩
    ·match i, hi with
     | 0, _ => exact ⟨v2, v1⟩
     | 1, _ => exact ⟨hc, v3⟩
    ·rw [if_neg (by simp), mW6]
     simp only [List.getD_cons_zero, List.getD_cons_succ, A1s, if_true, A2u]
   ·cases hw
  ·cases hw
 ·match h, (show h.length = 2 by rcases hk with rfl | rfl <;> (first | (have : D9 7 = 2 := rfl; omega) | (have : D9 8 = 2 := rfl; omega))) with
  | [x, y], _ =>
  rw [X3 hk] at hw
  simp only [List.getD_cons_zero, List.getD_cons_succ] at hw
  split at hw
  ·rename_i hc
   cases hw
   refine ⟨.inr rfl, fun i hi hi2 => ?_, fun _ => ?_, fun h => by omega⟩
   ·match i, hi with
    | 0, _ => exact ⟨hc.1, (show F4 Q9 = true by decide)⟩
    | 1, _ => exact ⟨hc.2, (show F4 Q9 = true by decide)⟩
   ·rw [if_neg (by simp), X3 hk]
    simp only [List.getD_cons_zero, List.getD_cons_succ, A2u, and_self, if_true]
  ·cases hw
 ·match h, (show h.length = 3 by have : D9 9 = 3 := rfl; omega) with
  | [x, y, z], _ =>
  rw [mW9] at hw
  simp only [List.getD_cons_zero, List.getD_cons_succ] at hw
  split at hw
  ·rename_i hc
   cases hw
   obtain ⟨c1, c2⟩ := B1e y z hc.2
   have vm := A7b y z 1 hc.2 (hh y (by simp)) (hh z (by simp))
   refine ⟨.inr rfl, fun i hi hi2 => ?_, fun _ => ?_, fun h => absurd h (by decide)⟩
   ·match i, hi with
    | 0, _ => exact ⟨hc.1, (show F4 U9 = true by decide)⟩
    | 1, _ => exact ⟨c1, vm⟩
    | 2, _ => exact ⟨c2, vm⟩
   ·rw [if_neg (by simp), mW9]
    simp only [List.getD_cons_zero, List.getD_cons_succ, A2u, and_self, if_true, B0u]
  ·cases hw
 ·refine nil ?_ (by decide)
  rw [A5D] at hw; cases hw; rfl
 ·match h, (show h.length = 1 by rcases hk with rfl | rfl <;> (first | (have : D9 11 = 1 := rfl; omega) | (have : D9 12 = 1 := rfl; omega))) with
  | [x], _ =>
  rw [A3N hk] at hw
  simp only [List.getD_cons_zero] at hw
  split at hw
  ·rename_i a b hm
   cases hw
   obtain ⟨v1, v2⟩ := B1g (.inr rfl) (hh x (by simp)) hm
   refine ⟨.inr rfl, fun i hi hi2 => ?_, fun _ => ?_, fun h => by omega⟩
   ·match i, hi with
    | 0, _ => exact ⟨v2, v1⟩
   ·rw [if_neg (by simp), A3N hk]
    simp only [List.getD_cons_zero, List.getD_cons_succ, A1s, if_true]
  ·cases hw
 ·match h, (show h.length = 1 by have : D9 13 = 1 := rfl; omega) with
  | [x], _ =>
  rw [A28] at hw
  simp only [List.getD_cons_zero] at hw
  split at hw
  ·rename_i hc
   cases hw
   refine ⟨.inr rfl, fun i hi hi2 => ?_, fun h => absurd rfl h, fun _ => rfl⟩
   match i, hi with
   | 0, _ => exact ⟨hc, hty rfl⟩
  ·cases hw
theorem B6R {l : Int} (h1 : 1 ≤ l) (h2 : l ≤ 99) : A1g l = true := by
 unfold A1g
 rw [A4A.2 ⟨h1, h2⟩]; rfl
theorem B6S {u : Tm} {a b : Ty} {l D : Int} (hu : N5 40 13 u (D + 1) = true) (hc : K6 a b = true) (ha : F4 a = true) (hb : F4 b = true) (h1 : 1 ≤ l) (h2 : l ≤ 99) (hD : D ≤ 40) : N5 40 13 (K5 u a b l) D = true := by
 unfold K5
 rw [A2Y hD (by decide) (V8.2 ⟨rfl, by simp, fun _ => rfl, by simp, fun _ => rfl, fun _ => hb, by simp, fun _ => ⟨by simp [A2j, ha, hb, hc], B6R h1 h2⟩, by simp⟩)]
 simp [N7, hu]
theorem A7z {cx : Cx} : ∀ (us : List Tm) (h w : List Ty) (l D : Int), us.length = h.length → w.length = h.length → (∀ i, (hi : i < w.length) → (hh : i < h.length) → K6 h[i] w[i] = true ∧ F4 w[i] = true) → (∀ a ∈ h, F4 a = true) → N0 cx us = some h → N7 40 13 us (D + 1) = true → 0 ≤ l → (E9 us h w l).2 ≤ 99 → D ≤ 40 →
  N0 cx (E9 us h w l).1 = some w ∧ N7 40 13 (E9 us h w l).1 D = true ∧ (E8 (E9 us h w l).1 : Int) = E8 us + ((E9 us h w l).2 - l)
 | [], [], [], l, D, _, _, _, _, ht, _, _, _, _ => by simp [E9, N0, N7, E8]
 | [], a :: h, w, l, D, hl, _, _, _, _, _, _, _, _ => by simp at hl
 | u :: us, [], w, l, D, hl, _, _, _, _, _, _, _, _ => by simp at hl
 | [], [], b :: w, l, D, _, hl, _, _, _, _, _, _, _ => by simp at hl
 | u :: us, a :: h, [], l, D, _, hl, _, _, _, _, _, _, _ => by simp at hl
 | u :: us, a :: h, b :: w, l, D, h1, h2, hw, hv, ht, hs, hl, h99, hD => by
  rw [N0] at ht
  split at ht
  ·cases ht
  ·rename_i a' ha
   split at ht
   ·cases ht
   ·rename_i h' hh'
    simp only [Option.some.injEq, List.cons.injEq] at ht
    obtain ⟨rfl, rfl⟩ := ht
    rw [N7, Bool.and_eq_true] at hs
    obtain ⟨c1, c2⟩ := hw 0 (by simp) (by simp)
    have hw' : ∀ i, (hi : i < w.length) → (hh : i < h'.length) → K6 h'[i] w[i] = true ∧ F4 w[i] = true := fun i hi hh => hw (i + 1) (by simpa using hi) (by simpa using hh)
    have hv' : ∀ x ∈ h', F4 x = true := fun x hx => hv x (List.mem_cons_of_mem _ hx)
    simp only [E9] at h99 ⊢
    by_cases he : N3 a' b = true
    ·simp only [if_pos he] at h99 ⊢
     obtain ⟨i1, i2, i3⟩ := A7z us h' w l D (by simpa using h1) (by simpa using h2) hw' hv' hh' hs.2 hl h99 hD
     have hab := (Z2 _ _).1 he
     subst hab
     refine ⟨by rw [N0, ha, i1], ?_, ?_⟩
     ·rw [N7, Bool.and_eq_true]; exact ⟨A7a 40 13 u (D + 1) D (by omega) hs.1, i2⟩
     ·simp only [E8]; omega
    ·simp only [if_neg he] at h99 ⊢
     obtain ⟨i1, i2, i3⟩ := A7z us h' w (l + 1) D (by simpa using h1) (by simpa using h2) hw' hv' hh' hs.2 (by omega) h99 hD
     have hlab := A1E us h' w (l + 1)
     refine ⟨by rw [N0, K5, A2c ha, i1], ?_, ?_⟩
     ·rw [N7, Bool.and_eq_true]
      exact ⟨B6S hs.1 c1 (hv a' List.mem_cons_self) c2 (by omega) (by omega) hD, i2⟩
     ·simp only [E8, A2r]; omega
def B1i (cx : Cx) (t : Tm) (D l : Int) (u : Tm) (a : Ty) (l' : Int) : Prop := N5 40 13 u D = true ∧ I4 cx u = some a ∧ F4 a = true ∧ l ≤ l' ∧ l' + 1 ≤ l + (D1 t : Int) ∧ (D1 u : Int) ≤ D1 t + (l' - l)
theorem A7A (ks : List Tm) (ih : ∀ t ∈ ks, ∀ (d D : Int) (cx : Cx) (l : Int) (u : Tm) (a : Ty) (l' : Int), N5 12 14 t d = true → cxV cx → 0 ≤ l → M8 cx t l = some (u, a, l') → l' ≤ 99 → D + 2 * (13 - d) ≤ 41 → B1i cx t D l u a l') :
  ∀ (d D : Int) (cx : Cx) (l : Int) (us : List Tm) (h : List Ty) (l' : Int), N7 12 14 ks d = true → cxV cx → 0 ≤ l → L6 cx ks l = some (us, h, l') → l' ≤ 99 → D + 2 * (13 - d) ≤ 41 →
   N7 40 13 us D = true ∧ N0 cx us = some h ∧ (∀ a ∈ h, F4 a = true) ∧ l ≤ l' ∧ l' + ks.length ≤ l + (E8 ks : Int) ∧ (E8 us : Int) ≤ E8 ks + (l' - l) ∧ h.length = ks.length ∧ us.length = ks.length := by
 induction ks with
 | nil =>
  intro d D cx l us h l' _ _ _ he _ _
  simp only [L6, Option.some.injEq, Prod.mk.injEq] at he
  obtain ⟨rfl, rfl, rfl⟩ := he
  simp [N7, N0, E8]
 | cons t ts ihl =>
  intro d D cx l us h l' hs hcx hl he h99 hD
  rw [N7, Bool.and_eq_true] at hs
  rw [L6] at he
  split at he
  ·cases he
  ·rename_i u a l1 h1
   split at he
   ·cases he
   ·rename_i us' h' l2 h2
    simp only [Option.some.injEq, Prod.mk.injEq] at he
    obtain ⟨rfl, rfl, rfl⟩ := he
    have hp := A6w t
    
    have hmono : l1 ≤ l2 := by
     have : ∀ (zs : List Tm) (l : Int) us h l', L6 cx zs l = some (us, h, l') → l ≤ l' := by
      intro zs
      induction zs with
      | nil => intro l us h l' he; simp only [L6, Option.some.injEq, Prod.mk.injEq] at he; omega
      | cons z zs ihz =>
       intro l us h l' he
       rw [L6] at he
       split at he
       ·cases he
       ·rename_i u a l1 hz
        split at he
        ·cases he
        ·rename_i us' h' l2 hzs
         simp only [Option.some.injEq, Prod.mk.injEq] at he
         have := ihz _ _ _ _ hzs
         have := el_mono cx z l _ _ _ hz
         omega
     exact this ts l1 us' h' l2 h2
    obtain ⟨a1, a2, a3, a4, a5, a6⟩ := ih t List.mem_cons_self d D cx l u a l1 hs.1 hcx hl h1 (by omega) hD
    obtain ⟨b1, b2, b3, b4, b5, b6, b7, b8⟩ := ihl (fun x hx => ih x (List.mem_cons_of_mem _ hx)) d D cx l1 us' h' l2 hs.2 hcx (by omega) h2 h99 hD
    refine ⟨by rw [N7, a1, b1]; rfl, by rw [N0, a2, b2], ?_, by omega, ?_, ?_, by simp [b7], by simp [b8]⟩
    ·intro x hx
     rcases List.mem_cons.1 hx with h | h
     ·rw [h]; exact a3
     ·exact b3 x h
    ·simp only [E8, List.length_cons]; omega
    ·simp only [E8]; omega
where
 el_mono (cx : Cx) : ∀ (z : Tm) (l : Int) (u : Tm) (a : Ty) (l' : Int), M8 cx z l = some (u, a, l') → l ≤ l' := by
  intro z
  revert cx
  refine Tm.ind (C := fun z => ∀ (cx : Cx) (l : Int) (u : Tm) (a : Ty) (l' : Int), M8 cx z l = some (u, a, l') → l ≤ l') ?_ z
  intro k nm num ty fr lb ks ih cx l u a l' he
  rw [M8] at he
  have hL : ∀ (zs : List Tm), (∀ t ∈ zs, t ∈ ks) → ∀ (cx : Cx) (l : Int) us h l', L6 cx zs l = some (us, h, l') → l ≤ l' := by
   intro zs
   induction zs with
   | nil => intro _ cx l us h l' he; simp only [L6, Option.some.injEq, Prod.mk.injEq] at he; omega
   | cons z zs ihz =>
    intro hin cx l us h l' he
    rw [L6] at he
    split at he
    ·cases he
    ·rename_i u a l1 hz
     split at he
     ·cases he
     ·rename_i us' h' l2 hzs
      simp only [Option.some.injEq, Prod.mk.injEq] at he
      have := ihz (fun t ht => hin t (List.mem_cons_of_mem _ ht)) _ _ _ _ _ hzs
      have := ih z (hin z List.mem_cons_self) _ l _ _ _ hz
      omega
  split at he
  ·cases he
  ·rename_i us h l1 hk
   have h1 := hL ks (fun _ h => h) _ _ _ _ _ hk
   unfold R2 at he
   split at he
   ·cases he
   ·rename_i w t hn
    simp only [Option.some.injEq, Prod.mk.injEq] at he
    have := A1E us h w l1
    omega
theorem B6T : ∀ (t : Tm) (d D : Int) (cx : Cx) (l : Int) (u : Tm) (a : Ty) (l' : Int), N5 12 14 t d = true → cxV cx → 0 ≤ l → M8 cx t l = some (u, a, l') → l' ≤ 99 → D + 2 * (13 - d) ≤ 41 → B1i cx t D l u a l' := by
 refine Tm.ind fun k nm num ty fr lb ks ih d D cx l u a l' hs hcx hl he h99 hD => ?_
 obtain ⟨hd, h14, h3, h4⟩ := A0R hs
 obtain ⟨n1, n2, n3, n4, n5, n6, n7, n8, n9⟩ := V8.1 h3
 rw [M8] at he
 split at he
 ·cases he
 ·rename_i us h l1 hL
  unfold R2 at he
  split at he
  ·cases he
  ·rename_i w t hN
   simp only [Option.some.injEq, Prod.mk.injEq] at he
   obtain ⟨hu, rfl, rfl⟩ := he
   have hlab := A1E us h w l1
   obtain ⟨b1, b2, b3, b4, b5, b6, b7, b8⟩ := A7A ks ih (d + 1) (D + 2) (K1 cx k nm ty) l us h l1 h4 (A4G hcx fun hk => n6 (.inl hk)) hl hL (by omega) (by omega)
   obtain ⟨hv, hw⟩ := A4D hN
   have hwt := B1h b3 (fun hk => n6 (.inr (.inl hk))) (by rw [b7]; exact n1) h14 hw
   
   obtain ⟨c1, c2, c3⟩ : N0 (K1 cx k nm ty) (E9 us h w l1).1 = some (if w = [] then h else w) ∧ N7 40 13 (E9 us h w l1).1 (D + 1) = true ∧ (E8 (E9 us h w l1).1 : Int) = E8 us + ((E9 us h w l1).2 - l1) := by
    rcases hwt.len with hn | hn
    ·subst hn
     rw [W1, if_pos rfl]
     refine ⟨b2, ?_, by simp⟩
     exact A5F 40 13 us (D + 2) (D + 1) (by omega) b1
    ·by_cases hn0 : w = []
     ·subst hn0
      rw [W1, if_pos rfl]
      refine ⟨b2, ?_, by simp⟩
      exact A5F 40 13 us (D + 2) (D + 1) (by omega) b1
     ·rw [if_neg hn0]
      exact A7z us h w l1 (D + 1) (by omega) hn hwt.ok b3 b2 (by rw [show D + 1 + 1 = D + 2 by omega]; exact b1) (by omega) h99 (by omega)
   have hlm := A2d us h w l1
   have hck : D1 (.mk k nm num ty fr lb ks) = E8 ks + 1 := Z4 ..
   refine ⟨?_, ?_, hv, by omega, by rw [hck]; omega, ?_⟩
   ·rw [← hu]
    split
    ·rename_i hk
     have hl1 : ks.length = 1 := by rw [hk] at n1; have : D9 13 = 1 := rfl; omega
     have h0 : 0 < (E9 us h w l1).1.length := by omega
     rw [getD0' h0]
     have := (A1A 40 13 _ _).1 c2 0 h0
     exact A7a 40 13 _ (D + 1) D (by omega) this
    ·rename_i hk
     rw [A2Y (by omega) hk (by rw [hlm, b8]; exact h3)]
     exact c2
   ·rw [← hu]
    split
    ·rename_i hk
     have hl1 : ks.length = 1 := by rw [hk] at n1; have : D9 13 = 1 := rfl; omega
     have h0 : 0 < (E9 us h w l1).1.length := by omega
     rw [getD0' h0]
     rw [hwt.asT hk, if_neg (by simp)] at c1
     rw [K1, if_neg (by omega)] at c1
     rw [← hwt.asT hk] at c1
     obtain ⟨x, hx⟩ : ∃ x, (E9 us h w l1).1 = [x] := by
      match hm : (E9 us h w l1).1, (show (E9 us h w l1).1.length = 1 by omega) with
      | [x], _ => exact ⟨x, rfl⟩
     simp only [hx, List.getElem_cons_zero] at c1 ⊢
     obtain ⟨y, hy, he⟩ := A4H c1
     rw [hwt.asT hk] at he
     cases he; exact hy
    ·rename_i hk
     refine A7d c1 h14 hv (hwt.again hk) ?_
     by_cases hn0 : w = []
     ·rw [hn0]; rfl
     ·rw [if_neg hn0]; exact A5H w
   ·rw [← hu, hck]
    split
    ·rename_i hk
     have hl1 : ks.length = 1 := by rw [hk] at n1; have : D9 13 = 1 := rfl; omega
     have h0 : 0 < (E9 us h w l1).1.length := by omega
     rw [getD0' h0]
     have := A6v (List.getElem_mem h0)
     omega
    ·rw [Z4]; omega
where
 getD0' {us : List Tm} (h : 0 < us.length) : us.getD 0 J7 = us[0] := by rw [List.getD_eq_getElem?_getD, List.getElem?_eq_getElem h, Option.getD_some]
theorem B1j : ∀ (t : Tm) (d : Int) (cx : Cx) (l : Int) (u : Tm) (a : Ty) (l' : Int), N5 12 14 t d = true → M8 cx t l = some (u, a, l') → l' + 1 ≤ l + (D1 t : Int) := by
 refine Tm.ind fun k nm num ty fr lb ks ih d cx l u a l' hs he => ?_
 obtain ⟨hd, h14, h3, h4⟩ := A0R hs
 obtain ⟨n1, _⟩ := V8.1 h3
 have hL : ∀ (zs : List Tm), (∀ t ∈ zs, t ∈ ks) → N7 12 14 zs (d + 1) = true → ∀ (cx : Cx) (l : Int) us h l', L6 cx zs l = some (us, h, l') → l' + zs.length ≤ l + (E8 zs : Int) ∧ us.length = zs.length := by
  intro zs
  induction zs with
  | nil => intro _ _ cx l us h l' he; simp only [L6, Option.some.injEq, Prod.mk.injEq] at he; obtain ⟨rfl, _, rfl⟩ := he; simp [E8]
  | cons z zs ihz =>
   intro hin hsz cx l us h l' he
   rw [N7, Bool.and_eq_true] at hsz
   rw [L6] at he
   split at he
   ·cases he
   ·rename_i u a l1 hz
    split at he
    ·cases he
    ·rename_i us' h' l2 hzs
     simp only [Option.some.injEq, Prod.mk.injEq] at he
     obtain ⟨rfl, rfl, rfl⟩ := he
     have h5 := ihz (fun t ht => hin t (List.mem_cons_of_mem _ ht)) hsz.2 _ _ _ _ _ hzs
     have h6 := ih z (hin z List.mem_cons_self) (d + 1) _ l _ _ _ hsz.1 hz
     simp only [E8, List.length_cons]
     exact ⟨by omega, by omega⟩
 rw [M8] at he
 split at he
 ·cases he
 ·rename_i us h l1 hk
  obtain ⟨g1, g2⟩ := hL ks (fun _ h => h) h4 _ _ _ _ _ hk
  unfold R2 at he
  split at he
  ·cases he
  ·rename_i w t hn
   simp only [Option.some.injEq, Prod.mk.injEq] at he
   have := A1E us h w l1
   have hck : D1 (.mk k nm num ty fr lb ks) = E8 ks + 1 := Z4 ..
   rw [hck]; omega
theorem A2z {e u : Tm} {t : Ty} (h : O8 e = some (u, t)) : M5 u = true ∧ I4 [] u = some t ∧ F4 t = true := by
 unfold O8 at h
 split at h
 ·rename_i hv
  obtain ⟨h1, h2⟩ := (A1p e).1 hv
  split at h
  ·rename_i u' t' l' he
   cases h
   have hl : l' ≤ 99 := by
    have := A7A.el_mono [] e 0 _ _ _ he
    have h3 : ∀ (t : Tm) (cx : Cx) (l : Int) (u : Tm) (a : Ty) (l' : Int), M8 cx t l = some (u, a, l') → l' ≤ l + 4 * (D1 t : Int) → True := fun _ _ _ _ _ _ _ _ => trivial
    exact el_lab e 1 h1 (by omega) he
   obtain ⟨g1, g2, g3, g4, g5, g6⟩ := B6T e 1 1 [] 0 u t l' h1 A4F (by omega) he hl (by omega)
   exact ⟨(A6Q u).2 ⟨g1, by omega⟩, g2, g3⟩
  ·cases h
 ·cases h
where
 el_lab (e : Tm) (d : Int) (h1 : N5 12 14 e d = true) (h2 : D1 e ≤ 30) {u : Tm} {t : Ty} {l' : Int} (he : M8 [] e 0 = some (u, t, l')) : l' ≤ 99 := by
  have := B1j e d [] 0 u t l' h1 he
  omega
def B9t (k : Int) : Bool := decide (k = 5 ∨ k = 13)
inductive MV where
 | mk (k num : Int) (env parts : List MV)
def MV.k : MV → Int | .mk k _ _ _ => k
def MV.num : MV → Int | .mk _ n _ _ => n
def MV.env : MV → List MV | .mk _ _ e _ => e
def MV.parts : MV → List MV | .mk _ _ _ p => p
def mv0 : MV := .mk 0 0 [] []
mutual
def RMv (kc : Int → Int) (G : IM) : MV → List Value → Prop
 | .mk k num env parts, cells => ∃ p c es q d fs, cells = [.int .i64 (kc k), .int .i64 num, .slice p env.length c, .slice q parts.length d] ∧ H0 num ∧ H0 (kc k) ∧ E3 G p env.length c 4 es ∧ A3W kc G env es ∧ E3 G q parts.length d 4 fs ∧ A3W kc G parts fs
def A3W (kc : Int → Int) (G : IM) : List MV → List (List Value) → Prop
 | [], es => es = []
 | t :: ts, es => ∃ a r, es = a :: r ∧ RMv kc G t a ∧ A3W kc G ts r
end
section
variable {kc : Int → Int} {G : IM}
end

def RFr (kc : Int → Int) (G : IM) (f : Int × List MV) (cells : List Value) : Prop := ∃ p c es, cells = [.int .i64 f.1, .slice p f.2.length c] ∧ H0 f.1 ∧ E3 G p f.2.length c 4 es ∧ A3W kc G f.2 es
def B1k (kc : Int → Int) (G : IM) : List (Int × List MV) → List (List Value) → Prop
 | [], es => es = []
 | t :: ts, es => ∃ a r, es = a :: r ∧ RFr kc G t a ∧ B1k kc G ts r
section
variable {kc : Int → Int} {G : IM}
end

structure MSt where
 at' : Int
 st : List MV
 env : List MV
 fr : List (Int × List MV)
def RSs (kc : Int → Int) (G : IM) (s : MSt) (cells : List Value) : Prop := ∃ pe ce ps cs pf cf ee es ef, cells = [.int .i64 s.at', .slice pe s.env.length ce, .slice ps s.st.length cs, .slice pf s.fr.length cf] ∧ H0 s.at' ∧
 E3 G pe s.env.length ce 4 ee ∧ A3W kc G s.env ee ∧ E3 G ps s.st.length cs 4 es ∧ A3W kc G s.st es ∧ E3 G pf s.fr.length cf 2 ef ∧ B1k kc G s.fr ef
def A5U (k : Int) : Nat := if k = 6 ∨ k = 7 ∨ k = 8 ∨ k = 11 then 2 else if k = 9 ∨ k = 12 ∨ k = 13 then 1 else 0
def A7B (k : Int) : Int × Nat × Int := if k = 6 then (2, 1, 1) else if k = 7 ∨ k = 8 then (0, 2, 2) else if k = 9 then (1, 1, 3) else if k = 12 ∨ k = 13 then (3, 1, 4) else (0, 0, 0)
def A2A (s : MSt) (v : MV) : MSt := { s with st := s.st ++ [v] }
def mGo (k a : Int) (s : MSt) (v : List MV) : MSt ⊕ (Int × Int) :=
 if k = 1 then .inl (A2A s (.mk 0 a [] []))
 else if k = 2 then .inl (A2A s (.mk 1 a [] []))
 else if k = 3 then (if (s.env.length : Int) - 1 - a < 0 then .inr (3, 0) else .inl (A2A s (s.env.getD ((s.env.length : Int) - 1 - a).toNat mv0)))
 else if k = 4 then .inl { A2A s (.mk 2 s.at' s.env []) with at' := s.at' + a }
 else if k = 5 then (if s.fr.length = 0 then .inr (3, 0) else .inl { s with at' := (s.fr.getD (s.fr.length - 1) (0, [])).1, env := (s.fr.getD (s.fr.length - 1) (0, [])).2, fr := s.fr.take (s.fr.length - 1) })
 else if k = 6 then .inl { s with at' := (v.getD 0 mv0).num, env := (v.getD 0 mv0).env ++ [v.getD 1 mv0], fr := s.fr ++ [(s.at', s.env)] }
 else if k = 7 then .inl (A2A s (.mk 0 (((v.getD 0 mv0).num + (v.getD 1 mv0).num) % 1000) [] []))
 else if k = 8 then .inl (A2A s (.mk 1 (if (v.getD 0 mv0).num < (v.getD 1 mv0).num then 1 else 0) [] []))
 else if k = 9 then .inl (if (v.getD 0 mv0).num = 0 then { s with at' := s.at' + a } else s)
 else if k = 10 then .inl { s with at' := s.at' + a }
 else if k = 11 then .inl (A2A s (.mk 3 0 [] v))
 else .inl (A2A s ((v.getD 0 mv0).parts.getD (k - 12).toNat mv0))
def B6U (k : Int) (v : List MV) : Bool := (v.take (A7B k).2.1).all fun u => decide (u.k = (A7B k).1)
def B6V (k a : Int) (s : MSt) : MSt ⊕ (Int × Int) :=
 if s.st.length < A5U k then .inr (3, 0)
 else if B6U k (s.st.drop (s.st.length - A5U k)) = true then mGo k a { s with at' := s.at' + 1, st := s.st.take (s.st.length - A5U k) } (s.st.drop (s.st.length - A5U k))
 else .inr (2, (A7B k).2.2)
def B6W (v : MV) : ByteArray := if v.k = 0 then ⟨(Lib.decDigits v.num.toNat).toArray⟩ else if v.k = 1 then (if v.num = 0 then ⟨#[70]⟩ else ⟨#[84]⟩) else if v.k = 2 then ⟨⟨[102, 117, 110, 99, 116, 105, 111, 110]⟩⟩ else ⟨⟨[112, 97, 105, 114]⟩⟩
def B6X (s : MSt) : ByteArray × Int × Int := if s.st.length ≠ 1 ∨ 0 < s.fr.length then (⟨#[]⟩, 3, 0) else (B6W (s.st.getD 0 mv0), 0, 0)
def B1l (ops : List (Int × Int)) : Nat → MSt → ByteArray × Int × Int
 | t, s => if (ops.length : Int) ≤ s.at' then B6X s else match t with
  | 0 => (⟨#[]⟩, 5, 0)
  | t + 1 => match B6V (ops.getD s.at'.toNat (0, 0)).1 (ops.getD s.at'.toNat (0, 0)).2 s with
   | .inl s' => B1l ops t s'
   | .inr (c, e) => (⟨#[]⟩, c, e)
def B6Y (k behind : Int) : Int := if k = 1 then 999 else if k = 2 then 1 else if k = 3 then 11 else if k = 4 ∨ k = 9 ∨ k = 10 then behind else 0
def B6Z (n : Nat) (i : Nat) (x : Int × Int) : Bool := decide (1 ≤ x.1 ∧ x.1 ≤ 13 ∧ 0 ≤ x.2 ∧ x.2 ≤ B6Y x.1 ((n : Int) - 1 - i))
def B60 (ops : List (Int × Int)) : Bool := decide (1 ≤ ops.length ∧ ops.length ≤ 120) && (List.range ops.length).all fun i => B6Z ops.length i (ops.getD i (0, 0))
def B9u (ops : List (Int × Int)) (ticks : Int) : ByteArray × Int × Int :=
 if B60 ops = true ∧ 0 ≤ ticks ∧ ticks ≤ 2000 then B1l ops ticks.toNat ⟨0, [], [], []⟩ else (⟨#[]⟩, 3, 0)
theorem B1m (k : Nat) : strOfNums [dgi k] = (⟨[UInt8.ofNat (48 + k % 10)].toArray⟩ : ByteArray) := by
 have : (dgi k).toNat = 48 + k % 10 := by unfold dgi; omega
 simp [strOfNums, this]
theorem B61 (a b : List UInt8) : (⟨a.toArray⟩ : ByteArray) ++ ⟨b.toArray⟩ = ⟨(a ++ b).toArray⟩ := by
 apply ByteArray.ext; simp
theorem B62 {k : Nat} {out : ByteArray} (h : 9 < k) : (⟨(Lib.decDigits (k / 10)).toArray⟩ : ByteArray) ++ (strOfNums [dgi k] ++ out) = ⟨(Lib.decDigits k).toArray⟩ ++ out := by
 have e : (⟨(Lib.decDigits k).toArray⟩ : ByteArray) = ⟨(Lib.decDigits (k / 10)).toArray⟩ ++ ⟨[UInt8.ofNat (48 + k % 10)].toArray⟩ := by
  rw [B61 (Lib.decDigits (k / 10))]
  congr 2
  rw [Lib.decDigits, dif_neg (by omega)]
 rw [e, B1m, ByteArray.append_assoc]
theorem B63 {k : Nat} {out : ByteArray} (h : ¬9 < k) : strOfNums [dgi k] ++ out = ⟨(Lib.decDigits k).toArray⟩ ++ out := by
 rw [B1m, Lib.decDigits, dif_pos (by omega), Nat.mod_eq_of_lt (by omega)]
theorem B64 {k : Nat} (h : ¬9 < k) : dgi k = 48 + (k : Int) := by unfold dgi; omega
theorem B65 (k : Nat) (hk : k < 10000) (G : IM) : Fn Tryz.prog 129 [.int .i64 (k : Int)] [] G (J0 (.string ⟨(Lib.decDigits k).toArray⟩) G) := by
 refine C6 Tryz.func129 rfl Tryz.ntmps129 Tryz.results129 rfl ?_
 intro w0
 refine E1 ?_
 refine sP (A3s rfl rfl (by omega)) rfl rfl ?_
 refine E1 ?_
 refine sP (A3s rfl rfl (by omega)) rfl rfl ?_
 refine J8 ?_
 refine C5 (K2 (fun (x : Nat × ByteArray) => ⟨[(0, .int .i64 (x.1 : Int)), (2, .string ⟨#[]⟩), (3, .string x.2)], [], G⟩) (fun x => x.1 < 10000 ∧ x.1 + x.2.size < 10020 ∧ (⟨(Lib.decDigits x.1).toArray⟩ : ByteArray) ++ x.2 = ⟨(Lib.decDigits k).toArray⟩) (fun x => x.1) (k, ⟨#[]⟩) ?_ ?_ ?_)
 (simp only [I1]; exact D6)
 (dsimp only; exact ⟨hk, by have : (⟨#[]⟩ : ByteArray).size = 0 := rfl; omega, ByteArray.append_empty⟩)
 (rintro ⟨j, out⟩ ⟨hj, hsz, hd⟩; simp only [] at hj hsz hd ⊢)
 refine B4 ?_
 refine sB (A0g rfl rfl) rfl rfl (fun h41 => ?_) (fun h41 => ?_)
 refine B0 ?_
 refine C5 ?_
 refine B9 ?_
 refine sP (A6s (n := 10) rfl rfl (by omega)) rfl rfl ?_
 refine sP (H9 rfl rfl (by omega) (by omega)) rfl rfl ?_
 refine sP (A8K rfl rfl rfl (by omega) (by omega)) rfl rfl ?_
 (refine I3 (D0 rfl rfl rfl (by omega) (by unfold maxLen; omega) rfl) rfl ?_; rintro _ ⟨b54, rfl⟩)
 refine sL (A8L (xs := [dgi j]) rfl rfl rfl rfl rfl (M9 (by repeat first | exact mH | apply mT))) rfl rfl ?_
 refine F8 ?_
 (have hs1 := strOfNums_size [dgi j]; have hs2 : [dgi j].length = 1 := rfl; refine sP (A3o rfl rfl (by omega)) rfl rfl ?_)
 refine B0 ?_
 refine sP (A6t (n := 10) rfl rfl (by omega) (by omega)) rfl rfl ?_
 refine B9 ?_
 refine I5 (j / 10, strOfNums [dgi j] ++ out) ?_ ?_ ?_
 (simp only [I1]; exact D6)
 (dsimp only; exact ⟨by omega, by (rw [ByteArray.size_append]; omega), by rw [← hd]; exact B62 (by omega)⟩)
 (show j / 10 < j; omega)
 refine J8 ?_
 refine sP (H9 rfl rfl (by omega) (by omega)) rfl rfl ?_
 refine sP (A8K rfl rfl rfl (by omega) (by omega)) rfl rfl ?_
 (refine I3 (D0 rfl rfl rfl (by omega) (by unfold maxLen; omega) rfl) rfl ?_; rintro _ ⟨b84, rfl⟩)
 (have hs9 := B64 (k := j) (by omega); refine sL (A8L (xs := [48 + (j : Int)]) rfl rfl rfl rfl rfl (M9 (by repeat first | exact mH | apply mT))) rfl rfl ?_; rw [← hs9])
 refine F8 ?_
 (have hs1 := strOfNums_size [dgi j]; have hs2 : [dgi j].length = 1 := rfl; refine sP (A3o rfl rfl (by omega)) rfl rfl ?_)
 refine B0 ?_
 exact ⟨rfl, by rw [B63 (by omega), hd], rfl⟩
def A7C : ByteArray := ⟨⟨[112, 97, 105, 114]⟩⟩
def A7D : ByteArray := ⟨⟨[102, 117, 110, 99, 116, 105, 111, 110]⟩⟩
def txT : ByteArray := ⟨⟨[84]⟩⟩
def txF : ByteArray := ⟨⟨[70]⟩⟩
def B1n (n : Int) : ByteArray := ⟨(Lib.decDigits n.toNat).toArray⟩
def A2g (k num : Int) : ByteArray := if k = 2 then B1n num else if k = 3 then txT else txF
mutual
def A0K : Tm → ByteArray
 | .mk k nm num ty fr lb ks => if k = 10 ∨ (P6 (.mk k nm num ty fr lb []) = true ∧ ty.k = 5) then A7C else if k = 5 ∨ P6 (.mk k nm num ty fr lb []) = true then A7D else if k = 14 then B66 ks else A2g k num
def B66 : List Tm → ByteArray
 | [] => ⟨⟨[]⟩⟩
 | t :: _ => A0K t
end
theorem B67 (k : Int) (nm : ByteArray) (num : Int) (ty fr : Ty) (lb : Int) (ks : List Tm) (G : IM) (cells : List Value) (hT : A1k G) (hk3 : k = 2 ∨ k = 3 ∨ k = 4) (hn : 0 ≤ num ∧ num ≤ 999) (hr : B1 G (.mk k nm num ty fr lb ks) cells) : Fn Tryz.prog 107 [.agg ⟨cells⟩] [] G (J0 (.string (A2g k num)) G) := by
 obtain ⟨tk, tks⟩ := ty
 obtain ⟨fk, fks⟩ := fr
 obtain ⟨pt, ct, pf, cf, p, c, es, rfl, hk, hnum, hlb, hty, hfr, hsl, hkl⟩ := hr.open9
 have hI := B3N num G hT hn.1 hn.2
 refine C6 Tryz.func107 rfl Tryz.ntmps107 Tryz.results107 rfl ?_
 intro w0
 refine A4 ?_
 refine sE (C9 rfl rfl) rfl (fun b3 => ?_)
 refine B0 ?_
 refine sQ (A3n rfl rfl) rfl ?_
 refine J2 ?_
 refine C5 ?_
 refine A4 ?_
 refine sP (I9 rfl rfl (by omega)) rfl rfl ?_
 refine A8 ?_
 refine sB (qE rfl rfl) rfl rfl (fun h30 => ?_) (fun h30 => ?_)
 refine D4 ?_
 refine H6 rfl (hI) rfl rfl ?_
 refine B7 ?_
 (exact ⟨rfl, by unfold A2g; rw [if_pos (by omega)]; rfl, rfl⟩)
 refine A8 ?_
 refine sB (qE rfl rfl) rfl rfl (fun h54 => ?_) (fun h54 => ?_)
 refine K4 ?_
 (exact ⟨rfl, by unfold A2g; rw [if_neg (by omega), if_pos (by omega)]; rfl, rfl⟩)
 refine A8 ?_
 refine sP (Y3 rfl rfl (by omega)) rfl rfl ?_
 refine K4 ?_
 (exact ⟨rfl, by unfold A2g; rw [if_neg (by omega), if_neg (by omega)]; rfl, rfl⟩)
section
variable {k : Int} {nm : ByteArray} {num : Int} {ty fr : Ty} {lb : Int} {ks : List Tm}
theorem B1o (h : k = 10 ∨ (P6 (.mk k nm num ty fr lb ks) = true ∧ ty.k = 5)) : A0K (.mk k nm num ty fr lb ks) = A7C := by
 rw [A0K]
 exact if_pos h
theorem B1p (h : ¬(k = 10 ∨ (P6 (.mk k nm num ty fr lb ks) = true ∧ ty.k = 5))) (h2 : k = 5 ∨ P6 (.mk k nm num ty fr lb ks) = true) : A0K (.mk k nm num ty fr lb ks) = A7D := by
 rw [A0K]
 exact (if_neg h).trans (if_pos h2)
theorem B1q (h : P6 (.mk k nm num ty fr lb ks) = false) (hk : k = 14) (h0 : 0 < ks.length) : A0K (.mk k nm num ty fr lb ks) = A0K ks[0] := by
 rw [A0K, if_neg (by rintro (h1 | h1); omega; exact Bool.noConfusion (h1.1.symm.trans h)), if_neg (by rintro (h1 | h1); omega; exact Bool.noConfusion (h1.symm.trans h)), if_pos hk]
 cases ks with
 | nil => simp at h0
 | cons t ts => rfl
theorem B1r (h : P6 (.mk k nm num ty fr lb ks) = false) (hk : k ≠ 14) (h10 : k ≠ 10) (h5 : k ≠ 5) : A0K (.mk k nm num ty fr lb ks) = A2g k num := by
 rw [A0K, if_neg (by rintro (h1 | h1); omega; exact Bool.noConfusion (h1.1.symm.trans h)), if_neg (by rintro (h1 | h1); omega; exact Bool.noConfusion (h1.symm.trans h)), if_neg hk]
end
theorem B1s {Q : Prop} (h : Q := by (exact ⟨rfl, congrArg Value.string (hvp (by first | exact .inl (by omega) | exact .inr ⟨by assumption, by assumption⟩)).symm, rfl⟩)) : Q := h
theorem A7E {Q : Prop} (h : Q := by (exact ⟨rfl, congrArg Value.string (hvf (by rintro (h | ⟨h1, h2⟩) <;> first | omega | exact Bool.noConfusion (h1.symm.trans (show bp = false by assumption)) | (simp only [Ty.k] at h2; omega)) (by first | exact .inl (by omega) | exact .inr (by assumption))).symm, rfl⟩)) : Q := h
theorem B68 : ∀ (t : Tm) (G : IM) (cells : List Value), A1k G → cv t → E4 t = true → B1 G t cells → Fn Tryz.prog 59 [.agg ⟨cells⟩] [] G (J0 (.string (A0K t)) G) := by
 refine Tm.ind fun k nm num ty fr lb ks ih G cells hT hc hv hr => ?_
 have hr0 := hr
 have hP := A3c _ G _ hr
 obtain ⟨hN, hkk⟩ := hc.node
 have hop := hN.ops
 have h14 : k = 14 → ks.length = 1 := fun h => by rw [h] at hop; have : D9 14 = 1 := rfl; omega
 have hL := fun h => B67 k nm num ty fr lb ks G cells hT h hN.num0 hr
 have hvp := @B1o k nm num ty fr lb ks
 have hvf := @B1p k nm num ty fr lb ks
 have hvc := @B1q k nm num ty fr lb ks
 have hvl := @B1r k nm num ty fr lb ks
 have hvn := @A5N k nm num ty fr lb ks
 have hvy := @A3R k nm num ty fr lb ks
 have hprx := A05 k nm num ty fr lb ks
 have hinj := A4O k nm num ty fr lb ks
 have hleaf : P6 (.mk k nm num ty fr lb ks) = false → k ≠ 14 → k ≠ 10 → k ≠ 5 → k = 2 ∨ k = 3 ∨ k = 4 := by
  intro h1 h2 h3 h4
  have := hvn h3 h1 (by rw [hinj, decide_eq_false (by omega)]; rfl)
  rw [this] at hv
  have := of_decide_eq_true hv
  omega
 have hkv : P6 (.mk k nm num ty fr lb ks) = false → k = 14 → ∀ t ∈ ks, E4 t = true := by
  intro h1 h2 t ht
  cases hi : inj (.mk k nm num ty fr lb ks) with
  | true => have := hvy (.inr (.inr hi)); rw [hv] at this; exact List.all_eq_true.1 this.symm t ht
  | false =>
   have := hvn (by omega) h1 hi
   rw [hv] at this
   have := of_decide_eq_true this.symm
   omega
 generalize hpx : P6 (.mk k nm num ty fr lb ks) = bp at *
 obtain ⟨tk, tks⟩ := ty
 obtain ⟨fk, fks⟩ := fr
 obtain ⟨pt, ct, pf, cf, p, c, es, rfl, hk, hnum, hlb, hty, hfr, hsl, hkl⟩ := hr.open9
 refine C6 Tryz.func59 rfl Tryz.ntmps59 Tryz.results59 rfl ?_
 intro w0
 refine A4 ?_
 refine sE (C9 rfl rfl) rfl (fun b3 => ?_)
 refine B4 ?_
 refine C5 ?_
 refine B4 ?_
 refine sB (qE rfl rfl) rfl rfl (fun h13 => ?_) (fun h13 => ?_)
 refine A1e ?_
 exact B1s
 refine A4 ?_
 refine H1 rfl (hP) rfl rfl (fun h40 => ?_) (fun h40 => ?_)
 refine B4 ?_
 refine sB (qE rfl rfl) rfl rfl (fun h45 => ?_) (fun h45 => ?_)
 refine I7 ?_
 exact B1s
 refine J2 ?_
 refine sB (qE rfl rfl) rfl rfl (fun h72 => ?_) (fun h72 => ?_)
 refine S4 ?_
 exact A7E
 refine A4 ?_
 refine H1 rfl (hP) rfl rfl (fun h93 => ?_) (fun h93 => ?_)
 refine J5 ?_
 exact A7E
 refine E1 ?_
 refine sB (qE rfl rfl) rfl rfl (fun h118 => ?_) (fun h118 => ?_)
 refine D4 ?_
 (have hl1 := h14 (by omega); obtain ⟨bx, ox, e, rfl, hl, hat, hre, hgb⟩ := hsl.kidTm hkl (i := 0) (by omega) (by omega); have hih := ih ks[0] (List.getElem_mem (by omega)) G e hT (hkk _ (List.getElem_mem (by omega))) (hkv (by assumption) (by omega) _ (List.getElem_mem (by omega))) hre; refine sP (B5 (j := 0) rfl rfl rfl (by omega)) rfl rfl ?_)
 refine sL (A3 rfl rfl (hat _) hl) rfl rfl ?_
 refine H6 rfl (hih) rfl rfl ?_
 refine B7 ?_
 (exfalso; have h1 : bp = true := (by assumption); have h2 : bp = false := (by assumption); rw [h1] at h2; cases h2)
 refine J2 ?_
 refine H6 rfl ((hL (hleaf (by assumption) (by omega) (by omega) (by omega)))) rfl rfl ?_
 refine B0 ?_
 (exfalso; have h1 : bp = true := (by assumption); have h2 : bp = false := (by assumption); rw [h1] at h2; cases h2)
 refine I7 ?_
 refine sB (qE rfl rfl) rfl rfl (fun h170 => ?_) (fun h170 => ?_)
 refine S4 ?_
 exact A7E
 refine A4 ?_
 refine H1 rfl (hP) rfl rfl (fun h191 => ?_) (fun h191 => ?_)
 refine J5 ?_
 (exfalso; have h1 : bp = true := (by assumption); have h2 : bp = false := (by assumption); rw [h1] at h2; cases h2)
 refine E1 ?_
 refine sB (qE rfl rfl) rfl rfl (fun h216 => ?_) (fun h216 => ?_)
 refine D4 ?_
 (have hl1 := h14 (by omega); obtain ⟨bx, ox, e, rfl, hl, hat, hre, hgb⟩ := hsl.kidTm hkl (i := 0) (by omega) (by omega); have hih := ih ks[0] (List.getElem_mem (by omega)) G e hT (hkk _ (List.getElem_mem (by omega))) (hkv (by assumption) (by omega) _ (List.getElem_mem (by omega))) hre; refine sP (B5 (j := 0) rfl rfl rfl (by omega)) rfl rfl ?_)
 refine sL (A3 rfl rfl (hat _) hl) rfl rfl ?_
 refine H6 rfl (hih) rfl rfl ?_
 refine B7 ?_
 (exact ⟨rfl, congrArg Value.string (hvc (by assumption) (by omega) (by omega)).symm, rfl⟩)
 refine J2 ?_
 refine H6 rfl ((hL (hleaf (by assumption) (by omega) (by omega) (by omega)))) rfl rfl ?_
 refine B0 ?_
 (exact ⟨rfl, congrArg Value.string (hvl (by assumption) (by omega) (by omega) (by omega)).symm, rfl⟩)
section fin
variable {P : Program} {Γ : M0} {env : M6} {hp : List A6} {G : IM}
theorem A3g {r r2 r3 : ResultVar} {post : IM → Value → List A6 → Prop} {v v2 v3 : Value} {outs : List A6} (h : A0a P Γ ⟨env, hp, G⟩ r v) (h2 : A0a P Γ ⟨env, hp, G⟩ r2 v2) (h3 : A0a P Γ ⟨env, hp, G⟩ r3 v3) (ho : A1 hp outs) (hk : post G (.tuple ⟨[v, v2, v3]⟩) outs) :
  A0N P Γ [r, r2, r3] post .ret ⟨env, hp, G⟩ := A8o (.cons h (.cons h2 (.cons h3 .nil))) ho.spec hk
end fin
def CsP (bx : Nat) (e : Tm) (a b : Ty) (l : Int) : IM → Value → List A6 → Prop := fun G' v outs => ∃ cells, v = .agg ⟨cells⟩ ∧ outs = [.blk bx [.int .i64 (if N3 a b = true then l else l + 1)]] ∧ B1 G' (if N3 a b = true then e else K5 e a b (l + 1)) cells
theorem CsP.yes {G : IM} {bx : Nat} {e : Tm} {a b : Ty} {l : Int} {cells : List Value} (h : N3 a b = true) (hr : B1 G e cells) : CsP bx e a b l G (.agg ⟨cells⟩) [.blk bx [.int .i64 l]] := ⟨cells, rfl, by rw [if_pos h], by rw [if_pos h]; exact hr⟩
theorem CsP.no {G : IM} {bx : Nat} {e : Tm} {a b : Ty} {l : Int} {cells : List Value} (h : N3 a b = false) (hr : B1 G (K5 e a b (l + 1)) cells) : CsP bx e a b l G (.agg ⟨cells⟩) [.blk bx [.int .i64 (l + 1)]] := ⟨cells, rfl, by rw [if_neg (by rw [h]; decide)], by rw [if_neg (by rw [h]; decide)]; exact hr⟩
theorem B69 (bx : Nat) (e : Tm) (a b : Ty) (l : Int) (G : IM) (ce ca cb : List Value) (hl : -1000000000000 ≤ l ∧ l ≤ 1000000000000) (hre : B1 G e ce) (hra : C3 G a ca) (hrb : C3 G b cb) :
  Fn Tryz.prog 111 [.pointer (some ⟨bx, 0, none⟩), .agg ⟨ce⟩, .agg ⟨ca⟩, .agg ⟨cb⟩] [.blk bx [.int .i64 l]] G (CsP bx e a b l) := by
 have hel := hre.len
 have heo := hre.one
 have hS := A69 a b G ca cb hra hrb
 obtain ⟨v1, v2, v3, v4, v5, v6, v7, v8, v9, rfl⟩ := nine hel
 obtain ⟨ak, aks⟩ := a
 obtain ⟨bk, bks⟩ := b
 obtain ⟨pa, cca, ea, rfl, hka, _⟩ := hra.open
 obtain ⟨pb, ccb, eb, rfl, hkb, _⟩ := hrb.open
 refine C6 Tryz.func111 rfl Tryz.ntmps111 Tryz.results111 rfl ?_
 intro w0
 refine A4 ?_
 refine sE (C9 rfl rfl) rfl (fun b3 => ?_)
 refine sE (C9 rfl rfl) rfl (fun b4 => ?_)
 refine sE (C9 rfl rfl) rfl (fun b5 => ?_)
 refine sE (A9 rfl) rfl (fun b6 => ?_)
 refine B7 ?_
 refine H1 rfl (hS) rfl rfl (fun h14 => ?_) (fun h14 => ?_)
 refine B0 ?_
 refine sL (A3 rfl rfl (B6 (by repeat first | exact mH | apply mT)) hel) rfl rfl ?_
 refine sS rfl rfl rfl hel heo rfl ?_ (hu := by exact E0 hel.symm)
 refine B4 ?_
 refine H7 (outs := [.blk bx [.int .i64 _]]) (rC rfl (A5 rfl rfl)) (A1.cons (by repeat (first | exact Pk.here | apply Pk.there)) A1.nil) ?_
 (exact CsP.yes (by assumption) hre)
 refine D4 ?_
 refine sQ (Z9 rfl) rfl ?_
 refine A4 ?_
 refine sP (H9 rfl rfl (by omega) (by omega)) rfl rfl ?_
 refine sQ (Z9 rfl) rfl ?_
 refine B0 ?_
 refine D7 D8 rfl ?_
 refine L3 (i := 6) (l' := [ff,ff,ff,ff,ff,ff,tt,ff,ff,ff]) rfl D2 (A3 rfl rfl (B6 (by repeat first | exact mH | apply mT)) hel) rfl (by kernel_rfl) rfl rfl ?_
 refine aL 0 rfl (A5 rfl rfl) rfl ?_
 refine aL 1 rfl (A5 rfl rfl) rfl ?_
 refine aP 2 rfl (qM rfl) rfl ?_
 refine aP 3 rfl (Z9 rfl) rfl ?_
 refine aP 4 rfl (B8 rfl) rfl ?_
 refine aL 5 rfl (C7 rfl rfl) rfl ?_
 refine A2 7 ?_
 (refine E2 rfl (D0 rfl rfl rfl (by omega) (by unfold maxLen; omega) rfl) rfl rfl ?_; rintro _ ⟨b55, rfl⟩)
 refine aP 8 rfl (Y0 rfl rfl) rfl ?_
 refine A2 9 ?_
 refine H8 rfl ?_
 refine A4 ?_
 (refine H2 (cs := [v1, v2, v3, v4, v5, v6, v7, v8, v9]) (by repeat (first | exact Pk.here | apply Pk.there)) (fun G2 hle2 hsl2 hno2 => ?_))
 refine tT ?_
 refine H7 (outs := [.blk bx [.int .i64 _]]) (rC rfl (A5 rfl rfl)) (A1.cons (by repeat (first | exact Pk.here | apply Pk.there)) A1.nil) ?_
 (exact CsP.no (by assumption) (B1.put (us := [e]) (es := [[v1, v2, v3, v4, v5, v6, v7, v8, v9]]) ⟨by decide, by decide⟩ ⟨by decide, by decide⟩ ⟨by omega, by omega⟩ (hrb.mono hle2) (hra.mono hle2) rfl (E3.of hsl2 rfl (by intro x hx; obtain rfl := List.mem_singleton.1 hx; rfl) (by intro x hx; obtain rfl := List.mem_singleton.1 hx; exact heo)) (by simp only [E5]; exact ⟨_, _, rfl, hre.mono hle2, rfl⟩)))
def ElP (bx : Nat) (cx : Cx) (e : Tm) (l : Int) : IM → Value → List A6 → Prop := fun G' v outs => ∃ u cu t ct l', v = .tuple ⟨[.agg ⟨cu⟩, .agg ⟨ct⟩, .bool (M8 cx e l).isSome]⟩ ∧ outs = [.blk bx [.int .i64 l']] ∧ B1 G' u cu ∧ C3 G' t ct ∧ l ≤ l' ∧ l' + 1 ≤ l + (D1 e : Int) ∧ ∀ r, M8 cx e l = some r → r = (u, t, l')
theorem ElP.no {G : IM} {bx : Nat} {cx : Cx} {e : Tm} {l l' : Int} {u : Tm} {t : Ty} {cu ct : List Value} (h : M8 cx e l = none) (hu : B1 G u cu) (ht : C3 G t ct) (h1 : l ≤ l') (h2 : l' + 1 ≤ l + (D1 e : Int)) : ElP bx cx e l G (.tuple ⟨[.agg ⟨cu⟩, .agg ⟨ct⟩, .bool false]⟩) [.blk bx [.int .i64 l']] :=
 ⟨u, cu, t, ct, l', by rw [h]; rfl, rfl, hu, ht, h1, h2, fun r hr => by rw [h] at hr; cases hr⟩
theorem ElP.yes {G : IM} {bx : Nat} {cx : Cx} {e : Tm} {l l' : Int} {u : Tm} {t : Ty} {cu ct : List Value} (h : M8 cx e l = some (u, t, l')) (hu : B1 G u cu) (ht : C3 G t ct) (h1 : l ≤ l') (h2 : l' + 1 ≤ l + (D1 e : Int)) : ElP bx cx e l G (.tuple ⟨[.agg ⟨cu⟩, .agg ⟨ct⟩, .bool true]⟩) [.blk bx [.int .i64 l']] :=
 ⟨u, cu, t, ct, l', by rw [h]; rfl, rfl, hu, ht, h1, h2, fun r hr => by rw [h] at hr; cases hr; rfl⟩
section
variable {cx : Cx} {k : Int} {nm : ByteArray} {num : Int} {ty fr : Ty} {lb : Int} {ks us : List Tm} {h : List Ty} {l l' : Int}
theorem B7a (hL : L6 (K1 cx k nm ty) ks l = none) : M8 cx (.mk k nm num ty fr lb ks) l = none := by rw [M8, hL]
theorem B1t (hL : L6 (K1 cx k nm ty) ks l = some (us, h, l')) (hn : U3 cx k nm ty h = none) : M8 cx (.mk k nm num ty fr lb ks) l = none := by rw [M8, hL]; simp only [R2, hn]
theorem B7b {w : List Ty} {t : Ty} (hL : L6 (K1 cx k nm ty) ks l = some (us, h, l')) (hn : U3 cx k nm ty h = some (w, t)) (hk : k = 13) : M8 cx (.mk k nm num ty fr lb ks) l = some ((E9 us h w l').1.getD 0 J7, t, (E9 us h w l').2) := by
 rw [M8, hL]; simp only [R2, hn, if_pos hk]
theorem B1u {w : List Ty} {t : Ty} (hL : L6 (K1 cx k nm ty) ks l = some (us, h, l')) (hn : U3 cx k nm ty h = some (w, t)) (hk : k ≠ 13) : M8 cx (.mk k nm num ty fr lb ks) l = some (.mk k nm num ty fr lb (E9 us h w l').1, t, (E9 us h w l').2) := by
 rw [M8, hL]; simp only [R2, hn, if_neg hk]
end
theorem A3h {t : Ty} (h : F4 t = true) : F9 t := (A4x h).1
theorem B1v {us : List Tm} (h : 0 < us.length) : us.getD 0 J7 = us[0] := by rw [List.getD_eq_getElem?_getD, List.getElem?_eq_getElem h, Option.getD_some]
theorem B1w {Q : Prop} (h : Q := by (exact ElP.no (B1t hml (A5E hmw (b := false) (by assumption))) (Q2 _) (P1 _ ⟨by omega, by omega⟩) (by omega) (by rw [hck]; omega))) : Q := h
theorem B7c (bx : Nat) : ∀ (e : Tm) (d : Int) (cx : Cx) (l0 : Int) (G : IM) (pc : Option Addr) (nc cc : Nat) (cells : List Value), N5 12 14 e d = true → (nc : Int) ≤ d → cxV cx → U4 G cx pc nc cc → B1 G e cells → 0 ≤ l0 → l0 + (D1 e : Int) ≤ 1000000000 →
  Fn Tryz.prog 61 [.pointer (some ⟨bx, 0, none⟩), .slice pc nc cc, .agg ⟨cells⟩] [.blk bx [.int .i64 l0]] G (ElP bx cx e l0) := by
 refine Tm.ind fun k nm num ty fr lb ks ih d cx l0 G pc nc cc cells hv hnd hcv hx hr hl0 hlc => ?_
 have hr0 := hr
 have hone := hr.one
 obtain ⟨hv1, hv2, hv3, hv4⟩ := A0R hv
 have hvk := (A1A 12 14 ks _).1 hv4
 have har := (V8.1 hv3).1
 have hop := A3G har
 obtain ⟨hta, hts⟩ := A3H hv3
 have hkr : 1 ≤ k ∧ k ≤ 14 := A4Q (by rw [har]; omega)
 have hcvX : cxV (K1 cx k nm ty) := A4G hcv fun hk => (V8.1 hv3).2.2.2.2.2.1 (.inl hk)
 have hck : D1 (.mk k nm num ty fr lb ks) = E8 ks + 1 := Z4 ..
 rw [hck] at hlc
 obtain ⟨tk, tks⟩ := ty
 obtain ⟨fk, fks⟩ := fr
 obtain ⟨pt, ct, pf, cf, q, cq, es, rfl, hk, hnum, hlb, hty, hfr, hsl, hkl⟩ := hr.open9
 have hlen : ks.length ≤ 3 := by have := A1B k; omega
 obtain ⟨hx1, esx, hx2, hx3⟩ := id hx
 have hcl := B5u G pc nc cc esx hx2 (by omega)
 have hcnt0 := A4i ks
 refine C6 Tryz.func61 rfl Tryz.ntmps61 Tryz.results61 rfl ?_
 intro w0
 refine A4 ?_
 refine sE (C9 rfl rfl) rfl (fun b3 => ?_)
 refine sE (A9 rfl) rfl (fun b4 => ?_)
 refine sE (A9 rfl) rfl (fun b5 => ?_)
 refine J2 ?_
 (show J3 _ _ (.seq (.region 2 _ _) (.cond (.tmp 25) _ _)) _ _; refine A0l (fun (x : Option Addr × Nat × Nat × IM) => ⟨[(9, .slice x.1 x.2.1 x.2.2.1), (1, .slice pc nc cc), (0, .pointer (some ⟨bx, 0, none⟩)), (5, .pointer (some ⟨b3, 0, none⟩)), (6, .pointer (some ⟨b4, 0, none⟩)), (7, .pointer (some ⟨b5, 0, none⟩))], [.blk b5 [.int .i64 0, .slice none 0 0], .blk b4 [.int .i64 0, .string ⟨⟨[]⟩⟩, .int .i64 0, .int .i64 0, .slice none 0 0, .int .i64 0, .slice none 0 0, .int .i64 0, .slice none 0 0], .blk b3 [.int .i64 k, .string nm, .int .i64 num, .int .i64 tk, .slice pt tks.length ct, .int .i64 fk, .slice pf fks.length cf, .int .i64 lb, .slice q ks.length cq], .blk bx [.int .i64 l0]], x.2.2.2⟩) (fun x => C4 G x.2.2.2 ∧ U4 x.2.2.2 (K1 cx k nm (.mk tk tks)) x.1 x.2.1 x.2.2.1 ∧ x.2.1 ≤ nc + 1) ?_ ?_)
 ·refine B4 ?_
  refine sB (qE rfl rfl) rfl rfl (fun h21 => ?_) (fun h21 => ?_)
  ·refine B9 ?_
   refine D7 D8 rfl ?_
   refine I6 (i := 0) (l' := [tt,ff,ff,ff,ff,ff,ff,ff,ff,ff]) rfl D2 (qM rfl) rfl (by kernel_rfl) rfl rfl ?_
   refine aP 2 rfl (B8 rfl) rfl ?_
   refine aL 3 rfl (C7 rfl rfl) rfl ?_
   refine aP 4 rfl (B8 rfl) rfl ?_
   refine aL 5 rfl (A5 rfl rfl) rfl ?_
   refine aP 6 rfl (Y0 rfl rfl) rfl ?_
   refine Q3 (j := 1) (j' := 7) (by kernel_rfl) ?_ ?_
   ·(refine A3v rfl rfl hcl rfl rfl rfl (fun v33 G33 outs33 hle33 h33 => ?_); obtain ⟨hG, p1, c1, rfl, rfl⟩ := h33; replace hG := hG.symm; subst hG)
    replace hr := hr.mono hle33
    replace hr0 := hr0.mono hle33
    replace hty := hty.mono hle33
    replace hfr := hfr.mono hle33
    replace hsl := hsl.mono hle33
    replace hkl := hkl.mono hle33
    replace hx2 := hx2.mono hle33
    refine A2 7 ?_
    (refine E2 rfl (D0 rfl rfl rfl (by omega) (by unfold maxLen; omega) rfl) rfl rfl ?_; rintro _ ⟨b35, rfl⟩)
    refine A2 8 ?_
    (refine P5 rfl rfl rfl rfl rfl rfl (fun _ _ => by repeat (first | exact Sw.here | apply Sw.there)) (M9 (by repeat first | exact mH | apply mT)) rfl (by simp [Value.oneCell']) (by unfold maxLen; omega) (by omega) rfl rfl (by repeat (first | exact A7.nil | apply A7.dep (by decide +kernel) | apply A7.blk (by decide +kernel) (by repeat (first | exact Pk.here | apply Pk.there)) (by repeat first | exact mH | apply mT))) (fun p5 c5 => ?_); refine A1X (cs := esx.flatten ++ [.string nm, .int .i64 tk, .slice pt tks.length ct]) (by repeat (first | exact Pk.here | apply Pk.there)) (fun Gf hleF hslF hnoF => ?_); have hxF := U4.snoc (nm := nm) (t := .mk tk tks) hx1 hx2.len hx2.all hx2.one hx3 hleF ⟨_, _, rfl, hty.mono hleF⟩ hslF)
    refine aP 9 rfl (qA rfl) rfl ?_
    refine aD' ?_
    refine Q6 (p5, nc + 1, c5, Gf) (M4 (by repeat (first | exact E7.nil | refine E7.cons rfl ?_)) (by repeat (first | exact A1.refl | exact A1.nil | refine A1.cons (by repeat (first | exact Pk.here | apply Pk.there)) ?_ | apply A1.drop))) ⟨hleF, by (dsimp only; rw [K1, if_pos (by omega)]; exact hxF), by (dsimp only; omega)⟩
   ·(refine E2 rfl (D0 rfl rfl rfl (by omega) (by unfold maxLen; omega) rfl) rfl rfl ?_; rintro _ ⟨b41, rfl⟩)
    refine A2 1 ?_
    (refine A3v rfl rfl hcl rfl rfl rfl (fun v43 G43 outs43 hle43 h43 => ?_); obtain ⟨hG, p1, c1, rfl, rfl⟩ := h43; replace hG := hG.symm; subst hG)
    replace hr := hr.mono hle43
    replace hr0 := hr0.mono hle43
    replace hty := hty.mono hle43
    replace hfr := hfr.mono hle43
    replace hsl := hsl.mono hle43
    replace hkl := hkl.mono hle43
    replace hx2 := hx2.mono hle43
    refine A2 8 ?_
    (refine P5 rfl rfl rfl rfl rfl rfl (fun _ _ => by repeat (first | exact Sw.here | apply Sw.there)) (M9 (by repeat first | exact mH | apply mT)) rfl (by simp [Value.oneCell']) (by unfold maxLen; omega) (by omega) rfl rfl (by repeat (first | exact A7.nil | apply A7.dep (by decide +kernel) | apply A7.blk (by decide +kernel) (by repeat (first | exact Pk.here | apply Pk.there)) (by repeat first | exact mH | apply mT))) (fun p5 c5 => ?_); refine A1X (cs := esx.flatten ++ [.string nm, .int .i64 tk, .slice pt tks.length ct]) (by repeat (first | exact Pk.here | apply Pk.there)) (fun Gf hleF hslF hnoF => ?_); have hxF := U4.snoc (nm := nm) (t := .mk tk tks) hx1 hx2.len hx2.all hx2.one hx3 hleF ⟨_, _, rfl, hty.mono hleF⟩ hslF)
    refine aP 9 rfl (qA rfl) rfl ?_
    refine aD' ?_
    refine Q6 (p5, nc + 1, c5, Gf) (M4 (by repeat (first | exact E7.nil | refine E7.cons rfl ?_)) (by repeat (first | exact A1.refl | exact A1.nil | refine A1.cons (by repeat (first | exact Pk.here | apply Pk.there)) ?_ | apply A1.drop))) ⟨hleF, by (dsimp only; rw [K1, if_pos (by omega)]; exact hxF), by (dsimp only; omega)⟩
  ·refine B4 ?_
   refine Q6 (pc, nc, cc, G) (M4 (by repeat (first | exact E7.nil | refine E7.cons rfl ?_)) (by repeat (first | exact A1.refl | exact A1.nil | refine A1.cons (by repeat (first | exact Pk.here | apply Pk.there)) ?_ | apply A1.drop))) ⟨C4.refl _, by (dsimp only; rw [K1, if_neg (by omega)]; exact hx), by (dsimp only; omega)⟩
 ·(rintro ⟨p6, n6, c6, Gx⟩ ⟨hleX, hxX, hn6⟩; simp only [] at hleX hxX hn6 ⊢; replace hsl := hsl.mono hleX; replace hkl := hkl.mono hleX; replace hx := hx.mono hleX; replace hr0 := hr0.mono hleX; replace hty := hty.mono hleX; replace hfr := hfr.mono hleX)
  refine B9 ?_
  refine sE (A9 rfl) rfl (fun b58 => ?_)
  refine A1e ?_
  refine C5 ?_
  (refine V0 37 9 ?_; refine V0 34 2 ?_; refine K2 (fun (x : Nat × (Option Addr × Nat × List Tm × List (List Value)) × (Option Addr × Nat × List Ty × List (List Value)) × Int × IM) => ⟨[(40, .int .i64 x.1), (39, .int .i64 ks.length), (38, .slice q ks.length cq), (11, .slice x.2.2.1.1 x.1 x.2.2.1.2.1), (9, .slice p6 n6 c6), (1, .slice pc nc cc), (0, .pointer (some ⟨bx, 0, none⟩)), (5, .pointer (some ⟨b3, 0, none⟩)), (6, .pointer (some ⟨b4, 0, none⟩)), (7, .pointer (some ⟨b5, 0, none⟩)), (10, .pointer (some ⟨b58, 0, none⟩))], [.blk b58 [.int .i64 k, .string nm, .int .i64 num, .int .i64 tk, .slice pt tks.length ct, .int .i64 fk, .slice pf fks.length cf, .int .i64 lb, .slice x.2.1.1 x.1 x.2.1.2.1], .slc x.2.1.1 x.2.1.2.1 37 9 x.1 x.2.1.2.2.2.flatten, .slc x.2.2.1.1 x.2.2.1.2.1 34 2 x.1 x.2.2.1.2.2.2.flatten, .blk b5 [.int .i64 0, .slice none 0 0], .blk b4 [.int .i64 0, .string ⟨⟨[]⟩⟩, .int .i64 0, .int .i64 0, .slice none 0 0, .int .i64 0, .slice none 0 0, .int .i64 0, .slice none 0 0], .blk b3 [.int .i64 k, .string nm, .int .i64 num, .int .i64 tk, .slice pt tks.length ct, .int .i64 fk, .slice pf fks.length cf, .int .i64 lb, .slice q ks.length cq], .blk bx [.int .i64 x.2.2.2.1]], x.2.2.2.2⟩) (fun x => x.1 ≤ ks.length ∧ C4 Gx x.2.2.2.2 ∧ x.2.1.2.2.1.length = x.1 ∧ E5 x.2.2.2.2 x.2.1.2.2.1 x.2.1.2.2.2 ∧ x.2.2.1.2.2.1.length = x.1 ∧ D5 x.2.2.2.2 x.2.2.1.2.2.1 x.2.2.1.2.2.2 ∧ (∀ t ∈ x.2.2.1.2.2.1, F9 t) ∧ L6 (K1 cx k nm (.mk tk tks)) (ks.take x.1) l0 = some (x.2.1.2.2.1, x.2.2.1.2.2.1, x.2.2.2.1) ∧ l0 ≤ x.2.2.2.1 ∧ x.2.2.2.1 + x.1 ≤ l0 + (E8 (ks.take x.1) : Int)) (fun x => ks.length - x.1) (0, (none, 0, [], []), (none, 0, [], []), l0, Gx) ?_ ?_ ?_)
  ·(simp only [List.take_zero, W1]; exact (M4 (by repeat (first | exact E7.nil | refine E7.cons rfl ?_)) (by repeat (first | exact A1.refl | exact A1.nil | refine A1.cons (by repeat (first | exact Pk.here | apply Pk.there)) ?_ | apply A1.drop))))
  ·(exact ⟨by simp, C4.refl _, rfl, by simp [E5], rfl, by simp [D5], by simp, by simp [L6], Int.le_refl _, by simp [E8]⟩)
  ·(rintro ⟨i, ⟨pn, cn, us, es'⟩, ⟨pm, cm, ts, ess⟩, l, Gi⟩ ⟨hi, hle, hlu, hst, hlt, hstt, hat, hml, hl1, hl2⟩; simp only [] at hi hle hlu hst hlt hstt hat hml hl1 hl2 ⊢; replace hty := hty.mono hle; replace hfr := hfr.mono hle; replace hsl := hsl.mono hle; replace hkl := hkl.mono hle; replace hr0 := hr0.mono hle; replace hx := hx.mono hle; replace hxX := hxX.mono hle)
   refine A4 ?_
   refine sB (J4 rfl rfl) rfl rfl (fun h89 => ?_) (fun h89 => ?_)
   ·refine B7 ?_
    refine C5 ?_
    refine A4 ?_
    (obtain ⟨b, o, e, rfl, hl, hate, hre, hgb⟩ := hsl.kidTm hkl (i := i) (by omega) (by omega); have hon := hre.one; have hsc := A0G (ks := ks) (i := i) (by omega); have hsk := A1h (ks := ks) (i := i) (by omega); refine sP (B5 rfl rfl rfl (by omega)) rfl rfl ?_)
    refine sL (A3 rfl rfl (hate _) hl) rfl rfl ?_
    refine sE (A9 rfl) rfl (fun b102 => ?_)
    refine sS rfl rfl rfl hl hon rfl ?_ (hu := by exact E0 hl.symm)
    refine A8 ?_
    refine sL (A3 rfl rfl (B6 (by repeat first | exact mH | apply mT)) hl) rfl rfl ?_
    (refine J9 rfl (ih ks[i] (List.getElem_mem (by omega)) (d + 1) _ l Gi p6 n6 c6 _ (hvk i (by omega)) (by omega) hcvX hxX hre (by omega) (by omega)) (Pk.perm (by repeat (first | exact Pk.here | apply Pk.there))) rfl rfl (fun v G3 outs hle3 hh => ?_); obtain ⟨u, uc, t, tc, l3, rfl, rfl, hru, hrt, hl3, hl4, hu⟩ := hh; obtain ⟨v1, v2, v3, v4, v5, v6, v7, v8, v9, rfl⟩ := nine hru.len; obtain ⟨p3, c3, e3, rfl, _⟩ := hrt.open; have hlu9 := hru.len; have hou9 := hru.one; rcases hE : M8 (K1 cx k nm (Ty.mk tk tks)) ks[i] l with _ | ⟨u2, t2, l2⟩; rotate_left; have hue := hu _ hE; simp only [Prod.mk.injEq] at hue; obtain ⟨rfl, rfl, rfl⟩ := hue; rotate_left)
    ·refine B4 ?_
     refine sE (A9 rfl) rfl (fun b116 => ?_)
     refine sE (A9 rfl) rfl (fun b117 => ?_)
     refine sS rfl rfl rfl hlu9 hou9 rfl ?_ (hu := by exact E0 hlu9.symm)
     refine A8B ?_
     refine A3g (outs := [.blk bx [.int .i64 _]]) (rC rfl (A5 rfl rfl)) (rC rfl (A5 rfl rfl)) (rT rfl) (A1.cons (by repeat (first | exact Pk.here | apply Pk.there)) A1.nil) ?_
     (exact ElP.no (B7a (A7h (by omega) hml hE)) (Q2 _) (P1 _ ⟨by omega, by omega⟩) (by omega) (by rw [hck]; omega))
    ·refine B4 ?_
     refine sE (A9 rfl) rfl (fun b153 => ?_)
     refine sE (A9 rfl) rfl (fun b154 => ?_)
     refine sS rfl rfl rfl hlu9 hou9 rfl ?_ (hu := by exact E0 hlu9.symm)
     refine J5 ?_
     refine D7 D8 rfl ?_
     refine I6 (i := 0) (l' := [tt,ff,ff,ff,ff,ff,ff,ff,ff,ff,ff,ff]) rfl D2 (B8 rfl) rfl (by kernel_rfl) rfl rfl ?_
     refine aL 1 rfl (C7 rfl rfl) rfl ?_
     refine aL 2 rfl (A5 rfl rfl) rfl ?_
     refine aP 5 rfl (qM rfl) rfl ?_
     refine aL 6 rfl (A5 rfl rfl) rfl ?_
     refine Q3 (j := 3) (j' := 7) (by kernel_rfl) ?_ ?_
     ·(refine E2 rfl (D0 rfl rfl rfl (by omega) (by unfold maxLen; omega) rfl) rfl rfl ?_; rintro _ ⟨b177, rfl⟩)
      refine Q3 (j := 4) (j' := 7) (by kernel_rfl) ?_ ?_
      ·(refine P5 rfl rfl rfl rfl rfl rfl (fun _ _ => by repeat (first | exact Sw.here | apply Sw.there)) (M9 (by repeat first | exact mH | apply mT)) rfl (fun u hu => List.all_eq_true.1 hou9 u hu) (by unfold maxLen; omega) (by omega) rfl rfl (by repeat (first | exact A7.nil | apply A7.dep (by decide +kernel) | apply A7.im (by decide +kernel) (by assumption) (by repeat first | exact mH | apply mT) | apply A7.blk (by decide +kernel) (by repeat (first | exact Pk.here | apply Pk.there)) (by repeat first | exact mH | apply mT) | apply A7.slc (by decide +kernel) (by repeat (first | exact Pk.here | apply Pk.there)) (by repeat first | exact mH | apply mT))) (fun pn' cn' => ?_))
       refine aP 9 rfl (B8 rfl) rfl ?_
       refine A2 7 ?_
       (refine E2 rfl (D0 rfl rfl rfl (by omega) (by unfold maxLen; omega) rfl) rfl rfl ?_; rintro _ ⟨b182, rfl⟩)
       refine A2 8 ?_
       (refine P5 rfl rfl rfl rfl rfl rfl (fun _ _ => by repeat (first | exact Sw.here | apply Sw.there)) (M9 (by repeat first | exact mH | apply mT)) rfl (by simp [Value.oneCell']) (by unfold maxLen; omega) (by omega) rfl rfl (by repeat (first | exact A7.nil | apply A7.dep (by decide +kernel) | apply A7.im (by decide +kernel) (by assumption) (by repeat first | exact mH | apply mT) | apply A7.blk (by decide +kernel) (by repeat (first | exact Pk.here | apply Pk.there)) (by repeat first | exact mH | apply mT) | apply A7.slc (by decide +kernel) (by repeat (first | exact Pk.here | apply Pk.there)) (by repeat first | exact mH | apply mT))) (fun pm' cm' => ?_))
       refine A2 10 ?_
       refine oS rfl rfl rfl rfl rfl rfl rfl rfl ?_
       refine aP 11 rfl (qA rfl) rfl ?_
       refine B4 ?_
       refine sP (H9 rfl rfl (by omega) (by omega)) rfl rfl ?_
       refine A4 ?_
       refine I5 (i + 1, (pn', cn', us ++ [u2], es' ++ [[v1, v2, v3, v4, v5, v6, v7, v8, v9]]), (pm', cm', ts ++ [t2], ess ++ [[.int .i64 t2.k, .slice p3 t2.ks.length c3]]), l2, G3) ?_ ?_ ?_
       ·(simp only [I1]; exact D6)
       ·(dsimp only; exact ⟨by omega, hle.trans hle3, by simp [hlu], E5.snoc (hst.mono hle3) hru, by simp [hlt], D5.snoc (hstt.mono hle3) hrt, A3F hat (A3h ((A3O ks[i] (d + 1) _ l (hvk i (by omega)) hcvX).1 _ _ _ hE).2), A4J (by omega) hml hE, by omega, by omega⟩)
       ·(show ks.length - (i + 1) < ks.length - i; omega)
      ·(refine E2 rfl (D0 rfl rfl rfl (by omega) (by unfold maxLen; omega) rfl) rfl rfl ?_; rintro _ ⟨b199, rfl⟩)
       refine A2 4 ?_
       (refine P5 rfl rfl rfl rfl rfl rfl (fun _ _ => by repeat (first | exact Sw.here | apply Sw.there)) (M9 (by repeat first | exact mH | apply mT)) rfl (fun u hu => List.all_eq_true.1 hou9 u hu) (by unfold maxLen; omega) (by omega) rfl rfl (by repeat (first | exact A7.nil | apply A7.dep (by decide +kernel) | apply A7.im (by decide +kernel) (by assumption) (by repeat first | exact mH | apply mT) | apply A7.blk (by decide +kernel) (by repeat (first | exact Pk.here | apply Pk.there)) (by repeat first | exact mH | apply mT) | apply A7.slc (by decide +kernel) (by repeat (first | exact Pk.here | apply Pk.there)) (by repeat first | exact mH | apply mT))) (fun pn' cn' => ?_))
       refine aP 9 rfl (B8 rfl) rfl ?_
       refine A2 8 ?_
       (refine P5 rfl rfl rfl rfl rfl rfl (fun _ _ => by repeat (first | exact Sw.here | apply Sw.there)) (M9 (by repeat first | exact mH | apply mT)) rfl (by simp [Value.oneCell']) (by unfold maxLen; omega) (by omega) rfl rfl (by repeat (first | exact A7.nil | apply A7.dep (by decide +kernel) | apply A7.im (by decide +kernel) (by assumption) (by repeat first | exact mH | apply mT) | apply A7.blk (by decide +kernel) (by repeat (first | exact Pk.here | apply Pk.there)) (by repeat first | exact mH | apply mT) | apply A7.slc (by decide +kernel) (by repeat (first | exact Pk.here | apply Pk.there)) (by repeat first | exact mH | apply mT))) (fun pm' cm' => ?_))
       refine A2 10 ?_
       refine oS rfl rfl rfl rfl rfl rfl rfl rfl ?_
       refine aP 11 rfl (qA rfl) rfl ?_
       refine B4 ?_
       refine sP (H9 rfl rfl (by omega) (by omega)) rfl rfl ?_
       refine A4 ?_
       refine I5 (i + 1, (pn', cn', us ++ [u2], es' ++ [[v1, v2, v3, v4, v5, v6, v7, v8, v9]]), (pm', cm', ts ++ [t2], ess ++ [[.int .i64 t2.k, .slice p3 t2.ks.length c3]]), l2, G3) ?_ ?_ ?_
       ·(simp only [I1]; exact D6)
       ·(dsimp only; exact ⟨by omega, hle.trans hle3, by simp [hlu], E5.snoc (hst.mono hle3) hru, by simp [hlt], D5.snoc (hstt.mono hle3) hrt, A3F hat (A3h ((A3O ks[i] (d + 1) _ l (hvk i (by omega)) hcvX).1 _ _ _ hE).2), A4J (by omega) hml hE, by omega, by omega⟩)
       ·(show ks.length - (i + 1) < ks.length - i; omega)
     ·(refine E2 rfl (D0 rfl rfl rfl (by omega) (by unfold maxLen; omega) rfl) rfl rfl ?_; rintro _ ⟨b219, rfl⟩)
      refine A2 3 ?_
      (refine E2 rfl (D0 rfl rfl rfl (by omega) (by unfold maxLen; omega) rfl) rfl rfl ?_; rintro _ ⟨b221, rfl⟩)
      refine A2 4 ?_
      (refine P5 rfl rfl rfl rfl rfl rfl (fun _ _ => by repeat (first | exact Sw.here | apply Sw.there)) (M9 (by repeat first | exact mH | apply mT)) rfl (fun u hu => List.all_eq_true.1 hou9 u hu) (by unfold maxLen; omega) (by omega) rfl rfl (by repeat (first | exact A7.nil | apply A7.dep (by decide +kernel) | apply A7.im (by decide +kernel) (by assumption) (by repeat first | exact mH | apply mT) | apply A7.blk (by decide +kernel) (by repeat (first | exact Pk.here | apply Pk.there)) (by repeat first | exact mH | apply mT) | apply A7.slc (by decide +kernel) (by repeat (first | exact Pk.here | apply Pk.there)) (by repeat first | exact mH | apply mT))) (fun pn' cn' => ?_))
      refine aP 9 rfl (B8 rfl) rfl ?_
      refine A2 8 ?_
      (refine P5 rfl rfl rfl rfl rfl rfl (fun _ _ => by repeat (first | exact Sw.here | apply Sw.there)) (M9 (by repeat first | exact mH | apply mT)) rfl (by simp [Value.oneCell']) (by unfold maxLen; omega) (by omega) rfl rfl (by repeat (first | exact A7.nil | apply A7.dep (by decide +kernel) | apply A7.im (by decide +kernel) (by assumption) (by repeat first | exact mH | apply mT) | apply A7.blk (by decide +kernel) (by repeat (first | exact Pk.here | apply Pk.there)) (by repeat first | exact mH | apply mT) | apply A7.slc (by decide +kernel) (by repeat (first | exact Pk.here | apply Pk.there)) (by repeat first | exact mH | apply mT))) (fun pm' cm' => ?_))
      refine A2 10 ?_
      refine oS rfl rfl rfl rfl rfl rfl rfl rfl ?_
      refine aP 11 rfl (qA rfl) rfl ?_
      refine B4 ?_
      refine sP (H9 rfl rfl (by omega) (by omega)) rfl rfl ?_
      refine A4 ?_
      refine I5 (i + 1, (pn', cn', us ++ [u2], es' ++ [[v1, v2, v3, v4, v5, v6, v7, v8, v9]]), (pm', cm', ts ++ [t2], ess ++ [[.int .i64 t2.k, .slice p3 t2.ks.length c3]]), l2, G3) ?_ ?_ ?_
      ·(simp only [I1]; exact D6)
      ·(dsimp only; exact ⟨by omega, hle.trans hle3, by simp [hlu], E5.snoc (hst.mono hle3) hru, by simp [hlt], D5.snoc (hstt.mono hle3) hrt, A3F hat (A3h ((A3O ks[i] (d + 1) _ l (hvk i (by omega)) hcvX).1 _ _ _ hE).2), A4J (by omega) hml hE, by omega, by omega⟩)
      ·(show ks.length - (i + 1) < ks.length - i; omega)
   ·refine J5 ?_
    (obtain rfl : i = ks.length := (by omega); have hk14 : k ≠ 14 := hv2; rw [List.take_length] at hml hl2; refine U6 (cs := ess.flatten) (by repeat (first | exact Pk.here | apply Pk.there)) (fun G3 hle3 hsl3 hno3 => ?_); have hst3 := hstt.mono hle3; have hslU : E3 G3 pm ks.length cm 2 ess := E3.of hsl3 (by rw [hst3.len, hlt]) hst3.all (fun e he => (hst3.each e he).2); refine E6 rfl (B5r cx k nm num (.mk tk tks) (.mk fk fks) lb ks ts G3 pc nc cc _ pm ks.length cm ess (hx.mono hle3) har hlt.symm hk14 hta (hr0.mono hle3) hslU hst3 hat) rfl rfl (fun v G4 hle4 hh => ?_); obtain ⟨pw, nw, cw, ew, w, wc, wt, rfl, hnw, hslw, hstw, hrt, hw⟩ := hh; obtain ⟨p3, c3, e3, rfl, _⟩ := hrt.open; replace hst3 := hst3.mono hle4; replace hslU := hslU.mono hle4; have hle34 := hle3.trans hle4; replace hst := hst.mono hle34; replace hty := hty.mono hle34; replace hfr := hfr.mono hle34; rcases hmw : J6 cx k nm (Ty.mk tk tks) ts with _ | ⟨w2, t2⟩; rotate_left; have hwe := hw _ hmw; simp only [Prod.mk.injEq] at hwe; obtain ⟨rfl, rfl⟩ := hwe; have hwl := B5t (by rw [hlt]; exact hop) hkr hk14 hmw; have hcl2 := A1E us ts w2 l; rcases Nat.eq_zero_or_pos ks.length with h0 | h0; rotate_left; rotate_left)
    ·refine B4 ?_
     refine sE (A9 rfl) rfl (fun b260 => ?_)
     refine A8A ?_
     (refine H2 (cs := es'.flatten) (by repeat (first | exact Pk.here | apply Pk.there)) (fun G8 hle8 hsl8 hno8 => ?_); have hst8 := hst.mono hle8)
     refine A4 ?_
     refine A3g (outs := [.blk bx [.int .i64 _]]) (rC rfl (A5 rfl rfl)) (rC rfl (A5 rfl rfl)) (rT rfl) (A1.cons (by repeat (first | exact Pk.here | apply Pk.there)) A1.nil) ?_
     (exact ElP.no (B1t hml (B5v hmw)) (Q2 _) (P1 _ ⟨by omega, by omega⟩) (by omega) (by rw [hck]; omega))
    ·refine B4 ?_
     refine sE (A9 rfl) rfl (fun b297 => ?_)
     refine N4 ?_
     refine H1 rfl ((A11 _ _ _ hrt)) rfl rfl (fun h310 => ?_) (fun h310 => ?_)
     ·refine I7 ?_
      refine C5 ?_
      (have h0' : ks.length = 0 := h0; refine K2 (fun (_ : Nat) => ⟨[(86, .int .i64 0), (85, .int .i64 nw), (84, .slice pw nw cw), (11, .slice pm ks.length cm), (1, .slice pc nc cc), (0, .pointer (some ⟨bx, 0, none⟩)), (5, .pointer (some ⟨b3, 0, none⟩)), (6, .pointer (some ⟨b4, 0, none⟩)), (7, .pointer (some ⟨b5, 0, none⟩)), (10, .pointer (some ⟨b58, 0, none⟩)), (18, .pointer (some ⟨b297, 0, none⟩))], [.blk b297 [.int .i64 t2.k, .slice p3 t2.ks.length c3], .blk b58 [.int .i64 k, .string nm, .int .i64 num, .int .i64 tk, .slice pt tks.length ct, .int .i64 fk, .slice pf fks.length cf, .int .i64 lb, .slice pn ks.length cn], .slc pn cn 37 9 ks.length es'.flatten, .blk b5 [.int .i64 0, .slice none 0 0], .blk b4 [.int .i64 0, .string ⟨⟨[]⟩⟩, .int .i64 0, .int .i64 0, .slice none 0 0, .int .i64 0, .slice none 0 0, .int .i64 0, .slice none 0 0], .blk b3 [.int .i64 k, .string nm, .int .i64 num, .int .i64 tk, .slice pt tks.length ct, .int .i64 fk, .slice pf fks.length cf, .int .i64 lb, .slice q ks.length cq], .blk bx [.int .i64 l]], G4⟩) (fun _ => True) (fun i => i) 0 ?_ ?_ ?_)
      ·exact D6
      ·trivial
      ·(rintro (i0 : Nat) _)
       refine A4 ?_
       refine sP (A3s rfl rfl (by omega)) rfl rfl ?_
       refine J5 ?_
       refine sP (I9 rfl rfl (by omega)) rfl rfl ?_
       refine A8 ?_
       refine D7 D8 rfl ?_
       refine L3 (i := 0) (l' := [tt,ff,ff,ff,ff]) rfl D2 (A5 rfl rfl) rfl (by kernel_rfl) rfl rfl ?_
       refine aL 1 rfl (A5 rfl rfl) rfl ?_
       refine A2 2 ?_
       refine oS rfl rfl rfl rfl rfl rfl rfl rfl ?_
       refine A2 3 ?_
       refine oS rfl rfl rfl rfl rfl rfl rfl rfl ?_
       refine aP 4 rfl (qA rfl) rfl ?_
       refine A4 ?_
       (refine H2 (cs := es'.flatten) (by repeat (first | exact Pk.here | apply Pk.there)) (fun G8 hle8 hsl8 hno8 => ?_); have hst8 := hst.mono hle8)
       refine tT ?_
       refine A3g (outs := [.blk bx [.int .i64 _]]) (rC rfl (A5 rfl rfl)) (rC rfl (A5 rfl rfl)) (rT rfl) (A1.cons (by repeat (first | exact Pk.here | apply Pk.there)) A1.nil) ?_
       (obtain rfl : w2 = [] := List.length_eq_zero_iff.1 (by omega); have hne : k ≠ 13 := (fun h => by have := hop.2.2 (.inr (.inr (.inr h))); omega); have hel := B1u (num := num) (fr := .mk fk fks) (lb := lb) hml (A5E hmw (b := true) (by assumption)) hne; rw [W1] at hel; exact ElP.yes hel (B1.put hk hnum hlb (hty.mono hle8) (hfr.mono hle8) (by rw [hlu]) (E3.of hsl8 (by rw [hst8.len, hlu]) hst8.all (fun e he => (hst8.each e he).2)) hst8) (hrt.mono hle8) (by omega) (by rw [hck]; omega))
     ·refine J5 ?_
      (refine H2 (cs := es'.flatten) (by repeat (first | exact Pk.here | apply Pk.there)) (fun G8 hle8 hsl8 hno8 => ?_); have hst8 := hst.mono hle8)
      refine A4 ?_
      refine A3g (outs := [.blk bx [.int .i64 _]]) (rC rfl (A5 rfl rfl)) (rC rfl (A5 rfl rfl)) (rT rfl) (A1.cons (by repeat (first | exact Pk.here | apply Pk.there)) A1.nil) ?_
      exact B1w
    ·(refine A4y (cs := es'.flatten) (by repeat (first | exact Pk.here | apply Pk.there)) h0 (fun bc C hpe hnc hcm => ?_); subst hpe; refine sQ (qM rfl) rfl ?_)
     refine B9 ?_
     refine sE (A9 rfl) rfl (fun b392 => ?_)
     refine N4 ?_
     refine H1 rfl ((A11 _ _ _ hrt)) rfl rfl (fun h405 => ?_) (fun h405 => ?_)
     ·refine I7 ?_
      refine C5 ?_
      (have h0' := h0; refine K2 (fun (x : Nat × List (List Value) × IM) => ⟨[(86, .int .i64 x.1), (85, .int .i64 nw), (84, .slice pw nw cw), (11, .slice pm ks.length cm), (1, .slice pc nc cc), (0, .pointer (some ⟨bx, 0, none⟩)), (5, .pointer (some ⟨b3, 0, none⟩)), (6, .pointer (some ⟨b4, 0, none⟩)), (7, .pointer (some ⟨b5, 0, none⟩)), (10, .pointer (some ⟨b58, 0, none⟩)), (18, .pointer (some ⟨b392, 0, none⟩))], [.blk b392 [.int .i64 t2.k, .slice p3 t2.ks.length c3], .blk b58 [.int .i64 k, .string nm, .int .i64 num, .int .i64 tk, .slice pt tks.length ct, .int .i64 fk, .slice pf fks.length cf, .int .i64 lb, .slice (some ⟨bc, 0, none⟩) ks.length cn], .blk bc (x.2.1.flatten ++ C), .blk b5 [.int .i64 0, .slice none 0 0], .blk b4 [.int .i64 0, .string ⟨⟨[]⟩⟩, .int .i64 0, .int .i64 0, .slice none 0 0, .int .i64 0, .slice none 0 0, .int .i64 0, .slice none 0 0], .blk b3 [.int .i64 k, .string nm, .int .i64 num, .int .i64 tk, .slice pt tks.length ct, .int .i64 fk, .slice pf fks.length cf, .int .i64 lb, .slice q ks.length cq], .blk bx [.int .i64 (E9 us ts (w2.take x.1) l).2]], x.2.2⟩) (fun x => x.1 ≤ nw ∧ C4 G4 x.2.2 ∧ E5 x.2.2 (E9 us ts (w2.take x.1) l).1 x.2.1) (fun x => nw - x.1) (0, es', G4) ?_ ?_ ?_)
      ·(simp only [List.take_zero, W1]; exact (M4 (by repeat (first | exact E7.nil | refine E7.cons rfl ?_)) (by repeat (first | exact A1.refl | exact A1.nil | refine A1.cons (by repeat (first | exact Pk.here | apply Pk.there)) ?_ | apply A1.drop))))
      ·(exact ⟨Nat.zero_le _, C4.refl _, by simp only [List.take_zero, W1]; exact hst⟩)
      ·(rintro ⟨j, es2, G6⟩ ⟨hj, hle6, hst2⟩; simp only [] at hj hle6 hst2 ⊢; replace hslw := hslw.mono hle6; replace hstw := hstw.mono hle6; replace hslU := hslU.mono hle6; replace hst3 := hst3.mono hle6; replace hty := hty.mono hle6; replace hfr := hfr.mono hle6; replace hrt := hrt.mono hle6; have hall2 := hst2.all; have hle2s := hst2.len; rw [A2d] at hle2s)
       refine A4 ?_
       refine sB (J4 rfl rfl) rfl rfl (fun h428 => ?_) (fun h428 => ?_)
       ·refine B7 ?_
        refine C5 ?_
        refine B9 ?_
        (have hjw : j < w2.length := (by omega); obtain ⟨b5w, o5w, q5, d5, hp5, hat, hrw, hgb⟩ := hslw.kidTy hstw (i := j) (by omega) (by omega); cases hp5; refine sP (B5 rfl rfl rfl (by omega)) rfl rfl ?_)
        refine sL (A3 rfl rfl (hat _) rfl) rfl rfl ?_
        refine sE (A9 rfl) rfl (fun b442 => ?_)
        refine B4 ?_
        (have hjw2 := hjw; obtain ⟨b0, o0, q0, d0, hp0, hat0, hre0, hg0⟩ := hslU.kidTy hst3 (i := j) (by omega) (by omega); cases hp0; obtain ⟨m1, m2, _⟩ := A4K us ts w2 l j hjw (by omega) (by omega); obtain ⟨m3, m4⟩ := B0G (us := us) (h := ts) (w := w2) (l := l) hjw (by omega) (by omega); obtain ⟨hE1, hE2⟩ := hst2.at2 (i := j) (by omega) (by omega); rw [m2] at hE2; have hE3 := hE2.len; have hE4 := hE2.one; have hcj := A1E us ts (w2.take j) l; refine D7 D8 rfl ?_)
        refine I6 (i := 0) (l' := [tt,ff,ff,ff,ff,ff,ff,ff,ff,ff,ff,ff,ff,ff,ff,ff,ff]) rfl D2 (B8 rfl) rfl (by kernel_rfl) rfl rfl ?_
        refine aL 1 rfl (C7 rfl rfl) rfl ?_
        refine aP 2 rfl (qM rfl) rfl ?_
        refine aP 3 rfl (qM rfl) rfl ?_
        refine aP 4 rfl (B8 rfl) rfl ?_
        refine aL 5 rfl (C7 rfl rfl) rfl ?_
        refine aP 6 rfl (qM rfl) rfl ?_
        refine aP 7 rfl (B5 (j := j) rfl rfl rfl (by omega)) rfl ?_
        refine aL 8 rfl (A3 rfl rfl (A5y (es := es2) (by repeat first | exact mH | apply mT) (by omega) hall2) hE3) rfl ?_
        refine aP 9 rfl (qM rfl) rfl ?_
        refine aP 10 rfl (qM rfl) rfl ?_
        refine aP 11 rfl (B5 (j := j) rfl rfl rfl (by omega)) rfl ?_
        refine aL 12 rfl (A3 rfl rfl (hat0 _) rfl) rfl ?_
        refine aL 13 rfl (A5 rfl rfl) rfl ?_
        refine A2 14 ?_
        (refine X2 (l' := [tt,tt,tt,tt,tt,tt,tt,tt,tt,tt,tt,tt,tt,tt,tt,ff,ff]) rfl rfl (B69 bx us[j] ts[j] w2[j] (E9 us ts (w2.take j) l).2 G6 _ _ _ (by omega) hE2 hre0 hrw) (Pk.perm (by repeat (first | exact Pk.here | apply Pk.there))) rfl rfl rfl (by repeat (first | exact A7.nil | apply A7.dep (by decide +kernel) | apply A7.im (by decide +kernel) (by assumption) (by repeat first | exact mH | apply mT) | apply A7.blk (by decide +kernel) (by repeat (first | exact Pk.here | apply Pk.there)) (by repeat first | exact mH | apply mT) | apply A7.slc (by decide +kernel) (by repeat (first | exact Pk.here | apply Pk.there)) (by repeat first | exact mH | apply mT))) (fun v G7 outs hle7 hh => ?_); obtain ⟨uc, rfl, rfl, hru⟩ := hh; rw [← m4]; have hlu9 := hru.len; have hou9 := hru.one)
        refine aP 15 rfl (B5 (j := j) rfl rfl rfl (by omega)) rfl ?_
        refine A2 16 ?_
        refine Q8 rfl rfl rfl rfl hlu9 hou9 rfl rfl (by kernel_rfl) (by repeat first | exact Sw.here | apply Sw.there) (by exact A4z (by omega) hall2 hlu9) ?_
        refine B4 ?_
        refine sP (H9 rfl rfl (by omega) (by omega)) rfl rfl ?_
        refine A4 ?_
        refine I5 (j + 1, es2.set j uc, G7) ?_ ?_ ?_
        ·(simp only [List.take_zero, W1]; exact (M4 (by repeat (first | exact E7.nil | refine E7.cons rfl ?_)) (by repeat (first | exact A1.refl | exact A1.nil | refine A1.cons (by repeat (first | exact Pk.here | apply Pk.there)) ?_ | apply A1.drop))))
        ·(dsimp only; exact ⟨by omega, hle6.trans hle7, by rw [m3]; exact E5.set (hst2.mono hle7) hru⟩)
        ·(show nw - (j + 1) < nw - j; omega)
       ·refine J5 ?_
        refine sB (qE rfl rfl) rfl rfl (fun h492 => ?_) (fun h492 => ?_)
        ·refine B4 ?_
         (have hq13 : k = 13 := (by omega); have hl13 := hop.2.2 (.inr (.inr (.inr hq13))); have hjw : j = w2.length := (by omega); rw [hjw, List.take_length] at hst2; have hm0 := A2d us ts w2 l; obtain ⟨hE1, hE2⟩ := hst2.at2 (i := 0) (by omega) (by omega); have hE3 := hE2.len; have hE4 := hE2.one; refine D7 D8 rfl ?_)
         refine I6 (i := 0) (l' := [tt,ff,ff,ff,ff,ff,ff,ff]) rfl D2 (B8 rfl) rfl (by kernel_rfl) rfl rfl ?_
         refine aL 1 rfl (C7 rfl rfl) rfl ?_
         refine aP 2 rfl (B5 (j := 0) rfl rfl rfl (by omega)) rfl ?_
         refine aL 3 rfl (A3 rfl rfl (A5y (es := es2) (by repeat first | exact mH | apply mT) (by omega) hall2) hE3) rfl ?_
         refine aL 4 rfl (A5 rfl rfl) rfl ?_
         refine A2 5 ?_
         refine oS rfl rfl rfl rfl hE3 hE4 rfl rfl ?_ (hu := by exact E0 hE3.symm)
         refine A2 6 ?_
         refine oS rfl rfl rfl rfl rfl rfl rfl rfl ?_
         refine aP 7 rfl (qA rfl) rfl ?_
         refine A4 ?_
         (refine A2R (bs := [(bc, es2.flatten ++ C)]) (Pk.perm (by repeat (first | exact Pk.here | apply Pk.there))) (fun hn9 hd9 hle9 => ?_))
         refine A4 ?_
         refine A3g (outs := [.blk bx [.int .i64 _]]) (rC rfl (A3 rfl rfl (B6 (by repeat first | exact mH | apply mT)) hE3)) (rC rfl (A5 rfl rfl)) (rT rfl) (A1.cons (by repeat (first | exact Pk.here | apply Pk.there)) A1.nil) ?_
         (have hel := B7b (num := num) (fr := .mk fk fks) (lb := lb) hml (A5E hmw (b := true) (by assumption)) hq13; rw [B1v (by omega)] at hel; rw [hjw, List.take_length]; exact ElP.yes hel (hE2.mono hle9) (hrt.mono hle9) (by omega) (by rw [hck]; omega))
        ·refine A8 ?_
         refine D7 D8 rfl ?_
         refine L3 (i := 0) (l' := [tt,ff,ff,ff,ff]) rfl D2 (A5 rfl rfl) rfl (by kernel_rfl) rfl rfl ?_
         refine aL 1 rfl (A5 rfl rfl) rfl ?_
         refine A2 2 ?_
         refine oS rfl rfl rfl rfl rfl rfl rfl rfl ?_
         refine A2 3 ?_
         refine oS rfl rfl rfl rfl rfl rfl rfl rfl ?_
         refine aP 4 rfl (qA rfl) rfl ?_
         refine A4 ?_
         (refine A2R (bs := [(bc, es2.flatten ++ C)]) (Pk.perm (by repeat (first | exact Pk.here | apply Pk.there))) (fun hn9 hd9 hle9 => ?_))
         refine tT ?_
         refine A3g (outs := [.blk bx [.int .i64 _]]) (rC rfl (A5 rfl rfl)) (rC rfl (A5 rfl rfl)) (rT rfl) (A1.cons (by repeat (first | exact Pk.here | apply Pk.there)) A1.nil) ?_
         (have hjw : j = w2.length := (by omega); rw [hjw, List.take_length] at hst2; have hst9 := hst2.mono hle9; have hel := B1u (num := num) (fr := .mk fk fks) (lb := lb) hml (A5E hmw (b := true) (by assumption)) (show k ≠ 13 by omega); rw [hjw, List.take_length]; have hm0 := A2d us ts w2 l; exact ElP.yes hel (B1.put hk hnum hlb (hty.mono hle9) (hfr.mono hle9) (by rw [hm0, hlu]) (E3.of (Sl.of_blk (A := []) (by rw [A00 hst9.all, hst9.len, hm0, hlu]) (by omega) hcm (Wi.in hn9 List.mem_cons_self)) (by rw [hst9.len, hm0, hlu]) hst9.all (fun e he => (hst9.each e he).2)) hst9) (hrt.mono hle9) (by omega) (by rw [hck]; omega))
     ·refine K0 ?_
      refine A3g (outs := [.blk bx [.int .i64 _]]) (rC rfl (A5 rfl rfl)) (rC rfl (A5 rfl rfl)) (rT rfl) (A1.cons (by repeat (first | exact Pk.here | apply Pk.there)) A1.nil) ?_
      exact B1w
def A1v (r : Option (Tm × Ty)) : IM → Value → List A6 → Prop := K8 fun G' v => ∃ cu ct, v = .tuple ⟨[.agg ⟨cu⟩, .agg ⟨ct⟩, .bool r.isSome]⟩ ∧ B1 G' (r.getD (J7, B3)).1 cu ∧ C3 G' (r.getD (J7, B3)).2 ct
theorem A1v.no {G : IM} {r : Option (Tm × Ty)} {cu ct : List Value} (h : r = none) (hu : B1 G J7 cu) (ht : C3 G B3 ct) : A1v r G (.tuple ⟨[.agg ⟨cu⟩, .agg ⟨ct⟩, .bool false]⟩) [] := by subst h; exact ⟨rfl, cu, ct, rfl, hu, ht⟩
theorem A1v.yes {G : IM} {r : Option (Tm × Ty)} {u : Tm} {t : Ty} {cu ct : List Value} (h : r = some (u, t)) (hu : B1 G u cu) (ht : C3 G t ct) : A1v r G (.tuple ⟨[.agg ⟨cu⟩, .agg ⟨ct⟩, .bool true]⟩) [] := by subst h; exact ⟨rfl, cu, ct, rfl, hu, ht⟩
theorem B1x {e : Tm} (h : T5 e = false) : O8 e = none := by unfold O8; rw [if_neg (by rw [h]; decide)]
theorem B1y {e : Tm} (h : T5 e = true) (h2 : M8 [] e 0 = none) : O8 e = none := by unfold O8; rw [if_pos h, h2]
theorem B1z {e u : Tm} {t : Ty} {l : Int} (h : T5 e = true) (h2 : M8 [] e 0 = some (u, t, l)) : O8 e = some (u, t) := by unfold O8; rw [if_pos h, h2]
theorem A7F (e : Tm) (G : IM) (cells : List Value) (hr : B1 G e cells) : Fn Tryz.prog 25 [.agg ⟨cells⟩] [] G (A1v (O8 e)) := by
 have hRl := hr.len
 have hRo := hr.one
 have hV := B4a e G cells hr
 have hno := @B1x e
 have hnn := @B1y e
 have hso := @B1z e
 refine C6 Tryz.func25 rfl Tryz.ntmps25 Tryz.results25 rfl ?_
 intro w0
 refine A4 ?_
 refine sE (C9 rfl rfl) rfl (fun b3 => ?_)
 refine sE (A9 rfl) rfl (fun b4 => ?_)
 refine sE (A9 rfl) rfl (fun b5 => ?_)
 refine A8 ?_
 refine sL (A3 rfl rfl (B6 (by repeat first | exact mH | apply mT)) hRl) rfl rfl ?_
 refine H1 rfl (hV) rfl rfl (fun h13 => ?_) (fun h13 => ?_)
 refine E1 ?_
 refine sE (C9 rfl rfl) rfl (fun b23 => ?_)
 refine sL (A3 rfl rfl (B6 (by repeat first | exact mH | apply mT)) hRl) rfl rfl ?_
 focus (have htv : T5 e = true := (by assumption); obtain ⟨hsh, hcn⟩ := (A1p e).1 htv; refine J9 rfl (B7c _ e 1 [] 0 G none 0 0 _ hsh (by omega) A4F (U4.nil G) hr (by omega) (by omega)) (Pk.perm (by repeat (first | exact Pk.here | apply Pk.there))) rfl rfl (fun v G1 outs hle1 hh => ?_); obtain ⟨u, uc, t, tc, l3, rfl, rfl, hru, hrt, hl3, hl4, hu⟩ := hh; have hul := hru.len; have huo := hru.one; obtain ⟨p3, c3, e3, rfl, _⟩ := hrt.open; have hnn := hnn htv; have hso := @hso u t l3 htv; rcases hE : M8 [] e 0 with _ | ⟨u2, t2, l2⟩; rotate_left; have hue := hu _ hE; simp only [Prod.mk.injEq] at hue; obtain ⟨rfl, rfl, rfl⟩ := hue; have hso := hso hE; obtain ⟨hg1, hg2, hg3⟩ := A2z hso; rotate_left; simp only [Option.isSome]; rotate_left; simp only [Option.isSome])
 refine B4 ?_
 refine sE (A9 rfl) rfl (fun b30 => ?_)
 refine sE (A9 rfl) rfl (fun b31 => ?_)
 refine sS rfl rfl rfl hul huo rfl ?_ (hu := by exact E0 hul.symm)
 refine I7 ?_
 refine D7 D8 rfl ?_
 refine L3 (i := 0) (l' := [tt,ff,ff,ff,ff,ff,ff]) rfl D2 (A3 rfl rfl (B6 (by repeat first | exact mH | apply mT)) hul) rfl (by kernel_rfl) rfl rfl ?_
 refine aL 2 rfl (A5 rfl rfl) rfl ?_
 refine A2 1 ?_
 (refine H3 rfl rfl (A5q _ _ _ (A5R hg1) hru) rfl rfl rfl (fun v G2 hle2 hh => ?_); obtain ⟨cs2, F2, rfl, hs2, hn2⟩ := hh; have hwl := hs2.R.len; have hwo := hs2.R.one; have hr2 := hs2.R.mono (C2.le G2 G1); replace hrt := hrt.mono hle2)
 refine A2 3 ?_
 (refine H3 rfl rfl (A3C _ _ _ (A3h hg3).small hrt) rfl rfl rfl (fun v G3 hle3 hh => ?_); obtain ⟨cs3, F3, rfl, hs3, hn3⟩ := hh; obtain ⟨p4, c4, rfl, _⟩ := hs3.open; have hr3 := hs3.R.mono (C2.le G3 G2); replace hr2 := hr2.mono hle3)
 refine A2 4 ?_
 refine oS rfl rfl rfl rfl hwl hwo rfl rfl ?_ (hu := by exact E0 hwl.symm)
 refine A2 5 ?_
 refine oS rfl rfl rfl rfl rfl rfl rfl rfl ?_
 refine aP 6 rfl (qA rfl) rfl ?_
 refine B9 ?_
 refine D3 (rC rfl (A3 rfl rfl (B6 (by repeat first | exact mH | apply mT)) hwl)) (rC rfl (A5 rfl rfl)) (rT rfl) ?_
 (exact A1v.yes hso hr2 hr3)
 refine B4 ?_
 refine sE (A9 rfl) rfl (fun b69 => ?_)
 refine sE (A9 rfl) rfl (fun b70 => ?_)
 refine sS rfl rfl rfl hul huo rfl ?_ (hu := by exact E0 hul.symm)
 refine A1e ?_
 refine D3 (rC rfl (A5 rfl rfl)) (rC rfl (A5 rfl rfl)) (rT rfl) ?_
 (exact A1v.no (hnn hE) (Q2 _) (P1 _ ⟨by omega, by omega⟩))
 refine I7 ?_
 refine D3 (rC rfl (A5 rfl rfl)) (rC rfl (A5 rfl rfl)) (rT rfl) ?_
 (exact A1v.no (hno (by assumption)) (Q2 _) (P1 _ ⟨by omega, by omega⟩))
def A0d (e : Tm) : Option Ty := match O8 e with | some (_, t) => some t | none => none
theorem B7d {e : Tm} (h : T5 e = false) : A0d e = none := by unfold A0d; rw [B1x h]
def O9 (e : Tm) (fuel : Int) : ByteArray × Int × Int := match O8 e with
 | none => (⟨⟨[]⟩⟩, 3, 0)
 | some (u, _) => if (S9 u fuel).2.1 = 0 then (A0K (S9 u fuel).1, 0, 0) else (⟨⟨[]⟩⟩, (S9 u fuel).2.1, (S9 u fuel).2.2)
def B1A (r : ByteArray × Int × Int) (G : IM) : IM → Value → List A6 → Prop := K8 fun _ v => v = .tuple ⟨[.string r.1, .int .i64 r.2.1, .int .i64 r.2.2]⟩
theorem A5V {e : Tm} {fuel : Int} (h : O8 e = none) : O9 e fuel = (⟨⟨[]⟩⟩, 3, 0) := by unfold O9; rw [h]
theorem A5W {e u : Tm} {t : Ty} {fuel : Int} (h : O8 e = some (u, t)) (h0 : (S9 u fuel).2.1 = 0) : O9 e fuel = (A0K (S9 u fuel).1, 0, 0) := by unfold O9; rw [h]; simp only [h0, if_true]
theorem A5X {e u : Tm} {t : Ty} {fuel : Int} (h : O8 e = some (u, t)) (h0 : (S9 u fuel).2.1 ≠ 0) : O9 e fuel = (⟨⟨[]⟩⟩, (S9 u fuel).2.1, (S9 u fuel).2.2) := by unfold O9; rw [h]; simp only [if_neg h0]
theorem B1B : ∀ (n : Nat) (e : Tm), (P7 n e).2.1 = 0 → M5 (P7 n e).1 = true ∧ E4 (P7 n e).1 = true ∧ (P7 n e).2.2.1 = 0
 | 0, e, h => by rw [A7s] at h ⊢; exact stepv e h
 | n + 1, e, h => by
  by_cases h1 : (H4 e).2.1 = 1
  ·rw [A7t h1] at h ⊢; exact B1B n _ h
  ·rw [A7u h1] at h ⊢; exact stepv e h
where
 stepv (e : Tm) (h : (H4 e).2.1 = 0) : M5 (H4 e).1 = true ∧ E4 (H4 e).1 = true ∧ (H4 e).2.2 = 0 := by
  cases h1 : M5 e with
  | false => rw [A5S h1] at h; simp at h
  | true =>
   cases h2 : E4 e with
   | true => rw [A4R h1 h2]; exact ⟨h1, h2, rfl⟩
   | false =>
    by_cases h3 : (F0 e).2.1 = 1
    ·cases h4 : M5 (F0 e).1 with
     | false => rw [A4T h1 h2 h3 h4] at h; simp at h
     | true => rw [A4U h1 h2 h3 h4] at h; simp at h
    ·rw [A4S h1 h2 h3] at h
     exact absurd h (stp_ne0 e)
 stp_ne0 : ∀ (e : Tm), (F0 e).2.1 ≠ 0 := by
  refine Tm.ind fun k nm num ty fr lb ks ih => ?_
  rw [F0]
  cases hL : T9 (if k = 9 then 1 else ks.length) ks with
  | none => exact red_ne0 k ty fr lb ks
  | some p =>
   obtain ⟨us, c, l⟩ := p
   have := stpL_ne0 ks ih _ us c l hL
   simp only
   by_cases hc : c = 1
   ·rw [if_pos hc]; simp
   ·rw [if_neg hc]; exact this
 red_ne0 (k : Int) (ty fr : Ty) (lb : Int) (ks : List Tm) : (M7 k ty fr lb ks).2.1 ≠ 0 := by
  unfold M7 Q7
  repeat' split
  all_goals simp
 stpL_ne0 (ks : List Tm) (ih : ∀ t ∈ ks, (F0 t).2.1 ≠ 0) : ∀ (n : Nat) us c l, T9 n ks = some (us, c, l) → c ≠ 0 := by
  induction ks with
  | nil => intro n us c l h; cases n <;> simp [T9] at h
  | cons t ts iht =>
   intro n us c l h
   cases n with
   | zero => simp [T9] at h
   | succ n =>
    rw [A5P] at h
    by_cases hv : E4 t = true
    ·rw [if_pos hv] at h
     split at h
     ·rename_i us' c' l' h'
      simp only [Option.some.injEq, Prod.mk.injEq] at h
      obtain ⟨_, rfl, _⟩ := h
      exact iht (fun u hu => ih u (List.mem_cons_of_mem _ hu)) n _ _ _ h'
     ·cases h
    ·rw [if_neg hv] at h
     simp only [Option.some.injEq, Prod.mk.injEq] at h
     obtain ⟨_, rfl, _⟩ := h
     exact ih t List.mem_cons_self
theorem B1C {e : Tm} {fuel : Int} (h : (S9 e fuel).2.1 = 0) : M5 (S9 e fuel).1 = true ∧ E4 (S9 e fuel).1 = true ∧ (S9 e fuel).2.2 = 0 := by
 cases hf : R7 fuel 0 300 with
 | false => rw [A7w hf] at h; simp at h
 | true =>
  by_cases h1 : (P7 fuel.toNat e).2.1 = 1
  ·rw [B05 hf h1] at h; simp at h
  ·rw [B06 hf h1] at h ⊢; exact B1B _ _ h
theorem B1D {Q : Prop} (h : Q := by (obtain rfl : c = 0 := (by omega); subst he3; exact ⟨rfl, by rw [hyv rfl]⟩)) : Q := h
theorem B1E (e : Tm) (fuel : Int) (G : IM) (cells : List Value) (hT : A1k G) (hr : B1 G e cells) : Fn Tryz.prog 23 [.agg ⟨cells⟩, .int .i64 fuel] [] G (B1A (O9 e fuel) G) := by
 have hRl := hr.len
 have hRo := hr.one
 have hno := @A5V e fuel
 have hyv := fun u t => @A5W e u t fuel
 have hyn := fun u t => @A5X e u t fuel
 refine C6 Tryz.func23 rfl Tryz.ntmps23 Tryz.results23 rfl ?_
 intro w0
 refine A4 ?_
 refine sE (C9 rfl rfl) rfl (fun b3 => ?_)
 refine B7 ?_
 refine sL (A3 rfl rfl (B6 (by repeat first | exact mH | apply mT)) hRl) rfl rfl ?_
 focus (refine E6 rfl (A7F e G cells hr) rfl rfl (fun v G1 hle1 hh => ?_); obtain ⟨cu, ct, rfl, hru, hrt⟩ := hh; rcases hI : O8 e with _ | ⟨u, t⟩; rotate_left; rw [hI] at hru hrt; simp only [Option.getD_some] at hru hrt; rotate_left; rw [hI] at hru hrt; simp only [Option.getD_none] at hru hrt; simp only [Option.isSome]; rotate_left; simp only [Option.isSome]; rotate_left; all_goals (have hul := hru.len; have huo := hru.one; obtain ⟨p3, c3, e3, rfl, _⟩ := hrt.open))
 refine B4 ?_
 refine sE (A9 rfl) rfl (fun b17 => ?_)
 refine sE (A9 rfl) rfl (fun b18 => ?_)
 refine sS rfl rfl rfl hul huo rfl ?_ (hu := by exact E0 hul.symm)
 refine A0E ?_
 refine D3 (rT rfl) (rT rfl) (rT rfl) ?_
 (exact ⟨rfl, by rw [hno (by first | exact hI | rfl | assumption)]⟩)
 refine B4 ?_
 refine sE (A9 rfl) rfl (fun b47 => ?_)
 refine sE (A9 rfl) rfl (fun b48 => ?_)
 refine sS rfl rfl rfl hul huo rfl ?_ (hu := by exact E0 hul.symm)
 refine K0 ?_
 refine sL (A3 rfl rfl (B6 (by repeat first | exact mH | apply mT)) hul) rfl rfl ?_
 refine F8 ?_
 (have hyv := hyv u t hI; have hyn := hyn u t hI; have hev := @B1C u fuel; refine E6 rfl (B6K u fuel G1 cu hru) rfl rfl (fun v G2 hle2 hh => ?_); obtain ⟨wc, hvv, hrw⟩ := hh; have hwl := hrw.len; have hwo := hrw.one; generalize S9 u fuel = r at hvv hrw hyv hyn hev; obtain ⟨w, c, l⟩ := r; simp only at hvv hrw hyv hyn hev; subst hvv)
 refine B4 ?_
 refine sE (A9 rfl) rfl (fun b73 => ?_)
 refine sS rfl rfl rfl hwl hwo rfl ?_ (hu := by exact E0 hwl.symm)
 refine D4 ?_
 refine sB (N2 rfl rfl) rfl rfl (fun h83 => ?_) (fun h83 => ?_)
 refine J5 ?_
 refine D3 (rT rfl) (rT rfl) (rT rfl) ?_
 (exact ⟨rfl, by rw [hyn (by omega)]⟩)
 refine B7 ?_
 refine sL (A3 rfl rfl (B6 (by repeat first | exact mH | apply mT)) hwl) rfl rfl ?_
 (obtain ⟨he1, he2, he3⟩ := hev (by omega); refine H6 rfl (B68 w G2 wc (hT.mono (hle1.trans hle2)) (A03 he1).1 he2 hrw) rfl rfl ?_)
 refine D4 ?_
 refine D3 (rT rfl) (rT rfl) (rT rfl) ?_
 exact B1D
def S8 (o : Option Ty) (G : IM) : IM → Value → List A6 → Prop := K8 fun G' v => ∃ t cells, v = .tuple ⟨[.agg ⟨cells⟩, .bool o.isSome]⟩ ∧ C3 G' t cells ∧ F9 t ∧ ∀ u, o = some u → u = t
theorem S8.yes {G G' : IM} {o : Option Ty} {t : Ty} {cells : List Value} (h : o = some t) (hr : C3 G' t cells) (ha : F9 t) : S8 o G G' (.tuple ⟨[.agg ⟨cells⟩, .bool true]⟩) [] := by
 subst h; exact ⟨rfl, t, cells, rfl, hr, ha, fun u h => (by cases h; rfl)⟩
theorem S8.no {G G' : IM} {o : Option Ty} {t : Ty} {cells : List Value} (h : o = none) (hr : C3 G' t cells) (ha : F9 t) : S8 o G G' (.tuple ⟨[.agg ⟨cells⟩, .bool false]⟩) [] := by
 subst h; exact ⟨rfl, t, cells, rfl, hr, ha, fun u h => (by cases h)⟩
theorem S8.mk {G G' : IM} {o : Option Ty} {b : Bool} {t : Ty} {cells : List Value} (h : o = if b = true then some t else none) (hr : C3 G' t cells) (ha : F9 t) : S8 o G G' (.tuple ⟨[.agg ⟨cells⟩, .bool b]⟩) [] := by
 cases b
 ·exact S8.no h hr ha
 ·exact S8.yes h hr ha
theorem A7G {t : Ty} (h : F4 t = true) : F9 t := (A4x h).1
theorem A3i (k : Int) (a b : Ty) (G : IM) (ca cb : List Value) (hk : k = 4 ∨ k = 5) (ha : F9 a) (hb : F9 b) (hra : C3 G a ca) (hrb : C3 G b cb) :
  Fn Tryz.prog 189 [.int .i64 k, .agg ⟨ca⟩, .agg ⟨cb⟩] [] G (K8 fun G' v => ∃ cells, v = .tuple ⟨[.agg ⟨cells⟩, .bool (F4 (.mk k [a, b]))]⟩ ∧ C3 G' (.mk k [a, b]) cells) := by
 obtain ⟨ak, aks⟩ := a
 obtain ⟨bk, bks⟩ := b
 obtain ⟨pa, cca, ea, rfl, _⟩ := hra.open
 obtain ⟨pb, ccb, eb, rfl, _⟩ := hrb.open
 have hki : H0 k := ⟨by omega, by omega⟩
 refine C6 Tryz.func189 rfl Tryz.ntmps189 Tryz.results189 rfl ?_
 intro w0
 refine A4 ?_
 refine sE (C9 rfl rfl) rfl (fun b3 => ?_)
 refine sE (C9 rfl rfl) rfl (fun b4 => ?_)
 refine sE (A9 rfl) rfl (fun b5 => ?_)
 refine B4 ?_
 refine D7 D8 rfl ?_
 refine I6 (i := 0) (l' := [tt,ff,ff,ff,ff,ff,ff,ff,ff]) rfl D2 (qM rfl) rfl (by kernel_rfl) rfl rfl ?_
 refine aL 1 rfl (A5 rfl rfl) rfl ?_
 refine aL 3 rfl (A5 rfl rfl) rfl ?_
 refine Q3 (j := 2) (j' := 7) (by kernel_rfl) ?_ ?_
 (refine H3 rfl rfl (Q5 _ G _ ha.small hra) rfl rfl rfl (fun v G1 hle1 hh => ?_); obtain ⟨cs1, F1, rfl, hs1, hn1⟩ := hh; obtain ⟨p1, c1, rfl, _⟩ := hs1.open; have hC2 := Q5 _ G1 _ hb.small (hrb.mono hle1))
 refine Q3 (j := 4) (j' := 7) (by kernel_rfl) ?_ ?_
 (refine H3 rfl rfl hC2 rfl rfl rfl (fun v G2 hle2 hh => ?_); obtain ⟨cs2, F2, rfl, hs2, hn2⟩ := hh; obtain ⟨p2, c2, rfl, _⟩ := hs2.open; have hr1 := hs1.R.mono ((C2.le G1 G).trans hle2); have hr2 := hs2.R.mono (C2.le G2 G1))
 refine Q3 (j := 5) (j' := 7) (by kernel_rfl) ?_ ?_
 (refine E2 rfl (D0 rfl rfl rfl (by omega) (by unfold maxLen; omega) rfl) rfl rfl ?_; rintro _ ⟨b19, rfl⟩)
 refine aP 6 rfl (Y0 rfl rfl) rfl ?_
 refine A2 7 ?_
 (refine E2 rfl (A9 rfl) rfl rfl ?_; rintro _ ⟨b22, rfl⟩)
 refine A2 8 ?_
 refine H8 rfl ?_
 refine B9 ?_
 (have hr1' := hr1; refine A2i (by repeat (first | exact Pk.here | apply Pk.there)) (fun G5 hle5 hsl5 hno5 => ?_); have hRT : C3 G5 (.mk k [.mk ak aks, .mk bk bks]) _ := D5.ty (ts := [.mk ak aks, .mk bk bks]) (es := [[.int .i64 ak, .slice p1 aks.length c1], [.int .i64 bk, .slice p2 bks.length c2]]) ⟨_, _, rfl, hr1.mono hle5, _, _, rfl, hr2.mono hle5, rfl⟩ rfl hsl5 hki; have hV := A13 _ G5 _ hRT; refine D7 D8 rfl ?_)
 refine L3 (i := 0) (l' := [tt,ff,ff,ff,ff]) rfl D2 (A5 rfl rfl) rfl (by kernel_rfl) rfl rfl ?_
 refine aL 1 rfl (A5 rfl rfl) rfl ?_
 refine A2 2 ?_
 refine N6 rfl rfl (hV) rfl rfl rfl ?_
 refine A2 3 ?_
 refine H8 rfl ?_
 refine aP 4 rfl (qA rfl) rfl ?_
 refine B9 ?_
 refine H5 (rC rfl (A5 rfl rfl)) (rT rfl) ?_
 (exact ⟨rfl, _, rfl, hRT⟩)
 (refine E2 rfl (A9 rfl) rfl rfl ?_; rintro _ ⟨b41, rfl⟩)
 refine A2 5 ?_
 (refine E2 rfl (D0 rfl rfl rfl (by omega) (by unfold maxLen; omega) rfl) rfl rfl ?_; rintro _ ⟨b43, rfl⟩)
 refine aP 6 rfl (Y0 rfl rfl) rfl ?_
 refine A2 8 ?_
 refine H8 rfl ?_
 refine B9 ?_
 (have hr1' := hr1; refine A2i (by repeat (first | exact Pk.here | apply Pk.there)) (fun G5 hle5 hsl5 hno5 => ?_); have hRT : C3 G5 (.mk k [.mk ak aks, .mk bk bks]) _ := D5.ty (ts := [.mk ak aks, .mk bk bks]) (es := [[.int .i64 ak, .slice p1 aks.length c1], [.int .i64 bk, .slice p2 bks.length c2]]) ⟨_, _, rfl, hr1.mono hle5, _, _, rfl, hr2.mono hle5, rfl⟩ rfl hsl5 hki; have hV := A13 _ G5 _ hRT; refine D7 D8 rfl ?_)
 refine L3 (i := 0) (l' := [tt,ff,ff,ff,ff]) rfl D2 (A5 rfl rfl) rfl (by kernel_rfl) rfl rfl ?_
 refine aL 1 rfl (A5 rfl rfl) rfl ?_
 refine A2 2 ?_
 refine N6 rfl rfl (hV) rfl rfl rfl ?_
 refine A2 3 ?_
 refine H8 rfl ?_
 refine aP 4 rfl (qA rfl) rfl ?_
 refine B9 ?_
 refine H5 (rC rfl (A5 rfl rfl)) (rT rfl) ?_
 (exact ⟨rfl, _, rfl, hRT⟩)
 (refine E2 rfl (A9 rfl) rfl rfl ?_; rintro _ ⟨b63, rfl⟩)
 refine A2 4 ?_
 (refine H3 rfl rfl hC2 rfl rfl rfl (fun v G2 hle2 hh => ?_); obtain ⟨cs2, F2, rfl, hs2, hn2⟩ := hh; obtain ⟨p2, c2, rfl, _⟩ := hs2.open; have hr1 := hs1.R.mono ((C2.le G1 G).trans hle2); have hr2 := hs2.R.mono (C2.le G2 G1))
 refine A2 5 ?_
 (refine E2 rfl (D0 rfl rfl rfl (by omega) (by unfold maxLen; omega) rfl) rfl rfl ?_; rintro _ ⟨b67, rfl⟩)
 refine aP 6 rfl (Y0 rfl rfl) rfl ?_
 refine A2 8 ?_
 refine H8 rfl ?_
 refine B9 ?_
 (have hr1' := hr1; refine A2i (by repeat (first | exact Pk.here | apply Pk.there)) (fun G5 hle5 hsl5 hno5 => ?_); have hRT : C3 G5 (.mk k [.mk ak aks, .mk bk bks]) _ := D5.ty (ts := [.mk ak aks, .mk bk bks]) (es := [[.int .i64 ak, .slice p1 aks.length c1], [.int .i64 bk, .slice p2 bks.length c2]]) ⟨_, _, rfl, hr1.mono hle5, _, _, rfl, hr2.mono hle5, rfl⟩ rfl hsl5 hki; have hV := A13 _ G5 _ hRT; refine D7 D8 rfl ?_)
 refine L3 (i := 0) (l' := [tt,ff,ff,ff,ff]) rfl D2 (A5 rfl rfl) rfl (by kernel_rfl) rfl rfl ?_
 refine aL 1 rfl (A5 rfl rfl) rfl ?_
 refine A2 2 ?_
 refine N6 rfl rfl (hV) rfl rfl rfl ?_
 refine A2 3 ?_
 refine H8 rfl ?_
 refine aP 4 rfl (qA rfl) rfl ?_
 refine B9 ?_
 refine H5 (rC rfl (A5 rfl rfl)) (rT rfl) ?_
 (exact ⟨rfl, _, rfl, hRT⟩)
 (refine E2 rfl (A9 rfl) rfl rfl ?_; rintro _ ⟨b87, rfl⟩)
 refine A2 2 ?_
 (refine H3 rfl rfl (Q5 _ G _ ha.small hra) rfl rfl rfl (fun v G1 hle1 hh => ?_); obtain ⟨cs1, F1, rfl, hs1, hn1⟩ := hh; obtain ⟨p1, c1, rfl, _⟩ := hs1.open; have hC2 := Q5 _ G1 _ hb.small (hrb.mono hle1))
 refine A2 4 ?_
 (refine H3 rfl rfl hC2 rfl rfl rfl (fun v G2 hle2 hh => ?_); obtain ⟨cs2, F2, rfl, hs2, hn2⟩ := hh; obtain ⟨p2, c2, rfl, _⟩ := hs2.open; have hr1 := hs1.R.mono ((C2.le G1 G).trans hle2); have hr2 := hs2.R.mono (C2.le G2 G1))
 refine A2 5 ?_
 (refine E2 rfl (D0 rfl rfl rfl (by omega) (by unfold maxLen; omega) rfl) rfl rfl ?_; rintro _ ⟨b93, rfl⟩)
 refine aP 6 rfl (Y0 rfl rfl) rfl ?_
 refine A2 8 ?_
 refine H8 rfl ?_
 refine B9 ?_
 (have hr1' := hr1; refine A2i (by repeat (first | exact Pk.here | apply Pk.there)) (fun G5 hle5 hsl5 hno5 => ?_); have hRT : C3 G5 (.mk k [.mk ak aks, .mk bk bks]) _ := D5.ty (ts := [.mk ak aks, .mk bk bks]) (es := [[.int .i64 ak, .slice p1 aks.length c1], [.int .i64 bk, .slice p2 bks.length c2]]) ⟨_, _, rfl, hr1.mono hle5, _, _, rfl, hr2.mono hle5, rfl⟩ rfl hsl5 hki; have hV := A13 _ G5 _ hRT; refine D7 D8 rfl ?_)
 refine L3 (i := 0) (l' := [tt,ff,ff,ff,ff]) rfl D2 (A5 rfl rfl) rfl (by kernel_rfl) rfl rfl ?_
 refine aL 1 rfl (A5 rfl rfl) rfl ?_
 refine A2 2 ?_
 refine N6 rfl rfl (hV) rfl rfl rfl ?_
 refine A2 3 ?_
 refine H8 rfl ?_
 refine aP 4 rfl (qA rfl) rfl ?_
 refine B9 ?_
 refine H5 (rC rfl (A5 rfl rfl)) (rT rfl) ?_
 (exact ⟨rfl, _, rfl, hRT⟩)
theorem A3X (k : Int) (t : Ty) (G : IM) (cells : List Value) (hk : k = 4 ∨ k = 5) (ha : F9 t) (hr : C3 G t cells) :
  Fn Tryz.prog 191 [.int .i64 k, .agg ⟨cells⟩] [] G (B0g k t G) := by
 obtain ⟨tk, ks⟩ := t
 have ha2 := ha
 rw [F9] at ha2
 have hkid := ha.kid
 obtain ⟨p, c, es, rfl, htk, hsl, hkl⟩ := hr.open
 simp only [Ty.k, Ty.ks] at htk hsl hkl ⊢
 refine C6 Tryz.func191 rfl Tryz.ntmps191 Tryz.results191 rfl ?_
 intro w0
 refine A4 ?_
 refine sE (C9 rfl rfl) rfl (fun b3 => ?_)
 refine sE (A9 rfl) rfl (fun b4 => ?_)
 refine sE (A9 rfl) rfl (fun b5 => ?_)
 refine D4 ?_
 refine sB (qE rfl rfl) rfl rfl (fun h14 => ?_) (fun h14 => ?_)
 refine B0 ?_
 refine H6 rfl ((A17 _)) rfl rfl ?_
 refine H6 rfl ((A17 _)) rfl rfl ?_
 refine B7 ?_
 refine D3 (rC rfl (A5 rfl rfl)) (rC rfl (A5 rfl rfl)) (rT rfl) ?_
 (refine ⟨rfl, _, _, _, _, ?_, A0Q _, A0Q _, A4o, A4o, ?_⟩ <;> rw [A1s, if_neg (by omega), if_pos (by omega)] <;> first | rfl | (intro p hp; cases hp; rfl))
 refine J8 ?_
 refine sB (N2 rfl rfl) rfl rfl (fun h42 => ?_) (fun h42 => ?_)
 refine J5 ?_
 refine D3 (rC rfl (A5 rfl rfl)) (rC rfl (A5 rfl rfl)) (rT rfl) ?_
 (refine ⟨rfl, B3, _, B3, _, ?_, P1 _ ⟨by omega, by omega⟩, P1 _ ⟨by omega, by omega⟩, X6 (by omega) (by omega), X6 (by omega) (by omega), ?_⟩ <;> rw [A1s, if_neg (by omega), if_neg (by omega)] <;> first | rfl | (intro p hp; cases hp))
 refine A8 ?_
 (have hlen : ks.length = 2 := ha2.1 (by omega); obtain ⟨b, o, q0, d0, hp0, hat0, hre0, hg0⟩ := hsl.kidTy hkl (i := 0) (by omega) (by omega); obtain ⟨b', o', q1, d1, hp1, hat1, hre1, hg1⟩ := hsl.kidTy hkl (i := 1) (by omega) (by omega); subst hp0; cases hp1; have hC1 := Q5 _ G _ (hkid _ (List.getElem_mem (by omega))).small hre0; refine D7 D8 rfl ?_)
 refine I6 (i := 0) (l' := [tt,ff,ff,ff,ff,ff,ff,ff,ff,ff,ff,ff,ff]) rfl D2 (B8 rfl) rfl (by kernel_rfl) rfl rfl ?_
 refine aL 1 rfl (C7 rfl rfl) rfl ?_
 refine aP 2 rfl (B5 (j := 0) rfl rfl rfl (by omega)) rfl ?_
 refine aL 3 rfl (A3 rfl rfl (hat0 _) rfl) rfl ?_
 refine aP 5 rfl (B8 rfl) rfl ?_
 refine aL 6 rfl (C7 rfl rfl) rfl ?_
 refine aP 7 rfl (B5 (j := 1) rfl rfl rfl (by omega)) rfl ?_
 refine aL 8 rfl (A3 rfl rfl (hat1 _) rfl) rfl ?_
 refine A2 4 ?_
 (refine H3 rfl rfl hC1 rfl rfl rfl (fun v G1 hle1 hh => ?_); obtain ⟨cs1, F1, rfl, hs1, hn1⟩ := hh; obtain ⟨p1, c1, rfl, _⟩ := hs1.open; have hC2 := Q5 _ G1 _ (hkid _ (List.getElem_mem (by omega))).small (hre1.mono hle1))
 refine A2 9 ?_
 (refine H3 rfl rfl hC2 rfl rfl rfl (fun v G2 hle2 hh => ?_); obtain ⟨cs2, F2, rfl, hs2, hn2⟩ := hh; obtain ⟨p2, c2, rfl, _⟩ := hs2.open; have hr1 := hs1.R.mono ((C2.le G1 G).trans hle2); have hr2 := hs2.R.mono (C2.le G2 G1))
 refine A2 10 ?_
 refine H8 rfl ?_
 refine A2 11 ?_
 refine Q8 rfl rfl rfl rfl rfl rfl rfl rfl (by decide +kernel) (by repeat first | exact Sw.here | apply Sw.there) (by rfl) ?_
 refine aP 12 rfl (qA rfl) rfl ?_
 refine B9 ?_
 refine D3 (rC rfl (A5 rfl rfl)) (rC rfl (A5 rfl rfl)) (rT rfl) ?_
 (refine ⟨rfl, _, _, _, _, ?_, hr1, hr2, hkid _ (List.getElem_mem (by omega)), hkid _ (List.getElem_mem (by omega)), ?_⟩ <;> rw [A1s, if_pos (by omega)] <;> first | rfl | (intro p hp; cases hp; simp [hlen]))
theorem B7e (G : IM) (cx : Cx) (hv : cxV cx) (p : Option Addr) (n c : Nat) (nm : ByteArray) (hx : U4 G cx p n c) :
  Fn Tryz.prog 162 [.slice p n c, .string nm] [] G (S8 (Q1 cx nm) G) := by
 have hn := hx.le
 refine C6 Tryz.func162 rfl Tryz.ntmps162 Tryz.results162 rfl ?_
 intro w0
 refine A4 ?_
 refine sE (A9 rfl) rfl (fun b3 => ?_)
 refine D4 ?_
 refine sP (P4 rfl rfl (by omega) (by omega)) rfl rfl ?_
 refine B9 ?_
 refine C5 ?_
 (refine K2 (fun (i : Nat) => ⟨[(6, .int .i64 ((i : Int) - 1)), (0, .slice p n c), (1, .string nm), (4, .pointer (some ⟨b3, 0, none⟩))], [.blk b3 [.int .i64 0, .slice none 0 0]], G⟩) (fun i => i ≤ n ∧ Q1 cx nm = W7 cx nm i) (fun i => i) n ?_ ?_ ?_)
 exact D6
 (exact ⟨Nat.le_refl _, by unfold Q1; rw [hx.1]⟩)
 (rintro i ⟨hi, hlk⟩)
 refine B4 ?_
 refine sB (A0X rfl rfl) rfl rfl (fun h25 => ?_) (fun h25 => ?_)
 refine A8 ?_
 (show J3 _ _ (.block 1 _) _ _; obtain ⟨j, rfl⟩ : ∃ j, i = j + 1 := ⟨i - 1, by omega⟩; rw [show ((j + 1 : Nat) : Int) - 1 = (j : Int) from by omega]; obtain ⟨b, o, nm1, t1, q1, d1, hcx, rfl, hat, hr1, hgb⟩ := hx.get (i := j) (by omega); have ha1 := A7G (hv _ (List.mem_of_getElem? hcx)); refine C5 ?_)
 refine B4 ?_
 refine sP (B5 rfl rfl rfl (by omega)) rfl rfl ?_
 refine F8 ?_
 refine sL (W4 rfl rfl ((hat _).sub (j := 0) rfl)) rfl rfl ?_
 refine F8 ?_
 refine sB (A1T rfl rfl) rfl rfl (fun h41 => ?_) (fun h41 => ?_)
 refine B7 ?_
 refine sP (B5 rfl rfl rfl (by omega)) rfl rfl ?_
 refine F8 ?_
 refine sL (A3 rfl rfl (hat _).drop rfl) rfl rfl ?_
 (refine E6 rfl (Q5 _ G _ ha1.small hr1) rfl rfl (fun v G1 hle1 hh => ?_); obtain ⟨cs1, F1, rfl, hs1', hn1⟩ := hh; obtain ⟨p1, c1, rfl, _⟩ := hs1'.open; have hrr := hs1'.R.mono (C2.le G1 G))
 refine J2 ?_
 refine H5 (rC rfl (A5 rfl rfl)) (rT rfl) ?_
 (exact S8.yes (by rw [hlk]; exact A4r hcx (by assumption)) hrr ha1)
 refine D4 ?_
 refine sP (P4 rfl rfl (by omega) (by omega)) rfl rfl ?_
 refine A4 ?_
 refine I5 j ?_ ?_ ?_
 exact D6
 (exact ⟨by omega, by rw [hlk]; exact A4s hcx (by assumption)⟩)
 (show _ < _ + 1; omega)
 refine K0 ?_
 refine H5 (rC rfl (A5 rfl rfl)) (rT rfl) ?_
 (obtain rfl : i = 0 := (by omega); exact S8.no (by rw [hlk]; rfl) (P1 _ ⟨by omega, by omega⟩) (X6 (by omega) (by omega)))
theorem A5Y : ∀ (xs ys : List Ty), xs.length = ys.length → (T7 xs ys).length = xs.length
 | [], [], _ => rfl
 | a :: xs, b :: ys, h => by simp only [T7, List.length_cons]; rw [A5Y xs ys (by simpa using h)]
 | [], b :: ys, h => by simp at h
 | a :: xs, [], h => by simp at h
theorem A7H : ∀ (xs ys : List Ty) (i : Nat) (h : i < xs.length) (h' : i < ys.length) (hl : i < (T7 xs ys).length), (T7 xs ys)[i] = V6 xs[i] ys[i]
 | [], _, i, h, _, _ => by simp at h
 | a :: xs, [], i, _, h', _ => by simp at h'
 | a :: xs, b :: ys, 0, _, _, _ => by simp [T7]
 | a :: xs, b :: ys, i + 1, h, h', hl => by
  simp only [T7, List.getElem_cons_succ]
  exact A7H xs ys i (by simpa using h) (by simpa using h') _
theorem B7f {xs ys : List Ty} {i : Nat} (hl : xs.length = ys.length) (h : i < xs.length) : (T7 xs ys).take (i + 1) = (T7 xs ys).take i ++ [V6 xs[i] (ys[i]'(by omega))] := by
 rw [List.take_succ_eq_append_getElem (by rw [A5Y _ _ hl]; exact h), A7H _ _ i h (by omega)]
theorem B7g : ∀ (a b : Ty) (G : IM) (ca cb : List Value), K6 a b = true → F9 a → F9 b → C3 G a ca → C3 G b cb → Fn Tryz.prog 221 [.agg ⟨ca⟩, .agg ⟨cb⟩] [] G (K8 fun G' v => ∃ cells, v = .agg ⟨cells⟩ ∧ C3 G' (V6 a b) cells) := by
 refine Ty.ind fun ak aks ih b G ca cb hc ha hb hra hrb => ?_
 obtain ⟨bk, bks⟩ := b
 have hka := ha.kid
 have hkb := hb.kid
 have hca := Q5 _ G _ ha.small hra
 have hcb := Q5 _ G _ hb.small hrb
 have hcc : ak ≠ 1 → bk ≠ 1 → aks.length = bks.length ∧ ∀ i, (h : i < aks.length) → (h' : i < bks.length) → K6 aks[i] bks[i] = true := by
  intro h1 h2
  rw [V3, decide_eq_false h1, decide_eq_false h2] at hc
  simp only [Bool.false_or, Bool.and_eq_true, decide_eq_true_eq] at hc
  exact (A2S _ _).1 hc.2
 rw [A1n]
 obtain ⟨pa, cca, ea, rfl, hak, hsla, hkla⟩ := hra.open
 obtain ⟨pb, ccb, eb, rfl, hbk, hslb, hklb⟩ := hrb.open
 simp only [Ty.k, Ty.ks] at hak hsla hkla hbk hslb hklb ⊢
 have hna := hsla.le
 have hnb := hslb.le
 have hl2 := ha.two
 refine C6 Tryz.func221 rfl Tryz.ntmps221 Tryz.results221 rfl ?_
 intro w0
 refine A4 ?_
 refine sE (C9 rfl rfl) rfl (fun b3 => ?_)
 refine sE (C9 rfl rfl) rfl (fun b4 => ?_)
 refine sE (A9 rfl) rfl (fun b5 => ?_)
 refine B7 ?_
 refine sB (qE rfl rfl) rfl rfl (fun h13 => ?_) (fun h13 => ?_)
 refine A8 ?_
 (refine E6 rfl (by first | exact hcb | exact hca) rfl rfl (fun v G1 hle1 hh => ?_); obtain ⟨cs1, F1, rfl, hs1, hn1⟩ := hh; obtain ⟨p1, c1, rfl, _⟩ := hs1.open; have hr1 := hs1.R.mono (C2.le G1 G))
 refine B0 ?_
 refine N9 (rC rfl (A5 rfl rfl)) ?_
 (rw [if_pos (by omega)]; exact ⟨rfl, _, rfl, hr1⟩)
 refine J2 ?_
 refine sB (qE rfl rfl) rfl rfl (fun h38 => ?_) (fun h38 => ?_)
 refine A8 ?_
 (refine E6 rfl (by first | exact hcb | exact hca) rfl rfl (fun v G1 hle1 hh => ?_); obtain ⟨cs1, F1, rfl, hs1, hn1⟩ := hh; obtain ⟨p1, c1, rfl, _⟩ := hs1.open; have hr1 := hs1.R.mono (C2.le G1 G))
 refine B0 ?_
 refine N9 (rC rfl (A5 rfl rfl)) ?_
 (rw [if_neg (by omega), if_pos (by omega)]; exact ⟨rfl, _, rfl, hr1⟩)
 refine J2 ?_
 refine sE (A9 rfl) rfl (fun b63 => ?_)
 refine E1 ?_
 refine C5 ?_
 (obtain ⟨hlab, hcab⟩ := hcc (by omega) (by omega); refine V0 34 2 ?_; refine K2 (fun (x : Nat × Option Addr × Nat × List Ty × List (List Value) × IM) => ⟨[(6, .int .i64 x.1), (5, .pointer (some ⟨b63, 0, none⟩)), (4, .pointer (some ⟨b5, 0, none⟩)), (2, .pointer (some ⟨b3, 0, none⟩)), (3, .pointer (some ⟨b4, 0, none⟩))], [.blk b63 [.int .i64 ak, .slice x.2.1 x.1 x.2.2.1], .slc x.2.1 x.2.2.1 34 2 x.1 x.2.2.2.2.1.flatten, .blk b5 [.int .i64 0, .slice none 0 0], .blk b4 [.int .i64 bk, .slice pb bks.length ccb], .blk b3 [.int .i64 ak, .slice pa aks.length cca]], x.2.2.2.2.2⟩) (fun x => x.1 ≤ aks.length ∧ C4 G x.2.2.2.2.2 ∧ x.2.2.2.1.length = x.1 ∧ D5 x.2.2.2.2.2 x.2.2.2.1 x.2.2.2.2.1 ∧ x.2.2.2.1 = (T7 aks bks).take x.1) (fun x => aks.length - x.1) (0, none, 0, [], [], G) ?_ ?_ ?_)
 (simp only [I1]; exact D6)
 (exact ⟨by simp, C4.refl _, rfl, by simp [D5], rfl⟩)
 (rintro ⟨i, pn, cn, us, es', Gi⟩ ⟨hi, hle, hlu, hst, hus⟩; simp only [] at hi hle hlu hst hus ⊢; replace hsla := hsla.mono hle; replace hkla := hkla.mono hle; replace hslb := hslb.mono hle; replace hklb := hklb.mono hle)
 refine B7 ?_
 refine sB (J4 rfl rfl) rfl rfl (fun h85 => ?_) (fun h85 => ?_)
 refine A8 ?_
 refine C5 ?_
 (obtain ⟨b, o, q0, d0, hp0, hat0, hre0, hg0⟩ := hsla.kidTy hkla (i := i) (by omega) (by omega); obtain ⟨b', o', q1, d1, hp1, hat1, hre1, hg1⟩ := hslb.kidTy hklb (i := i) (by omega) (by omega); subst hp0; subst hp1; have hih := ih aks[i] (List.getElem_mem (by omega)) bks[i] Gi _ _ (hcab i (by omega) (by omega)) (hka _ (List.getElem_mem (by omega))) (hkb _ (List.getElem_mem (by omega))) hre0 hre1; refine D7 D8 rfl ?_)
 refine I6 (i := 0) (l' := [tt,ff,ff,ff,ff,ff,ff,ff,ff,ff,ff,ff,ff,ff,ff,ff,ff]) rfl D2 (B8 rfl) rfl (by kernel_rfl) rfl rfl ?_
 refine aL 1 rfl (C7 rfl rfl) rfl ?_
 refine aP 2 rfl (B8 rfl) rfl ?_
 refine aL 3 rfl (C7 rfl rfl) rfl ?_
 refine aP 4 rfl (qM rfl) rfl ?_
 refine aP 5 rfl (B5 rfl rfl rfl (by omega)) rfl ?_
 refine aL 6 rfl (A3 rfl rfl (hat0 _) rfl) rfl ?_
 refine aP 7 rfl (B8 rfl) rfl ?_
 refine aL 8 rfl (C7 rfl rfl) rfl ?_
 refine aP 9 rfl (qM rfl) rfl ?_
 refine aP 10 rfl (B5 rfl rfl rfl (by omega)) rfl ?_
 refine aL 11 rfl (A3 rfl rfl (hat1 _) rfl) rfl ?_
 refine A2 12 ?_
 (refine H3 rfl rfl hih rfl rfl rfl (fun v G1 hle1 hh => ?_); obtain ⟨cells', rfl, hru⟩ := hh; generalize hu : V6 aks[i] bks[i] = u at hru; obtain ⟨p3, c3, es3, rfl, _⟩ := hru.open)
 refine A2 13 ?_
 (refine E2 rfl (D0 rfl rfl rfl (by omega) (by unfold maxLen; omega) rfl) rfl rfl ?_; rintro _ ⟨b109, rfl⟩)
 refine A2 14 ?_
 refine P5 rfl rfl rfl rfl rfl rfl (fun _ _ => by repeat (first | exact Sw.here | apply Sw.there)) (M9 (by repeat first | exact mH | apply mT)) rfl (by simp [Value.oneCell']) (by unfold maxLen; omega) (by omega) rfl rfl (by repeat (first | exact A7.nil | apply A7.dep (by decide +kernel) | apply A7.blk (by decide +kernel) (by repeat (first | exact Pk.here | apply Pk.there)) (by repeat first | exact mH | apply mT))) (fun pn' cn' => ?_)
 refine aP 15 rfl (B8 rfl) rfl ?_
 refine A2 16 ?_
 refine Q8 rfl rfl rfl rfl rfl rfl rfl rfl (by decide +kernel) (by repeat first | exact Sw.here | apply Sw.there) (by rfl) ?_
 refine B0 ?_
 refine sP (H9 rfl rfl (by omega) (by omega)) rfl rfl ?_
 refine A4 ?_
 refine I5 (i + 1, pn', cn', us ++ [u], es' ++ [[.int .i64 u.k, .slice p3 u.ks.length c3]], G1) ?_ ?_ ?_
 (simp only [I1]; exact D6)
 (dsimp only; exact ⟨by omega, hle.trans hle1, by simp [hlu], D5.snoc (hst.mono hle1) hru, by rw [B7f hlab (by omega), ← hus, hu]⟩)
 (show aks.length - (i + 1) < aks.length - i; omega)
 refine J5 ?_
 (refine H2 (by repeat (first | exact Pk.here | apply Pk.there)) (fun G2 hle2 hsl2 hno2 => ?_); obtain rfl : i = aks.length := (by omega))
 refine tT ?_
 refine N9 (rC rfl (A5 rfl rfl)) ?_
 (rw [List.take_of_length_le (by rw [A5Y _ _ hlab]; omega)] at hus; rw [if_neg (by omega), if_neg (by omega), ← hus]; exact ⟨rfl, _, rfl, (hst.mono hle2).ty hlu hsl2 hak⟩)
theorem gD {ts : List Ty} {i : Nat} (h : i < ts.length) : ts.getD i B3 = ts[i] := by rw [List.getD_eq_getElem?_getD, List.getElem?_eq_getElem h, Option.getD_some]
section
variable {cx : Cx} {k : Int} {nm : ByteArray} {ty : Ty} {ts : List Ty}
theorem B1F (h : 1 < ts.length) : Y1 cx 6 nm ty ts = match S1 4 ts[0] with | some (a, b) => if K6 ts[1] a = true then some b else none | none => none := by
 unfold Y1 J6
 rw [gD (i := 0) (by omega), gD (i := 1) h]
 simp only [show ¬((6 : Int) = 1) by decide, show ¬((6 : Int) = 2) by decide, show ¬((6 : Int) = 3 ∨ (6 : Int) = 4) by decide, show ¬((6 : Int) = 5) by decide, if_false, if_true]
 cases S1 4 ts[0] with
 | none => rfl
 | some p =>
  obtain ⟨a, b⟩ := p
  by_cases hc : K6 ts[1] a = true
  ·simp [hc]
  ·simp [hc]
theorem B1G (hk : k = 7 ∨ k = 8) (h : 1 < ts.length) : Y1 cx k nm ty ts = if K6 ts[0] Q9 = true ∧ K6 ts[1] Q9 = true then some (if k = 8 then U9 else Q9) else none := by
 unfold Y1 J6
 rw [gD (i := 0) (by omega), gD (i := 1) h, if_neg (by omega), if_neg (by omega), if_neg (by omega), if_neg (by omega), if_neg (by omega), if_pos hk]
 by_cases hc : K6 ts[0] Q9 = true ∧ K6 ts[1] Q9 = true
 ·rw [if_pos hc, if_pos hc]; simp only; rw [if_neg (by omega)]
 ·rw [if_neg hc, if_neg hc]
theorem B1H (h : 2 < ts.length) : Y1 cx 9 nm ty ts = if K6 ts[0] U9 = true ∧ K6 ts[1] ts[2] = true then some (V6 ts[1] ts[2]) else none := by
 unfold Y1 J6
 rw [gD (i := 0) (by omega), gD (i := 1) (by omega), gD (i := 2) h, if_neg (by omega), if_neg (by omega), if_neg (by omega), if_neg (by omega), if_neg (by omega), if_neg (by omega), if_pos rfl]
 by_cases hc : K6 ts[0] U9 = true ∧ K6 ts[1] ts[2] = true
 ·rw [if_pos hc, if_pos hc]; simp
 ·rw [if_neg hc, if_neg hc]
theorem B7h (h : 1 < ts.length) : Y1 cx 10 nm ty ts = if F4 (.mk 5 [ts[0], ts[1]]) = true then some (.mk 5 [ts[0], ts[1]]) else none := by
 unfold Y1 J6
 rw [gD (i := 0) (by omega), gD (i := 1) h, if_neg (by omega), if_neg (by omega), if_neg (by omega), if_neg (by omega), if_neg (by omega), if_neg (by omega), if_neg (by omega), if_pos rfl]
 cases hv : F4 (.mk 5 [ts[0], ts[1]]) <;> simp [hv]
theorem B7i (h : 0 < ts.length) : Y1 cx 13 nm ty ts = if K6 ts[0] ty = true then some ty else none := by
 unfold Y1 J6
 rw [gD (i := 0) h, if_neg (by omega), if_neg (by omega), if_neg (by omega), if_neg (by omega), if_neg (by omega), if_neg (by omega), if_neg (by omega), if_neg (by omega), if_pos rfl]
 by_cases hc : K6 ts[0] ty = true
 ·rw [if_pos hc, if_pos hc]; simp
 ·rw [if_neg hc, if_neg hc]
theorem A5Z (hk : k = 11 ∨ k = 12) (h : 0 < ts.length) : Y1 cx k nm ty ts = match S1 5 ts[0] with | some (a, b) => some (if k = 12 then b else a) | none => none := by
 unfold Y1 J6
 rw [gD (i := 0) h, if_neg (by omega), if_neg (by omega), if_neg (by omega), if_neg (by omega), if_neg (by omega), if_neg (by omega), if_neg (by omega), if_neg (by omega), if_neg (by omega)]
 cases S1 5 ts[0] with
 | none => rfl
 | some p =>
  obtain ⟨a, b⟩ := p
  simp only
  rw [if_neg (by omega)]
end
theorem B7j : ∀ (a b : Ty), K6 a b = true → F9 a → F9 b → F9 (V6 a b) := by
 refine Ty.ind fun k ks ih b hc ha hb => ?_
 obtain ⟨k', ks'⟩ := b
 rw [A1n]
 split
 ·exact hb
 ·split
  ·exact ha
  ·rw [V3] at hc
   simp only [Bool.or_eq_true, Bool.and_eq_true, decide_eq_true_eq] at hc
   obtain ⟨hk, hl⟩ : k = k' ∧ O0 ks ks' = true := by
    rcases hc with (h | h) | h
    ·contradiction
    ·contradiction
    ·exact h
   obtain ⟨hll, hcc⟩ := (A2S _ _).1 hl
   have hlen := A5Y ks ks' hll
   refine A90 ha hlen fun u hu => ?_
   obtain ⟨i, hi, rfl⟩ := List.mem_iff_getElem.1 hu
   rw [A7H ks ks' i (by omega) (by omega)]
   exact ih _ (List.getElem_mem _) _ (hcc i (by omega) (by omega)) (ha.kid _ (List.getElem_mem _)) (hb.kid _ (List.getElem_mem _))
theorem B1I {Q : Prop} (h : Q := by (have hk7 : k = 7 := (by omega); exact S8.mk (by rw [B1G (.inl hk7) (by omega)]; simp_all [Q9]) (P1 _ ⟨by omega, by omega⟩) (X6 (by omega) (by omega)))) : Q := h
theorem B1J {Q : Prop} (h : Q := by (have hk8 : k = 8 := (by omega); exact S8.mk (by rw [B1G (.inr hk8) (by omega)]; simp_all [Q9, U9]) (P1 _ ⟨by omega, by omega⟩) (X6 (by omega) (by omega)))) : Q := h
theorem B7k (cx : Cx) (k : Int) (nm : ByteArray) (num : Int) (ty fr : Ty) (lb : Int) (ks : List Tm) (ts : List Ty) (G : IM) (cells : List Value) (p : Option Addr) (c : Nat) (es : List (List Value))
  (hops : D9 k = ts.length) (hk6 : 6 ≤ k ∧ k ≤ 13) (hty : F9 ty) (hr : B1 G (.mk k nm num ty fr lb ks) cells) (hsl : E3 G p ts.length c 2 es) (hkl : D5 G ts es) (har : ∀ t ∈ ts, F9 t) :
  Fn Tryz.prog 190 [.agg ⟨cells⟩, .slice p ts.length c] [] G (S8 (Y1 cx k nm ty ts) G) := by
 have hone := hr.one
 have hop := A3G hops
 have ha0 := fun h : 0 < ts.length => har _ (List.getElem_mem h)
 have ha1 := fun h : 1 < ts.length => har _ (List.getElem_mem h)
 have ha2 := fun h : 2 < ts.length => har _ (List.getElem_mem h)
 obtain ⟨tk, tks⟩ := ty
 obtain ⟨fk, fks⟩ := fr
 obtain ⟨pt, ct, pf, cf, pk, ck, ek, rfl, hk, hnum, hlb, hrty, hrfr, _, _⟩ := hr.open9
 refine C6 Tryz.func190 rfl Tryz.ntmps190 Tryz.results190 rfl ?_
 intro w0
 refine A4 ?_
 refine sE (C9 rfl rfl) rfl (fun b3 => ?_)
 refine sE (A9 rfl) rfl (fun b4 => ?_)
 refine J2 ?_
 refine C5 (tS (tR (sB (qE rfl rfl) rfl rfl (fun h18 => ?_) (fun h18 => ?_))))
 refine B7 ?_
 (have hl2 : ts.length = 2 := hop.1 (by omega); obtain ⟨b0, o0, q0, d0, hp0, hat0, hre0, hg0⟩ := hsl.kidTy hkl (i := 0) (by omega) (by omega); obtain ⟨b1, o1, q1, d1, hp1, hat1, hre1, hg1⟩ := hsl.kidTy hkl (i := 1) (by omega) (by omega); cases hp0; cases hp1; refine sP (B5 (j := 0) rfl rfl rfl (by omega)) rfl rfl ?_)
 refine sL (A3 rfl rfl (hat0 _) rfl) rfl rfl ?_
 focus (refine E6 rfl (A3X 4 ts[0] G _ (.inl rfl) (ha0 (by omega)) hre0) rfl rfl (fun v G1 hle1 hh => ?_); obtain ⟨ma, mca, mb, mcb, rfl, hma, hmb, hma2, hmb2, hpp⟩ := hh; obtain ⟨p1, c1, e1, rfl, _⟩ := hma.open; obtain ⟨p2, c2, e2, rfl, _⟩ := hmb.open; replace hsl := hsl.mono hle1; replace hkl := hkl.mono hle1; rcases hm : S1 4 ts[0] with _ | pr; rotate_left; obtain rfl := hpp _ hm; rotate_left; all_goals simp only [Option.isSome])
 refine B4 ?_
 refine sE (A9 rfl) rfl (fun b33 => ?_)
 refine sE (A9 rfl) rfl (fun b34 => ?_)
 refine A8 ?_
 (have hl2 : ts.length = 2 := hop.1 (by omega); obtain ⟨b0, o0, q0, d0, hp0, hat0, hre0, hg0⟩ := hsl.kidTy hkl (i := 0) (by omega) (by omega); obtain ⟨b1, o1, q1, d1, hp1, hat1, hre1, hg1⟩ := hsl.kidTy hkl (i := 1) (by omega) (by omega); cases hp0; cases hp1; refine D7 D8 rfl ?_)
 refine L3 (i := 0) (l' := [tt,ff,ff,ff,ff,ff,ff,ff,ff,ff,ff]) rfl D2 (A5 rfl rfl) rfl (by kernel_rfl) rfl rfl ?_
 refine aP 1 rfl (qM rfl) rfl ?_
 refine aP 2 rfl (qM rfl) rfl ?_
 refine C1 3 rfl rfl rfl ?_
 refine C1 4 rfl rfl rfl ?_
 refine C1 5 rfl rfl rfl ?_
 refine C1 6 rfl rfl rfl ?_
 refine C1 7 rfl rfl rfl ?_
 refine aP 8 rfl (P0 rfl rfl) rfl ?_
 refine A2 9 ?_
 refine H8 rfl ?_
 refine aP 10 rfl (qA rfl) rfl ?_
 refine B0 ?_
 refine H5 (rC rfl (A5 rfl rfl)) (rT rfl) ?_
 (obtain rfl : k = 6 := (by omega); exact S8.no (by rw [B1F (by omega), hm]) hmb hmb2)
 refine B4 ?_
 refine sE (A9 rfl) rfl (fun b65 => ?_)
 refine sE (A9 rfl) rfl (fun b66 => ?_)
 refine A8 ?_
 (have hl2 : ts.length = 2 := hop.1 (by omega); obtain ⟨b0, o0, q0, d0, hp0, hat0, hre0, hg0⟩ := hsl.kidTy hkl (i := 0) (by omega) (by omega); obtain ⟨b1, o1, q1, d1, hp1, hat1, hre1, hg1⟩ := hsl.kidTy hkl (i := 1) (by omega) (by omega); cases hp0; cases hp1; refine D7 D8 rfl ?_)
 refine L3 (i := 0) (l' := [tt,ff,ff,ff,ff,ff,ff,ff,ff,ff,ff]) rfl D2 (A5 rfl rfl) rfl (by kernel_rfl) rfl rfl ?_
 refine aP 1 rfl (qM rfl) rfl ?_
 refine aP 2 rfl (qM rfl) rfl ?_
 refine aP 3 rfl (qM rfl) rfl ?_
 refine aP 4 rfl (B5 (j := 1) rfl rfl rfl (by omega)) rfl ?_
 refine aL 5 rfl (A3 rfl rfl (hat1 _) rfl) rfl ?_
 refine aL 6 rfl (A5 rfl rfl) rfl ?_
 refine A2 7 ?_
 refine N6 rfl rfl ((A2a ts[1] ma _ _ _ (ha1 (by omega)) hma2 hre1 hma)) rfl rfl rfl ?_
 refine aP 8 rfl (N1 rfl rfl) rfl ?_
 refine A2 9 ?_
 refine H8 rfl ?_
 refine aP 10 rfl (qA rfl) rfl ?_
 refine B0 ?_
 refine H5 (rC rfl (A5 rfl rfl)) (rT rfl) ?_
 (obtain rfl : k = 6 := (by omega); exact S8.mk (by rw [B1F (by omega), hm]) hmb hmb2)
 refine A8 ?_
 refine sB (qE rfl rfl) rfl rfl (fun h100 => ?_) (fun h100 => ?_)
 refine B0 ?_
 (have hl2 : ts.length = 2 := hop.1 (by omega); obtain ⟨b0, o0, q0, d0, hp0, hat0, hre0, hg0⟩ := hsl.kidTy hkl (i := 0) (by omega) (by omega); obtain ⟨b1, o1, q1, d1, hp1, hat1, hre1, hg1⟩ := hsl.kidTy hkl (i := 1) (by omega) (by omega); cases hp0; cases hp1; refine D7 D8 rfl ?_)
 refine I6 (i := 1) (l' := [ff,tt,ff,ff,ff,ff,ff,ff,ff,ff,ff,ff,ff,ff,ff]) rfl D2 (qM rfl) rfl (by kernel_rfl) rfl rfl ?_
 refine aP 2 rfl (B5 (j := 0) rfl rfl rfl (by omega)) rfl ?_
 refine aL 3 rfl (A3 rfl rfl (hat0 _) rfl) rfl ?_
 refine A2 0 ?_
 refine N6 rfl rfl ((A0H _)) rfl rfl rfl ?_
 refine A2 4 ?_
 refine N6 rfl rfl ((A0H _)) rfl rfl rfl ?_
 refine A2 5 ?_
 refine V2 rfl rfl ((A2a ts[0] (.mk 2 []) _ _ _ (ha0 (by omega)) (X6 (by decide) (by decide)) hre0 (P1 _ ⟨by omega, by omega⟩))) rfl rfl rfl (fun h115 => ?_) (fun h115 => ?_)
 refine aP 6 rfl (qM rfl) rfl ?_
 refine aP 7 rfl (qM rfl) rfl ?_
 refine aP 8 rfl (B5 (j := 1) rfl rfl rfl (by omega)) rfl ?_
 refine aL 9 rfl (A3 rfl rfl (hat1 _) rfl) rfl ?_
 refine A2 10 ?_
 refine N6 rfl rfl ((A0H _)) rfl rfl rfl ?_
 refine A2 11 ?_
 refine N6 rfl rfl ((A2a ts[1] (.mk 2 []) _ _ _ (ha1 (by omega)) (X6 (by decide) (by decide)) hre1 (P1 _ ⟨by omega, by omega⟩))) rfl rfl rfl ?_
 refine aP 12 rfl (N1 rfl rfl) rfl ?_
 refine A2 13 ?_
 refine H8 rfl ?_
 refine aP 14 rfl (qA rfl) rfl ?_
 refine B0 ?_
 refine H5 (rC rfl (A5 rfl rfl)) (rT rfl) ?_
 exact B1I
 refine aP 6 rfl (qM rfl) rfl ?_
 refine C1 7 rfl rfl rfl ?_
 refine C1 8 rfl rfl rfl ?_
 refine C1 9 rfl rfl rfl ?_
 refine C1 10 rfl rfl rfl ?_
 refine C1 11 rfl rfl rfl ?_
 refine aP 12 rfl (P0 rfl rfl) rfl ?_
 refine A2 13 ?_
 refine H8 rfl ?_
 refine aP 14 rfl (qA rfl) rfl ?_
 refine B0 ?_
 refine H5 (rC rfl (A5 rfl rfl)) (rT rfl) ?_
 exact B1I
 refine A8 ?_
 refine sB (qE rfl rfl) rfl rfl (fun h158 => ?_) (fun h158 => ?_)
 refine B0 ?_
 (have hl2 : ts.length = 2 := hop.1 (by omega); obtain ⟨b0, o0, q0, d0, hp0, hat0, hre0, hg0⟩ := hsl.kidTy hkl (i := 0) (by omega) (by omega); obtain ⟨b1, o1, q1, d1, hp1, hat1, hre1, hg1⟩ := hsl.kidTy hkl (i := 1) (by omega) (by omega); cases hp0; cases hp1; refine D7 D8 rfl ?_)
 refine I6 (i := 1) (l' := [ff,tt,ff,ff,ff,ff,ff,ff,ff,ff,ff,ff,ff,ff,ff]) rfl D2 (qM rfl) rfl (by kernel_rfl) rfl rfl ?_
 refine aP 2 rfl (B5 (j := 0) rfl rfl rfl (by omega)) rfl ?_
 refine aL 3 rfl (A3 rfl rfl (hat0 _) rfl) rfl ?_
 refine A2 0 ?_
 refine N6 rfl rfl ((A3E _)) rfl rfl rfl ?_
 refine A2 4 ?_
 refine N6 rfl rfl ((A0H _)) rfl rfl rfl ?_
 refine A2 5 ?_
 refine V2 rfl rfl ((A2a ts[0] (.mk 2 []) _ _ _ (ha0 (by omega)) (X6 (by decide) (by decide)) hre0 (P1 _ ⟨by omega, by omega⟩))) rfl rfl rfl (fun h173 => ?_) (fun h173 => ?_)
 refine aP 6 rfl (qM rfl) rfl ?_
 refine aP 7 rfl (qM rfl) rfl ?_
 refine aP 8 rfl (B5 (j := 1) rfl rfl rfl (by omega)) rfl ?_
 refine aL 9 rfl (A3 rfl rfl (hat1 _) rfl) rfl ?_
 refine A2 10 ?_
 refine N6 rfl rfl ((A0H _)) rfl rfl rfl ?_
 refine A2 11 ?_
 refine N6 rfl rfl ((A2a ts[1] (.mk 2 []) _ _ _ (ha1 (by omega)) (X6 (by decide) (by decide)) hre1 (P1 _ ⟨by omega, by omega⟩))) rfl rfl rfl ?_
 refine aP 12 rfl (N1 rfl rfl) rfl ?_
 refine A2 13 ?_
 refine H8 rfl ?_
 refine aP 14 rfl (qA rfl) rfl ?_
 refine B0 ?_
 refine H5 (rC rfl (A5 rfl rfl)) (rT rfl) ?_
 exact B1J
 refine aP 6 rfl (qM rfl) rfl ?_
 refine C1 7 rfl rfl rfl ?_
 refine C1 8 rfl rfl rfl ?_
 refine C1 9 rfl rfl rfl ?_
 refine C1 10 rfl rfl rfl ?_
 refine C1 11 rfl rfl rfl ?_
 refine aP 12 rfl (P0 rfl rfl) rfl ?_
 refine A2 13 ?_
 refine H8 rfl ?_
 refine aP 14 rfl (qA rfl) rfl ?_
 refine B0 ?_
 refine H5 (rC rfl (A5 rfl rfl)) (rT rfl) ?_
 exact B1J
 refine A8 ?_
 refine sB (qE rfl rfl) rfl rfl (fun h216 => ?_) (fun h216 => ?_)
 refine A8 ?_
 (have hl3 : ts.length = 3 := hop.2.1 (by omega); obtain ⟨b0, o0, q0, d0, hp0, hat0, hre0, hg0⟩ := hsl.kidTy hkl (i := 0) (by omega) (by omega); obtain ⟨b1, o1, q1, d1, hp1, hat1, hre1, hg1⟩ := hsl.kidTy hkl (i := 1) (by omega) (by omega); obtain ⟨b2, o2, q2, d2, hp2, hat2, hre2, hg2⟩ := hsl.kidTy hkl (i := 2) (by omega) (by omega); cases hp0; cases hp1; cases hp2; refine D7 D8 rfl ?_)
 refine I6 (i := 0) (l' := [tt,ff,ff,ff,ff,ff,ff,ff]) rfl D2 (qM rfl) rfl (by kernel_rfl) rfl rfl ?_
 refine aP 1 rfl (B5 (j := 1) rfl rfl rfl (by omega)) rfl ?_
 refine aL 2 rfl (A3 rfl rfl (hat1 _) rfl) rfl ?_
 refine aP 3 rfl (qM rfl) rfl ?_
 refine aP 4 rfl (B5 (j := 2) rfl rfl rfl (by omega)) rfl ?_
 refine aL 5 rfl (A3 rfl rfl (hat2 _) rfl) rfl ?_
 refine A2 6 ?_
 refine V2 rfl rfl ((A2a ts[1] ts[2] _ _ _ (ha1 (by omega)) (ha2 (by omega)) hre1 hre2)) rfl rfl rfl (fun h231 => ?_) (fun h231 => ?_)
 refine aP 7 rfl (pNt rfl) rfl ?_
 refine A8 ?_
 (have hl3 : ts.length = 3 := hop.2.1 (by omega); obtain ⟨b0, o0, q0, d0, hp0, hat0, hre0, hg0⟩ := hsl.kidTy hkl (i := 0) (by omega) (by omega); obtain ⟨b1, o1, q1, d1, hp1, hat1, hre1, hg1⟩ := hsl.kidTy hkl (i := 1) (by omega) (by omega); obtain ⟨b2, o2, q2, d2, hp2, hat2, hre2, hg2⟩ := hsl.kidTy hkl (i := 2) (by omega) (by omega); cases hp0; cases hp1; cases hp2; refine D7 D8 rfl ?_)
 refine I6 (i := 0) (l' := [tt,ff,ff,ff,ff,ff,ff,ff,ff,ff,ff,ff,ff,ff]) rfl D2 (qM rfl) rfl (by kernel_rfl) rfl rfl ?_
 refine aP 1 rfl (B5 (j := 1) rfl rfl rfl (by omega)) rfl ?_
 refine aL 2 rfl (A3 rfl rfl (hat1 _) rfl) rfl ?_
 refine aP 3 rfl (qM rfl) rfl ?_
 refine aP 4 rfl (B5 (j := 2) rfl rfl rfl (by omega)) rfl ?_
 refine aL 5 rfl (A3 rfl rfl (hat2 _) rfl) rfl ?_
 refine aP 7 rfl (qM rfl) rfl ?_
 refine aP 8 rfl (B5 (j := 0) rfl rfl rfl (by omega)) rfl ?_
 refine aL 9 rfl (A3 rfl rfl (hat0 _) rfl) rfl ?_
 refine A2 6 ?_
 (refine H3 rfl rfl (B7g ts[1] ts[2] G _ _ (by assumption) (ha1 (by omega)) (ha2 (by omega)) hre1 hre2) rfl rfl rfl (fun v G1 hle1 hh => ?_); obtain ⟨mc, rfl, hmr⟩ := hh; obtain ⟨mt, hmt⟩ : ∃ mt, V6 ts[1] ts[2] = mt := ⟨_, rfl⟩; rw [hmt] at hmr; have hma : F9 mt := (hmt ▸ B7j ts[1] ts[2] (by assumption) (ha1 (by omega)) (ha2 (by omega))); obtain ⟨p1, c1, e1, rfl, _⟩ := hmr.open; have hre0q := hre0.mono hle1)
 refine A2 10 ?_
 refine N6 rfl rfl ((A3E _)) rfl rfl rfl ?_
 refine A2 11 ?_
 refine N6 rfl rfl ((A2a ts[0] (.mk 3 []) _ _ _ (ha0 (by omega)) (X6 (by decide) (by decide)) hre0q (P1 _ ⟨by omega, by omega⟩))) rfl rfl rfl ?_
 refine A2 12 ?_
 refine H8 rfl ?_
 refine aP 13 rfl (qA rfl) rfl ?_
 refine B0 ?_
 refine H5 (rC rfl (A5 rfl rfl)) (rT rfl) ?_
 (obtain rfl : k = 9 := (by omega); exact S8.mk (by rw [B1H (by omega), hmt]; simp_all [U9]) hmr hma)
 refine aP 7 rfl (pNf rfl) rfl ?_
 refine J5 ?_
 refine H5 (rC rfl (A5 rfl rfl)) (rT rfl) ?_
 (obtain rfl : k = 9 := (by omega); exact S8.no (by rw [B1H (by omega)]; simp_all) (P1 _ ⟨by omega, by omega⟩) (X6 (by omega) (by omega)))
 refine A8 ?_
 refine sB (qE rfl rfl) rfl rfl (fun h288 => ?_) (fun h288 => ?_)
 refine B0 ?_
 (have hl2 : ts.length = 2 := hop.1 (by omega); obtain ⟨b0, o0, q0, d0, hp0, hat0, hre0, hg0⟩ := hsl.kidTy hkl (i := 0) (by omega) (by omega); obtain ⟨b1, o1, q1, d1, hp1, hat1, hre1, hg1⟩ := hsl.kidTy hkl (i := 1) (by omega) (by omega); cases hp0; cases hp1; refine D7 D8 rfl ?_)
 refine I6 (i := 0) (l' := [tt,ff,ff,ff,ff,ff,ff,ff,ff,ff,ff]) rfl D2 (qM rfl) rfl (by kernel_rfl) rfl rfl ?_
 refine aP 1 rfl (B5 (j := 0) rfl rfl rfl (by omega)) rfl ?_
 refine aL 2 rfl (A3 rfl rfl (hat0 _) rfl) rfl ?_
 refine aP 3 rfl (qM rfl) rfl ?_
 refine aP 4 rfl (B5 (j := 1) rfl rfl rfl (by omega)) rfl ?_
 refine aL 5 rfl (A3 rfl rfl (hat1 _) rfl) rfl ?_
 refine A2 6 ?_
 (refine H3 rfl rfl (A3i 5 ts[0] ts[1] G _ _ (.inr rfl) (ha0 (by omega)) (ha1 (by omega)) hre0 hre1) rfl rfl rfl (fun v G1 hle1 hh => ?_); obtain ⟨mc, rfl, hmr⟩ := hh; have hma := A9Y (.inr rfl) (ha0 (by omega)) (ha1 (by omega)); obtain ⟨p1, c1, e1, rfl, _⟩ := hmr.open)
 refine aP 7 rfl (pX rfl rfl) rfl ?_
 refine aP 8 rfl (pX rfl rfl) rfl ?_
 refine A2 9 ?_
 refine H8 rfl ?_
 refine aP 10 rfl (qA rfl) rfl ?_
 refine B0 ?_
 refine H5 (rC rfl (A5 rfl rfl)) (rT rfl) ?_
 (obtain rfl : k = 10 := (by omega); exact S8.mk (by rw [B7h (by omega)]) hmr hma)
 refine A8 ?_
 refine sB (qE rfl rfl) rfl rfl (fun h321 => ?_) (fun h321 => ?_)
 refine B7 ?_
 (have hl1 : ts.length = 1 := hop.2.2 (by omega); obtain ⟨b0, o0, q0, d0, hp0, hat0, hre0, hg0⟩ := hsl.kidTy hkl (i := 0) (by omega) (by omega); cases hp0; refine sP (B5 (j := 0) rfl rfl rfl (by omega)) rfl rfl ?_)
 refine sL (A3 rfl rfl (hat0 _) rfl) rfl rfl ?_
 focus (refine E6 rfl (A3X 5 ts[0] G _ (.inr rfl) (ha0 (by omega)) hre0) rfl rfl (fun v G1 hle1 hh => ?_); obtain ⟨ma, mca, mb, mcb, rfl, hma, hmb, hma2, hmb2, hpp⟩ := hh; obtain ⟨p1, c1, e1, rfl, _⟩ := hma.open; obtain ⟨p2, c2, e2, rfl, _⟩ := hmb.open; rcases hm : S1 5 ts[0] with _ | pr; rotate_left; obtain rfl := hpp _ hm; rotate_left; all_goals simp only [Option.isSome])
 refine B4 ?_
 refine sE (A9 rfl) rfl (fun b336 => ?_)
 refine sE (A9 rfl) rfl (fun b337 => ?_)
 refine K0 ?_
 refine H5 (rC rfl (A5 rfl rfl)) (rT rfl) ?_
 (have hk11 : k = 11 := (by omega); exact S8.no (by rw [A5Z (.inl hk11) (by omega), hm]) hma hma2)
 refine B4 ?_
 refine sE (A9 rfl) rfl (fun b360 => ?_)
 refine sE (A9 rfl) rfl (fun b361 => ?_)
 refine K0 ?_
 refine H5 (rC rfl (A5 rfl rfl)) (rT rfl) ?_
 (have hk11 : k = 11 := (by omega); exact S8.yes (by rw [A5Z (.inl hk11) (by omega), hm]; simp only; rw [if_neg (by omega)]) hma hma2)
 refine A8 ?_
 refine sB (qE rfl rfl) rfl rfl (fun h386 => ?_) (fun h386 => ?_)
 refine B7 ?_
 (have hl1 : ts.length = 1 := hop.2.2 (by omega); obtain ⟨b0, o0, q0, d0, hp0, hat0, hre0, hg0⟩ := hsl.kidTy hkl (i := 0) (by omega) (by omega); cases hp0; refine sP (B5 (j := 0) rfl rfl rfl (by omega)) rfl rfl ?_)
 refine sL (A3 rfl rfl (hat0 _) rfl) rfl rfl ?_
 focus (refine E6 rfl (A3X 5 ts[0] G _ (.inr rfl) (ha0 (by omega)) hre0) rfl rfl (fun v G1 hle1 hh => ?_); obtain ⟨ma, mca, mb, mcb, rfl, hma, hmb, hma2, hmb2, hpp⟩ := hh; obtain ⟨p1, c1, e1, rfl, _⟩ := hma.open; obtain ⟨p2, c2, e2, rfl, _⟩ := hmb.open; rcases hm : S1 5 ts[0] with _ | pr; rotate_left; obtain rfl := hpp _ hm; rotate_left; all_goals simp only [Option.isSome])
 refine B4 ?_
 refine sE (A9 rfl) rfl (fun b401 => ?_)
 refine sE (A9 rfl) rfl (fun b402 => ?_)
 refine K0 ?_
 refine H5 (rC rfl (A5 rfl rfl)) (rT rfl) ?_
 (have hk12 : k = 12 := (by omega); exact S8.no (by rw [A5Z (.inr hk12) (by omega), hm]) hmb hmb2)
 refine B4 ?_
 refine sE (A9 rfl) rfl (fun b425 => ?_)
 refine sE (A9 rfl) rfl (fun b426 => ?_)
 refine K0 ?_
 refine H5 (rC rfl (A5 rfl rfl)) (rT rfl) ?_
 (have hk12 : k = 12 := (by omega); exact S8.yes (by rw [A5Z (.inr hk12) (by omega), hm]; simp only; rw [if_pos (by omega)]) hmb hmb2)
 refine A8 ?_
 refine sP (Y3 rfl rfl (by omega)) rfl rfl ?_
 refine B0 ?_
 (have hl1 : ts.length = 1 := hop.2.2 (by omega); obtain ⟨b0, o0, q0, d0, hp0, hat0, hre0, hg0⟩ := hsl.kidTy hkl (i := 0) (by omega) (by omega); cases hp0; refine D7 D8 rfl ?_)
 refine I6 (i := 0) (l' := [tt,ff,ff,ff,ff,ff,ff,ff,ff,ff,ff]) rfl D2 (B8 rfl) rfl (by kernel_rfl) rfl rfl ?_
 refine aL 1 rfl (A5 rfl rfl) rfl ?_
 refine aP 3 rfl (qM rfl) rfl ?_
 refine aP 4 rfl (B5 (j := 0) rfl rfl rfl (by omega)) rfl ?_
 refine aL 5 rfl (A3 rfl rfl (hat0 _) rfl) rfl ?_
 refine aP 6 rfl (B8 rfl) rfl ?_
 refine aL 7 rfl (A5 rfl rfl) rfl ?_
 refine A2 2 ?_
 (refine H3 rfl rfl (Q5 (.mk tk tks) G _ hty.small hrty) rfl rfl rfl (fun v G1 hle1 hh => ?_); obtain ⟨cs1, F1, rfl, hs1, hn1⟩ := hh; obtain ⟨p1, c1, rfl, _⟩ := hs1.open; have hmr := hs1.R.mono (C2.le G1 G); have hre0q := hre0.mono hle1; have hrtyq := hrty.mono hle1)
 refine A2 8 ?_
 refine N6 rfl rfl ((A2a ts[0] (.mk tk tks) _ _ _ (ha0 (by omega)) hty hre0q hrtyq)) rfl rfl rfl ?_
 refine A2 9 ?_
 refine H8 rfl ?_
 refine aP 10 rfl (qA rfl) rfl ?_
 refine B0 ?_
 refine H5 (rC rfl (A5 rfl rfl)) (rT rfl) ?_
 (obtain rfl : k = 13 := (by omega); exact S8.mk (by rw [B7i (by omega)]) hmr hty)
end Gw
end Go.Proofs.YtebfignffjhnhaaGreatDoor
