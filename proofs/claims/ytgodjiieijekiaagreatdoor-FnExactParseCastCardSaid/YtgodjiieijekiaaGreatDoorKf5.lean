/-
  Texts of terms: the reference.
-/
import Derived.Test.YtgodjiieijekiaaGreatDoorKf4
import Derived.Test.YtgodjiieijekiaaGreatDoorKf2
import Derived.Test.YtgodjiieijekiaaGreatDoorKf3
import Derived.Test.YtgodjiieijekiaaGreatDoorKf1
set_option linter.unusedVariables false
set_option linter.unusedSimpArgs false
set_option maxHeartbeats 0
set_option maxRecDepth 100000
set_option synthInstance.maxSize 4000
set_option synthInstance.maxHeartbeats 0
namespace Go.Proofs.YtgodjiieijekiaaGreatDoor
open Go Go.RowKit
namespace Gw
section oplaws
variable {P : Program} {Γ : E6} {env : F9} {hp : List A1} {G : IM} {ty : TypeId}
theorem A7Z {x y : Operand} {t t' : TypeId} {j : Nat} (hx : evo env x = some (.int .i64 ((j : Int) + 6))) (hy : evo env y = some (.int .i64 6)) (h : j ≤ 100) :
  C9 P Γ ⟨env, hp, G⟩ (.binOp .sub t x y t') ty (.int .i64 (j : Int)) := by
 have h2 := A0i (P := P) (Γ := Γ) (hp := hp) (G := G) (ty := ty) (t := t) (t' := t') hx hy (by omega) (by omega)
 rwa [show (j : Int) + 6 - 6 = (j : Int) by omega] at h2
def opB (j : Nat) : UInt8 := ([32, 43, 60] : A0).getD j 0
theorem B1N {x y z : Operand} {t : TypeId} {i : K1} [hI : E8 P t i] (hd' : i.desc = .string) {j : Nat} (hx : evo env x = some (.string (A9 [32, 43, 60]))) (hy : evo env y = some (.int .i64 (j : Int))) (hz : evo env z = some (.int .i64 ((j + 1 : Nat) : Int))) (h : j < 3) :
  C9 P Γ ⟨env, hp, G⟩ (.slice t x (some y) (some z) none) ty (.string (A9 [opB j])) := by
 have h2 := A0O (P := P) (Γ := Γ) (hp := hp) (G := G) (ty := ty) (t := t) (i := i) hd' hx hy hz (Nat.le_succ j) (by rw [I9]; simp only [List.length_cons, List.length_nil]; omega)
 have e : (A9 [32, 43, 60]).extract j (j + 1) = A9 [opB j] := by
  rw [A0w]
  have : j = 0 ∨ j = 1 ∨ j = 2 := by omega
  rcases this with rfl | rfl | rfl <;> rfl
 rwa [e] at h2
end oplaws
theorem A3p {n : Int} (h0 : 0 ≤ n) (h1 : n ≤ 9999) (G : IM) : Fn Tryz.prog 89 [.int .i64 n] [] G (H4 (.string (A9 (Lib.itoa n))) G) := by
 have := B1r n.toNat (by omega) G
 rw [Int.toNat_of_nonneg h0] at this
 have e : Lib.itoa n = Lib.decDigits n.toNat := by unfold Lib.itoa; rw [if_neg (by omega)]
 rw [e]; exact this
theorem B1O {n : Int} (h : n < 0) : Lib.itoa n = 45 :: Lib.itoa (-n) := by
 unfold Lib.itoa
 rw [if_pos h, if_neg (by omega)]
 congr 2; omega
theorem B1P (k num lb : Int) (nm : ByteArray) (ty fr : Ty) (ks : List Tm) (G : IM) (cells : List Value) (ht : E1 ty 1 = true) (hf : E1 fr 1 = true) (hl : -999 ≤ lb ∧ lb ≤ 999) (hr : C7 G (.mk k nm num ty fr lb ks) cells) :
  Fn Tryz.prog 91 [.agg ⟨cells⟩] [] G (H4 (.string (A9 (([58] : A0) ++ K3 fr ++ ([126] : A0) ++ K3 ty ++ ([35] : A0) ++ Lib.itoa lb ++ ([41] : A0)))) G) := by
 obtain ⟨tk, tks⟩ := ty
 obtain ⟨fk, fks⟩ := fr
 obtain ⟨pt, ct, pf, cf, p, c, es, rfl, hk, hnum, hlb, hty, hfr, hsl, hkl⟩ := hr.open9
 have h1 := T7 ht (Int.le_refl _)
 have h2 := T7 hf (Int.le_refl _)
 have h3 := A13 hl.1 hl.2
 have hm := @B1O lb
 refine B3 Tryz.func91 rfl Tryz.ntmps91 Tryz.results91 rfl ?_
 intro w0
 refine tS (tR ?_)
 refine sE (J6 rfl rfl) rfl (fun b3 => ?_)
 refine U7 ?_
 refine sB (N2 rfl rfl) rfl rfl (fun h23 => ?_) (fun h23 => ?_)
 refine sD (nS (qT rfl (tS (tR (sQ (qM rfl) rfl ?_)))))
 refine sP (A4Y rfl (by omega) (by omega)) rfl rfl ?_
 refine C6 ?_
 refine K7 K9 rfl ?_
 refine I0 (i := 0) (l' := [tt,ff,ff,ff,ff,ff,ff,ff,ff,ff,ff,ff,ff,ff,ff,ff,ff]) rfl E9 (A4 rfl) rfl (by kernel_rfl) rfl rfl ?_
 refine aL 1 rfl (A7 rfl rfl) rfl ?_
 refine aP 5 rfl (A4 rfl) rfl ?_
 refine aL 6 rfl (A7 rfl rfl) rfl ?_
 refine aP 10 rfl (qM rfl) rfl ?_
 refine aP 12 rfl (qM rfl) rfl ?_
 refine B6 2 ?_
 refine N5 rfl rfl ((A12 (.mk fk fks) 1 _ _ hf (by omega) hfr)) rfl rfl rfl ?_
 refine aP 3 rfl (B5 rfl rfl (by simp only [List.length_append, List.length_cons, List.length_nil]; omega)) rfl ?_
 refine aP 4 rfl (B5 rfl rfl (by simp only [List.length_append, List.length_cons, List.length_nil]; omega)) rfl ?_
 refine B6 7 ?_
 refine N5 rfl rfl ((A12 (.mk tk tks) 1 _ _ ht (by omega) hty)) rfl rfl rfl ?_
 refine aP 8 rfl (B5 rfl rfl (by simp only [List.length_append, List.length_cons, List.length_nil]; omega)) rfl ?_
 refine aP 9 rfl (B5 rfl rfl (by simp only [List.length_append, List.length_cons, List.length_nil]; omega)) rfl ?_
 refine aP 11 rfl (B5 rfl rfl (by simp only [List.length_append, List.length_cons, List.length_nil]; omega)) rfl ?_
 refine B6 13 ?_
 (have hmm := hm (by omega); have h4 : (Lib.itoa (-lb)).length ≤ 4 := A13 (by omega) (by omega); refine N5 rfl rfl (A3p (n := -lb) (by omega) (by omega) _) rfl rfl rfl ?_)
 refine aP 14 rfl (B5 rfl rfl (by simp only [List.length_append, List.length_cons, List.length_nil]; omega)) rfl ?_
 refine aP 15 rfl (B5 rfl rfl (by simp only [List.length_append, List.length_cons, List.length_nil]; omega)) rfl ?_
 refine aP 16 rfl (qA rfl) rfl ?_
 refine R5 (nS (tT (F0 (rT rfl) ?_)))
 (exact ⟨rfl, by rw [hmm]; simp, rfl⟩)
 refine sD (nS (cF rfl (tK (nS (tS ?_)))))
 refine K7 K9 rfl ?_
 refine I0 (i := 0) (l' := [tt,ff,ff,ff,ff,ff,ff,ff,ff,ff,ff,ff,ff,ff,ff,ff,ff]) rfl E9 (A4 rfl) rfl (by kernel_rfl) rfl rfl ?_
 refine aL 1 rfl (A7 rfl rfl) rfl ?_
 refine aP 5 rfl (A4 rfl) rfl ?_
 refine aL 6 rfl (A7 rfl rfl) rfl ?_
 refine aP 10 rfl (qM rfl) rfl ?_
 refine aP 12 rfl (qM rfl) rfl ?_
 refine B6 2 ?_
 refine N5 rfl rfl ((A12 (.mk fk fks) 1 _ _ hf (by omega) hfr)) rfl rfl rfl ?_
 refine aP 3 rfl (B5 rfl rfl (by simp only [List.length_append, List.length_cons, List.length_nil]; omega)) rfl ?_
 refine aP 4 rfl (B5 rfl rfl (by simp only [List.length_append, List.length_cons, List.length_nil]; omega)) rfl ?_
 refine B6 7 ?_
 refine N5 rfl rfl ((A12 (.mk tk tks) 1 _ _ ht (by omega) hty)) rfl rfl rfl ?_
 refine aP 8 rfl (B5 rfl rfl (by simp only [List.length_append, List.length_cons, List.length_nil]; omega)) rfl ?_
 refine aP 9 rfl (B5 rfl rfl (by simp only [List.length_append, List.length_cons, List.length_nil]; omega)) rfl ?_
 refine aP 11 rfl (B5 rfl rfl (by simp only [List.length_append, List.length_cons, List.length_nil]; omega)) rfl ?_
 refine B6 13 ?_
 (refine N5 rfl rfl (A3p (n := lb) (by omega) (by omega) _) rfl rfl rfl ?_)
 refine aP 14 rfl (B5 rfl rfl (by simp only [List.length_append, List.length_cons, List.length_nil]; omega)) rfl ?_
 refine aP 15 rfl (B5 rfl rfl (by simp only [List.length_append, List.length_cons, List.length_nil]; omega)) rfl ?_
 refine aP 16 rfl (qA rfl) rfl ?_
 refine R5 (nS (tT (F0 (rT rfl) ?_)))
 (exact ⟨rfl, by simp, rfl⟩)
theorem B1Q {k : Int} {nm : ByteArray} {num : Int} {ty fr : Ty} {lb : Int} {ks : List Tm} (hk : k = 14) (h : 1 ≤ ks.length) : A2 (.mk k nm num ty fr lb ks) = ([40] : A0) ++ A2 (ks[0]'(by omega)) ++ (([58] : A0) ++ K3 fr ++ ([126] : A0) ++ K3 ty ++ ([35] : A0) ++ Lib.itoa lb ++ ([41] : A0)) := by
 rw [A7L hk h]; simp
theorem B1R {k : Int} {nm : ByteArray} {num : Int} {ty fr : Ty} {lb : Int} {ks : List Tm} {j : Nat} (hk : k = (j : Int) + 6) (hj : j < 3) (h : 2 ≤ ks.length) : A2 (.mk k nm num ty fr lb ks) = ([40] : A0) ++ A2 (ks[0]'(by omega)) ++ [opB j] ++ A2 (ks[1]'(by omega)) ++ ([41] : A0) := by
 have : j = 0 ∨ j = 1 ∨ j = 2 := by omega
 rcases this with rfl | rfl | rfl
 ·exact A7D hk h
 ·exact A7E hk h
 ·exact A7F hk h
theorem B1S {G : IM} {p : Option Addr} {c : Nat} {ks : List Tm} {j : Nat} (h : Sl G p ks.length c 1 (ks.map fun t => Value.string (A9 (A2 t)))) (hj : j < ks.length) : ∃ b o, p = some ⟨b, o, none⟩ ∧ ∀ hp, At hp G b (o + j * 1) [.string (A9 (A2 ks[j]))] := by
 obtain ⟨b, o, v, hp, hv, hat, _⟩ := h.kid (i := j) hj
 rw [List.getElem?_map, List.getElem?_eq_getElem hj] at hv
 obtain rfl := Option.some.inj hv
 exact ⟨b, o, hp, fun hp => by simpa using hat hp⟩
theorem A70 {G : IM} {b o n : Nat} {v : Value} (h : ∃ b' o', (some ⟨b, o, none⟩ : Option Addr) = some ⟨b', o', none⟩ ∧ ∀ hp, At hp G b' (o' + n) [v]) : ∀ hp, At hp G b (o + n) [v] := by
 obtain ⟨b', o', h1, h2⟩ := h
 cases h1
 exact h2
theorem A71 (D N : Int) : ∀ (e : Tm) (d : Int) (G : IM) (cells : List Value), M5 D N e d = true → D1 e ≤ 100000 → C7 G e cells → Fn Tryz.prog 42 [.agg ⟨cells⟩] [] G (A1A (A2 e)) := by
 refine Tm.ind fun k nm num ty fr lb ks ih d G cells hs hcnt hr => ?_
 obtain ⟨hd, _, h3, h4⟩ := A04 hs
 have hvk := (A0e D N ks _).1 h4
 obtain ⟨n1, n2, n3, n4, n5, n6, n7, n8, n9⟩ := A0q.1 h3
 rw [D1] at hcnt
 have hTl : ∀ i (h : i < ks.length), (A2 ks[i]).length ≤ 10000000 := fun i h => by
  have h1 := A7M D N ks[i] _ (hvk i h)
  have h2 := A3k h
  omega
 have hL1 : k = 5 ∨ k = 11 ∨ k = 12 ∨ k = 13 ∨ k = 14 → ks.length = 1 := fun h => by
  have : L8 k = 1 := by rcases h with rfl | rfl | rfl | rfl | rfl <;> rfl
  omega
 have hL2 : k = 6 ∨ k = 7 ∨ k = 8 ∨ k = 10 → ks.length = 2 := fun h => by
  have : L8 k = 2 := by rcases h with rfl | rfl | rfl | rfl <;> rfl
  omega
 have hL3 : k = 9 → ks.length = 3 := fun h => by
  have : L8 k = 3 := by subst h; rfl
  omega
 have hkk : 1 ≤ k ∧ k ≤ 14 ∧ ks.length ≤ 3 := by
  unfold L8 at n1
  repeat' split at n1
  all_goals omega
 have hnumr : k = 2 → 0 ≤ num ∧ num ≤ 999 := fun h => A0p (n4 h)
 have hvt : k = 5 ∨ k = 13 ∨ k = 14 → E1 ty 1 = true := n6
 have hvf : k = 14 → E1 fr 1 = true := fun h => by
  have := (n8 h).1
  unfold Y0 at this
  simp only [Bool.and_eq_true] at this
  exact this.1.1
 have hvl : k = 14 → -999 ≤ lb ∧ lb ≤ 999 := fun h => by
  have := (n8 h).2
  unfold X0 at this
  rw [Bool.or_eq_true] at this
  rcases this with h | h <;> have := A0p h <;> omega
 have hnl : (k = 1 ∨ k = 5 → nm.size = 1) := fun h => by rw [(A3b (n2 h)).1]; rfl
 obtain ⟨nl, rfl⟩ : ∃ nl, nm = A9 nl := ⟨_, (A2w nm).symm⟩
 rw [I9] at hnl
 have hr0 := hr
 obtain ⟨tk, tks⟩ := ty
 obtain ⟨fk, fks⟩ := fr
 obtain ⟨pt, ct, pf, cf, p, c, es, rfl, hk, hnum, hlb, hty, hfr, hsl, hkl⟩ := hr.open9
 have hn := hsl.le
 refine B3 Tryz.func42 rfl Tryz.ntmps42 Tryz.results42 rfl ?_
 intro w0
 refine tS (tR ?_)
 refine sE (J6 rfl rfl) rfl (fun b3 => ?_)
 refine sQ (qA rfl) rfl (sD (nS (tS (tR ?_))))
 (refine F3 (P1 rfl rfl rfl (by omega) (by unfold maxLen; omega) rfl) rfl ?_; rintro _ ⟨b9, rfl⟩)
 refine C1 ?_
 refine D0 ?_
 (refine O9 (fun (x : Nat × Option Addr × Nat × IM) => ⟨[(4, .int .i64 (x.1 : Int)), (3, .slice x.2.1 x.1 x.2.2.1), (1, .pointer (some ⟨b3, 0, none⟩))], [.slc x.2.1 x.2.2.1 9 1 x.1 ((ks.take x.1).map fun t => Value.string (A9 (A2 t))), .blk b3 [.int .i64 k, .string (A9 nl), .int .i64 num, .int .i64 tk, .slice pt tks.length ct, .int .i64 fk, .slice pf fks.length cf, .int .i64 lb, .slice p ks.length c]], x.2.2.2⟩) (fun x => x.1 ≤ ks.length ∧ B4 G x.2.2.2) (fun x => ks.length - x.1) (0, some ⟨b9, 0, none⟩, 0, G) ?_ ?_ ?_)
 (simp only [T9]; exact I6)
 (exact ⟨Nat.zero_le _, B4.refl _⟩)
 (rintro ⟨(i : Nat), pn, cn, Gi⟩ ⟨hi, hle⟩; simp only [] at hi hle ⊢)
 refine B1 ?_
 refine sB (N2 rfl rfl) rfl rfl (fun h31 => ?_) (fun h31 => ?_)
 refine sD (nS (qT rfl (tK (nS (tS ?_)))))
 refine D0 ?_
 refine R6 ?_
 (have hil : i < ks.length := (by omega); obtain ⟨bx, ox, e, rfl, hel, hat, hre, hgb⟩ := (hsl.mono hle).kidTm (hkl.mono hle) (i := i) hil hil; refine sP (H2 (j := i) rfl rfl rfl (by omega)) rfl rfl ?_)
 refine sL (D5 rfl rfl (hat _) hel) rfl rfl ?_
 (refine M9 rfl (ih ks[i] (List.getElem_mem hil) (d + 1) Gi e (hvk i hil) (by have := A3k hil; omega) (hre)) rfl rfl (fun v G3 hle3 hh => ?_); subst hh)
 (refine F3 (P1 rfl rfl rfl (by omega) (by unfold maxLen; omega) rfl) rfl ?_; rintro _ ⟨b47, rfl⟩)
 refine A5h rfl rfl rfl rfl rfl (fun _ _ => by repeat (first | exact Sw.here | apply Sw.there)) (A0k (by repeat first | exact mH | apply mT)) rfl (by simp [Value.oneCell']) (by unfold maxLen; omega) (by omega) rfl (fun pn' cn' => ?_)
 refine I2 ?_
 refine sP (J5 (n := 1) rfl rfl (by omega)) rfl rfl ?_
 refine sQ (qA rfl) rfl (sD ?_)
 (refine P6 (i + 1, pn', cn', G3) (by rw [List.take_succ_eq_append_getElem hil, List.map_append, List.map_cons, List.map_nil]; exact (A5g (by repeat (first | exact Z6.nil | refine Z6.cons rfl ?_)) (by repeat (first | exact H0.refl | exact H0.nil | refine H0.cons (by repeat (first | exact Pk.here | apply Pk.there)) ?_ | apply H0.drop)))) ?_ ?_)
 (dsimp only; exact ⟨by omega, hle.trans hle3⟩)
 (show ks.length - (i + 1) < ks.length - i; omega)
 refine M0 ?_
 focus (have hie : i = ks.length := (by omega); refine A5d (by repeat (first | exact Pk.here | apply Pk.there)) (fun G2 hle2 hsl2 hno2 => ?_); subst hie; rw [List.take_length] at hsl2; have hle02 := hle.trans hle2; have hty2 := hty.mono hle02; have hfr2 := hfr.mono hle02; have hr2 := hr.mono hle02; have hKid := fun j hj => B1S (j := j) hsl2 hj; rcases Nat.eq_zero_or_pos ks.length with hz | hz; rotate_left; obtain ⟨bs, os, hps, hat0⟩ := hKid 0 hz; subst hps; have hat1 := fun h : 1 < ks.length => A70 (hKid 1 h); have hat2 := fun h : 2 < ks.length => A70 (hKid 2 h); have hTl0 := hTl 0 hz; have hTl1 := hTl 1; have hTl2 := hTl 2; rotate_left)
 refine R6 ?_
 refine D0 (tS (tR (sB (qE rfl rfl) rfl rfl (fun h80 => ?_) (fun h80 => ?_))))
 refine I7 ?_
 (have hk1 : k = 1 := (by omega); exact ⟨rfl, by rw [A2, H8, if_pos hk1]; rfl⟩)
 refine sQ (qA rfl) rfl (sD (nS (cF rfl (tS (tR ?_)))))
 refine sB (qE rfl rfl) rfl rfl (fun h103 => ?_) (fun h103 => ?_)
 refine C6 ?_
 refine I5 rfl ((A3p (n := num) (by have := hnumr; omega) (by have := hnumr; omega) _)) rfl rfl ?_
 refine sQ (qA rfl) rfl (sD (nS (tT (rB (rS (F0 (rT rfl) ?_))))))
 (have hk1 : k = 2 := (by omega); exact ⟨rfl, by rw [A2, H8, if_neg (by omega), if_pos hk1]⟩)
 refine sQ (qA rfl) rfl (sD (nS (cF rfl (tS (tR ?_)))))
 refine sB (qE rfl rfl) rfl rfl (fun h127 => ?_) (fun h127 => ?_)
 refine D9 ?_
 (have hk1 : k = 3 := (by omega); subst hk1; exact ⟨rfl, rfl⟩)
 refine sQ (qA rfl) rfl (sD (nS (cF rfl (tS (tR ?_)))))
 refine sP (A1F rfl rfl (by omega)) rfl rfl ?_
 refine D9 ?_
 (have hk1 : k = 4 := (by omega); subst hk1; exact ⟨rfl, rfl⟩)
 refine R6 ?_
 refine D0 (tS (tR (sB (qE rfl rfl) rfl rfl (fun h171 => ?_) (fun h171 => ?_))))
 refine I7 ?_
 (have hk1 : k = 1 := (by omega); exact ⟨rfl, by rw [A2, H8, if_pos hk1]; rfl⟩)
 refine sQ (qA rfl) rfl (sD (nS (cF rfl (tS (tR ?_)))))
 refine sB (qE rfl rfl) rfl rfl (fun h194 => ?_) (fun h194 => ?_)
 refine C6 ?_
 refine I5 rfl ((A3p (n := num) (by have := hnumr; omega) (by have := hnumr; omega) _)) rfl rfl ?_
 refine sQ (qA rfl) rfl (sD (nS (tT (rB (rS (F0 (rT rfl) ?_))))))
 (have hk1 : k = 2 := (by omega); exact ⟨rfl, by rw [A2, H8, if_neg (by omega), if_pos hk1]⟩)
 refine sQ (qA rfl) rfl (sD (nS (cF rfl (tS (tR ?_)))))
 refine sB (qE rfl rfl) rfl rfl (fun h218 => ?_) (fun h218 => ?_)
 refine D9 ?_
 (have hk1 : k = 3 := (by omega); subst hk1; exact ⟨rfl, rfl⟩)
 refine sQ (qA rfl) rfl (sD (nS (cF rfl (tS (tR ?_)))))
 refine sB (qE rfl rfl) rfl rfl (fun h239 => ?_) (fun h239 => ?_)
 refine D9 ?_
 (have hk1 : k = 4 := (by omega); subst hk1; exact ⟨rfl, rfl⟩)
 refine sQ (qA rfl) rfl (sD (nS (cF rfl (tS (tR ?_)))))
 refine sB (qE rfl rfl) rfl rfl (fun h260 => ?_) (fun h260 => ?_)
 refine sQ (qA rfl) rfl (sD (nS (qT rfl (tS ?_))))
 refine K7 K9 rfl ?_
 refine I0 (i := 0) (l' := [tt,ff,ff,ff,ff,ff,ff,ff,ff,ff,ff,ff,ff,ff]) rfl E9 (A4 rfl) rfl (by kernel_rfl) rfl rfl ?_
 refine aL 1 rfl (C2 rfl rfl) rfl ?_
 refine aP 2 rfl (B5 rfl rfl (by simp only [List.length_append, List.length_cons, List.length_nil]; omega)) rfl ?_
 refine aP 3 rfl (B5 rfl rfl (by simp only [List.length_append, List.length_cons, List.length_nil]; omega)) rfl ?_
 refine aP 4 rfl (A4 rfl) rfl ?_
 refine aL 5 rfl (A7 rfl rfl) rfl ?_
 refine aP 9 rfl (qM rfl) rfl ?_
 refine aP 10 rfl (H2 (j := 0) rfl rfl rfl (by omega)) rfl ?_
 refine aL 11 rfl (H3 rfl rfl (hat0 _)) rfl ?_
 refine B6 6 ?_
 (refine N5 rfl rfl (A12 (.mk tk tks) 1 _ _ (hvt (by omega)) (by omega) hty2) rfl rfl rfl ?_; have hlt := T7 (hvt (by omega)) (Int.le_refl _))
 refine aP 7 rfl (B5 rfl rfl (by simp only [List.length_append, List.length_cons, List.length_nil]; omega)) rfl ?_
 refine aP 8 rfl (B5 rfl rfl (by simp only [List.length_append, List.length_cons, List.length_nil]; omega)) rfl ?_
 refine aP 12 rfl (B5 rfl rfl (by simp only [List.length_append, List.length_cons, List.length_nil]; omega)) rfl ?_
 refine aP 13 rfl (qA rfl) rfl ?_
 refine R5 (nS (tT (rB (rS (F0 (rT rfl) ?_)))))
 (have hk1 : k = 5 := (by omega); exact ⟨rfl, by rw [A7C hk1 (by omega)] <;> rfl⟩)
 refine sQ (qA rfl) rfl (sD (nS (cF rfl (tS (tR ?_)))))
 refine sB (qE rfl rfl) rfl rfl (fun h295 => ?_) (fun h295 => ?_)
 refine sQ (qA rfl) rfl (sD (nS (qT rfl (tS ?_))))
 (have hj9 : k = 9 := (by omega); have hx1 := hTl1 (by omega); have hx2 := hTl2 (by omega); refine K7 K9 rfl ?_)
 refine I0 (i := 0) (l' := [tt,ff,ff,ff,ff,ff,ff,ff,ff,ff,ff,ff,ff,ff,ff,ff]) rfl E9 (qM rfl) rfl (by kernel_rfl) rfl rfl ?_
 refine aP 1 rfl (H2 (j := 0) rfl rfl rfl (by omega)) rfl ?_
 refine aL 2 rfl (H3 rfl rfl (hat0 _)) rfl ?_
 refine aP 3 rfl (B5 rfl rfl (by simp only [List.length_append, List.length_cons, List.length_nil]; omega)) rfl ?_
 refine aP 4 rfl (B5 rfl rfl (by simp only [List.length_append, List.length_cons, List.length_nil]; omega)) rfl ?_
 refine aP 5 rfl (qM rfl) rfl ?_
 refine aP 6 rfl (H2 (j := 1) rfl rfl rfl (by omega)) rfl ?_
 refine aL 7 rfl (H3 rfl rfl (hat1 (by omega) _)) rfl ?_
 refine aP 8 rfl (B5 rfl rfl (by simp only [List.length_append, List.length_cons, List.length_nil]; omega)) rfl ?_
 refine aP 9 rfl (B5 rfl rfl (by simp only [List.length_append, List.length_cons, List.length_nil]; omega)) rfl ?_
 refine aP 10 rfl (qM rfl) rfl ?_
 refine aP 11 rfl (H2 (j := 2) rfl rfl rfl (by omega)) rfl ?_
 refine aL 12 rfl (H3 rfl rfl (hat2 (by omega) _)) rfl ?_
 refine aP 13 rfl (B5 rfl rfl (by simp only [List.length_append, List.length_cons, List.length_nil]; omega)) rfl ?_
 refine aP 14 rfl (B5 rfl rfl (by simp only [List.length_append, List.length_cons, List.length_nil]; omega)) rfl ?_
 refine aP 15 rfl (qA rfl) rfl ?_
 refine R5 (nS (tT (rB (rS (F0 (rT rfl) ?_)))))
 (have hk1 : k = 9 := (by omega); exact ⟨rfl, by rw [A7G hk1 (by omega)] <;> rfl⟩)
 refine sQ (qA rfl) rfl (sD (nS (cF rfl (tS (tR ?_)))))
 refine sB (qE rfl rfl) rfl rfl (fun h331 => ?_) (fun h331 => ?_)
 refine sQ (qA rfl) rfl (sD (nS (qT rfl (tS ?_))))
 (have hj10 : k = 10 := (by omega); have hx1 := hTl1 (by omega); refine K7 K9 rfl ?_)
 refine I0 (i := 0) (l' := [tt,ff,ff,ff,ff,ff,ff,ff,ff,ff,ff]) rfl E9 (qM rfl) rfl (by kernel_rfl) rfl rfl ?_
 refine aP 1 rfl (H2 (j := 0) rfl rfl rfl (by omega)) rfl ?_
 refine aL 2 rfl (H3 rfl rfl (hat0 _)) rfl ?_
 refine aP 3 rfl (B5 rfl rfl (by simp only [List.length_append, List.length_cons, List.length_nil]; omega)) rfl ?_
 refine aP 4 rfl (B5 rfl rfl (by simp only [List.length_append, List.length_cons, List.length_nil]; omega)) rfl ?_
 refine aP 5 rfl (qM rfl) rfl ?_
 refine aP 6 rfl (H2 (j := 1) rfl rfl rfl (by omega)) rfl ?_
 refine aL 7 rfl (H3 rfl rfl (hat1 (by omega) _)) rfl ?_
 refine aP 8 rfl (B5 rfl rfl (by simp only [List.length_append, List.length_cons, List.length_nil]; omega)) rfl ?_
 refine aP 9 rfl (B5 rfl rfl (by simp only [List.length_append, List.length_cons, List.length_nil]; omega)) rfl ?_
 refine aP 10 rfl (qA rfl) rfl ?_
 refine R5 (nS (tT (rB (rS (F0 (rT rfl) ?_)))))
 (have hk1 : k = 10 := (by omega); exact ⟨rfl, by rw [A7H hk1 (by omega)] <;> rfl⟩)
 refine sQ (qA rfl) rfl (sD (nS (cF rfl (tS (tR ?_)))))
 refine sB (qE rfl rfl) rfl rfl (fun h362 => ?_) (fun h362 => ?_)
 refine B1 ?_
 refine sP (H2 (j := 0) rfl rfl rfl (by omega)) rfl rfl ?_
 refine sL (H3 rfl rfl (hat0 _)) rfl rfl ?_
 refine sP (B5 rfl rfl (by simp only [List.length_append, List.length_cons, List.length_nil]; omega)) rfl rfl ?_
 refine sQ (qA rfl) rfl (sD (nS (tT (rB (rS (F0 (rT rfl) ?_))))))
 (have hk1 : k = 11 := (by omega); exact ⟨rfl, by rw [A7I hk1 (by omega)] <;> rfl⟩)
 refine sQ (qA rfl) rfl (sD (nS (cF rfl (tS (tR ?_)))))
 refine sB (qE rfl rfl) rfl rfl (fun h387 => ?_) (fun h387 => ?_)
 refine B1 ?_
 refine sP (H2 (j := 0) rfl rfl rfl (by omega)) rfl rfl ?_
 refine sL (H3 rfl rfl (hat0 _)) rfl rfl ?_
 refine sP (B5 rfl rfl (by simp only [List.length_append, List.length_cons, List.length_nil]; omega)) rfl rfl ?_
 refine sQ (qA rfl) rfl (sD (nS (tT (rB (rS (F0 (rT rfl) ?_))))))
 (have hk1 : k = 12 := (by omega); exact ⟨rfl, by rw [A7J hk1 (by omega)] <;> rfl⟩)
 refine sQ (qA rfl) rfl (sD (nS (cF rfl (tS (tR ?_)))))
 refine sB (qE rfl rfl) rfl rfl (fun h412 => ?_) (fun h412 => ?_)
 refine sQ (qA rfl) rfl (sD (nS (qT rfl (tS ?_))))
 refine K7 K9 rfl ?_
 refine I0 (i := 0) (l' := [tt,ff,ff,ff,ff,ff,ff,ff,ff,ff,ff]) rfl E9 (qM rfl) rfl (by kernel_rfl) rfl rfl ?_
 refine aP 1 rfl (H2 (j := 0) rfl rfl rfl (by omega)) rfl ?_
 refine aL 2 rfl (H3 rfl rfl (hat0 _)) rfl ?_
 refine aP 3 rfl (B5 rfl rfl (by simp only [List.length_append, List.length_cons, List.length_nil]; omega)) rfl ?_
 refine aP 4 rfl (B5 rfl rfl (by simp only [List.length_append, List.length_cons, List.length_nil]; omega)) rfl ?_
 refine aP 5 rfl (A4 rfl) rfl ?_
 refine aL 6 rfl (A7 rfl rfl) rfl ?_
 refine B6 7 ?_
 (refine N5 rfl rfl (A12 (.mk tk tks) 1 _ _ (hvt (by omega)) (by omega) hty2) rfl rfl rfl ?_; have hlt := T7 (hvt (by omega)) (Int.le_refl _))
 refine aP 8 rfl (B5 rfl rfl (by simp only [List.length_append, List.length_cons, List.length_nil]; omega)) rfl ?_
 refine aP 9 rfl (B5 rfl rfl (by simp only [List.length_append, List.length_cons, List.length_nil]; omega)) rfl ?_
 refine aP 10 rfl (qA rfl) rfl ?_
 refine R5 (nS (tT (rB (rS (F0 (rT rfl) ?_)))))
 (have hk1 : k = 13 := (by omega); exact ⟨rfl, by rw [A7K hk1 (by omega)] <;> rfl⟩)
 refine sQ (qA rfl) rfl (sD (nS (cF rfl (tS (tR ?_)))))
 refine sB (qE rfl rfl) rfl rfl (fun h444 => ?_) (fun h444 => ?_)
 refine sQ (qA rfl) rfl (sD (nS (qT rfl (tS ?_))))
 refine K7 K9 rfl ?_
 refine A4V (i := 4) (l' := [ff,ff,ff,ff,tt,ff,ff,ff]) rfl E9 (D5 rfl rfl (K8 (by repeat first | exact mH | apply mT)) rfl) rfl (by kernel_rfl) rfl rfl ?_
 refine aP 0 rfl (qM rfl) rfl ?_
 refine aP 1 rfl (H2 (j := 0) rfl rfl rfl (by omega)) rfl ?_
 refine aL 2 rfl (H3 rfl rfl (hat0 _)) rfl ?_
 refine aP 3 rfl (B5 rfl rfl (by simp only [List.length_append, List.length_cons, List.length_nil]; omega)) rfl ?_
 refine B6 5 ?_
 (have hlab := hvl (by omega); refine N5 rfl rfl (B1P k num lb (A9 nl) (.mk tk tks) (.mk fk fks) ks _ _ (hvt (by omega)) (hvf (by omega)) hlab hr2) rfl rfl rfl ?_; have hlt := T7 (hvt (by omega)) (Int.le_refl _); have hlf := T7 (hvf (by omega)) (Int.le_refl _); have hll := A13 hlab.1 hlab.2)
 refine aP 6 rfl (B5 rfl rfl (by simp only [List.length_append, List.length_cons, List.length_nil]; omega)) rfl ?_
 refine aP 7 rfl (qA rfl) rfl ?_
 refine R5 (nS (tT (rB (rS (F0 (rT rfl) ?_)))))
 (have hk1 : k = 14 := (by omega); exact ⟨rfl, by rw [B1Q hk1 (by omega)] <;> rfl⟩)
 refine C6 ?_
 (have hj6 : 6 ≤ k ∧ k ≤ 8 := (by omega); obtain ⟨j, hjk⟩ : ∃ j : Nat, k = (j : Int) + 6 := ⟨(k - 6).toNat, by omega⟩; subst hjk; have hx1 := hTl1 (by omega); refine K7 K9 rfl ?_)
 refine I0 (i := 0) (l' := [tt,ff,ff,ff,ff,ff,ff,ff,ff,ff,ff,ff,ff,ff,ff,ff,ff,ff,ff]) rfl E9 (qM rfl) rfl (by kernel_rfl) rfl rfl ?_
 refine aP 1 rfl (H2 (j := 0) rfl rfl rfl (by omega)) rfl ?_
 refine aL 2 rfl (H3 rfl rfl (hat0 _)) rfl ?_
 refine aP 3 rfl (B5 rfl rfl (by simp only [List.length_append, List.length_cons, List.length_nil]; omega)) rfl ?_
 refine aP 4 rfl (A4 rfl) rfl ?_
 refine aL 5 rfl (C2 rfl rfl) rfl ?_
 refine aP 6 rfl (A7Z rfl rfl (by omega)) rfl ?_
 refine aP 7 rfl (A4 rfl) rfl ?_
 refine aL 8 rfl (C2 rfl rfl) rfl ?_
 refine aP 9 rfl (A7Z rfl rfl (by omega)) rfl ?_
 refine aP 10 rfl (J5 (n := 1) rfl rfl (by omega)) rfl ?_
 refine aP 11 rfl (B1N rfl rfl rfl rfl (by omega)) rfl ?_
 refine aP 12 rfl (B5 rfl rfl (by simp only [List.length_append, List.length_cons, List.length_nil]; omega)) rfl ?_
 refine aP 13 rfl (qM rfl) rfl ?_
 refine aP 14 rfl (H2 (j := 1) rfl rfl rfl (by omega)) rfl ?_
 refine aL 15 rfl (H3 rfl rfl (hat1 (by omega) _)) rfl ?_
 refine aP 16 rfl (B5 rfl rfl (by simp only [List.length_append, List.length_cons, List.length_nil]; omega)) rfl ?_
 refine aP 17 rfl (B5 rfl rfl (by simp only [List.length_append, List.length_cons, List.length_nil]; omega)) rfl ?_
 refine aP 18 rfl (qA rfl) rfl ?_
 refine R5 (nS (tT (F0 (rT rfl) ?_)))
 (exact ⟨rfl, by rw [B1R rfl (by omega) (by omega)] <;> rfl⟩)
theorem A17 {G : IM} {k num lb : Int} {nm : ByteArray} {ty fr : Ty} {ks : List Tm} {tc fc : List Value} {es : List (List Value)} {p : Option Addr} {n c : Nat} (hk : F1 k) (hnum : F1 num) (hlb : F1 lb) (ht : C5 G ty tc) (hf : C5 G fr fc) (hn : n = ks.length) (hs : B7 G p n c 9 es) (hr : E7 G ks es) :
  C7 G (.mk k nm num ty fr lb ks) ([.int .i64 k, .string nm, .int .i64 num] ++ tc ++ fc ++ [.int .i64 lb, .slice p n c]) := by
 subst hn
 simp only [C7]
 exact ⟨tc, fc, p, c, es, rfl, hk, hnum, hlb, ht, hf, hs, hr⟩
theorem A3q {G : IM} {p : Option Addr} {c : Nat} {t : Tm} {e : List Value} (h : Sl G p 1 c 9 e) (hr : C7 G t e) : B7 G p 1 c 9 [e] ∧ E7 G [t] [e] := by
 refine ⟨B7.of (by simpa using h) rfl (by simpa using hr.len) (by simpa using hr.one), ?_⟩
 simp only [E7]; exact ⟨e, [], rfl, hr, rfl⟩
theorem A2G {l : A0} {i : Nat} (h : i < l.length) : (l.drop i).headD 0 = l.getD i 0 := by rw [Y6 h]; rfl
section plain
variable {L : A0} {f : A0 → Option (Tm × A0)} {a nx ny : Nat} {t u : Ty} {x : Tm}
theorem B1T (h : L.length ≤ a + 1) : U9 f (L.drop a) = none := by
 unfold U9
 by_cases ha : a < L.length
 ·rw [Y7 ha]; simp only [Option.bind_some]; rw [A1f h]; rfl
 ·rw [A4M (by omega)]; rfl
theorem B1U (h : a + 1 < L.length) (hc : L.getD (a + 1) 0 ≠ 58) : U9 f (L.drop a) = none := by
 unfold U9
 rw [Y7 (by omega)]; simp only [Option.bind_some]; rw [A0V h hc]; rfl
theorem B1V (h : a + 1 < L.length) (hc : L.getD (a + 1) 0 = 58) (h2 : J7 4 (L.drop (a + 2)) = none) : U9 f (L.drop a) = none := by
 unfold U9
 rw [Y7 (by omega)]; simp only [Option.bind_some]; rw [A0h h hc]; simp only [Option.bind_some]; rw [h2]; rfl
theorem A72 (h : a + 1 < L.length) (hc : L.getD (a + 1) 0 = 58) (h2 : J7 4 (L.drop (a + 2)) = some (t, L.drop nx)) (h3 : B9 46 (L.drop nx) = none) : U9 f (L.drop a) = none := by
 unfold U9
 rw [Y7 (by omega)]; simp only [Option.bind_some]; rw [A0h h hc]; simp only [Option.bind_some]; rw [h2]; simp only [Option.bind_some]; rw [h3]; rfl
theorem B1W (h : a + 1 < L.length) (hc : L.getD (a + 1) 0 = 58) (h2 : J7 4 (L.drop (a + 2)) = some (t, L.drop nx)) (h3 : nx < L.length) (h4 : L.getD nx 0 = 46) : U9 f (L.drop a) = (f (L.drop (nx + 1))).map fun z => (.mk 5 ⟨#[L.getD a 0]⟩ 0 t A3 0 [z.1], z.2) := by
 unfold U9
 rw [Y7 (by omega)]; simp only [Option.bind_some]; rw [A0h h hc]; simp only [Option.bind_some]; rw [h2]; simp only [Option.bind_some]; rw [A0h h3 h4]; rfl
theorem B1X (h : J7 4 (L.drop a) = none) : U1 x t (L.drop a) = none := by unfold U1; rw [h]; rfl
theorem B1Y (h : J7 4 (L.drop a) = some (u, L.drop nx)) (h2 : L.length ≤ nx + 1) : U1 x t (L.drop a) = none := by
 unfold U1
 rw [h]; simp only [Option.bind_some]
 by_cases h3 : nx < L.length
 ·by_cases h4 : L.getD nx 0 = 35
  ·rw [A0h h3 h4]; simp only [Option.bind_some]; rw [if_pos (A1B h2)]
  ·rw [A0V h3 h4]; rfl
 ·rw [A1f (by omega)]; rfl
theorem B1Z (h : J7 4 (L.drop a) = some (u, L.drop nx)) (h2 : nx < L.length) (h3 : L.getD nx 0 ≠ 35) : U1 x t (L.drop a) = none := by
 unfold U1
 rw [h]; simp only [Option.bind_some]; rw [A0V h2 h3]; rfl
theorem B10 (h : J7 4 (L.drop a) = some (u, L.drop nx)) (h2 : nx + 1 < L.length) (h3 : L.getD nx 0 = 35) (h4 : L.getD (nx + 1) 0 = 45) : U1 x t (L.drop a) = (X1 (L.drop (nx + 1 + 1))).bind fun m => (B9 41 m.2).map fun r3 => (.mk 14 ⟨#[]⟩ 0 u t (-m.1) [x], r3) := by
 unfold U1
 rw [h]; simp only [Option.bind_some]; rw [A0h (by omega) h3]; simp only [Option.bind_some]
 rw [if_neg (by rw [Y6 h2]; exact List.cons_ne_nil _ _), A2G h2, if_pos h4, List.tail_drop]
theorem B11 (h : J7 4 (L.drop a) = some (u, L.drop nx)) (h2 : nx + 1 < L.length) (h3 : L.getD nx 0 = 35) (h4 : L.getD (nx + 1) 0 ≠ 45) : U1 x t (L.drop a) = (X1 (L.drop (nx + 1))).bind fun m => (B9 41 m.2).map fun r3 => (.mk 14 ⟨#[]⟩ 0 u t m.1 [x], r3) := by
 unfold U1
 rw [h]; simp only [Option.bind_some]; rw [A0h (by omega) h3]; simp only [Option.bind_some]
 rw [if_neg (by rw [Y6 h2]; exact List.cons_ne_nil _ _), A2G h2, if_neg h4]
theorem B12 (h : f (L.drop a) = none) : S5 f (L.drop a) = none := by unfold S5; rw [h]; rfl
theorem B13 (h : f (L.drop a) = some (x, L.drop nx)) (h2 : L.length ≤ nx) : S5 f (L.drop a) = none := by unfold S5; rw [h]; simp only [Option.bind_some]; rw [A4M h2]; rfl
theorem B14 (h : f (L.drop a) = some (x, L.drop nx)) (h2 : nx < L.length) (h3 : L.getD nx 0 ≠ 32) (h4 : L.getD nx 0 ≠ 43) (h5 : L.getD nx 0 ≠ 60) (h6 : L.getD nx 0 ≠ 58) : S5 f (L.drop a) = none := by
 unfold S5; rw [h]; simp only [Option.bind_some]; rw [Y7 h2]; simp only [Option.bind_some]; rw [if_neg h3, if_neg h4, if_neg h5, if_neg h6]
theorem A4R {k : Int} (h : f (L.drop a) = some (x, L.drop nx)) (h2 : nx < L.length) (h3 : (L.getD nx 0 = 32 ∧ k = 6) ∨ (L.getD nx 0 = 43 ∧ k = 7) ∨ (L.getD nx 0 = 60 ∧ k = 8)) : S5 f (L.drop a) = A0T f k x (L.drop (nx + 1)) := by
 unfold S5; rw [h]; simp only [Option.bind_some]; rw [Y7 h2]; simp only [Option.bind_some]
 rcases h3 with ⟨h3, rfl⟩ | ⟨h3, rfl⟩ | ⟨h3, rfl⟩
 ·rw [h3, if_pos rfl]
 ·rw [h3, if_neg (by decide), if_pos rfl]
 ·rw [h3, if_neg (by decide), if_neg (by decide), if_pos rfl]
theorem B15 (h : f (L.drop a) = some (x, L.drop nx)) (h2 : nx < L.length) (h3 : L.getD nx 0 = 58) : S5 f (L.drop a) = X2 x (L.drop (nx + 1)) := by
 unfold S5; rw [h]; simp only [Option.bind_some]; rw [Y7 h2]; simp only [Option.bind_some]
 rw [h3, if_neg (by decide), if_neg (by decide), if_neg (by decide), if_pos rfl]
theorem B16 (h : J7 4 (L.drop a) = none) : X2 x (L.drop a) = none := by unfold X2; rw [h]; rfl
theorem A73 (h : J7 4 (L.drop a) = some (t, L.drop ny)) (h2 : L.length ≤ ny ∨ (L.getD ny 0 ≠ 41 ∧ L.getD ny 0 ≠ 126)) : X2 x (L.drop a) = none := by
 unfold X2; rw [h]; simp only [Option.bind_some]
 by_cases hn : ny < L.length
 ·rw [A2G hn]
  rcases h2 with h2 | ⟨h2, h3⟩
  ·omega
  ·rw [if_neg h2, if_neg h3]
 ·rw [A1B (by omega)]; rfl
theorem B17 (h : J7 4 (L.drop a) = some (t, L.drop ny)) (hn : ny < L.length) (h2 : L.getD ny 0 = 41) : X2 x (L.drop a) = some (.mk 13 ⟨#[]⟩ 0 t A3 0 [x], L.drop (ny + 1)) := by
 unfold X2; rw [h]; simp only [Option.bind_some]; rw [A2G hn, if_pos h2, List.tail_drop]
theorem B18 (h : J7 4 (L.drop a) = some (t, L.drop ny)) (hn : ny < L.length) (h2 : L.getD ny 0 = 126) : X2 x (L.drop a) = U1 x t (L.drop (ny + 1)) := by
 unfold X2; rw [h]; simp only [Option.bind_some]; rw [A2G hn, h2, if_neg (by decide), if_pos rfl, List.tail_drop]
end plain
theorem A4S {L : A0} {a : Nat} (h : a < L.length) : (A9 L).extract a (a + 1) = A9 [L.getD a 0] := by
 rw [A0w, Y6 h, Nat.add_sub_cancel_left]; rfl
theorem B19 (L : A0) (hL : L.length ≤ 4294967296) (n : Nat) (hP : A3o L n) (a : Nat) (ha : a ≤ L.length) (G : IM) : Fn Tryz.prog 101 [.string (A9 L), .int .i64 (a : Int), .int .i64 (n : Int)] [] G (I3 L (U9 (D4 n) (L.drop a))) := by
 have hsz := I9 L
 obtain ⟨c1, hc1⟩ : ∃ c, L.getD (a + 1) 0 = c := ⟨_, rfl⟩
 refine B3 Tryz.func101 rfl Tryz.ntmps101 Tryz.results101 rfl ?_
 intro w0
 refine tS (tR ?_)
 refine sE (D6 rfl) rfl (fun b3 => ?_)
 refine B1 ?_
 refine sP (J5 (n := 1) rfl rfl (by omega)) rfl rfl ?_
 refine sQ (qM rfl) rfl ?_
 refine sQ (M6 rfl rfl) rfl (sB (Q2 rfl rfl) rfl rfl (fun h14 => ?_) (fun h14 => ?_))
 refine U7 ?_
 refine B8 (rC rfl (A7 rfl rfl)) (rT rfl) ?_
 (exact I3.no (B1T (by omega)))
 refine sQ (qM rfl) rfl (sQ (qM rfl) rfl (sQ (qM rfl) rfl ?_))
 refine sP (J5 (n := 1) rfl rfl (by omega)) rfl rfl ?_
 refine sP (Y8 (j := a + 1) rfl rfl rfl (by omega) hc1) rfl rfl ?_
 refine sB (N1 rfl rfl) rfl rfl (fun h41 => ?_) (fun h41 => ?_)
 refine D9 ?_
 refine B8 (rC rfl (A7 rfl rfl)) (rT rfl) ?_
 (exact I3.no (B1U (by omega) (by rw [hc1]; exact D8 (by show _ ≠ (58 : Int); omega))))
 refine M0 ?_
 refine sP (J5 (n := 2) rfl rfl (by omega)) rfl rfl ?_
 focus (refine M9 rfl (A4P L hL 4 (a + 2) G (by omega) (by omega)) rfl rfl (fun v G1 hle1 hh => ?_); obtain ⟨ty, ct, nt, rfl, hrt, hmt⟩ := hh; have hot := hrt.one; obtain ⟨pa, cca, ea, rfl, _⟩ := hrt.open; rcases hmt with ⟨hmt, rfl⟩ | ⟨nx, hmt, rfl, hnx⟩; rotate_left; obtain ⟨o, ho⟩ : ∃ o, L.getD nx 0 = o := ⟨_, rfl⟩; rotate_left)
 refine F5 ?_
 refine sE (D6 rfl) rfl (fun b72 => ?_)
 refine sS rfl rfl rfl rfl hot rfl ?_
 refine B1 ?_
 refine sP (X6 rfl rfl (by omega)) rfl rfl ?_
 refine W1 ?_
 refine sS rfl rfl rfl rfl hot rfl ?_
 refine sQ (qA rfl) rfl (sD (nS (tT (rS ?_))))
 refine B8 (rC rfl (A7 rfl rfl)) (rT rfl) ?_
 (exact I3.no (B1V (by omega) (by rw [hc1]; exact E0 (b := 58) (by show _ = (58 : Int); omega)) hmt))
 refine F5 ?_
 refine sE (D6 rfl) rfl (fun b111 => ?_)
 refine sS rfl rfl rfl rfl hot rfl ?_
 refine B1 ?_
 refine sP (M8 rfl rfl (by omega)) rfl rfl ?_
 refine sQ (qM rfl) rfl (sQ (qM rfl) rfl (sQ (qM rfl) rfl ?_))
 refine sQ (M6 rfl rfl) rfl (sB (Q2 rfl rfl) rfl rfl (fun h125 => ?_) (fun h125 => ?_))
 refine D9 ?_
 refine sS rfl rfl rfl rfl hot rfl ?_
 refine sQ (qA rfl) rfl (sD (nS (tT (rS ?_))))
 refine B8 (rC rfl (A7 rfl rfl)) (rT rfl) ?_
 (exact I3.no (A72 (by omega) (by rw [hc1]; exact E0 (b := 58) (by show _ = (58 : Int); omega)) hmt (A1f (by omega))))
 refine H9 ?_
 refine sP (Y8 (j := nx) rfl rfl rfl (by omega) ho) rfl rfl ?_
 refine sB (N1 rfl rfl) rfl rfl (fun h152 => ?_) (fun h152 => ?_)
 refine B1 ?_
 refine sS rfl rfl rfl rfl hot rfl ?_
 refine sQ (qA rfl) rfl (sD (nS (tT (rS ?_))))
 refine B8 (rC rfl (A7 rfl rfl)) (rT rfl) ?_
 (exact I3.no (A72 (by omega) (by rw [hc1]; exact E0 (b := 58) (by show _ = (58 : Int); omega)) hmt (A0V (by omega) (by rw [ho]; exact D8 (by show _ ≠ (46 : Int); omega)))))
 refine M0 ?_
 refine sP (J5 (n := 1) rfl rfl (by omega)) rfl rfl ?_
 refine sQ (qM rfl) rfl ?_
 (have hal : a < L.length := (by omega); refine M9 rfl (hP (nx + 1) G1 (by omega)) rfl rfl (fun v G2 hle2 hh => ?_); obtain ⟨tb, cb, nb, rfl, hrb, hmb⟩ := hh; have hob := hrb.one; obtain ⟨x1, x2, x3, x4, x5, x6, x7, x8, x9, rfl⟩ := V7 hrb; replace hrt := hrt.mono hle2)
 refine F5 ?_
 refine sE (D6 rfl) rfl (fun b184 => ?_)
 refine sS rfl rfl rfl rfl hob rfl ?_
 refine sQ (qA rfl) rfl (sD (nS (tS ?_)))
 refine K7 K9 rfl ?_
 refine I0 (i := 0) (l' := [tt,ff,ff,ff,ff,ff,ff,ff,ff,ff,ff,ff]) rfl E9 (qM rfl) rfl (by kernel_rfl) rfl rfl ?_
 refine aP 1 rfl (qM rfl) rfl ?_
 refine aP 2 rfl (qM rfl) rfl ?_
 refine aP 3 rfl (J5 (n := 1) rfl rfl (by omega)) rfl ?_
 refine aP 4 rfl (A0O (l := a) (h := a + 1) rfl rfl rfl rfl (by omega) (by rw [I9]; omega)) rfl ?_
 refine aL 5 rfl (A7 rfl rfl) rfl ?_
 refine aL 6 rfl (A7 rfl rfl) rfl ?_
 refine aP 9 rfl (qM rfl) rfl ?_
 refine B6 7 ?_
 (refine A0W rfl (P1 rfl rfl rfl (by omega) (by unfold maxLen; omega) rfl) rfl rfl ?_; rintro _ ⟨b200, rfl⟩)
 refine aP 8 rfl (Z5 rfl rfl) rfl ?_
 refine B6 10 ?_
 refine R1 rfl ?_
 refine aP 11 rfl (qA rfl) rfl ?_
 refine R5 (nS ?_)
 (refine A1m (cs := [x1, x2, x3, x4, x5, x6, x7, x8, x9]) (by repeat (first | exact Pk.here | apply Pk.there)) (fun G9 hle9 hsl9 hno9 => ?_); obtain ⟨hs1, hs2⟩ := A3q hsl9 (hrb.mono hle9); have hR9 := A17 (k := 5) (num := 0) (lb := 0) (nm := A9 [L.getD a 0]) (fr := A3) (ks := [tb]) ⟨by decide, by decide⟩ ⟨by decide, by decide⟩ ⟨by decide, by decide⟩ (hrt.mono hle9) (A0P G9) rfl hs1 hs2)
 refine tT ?_
 refine B8 (rC rfl (A7 rfl rfl)) (rT rfl) ?_
 (have hee := B1W (f := D4 n) (by omega) (by rw [hc1]; exact E0 (b := 58) (by show _ = (58 : Int); omega)) hmt (by omega) (by rw [ho]; exact E0 (b := 46) (by show _ = (46 : Int); omega)); rw [hee, A4S hal]; rcases hmb with ⟨hmb, rfl⟩ | ⟨ny, hmb, rfl, hny⟩; exact I3.noT hR9 (by rw [hmb]; rfl); exact I3.yes hR9 (by rw [hmb]; rfl) hny)
theorem B2a (L : A0) (hL : L.length ≤ 4294967296) (x : Tm) (tk : Int) (tks : List Ty) (pt : Option Addr) (ct : Nat) (p : Option Addr) (c : Nat) (es : List (List Value)) (a : Nat) (ha : a ≤ L.length) (G : IM) (hty : C5 G (.mk tk tks) [.int .i64 tk, .slice pt tks.length ct]) (hsl : B7 G p 1 c 9 es) (hkl : E7 G [x] es) :
  Fn Tryz.prog 167 [.agg ⟨[.int .i64 13, .string ⟨⟨[]⟩⟩, .int .i64 0, .int .i64 tk, .slice pt tks.length ct, .int .i64 0, .slice none 0 0, .int .i64 0, .slice p 1 c]⟩, .string (A9 L), .int .i64 (a : Int)] [] G (I3 L (U1 x (.mk tk tks) (L.drop a))) := by
 have hsz := I9 L
 refine B3 Tryz.func167 rfl Tryz.ntmps167 Tryz.results167 rfl ?_
 intro w0
 refine tS (tR ?_)
 refine sE (J6 rfl rfl) rfl (fun b3 => ?_)
 refine sE (D6 rfl) rfl (fun b4 => ?_)
 refine B1 ?_
 focus (refine M9 rfl (A4P L hL 4 a G (by omega) ha) rfl rfl (fun v G1 hle1 hh => ?_); obtain ⟨ty, ct, nt, rfl, hrt, hmt⟩ := hh; have hot := hrt.one; obtain ⟨pa, cca, ea, rfl, _⟩ := hrt.open; replace hty := hty.mono hle1; replace hsl := hsl.mono hle1; replace hkl := hkl.mono hle1; rcases hmt with ⟨hmt, rfl⟩ | ⟨nx, hmt, rfl, hnx⟩; rotate_left; obtain ⟨o, ho⟩ : ∃ o, L.getD nx 0 = o := ⟨_, rfl⟩; obtain ⟨o1, ho1⟩ : ∃ o, L.getD (nx + 1) 0 = o := ⟨_, rfl⟩; rotate_left)
 refine F5 ?_
 refine sE (D6 rfl) rfl (fun b16 => ?_)
 refine sS rfl rfl rfl rfl hot rfl ?_
 refine B1 ?_
 refine sP (X6 rfl rfl (by omega)) rfl rfl ?_
 refine U7 ?_
 refine sS rfl rfl rfl rfl hot rfl ?_
 refine sQ (qA rfl) rfl (sD (nS (tT (rS ?_))))
 refine B8 (rC rfl (A7 rfl rfl)) (rT rfl) ?_
 (exact I3.no (B1X hmt))
 refine F5 ?_
 refine sE (D6 rfl) rfl (fun b56 => ?_)
 refine sS rfl rfl rfl rfl hot rfl ?_
 refine B1 ?_
 refine sP (M8 rfl rfl (by omega)) rfl rfl ?_
 refine sQ (qM rfl) rfl (sQ (qM rfl) rfl ?_)
 refine sP (J5 (n := 1) rfl rfl (by omega)) rfl rfl ?_
 refine sQ (qM rfl) rfl ?_
 refine sQ (M6 rfl rfl) rfl (sB (Q2 rfl rfl) rfl rfl (fun h71 => ?_) (fun h71 => ?_))
 refine D9 ?_
 refine sS rfl rfl rfl rfl hot rfl ?_
 refine sQ (qA rfl) rfl (sD (nS (tT (rS ?_))))
 refine B8 (rC rfl (A7 rfl rfl)) (rT rfl) ?_
 (exact I3.no (B1Y hmt (by omega)))
 refine H9 ?_
 refine sP (Y8 (j := nx) rfl rfl rfl (by omega) ho) rfl rfl ?_
 refine sB (N1 rfl rfl) rfl rfl (fun h98 => ?_) (fun h98 => ?_)
 refine B1 ?_
 refine sS rfl rfl rfl rfl hot rfl ?_
 refine sQ (qA rfl) rfl (sD (nS (tT (rS ?_))))
 refine B8 (rC rfl (A7 rfl rfl)) (rT rfl) ?_
 (exact I3.no (B1Z hmt (by omega) (by rw [ho]; exact D8 (by show _ ≠ (35 : Int); omega))))
 refine S2 ?_
 refine sP (J5 (n := 1) rfl rfl (by omega)) rfl rfl ?_
 refine C6 ?_
 refine sP (Y8 (j := nx + 1) rfl rfl rfl (by omega) ho1) rfl rfl ?_
 refine sB (qE rfl rfl) rfl rfl (fun h138 => ?_) (fun h138 => ?_)
 refine M0 ?_
 refine sP (J5 (n := 1) rfl rfl (by omega)) rfl rfl ?_
 refine B1 ?_
 focus (have hneg : L.getD (nx + 1) 0 = 45 := (by rw [ho1]; exact E0 (b := 45) (by show _ = (45 : Int); omega)); have hee := B10 (x := x) (t := .mk tk tks) hmt (by omega) (by rw [ho]; exact E0 (b := 35) (by show _ = (35 : Int); omega)) hneg; refine H7 rfl (A4Q L hL (nx + 1 + 1) G1 (by omega)) (List.Perm.refl _) rfl rfl (fun v G2 outs hle2 hh => ?_); obtain ⟨hG, rfl, vv, nv, rfl, hv0, hv9, hmv⟩ := hh; replace hG := hG.symm; subst hG; rcases hmv with ⟨hmv, rfl⟩ | ⟨ny, hmv, rfl, hny⟩; rotate_left; obtain ⟨q, hq⟩ : ∃ q, L.getD ny 0 = q := ⟨_, rfl⟩; rotate_left)
 refine D7 ?_
 refine sP (X6 rfl rfl (by omega)) rfl rfl ?_
 refine W1 ?_
 refine sS rfl rfl rfl rfl hot rfl ?_
 refine sQ (qA rfl) rfl (sD (nS (tT (rS ?_))))
 refine B8 (rC rfl (A7 rfl rfl)) (rT rfl) ?_
 (exact I3.no (by rw [hee, hmv]; rfl))
 refine D7 ?_
 refine sP (M8 rfl rfl (by omega)) rfl rfl ?_
 refine sQ (qM rfl) rfl (sQ (qM rfl) rfl (sQ (qM rfl) rfl ?_))
 refine sQ (M6 rfl rfl) rfl (sB (Q2 rfl rfl) rfl rfl (fun h212 => ?_) (fun h212 => ?_))
 refine D9 ?_
 refine sS rfl rfl rfl rfl hot rfl ?_
 refine sQ (qA rfl) rfl (sD (nS (tT (rS ?_))))
 refine B8 (rC rfl (A7 rfl rfl)) (rT rfl) ?_
 (exact I3.no (by rw [hee, hmv]; simp only [Option.bind_some]; rw [A1f (by omega)]; rfl))
 refine H9 ?_
 refine sP (Y8 (j := ny) rfl rfl rfl (by omega) hq) rfl rfl ?_
 refine sB (N1 rfl rfl) rfl rfl (fun h239 => ?_) (fun h239 => ?_)
 refine B1 ?_
 refine sS rfl rfl rfl rfl hot rfl ?_
 refine sQ (qA rfl) rfl (sD (nS (tT (rS ?_))))
 refine B8 (rC rfl (A7 rfl rfl)) (rT rfl) ?_
 (exact I3.no (by rw [hee, hmv]; simp only [Option.bind_some]; rw [A0V (by omega) (by rw [hq]; exact D8 (by show _ ≠ (41 : Int); omega))]; rfl))
 refine D9 ?_
 refine sP (A3w rfl rfl (by omega) (by omega)) rfl rfl ?_
 refine H9 ?_
 refine sP (J5 (n := 1) rfl rfl (by omega)) rfl rfl ?_
 refine sS rfl rfl rfl rfl hot rfl ?_
 refine sQ (qA rfl) rfl (sD (nS (tT ?_)))
 refine B8 (rC rfl (A7 rfl rfl)) (rT rfl) ?_
 (exact I3.yes (A17 (k := 14) (num := 0) (lb := -1 * vv) (nm := ⟨#[]⟩) ⟨by decide, by decide⟩ ⟨by decide, by decide⟩ ⟨by omega, by omega⟩ hrt hty rfl hsl hkl) (by rw [hee, hmv]; simp only [Option.bind_some]; rw [A0h (by omega) (by rw [hq]; exact E0 (b := 41) (by show _ = (41 : Int); omega)), show -1 * vv = -vv by omega]; rfl) (by omega))
 refine C1 ?_
 focus (have hneg : L.getD (nx + 1) 0 ≠ 45 := (by rw [ho1]; exact D8 (by show _ ≠ (45 : Int); omega)); have hee := B11 (x := x) (t := .mk tk tks) hmt (by omega) (by rw [ho]; exact E0 (b := 35) (by show _ = (35 : Int); omega)) hneg; refine H7 rfl (A4Q L hL (nx + 1) G1 (by omega)) (List.Perm.refl _) rfl rfl (fun v G2 outs hle2 hh => ?_); obtain ⟨hG, rfl, vv, nv, rfl, hv0, hv9, hmv⟩ := hh; replace hG := hG.symm; subst hG; rcases hmv with ⟨hmv, rfl⟩ | ⟨ny, hmv, rfl, hny⟩; rotate_left; obtain ⟨q, hq⟩ : ∃ q, L.getD ny 0 = q := ⟨_, rfl⟩; rotate_left)
 refine D7 ?_
 refine sP (X6 rfl rfl (by omega)) rfl rfl ?_
 refine W1 ?_
 refine sS rfl rfl rfl rfl hot rfl ?_
 refine sQ (qA rfl) rfl (sD (nS (tT (rS ?_))))
 refine B8 (rC rfl (A7 rfl rfl)) (rT rfl) ?_
 (exact I3.no (by rw [hee, hmv]; rfl))
 refine D7 ?_
 refine sP (M8 rfl rfl (by omega)) rfl rfl ?_
 refine sQ (qM rfl) rfl (sQ (qM rfl) rfl (sQ (qM rfl) rfl ?_))
 refine sQ (M6 rfl rfl) rfl (sB (Q2 rfl rfl) rfl rfl (fun h345 => ?_) (fun h345 => ?_))
 refine D9 ?_
 refine sS rfl rfl rfl rfl hot rfl ?_
 refine sQ (qA rfl) rfl (sD (nS (tT (rS ?_))))
 refine B8 (rC rfl (A7 rfl rfl)) (rT rfl) ?_
 (exact I3.no (by rw [hee, hmv]; simp only [Option.bind_some]; rw [A1f (by omega)]; rfl))
 refine H9 ?_
 refine sP (Y8 (j := ny) rfl rfl rfl (by omega) hq) rfl rfl ?_
 refine sB (N1 rfl rfl) rfl rfl (fun h372 => ?_) (fun h372 => ?_)
 refine B1 ?_
 refine sS rfl rfl rfl rfl hot rfl ?_
 refine sQ (qA rfl) rfl (sD (nS (tT (rS ?_))))
 refine B8 (rC rfl (A7 rfl rfl)) (rT rfl) ?_
 (exact I3.no (by rw [hee, hmv]; simp only [Option.bind_some]; rw [A0V (by omega) (by rw [hq]; exact D8 (by show _ ≠ (41 : Int); omega))]; rfl))
 refine D9 ?_
 refine sP (A3w rfl rfl (by omega) (by omega)) rfl rfl ?_
 refine H9 ?_
 refine sP (J5 (n := 1) rfl rfl (by omega)) rfl rfl ?_
 refine sS rfl rfl rfl rfl hot rfl ?_
 refine sQ (qA rfl) rfl (sD (nS (tT ?_)))
 refine B8 (rC rfl (A7 rfl rfl)) (rT rfl) ?_
 (exact I3.yes (A17 (k := 14) (num := 0) (lb := 1 * vv) (nm := ⟨#[]⟩) ⟨by decide, by decide⟩ ⟨by decide, by decide⟩ ⟨by omega, by omega⟩ hrt hty rfl hsl hkl) (by rw [hee, hmv]; simp only [Option.bind_some]; rw [A0h (by omega) (by rw [hq]; exact E0 (b := 41) (by show _ = (41 : Int); omega)), show 1 * vv = vv by omega]; rfl) (by omega))
theorem B2b (L : A0) (hL : L.length ≤ 4294967296) (n : Nat) (hP : A3o L n) (a : Nat) (ha : a ≤ L.length) (G : IM) : Fn Tryz.prog 102 [.string (A9 L), .int .i64 (a : Int), .int .i64 (n : Int)] [] G (I3 L (S5 (D4 n) (L.drop a))) := by
 have hsz := I9 L
 refine B3 Tryz.func102 rfl Tryz.ntmps102 Tryz.results102 rfl ?_
 intro w0
 refine tS (tR ?_)
 refine sE (D6 rfl) rfl (fun b3 => ?_)
 refine C6 ?_
 focus (refine M9 rfl (hP a G ha) rfl rfl (fun v G1 hle1 hh => ?_); obtain ⟨tb, cb, nb, rfl, hrb, hmb⟩ := hh; have hob := hrb.one; obtain ⟨x1, x2, x3, x4, x5, x6, x7, x8, x9, rfl⟩ := V7 hrb; rcases hmb with ⟨hmb, rfl⟩ | ⟨nx, hmb, rfl, hnx⟩; rotate_left; obtain ⟨o, ho⟩ : ∃ o, L.getD nx 0 = o := ⟨_, rfl⟩; rotate_left)
 refine F5 ?_
 refine sE (D6 rfl) rfl (fun b16 => ?_)
 refine sS rfl rfl rfl rfl hob rfl ?_
 refine B1 ?_
 refine sP (X6 rfl rfl (by omega)) rfl rfl ?_
 refine W1 ?_
 refine B8 (rC rfl (A7 rfl rfl)) (rT rfl) ?_
 (exact I3.no (B12 hmb))
 refine F5 ?_
 refine sE (D6 rfl) rfl (fun b49 => ?_)
 refine sS rfl rfl rfl rfl hob rfl ?_
 refine B1 ?_
 refine sP (M8 rfl rfl (by omega)) rfl rfl ?_
 refine sQ (qM rfl) rfl (sQ (qM rfl) rfl (sQ (qM rfl) rfl ?_))
 refine sQ (M6 rfl rfl) rfl (sB (Q2 rfl rfl) rfl rfl (fun h63 => ?_) (fun h63 => ?_))
 refine D9 ?_
 refine B8 (rC rfl (A7 rfl rfl)) (rT rfl) ?_
 (exact I3.no (B13 hmb (by omega)))
 refine C1 ?_
 (refine F3 (P1 rfl rfl rfl (by omega) (by unfold maxLen; omega) rfl) rfl ?_; rintro _ ⟨b88, rfl⟩)
 refine sQ (Z5 rfl rfl) rfl ?_
 refine sE (D6 rfl) rfl (fun b90 => ?_)
 refine C6 ?_
 refine sP (Y8 (j := nx) rfl rfl rfl (by omega) ho) rfl rfl ?_
 refine sD (nS ?_)
 refine D0 (tS (tR (sB (qE rfl rfl) rfl rfl (fun h105 => ?_) (fun h105 => ?_))))
 refine I7 ?_
 refine sP (J5 (n := 1) rfl rfl (by omega)) rfl rfl ?_
 refine sQ (qM rfl) rfl ?_
 (have hbe := A4R (k := 6) hmb (by omega) (.inl ⟨(by rw [ho]; exact E0 (b := 32) (by show _ = (32 : Int); omega)), rfl⟩); have hl1 : E7 G1 [tb] [[x1, x2, x3, x4, x5, x6, x7, x8, x9]] := (by simp only [E7]; exact ⟨_, _, rfl, hrb, rfl⟩); refine H7 rfl (A2F L hL n hP 6 ⟨by decide, by decide⟩ [tb] [[x1, x2, x3, x4, x5, x6, x7, x8, x9]] _ _ [41] (by decide) (by simp) (nx + 1) (by omega) G1 hl1) (Pk.perm (by repeat (first | exact Pk.here | apply Pk.there))) rfl rfl (fun v G4 outs hle4 hh => ?_); obtain ⟨rfl, te, ce, ne, rfl, hre, hme⟩ := hh; have hoe := hre.one; obtain ⟨e1, e2, e3, e4, e5, e6, e7, e8, e9, rfl⟩ := V7 hre)
 refine sQ (pX rfl rfl) rfl (sQ (pX rfl rfl) rfl ?_)
 refine sS rfl rfl rfl rfl hoe rfl ?_
 refine sQ (qA rfl) rfl (sD (nS (tT ?_)))
 refine B8 (rC rfl (A7 rfl rfl)) (rT rfl) ?_
 (rw [hbe]; exact ⟨rfl, te, _, _, rfl, hre, hme⟩)
 refine sQ (qA rfl) rfl (sD (nS (cF rfl (tS (tR ?_)))))
 refine sB (qE rfl rfl) rfl rfl (fun h139 => ?_) (fun h139 => ?_)
 refine I7 ?_
 refine sP (J5 (n := 1) rfl rfl (by omega)) rfl rfl ?_
 refine sQ (qM rfl) rfl ?_
 (have hbe := A4R (k := 7) hmb (by omega) (.inr (.inl ⟨(by rw [ho]; exact E0 (b := 43) (by show _ = (43 : Int); omega)), rfl⟩)); have hl1 : E7 G1 [tb] [[x1, x2, x3, x4, x5, x6, x7, x8, x9]] := (by simp only [E7]; exact ⟨_, _, rfl, hrb, rfl⟩); refine H7 rfl (A2F L hL n hP 7 ⟨by decide, by decide⟩ [tb] [[x1, x2, x3, x4, x5, x6, x7, x8, x9]] _ _ [41] (by decide) (by simp) (nx + 1) (by omega) G1 hl1) (Pk.perm (by repeat (first | exact Pk.here | apply Pk.there))) rfl rfl (fun v G4 outs hle4 hh => ?_); obtain ⟨rfl, te, ce, ne, rfl, hre, hme⟩ := hh; have hoe := hre.one; obtain ⟨e1, e2, e3, e4, e5, e6, e7, e8, e9, rfl⟩ := V7 hre)
 refine sQ (pX rfl rfl) rfl (sQ (pX rfl rfl) rfl ?_)
 refine sS rfl rfl rfl rfl hoe rfl ?_
 refine sQ (qA rfl) rfl (sD (nS (tT ?_)))
 refine B8 (rC rfl (A7 rfl rfl)) (rT rfl) ?_
 (rw [hbe]; exact ⟨rfl, te, _, _, rfl, hre, hme⟩)
 refine sQ (qA rfl) rfl (sD (nS (cF rfl (tS (tR ?_)))))
 refine sB (qE rfl rfl) rfl rfl (fun h173 => ?_) (fun h173 => ?_)
 refine I7 ?_
 refine sP (J5 (n := 1) rfl rfl (by omega)) rfl rfl ?_
 refine sQ (qM rfl) rfl ?_
 (have hbe := A4R (k := 8) hmb (by omega) (.inr (.inr ⟨(by rw [ho]; exact E0 (b := 60) (by show _ = (60 : Int); omega)), rfl⟩)); have hl1 : E7 G1 [tb] [[x1, x2, x3, x4, x5, x6, x7, x8, x9]] := (by simp only [E7]; exact ⟨_, _, rfl, hrb, rfl⟩); refine H7 rfl (A2F L hL n hP 8 ⟨by decide, by decide⟩ [tb] [[x1, x2, x3, x4, x5, x6, x7, x8, x9]] _ _ [41] (by decide) (by simp) (nx + 1) (by omega) G1 hl1) (Pk.perm (by repeat (first | exact Pk.here | apply Pk.there))) rfl rfl (fun v G4 outs hle4 hh => ?_); obtain ⟨rfl, te, ce, ne, rfl, hre, hme⟩ := hh; have hoe := hre.one; obtain ⟨e1, e2, e3, e4, e5, e6, e7, e8, e9, rfl⟩ := V7 hre)
 refine sQ (pX rfl rfl) rfl (sQ (pX rfl rfl) rfl ?_)
 refine sS rfl rfl rfl rfl hoe rfl ?_
 refine sQ (qA rfl) rfl (sD (nS (tT ?_)))
 refine B8 (rC rfl (A7 rfl rfl)) (rT rfl) ?_
 (rw [hbe]; exact ⟨rfl, te, _, _, rfl, hre, hme⟩)
 refine sQ (qA rfl) rfl (sD (nS (cF rfl (tS (tR ?_)))))
 refine sB (qE rfl rfl) rfl rfl (fun h207 => ?_) (fun h207 => ?_)
 refine C6 ?_
 refine sP (J5 (n := 1) rfl rfl (by omega)) rfl rfl ?_
 focus (refine X7 (cs := [x1, x2, x3, x4, x5, x6, x7, x8, x9]) (by repeat (first | exact Pk.here | apply Pk.there)) (fun G2 hle2 hsl2 hno2 => ?_); obtain ⟨hs1, hs2⟩ := A3q hsl2 (hrb.mono hle2); have has := B15 hmb (by omega) (by rw [ho]; exact E0 (b := 58) (by show _ = (58 : Int); omega)); refine M9 rfl (A4P L hL 4 (nx + 1) G2 (by omega) (by omega)) rfl rfl (fun v G3 hle3 hh => ?_); obtain ⟨ty, ct, nt, rfl, hrt, hmt⟩ := hh; have hot := hrt.one; obtain ⟨tk, tks⟩ := ty; obtain ⟨pa, cca, ea, rfl, _⟩ := hrt.open; replace hs1 := hs1.mono hle3; replace hs2 := hs2.mono hle3; rcases hmt with ⟨hmt, rfl⟩ | ⟨ny, hmt, rfl, hny⟩; rotate_left; obtain ⟨q, hq⟩ : ∃ q, L.getD ny 0 = q := ⟨_, rfl⟩; rotate_left)
 refine F5 ?_
 refine sE (D6 rfl) rfl (fun b221 => ?_)
 refine sS rfl rfl rfl rfl hot rfl ?_
 refine sQ (qA rfl) rfl (sD (nS (tS (tR (sQ (A4 rfl) rfl ?_)))))
 refine sS rfl rfl rfl rfl hot rfl ?_
 refine I2 ?_
 refine sS rfl rfl rfl rfl hot rfl ?_
 refine sD (nS (tS (tS (tR (sQ (qM rfl) rfl ?_)))))
 refine sP (A2L rfl rfl (by omega)) rfl rfl ?_
 refine A0m ?_
 refine sP (A2L rfl rfl (by omega)) rfl rfl ?_
 refine X8 ?_
 refine sS rfl rfl rfl rfl hot rfl ?_
 refine sQ (qA rfl) rfl (sD (nS (tT (rB (rS ?_)))))
 refine B8 (rC rfl (A7 rfl rfl)) (rT rfl) ?_
 (rw [has]; exact I3.no (B16 hmt))
 refine F5 ?_
 refine sE (D6 rfl) rfl (fun b298 => ?_)
 refine sS rfl rfl rfl rfl hot rfl ?_
 refine sQ (qA rfl) rfl (sD (nS (tS (tR (sQ (A4 rfl) rfl ?_)))))
 refine sS rfl rfl rfl rfl hot rfl ?_
 refine I2 ?_
 refine sS rfl rfl rfl rfl hot rfl ?_
 refine sD (nS (tS (tS (tR (sQ (qM rfl) rfl ?_)))))
 refine sP (A2K rfl rfl (by omega)) rfl rfl ?_
 refine sQ (qM rfl) rfl (sQ (qM rfl) rfl (sQ (qM rfl) rfl ?_))
 refine sQ (M6 rfl rfl) rfl (sB (N2 rfl rfl) rfl rfl (fun h325 => ?_) (fun h325 => ?_))
 refine H9 ?_
 refine sP (Y8 (j := ny) rfl rfl rfl (by omega) hq) rfl rfl ?_
 refine sB (qE rfl rfl) rfl rfl (fun h331 => ?_) (fun h331 => ?_)
 refine C6 ?_
 refine sP (J5 (n := 1) rfl rfl (by omega)) rfl rfl ?_
 refine sS rfl rfl rfl rfl hot rfl ?_
 refine sQ (qA rfl) rfl (sD (nS (tT (rS (rB (rS ?_))))))
 refine B8 (rC rfl (A7 rfl rfl)) (rT rfl) ?_
 (rw [has]; exact I3.yes (A17 (k := 13) (num := 0) (lb := 0) (nm := ⟨#[]⟩) (fr := A3) ⟨by decide, by decide⟩ ⟨by decide, by decide⟩ ⟨by decide, by decide⟩ hrt (A0P _) rfl hs1 hs2) (B17 hmt (by omega) (by rw [hq]; exact E0 (b := 41) (by show _ = (41 : Int); omega))) (by omega))
 refine M0 ?_
 refine sP (A2K rfl rfl (by omega)) rfl rfl ?_
 refine sQ (qM rfl) rfl (sQ (qM rfl) rfl (sQ (qM rfl) rfl ?_))
 refine sQ (M6 rfl rfl) rfl ?_
 refine sP (X6 rfl rfl (by omega)) rfl rfl ?_
 refine H9 ?_
 refine sP (Y8 (j := ny) rfl rfl rfl (by omega) hq) rfl rfl ?_
 refine sB (qE rfl rfl) rfl rfl (fun h372 => ?_) (fun h372 => ?_)
 refine C1 ?_
 refine sP (J5 (n := 1) rfl rfl (by omega)) rfl rfl ?_
 (have hcl := B2a L hL tb tk tks _ _ _ _ _ (ny + 1) (by omega) G3 hrt hs1 hs2; have hqe : L.getD ny 0 = 126 := (by rw [hq]; exact E0 (b := 126) (by show _ = (126 : Int); omega)); refine M9 rfl hcl rfl rfl (fun v G4 hle4 hh => ?_); obtain ⟨te, ce, ne, rfl, hre, hme⟩ := hh; have hoe := hre.one; obtain ⟨e1, e2, e3, e4, e5, e6, e7, e8, e9, rfl⟩ := V7 hre)
 refine sQ (pX rfl rfl) rfl (sQ (pX rfl rfl) rfl ?_)
 refine sS rfl rfl rfl rfl hoe rfl ?_
 refine sQ (qA rfl) rfl (sD (nS (tT (rS (rB (rS ?_))))))
 refine B8 (rC rfl (A7 rfl rfl)) (rT rfl) ?_
 (rw [has, B18 hmt (by omega) hqe]; exact ⟨rfl, te, _, _, rfl, hre, hme⟩)
 refine C1 ?_
 refine sS rfl rfl rfl rfl hot rfl ?_
 refine sQ (qA rfl) rfl (sD (nS (tT (rB (rS ?_)))))
 refine B8 (rC rfl (A7 rfl rfl)) (rT rfl) ?_
 (rw [has]; exact I3.no (A73 hmt (.inr ⟨(by rw [hq]; exact D8 (by show _ ≠ (41 : Int); omega)), (by rw [hq]; exact D8 (by show _ ≠ (126 : Int); omega))⟩)))
 refine N4 ?_
 refine sP (A2K rfl rfl (by omega)) rfl rfl ?_
 refine sQ (qM rfl) rfl (sQ (qM rfl) rfl (sQ (qM rfl) rfl ?_))
 refine sQ (M6 rfl rfl) rfl ?_
 refine sP (M8 rfl rfl (by omega)) rfl rfl ?_
 refine I7 ?_
 refine sS rfl rfl rfl rfl hot rfl ?_
 refine sQ (qA rfl) rfl (sD (nS (tT (rB (rS ?_)))))
 refine B8 (rC rfl (A7 rfl rfl)) (rT rfl) ?_
 (rw [has]; exact I3.no (A73 hmt (.inl (by omega))))
 refine S2 ?_
 refine B8 (rC rfl (A7 rfl rfl)) (rT rfl) ?_
 (exact I3.no (B14 hmb (by omega) (by rw [ho]; exact D8 (by show _ ≠ (32 : Int); omega)) (by rw [ho]; exact D8 (by show _ ≠ (43 : Int); omega)) (by rw [ho]; exact D8 (by show _ ≠ (60 : Int); omega)) (by rw [ho]; exact D8 (by show _ ≠ (58 : Int); omega))))
theorem B2c (c : UInt8) : S4 (A9 [c]) = decide (97 ≤ c.toNat ∧ c.toNat ≤ 122) := by
 unfold S4
 have : (A9 [c]).size = 1 := rfl
 have h2 : (A9 [c]).data.getD 0 0 = c := rfl
 rw [h2, this]
 simp
section plain
variable {n : Nat} {r : A0}
theorem B2d (n : Nat) : D4 n [] = none := by cases n <;> rfl
theorem B2e : D4 (n + 1) (84 :: r) = some (nd 3 [], r) := by rw [D4, if_pos rfl]
theorem B2f : D4 (n + 1) (70 :: r) = some (nd 4 [], r) := by rw [D4, if_neg (by decide), if_pos rfl]
theorem B2g : D4 (n + 1) (33 :: r) = U9 (D4 n) r := by rw [D4, if_neg (by decide), if_neg (by decide), if_pos rfl]
theorem B2h : D4 (n + 1) (40 :: r) = S5 (D4 n) r := by rw [D4, if_neg (by decide), if_neg (by decide), if_neg (by decide), if_pos rfl]
theorem B2i : D4 (n + 1) (123 :: r) = (P4 (D4 n) [63, 58, 125] r).map fun x => (nd 9 x.1, x.2) := by rw [D4, if_neg (by decide), if_neg (by decide), if_neg (by decide), if_neg (by decide), if_pos rfl]
theorem B2j : D4 (n + 1) (91 :: r) = (P4 (D4 n) [44, 93] r).map fun x => (nd 10 x.1, x.2) := by rw [D4, if_neg (by decide), if_neg (by decide), if_neg (by decide), if_neg (by decide), if_neg (by decide), if_pos rfl]
theorem B2k : D4 (n + 1) (36 :: r) = Q8 (D4 n) 11 r := by rw [D4, if_neg (by decide), if_neg (by decide), if_neg (by decide), if_neg (by decide), if_neg (by decide), if_neg (by decide), if_pos rfl]
theorem B2l : D4 (n + 1) (37 :: r) = Q8 (D4 n) 12 r := by rw [D4, if_neg (by decide), if_neg (by decide), if_neg (by decide), if_neg (by decide), if_neg (by decide), if_neg (by decide), if_neg (by decide), if_pos rfl]
theorem B2m {c : UInt8} (g0 : c ≠ 84) (g1 : c ≠ 70) (g2 : c ≠ 33) (g3 : c ≠ 40) (g4 : c ≠ 123) (g5 : c ≠ 91) (g6 : c ≠ 36) (g7 : c ≠ 37) (h : 97 ≤ c.toNat ∧ c.toNat ≤ 122) : D4 (n + 1) (c :: r) = some (.mk 1 ⟨#[c]⟩ 0 A3 A3 0 [], r) := by rw [D4, if_neg g0, if_neg g1, if_neg g2, if_neg g3, if_neg g4, if_neg g5, if_neg g6, if_neg g7, if_pos h]
theorem B2n {c : UInt8} (g0 : c ≠ 84) (g1 : c ≠ 70) (g2 : c ≠ 33) (g3 : c ≠ 40) (g4 : c ≠ 123) (g5 : c ≠ 91) (g6 : c ≠ 36) (g7 : c ≠ 37) (h : ¬(97 ≤ c.toNat ∧ c.toNat ≤ 122)) : D4 (n + 1) (c :: r) = (X1 (c :: r)).map fun x => (.mk 2 ⟨#[]⟩ x.1 A3 A3 0 [], x.2) := by rw [D4, if_neg g0, if_neg g1, if_neg g2, if_neg g3, if_neg g4, if_neg g5, if_neg g6, if_neg g7, if_neg h]
end plain
theorem A74 (L : A0) (hL : L.length ≤ 4294967296) : ∀ (n : Nat), n ≤ 100 → A3o L n := by
 intro n
 induction n with
 | zero =>
  intro hn a G ha
  refine B3 Tryz.func51 rfl Tryz.ntmps51 Tryz.results51 rfl ?_
  intro w0
  refine tS (tR ?_)
  refine sE (D6 rfl) rfl (fun b3 => ?_)
  refine B1 ?_
  refine sP (X6 rfl rfl (by omega)) rfl rfl ?_
  refine A2i ?_
  refine B8 (rC rfl (A7 rfl rfl)) (rT rfl) ?_
  (exact I3.no rfl)
 | succ n ih =>
  intro hn a G ha
  have ih := ih (by omega)
  have hsz := I9 L
  have hnil : L.length ≤ a → D4 (n + 1) (L.drop a) = none := fun h => by rw [A1B h]; exact B2d _
  obtain ⟨c, hc⟩ : ∃ c, L.getD a 0 = c := ⟨_, rfl⟩
  have hcs := fun h : a < L.length => by have := Y6 h; rw [hc] at this; exact this
  refine B3 Tryz.func51 rfl Tryz.ntmps51 Tryz.results51 rfl ?_
  intro w0
  refine tS (tR ?_)
  refine sE (D6 rfl) rfl (fun b3 => ?_)
  refine B1 ?_
  refine sP (M8 rfl rfl (by omega)) rfl rfl ?_
  refine sQ (qM rfl) rfl (sQ (qM rfl) rfl ?_)
  refine sP (M8 rfl rfl (by omega)) rfl rfl ?_
  refine H9 ?_
  refine sQ (M6 rfl rfl) rfl (sB (Q2 rfl rfl) rfl rfl (fun h20 => ?_) (fun h20 => ?_))
  refine D9 ?_
  refine B8 (rC rfl (A7 rfl rfl)) (rT rfl) ?_
  (exact I3.no (hnil (by omega)))
  refine D7 ?_
  refine sP (Y8 (j := a) rfl rfl rfl (by omega) hc) rfl rfl ?_
  refine sD (nS ?_)
  refine D0 (tS (tR (sB (qE rfl rfl) rfl rfl (fun h53 => ?_) (fun h53 => ?_))))
  refine C6 ?_
  refine sP (J5 (n := 1) rfl rfl (by omega)) rfl rfl ?_
  refine O6 ?_
  refine sQ (qA rfl) rfl (sD (nS (tT (rB (rS ?_)))))
  refine B8 (rC rfl (A7 rfl rfl)) (rT rfl) ?_
  (obtain rfl : c = 84 := E0 (b := 84) (by show _ = (84 : Int); omega); rw [hcs (by omega)]; exact I3.yes (A1P (k := 3) (ks := []) (es := []) ⟨by decide, by decide⟩ rfl (B7.nil _ _) rfl) B2e (by omega))
  refine sQ (qA rfl) rfl (sD (nS (cF rfl (tS (tR ?_)))))
  refine sB (qE rfl rfl) rfl rfl (fun h78 => ?_) (fun h78 => ?_)
  refine C6 ?_
  refine sP (J5 (n := 1) rfl rfl (by omega)) rfl rfl ?_
  refine O6 ?_
  refine sQ (qA rfl) rfl (sD (nS (tT (rB (rS ?_)))))
  refine B8 (rC rfl (A7 rfl rfl)) (rT rfl) ?_
  (obtain rfl : c = 70 := E0 (b := 70) (by show _ = (70 : Int); omega); rw [hcs (by omega)]; exact I3.yes (A1P (k := 4) (ks := []) (es := []) ⟨by decide, by decide⟩ rfl (B7.nil _ _) rfl) B2f (by omega))
  refine sQ (qA rfl) rfl (sD (nS (cF rfl (tS (tR ?_)))))
  refine sB (qE rfl rfl) rfl rfl (fun h103 => ?_) (fun h103 => ?_)
  refine C6 ?_
  refine sP (J5 (n := 1) rfl rfl (by omega)) rfl rfl ?_
  refine sQ (qM rfl) rfl ?_
  refine sP (A0N rfl rfl (by omega)) rfl rfl ?_
  (obtain rfl : c = 33 := E0 (b := 33) (by show _ = (33 : Int); omega); refine M9 rfl (B19 L hL n ih (a + 1) (by omega) G) rfl rfl (fun v G1 hle1 hh => ?_); obtain ⟨te, ce, ne, rfl, hre, hme⟩ := hh; have hoe := hre.one; obtain ⟨e1, e2, e3, e4, e5, e6, e7, e8, e9, rfl⟩ := V7 hre; rw [← B2g] at hme)
  refine sQ (pX rfl rfl) rfl (sQ (pX rfl rfl) rfl ?_)
  refine sS rfl rfl rfl rfl hoe rfl ?_
  refine sQ (qA rfl) rfl (sD (nS (tT (rB (rS ?_)))))
  refine B8 (rC rfl (A7 rfl rfl)) (rT rfl) ?_
  (rw [hcs (by omega)]; exact ⟨rfl, te, _, _, rfl, hre, hme⟩)
  refine sQ (qA rfl) rfl (sD (nS (cF rfl (tS (tR ?_)))))
  refine sB (qE rfl rfl) rfl rfl (fun h133 => ?_) (fun h133 => ?_)
  refine C6 ?_
  refine sP (J5 (n := 1) rfl rfl (by omega)) rfl rfl ?_
  refine sQ (qM rfl) rfl ?_
  refine sP (A0N rfl rfl (by omega)) rfl rfl ?_
  (obtain rfl : c = 40 := E0 (b := 40) (by show _ = (40 : Int); omega); refine M9 rfl (B2b L hL n ih (a + 1) (by omega) G) rfl rfl (fun v G1 hle1 hh => ?_); obtain ⟨te, ce, ne, rfl, hre, hme⟩ := hh; have hoe := hre.one; obtain ⟨e1, e2, e3, e4, e5, e6, e7, e8, e9, rfl⟩ := V7 hre; rw [← B2h] at hme)
  refine sQ (pX rfl rfl) rfl (sQ (pX rfl rfl) rfl ?_)
  refine sS rfl rfl rfl rfl hoe rfl ?_
  refine sQ (qA rfl) rfl (sD (nS (tT (rB (rS ?_)))))
  refine B8 (rC rfl (A7 rfl rfl)) (rT rfl) ?_
  (rw [hcs (by omega)]; exact ⟨rfl, te, _, _, rfl, hre, hme⟩)
  refine sQ (qA rfl) rfl (sD (nS (cF rfl (tS (tR ?_)))))
  refine sB (qE rfl rfl) rfl rfl (fun h163 => ?_) (fun h163 => ?_)
  refine C1 ?_
  refine sP (J5 (n := 1) rfl rfl (by omega)) rfl rfl ?_
  refine sQ (qM rfl) rfl ?_
  refine sP (A0N rfl rfl (by omega)) rfl rfl ?_
  (obtain rfl : c = 123 := E0 (b := 123) (by show _ = (123 : Int); omega); refine A5c 28 9 ?_; refine H7 rfl (A2F L hL n ih 9 ⟨by decide, by decide⟩ [] [] none 0 [63, 58, 125] (by decide) (by decide) (a + 1) (by omega) G (by simp only [E7])) (Pk.perm (by repeat (first | exact Pk.here | apply Pk.there))) rfl rfl (fun v G1 outs hle1 hh => ?_); obtain ⟨rfl, te, ce, ne, rfl, hre, hme⟩ := hh; have hoe := hre.one; obtain ⟨e1, e2, e3, e4, e5, e6, e7, e8, e9, rfl⟩ := V7 hre; simp only [List.nil_append] at hme; rw [← B2i] at hme)
  refine sQ (pX rfl rfl) rfl (sQ (pX rfl rfl) rfl ?_)
  refine sS rfl rfl rfl rfl hoe rfl ?_
  refine sQ (qA rfl) rfl (sD (nS (tT (rB (rS ?_)))))
  refine B8 (rC rfl (A7 rfl rfl)) (rT rfl) ?_
  (rw [hcs (by omega)]; exact ⟨rfl, te, _, _, rfl, hre, hme⟩)
  refine sQ (qA rfl) rfl (sD (nS (cF rfl (tS (tR ?_)))))
  refine sB (qE rfl rfl) rfl rfl (fun h194 => ?_) (fun h194 => ?_)
  refine C1 ?_
  refine sP (J5 (n := 1) rfl rfl (by omega)) rfl rfl ?_
  refine sQ (qM rfl) rfl ?_
  refine sP (A0N rfl rfl (by omega)) rfl rfl ?_
  (obtain rfl : c = 91 := E0 (b := 91) (by show _ = (91 : Int); omega); refine A5c 28 9 ?_; refine H7 rfl (A2F L hL n ih 10 ⟨by decide, by decide⟩ [] [] none 0 [44, 93] (by decide) (by decide) (a + 1) (by omega) G (by simp only [E7])) (Pk.perm (by repeat (first | exact Pk.here | apply Pk.there))) rfl rfl (fun v G1 outs hle1 hh => ?_); obtain ⟨rfl, te, ce, ne, rfl, hre, hme⟩ := hh; have hoe := hre.one; obtain ⟨e1, e2, e3, e4, e5, e6, e7, e8, e9, rfl⟩ := V7 hre; simp only [List.nil_append] at hme; rw [← B2j] at hme)
  refine sQ (pX rfl rfl) rfl (sQ (pX rfl rfl) rfl ?_)
  refine sS rfl rfl rfl rfl hoe rfl ?_
  refine sQ (qA rfl) rfl (sD (nS (tT (rB (rS ?_)))))
  refine B8 (rC rfl (A7 rfl rfl)) (rT rfl) ?_
  (rw [hcs (by omega)]; exact ⟨rfl, te, _, _, rfl, hre, hme⟩)
  refine sQ (qA rfl) rfl (sD (nS (cF rfl (tS (tR ?_)))))
  refine sB (qE rfl rfl) rfl rfl (fun h225 => ?_) (fun h225 => ?_)
  refine C6 ?_
  refine sP (J5 (n := 1) rfl rfl (by omega)) rfl rfl ?_
  refine sQ (qM rfl) rfl ?_
  refine sP (A0N rfl rfl (by omega)) rfl rfl ?_
  (refine M9 rfl (ih (a + 1) G (by omega)) rfl rfl (fun v G1 hle1 hh => ?_); obtain ⟨tb, cb, nb, rfl, hrb, hmb⟩ := hh; have hob := hrb.one; obtain ⟨x1, x2, x3, x4, x5, x6, x7, x8, x9, rfl⟩ := V7 hrb)
  refine F5 ?_
  refine sE (D6 rfl) rfl (fun b241 => ?_)
  refine sS rfl rfl rfl rfl hob rfl ?_
  refine I2 ?_
  (refine F3 (P1 rfl rfl rfl (by omega) (by unfold maxLen; omega) rfl) rfl ?_; rintro _ ⟨b249, rfl⟩)
  refine I2 ?_
  (obtain rfl : c = 36 := E0 (b := 36) (by show _ = (36 : Int); omega); refine A1m (cs := [x1, x2, x3, x4, x5, x6, x7, x8, x9]) (by repeat (first | exact Pk.here | apply Pk.there)) (fun G9 hle9 hsl9 hno9 => ?_); obtain ⟨hs1, hs2⟩ := A3q hsl9 (hrb.mono hle9); have hR9 := A1P (k := 11) (ks := [tb]) ⟨by decide, by decide⟩ rfl hs1 hs2; have hun : D4 (n + 1) (36 :: L.drop (a + 1)) = Q8 (D4 n) 11 (L.drop (a + 1)) := B2k; have hal : a < L.length := (by omega))
  refine tT (rB (rS ?_))
  refine B8 (rC rfl (A7 rfl rfl)) (rT rfl) ?_
  (rw [hcs hal, hun]; rcases hmb with ⟨hmb, rfl⟩ | ⟨ny, hmb, rfl, hny⟩; exact I3.noT hR9 (by unfold Q8; rw [hmb]; rfl); exact I3.yes hR9 (by unfold Q8; rw [hmb]; rfl) hny)
  refine sQ (qA rfl) rfl (sD (nS (cF rfl (tS (tR ?_)))))
  refine sB (qE rfl rfl) rfl rfl (fun h268 => ?_) (fun h268 => ?_)
  refine C6 ?_
  refine sP (J5 (n := 1) rfl rfl (by omega)) rfl rfl ?_
  refine sQ (qM rfl) rfl ?_
  refine sP (A0N rfl rfl (by omega)) rfl rfl ?_
  (refine M9 rfl (ih (a + 1) G (by omega)) rfl rfl (fun v G1 hle1 hh => ?_); obtain ⟨tb, cb, nb, rfl, hrb, hmb⟩ := hh; have hob := hrb.one; obtain ⟨x1, x2, x3, x4, x5, x6, x7, x8, x9, rfl⟩ := V7 hrb)
  refine F5 ?_
  refine sE (D6 rfl) rfl (fun b284 => ?_)
  refine sS rfl rfl rfl rfl hob rfl ?_
  refine I2 ?_
  (refine F3 (P1 rfl rfl rfl (by omega) (by unfold maxLen; omega) rfl) rfl ?_; rintro _ ⟨b292, rfl⟩)
  refine I2 ?_
  (obtain rfl : c = 37 := E0 (b := 37) (by show _ = (37 : Int); omega); refine A1m (cs := [x1, x2, x3, x4, x5, x6, x7, x8, x9]) (by repeat (first | exact Pk.here | apply Pk.there)) (fun G9 hle9 hsl9 hno9 => ?_); obtain ⟨hs1, hs2⟩ := A3q hsl9 (hrb.mono hle9); have hR9 := A1P (k := 12) (ks := [tb]) ⟨by decide, by decide⟩ rfl hs1 hs2; have hun : D4 (n + 1) (37 :: L.drop (a + 1)) = Q8 (D4 n) 12 (L.drop (a + 1)) := B2l; have hal : a < L.length := (by omega))
  refine tT (rB (rS ?_))
  refine B8 (rC rfl (A7 rfl rfl)) (rT rfl) ?_
  (rw [hcs hal, hun]; rcases hmb with ⟨hmb, rfl⟩ | ⟨ny, hmb, rfl, hny⟩; exact I3.noT hR9 (by unfold Q8; rw [hmb]; rfl); exact I3.yes hR9 (by unfold Q8; rw [hmb]; rfl) hny)
  refine D9 ?_
  refine sP (J5 (n := 1) rfl rfl (by omega)) rfl rfl ?_
  (have hal : a < L.length := (by omega); refine sP (A0O (l := a) (h := a + 1) rfl rfl rfl rfl (by omega) (by omega)) rfl rfl ?_; rw [A4S hal, hc])
  focus (have hnm := A5U (A9 [c]) G; rw [B2c] at hnm; by_cases hlt : 97 ≤ c.toNat ∧ c.toNat ≤ 122; (rw [decide_eq_true hlt] at hnm); rotate_left; (rw [decide_eq_false hlt] at hnm); rotate_left; refine I5 rfl hnm rfl rfl ?_; rotate_left; refine I5 rfl hnm rfl rfl ?_; rotate_left)
  refine C6 ?_
  refine sP (J5 (n := 1) rfl rfl (by omega)) rfl rfl ?_
  (have hal : a < L.length := (by omega); refine sP (A0O (l := a) (h := a + 1) rfl rfl rfl rfl (by omega) (by omega)) rfl rfl ?_; rw [A4S hal, hc])
  refine sQ (Z5 rfl rfl) rfl (sQ (qM rfl) rfl ?_)
  refine sP (J5 (n := 1) rfl rfl (by omega)) rfl rfl ?_
  refine O6 ?_
  refine sQ (qA rfl) rfl (sD (nS (tT (rS ?_))))
  refine B8 (rC rfl (A7 rfl rfl)) (rT rfl) ?_
  (rw [hcs (by omega)]; exact I3.yes (A17 (k := 1) (num := 0) (lb := 0) (nm := A9 [c]) (ty := A3) (fr := A3) (ks := []) (es := []) ⟨by decide, by decide⟩ ⟨by decide, by decide⟩ ⟨by decide, by decide⟩ (A0P _) (A0P _) rfl (B7.nil _ _) rfl) (B2m (D8 (by show _ ≠ (84 : Int); omega)) (D8 (by show _ ≠ (70 : Int); omega)) (D8 (by show _ ≠ (33 : Int); omega)) (D8 (by show _ ≠ (40 : Int); omega)) (D8 (by show _ ≠ (123 : Int); omega)) (D8 (by show _ ≠ (91 : Int); omega)) (D8 (by show _ ≠ (36 : Int); omega)) (D8 (by show _ ≠ (37 : Int); omega)) hlt) (by omega))
  refine C1 ?_
  (refine H7 rfl (A4Q L hL a G ha) (List.Perm.refl _) rfl rfl (fun v G2 outs hle2 hh => ?_); obtain ⟨hG, rfl, vv, nv, rfl, hv0, hv9, hmv⟩ := hh; replace hG := hG.symm; subst hG; rw [hcs (by omega)] at hmv)
  refine W0 ?_
  refine B8 (rC rfl (A7 rfl rfl)) (rT rfl) ?_
  (rw [hcs (by omega), B2n (D8 (by show _ ≠ (84 : Int); omega)) (D8 (by show _ ≠ (70 : Int); omega)) (D8 (by show _ ≠ (33 : Int); omega)) (D8 (by show _ ≠ (40 : Int); omega)) (D8 (by show _ ≠ (123 : Int); omega)) (D8 (by show _ ≠ (91 : Int); omega)) (D8 (by show _ ≠ (36 : Int); omega)) (D8 (by show _ ≠ (37 : Int); omega)) hlt]; have hR9 := A17 (G := G) (k := 2) (num := vv) (lb := 0) (nm := ⟨#[]⟩) (ty := A3) (fr := A3) (ks := []) (es := []) ⟨by decide, by decide⟩ ⟨by omega, by omega⟩ ⟨by decide, by decide⟩ (A0P _) (A0P _) rfl (B7.nil _ _) rfl; rcases hmv with ⟨hmv, rfl⟩ | ⟨ny, hmv, rfl, hny⟩; exact I3.noT hR9 (by rw [hmv]; rfl); exact I3.yes hR9 (by rw [hmv]; rfl) hny)
def W5 (V : Tm → Bool) (l : A0) : IM → Value → List A1 → Prop := J1 fun G' v => ∃ e ok cells, v = .tuple ⟨[.agg ⟨cells⟩, .bool ok]⟩ ∧ C7 G' e cells ∧ A0U V l e ok
theorem W5.no {V : Tm → Bool} {l : A0} {G' : IM} (h : ∀ x, V x = true → A2 x ≠ l) : W5 V l G' (.tuple ⟨[.agg ⟨[.int .i64 0, .string ⟨⟨[]⟩⟩, .int .i64 0, .int .i64 0, .slice none 0 0, .int .i64 0, .slice none 0 0, .int .i64 0, .slice none 0 0]⟩, .bool false]⟩) [] :=
 ⟨rfl, L4, false, _, rfl, (L9.zero G').R, .inr ⟨rfl, rfl, h⟩⟩
theorem B2o (e : Tm) (G : IM) (cells : List Value) (hcnt : D1 e ≤ 4294967296) (hr : C7 G e cells) : Fn Tryz.prog 13 [.agg ⟨cells⟩] [] G (A1A (A14 P9 e)) := by
 have hl := hr.len
 have hone := hr.one
 have hw := A9S e G cells hcnt hr
 have hv1 := fun h : P9 e = true => A1Y.2.2 e h
 refine B3 Tryz.func13 rfl Tryz.ntmps13 Tryz.results13 rfl ?_
 intro w0
 refine tS (tR ?_)
 refine sE (J6 rfl rfl) rfl (fun b3 => ?_)
 refine sQ (qA rfl) rfl (sD (nS (tS (tS (tR ?_)))))
 refine sL (D5 rfl rfl (K8 (by repeat first | exact mH | apply mT)) hl) rfl rfl ?_
 refine H6 rfl (hw) rfl rfl (fun h11 => ?_) (fun h11 => ?_)
 refine sQ (X5 rfl) rfl (sD (nS (cF rfl (tK (nS (tS (tR ?_)))))))
 refine sL (D5 rfl rfl (K8 (by repeat first | exact mH | apply mT)) hl) rfl rfl ?_
 (have hv2 := hv1 (by assumption); refine M9 rfl (A71 12 14 e 1 G _ hv2.1 (by omega) hr) rfl rfl (fun v G3 hle3 hh => ?_); subst hh)
 refine sQ (qA rfl) rfl (sD (nS (tT (F0 (rT rfl) ?_))))
 (exact ⟨rfl, by rw [A15 (by assumption)]⟩)
 refine O0 ?_
 (exact ⟨rfl, by rw [A3m (by assumption)]; rfl⟩)
theorem B2p (L : A0) (hL : L.length ≤ 4294967296) (G : IM) : Fn Tryz.prog 18 [.string (A9 L)] [] G (W5 P9 L) := by
 have hsz := I9 L
 have hVO := A1Y
 have hpx : ∀ x, P9 x = true → A2 x = L → D4 12 (L.drop 0) = some (x, []) := fun x hx he => by rw [← he]; exact hVO.r hx (by decide)
 have hcn := A7q 12 (L.drop 0)
 refine B3 Tryz.func18 rfl Tryz.ntmps18 Tryz.results18 rfl ?_
 intro w0
 refine tS (tR ?_)
 refine sE (D6 rfl) rfl (fun b3 => ?_)
 refine sQ (qA rfl) rfl (sD (nS (tS (tR (sQ (qM rfl) rfl ?_)))))
 (refine M9 rfl (A74 L hL 12 (by decide) 0 G (Nat.zero_le _)) rfl rfl (fun v G1 hle1 hh => ?_); obtain ⟨e, ce, ne, rfl, hre, hme⟩ := hh; have hoe := hre.one; obtain ⟨x1, x2, x3, x4, x5, x6, x7, x8, x9, rfl⟩ := V7 hre; rcases hme with ⟨hme, rfl⟩ | ⟨nx, hme, rfl, hnx⟩)
 refine F5 ?_
 refine sE (D6 rfl) rfl (fun b14 => ?_)
 refine sS rfl rfl rfl rfl hoe rfl ?_
 refine B1 ?_
 refine sB (A1h (s := A9 []) rfl rfl) rfl rfl (fun hse => ?_) (fun hse => ?_)
 refine A0o ?_
 refine B8 (rC rfl (A7 rfl rfl)) (rT rfl) ?_
 (exact W5.no fun x hx he => hVO.ne hx (he.trans (A1y hse)))
 refine sQ (qM rfl) rfl (sQ (qM rfl) rfl (sQ (qM rfl) rfl ?_))
 refine sQ (M6 rfl rfl) rfl ?_
 refine sP (T8 rfl rfl (by omega)) rfl rfl ?_
 refine U7 ?_
 refine B8 (rC rfl (A7 rfl rfl)) (rT rfl) ?_
 (exact W5.no fun x hx he => by rw [hpx x hx he] at hme; cases hme)
 refine F5 ?_
 refine sE (D6 rfl) rfl (fun b79 => ?_)
 refine sS rfl rfl rfl rfl hoe rfl ?_
 refine B1 ?_
 refine sB (A1h (s := A9 []) rfl rfl) rfl rfl (fun hse => ?_) (fun hse => ?_)
 refine A0o ?_
 refine B8 (rC rfl (A7 rfl rfl)) (rT rfl) ?_
 (exact W5.no fun x hx he => hVO.ne hx (he.trans (A1y hse)))
 refine sQ (qM rfl) rfl (sQ (qM rfl) rfl (sQ (qM rfl) rfl ?_))
 refine sQ (M6 rfl rfl) rfl (sB (N1 rfl rfl) rfl rfl (fun h119 => ?_) (fun h119 => ?_))
 refine U7 ?_
 refine B8 (rC rfl (A7 rfl rfl)) (rT rfl) ?_
 (exact W5.no fun x hx he => by rw [hpx x hx he] at hme; have h9 := congrArg List.length (Prod.mk.inj (Option.some.inj hme)).2; rw [List.length_drop] at h9; simp only [List.length_nil] at h9; omega)
 refine F5 ?_
 (have hnl : nx = L.length := (by omega); have hc2 := hcn _ hme; simp only [List.drop_zero] at hc2; refine M9 rfl (B2o e G1 _ (by omega) hre) rfl rfl (fun v G2 hle2 hh => ?_); subst hh; replace hre := hre.mono hle2)
 refine sQ (qM rfl) rfl ?_
 refine sB (Z2 rfl rfl) rfl rfl (fun hsn => ?_) (fun hsn => ?_)
 refine D9 ?_
 refine B8 (rC rfl (A7 rfl rfl)) (rT rfl) ?_
 (exact W5.no fun x hx he => by rw [hpx x hx he] at hme; have h9 := (Prod.mk.inj (Option.some.inj hme)).1; exact hsn (by rw [← h9, A15 hx]; exact congrArg A9 he))
 refine C1 ?_
 refine sS rfl rfl rfl rfl hoe rfl ?_
 refine sQ (qA rfl) rfl (sD (nS (tT ?_)))
 refine B8 (rC rfl (A7 rfl rfl)) (rT rfl) ?_
 (have h9 := A1y (Classical.not_not.1 hsn); cases hvb : P9 e; (rw [A3m hvb] at h9; exact absurd (congrArg A9 h9.symm) hse); (rw [A15 hvb] at h9; exact ⟨rfl, e, true, _, rfl, hre, .inl ⟨rfl, hvb, h9⟩⟩))
theorem B2q (e : Tm) (G : IM) (cells : List Value) (hcnt : D1 e ≤ 4294967296) (hr : C7 G e cells) : Fn Tryz.prog 35 [.agg ⟨cells⟩] [] G (A1A (A14 N7 e)) := by
 have hl := hr.len
 have hone := hr.one
 have hw := A9Q e G cells hcnt hr
 have hv1 := fun h : N7 e = true => A1Z.2.2 e h
 refine B3 Tryz.func35 rfl Tryz.ntmps35 Tryz.results35 rfl ?_
 intro w0
 refine tS (tR ?_)
 refine sE (J6 rfl rfl) rfl (fun b3 => ?_)
 refine sQ (qA rfl) rfl (sD (nS (tS (tS (tR ?_)))))
 refine sL (D5 rfl rfl (K8 (by repeat first | exact mH | apply mT)) hl) rfl rfl ?_
 refine H6 rfl (hw) rfl rfl (fun h11 => ?_) (fun h11 => ?_)
 refine sQ (X5 rfl) rfl (sD (nS (cF rfl (tK (nS (tS (tR ?_)))))))
 refine sL (D5 rfl rfl (K8 (by repeat first | exact mH | apply mT)) hl) rfl rfl ?_
 (have hv2 := hv1 (by assumption); refine M9 rfl (A71 40 13 e 1 G _ hv2.1 (by omega) hr) rfl rfl (fun v G3 hle3 hh => ?_); subst hh)
 refine sQ (qA rfl) rfl (sD (nS (tT (F0 (rT rfl) ?_))))
 (exact ⟨rfl, by rw [A15 (by assumption)]⟩)
 refine O0 ?_
 (exact ⟨rfl, by rw [A3m (by assumption)]; rfl⟩)
theorem B2r (L : A0) (hL : L.length ≤ 4294967296) (G : IM) : Fn Tryz.prog 22 [.string (A9 L)] [] G (W5 N7 L) := by
 have hsz := I9 L
 have hVO := A1Z
 have hpx : ∀ x, N7 x = true → A2 x = L → D4 40 (L.drop 0) = some (x, []) := fun x hx he => by rw [← he]; exact hVO.r hx (by decide)
 have hcn := A7q 40 (L.drop 0)
 refine B3 Tryz.func22 rfl Tryz.ntmps22 Tryz.results22 rfl ?_
 intro w0
 refine tS (tR ?_)
 refine sE (D6 rfl) rfl (fun b3 => ?_)
 refine sQ (qA rfl) rfl (sD (nS (tS (tR (sQ (qM rfl) rfl ?_)))))
 (refine M9 rfl (A74 L hL 40 (by decide) 0 G (Nat.zero_le _)) rfl rfl (fun v G1 hle1 hh => ?_); obtain ⟨e, ce, ne, rfl, hre, hme⟩ := hh; have hoe := hre.one; obtain ⟨x1, x2, x3, x4, x5, x6, x7, x8, x9, rfl⟩ := V7 hre; rcases hme with ⟨hme, rfl⟩ | ⟨nx, hme, rfl, hnx⟩)
 refine F5 ?_
 refine sE (D6 rfl) rfl (fun b14 => ?_)
 refine sS rfl rfl rfl rfl hoe rfl ?_
 refine B1 ?_
 refine sB (A1h (s := A9 []) rfl rfl) rfl rfl (fun hse => ?_) (fun hse => ?_)
 refine A0o ?_
 refine B8 (rC rfl (A7 rfl rfl)) (rT rfl) ?_
 (exact W5.no fun x hx he => hVO.ne hx (he.trans (A1y hse)))
 refine sQ (qM rfl) rfl (sQ (qM rfl) rfl (sQ (qM rfl) rfl ?_))
 refine sQ (M6 rfl rfl) rfl ?_
 refine sP (T8 rfl rfl (by omega)) rfl rfl ?_
 refine U7 ?_
 refine B8 (rC rfl (A7 rfl rfl)) (rT rfl) ?_
 (exact W5.no fun x hx he => by rw [hpx x hx he] at hme; cases hme)
 refine F5 ?_
 refine sE (D6 rfl) rfl (fun b79 => ?_)
 refine sS rfl rfl rfl rfl hoe rfl ?_
 refine B1 ?_
 refine sB (A1h (s := A9 []) rfl rfl) rfl rfl (fun hse => ?_) (fun hse => ?_)
 refine A0o ?_
 refine B8 (rC rfl (A7 rfl rfl)) (rT rfl) ?_
 (exact W5.no fun x hx he => hVO.ne hx (he.trans (A1y hse)))
 refine sQ (qM rfl) rfl (sQ (qM rfl) rfl (sQ (qM rfl) rfl ?_))
 refine sQ (M6 rfl rfl) rfl (sB (N1 rfl rfl) rfl rfl (fun h119 => ?_) (fun h119 => ?_))
 refine U7 ?_
 refine B8 (rC rfl (A7 rfl rfl)) (rT rfl) ?_
 (exact W5.no fun x hx he => by rw [hpx x hx he] at hme; have h9 := congrArg List.length (Prod.mk.inj (Option.some.inj hme)).2; rw [List.length_drop] at h9; simp only [List.length_nil] at h9; omega)
 refine F5 ?_
 (have hnl : nx = L.length := (by omega); have hc2 := hcn _ hme; simp only [List.drop_zero] at hc2; refine M9 rfl (B2q e G1 _ (by omega) hre) rfl rfl (fun v G2 hle2 hh => ?_); subst hh; replace hre := hre.mono hle2)
 refine sQ (qM rfl) rfl ?_
 refine sB (Z2 rfl rfl) rfl rfl (fun hsn => ?_) (fun hsn => ?_)
 refine D9 ?_
 refine B8 (rC rfl (A7 rfl rfl)) (rT rfl) ?_
 (exact W5.no fun x hx he => by rw [hpx x hx he] at hme; have h9 := (Prod.mk.inj (Option.some.inj hme)).1; exact hsn (by rw [← h9, A15 hx]; exact congrArg A9 he))
 refine C1 ?_
 refine sS rfl rfl rfl rfl hoe rfl ?_
 refine sQ (qA rfl) rfl (sD (nS (tT ?_)))
 refine B8 (rC rfl (A7 rfl rfl)) (rT rfl) ?_
 (have h9 := A1y (Classical.not_not.1 hsn); cases hvb : N7 e; (rw [A3m hvb] at h9; exact absurd (congrArg A9 h9.symm) hse); (rw [A15 hvb] at h9; exact ⟨rfl, e, true, _, rfl, hre, .inl ⟨rfl, hvb, h9⟩⟩))
theorem B2s {k : Int} {nm : ByteArray} {num : Int} {ty fr : Ty} {lb : Int} {n : Nat} (h : P8 k nm num ty fr lb n = true) : nm.size ≤ 1 := by
 obtain ⟨_, h2, h3, _⟩ := A0q.1 h
 by_cases hk : k = 1 ∨ k = 5
 ·have := h2 hk
  unfold S4 at this
  rw [decide_eq_true_eq] at this
  exact Nat.le_of_eq this.1
 ·rw [h3 hk]; exact Nat.zero_le _
theorem A75 {t : Ty} (h : S9 t = true) : Q1 t ≤ 30 := by rw [A4l h]; decide
theorem B2t {k : Int} {nm : ByteArray} {num : Int} {ty fr : Ty} {lb : Int} {n : Nat} (h : P8 k nm num ty fr lb n = true) : Q1 ty ≤ 30 ∧ Q1 fr ≤ 30 := by
 obtain ⟨_, _, _, _, _, h6, h7, h8, h9⟩ := A0q.1 h
 refine ⟨?_, ?_⟩
 ·by_cases hk : k = 5 ∨ k = 13 ∨ k = 14
  ·exact (A6o (h6 hk)).2
  ·exact A75 (h7 hk)
 ·by_cases hk : k = 14
  ·have := (h8 hk).1
   unfold Y0 at this
   simp only [Bool.and_eq_true] at this
   exact (A6o this.1.1).2
  ·exact A75 (h9 hk).1
mutual
theorem A76 (D N : Int) : ∀ (t : Tm) (d : Int), M5 D N t d = true → A01 t + 1 ≤ 62 * (D1 t : Int)
 | .mk k nm num ty fr lb ks, d, h => by
  obtain ⟨_, _, h3, h4⟩ := A04 h
  have h5 := A77 D N ks (d + 1) h4
  have h6 := B2s h3
  obtain ⟨h7, h8⟩ := B2t h3
  rw [A01, D1]
  push_cast
  omega
theorem A77 (D N : Int) : ∀ (ts : List Tm) (d : Int), W2 D N ts d = true → ts.length + A02 ts ≤ 62 * (F8 ts : Int)
 | [], d, h => by simp [A02, F8]
 | t :: ts, d, h => by
  rw [W2, Bool.and_eq_true] at h
  have h1 := A76 D N t d h.1
  have h2 := A77 D N ts d h.2
  rw [A02, F8, List.length_cons]
  push_cast
  omega
end
theorem V6.sz {V : Tm → Bool} {D N : Int} (h : V6 V D N) {e : Tm} (he : V e = true) : A01 e ≤ 12400 := by
 obtain ⟨h1, h2⟩ := h.2.2 e he
 have := A76 D N e 1 h1
 omega
theorem A0U.sz {V : Tm → Bool} {D N : Int} (h : V6 V D N) {l : A0} {e : Tm} {ok : Bool} (hp : A0U V l e ok) : A01 e ≤ 12400 := by
 rcases hp with ⟨_, h2, _⟩ | ⟨_, h2, _⟩
 ·exact h.sz h2
 ·rw [h2]; decide
theorem A0U.marks {V : Tm → Bool} {D N : Int} (h : V6 V D N) {l : A0} {e : Tm} {ok : Bool} (hp : A0U V l e ok) : B0 e.ty.ks + B0 e.fr.ks + J4 e.ks ≤ 100000 ∧ 0 ≤ B0 e.ty.ks + B0 e.fr.ks + J4 e.ks := by
 have h1 := hp.sz h
 have h2 := A9W e
 have hn1 := T0 e.ty.ks
 have hn2 := T0 e.fr.ks
 have hn3 := A0t e.ks
 exact ⟨by omega, by omega⟩
theorem B2u (l : A0) (G : IM) (hT : A0d G) (hE : V0 G) : Fn Tryz.prog 4 [.string (A9 l)] [] G (J1 fun _ v => v = .bool true) := by
 have hsl := I9 l
 refine B3 Tryz.func4 rfl Tryz.ntmps4 Tryz.results4 rfl ?_
 intro w0
 refine C1 ?_
 refine sQ (M6 rfl rfl) rfl (sB (Z1 rfl rfl) rfl rfl (fun h11 => ?_) (fun h11 => ?_))
 refine D7 ?_
 exact ⟨rfl, rfl⟩
 refine sD (nS (cF rfl (tK (nS (tS (tR (sQ (qM rfl) rfl ?_)))))))
 (refine M9 rfl (B2p l (by omega) G) rfl rfl (fun v1 G1 hle1 hh => ?_); obtain ⟨e, ok, c1, rfl, hr1, hp1⟩ := hh; have hl1 := hr1.len; have ho1 := hr1.one; have hT1 := hT.mono hle1; have hE1 := hE.mono hle1; obtain ⟨hm, hm0⟩ := hp1.marks A1Y)
 refine F5 ?_
 refine sE (D6 rfl) rfl (fun b36 => ?_)
 first | refine M7 rfl rfl rfl hl4 ho4 rfl (by repeat first | exact Sw.here | apply Sw.there) (by exact P0 hl4.symm) ?_ | refine M7 rfl rfl rfl hl2 ho2 rfl (by repeat first | exact Sw.here | apply Sw.there) (by exact P0 hl2.symm) ?_ | refine sS rfl rfl rfl hl1 ho1 rfl ?_ (hu := by exact P0 hl1.symm)
 refine sQ (qA rfl) rfl (sD (nS (tS (tR (sQ (qM rfl) rfl ?_)))))
 (refine M9 rfl (A7Q l (by omega) G1 hT1 hE1) rfl rfl (fun v2 G2 hle2 hh => ?_); obtain ⟨e2, ok2, c2, F2, rfl, hs2, hn2, hp2⟩ := hh; obtain ⟨he2, hk2⟩ := hp2.uniq A1Y.inj hp1; subst he2; subst hk2; have hl2 := hs2.R.len; have ho2 := hs2.R.one; have hle02 := hle1.trans hle2)
 refine F5 ?_
 refine sE (D6 rfl) rfl (fun b48 => ?_)
 first | refine M7 rfl rfl rfl hl4 ho4 rfl (by repeat first | exact Sw.here | apply Sw.there) (by exact P0 hl4.symm) ?_ | refine M7 rfl rfl rfl hl2 ho2 rfl (by repeat first | exact Sw.here | apply Sw.there) (by exact P0 hl2.symm) ?_ | refine sS rfl rfl rfl hl1 ho1 rfl ?_ (hu := by exact P0 hl1.symm)
 refine sQ (qA rfl) rfl (sD (nS (tS (tS (tR ?_)))))
 refine sL (D5 rfl rfl (K8 (by repeat first | exact mH | apply mT)) (by assumption)) rfl rfl ?_
 refine sL (D5 rfl rfl (K8 (by repeat first | exact mH | apply mT)) (by assumption)) rfl rfl ?_
 refine I5 rfl (A2V e2 G2 c2 c1 (hs2.R.mono (B2.le _ _)) (hr1.mono hle2)) rfl rfl ?_
 refine H9 ?_
 refine sQ (A0M rfl rfl rfl) rfl ?_
 refine D9 ?_
 refine sL (D5 rfl rfl (K8 (by repeat first | exact mH | apply mT)) (by assumption)) rfl rfl ?_
 refine sQ (qM rfl) rfl ?_
 (obtain ⟨bs2, ob2, ib2⟩ := hs2.blks; obtain ⟨nb2, gb2, kb2⟩ := A6g (Gc := G2) ib2 hn2 hle1 (B2.le G2 G1); refine A6h nb2 gb2 rfl (A5L _ 1 _ c2 bs2 ob2 (by omega) (by omega)) rfl rfl (fun bs3 G3 hb3 hle3 hg3 => ?_); have h13 : B4 G1 G3 := (Wo.keep hle2 (fun b hb => (kb2 b hb).1)).trans hle3; have hH := hb3.h hg3)
 refine M0 ?_
 refine sL (D5 rfl rfl (K8 (by repeat first | exact mH | apply mT)) (by assumption)) rfl rfl ?_
 refine sQ (qM rfl) rfl ?_
 refine I5 rfl (A22 _ 1 G3 c2 hH (by omega) (by omega)) rfl rfl ?_
 refine B1 ?_
 refine sP (M8 rfl rfl (by omega)) rfl rfl ?_
 refine M0 ?_
 refine sP (R0 rfl rfl (by omega)) rfl rfl ?_
 refine sD (nS (cF rfl (tK (nS (tS (tR (sQ (qM rfl) rfl ?_)))))))
 (have hT3 := hT1.mono h13; have hE3 := hE1.mono h13; refine M9 rfl (A7Q l (by omega) G3 hT3 hE3) rfl rfl (fun v4 G4 hle4 hh => ?_); obtain ⟨e4, ok4, c4, F4, rfl, hs4, hn4, hp4⟩ := hh; obtain ⟨he4, hk4⟩ := hp4.uniq A1Y.inj hp1; subst he4; subst hk4; have hl4 := hs4.R.len; have ho4 := hs4.R.one)
 refine F5 ?_
 refine sE (D6 rfl) rfl (fun b124 => ?_)
 first | refine M7 rfl rfl rfl hl4 ho4 rfl (by repeat first | exact Sw.here | apply Sw.there) (by exact P0 hl4.symm) ?_ | refine M7 rfl rfl rfl hl2 ho2 rfl (by repeat first | exact Sw.here | apply Sw.there) (by exact P0 hl2.symm) ?_ | refine sS rfl rfl rfl hl1 ho1 rfl ?_ (hu := by exact P0 hl1.symm)
 refine sQ (qA rfl) rfl (sD (nS (tS (tS (tR ?_)))))
 refine sL (D5 rfl rfl (K8 (by repeat first | exact mH | apply mT)) (by assumption)) rfl rfl ?_
 refine sL (D5 rfl rfl (K8 (by repeat first | exact mH | apply mT)) (by assumption)) rfl rfl ?_
 refine I5 rfl (A2V e4 G4 c4 c1 (hs4.R.mono (B2.le _ _)) (hr1.mono (h13.trans hle4))) rfl rfl ?_
 refine H9 ?_
 refine sQ (A0M rfl rfl rfl) rfl ?_
 refine D9 ?_
 refine sL (D5 rfl rfl (K8 (by repeat first | exact mH | apply mT)) (by assumption)) rfl rfl ?_
 refine sQ (qM rfl) rfl ?_
 refine I5 rfl (A22 _ 1 G4 c2 (hH.mono hle4) (by omega) (by omega)) rfl rfl ?_
 refine B1 ?_
 refine sP (M8 rfl rfl (by omega)) rfl rfl ?_
 refine M0 ?_
 refine sP (R0 rfl rfl (by omega)) rfl rfl ?_
 refine O0 ?_
 exact ⟨rfl, rfl⟩
theorem B2v (l : A0) (G : IM) (hT : A0d G) (hE : V0 G) : Fn Tryz.prog 5 [.string (A9 l)] [] G (J1 fun _ v => v = .bool true) := by
 have hsl := I9 l
 refine B3 Tryz.func5 rfl Tryz.ntmps5 Tryz.results5 rfl ?_
 intro w0
 refine C1 ?_
 refine sQ (M6 rfl rfl) rfl (sB (Z1 rfl rfl) rfl rfl (fun h11 => ?_) (fun h11 => ?_))
 refine D7 ?_
 exact ⟨rfl, rfl⟩
 refine sD (nS (cF rfl (tK (nS (tS (tR (sQ (qM rfl) rfl ?_)))))))
 (refine M9 rfl (B2r l (by omega) G) rfl rfl (fun v1 G1 hle1 hh => ?_); obtain ⟨e, ok, c1, rfl, hr1, hp1⟩ := hh; have hl1 := hr1.len; have ho1 := hr1.one; have hT1 := hT.mono hle1; have hE1 := hE.mono hle1; obtain ⟨hm, hm0⟩ := hp1.marks A1Z)
 refine F5 ?_
 refine sE (D6 rfl) rfl (fun b36 => ?_)
 first | refine M7 rfl rfl rfl hl4 ho4 rfl (by repeat first | exact Sw.here | apply Sw.there) (by exact P0 hl4.symm) ?_ | refine M7 rfl rfl rfl hl2 ho2 rfl (by repeat first | exact Sw.here | apply Sw.there) (by exact P0 hl2.symm) ?_ | refine sS rfl rfl rfl hl1 ho1 rfl ?_ (hu := by exact P0 hl1.symm)
 refine sQ (qA rfl) rfl (sD (nS (tS (tR (sQ (qM rfl) rfl ?_)))))
 (refine M9 rfl (A7R l (by omega) G1 hT1 hE1) rfl rfl (fun v2 G2 hle2 hh => ?_); obtain ⟨e2, ok2, c2, F2, rfl, hs2, hn2, hp2⟩ := hh; obtain ⟨he2, hk2⟩ := hp2.uniq A1Z.inj hp1; subst he2; subst hk2; have hl2 := hs2.R.len; have ho2 := hs2.R.one; have hle02 := hle1.trans hle2)
 refine F5 ?_
 refine sE (D6 rfl) rfl (fun b48 => ?_)
 first | refine M7 rfl rfl rfl hl4 ho4 rfl (by repeat first | exact Sw.here | apply Sw.there) (by exact P0 hl4.symm) ?_ | refine M7 rfl rfl rfl hl2 ho2 rfl (by repeat first | exact Sw.here | apply Sw.there) (by exact P0 hl2.symm) ?_ | refine sS rfl rfl rfl hl1 ho1 rfl ?_ (hu := by exact P0 hl1.symm)
 refine sQ (qA rfl) rfl (sD (nS (tS (tS (tR ?_)))))
 refine sL (D5 rfl rfl (K8 (by repeat first | exact mH | apply mT)) (by assumption)) rfl rfl ?_
 refine sL (D5 rfl rfl (K8 (by repeat first | exact mH | apply mT)) (by assumption)) rfl rfl ?_
 refine I5 rfl (A2V e2 G2 c2 c1 (hs2.R.mono (B2.le _ _)) (hr1.mono hle2)) rfl rfl ?_
 refine H9 ?_
 refine sQ (A0M rfl rfl rfl) rfl ?_
 refine D9 ?_
 refine sL (D5 rfl rfl (K8 (by repeat first | exact mH | apply mT)) (by assumption)) rfl rfl ?_
 refine sQ (qM rfl) rfl ?_
 (obtain ⟨bs2, ob2, ib2⟩ := hs2.blks; obtain ⟨nb2, gb2, kb2⟩ := A6g (Gc := G2) ib2 hn2 hle1 (B2.le G2 G1); refine A6h nb2 gb2 rfl (A5L _ 1 _ c2 bs2 ob2 (by omega) (by omega)) rfl rfl (fun bs3 G3 hb3 hle3 hg3 => ?_); have h13 : B4 G1 G3 := (Wo.keep hle2 (fun b hb => (kb2 b hb).1)).trans hle3; have hH := hb3.h hg3)
 refine M0 ?_
 refine sL (D5 rfl rfl (K8 (by repeat first | exact mH | apply mT)) (by assumption)) rfl rfl ?_
 refine sQ (qM rfl) rfl ?_
 refine I5 rfl (A22 _ 1 G3 c2 hH (by omega) (by omega)) rfl rfl ?_
 refine B1 ?_
 refine sP (M8 rfl rfl (by omega)) rfl rfl ?_
 refine M0 ?_
 refine sP (R0 rfl rfl (by omega)) rfl rfl ?_
 refine sD (nS (cF rfl (tK (nS (tS (tR (sQ (qM rfl) rfl ?_)))))))
 (have hT3 := hT1.mono h13; have hE3 := hE1.mono h13; refine M9 rfl (A7R l (by omega) G3 hT3 hE3) rfl rfl (fun v4 G4 hle4 hh => ?_); obtain ⟨e4, ok4, c4, F4, rfl, hs4, hn4, hp4⟩ := hh; obtain ⟨he4, hk4⟩ := hp4.uniq A1Z.inj hp1; subst he4; subst hk4; have hl4 := hs4.R.len; have ho4 := hs4.R.one)
 refine F5 ?_
 refine sE (D6 rfl) rfl (fun b124 => ?_)
 first | refine M7 rfl rfl rfl hl4 ho4 rfl (by repeat first | exact Sw.here | apply Sw.there) (by exact P0 hl4.symm) ?_ | refine M7 rfl rfl rfl hl2 ho2 rfl (by repeat first | exact Sw.here | apply Sw.there) (by exact P0 hl2.symm) ?_ | refine sS rfl rfl rfl hl1 ho1 rfl ?_ (hu := by exact P0 hl1.symm)
 refine sQ (qA rfl) rfl (sD (nS (tS (tS (tR ?_)))))
 refine sL (D5 rfl rfl (K8 (by repeat first | exact mH | apply mT)) (by assumption)) rfl rfl ?_
 refine sL (D5 rfl rfl (K8 (by repeat first | exact mH | apply mT)) (by assumption)) rfl rfl ?_
 refine I5 rfl (A2V e4 G4 c4 c1 (hs4.R.mono (B2.le _ _)) (hr1.mono (h13.trans hle4))) rfl rfl ?_
 refine H9 ?_
 refine sQ (A0M rfl rfl rfl) rfl ?_
 refine D9 ?_
 refine sL (D5 rfl rfl (K8 (by repeat first | exact mH | apply mT)) (by assumption)) rfl rfl ?_
 refine sQ (qM rfl) rfl ?_
 refine I5 rfl (A22 _ 1 G4 c2 (hH.mono hle4) (by omega) (by omega)) rfl rfl ?_
 refine B1 ?_
 refine sP (M8 rfl rfl (by omega)) rfl rfl ?_
 refine M0 ?_
 refine sP (R0 rfl rfl (by omega)) rfl rfl ?_
 refine O0 ?_
 exact ⟨rfl, rfl⟩
end Gw
end Go.Proofs.YtgodjiieijekiaaGreatDoor
