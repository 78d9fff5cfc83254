/-
  Drawn terms are valid (of XBrD).
-/
import Derived.Test.YtgodjiieijekiaaGreatDoorKh3
import Derived.Test.YtgodjiieijekiaaGreatDoorKh4
import Derived.Test.YtgodjiieijekiaaGreatDoorKh2
import Derived.Test.YtgodjiieijekiaaGreatDoorKh1
set_option linter.unusedVariables false
set_option linter.unusedSimpArgs false
set_option maxHeartbeats 0
set_option maxRecDepth 100000
set_option synthInstance.maxSize 4000
set_option synthInstance.maxHeartbeats 0
namespace Go.Proofs.YtgodjiieijekiaaGreatDoor
open Go Go.RowKit
namespace Gw
theorem B1t (br : Nat) (pb : Option Addr) (nb cb : Nat) (bs : List UInt8) (hnb : nb ≤ 2000) (p : Nat) (G : IM) (hb : Sl G pb nb cb 1 (K2 bs)) (hp : p + 1100 < 1099511627776) :
  Fn Tryz.prog 97 [.pointer (some ⟨br, 0, none⟩)] [rd br pb nb cb p] G
   (W8 br pb nb cb p 1100 (fun G' v => ∃ t cells, v = .agg ⟨cells⟩ ∧ B6 G' t cells ∧ S9 t ≤ 1043 ∧ N5 t = true)) := by
 refine B5 Tryz.func97 rfl Tryz.ntmps97 Tryz.results97 rfl ?_
 intro w0
 refine tS (tR ?_)
 refine sE (C0 rfl) rfl (fun b3 => ?_)
 refine sD (nS (tS (tR (sQ (qM rfl) rfl (sQ (qM rfl) rfl ?_)))))
 (refine D1 (I4 rfl rfl rfl (by omega) (by unfold maxLen; omega) rfl) rfl ?_; rintro _ ⟨b10, rfl⟩)
 (refine N4 (by repeat (first | exact Pk.here | apply Pk.there)) (fun Gf hlef hslf _ => ?_); refine B4 rfl (X0 Gf br pb nb cb p bs _ _ _ _ (hb.mono hlef) hnb (by omega) hslf (by decide)) (Pk.perm (by repeat (first | exact Pk.here | apply Pk.there))) rfl rfl (fun v Gn outs hlen hh => ?_); obtain ⟨rfl, rfl, hv⟩ := hh; replace hb := hb.mono hlef; obtain ⟨dd, rfl, hdd⟩ : ∃ d : Nat, v = .int .i64 ((d + 1 : Nat) : Int) ∧ d ≤ 4 := (by simp only [List.mem_cons, List.not_mem_nil, or_false] at hv; rcases hv with rfl | rfl | rfl | rfl | rfl <;> first | exact ⟨3, rfl, by decide⟩ | exact ⟨2, rfl, by decide⟩ | exact ⟨4, rfl, by decide⟩ | exact ⟨1, rfl, by decide⟩); have htB := A25 hdd)
 (refine B4 rfl (A24 br pb nb cb bs hnb dd (p + 1) Gn ⟨⟨[]⟩⟩ (by omega) (by have hz : (⟨⟨[]⟩⟩ : ByteArray).size ≤ 2 := (by decide); omega) hb (by omega)) (Pk.perm (by repeat (first | exact Pk.here | apply Pk.there))) rfl rfl (fun v G3 outs hle3 hh => ?_); obtain ⟨p3, hp31, hp32, rfl, t3, cells3, rfl, hr3, hs3⟩ := hh; have hl3 := hr3.len; have ho3 := hr3.one; have hc3 := A1J t3; have hv3 := A1I t3 G3 cells3 (by omega) hr3)
 refine sE (C0 rfl) rfl (fun b13 => ?_)
 refine sS rfl rfl rfl hl3 ho3 rfl ?_ (hu := by exact M1 hl3.symm)
 refine sD (nS (tS (tS (tR ?_))))
 refine sL (C4 rfl rfl (E7 (by repeat first | exact mH | apply mT)) hl3) rfl rfl ?_
 refine H7 rfl (hv3) rfl rfl (fun h21 => ?_) (fun h21 => ?_)
 refine sD (nS (qT rfl (tS (tR ?_))))
 refine sL (C4 rfl rfl (E7 (by repeat first | exact mH | apply mT)) hl3) rfl rfl ?_
 refine sS rfl rfl rfl hl3 ho3 rfl ?_ (hu := by exact M1 hl3.symm)
 refine sD (nS (tT (rS ?_)))
 refine B2 (outs := [rd br pb nb cb p3]) (rC rfl (C4 rfl rfl (E7 (by repeat first | exact mH | apply mT)) hl3)) (by repeat (first | exact A2.nil | refine A2.cons Pk.here ?_ | refine A2.cons (Pk.there Pk.here) ?_ | refine A2.cons (Pk.there (Pk.there Pk.here)) ?_ | apply A2.drop)) ?_
 (exact ⟨p3, by omega, by omega, rfl, t3, cells3, rfl, hr3, by omega, by assumption⟩)
 refine sD (nS (cF rfl (tK (nS (tS (tR ?_))))))
 refine J9 rfl ((A1M _ _)) rfl rfl ?_
 refine I8 ?_
 refine sD (nS (tT ?_))
 refine B2 (outs := [rd br pb nb cb p3]) (rC rfl (A7 rfl rfl)) (by repeat (first | exact A2.nil | refine A2.cons Pk.here ?_ | refine A2.cons (Pk.there Pk.here) ?_ | refine A2.cons (Pk.there (Pk.there Pk.here)) ?_ | apply A2.drop)) ?_
 (exact ⟨p3, by omega, by omega, rfl, _, _, rfl, A0e ⟨by omega, by omega⟩ ⟨by omega, by omega⟩, by rw [A0f]; decide, by decide +kernel⟩)
theorem B1u (br : Nat) (pb : Option Addr) (nb cb : Nat) (bs : List UInt8) (hnb : nb ≤ 2000) (p : Nat) (G : IM) (hb : Sl G pb nb cb 1 (K2 bs)) (hp : p + 1200 < 1099511627776) :
  Fn Tryz.prog 50 [.pointer (some ⟨br, 0, none⟩)] [rd br pb nb cb p] G
   (W8 br pb nb cb p 1200 (fun G' v => ∃ t cells, v = .agg ⟨cells⟩ ∧ B6 G' t cells ∧ S9 t ≤ 1043 ∧ N5 t = true)) := by
 refine B5 Tryz.func50 rfl Tryz.ntmps50 Tryz.results50 rfl ?_
 intro w0
 refine tS (tR ?_)
 refine sE (C0 rfl) rfl (fun b3 => ?_)
 refine sD (nS (tS (tS (tR (sQ (qM rfl) rfl ?_)))))
 (refine B4 rfl (W9 _ br pb nb cb p bs _ hb hnb (by omega)) (Pk.perm (by repeat (first | exact Pk.here | apply Pk.there))) rfl rfl (fun v10 G10 outs10 hle10 hh => ?_); obtain ⟨rfl, rfl, j10, rfl, hj10, hk10⟩ := hh)
 replace hb := hb.mono hle10
 refine sB (V8 rfl rfl) rfl rfl (fun h11 => ?_) (fun h11 => ?_)
 refine sD (nS (qT rfl (tS (tR (sQ (qM rfl) rfl ?_)))))
 (refine B4 rfl (B1t br pb nb cb bs hnb (p + 1) _ hb (by omega)) (Pk.perm (by repeat (first | exact Pk.here | apply Pk.there))) rfl rfl (fun v G3 outs hle3 hh => ?_); obtain ⟨p3, hp31, hp32, rfl, t3, cells3, rfl, hr3, hs3, hw3⟩ := hh; have hl3 := hr3.len; have ho3 := hr3.one)
 refine sS rfl rfl rfl hl3 ho3 rfl ?_ (hu := by exact M1 hl3.symm)
 refine sD (nS (tT (rS ?_)))
 refine B2 (outs := [rd br pb nb cb p3]) (rC rfl (C4 rfl rfl (E7 (by repeat first | exact mH | apply mT)) hl3)) (by repeat (first | exact A2.nil | refine A2.cons Pk.here ?_ | refine A2.cons (Pk.there Pk.here) ?_ | refine A2.cons (Pk.there (Pk.there Pk.here)) ?_ | apply A2.drop)) ?_
 (exact ⟨p3, by omega, by omega, rfl, t3, cells3, rfl, hr3, by omega, by assumption⟩)
 refine C2 ?_
 (refine D1 (I4 rfl rfl rfl (by omega) (by unfold maxLen; omega) rfl) rfl ?_; rintro _ ⟨b35, rfl⟩)
 (refine N4 (by repeat (first | exact Pk.here | apply Pk.there)) (fun Gf hlef hslf _ => ?_); refine B4 rfl (X0 Gf br pb nb cb (p + 1) bs _ _ _ _ (hb.mono hlef) hnb (by omega) hslf (by decide)) (Pk.perm (by repeat (first | exact Pk.here | apply Pk.there))) rfl rfl (fun v Gn outs hlen hh => ?_); obtain ⟨rfl, rfl, hv⟩ := hh; replace hb := hb.mono hlef; obtain ⟨dd, rfl, hdd⟩ : ∃ d : Nat, v = .int .i64 ((d + 1 : Nat) : Int) ∧ d ≤ 4 := (by simp only [List.mem_cons, List.not_mem_nil, or_false] at hv; rcases hv with rfl | rfl | rfl <;> first | exact ⟨2, rfl, by decide⟩ | exact ⟨1, rfl, by decide⟩ | exact ⟨3, rfl, by decide⟩); have htB := A25 hdd)
 (refine B4 rfl (A24 br pb nb cb bs hnb dd (p + 1 + 1) Gn ⟨⟨[120, 122]⟩⟩ (by omega) (by have hz : (⟨⟨[120, 122]⟩⟩ : ByteArray).size ≤ 2 := (by decide); omega) hb (by omega)) (Pk.perm (by repeat (first | exact Pk.here | apply Pk.there))) rfl rfl (fun v G3 outs hle3 hh => ?_); obtain ⟨p3, hp31, hp32, rfl, t3, cells3, rfl, hr3, hs3⟩ := hh; have hl3 := hr3.len; have ho3 := hr3.one; have hc3 := A1J t3; have hv3 := A1I t3 G3 cells3 (by omega) hr3)
 refine sE (C0 rfl) rfl (fun b38 => ?_)
 refine sS rfl rfl rfl hl3 ho3 rfl ?_ (hu := by exact M1 hl3.symm)
 refine sD (nS (tS (tS (tR ?_))))
 refine sL (C4 rfl rfl (E7 (by repeat first | exact mH | apply mT)) hl3) rfl rfl ?_
 refine H7 rfl (hv3) rfl rfl (fun h46 => ?_) (fun h46 => ?_)
 refine sD (nS (qT rfl (tS (tR ?_))))
 refine sL (C4 rfl rfl (E7 (by repeat first | exact mH | apply mT)) hl3) rfl rfl ?_
 refine sS rfl rfl rfl hl3 ho3 rfl ?_ (hu := by exact M1 hl3.symm)
 refine sD (nS (tT (rS ?_)))
 refine B2 (outs := [rd br pb nb cb p3]) (rC rfl (C4 rfl rfl (E7 (by repeat first | exact mH | apply mT)) hl3)) (by repeat (first | exact A2.nil | refine A2.cons Pk.here ?_ | refine A2.cons (Pk.there Pk.here) ?_ | refine A2.cons (Pk.there (Pk.there Pk.here)) ?_ | apply A2.drop)) ?_
 (exact ⟨p3, by omega, by omega, rfl, t3, cells3, rfl, hr3, by omega, by assumption⟩)
 refine sD (nS (cF rfl (tK (nS (tS (tR ?_))))))
 refine J9 rfl ((A1M _ _)) rfl rfl ?_
 refine I8 ?_
 refine sD (nS (tT ?_))
 refine B2 (outs := [rd br pb nb cb p3]) (rC rfl (A7 rfl rfl)) (by repeat (first | exact A2.nil | refine A2.cons Pk.here ?_ | refine A2.cons (Pk.there Pk.here) ?_ | refine A2.cons (Pk.there (Pk.there Pk.here)) ?_ | apply A2.drop)) ?_
 (exact ⟨p3, by omega, by omega, rfl, _, _, rfl, A0e ⟨by omega, by omega⟩ ⟨by omega, by omega⟩, by rw [A0f]; decide, by decide +kernel⟩)
theorem T9 : ∀ (ks : List Tm) (i : Nat) (h : i < ks.length), (N0 ks).getD i [] = A3 ks[i]
 | t :: ts, 0, _ => by rw [N0]; rfl
 | t :: ts, i + 1, h => by rw [N0]; exact T9 ts i (by simpa using h)
theorem A7F {k : Int} {nm : ByteArray} {num : Int} {ty fr : Ty} {lb : Int} {ks : List Tm} (hk : k = 5) (h : 1 ≤ ks.length) : A3 (.mk k nm num ty fr lb ks) = ([33] : A0) ++ nm.data.toList ++ ([58] : A0) ++ K6 ty ++ ([46] : A0) ++ A3 (ks[0]'(by omega)) := by
 subst hk
 rw [A3, H6]
 rw [T9 ks 0 (by omega)]
 simp
theorem A7G {k : Int} {nm : ByteArray} {num : Int} {ty fr : Ty} {lb : Int} {ks : List Tm} (hk : k = 6) (h : 2 ≤ ks.length) : A3 (.mk k nm num ty fr lb ks) = ([40] : A0) ++ A3 (ks[0]'(by omega)) ++ ([32] : A0) ++ A3 (ks[1]'(by omega)) ++ ([41] : A0) := by
 subst hk
 rw [A3, H6]
 rw [T9 ks 0 (by omega)]
 rw [T9 ks 1 (by omega)]
 simp
theorem A7H {k : Int} {nm : ByteArray} {num : Int} {ty fr : Ty} {lb : Int} {ks : List Tm} (hk : k = 7) (h : 2 ≤ ks.length) : A3 (.mk k nm num ty fr lb ks) = ([40] : A0) ++ A3 (ks[0]'(by omega)) ++ ([43] : A0) ++ A3 (ks[1]'(by omega)) ++ ([41] : A0) := by
 subst hk
 rw [A3, H6]
 rw [T9 ks 0 (by omega)]
 rw [T9 ks 1 (by omega)]
 simp
theorem A7I {k : Int} {nm : ByteArray} {num : Int} {ty fr : Ty} {lb : Int} {ks : List Tm} (hk : k = 8) (h : 2 ≤ ks.length) : A3 (.mk k nm num ty fr lb ks) = ([40] : A0) ++ A3 (ks[0]'(by omega)) ++ ([60] : A0) ++ A3 (ks[1]'(by omega)) ++ ([41] : A0) := by
 subst hk
 rw [A3, H6]
 rw [T9 ks 0 (by omega)]
 rw [T9 ks 1 (by omega)]
 simp
theorem A7J {k : Int} {nm : ByteArray} {num : Int} {ty fr : Ty} {lb : Int} {ks : List Tm} (hk : k = 9) (h : 3 ≤ ks.length) : A3 (.mk k nm num ty fr lb ks) = ([123] : A0) ++ A3 (ks[0]'(by omega)) ++ ([63] : A0) ++ A3 (ks[1]'(by omega)) ++ ([58] : A0) ++ A3 (ks[2]'(by omega)) ++ ([125] : A0) := by
 subst hk
 rw [A3, H6]
 rw [T9 ks 0 (by omega)]
 rw [T9 ks 1 (by omega)]
 rw [T9 ks 2 (by omega)]
 simp
theorem A7K {k : Int} {nm : ByteArray} {num : Int} {ty fr : Ty} {lb : Int} {ks : List Tm} (hk : k = 10) (h : 2 ≤ ks.length) : A3 (.mk k nm num ty fr lb ks) = ([91] : A0) ++ A3 (ks[0]'(by omega)) ++ ([44] : A0) ++ A3 (ks[1]'(by omega)) ++ ([93] : A0) := by
 subst hk
 rw [A3, H6]
 rw [T9 ks 0 (by omega)]
 rw [T9 ks 1 (by omega)]
 simp
theorem A7L {k : Int} {nm : ByteArray} {num : Int} {ty fr : Ty} {lb : Int} {ks : List Tm} (hk : k = 11) (h : 1 ≤ ks.length) : A3 (.mk k nm num ty fr lb ks) = ([36] : A0) ++ A3 (ks[0]'(by omega)) := by
 subst hk
 rw [A3, H6]
 rw [T9 ks 0 (by omega)]
 simp
theorem A7M {k : Int} {nm : ByteArray} {num : Int} {ty fr : Ty} {lb : Int} {ks : List Tm} (hk : k = 12) (h : 1 ≤ ks.length) : A3 (.mk k nm num ty fr lb ks) = ([37] : A0) ++ A3 (ks[0]'(by omega)) := by
 subst hk
 rw [A3, H6]
 rw [T9 ks 0 (by omega)]
 simp
theorem A7N {k : Int} {nm : ByteArray} {num : Int} {ty fr : Ty} {lb : Int} {ks : List Tm} (hk : k = 13) (h : 1 ≤ ks.length) : A3 (.mk k nm num ty fr lb ks) = ([40] : A0) ++ A3 (ks[0]'(by omega)) ++ ([58] : A0) ++ K6 ty ++ ([41] : A0) := by
 subst hk
 rw [A3, H6]
 rw [T9 ks 0 (by omega)]
 simp
theorem A7O {k : Int} {nm : ByteArray} {num : Int} {ty fr : Ty} {lb : Int} {ks : List Tm} (hk : k = 14) (h : 1 ≤ ks.length) : A3 (.mk k nm num ty fr lb ks) = ([40] : A0) ++ A3 (ks[0]'(by omega)) ++ ([58] : A0) ++ K6 fr ++ ([126] : A0) ++ K6 ty ++ ([35] : A0) ++ Lib.itoa lb ++ ([41] : A0) := by
 subst hk
 rw [A3, H6]
 rw [T9 ks 0 (by omega)]
 simp
theorem A10 {n : Int} (h0 : -999 ≤ n) (h1 : n ≤ 999) : (Lib.itoa n).length ≤ 4 := by
 by_cases hn : n < 0
 ·rw [A4m hn h0]
  have := (A1a (u := n.natAbs) (by omega)).2.2.1
  simp only [List.length_cons]; omega
 ·rw [A2s (by omega) h1]
  have := (A1a (u := n.toNat) (by omega)).2.2.1
  omega
theorem A4S (D N : Int) : ∀ (e : Tm) (d : Int), N7 D N e d = true → (A3 e).length ≤ 100 * D4 e := by
 refine Tm.ind fun k nm num ty fr lb ks ih d h => ?_
 obtain ⟨hd, _, h3, h4⟩ := A1o h
 have I : ∀ x ∈ ks, (A3 x).length ≤ 100 * D4 x := fun x hx => by
  obtain ⟨i, hi, rfl⟩ := List.getElem_of_mem hx
  exact ih _ (List.getElem_mem hi) (d + 1) ((A0O D N ks _).1 h4 i hi)
 have hf := A4o h3
 have e0 : ∀ x : Tm, x = .mk k nm num ty fr lb ks → x.ks = ks := fun x hx => by rw [hx]; rfl
 generalize hX : Tm.mk k nm num ty fr lb ks = X at hf e0 ⊢
 have I : ∀ x ∈ X.ks, (A3 x).length ≤ 100 * D4 x := by rw [e0 X rfl]; exact I
 clear h h3 h4 hd ih e0 hX
 cases hf with
 | var b h1 h2 => simp [A3, H6, D4, H0]
 | num n h1 h2 =>
  have := A10 (n := n) (by omega) h2
  simp [A3, H6, D4, H0]; omega
 | tru => simp [A3, H6, nd, D4, H0]
 | fls => simp [A3, H6, nd, D4, H0]
 | lam b ty a h1 h2 ht =>
  have ha := I a (by simp [Tm.ks])
  have hl := T0 ht (Int.le_refl _)
  simp [A3, N0, H6, D4, H0]; omega
 | bin k a b hk =>
  have ha := I a (by simp [Tm.ks, nd])
  have hb := I b (by simp [Tm.ks, nd])
  rcases hk with rfl | rfl | rfl <;> (simp [A3, N0, H6, nd, D4, H0]; omega)
 | ite a b c =>
  have ha := I a (by simp [Tm.ks, nd])
  have hb := I b (by simp [Tm.ks, nd])
  have hc := I c (by simp [Tm.ks, nd])
  simp [A3, N0, H6, nd, D4, H0]; omega
 | pair a b =>
  have ha := I a (by simp [Tm.ks, nd])
  have hb := I b (by simp [Tm.ks, nd])
  simp [A3, N0, H6, nd, D4, H0]; omega
 | un k a hk =>
  have ha := I a (by simp [Tm.ks, nd])
  rcases hk with rfl | rfl <;> (simp [A3, N0, H6, nd, D4, H0]; omega)
 | asc ty a ht =>
  have ha := I a (by simp [Tm.ks])
  have hl := T0 ht (Int.le_refl _)
  simp [A3, N0, H6, D4, H0]; omega
 | cast ty fr lb a ht hf hl1 hl2 =>
  have ha := I a (by simp [Tm.ks])
  have hl := T0 ht (Int.le_refl _)
  have hl' := T0 hf (Int.le_refl _)
  have := A10 hl1 hl2
  simp [A3, N0, H6, D4, H0]; omega
theorem A3o {ks : List Tm} {i : Nat} (h : i < ks.length) : D4 ks[i] ≤ H0 ks := by
 have h1 := A6o ks (i + 1)
 rw [A6n h] at h1
 omega
theorem A3p {cs : List Value} {o : Nat} {u v : Value} (h : cs[o]? = some u) (h2 : cs[o + 1]? = some v) : ∀ j w, [u, v][j]? = some w → cs[o + j]? = some w := by
 intro j w hj
 match j, hj with
 | 0, hj => simpa using hj ▸ h
 | 1, hj => simpa using hj ▸ h2
 | j + 2, hj => simp at hj
theorem A7P (n : Int) (G : IM) (h : A0t G) (h0 : -999 ≤ n) (h1 : n ≤ 999) : Fn Tryz.prog 85 [.int .i64 n] [] G (J8 (.string (B3 (Lib.itoa n))) G) := by
 refine ⟨fun w hw => ?_⟩
 have ht : Lib.TabIs Tryz.prog w "internal/strconv.uint64pow10" .u64 Lib.pow10Tab := by
  obtain ⟨g, hg, hG⟩ := h
  obtain ⟨e, f, hh⟩ := hw.inn g _ hG
  unfold Lib.TabIs World.var?
  rw [hg]
  simp only [Option.bind_some, hh]
 refine (Tryz.strconv_Itoa n (by omega) (by omega) w ht).mono ?_
 rintro e w' ⟨rfl, k, os, rfl⟩
 exact ⟨_, G, [], rfl, A88 hw k os, rfl, rfl, rfl⟩
def A1w (l : A0) : IM → Value → List A1 → Prop := I1 fun _ v => v = .string (B3 l)
theorem B1v (b1 : Nat) (i : Nat) (G : IM) (bo oo cc n : Nat) (v0 v1 v2 v3 v4 v5 v6 v7 : Value) (e : List Value) (l : A0) (hb : G b1 = some [v0, v1, v2, v3, v4, v5, v6, v7, .slice (some ⟨bo, oo, none⟩) n cc]) (hi : i < n) (hn : n ≤ 100) (hl : e.length = 9) (hat : ∀ hp, At hp G bo (oo + i * 9) e)
  (ih : Fn Tryz.prog 40 [.agg ⟨e⟩] [] G (A1w l)) : Fn Tryz.prog 84 [.int .i64 (i : Int), .pointer (some ⟨b1, 0, none⟩)] [] G (A1w l) := by
 refine B5 Tryz.func84 rfl Tryz.ntmps84 Tryz.results84 rfl ?_
 intro w0
 refine E0 ?_
 refine sL (J2 rfl rfl (M6 hb (A1l rfl))) rfl rfl ?_
 refine sQ (qM rfl) rfl ?_
 refine sP (L9 (j := i) rfl rfl rfl (by omega)) rfl rfl ?_
 refine sL (C4 rfl rfl (hat _) hl) rfl rfl ?_
 (refine L5 rfl ih rfl rfl (fun v G3 hle3 hh => ?_); subst hh)
 refine sQ (qA rfl) rfl (sD (nS (tT (F0 (rT rfl) ?_))))
 (exact ⟨rfl, rfl⟩)
theorem A7Q (D N : Int) : ∀ (e : Tm) (d : Int) (G : IM) (cells : List Value), N7 D N e d = true → D4 e ≤ 100000 → A0t G → B6 G e cells → Fn Tryz.prog 40 [.agg ⟨cells⟩] [] G (A1w (A3 e)) := by
 refine Tm.ind fun k nm num ty fr lb ks ih d G cells hs hcnt hT hr => ?_
 obtain ⟨hd, _, h3, h4⟩ := A1o hs
 have hvk := (A0O D N ks _).1 h4
 obtain ⟨n1, n2, n3, n4, n5, n6, n7, n8, n9⟩ := A1G.1 h3
 rw [D4] at hcnt
 have hTl : ∀ i (h : i < ks.length), (A3 ks[i]).length ≤ 10000000 := fun i h => by
  have h1 := A4S D N ks[i] _ (hvk i h)
  have h2 := A3o h
  omega
 have hL1 : k = 5 ∨ k = 11 ∨ k = 12 ∨ k = 13 ∨ k = 14 → ks.length = 1 := fun h => by
  have : J3 k = 1 := by rcases h with rfl | rfl | rfl | rfl | rfl <;> rfl
  omega
 have hL2 : k = 6 ∨ k = 7 ∨ k = 8 ∨ k = 10 → ks.length = 2 := fun h => by
  have : J3 k = 2 := by rcases h with rfl | rfl | rfl | rfl <;> rfl
  omega
 have hL3 : k = 9 → ks.length = 3 := fun h => by
  have : J3 k = 3 := by subst h; rfl
  omega
 have hkk : 1 ≤ k ∧ k ≤ 14 ∧ ks.length ≤ 3 := by
  unfold J3 at n1
  repeat' split at n1
  all_goals omega
 have hnumr : k = 2 → 0 ≤ num ∧ num ≤ 999 := fun h => A0q (n4 h)
 have hvt : k = 5 ∨ k = 13 ∨ k = 14 → H5 ty 1 = true := n6
 have hvf : k = 14 → H5 fr 1 = true := fun h => by
  have := (n8 h).1
  unfold A0r at this
  simp only [Bool.and_eq_true] at this
  exact this.1.1
 have hvl : k = 14 → -999 ≤ lb ∧ lb ≤ 999 := fun h => by
  have := (n8 h).2
  unfold A0c at this
  rw [Bool.or_eq_true] at this
  rcases this with h | h <;> have := A0q h <;> omega
 have hnl : (k = 1 ∨ k = 5 → nm.size = 1) := fun h => by rw [(A3e (n2 h)).1]; rfl
 obtain ⟨nl, rfl⟩ : ∃ nl, nm = B3 nl := ⟨_, (A4v nm).symm⟩
 rw [I6] at hnl
 obtain ⟨tk, tks⟩ := ty
 obtain ⟨fk, fks⟩ := fr
 obtain ⟨pt, ct, pf, cf, p, c, es, rfl, hk, hnum, hlb, hty, hfr, hsl, hkl⟩ := hr.open9
 have hkid : ∀ (b1 : Nat) (G' : IM), A9 G G' → G' b1 = some [.int .i64 k, .string (B3 nl), .int .i64 num, .int .i64 tk, .slice pt tks.length ct, .int .i64 fk, .slice pf fks.length cf, .int .i64 lb, .slice p ks.length c] → ∀ (i : Nat) (hi : i < ks.length) (G2 : IM), A9 G' G2 → Fn Tryz.prog 84 ([] ++ [.int .i64 (i : Int)] ++ [.pointer (some ⟨b1, 0, none⟩)]) [] G2 (A1w (A3 ks[i])) := fun b1 G' hle hb i hi G2 hle2 => by
  obtain ⟨bo, oo, e, rfl, hel, hat, hre, hgb⟩ := ((hsl.mono hle).mono hle2).kidTm ((hkl.mono hle).mono hle2) (i := i) hi hi
  exact B1v b1 i G2 bo oo c ks.length _ _ _ _ _ _ _ _ e _ (hle2 _ _ hb) hi (by omega) hel hat (ih ks[i] (List.getElem_mem hi) (d + 1) G2 e (hvk i hi) (by have := A3o hi; omega) ((hT.mono hle).mono hle2) hre)
 refine B5 Tryz.func40 rfl Tryz.ntmps40 Tryz.results40 rfl ?_
 intro w0
 refine tS (tR ?_)
 refine sE (K0 rfl rfl) rfl (fun b3 => ?_)
 refine sQ (qA rfl) rfl (sD (nS (tS ?_)))
 (refine A5r (bs := [(b3, [.int .i64 k, .string (B3 nl), .int .i64 num, .int .i64 tk, .slice pt tks.length ct, .int .i64 fk, .slice pf fks.length cf, .int .i64 lb, .slice p ks.length c])]) (Pk.perm (by repeat (first | exact Pk.here | apply Pk.there))) (fun hf1 hf2 hle0 => ?_); have hb1 : Wi G [(b3, [.int .i64 k, .string (B3 nl), .int .i64 num, .int .i64 tk, .slice pt tks.length ct, .int .i64 fk, .slice pf fks.length cf, .int .i64 lb, .slice p ks.length c])] b3 = some [.int .i64 k, .string (B3 nl), .int .i64 num, .int .i64 tk, .slice pt tks.length ct, .int .i64 fk, .slice pf fks.length cf, .int .i64 lb, .slice p ks.length c] := Wi.in hf1 List.mem_cons_self; generalize Wi G [(b3, [.int .i64 k, .string (B3 nl), .int .i64 num, .int .i64 tk, .slice pt tks.length ct, .int .i64 fk, .slice pf fks.length cf, .int .i64 lb, .slice p ks.length c])] = G0 at hle0 hb1 ⊢; have hT0 := hT.mono hle0; have hty0 := hty.mono hle0; have hfr0 := hfr.mono hle0; have hK := hkid _ G0 hle0 hb1)
 refine tR ?_
 refine sQ (A0l rfl rfl) rfl ?_
 refine B8 ?_
 refine sL (J2 rfl rfl (M6 hb1 (A1l rfl))) rfl rfl ?_
 refine sD (nS ?_)
 refine D2 (tS (tR (sB (qE rfl rfl) rfl rfl (fun h24 => ?_) (fun h24 => ?_))))
 refine B8 ?_
 refine sL (J2 rfl rfl (M6 hb1 (A1l rfl))) rfl rfl ?_
 refine sQ (qA rfl) rfl (sD (nS (tT (rB (rS (F0 (rT rfl) ?_))))))
 (have hk1 : k = 1 := (by omega); exact ⟨rfl, by rw [A3, H6, if_pos hk1]; rfl⟩)
 refine sQ (qA rfl) rfl (sD (nS (cF rfl (tS (tR ?_)))))
 refine sB (qE rfl rfl) rfl rfl (fun h47 => ?_) (fun h47 => ?_)
 refine B8 ?_
 refine sL (J2 rfl rfl (M6 hb1 (A1l rfl))) rfl rfl ?_
 refine J9 rfl ((A7P num _ hT0 (by have := hnumr; omega) (by have := hnumr; omega))) rfl rfl ?_
 refine sQ (qA rfl) rfl (sD (nS (tT (rB (rS (F0 (rT rfl) ?_))))))
 (have hk1 : k = 2 := (by omega); exact ⟨rfl, by rw [A3, H6, if_neg (by omega), if_pos hk1]⟩)
 refine sQ (qA rfl) rfl (sD (nS (cF rfl (tS (tR ?_)))))
 refine sB (qE rfl rfl) rfl rfl (fun h71 => ?_) (fun h71 => ?_)
 refine H3 ?_
 (have hk1 : k = 3 := (by omega); subst hk1; exact ⟨rfl, rfl⟩)
 refine sQ (qA rfl) rfl (sD (nS (cF rfl (tS (tR ?_)))))
 refine sB (qE rfl rfl) rfl rfl (fun h92 => ?_) (fun h92 => ?_)
 refine H3 ?_
 (have hk1 : k = 4 := (by omega); subst hk1; exact ⟨rfl, rfl⟩)
 refine sQ (qA rfl) rfl (sD (nS (cF rfl (tS (tR ?_)))))
 refine sB (qE rfl rfl) rfl rfl (fun h113 => ?_) (fun h113 => ?_)
 refine sQ (qA rfl) rfl (sD (nS (qT rfl (tS ?_))))
 refine I7 J0 rfl ?_
 refine H2 (i := 0) (l' := [tt,ff,ff,ff,ff,ff,ff,ff,ff,ff,ff,ff,ff]) rfl E8 (A5 rfl) rfl (by kernel_rfl) rfl rfl ?_
 refine aL 1 rfl (J2 rfl rfl (M6 hb1 (A1l rfl))) rfl ?_
 refine aP 2 rfl (B9 rfl rfl (by simp only [List.length_append, List.length_cons, List.length_nil]; omega)) rfl ?_
 refine aP 3 rfl (B9 rfl rfl (by simp only [List.length_append, List.length_cons, List.length_nil]; omega)) rfl ?_
 refine aP 4 rfl (A5 rfl) rfl ?_
 refine aL 5 rfl (C4 rfl rfl (M6 hb1 (A3p rfl rfl)) rfl) rfl ?_
 refine aP 9 rfl (qM rfl) rfl ?_
 refine A8 6 ?_
 (refine M3 rfl rfl (A3m (.mk tk tks) 1 _ _ (hvt (by omega)) (by omega) (by first | exact hty0 | exact hty0.mono hle7)) rfl rfl rfl ?_; have hlt := T0 (hvt (by omega)) (Int.le_refl _))
 refine aP 7 rfl (B9 rfl rfl (by simp only [List.length_append, List.length_cons, List.length_nil]; omega)) rfl ?_
 refine aP 8 rfl (B9 rfl rfl (by simp only [List.length_append, List.length_cons, List.length_nil]; omega)) rfl ?_
 refine A8 10 ?_
 (have hi0 : 0 < ks.length := (by omega); refine T4 rfl (N9 (ins := []) rfl rfl (hK 0 hi0 _ (A9.refl _)) (List.Perm.refl _) rfl) rfl rfl ?_; rintro _ ⟨v, G7, outs, rfl, hle7, rfl, rfl⟩; have hTl0 := hTl 0 hi0)
 refine aP 11 rfl (B9 rfl rfl (by simp only [List.length_append, List.length_cons, List.length_nil]; omega)) rfl ?_
 refine aP 12 rfl (qA rfl) rfl ?_
 refine M7 (nS (tT (rB (rS (F0 (rT rfl) ?_)))))
 (have hk1 : k = 5 := (by omega); exact ⟨rfl, by rw [A7F hk1 (by omega)] <;> rfl⟩)
 refine sQ (qA rfl) rfl (sD (nS (cF rfl (tS (tR ?_)))))
 refine sB (qE rfl rfl) rfl rfl (fun h148 => ?_) (fun h148 => ?_)
 refine B8 ?_
 (have hi0 : 0 < ks.length := (by omega); refine D1 (N9 rfl rfl (hK 0 hi0 _ (A9.refl _)) (List.Perm.refl _) rfl) rfl ?_; rintro _ ⟨v, G7, outs, rfl, hle7, rfl, rfl⟩; have hTl0 := hTl 0 hi0)
 refine sP (B9 rfl rfl (by simp only [List.length_append, List.length_cons, List.length_nil]; omega)) rfl rfl ?_
 refine sP (B9 rfl rfl (by simp only [List.length_append, List.length_cons, List.length_nil]; omega)) rfl rfl ?_
 refine sQ (qM rfl) rfl ?_
 (have hi1 : 1 < ks.length := (by omega); refine D1 (N9 rfl rfl (hK 1 hi1 _ hle7) (List.Perm.refl _) rfl) rfl ?_; rintro _ ⟨v, G8, outs, rfl, hle8, rfl, rfl⟩; have hTl1 := hTl 1 hi1)
 refine sP (B9 rfl rfl (by simp only [List.length_append, List.length_cons, List.length_nil]; omega)) rfl rfl ?_
 refine sP (B9 rfl rfl (by simp only [List.length_append, List.length_cons, List.length_nil]; omega)) rfl rfl ?_
 refine sQ (qA rfl) rfl (sD (nS (tT (rB (rS (F0 (rT rfl) ?_))))))
 (have hk1 : k = 6 := (by omega); exact ⟨rfl, by rw [A7G hk1 (by omega)] <;> rfl⟩)
 refine sQ (qA rfl) rfl (sD (nS (cF rfl (tS (tR ?_)))))
 refine sB (qE rfl rfl) rfl rfl (fun h177 => ?_) (fun h177 => ?_)
 refine B8 ?_
 (have hi0 : 0 < ks.length := (by omega); refine D1 (N9 rfl rfl (hK 0 hi0 _ (A9.refl _)) (List.Perm.refl _) rfl) rfl ?_; rintro _ ⟨v, G7, outs, rfl, hle7, rfl, rfl⟩; have hTl0 := hTl 0 hi0)
 refine sP (B9 rfl rfl (by simp only [List.length_append, List.length_cons, List.length_nil]; omega)) rfl rfl ?_
 refine sP (B9 rfl rfl (by simp only [List.length_append, List.length_cons, List.length_nil]; omega)) rfl rfl ?_
 refine sQ (qM rfl) rfl ?_
 (have hi1 : 1 < ks.length := (by omega); refine D1 (N9 rfl rfl (hK 1 hi1 _ hle7) (List.Perm.refl _) rfl) rfl ?_; rintro _ ⟨v, G8, outs, rfl, hle8, rfl, rfl⟩; have hTl1 := hTl 1 hi1)
 refine sP (B9 rfl rfl (by simp only [List.length_append, List.length_cons, List.length_nil]; omega)) rfl rfl ?_
 refine sP (B9 rfl rfl (by simp only [List.length_append, List.length_cons, List.length_nil]; omega)) rfl rfl ?_
 refine sQ (qA rfl) rfl (sD (nS (tT (rB (rS (F0 (rT rfl) ?_))))))
 (have hk1 : k = 7 := (by omega); exact ⟨rfl, by rw [A7H hk1 (by omega)] <;> rfl⟩)
 refine sQ (qA rfl) rfl (sD (nS (cF rfl (tS (tR ?_)))))
 refine sB (qE rfl rfl) rfl rfl (fun h206 => ?_) (fun h206 => ?_)
 refine B8 ?_
 (have hi0 : 0 < ks.length := (by omega); refine D1 (N9 rfl rfl (hK 0 hi0 _ (A9.refl _)) (List.Perm.refl _) rfl) rfl ?_; rintro _ ⟨v, G7, outs, rfl, hle7, rfl, rfl⟩; have hTl0 := hTl 0 hi0)
 refine sP (B9 rfl rfl (by simp only [List.length_append, List.length_cons, List.length_nil]; omega)) rfl rfl ?_
 refine sP (B9 rfl rfl (by simp only [List.length_append, List.length_cons, List.length_nil]; omega)) rfl rfl ?_
 refine sQ (qM rfl) rfl ?_
 (have hi1 : 1 < ks.length := (by omega); refine D1 (N9 rfl rfl (hK 1 hi1 _ hle7) (List.Perm.refl _) rfl) rfl ?_; rintro _ ⟨v, G8, outs, rfl, hle8, rfl, rfl⟩; have hTl1 := hTl 1 hi1)
 refine sP (B9 rfl rfl (by simp only [List.length_append, List.length_cons, List.length_nil]; omega)) rfl rfl ?_
 refine sP (B9 rfl rfl (by simp only [List.length_append, List.length_cons, List.length_nil]; omega)) rfl rfl ?_
 refine sQ (qA rfl) rfl (sD (nS (tT (rB (rS (F0 (rT rfl) ?_))))))
 (have hk1 : k = 8 := (by omega); exact ⟨rfl, by rw [A7I hk1 (by omega)] <;> rfl⟩)
 refine sQ (qA rfl) rfl (sD (nS (cF rfl (tS (tR ?_)))))
 refine sB (qE rfl rfl) rfl rfl (fun h235 => ?_) (fun h235 => ?_)
 refine B8 ?_
 (have hi0 : 0 < ks.length := (by omega); refine D1 (N9 rfl rfl (hK 0 hi0 _ (A9.refl _)) (List.Perm.refl _) rfl) rfl ?_; rintro _ ⟨v, G7, outs, rfl, hle7, rfl, rfl⟩; have hTl0 := hTl 0 hi0)
 refine sP (B9 rfl rfl (by simp only [List.length_append, List.length_cons, List.length_nil]; omega)) rfl rfl ?_
 refine sP (B9 rfl rfl (by simp only [List.length_append, List.length_cons, List.length_nil]; omega)) rfl rfl ?_
 refine sQ (qM rfl) rfl ?_
 (have hi1 : 1 < ks.length := (by omega); refine D1 (N9 rfl rfl (hK 1 hi1 _ hle7) (List.Perm.refl _) rfl) rfl ?_; rintro _ ⟨v, G8, outs, rfl, hle8, rfl, rfl⟩; have hTl1 := hTl 1 hi1)
 refine sP (B9 rfl rfl (by simp only [List.length_append, List.length_cons, List.length_nil]; omega)) rfl rfl ?_
 refine sP (B9 rfl rfl (by simp only [List.length_append, List.length_cons, List.length_nil]; omega)) rfl rfl ?_
 refine sQ (qM rfl) rfl ?_
 (have hi2 : 2 < ks.length := (by omega); refine D1 (N9 rfl rfl (hK 2 hi2 _ (hle7.trans hle8)) (List.Perm.refl _) rfl) rfl ?_; rintro _ ⟨v, G9, outs, rfl, hle9, rfl, rfl⟩; have hTl2 := hTl 2 hi2)
 refine sP (B9 rfl rfl (by simp only [List.length_append, List.length_cons, List.length_nil]; omega)) rfl rfl ?_
 refine sP (B9 rfl rfl (by simp only [List.length_append, List.length_cons, List.length_nil]; omega)) rfl rfl ?_
 refine sQ (qA rfl) rfl (sD (nS (tT (rB (rS (F0 (rT rfl) ?_))))))
 (have hk1 : k = 9 := (by omega); exact ⟨rfl, by rw [A7J hk1 (by omega)] <;> rfl⟩)
 refine sQ (qA rfl) rfl (sD (nS (cF rfl (tS (tR ?_)))))
 refine sB (qE rfl rfl) rfl rfl (fun h268 => ?_) (fun h268 => ?_)
 refine B8 ?_
 (have hi0 : 0 < ks.length := (by omega); refine D1 (N9 rfl rfl (hK 0 hi0 _ (A9.refl _)) (List.Perm.refl _) rfl) rfl ?_; rintro _ ⟨v, G7, outs, rfl, hle7, rfl, rfl⟩; have hTl0 := hTl 0 hi0)
 refine sP (B9 rfl rfl (by simp only [List.length_append, List.length_cons, List.length_nil]; omega)) rfl rfl ?_
 refine sP (B9 rfl rfl (by simp only [List.length_append, List.length_cons, List.length_nil]; omega)) rfl rfl ?_
 refine sQ (qM rfl) rfl ?_
 (have hi1 : 1 < ks.length := (by omega); refine D1 (N9 rfl rfl (hK 1 hi1 _ hle7) (List.Perm.refl _) rfl) rfl ?_; rintro _ ⟨v, G8, outs, rfl, hle8, rfl, rfl⟩; have hTl1 := hTl 1 hi1)
 refine sP (B9 rfl rfl (by simp only [List.length_append, List.length_cons, List.length_nil]; omega)) rfl rfl ?_
 refine sP (B9 rfl rfl (by simp only [List.length_append, List.length_cons, List.length_nil]; omega)) rfl rfl ?_
 refine sQ (qA rfl) rfl (sD (nS (tT (rB (rS (F0 (rT rfl) ?_))))))
 (have hk1 : k = 10 := (by omega); exact ⟨rfl, by rw [A7K hk1 (by omega)] <;> rfl⟩)
 refine sQ (qA rfl) rfl (sD (nS (cF rfl (tS (tR ?_)))))
 refine sB (qE rfl rfl) rfl rfl (fun h297 => ?_) (fun h297 => ?_)
 refine B8 ?_
 (have hi0 : 0 < ks.length := (by omega); refine D1 (N9 rfl rfl (hK 0 hi0 _ (A9.refl _)) (List.Perm.refl _) rfl) rfl ?_; rintro _ ⟨v, G7, outs, rfl, hle7, rfl, rfl⟩; have hTl0 := hTl 0 hi0)
 refine sP (B9 rfl rfl (by simp only [List.length_append, List.length_cons, List.length_nil]; omega)) rfl rfl ?_
 refine sQ (qA rfl) rfl (sD (nS (tT (rB (rS (F0 (rT rfl) ?_))))))
 (have hk1 : k = 11 := (by omega); exact ⟨rfl, by rw [A7L hk1 (by omega)] <;> rfl⟩)
 refine sQ (qA rfl) rfl (sD (nS (cF rfl (tS (tR ?_)))))
 refine sB (qE rfl rfl) rfl rfl (fun h321 => ?_) (fun h321 => ?_)
 refine B8 ?_
 (have hi0 : 0 < ks.length := (by omega); refine D1 (N9 rfl rfl (hK 0 hi0 _ (A9.refl _)) (List.Perm.refl _) rfl) rfl ?_; rintro _ ⟨v, G7, outs, rfl, hle7, rfl, rfl⟩; have hTl0 := hTl 0 hi0)
 refine sP (B9 rfl rfl (by simp only [List.length_append, List.length_cons, List.length_nil]; omega)) rfl rfl ?_
 refine sQ (qA rfl) rfl (sD (nS (tT (rB (rS (F0 (rT rfl) ?_))))))
 (have hk1 : k = 12 := (by omega); exact ⟨rfl, by rw [A7M hk1 (by omega)] <;> rfl⟩)
 refine sQ (qA rfl) rfl (sD (nS (cF rfl (tS (tR ?_)))))
 refine sB (qE rfl rfl) rfl rfl (fun h345 => ?_) (fun h345 => ?_)
 refine sQ (qA rfl) rfl (sD (nS (qT rfl (tS ?_))))
 refine I7 J0 rfl ?_
 refine H2 (i := 0) (l' := [tt,ff,ff,ff,ff,ff,ff,ff,ff,ff]) rfl E8 (qM rfl) rfl (by kernel_rfl) rfl rfl ?_
 refine aP 4 rfl (A5 rfl) rfl ?_
 refine aL 5 rfl (C4 rfl rfl (M6 hb1 (A3p rfl rfl)) rfl) rfl ?_
 refine A8 1 ?_
 (have hi0 : 0 < ks.length := (by omega); refine T4 rfl (N9 (ins := []) rfl rfl (hK 0 hi0 _ (A9.refl _)) (List.Perm.refl _) rfl) rfl rfl ?_; rintro _ ⟨v, G7, outs, rfl, hle7, rfl, rfl⟩; have hTl0 := hTl 0 hi0)
 refine aP 2 rfl (B9 rfl rfl (by simp only [List.length_append, List.length_cons, List.length_nil]; omega)) rfl ?_
 refine aP 3 rfl (B9 rfl rfl (by simp only [List.length_append, List.length_cons, List.length_nil]; omega)) rfl ?_
 refine A8 6 ?_
 (refine M3 rfl rfl (A3m (.mk tk tks) 1 _ _ (hvt (by omega)) (by omega) (by first | exact hty0 | exact hty0.mono hle7)) rfl rfl rfl ?_; have hlt := T0 (hvt (by omega)) (Int.le_refl _))
 refine aP 7 rfl (B9 rfl rfl (by simp only [List.length_append, List.length_cons, List.length_nil]; omega)) rfl ?_
 refine aP 8 rfl (B9 rfl rfl (by simp only [List.length_append, List.length_cons, List.length_nil]; omega)) rfl ?_
 refine aP 9 rfl (qA rfl) rfl ?_
 refine M7 (nS (tT (rB (rS (F0 (rT rfl) ?_)))))
 (have hk1 : k = 13 := (by omega); exact ⟨rfl, by rw [A7N hk1 (by omega)] <;> rfl⟩)
 refine E0 ?_
 refine I7 J0 rfl ?_
 refine H2 (i := 0) (l' := [tt,ff,ff,ff,ff,ff,ff,ff,ff,ff,ff,ff,ff,ff,ff,ff,ff,ff,ff,ff]) rfl E8 (qM rfl) rfl (by kernel_rfl) rfl rfl ?_
 refine aP 4 rfl (A5 rfl) rfl ?_
 refine aL 5 rfl (C4 rfl rfl (M6 hb1 (A3p rfl rfl)) rfl) rfl ?_
 refine aP 9 rfl (A5 rfl) rfl ?_
 refine aL 10 rfl (C4 rfl rfl (M6 hb1 (A3p rfl rfl)) rfl) rfl ?_
 refine aP 14 rfl (A5 rfl) rfl ?_
 refine aL 15 rfl (J2 rfl rfl (M6 hb1 (A1l rfl))) rfl ?_
 refine A8 1 ?_
 (have hi0 : 0 < ks.length := (by omega); refine T4 rfl (N9 (ins := []) rfl rfl (hK 0 hi0 _ (A9.refl _)) (List.Perm.refl _) rfl) rfl rfl ?_; rintro _ ⟨v, G7, outs, rfl, hle7, rfl, rfl⟩; have hTl0 := hTl 0 hi0)
 refine aP 2 rfl (B9 rfl rfl (by simp only [List.length_append, List.length_cons, List.length_nil]; omega)) rfl ?_
 refine aP 3 rfl (B9 rfl rfl (by simp only [List.length_append, List.length_cons, List.length_nil]; omega)) rfl ?_
 refine A8 6 ?_
 (refine M3 rfl rfl (A3m (.mk fk fks) 1 _ _ (hvf (by omega)) (by omega) (by first | exact hfr0 | exact hfr0.mono hle7)) rfl rfl rfl ?_; have hlf := T0 (hvf (by omega)) (Int.le_refl _))
 refine aP 7 rfl (B9 rfl rfl (by simp only [List.length_append, List.length_cons, List.length_nil]; omega)) rfl ?_
 refine aP 8 rfl (B9 rfl rfl (by simp only [List.length_append, List.length_cons, List.length_nil]; omega)) rfl ?_
 refine A8 11 ?_
 (refine M3 rfl rfl (A3m (.mk tk tks) 1 _ _ (hvt (by omega)) (by omega) (by first | exact hty0 | exact hty0.mono hle7)) rfl rfl rfl ?_; have hlt := T0 (hvt (by omega)) (Int.le_refl _))
 refine aP 12 rfl (B9 rfl rfl (by simp only [List.length_append, List.length_cons, List.length_nil]; omega)) rfl ?_
 refine aP 13 rfl (B9 rfl rfl (by simp only [List.length_append, List.length_cons, List.length_nil]; omega)) rfl ?_
 refine A8 16 ?_
 (have hlab := hvl (by omega); refine M3 rfl rfl (A7P lb _ (by first | exact hT0 | exact hT0.mono hle7) hlab.1 hlab.2) rfl rfl rfl ?_; have hll := A10 hlab.1 hlab.2)
 refine aP 17 rfl (B9 rfl rfl (by simp only [List.length_append, List.length_cons, List.length_nil]; omega)) rfl ?_
 refine aP 18 rfl (B9 rfl rfl (by simp only [List.length_append, List.length_cons, List.length_nil]; omega)) rfl ?_
 refine aP 19 rfl (qA rfl) rfl ?_
 refine M7 (nS (tT (F0 (rT rfl) ?_)))
 (have hk1 : k = 14 := (by omega); exact ⟨rfl, by rw [A7O hk1 (by omega)] <;> rfl⟩)
def I2 (L : A0) (m : Option (Tm × A0)) : IM → Value → List A1 → Prop := I1 fun G' v => ∃ t cells next, v = .tuple ⟨[.agg ⟨cells⟩, .int .i64 next]⟩ ∧ B6 G' t cells ∧ A4O L m t next
theorem I2.no {L : A0} {m : Option (Tm × A0)} {G : IM} (h : m = none) : I2 L m G (.tuple ⟨[.agg ⟨[.int .i64 0, .string ⟨⟨[]⟩⟩, .int .i64 0, .int .i64 0, .slice none 0 0, .int .i64 0, .slice none 0 0, .int .i64 0, .slice none 0 0]⟩, .int .i64 (-1)]⟩) [] :=
 ⟨rfl, _, _, _, rfl, A1O (k := 0) (ks := []) (es := []) ⟨by decide, by decide⟩ rfl (D0.nil _ _) rfl, .inl ⟨h, rfl⟩⟩
theorem I2.yes {L : A0} {m : Option (Tm × A0)} {G : IM} {t : Tm} {cells : List Value} {nx : Nat} (hr : B6 G t cells) (h : m = some (t, L.drop nx)) (hn : nx ≤ L.length) : I2 L m G (.tuple ⟨[.agg ⟨cells⟩, .int .i64 (nx : Int)]⟩) [] := ⟨rfl, t, cells, _, rfl, hr, .inr ⟨nx, h, rfl, hn⟩⟩
theorem I2.noT {L : A0} {m : Option (Tm × A0)} {G : IM} {t : Tm} {cells : List Value} (hr : B6 G t cells) (h : m = none) : I2 L m G (.tuple ⟨[.agg ⟨cells⟩, .int .i64 (-1)]⟩) [] := ⟨rfl, t, cells, _, rfl, hr, .inl ⟨h, rfl⟩⟩
def A3q (L : A0) (n : Nat) : Prop := ∀ (a : Nat) (G : IM), a ≤ L.length → Fn Tryz.prog 51 [.string (B3 L), .int .i64 (a : Int), .int .i64 (n : Int)] [] G (I2 L (E1 n (L.drop a)))
theorem X3 {G : IM} {t : Tm} {cells : List Value} (h : B6 G t cells) : ∃ x1 x2 x3 x4 x5 x6 x7 x8 x9, cells = [x1, x2, x3, x4, x5, x6, x7, x8, x9] := by
 obtain ⟨_, _, _, _, _, _, _, _, _, rfl, _⟩ := h.open; exact ⟨_, _, _, _, _, _, _, _, _, rfl⟩
theorem D3.snoc2 {G : IM} : ∀ {ts : List Tm} {es : List (List Value)} {t : Tm} {e : List Value}, D3 G ts es → B6 G t e → D3 G (ts ++ [t]) (es ++ [e])
 | [], es, t, e, h, h2 => by
  simp only [D3] at h
  subst h
  simp only [List.nil_append, D3]
  exact ⟨e, [], rfl, h2, rfl⟩
 | t' :: ts, es, t, e, h, h2 => by
  simp only [D3] at h
  obtain ⟨a, r, rfl, h3, h4⟩ := h
  simp only [List.cons_append, D3]
  exact ⟨a, r ++ [e], rfl, h3, D3.snoc2 h4 h2⟩
section ix
variable {P : Program} {Γ : F8} {env : H1} {hp : List A1} {G : IM} {ty : TypeId}
theorem Z4 {x y : Operand} {t : TypeId} {i : J4} [hI : E6 P t i] (hd : i.desc = .string) {l : A0} {k : IntKind} {j : Nat} {c : UInt8}
  (hx : evo env x = some (.string (B3 l))) (hy : evo env y = some (.int k (j : Int))) (h : j < l.length) (hc : l.getD j 0 = c) :
  C9 P Γ ⟨env, hp, G⟩ (.index t x y) ty (.int .u8 (c.toNat : Int)) := by
 subst hc
 exact N1 hd hx hy (by omega) (R5 h)
end ix
theorem B1w {f : A0 → Option (Tm × A0)} {L E : A0} {i a nx : Nat} {t : Tm} (hi : i < E.length) (h : f (L.drop a) = some (t, L.drop nx)) (h2 : nx < L.length) (h3 : L.getD nx 0 = E.getD i 0) : P1 f (E.drop i) (L.drop a) = (P1 f (E.drop (i + 1)) (L.drop (nx + 1))).map fun y => (t :: y.1, y.2) := by
 rw [Z2 hi, P1, h]
 simp only [Option.bind_some]
 rw [A0i h2 h3]
 rfl
theorem B1x {f : A0 → Option (Tm × A0)} {L E : A0} {i a : Nat} (hi : i < E.length) (h : f (L.drop a) = none) : P1 f (E.drop i) (L.drop a) = none := by rw [Z2 hi, P1, h]; rfl
theorem A7R {f : A0 → Option (Tm × A0)} {L E : A0} {i a nx : Nat} {t : Tm} (hi : i < E.length) (h : f (L.drop a) = some (t, L.drop nx)) (h2 : C3 (E.getD i 0) (L.drop nx) = none) : P1 f (E.drop i) (L.drop a) = none := by
 rw [Z2 hi, P1, h]
 simp only [Option.bind_some]
 rw [h2]; rfl
theorem A2A (L : A0) (hL : L.length ≤ 4294967296) (n : Nat) (hP : A3q L n) (k : Int) (hk : D7 k) (ks0 : List Tm) (es0 : List (List Value)) (p0 : Option Addr) (c0 : Nat) (E : A0) (hE : E.length ≤ 100) (h0 : ks0.length ≤ 100) (a : Nat) (ha : a ≤ L.length) (G : IM) (hr0 : D3 G ks0 es0) :
  Fn Tryz.prog 103 [.agg ⟨[.int .i64 k, .string ⟨⟨[]⟩⟩, .int .i64 0, .int .i64 0, .slice none 0 0, .int .i64 0, .slice none 0 0, .int .i64 0, .slice p0 ks0.length c0]⟩, .string (B3 L), .int .i64 (a : Int), .string (B3 E), .int .i64 (n : Int)] [.slc p0 c0 28 9 ks0.length es0.flatten] G
   (I2 L ((P1 (E1 n) E (L.drop a)).map fun x => (nd k (ks0 ++ x.1), x.2))) := by
 have hsz := I6 L
 have hszE := I6 E
 refine B5 Tryz.func103 rfl Tryz.ntmps103 Tryz.results103 rfl ?_
 intro w0
 refine tS (tR ?_)
 refine sE (K0 rfl rfl) rfl (fun b3 => ?_)
 refine sE (C0 rfl) rfl (fun b4 => ?_)
 refine C2 ?_
 refine D2 ?_
 (refine Q5 (fun (x : Nat × Nat × Option Addr × Nat × Nat × List Tm × List (List Value) × IM) => ⟨[(12, .int .i64 (x.1 : Int)), (2, .int .i64 (x.2.1 : Int)), (1, .string (B3 L)), (3, .string (B3 E)), (4, .int .i64 (n : Int)), (5, .pointer (some ⟨b3, 0, none⟩)), (10, .pointer (some ⟨b4, 0, none⟩))], [.slc x.2.2.1 x.2.2.2.1 28 9 x.2.2.2.2.1 x.2.2.2.2.2.2.1.flatten, .blk b3 [.int .i64 k, .string ⟨⟨[]⟩⟩, .int .i64 0, .int .i64 0, .slice none 0 0, .int .i64 0, .slice none 0 0, .int .i64 0, .slice x.2.2.1 x.2.2.2.2.1 x.2.2.2.1], .blk b4 [.int .i64 0, .string ⟨⟨[]⟩⟩, .int .i64 0, .int .i64 0, .slice none 0 0, .int .i64 0, .slice none 0 0, .int .i64 0, .slice none 0 0]], x.2.2.2.2.2.2.2⟩) (fun x => x.1 ≤ E.length ∧ x.2.1 ≤ L.length ∧ x.2.2.2.2.1 = ks0.length + x.1 ∧ x.2.2.2.2.2.1.length = x.1 ∧ A9 G x.2.2.2.2.2.2.2 ∧ D3 x.2.2.2.2.2.2.2 (ks0 ++ x.2.2.2.2.2.1) x.2.2.2.2.2.2.1 ∧ P1 (E1 n) E (L.drop a) = (P1 (E1 n) (E.drop x.1) (L.drop x.2.1)).map fun y => (x.2.2.2.2.2.1 ++ y.1, y.2)) (fun x => E.length - x.1) (0, a, p0, c0, ks0.length, [], es0, G) ?_ ?_ ?_)
 (simp only [P3]; exact I9)
 (exact ⟨Nat.zero_le _, ha, rfl, rfl, A9.refl _, by simpa using hr0, by simp⟩)
 (rintro ⟨i, ai, pi, ci, nn, us, es, Gi⟩ ⟨hi, hai, hnn, hus, hle, hrl, hmo⟩; simp only [] at hi hai hnn hus hle hrl hmo ⊢)
 refine tS (tS (tR (sQ (qM rfl) rfl (sQ (qM rfl) rfl ?_))))
 refine sQ (M0 rfl rfl) rfl (sB (M9 rfl rfl) rfl rfl (fun h25 => ?_) (fun h25 => ?_))
 refine sD (nS (qT rfl (tK (nS (tS ?_)))))
 refine D2 ?_
 refine P9 ?_
 focus (have hiE : i < E.length := (by omega); refine L5 rfl (hP ai Gi hai) rfl rfl (fun v G1 hle1 hh => ?_); obtain ⟨ta, ca, na, rfl, hra, hm⟩ := hh; have hoa := hra.one; obtain ⟨x1, x2, x3, x4, x5, x6, x7, x8, x9, rfl⟩ := X3 hra; replace hrl := hrl.mono hle1; rcases hm with ⟨hm, rfl⟩ | ⟨nx, hm, rfl, hnx⟩; rotate_left; obtain ⟨o, ho⟩ : ∃ o, L.getD nx 0 = o := ⟨_, rfl⟩; obtain ⟨q, hq⟩ : ∃ q, E.getD i 0 = q := ⟨_, rfl⟩; rotate_left)
 refine F9 ?_
 refine sE (C0 rfl) rfl (fun b42 => ?_)
 refine sS rfl rfl rfl rfl hoa rfl ?_
 refine sQ (qA rfl) rfl (sD (nS (tS (tS ?_))))
 refine I7 J0 rfl ?_
 refine H2 (i := 0) (l' := [tt,ff,ff,ff,ff,ff,ff,ff,ff,ff,ff,ff,ff,ff,ff,ff,ff]) rfl E8 (qM rfl) rfl (by kernel_rfl) rfl rfl ?_
 refine aP 1 rfl (X5 rfl rfl (by omega)) rfl ?_
 refine aP 2 rfl (qM rfl) rfl ?_
 refine D6 3 rfl rfl rfl ?_
 refine D6 4 rfl rfl rfl ?_
 refine D6 5 rfl rfl rfl ?_
 refine D6 6 rfl rfl rfl ?_
 refine aP 7 rfl (L4 rfl rfl) rfl ?_
 refine aP 8 rfl (qM rfl) rfl ?_
 refine D6 9 rfl rfl rfl ?_
 refine D6 10 rfl rfl rfl ?_
 refine D6 11 rfl rfl rfl ?_
 refine D6 12 rfl rfl rfl ?_
 refine D6 13 rfl rfl rfl ?_
 refine D6 14 rfl rfl rfl ?_
 refine D6 15 rfl rfl rfl ?_
 refine aP 16 rfl (L4 rfl rfl) rfl ?_
 refine W1 ?_
 refine C8 (rC rfl (A7 rfl rfl)) (rT rfl) ?_
 (exact I2.no (by rw [hmo, B1x hiE hm]; rfl))
 refine F9 ?_
 refine sE (C0 rfl) rfl (fun b89 => ?_)
 refine sS rfl rfl rfl rfl hoa rfl ?_
 refine sQ (qA rfl) rfl (sD (nS (tS (tS ?_))))
 refine I7 J0 rfl ?_
 refine H2 (i := 0) (l' := [tt,ff,ff,ff,ff,ff,ff,ff,ff,ff,ff,ff,ff,ff,ff,ff,ff]) rfl E8 (qM rfl) rfl (by kernel_rfl) rfl rfl ?_
 refine aP 1 rfl (S1 rfl rfl (by omega)) rfl ?_
 refine aP 2 rfl (qM rfl) rfl ?_
 refine aP 3 rfl (qM rfl) rfl ?_
 refine aP 4 rfl (qM rfl) rfl ?_
 refine aP 5 rfl (M0 rfl rfl) rfl ?_
 refine A0U (i := 6) (l' := [tt,tt,tt,tt,tt,tt,tt,ff,ff,ff,ff,ff,ff,ff,ff,ff,ff]) rfl E8 (P6 rfl rfl) rfl (by kernel_rfl) rfl rfl (fun h103 => ?_) (fun h103 => ?_)
 refine aP 7 rfl (M2 rfl rfl) rfl ?_
 refine aP 8 rfl (qM rfl) rfl ?_
 refine D6 9 rfl rfl rfl ?_
 refine D6 10 rfl rfl rfl ?_
 refine D6 11 rfl rfl rfl ?_
 refine D6 12 rfl rfl rfl ?_
 refine D6 13 rfl rfl rfl ?_
 refine D6 14 rfl rfl rfl ?_
 refine D6 15 rfl rfl rfl ?_
 refine aP 16 rfl (L4 rfl rfl) rfl ?_
 refine W1 ?_
 refine C8 (rC rfl (A7 rfl rfl)) (rT rfl) ?_
 (exact I2.no (by rw [hmo, A7R hiE hm (A1d (by omega))]; rfl))
 refine aP 7 rfl (M2 rfl rfl) rfl ?_
 refine aP 8 rfl (qM rfl) rfl ?_
 refine aP 9 rfl (qM rfl) rfl ?_
 refine aP 10 rfl (qM rfl) rfl ?_
 refine aP 11 rfl (Z4 rfl rfl rfl (by omega) ho) rfl ?_
 refine aP 12 rfl (qM rfl) rfl ?_
 refine aP 13 rfl (qM rfl) rfl ?_
 refine aP 14 rfl (Z4 rfl rfl rfl (by omega) hq) rfl ?_
 refine A0U (i := 15) (l' := [tt,tt,tt,tt,tt,tt,tt,tt,tt,tt,tt,tt,tt,tt,tt,tt,ff]) rfl E8 (N8 rfl rfl) rfl (by kernel_rfl) rfl rfl (fun h141 => ?_) (fun h141 => ?_)
 refine aP 16 rfl (M2 rfl rfl) rfl ?_
 refine W1 ?_
 refine C8 (rC rfl (A7 rfl rfl)) (rT rfl) ?_
 (exact I2.no (by rw [hmo, A7R hiE hm (A0T (by omega) (by rw [ho, hq]; exact E4 (by omega)))]; rfl))
 refine aP 16 rfl (M2 rfl rfl) rfl ?_
 refine O2 ?_
 (refine D1 (I4 rfl rfl rfl (by omega) (by unfold maxLen; omega) rfl) rfl ?_; rintro _ ⟨b173, rfl⟩)
 refine A5p rfl rfl rfl rfl rfl (fun _ _ => by repeat (first | exact Sw.here | apply Sw.there)) (U2 (by repeat first | exact mH | apply mT)) rfl (fun u hu => List.all_eq_true.1 hoa u hu) (by unfold maxLen; omega) (by omega) rfl (fun p7 c7 => ?_)
 refine sQ (A5 rfl) rfl (I8 ?_)
 refine sD (nS (tR (sQ (qM rfl) rfl ?_)))
 refine sP (H4 (n := 1) rfl rfl (by omega)) rfl rfl ?_
 refine K8 ?_
 refine sP (H4 (n := 1) rfl rfl (by omega)) rfl rfl ?_
 refine sQ (qA rfl) rfl (sD ?_)
 (have hoq : L.getD nx 0 = E.getD i 0 := (by rw [ho, hq]; exact E9 (by omega)); have hnl : nx < L.length := (by omega); refine P5 (i + 1, nx + 1, p7, c7, nn + 1, us ++ [ta], es ++ [[x1, x2, x3, x4, x5, x6, x7, x8, x9]], G1) ?_ ?_ ?_)
 (simp only [P3]; exact I9)
 (dsimp only; exact ⟨by omega, by omega, by omega, by rw [List.length_append, hus]; rfl, hle.trans hle1, by rw [← List.append_assoc]; exact hrl.snoc2 hra, by rw [hmo, B1w hiE hm hnl hoq, Option.map_map]; congr 1; funext y; simp⟩)
 (show E.length - (i + 1) < E.length - i; omega)
 refine M8 ?_
 (have hiE2 : i = E.length := (by omega); refine Y4 (cs := es.flatten) (by repeat (first | exact Pk.here | apply Pk.there)) (fun G9 hle9 hsl9 hno9 => ?_))
 refine tT ?_
 refine C8 (rC rfl (A7 rfl rfl)) (rT rfl) ?_
 (subst hiE2; have hR9 := hrl.mono hle9; obtain rfl : nn = (ks0 ++ us).length := (by rw [List.length_append, hus, hnn]); exact I2.yes (A1O hk rfl (D0.of hsl9 hR9.len hR9.all (fun e he => by obtain ⟨j, hj⟩ := List.getElem?_of_mem he; have hlt : j < (ks0 ++ us).length := (by have := (List.getElem?_eq_some_iff.1 hj).1; rw [hR9.len] at this; exact this); obtain ⟨e', he', hr⟩ := hR9.get (i := j) (t := (ks0 ++ us)[j]) (by simp [hlt]); rw [hj] at he'; cases he'; exact hr.one)) hR9) (by rw [hmo, A1v (Nat.le_refl _)]; simp [P1]; rfl) hai)
section oplaws
variable {P : Program} {Γ : F8} {env : H1} {hp : List A1} {G : IM} {ty : TypeId}
theorem A7S {x y : Operand} {t t' : TypeId} {j : Nat} (hx : evo env x = some (.int .i64 ((j : Int) + 6))) (hy : evo env y = some (.int .i64 6)) (h : j ≤ 100) :
  C9 P Γ ⟨env, hp, G⟩ (.binOp .sub t x y t') ty (.int .i64 (j : Int)) := by
 have h2 := A0V (P := P) (Γ := Γ) (hp := hp) (G := G) (ty := ty) (t := t) (t' := t') hx hy (by omega) (by omega)
 rwa [show (j : Int) + 6 - 6 = (j : Int) by omega] at h2
def opB (j : Nat) : UInt8 := ([32, 43, 60] : A0).getD j 0
theorem B1y {x y z : Operand} {t : TypeId} {i : J4} [hI : E6 P t i] (hd' : i.desc = .string) {j : Nat} (hx : evo env x = some (.string (B3 [32, 43, 60]))) (hy : evo env y = some (.int .i64 (j : Int))) (hz : evo env z = some (.int .i64 ((j + 1 : Nat) : Int))) (h : j < 3) :
  C9 P Γ ⟨env, hp, G⟩ (.slice t x (some y) (some z) none) ty (.string (B3 [opB j])) := by
 have h2 := Y7 (P := P) (Γ := Γ) (hp := hp) (G := G) (ty := ty) (t := t) (i := i) hd' hx hy hz (Nat.le_succ j) (by rw [I6]; simp only [List.length_cons, List.length_nil]; omega)
 have e : (B3 [32, 43, 60]).extract j (j + 1) = B3 [opB j] := by
  rw [Z1]
  have : j = 0 ∨ j = 1 ∨ j = 2 := by omega
  rcases this with rfl | rfl | rfl <;> rfl
 rwa [e] at h2
end oplaws
theorem A3r {n : Int} (h0 : 0 ≤ n) (h1 : n ≤ 9999) (G : IM) : Fn Tryz.prog 89 [.int .i64 n] [] G (J8 (.string (B3 (Lib.itoa n))) G) := by
 have := B09 n.toNat (by omega) G
 rw [Int.toNat_of_nonneg h0] at this
 have e : Lib.itoa n = Lib.decDigits n.toNat := by unfold Lib.itoa; rw [if_neg (by omega)]
 rw [e]; exact this
theorem B1z {n : Int} (h : n < 0) : Lib.itoa n = 45 :: Lib.itoa (-n) := by
 unfold Lib.itoa
 rw [if_pos h, if_neg (by omega)]
 congr 2; omega
theorem B1A (k num lb : Int) (nm : ByteArray) (ty fr : Ty) (ks : List Tm) (G : IM) (cells : List Value) (ht : H5 ty 1 = true) (hf : H5 fr 1 = true) (hl : -999 ≤ lb ∧ lb ≤ 999) (hr : B6 G (.mk k nm num ty fr lb ks) cells) :
  Fn Tryz.prog 91 [.agg ⟨cells⟩] [] G (J8 (.string (B3 (([58] : A0) ++ K6 fr ++ ([126] : A0) ++ K6 ty ++ ([35] : A0) ++ Lib.itoa lb ++ ([41] : A0)))) G) := by
 obtain ⟨tk, tks⟩ := ty
 obtain ⟨fk, fks⟩ := fr
 obtain ⟨pt, ct, pf, cf, p, c, es, rfl, hk, hnum, hlb, hty, hfr, hsl, hkl⟩ := hr.open9
 have h1 := T0 ht (Int.le_refl _)
 have h2 := T0 hf (Int.le_refl _)
 have h3 := A10 hl.1 hl.2
 have hm := @B1z lb
 refine B5 Tryz.func91 rfl Tryz.ntmps91 Tryz.results91 rfl ?_
 intro w0
 refine tS (tR ?_)
 refine sE (K0 rfl rfl) rfl (fun b3 => ?_)
 refine W3 ?_
 refine sB (M9 rfl rfl) rfl rfl (fun h23 => ?_) (fun h23 => ?_)
 refine sD (nS (qT rfl (tS (tR (sQ (qM rfl) rfl ?_)))))
 refine sP (A8f rfl (by omega) (by omega)) rfl rfl ?_
 refine E0 ?_
 refine I7 J0 rfl ?_
 refine H2 (i := 0) (l' := [tt,ff,ff,ff,ff,ff,ff,ff,ff,ff,ff,ff,ff,ff,ff,ff,ff]) rfl E8 (A5 rfl) rfl (by kernel_rfl) rfl rfl ?_
 refine aL 1 rfl (A7 rfl rfl) rfl ?_
 refine aP 5 rfl (A5 rfl) rfl ?_
 refine aL 6 rfl (A7 rfl rfl) rfl ?_
 refine aP 10 rfl (qM rfl) rfl ?_
 refine aP 12 rfl (qM rfl) rfl ?_
 refine A8 2 ?_
 refine M3 rfl rfl ((A1Y (.mk fk fks) 1 _ _ hf (by omega) hfr)) rfl rfl rfl ?_
 refine aP 3 rfl (B9 rfl rfl (by simp only [List.length_append, List.length_cons, List.length_nil]; omega)) rfl ?_
 refine aP 4 rfl (B9 rfl rfl (by simp only [List.length_append, List.length_cons, List.length_nil]; omega)) rfl ?_
 refine A8 7 ?_
 refine M3 rfl rfl ((A1Y (.mk tk tks) 1 _ _ ht (by omega) hty)) rfl rfl rfl ?_
 refine aP 8 rfl (B9 rfl rfl (by simp only [List.length_append, List.length_cons, List.length_nil]; omega)) rfl ?_
 refine aP 9 rfl (B9 rfl rfl (by simp only [List.length_append, List.length_cons, List.length_nil]; omega)) rfl ?_
 refine aP 11 rfl (B9 rfl rfl (by simp only [List.length_append, List.length_cons, List.length_nil]; omega)) rfl ?_
 refine A8 13 ?_
 (have hmm := hm (by omega); have h4 : (Lib.itoa (-lb)).length ≤ 4 := A10 (by omega) (by omega); refine M3 rfl rfl (A3r (n := -lb) (by omega) (by omega) _) rfl rfl rfl ?_)
 refine aP 14 rfl (B9 rfl rfl (by simp only [List.length_append, List.length_cons, List.length_nil]; omega)) rfl ?_
 refine aP 15 rfl (B9 rfl rfl (by simp only [List.length_append, List.length_cons, List.length_nil]; omega)) rfl ?_
 refine aP 16 rfl (qA rfl) rfl ?_
 refine M7 (nS (tT (F0 (rT rfl) ?_)))
 (exact ⟨rfl, by rw [hmm]; simp, rfl⟩)
 refine sD (nS (cF rfl (tK (nS (tS ?_)))))
 refine I7 J0 rfl ?_
 refine H2 (i := 0) (l' := [tt,ff,ff,ff,ff,ff,ff,ff,ff,ff,ff,ff,ff,ff,ff,ff,ff]) rfl E8 (A5 rfl) rfl (by kernel_rfl) rfl rfl ?_
 refine aL 1 rfl (A7 rfl rfl) rfl ?_
 refine aP 5 rfl (A5 rfl) rfl ?_
 refine aL 6 rfl (A7 rfl rfl) rfl ?_
 refine aP 10 rfl (qM rfl) rfl ?_
 refine aP 12 rfl (qM rfl) rfl ?_
 refine A8 2 ?_
 refine M3 rfl rfl ((A1Y (.mk fk fks) 1 _ _ hf (by omega) hfr)) rfl rfl rfl ?_
 refine aP 3 rfl (B9 rfl rfl (by simp only [List.length_append, List.length_cons, List.length_nil]; omega)) rfl ?_
 refine aP 4 rfl (B9 rfl rfl (by simp only [List.length_append, List.length_cons, List.length_nil]; omega)) rfl ?_
 refine A8 7 ?_
 refine M3 rfl rfl ((A1Y (.mk tk tks) 1 _ _ ht (by omega) hty)) rfl rfl rfl ?_
 refine aP 8 rfl (B9 rfl rfl (by simp only [List.length_append, List.length_cons, List.length_nil]; omega)) rfl ?_
 refine aP 9 rfl (B9 rfl rfl (by simp only [List.length_append, List.length_cons, List.length_nil]; omega)) rfl ?_
 refine aP 11 rfl (B9 rfl rfl (by simp only [List.length_append, List.length_cons, List.length_nil]; omega)) rfl ?_
 refine A8 13 ?_
 (refine M3 rfl rfl (A3r (n := lb) (by omega) (by omega) _) rfl rfl rfl ?_)
 refine aP 14 rfl (B9 rfl rfl (by simp only [List.length_append, List.length_cons, List.length_nil]; omega)) rfl ?_
 refine aP 15 rfl (B9 rfl rfl (by simp only [List.length_append, List.length_cons, List.length_nil]; omega)) rfl ?_
 refine aP 16 rfl (qA rfl) rfl ?_
 refine M7 (nS (tT (F0 (rT rfl) ?_)))
 (exact ⟨rfl, by simp, rfl⟩)
theorem B1B {k : Int} {nm : ByteArray} {num : Int} {ty fr : Ty} {lb : Int} {ks : List Tm} (hk : k = 14) (h : 1 ≤ ks.length) : A3 (.mk k nm num ty fr lb ks) = ([40] : A0) ++ A3 (ks[0]'(by omega)) ++ (([58] : A0) ++ K6 fr ++ ([126] : A0) ++ K6 ty ++ ([35] : A0) ++ Lib.itoa lb ++ ([41] : A0)) := by
 rw [A7O hk h]; simp
theorem B1C {k : Int} {nm : ByteArray} {num : Int} {ty fr : Ty} {lb : Int} {ks : List Tm} {j : Nat} (hk : k = (j : Int) + 6) (hj : j < 3) (h : 2 ≤ ks.length) : A3 (.mk k nm num ty fr lb ks) = ([40] : A0) ++ A3 (ks[0]'(by omega)) ++ [opB j] ++ A3 (ks[1]'(by omega)) ++ ([41] : A0) := by
 have : j = 0 ∨ j = 1 ∨ j = 2 := by omega
 rcases this with rfl | rfl | rfl
 ·exact A7G hk h
 ·exact A7H hk h
 ·exact A7I hk h
theorem B1D {G : IM} {p : Option Addr} {c : Nat} {ks : List Tm} {j : Nat} (h : Sl G p ks.length c 1 (ks.map fun t => Value.string (B3 (A3 t)))) (hj : j < ks.length) : ∃ b o, p = some ⟨b, o, none⟩ ∧ ∀ hp, At hp G b (o + j * 1) [.string (B3 (A3 ks[j]))] := by
 obtain ⟨b, o, v, hp, hv, hat, _⟩ := h.kid (i := j) hj
 rw [List.getElem?_map, List.getElem?_eq_getElem hj] at hv
 obtain rfl := Option.some.inj hv
 exact ⟨b, o, hp, fun hp => by simpa using hat hp⟩
theorem A7T {G : IM} {b o n : Nat} {v : Value} (h : ∃ b' o', (some ⟨b, o, none⟩ : Option Addr) = some ⟨b', o', none⟩ ∧ ∀ hp, At hp G b' (o' + n) [v]) : ∀ hp, At hp G b (o + n) [v] := by
 obtain ⟨b', o', h1, h2⟩ := h
 cases h1
 exact h2
theorem A7U (D N : Int) : ∀ (e : Tm) (d : Int) (G : IM) (cells : List Value), N7 D N e d = true → D4 e ≤ 100000 → B6 G e cells → Fn Tryz.prog 42 [.agg ⟨cells⟩] [] G (A1w (A3 e)) := by
 refine Tm.ind fun k nm num ty fr lb ks ih d G cells hs hcnt hr => ?_
 obtain ⟨hd, _, h3, h4⟩ := A1o hs
 have hvk := (A0O D N ks _).1 h4
 obtain ⟨n1, n2, n3, n4, n5, n6, n7, n8, n9⟩ := A1G.1 h3
 rw [D4] at hcnt
 have hTl : ∀ i (h : i < ks.length), (A3 ks[i]).length ≤ 10000000 := fun i h => by
  have h1 := A4S D N ks[i] _ (hvk i h)
  have h2 := A3o h
  omega
 have hL1 : k = 5 ∨ k = 11 ∨ k = 12 ∨ k = 13 ∨ k = 14 → ks.length = 1 := fun h => by
  have : J3 k = 1 := by rcases h with rfl | rfl | rfl | rfl | rfl <;> rfl
  omega
 have hL2 : k = 6 ∨ k = 7 ∨ k = 8 ∨ k = 10 → ks.length = 2 := fun h => by
  have : J3 k = 2 := by rcases h with rfl | rfl | rfl | rfl <;> rfl
  omega
 have hL3 : k = 9 → ks.length = 3 := fun h => by
  have : J3 k = 3 := by subst h; rfl
  omega
 have hkk : 1 ≤ k ∧ k ≤ 14 ∧ ks.length ≤ 3 := by
  unfold J3 at n1
  repeat' split at n1
  all_goals omega
 have hnumr : k = 2 → 0 ≤ num ∧ num ≤ 999 := fun h => A0q (n4 h)
 have hvt : k = 5 ∨ k = 13 ∨ k = 14 → H5 ty 1 = true := n6
 have hvf : k = 14 → H5 fr 1 = true := fun h => by
  have := (n8 h).1
  unfold A0r at this
  simp only [Bool.and_eq_true] at this
  exact this.1.1
 have hvl : k = 14 → -999 ≤ lb ∧ lb ≤ 999 := fun h => by
  have := (n8 h).2
  unfold A0c at this
  rw [Bool.or_eq_true] at this
  rcases this with h | h <;> have := A0q h <;> omega
 have hnl : (k = 1 ∨ k = 5 → nm.size = 1) := fun h => by rw [(A3e (n2 h)).1]; rfl
 obtain ⟨nl, rfl⟩ : ∃ nl, nm = B3 nl := ⟨_, (A4v nm).symm⟩
 rw [I6] at hnl
 have hr0 := hr
 obtain ⟨tk, tks⟩ := ty
 obtain ⟨fk, fks⟩ := fr
 obtain ⟨pt, ct, pf, cf, p, c, es, rfl, hk, hnum, hlb, hty, hfr, hsl, hkl⟩ := hr.open9
 have hn := hsl.le
 refine B5 Tryz.func42 rfl Tryz.ntmps42 Tryz.results42 rfl ?_
 intro w0
 refine tS (tR ?_)
 refine sE (K0 rfl rfl) rfl (fun b3 => ?_)
 refine sQ (qA rfl) rfl (sD (nS (tS (tR ?_))))
 (refine D1 (I4 rfl rfl rfl (by omega) (by unfold maxLen; omega) rfl) rfl ?_; rintro _ ⟨b9, rfl⟩)
 refine C2 ?_
 refine D2 ?_
 (refine Q5 (fun (x : Nat × Option Addr × Nat × IM) => ⟨[(4, .int .i64 (x.1 : Int)), (3, .slice x.2.1 x.1 x.2.2.1), (1, .pointer (some ⟨b3, 0, none⟩))], [.slc x.2.1 x.2.2.1 9 1 x.1 ((ks.take x.1).map fun t => Value.string (B3 (A3 t))), .blk b3 [.int .i64 k, .string (B3 nl), .int .i64 num, .int .i64 tk, .slice pt tks.length ct, .int .i64 fk, .slice pf fks.length cf, .int .i64 lb, .slice p ks.length c]], x.2.2.2⟩) (fun x => x.1 ≤ ks.length ∧ A9 G x.2.2.2) (fun x => ks.length - x.1) (0, some ⟨b9, 0, none⟩, 0, G) ?_ ?_ ?_)
 (simp only [P3]; exact I9)
 (exact ⟨Nat.zero_le _, A9.refl _⟩)
 (rintro ⟨(i : Nat), pn, cn, Gi⟩ ⟨hi, hle⟩; simp only [] at hi hle ⊢)
 refine B8 ?_
 refine sB (M9 rfl rfl) rfl rfl (fun h31 => ?_) (fun h31 => ?_)
 refine sD (nS (qT rfl (tK (nS (tS ?_)))))
 refine D2 ?_
 refine P9 ?_
 (have hil : i < ks.length := (by omega); obtain ⟨bx, ox, e, rfl, hel, hat, hre, hgb⟩ := (hsl.mono hle).kidTm (hkl.mono hle) (i := i) hil hil; refine sP (L9 (j := i) rfl rfl rfl (by omega)) rfl rfl ?_)
 refine sL (C4 rfl rfl (hat _) hel) rfl rfl ?_
 (refine L5 rfl (ih ks[i] (List.getElem_mem hil) (d + 1) Gi e (hvk i hil) (by have := A3o hil; omega) (hre)) rfl rfl (fun v G3 hle3 hh => ?_); subst hh)
 (refine D1 (I4 rfl rfl rfl (by omega) (by unfold maxLen; omega) rfl) rfl ?_; rintro _ ⟨b47, rfl⟩)
 refine A5p rfl rfl rfl rfl rfl (fun _ _ => by repeat (first | exact Sw.here | apply Sw.there)) (U2 (by repeat first | exact mH | apply mT)) rfl (by simp [Value.oneCell']) (by unfold maxLen; omega) (by omega) rfl (fun pn' cn' => ?_)
 refine K8 ?_
 refine sP (H4 (n := 1) rfl rfl (by omega)) rfl rfl ?_
 refine sQ (qA rfl) rfl (sD ?_)
 (refine P5 (i + 1, pn', cn', G3) (by rw [List.take_succ_eq_append_getElem hil, List.map_append, List.map_cons, List.map_nil]; exact (P8 (by repeat (first | exact H9.nil | refine H9.cons rfl ?_)) (by repeat (first | exact A2.refl | exact A2.nil | refine A2.cons (by repeat (first | exact Pk.here | apply Pk.there)) ?_ | apply A2.drop)))) ?_ ?_)
 (dsimp only; exact ⟨by omega, hle.trans hle3⟩)
 (show ks.length - (i + 1) < ks.length - i; omega)
 refine O2 ?_
 focus (have hie : i = ks.length := (by omega); refine A2P (by repeat (first | exact Pk.here | apply Pk.there)) (fun G2 hle2 hsl2 hno2 => ?_); subst hie; rw [List.take_length] at hsl2; have hle02 := hle.trans hle2; have hty2 := hty.mono hle02; have hfr2 := hfr.mono hle02; have hr2 := hr.mono hle02; have hKid := fun j hj => B1D (j := j) hsl2 hj; rcases Nat.eq_zero_or_pos ks.length with hz | hz; rotate_left; obtain ⟨bs, os, hps, hat0⟩ := hKid 0 hz; subst hps; have hat1 := fun h : 1 < ks.length => A7T (hKid 1 h); have hat2 := fun h : 2 < ks.length => A7T (hKid 2 h); have hTl0 := hTl 0 hz; have hTl1 := hTl 1; have hTl2 := hTl 2; rotate_left)
 refine P9 ?_
 refine D2 (tS (tR (sB (qE rfl rfl) rfl rfl (fun h80 => ?_) (fun h80 => ?_))))
 refine L6 ?_
 (have hk1 : k = 1 := (by omega); exact ⟨rfl, by rw [A3, H6, if_pos hk1]; rfl⟩)
 refine sQ (qA rfl) rfl (sD (nS (cF rfl (tS (tR ?_)))))
 refine sB (qE rfl rfl) rfl rfl (fun h103 => ?_) (fun h103 => ?_)
 refine E0 ?_
 refine J9 rfl ((A3r (n := num) (by have := hnumr; omega) (by have := hnumr; omega) _)) rfl rfl ?_
 refine sQ (qA rfl) rfl (sD (nS (tT (rB (rS (F0 (rT rfl) ?_))))))
 (have hk1 : k = 2 := (by omega); exact ⟨rfl, by rw [A3, H6, if_neg (by omega), if_pos hk1]⟩)
 refine sQ (qA rfl) rfl (sD (nS (cF rfl (tS (tR ?_)))))
 refine sB (qE rfl rfl) rfl rfl (fun h127 => ?_) (fun h127 => ?_)
 refine H3 ?_
 (have hk1 : k = 3 := (by omega); subst hk1; exact ⟨rfl, rfl⟩)
 refine sQ (qA rfl) rfl (sD (nS (cF rfl (tS (tR ?_)))))
 refine sP (Z9 rfl rfl (by omega)) rfl rfl ?_
 refine H3 ?_
 (have hk1 : k = 4 := (by omega); subst hk1; exact ⟨rfl, rfl⟩)
 refine P9 ?_
 refine D2 (tS (tR (sB (qE rfl rfl) rfl rfl (fun h171 => ?_) (fun h171 => ?_))))
 refine L6 ?_
 (have hk1 : k = 1 := (by omega); exact ⟨rfl, by rw [A3, H6, if_pos hk1]; rfl⟩)
 refine sQ (qA rfl) rfl (sD (nS (cF rfl (tS (tR ?_)))))
 refine sB (qE rfl rfl) rfl rfl (fun h194 => ?_) (fun h194 => ?_)
 refine E0 ?_
 refine J9 rfl ((A3r (n := num) (by have := hnumr; omega) (by have := hnumr; omega) _)) rfl rfl ?_
 refine sQ (qA rfl) rfl (sD (nS (tT (rB (rS (F0 (rT rfl) ?_))))))
 (have hk1 : k = 2 := (by omega); exact ⟨rfl, by rw [A3, H6, if_neg (by omega), if_pos hk1]⟩)
 refine sQ (qA rfl) rfl (sD (nS (cF rfl (tS (tR ?_)))))
 refine sB (qE rfl rfl) rfl rfl (fun h218 => ?_) (fun h218 => ?_)
 refine H3 ?_
 (have hk1 : k = 3 := (by omega); subst hk1; exact ⟨rfl, rfl⟩)
 refine sQ (qA rfl) rfl (sD (nS (cF rfl (tS (tR ?_)))))
 refine sB (qE rfl rfl) rfl rfl (fun h239 => ?_) (fun h239 => ?_)
 refine H3 ?_
 (have hk1 : k = 4 := (by omega); subst hk1; exact ⟨rfl, rfl⟩)
 refine sQ (qA rfl) rfl (sD (nS (cF rfl (tS (tR ?_)))))
 refine sB (qE rfl rfl) rfl rfl (fun h260 => ?_) (fun h260 => ?_)
 refine sQ (qA rfl) rfl (sD (nS (qT rfl (tS ?_))))
 refine I7 J0 rfl ?_
 refine H2 (i := 0) (l' := [tt,ff,ff,ff,ff,ff,ff,ff,ff,ff,ff,ff,ff,ff]) rfl E8 (A5 rfl) rfl (by kernel_rfl) rfl rfl ?_
 refine aL 1 rfl (C1 rfl rfl) rfl ?_
 refine aP 2 rfl (B9 rfl rfl (by simp only [List.length_append, List.length_cons, List.length_nil]; omega)) rfl ?_
 refine aP 3 rfl (B9 rfl rfl (by simp only [List.length_append, List.length_cons, List.length_nil]; omega)) rfl ?_
 refine aP 4 rfl (A5 rfl) rfl ?_
 refine aL 5 rfl (A7 rfl rfl) rfl ?_
 refine aP 9 rfl (qM rfl) rfl ?_
 refine aP 10 rfl (L9 (j := 0) rfl rfl rfl (by omega)) rfl ?_
 refine aL 11 rfl (J2 rfl rfl (hat0 _)) rfl ?_
 refine A8 6 ?_
 (refine M3 rfl rfl (A1Y (.mk tk tks) 1 _ _ (hvt (by omega)) (by omega) hty2) rfl rfl rfl ?_; have hlt := T0 (hvt (by omega)) (Int.le_refl _))
 refine aP 7 rfl (B9 rfl rfl (by simp only [List.length_append, List.length_cons, List.length_nil]; omega)) rfl ?_
 refine aP 8 rfl (B9 rfl rfl (by simp only [List.length_append, List.length_cons, List.length_nil]; omega)) rfl ?_
 refine aP 12 rfl (B9 rfl rfl (by simp only [List.length_append, List.length_cons, List.length_nil]; omega)) rfl ?_
 refine aP 13 rfl (qA rfl) rfl ?_
 refine M7 (nS (tT (rB (rS (F0 (rT rfl) ?_)))))
 (have hk1 : k = 5 := (by omega); exact ⟨rfl, by rw [A7F hk1 (by omega)] <;> rfl⟩)
 refine sQ (qA rfl) rfl (sD (nS (cF rfl (tS (tR ?_)))))
 refine sB (qE rfl rfl) rfl rfl (fun h295 => ?_) (fun h295 => ?_)
 refine sQ (qA rfl) rfl (sD (nS (qT rfl (tS ?_))))
 (have hj9 : k = 9 := (by omega); have hx1 := hTl1 (by omega); have hx2 := hTl2 (by omega); refine I7 J0 rfl ?_)
 refine H2 (i := 0) (l' := [tt,ff,ff,ff,ff,ff,ff,ff,ff,ff,ff,ff,ff,ff,ff,ff]) rfl E8 (qM rfl) rfl (by kernel_rfl) rfl rfl ?_
 refine aP 1 rfl (L9 (j := 0) rfl rfl rfl (by omega)) rfl ?_
 refine aL 2 rfl (J2 rfl rfl (hat0 _)) rfl ?_
 refine aP 3 rfl (B9 rfl rfl (by simp only [List.length_append, List.length_cons, List.length_nil]; omega)) rfl ?_
 refine aP 4 rfl (B9 rfl rfl (by simp only [List.length_append, List.length_cons, List.length_nil]; omega)) rfl ?_
 refine aP 5 rfl (qM rfl) rfl ?_
 refine aP 6 rfl (L9 (j := 1) rfl rfl rfl (by omega)) rfl ?_
 refine aL 7 rfl (J2 rfl rfl (hat1 (by omega) _)) rfl ?_
 refine aP 8 rfl (B9 rfl rfl (by simp only [List.length_append, List.length_cons, List.length_nil]; omega)) rfl ?_
 refine aP 9 rfl (B9 rfl rfl (by simp only [List.length_append, List.length_cons, List.length_nil]; omega)) rfl ?_
 refine aP 10 rfl (qM rfl) rfl ?_
 refine aP 11 rfl (L9 (j := 2) rfl rfl rfl (by omega)) rfl ?_
 refine aL 12 rfl (J2 rfl rfl (hat2 (by omega) _)) rfl ?_
 refine aP 13 rfl (B9 rfl rfl (by simp only [List.length_append, List.length_cons, List.length_nil]; omega)) rfl ?_
 refine aP 14 rfl (B9 rfl rfl (by simp only [List.length_append, List.length_cons, List.length_nil]; omega)) rfl ?_
 refine aP 15 rfl (qA rfl) rfl ?_
 refine M7 (nS (tT (rB (rS (F0 (rT rfl) ?_)))))
 (have hk1 : k = 9 := (by omega); exact ⟨rfl, by rw [A7J hk1 (by omega)] <;> rfl⟩)
 refine sQ (qA rfl) rfl (sD (nS (cF rfl (tS (tR ?_)))))
 refine sB (qE rfl rfl) rfl rfl (fun h331 => ?_) (fun h331 => ?_)
 refine sQ (qA rfl) rfl (sD (nS (qT rfl (tS ?_))))
 (have hj10 : k = 10 := (by omega); have hx1 := hTl1 (by omega); refine I7 J0 rfl ?_)
 refine H2 (i := 0) (l' := [tt,ff,ff,ff,ff,ff,ff,ff,ff,ff,ff]) rfl E8 (qM rfl) rfl (by kernel_rfl) rfl rfl ?_
 refine aP 1 rfl (L9 (j := 0) rfl rfl rfl (by omega)) rfl ?_
 refine aL 2 rfl (J2 rfl rfl (hat0 _)) rfl ?_
 refine aP 3 rfl (B9 rfl rfl (by simp only [List.length_append, List.length_cons, List.length_nil]; omega)) rfl ?_
 refine aP 4 rfl (B9 rfl rfl (by simp only [List.length_append, List.length_cons, List.length_nil]; omega)) rfl ?_
 refine aP 5 rfl (qM rfl) rfl ?_
 refine aP 6 rfl (L9 (j := 1) rfl rfl rfl (by omega)) rfl ?_
 refine aL 7 rfl (J2 rfl rfl (hat1 (by omega) _)) rfl ?_
 refine aP 8 rfl (B9 rfl rfl (by simp only [List.length_append, List.length_cons, List.length_nil]; omega)) rfl ?_
 refine aP 9 rfl (B9 rfl rfl (by simp only [List.length_append, List.length_cons, List.length_nil]; omega)) rfl ?_
 refine aP 10 rfl (qA rfl) rfl ?_
 refine M7 (nS (tT (rB (rS (F0 (rT rfl) ?_)))))
 (have hk1 : k = 10 := (by omega); exact ⟨rfl, by rw [A7K hk1 (by omega)] <;> rfl⟩)
 refine sQ (qA rfl) rfl (sD (nS (cF rfl (tS (tR ?_)))))
 refine sB (qE rfl rfl) rfl rfl (fun h362 => ?_) (fun h362 => ?_)
 refine B8 ?_
 refine sP (L9 (j := 0) rfl rfl rfl (by omega)) rfl rfl ?_
 refine sL (J2 rfl rfl (hat0 _)) rfl rfl ?_
 refine sP (B9 rfl rfl (by simp only [List.length_append, List.length_cons, List.length_nil]; omega)) rfl rfl ?_
 refine sQ (qA rfl) rfl (sD (nS (tT (rB (rS (F0 (rT rfl) ?_))))))
 (have hk1 : k = 11 := (by omega); exact ⟨rfl, by rw [A7L hk1 (by omega)] <;> rfl⟩)
 refine sQ (qA rfl) rfl (sD (nS (cF rfl (tS (tR ?_)))))
 refine sB (qE rfl rfl) rfl rfl (fun h387 => ?_) (fun h387 => ?_)
 refine B8 ?_
 refine sP (L9 (j := 0) rfl rfl rfl (by omega)) rfl rfl ?_
 refine sL (J2 rfl rfl (hat0 _)) rfl rfl ?_
 refine sP (B9 rfl rfl (by simp only [List.length_append, List.length_cons, List.length_nil]; omega)) rfl rfl ?_
 refine sQ (qA rfl) rfl (sD (nS (tT (rB (rS (F0 (rT rfl) ?_))))))
 (have hk1 : k = 12 := (by omega); exact ⟨rfl, by rw [A7M hk1 (by omega)] <;> rfl⟩)
 refine sQ (qA rfl) rfl (sD (nS (cF rfl (tS (tR ?_)))))
 refine sB (qE rfl rfl) rfl rfl (fun h412 => ?_) (fun h412 => ?_)
 refine sQ (qA rfl) rfl (sD (nS (qT rfl (tS ?_))))
 refine I7 J0 rfl ?_
 refine H2 (i := 0) (l' := [tt,ff,ff,ff,ff,ff,ff,ff,ff,ff,ff]) rfl E8 (qM rfl) rfl (by kernel_rfl) rfl rfl ?_
 refine aP 1 rfl (L9 (j := 0) rfl rfl rfl (by omega)) rfl ?_
 refine aL 2 rfl (J2 rfl rfl (hat0 _)) rfl ?_
 refine aP 3 rfl (B9 rfl rfl (by simp only [List.length_append, List.length_cons, List.length_nil]; omega)) rfl ?_
 refine aP 4 rfl (B9 rfl rfl (by simp only [List.length_append, List.length_cons, List.length_nil]; omega)) rfl ?_
 refine aP 5 rfl (A5 rfl) rfl ?_
 refine aL 6 rfl (A7 rfl rfl) rfl ?_
 refine A8 7 ?_
 (refine M3 rfl rfl (A1Y (.mk tk tks) 1 _ _ (hvt (by omega)) (by omega) hty2) rfl rfl rfl ?_; have hlt := T0 (hvt (by omega)) (Int.le_refl _))
 refine aP 8 rfl (B9 rfl rfl (by simp only [List.length_append, List.length_cons, List.length_nil]; omega)) rfl ?_
 refine aP 9 rfl (B9 rfl rfl (by simp only [List.length_append, List.length_cons, List.length_nil]; omega)) rfl ?_
 refine aP 10 rfl (qA rfl) rfl ?_
 refine M7 (nS (tT (rB (rS (F0 (rT rfl) ?_)))))
 (have hk1 : k = 13 := (by omega); exact ⟨rfl, by rw [A7N hk1 (by omega)] <;> rfl⟩)
 refine sQ (qA rfl) rfl (sD (nS (cF rfl (tS (tR ?_)))))
 refine sB (qE rfl rfl) rfl rfl (fun h444 => ?_) (fun h444 => ?_)
 refine sQ (qA rfl) rfl (sD (nS (qT rfl (tS ?_))))
 refine I7 J0 rfl ?_
 refine A16 (i := 4) (l' := [ff,ff,ff,ff,tt,ff,ff,ff]) rfl E8 (C4 rfl rfl (E7 (by repeat first | exact mH | apply mT)) rfl) rfl (by kernel_rfl) rfl rfl ?_
 refine aP 0 rfl (qM rfl) rfl ?_
 refine aP 1 rfl (L9 (j := 0) rfl rfl rfl (by omega)) rfl ?_
 refine aL 2 rfl (J2 rfl rfl (hat0 _)) rfl ?_
 refine aP 3 rfl (B9 rfl rfl (by simp only [List.length_append, List.length_cons, List.length_nil]; omega)) rfl ?_
 refine A8 5 ?_
 (have hlab := hvl (by omega); refine M3 rfl rfl (B1A k num lb (B3 nl) (.mk tk tks) (.mk fk fks) ks _ _ (hvt (by omega)) (hvf (by omega)) hlab hr2) rfl rfl rfl ?_; have hlt := T0 (hvt (by omega)) (Int.le_refl _); have hlf := T0 (hvf (by omega)) (Int.le_refl _); have hll := A10 hlab.1 hlab.2)
 refine aP 6 rfl (B9 rfl rfl (by simp only [List.length_append, List.length_cons, List.length_nil]; omega)) rfl ?_
 refine aP 7 rfl (qA rfl) rfl ?_
 refine M7 (nS (tT (rB (rS (F0 (rT rfl) ?_)))))
 (have hk1 : k = 14 := (by omega); exact ⟨rfl, by rw [B1B hk1 (by omega)] <;> rfl⟩)
 refine E0 ?_
 (have hj6 : 6 ≤ k ∧ k ≤ 8 := (by omega); obtain ⟨j, hjk⟩ : ∃ j : Nat, k = (j : Int) + 6 := ⟨(k - 6).toNat, by omega⟩; subst hjk; have hx1 := hTl1 (by omega); refine I7 J0 rfl ?_)
 refine H2 (i := 0) (l' := [tt,ff,ff,ff,ff,ff,ff,ff,ff,ff,ff,ff,ff,ff,ff,ff,ff,ff,ff]) rfl E8 (qM rfl) rfl (by kernel_rfl) rfl rfl ?_
 refine aP 1 rfl (L9 (j := 0) rfl rfl rfl (by omega)) rfl ?_
 refine aL 2 rfl (J2 rfl rfl (hat0 _)) rfl ?_
 refine aP 3 rfl (B9 rfl rfl (by simp only [List.length_append, List.length_cons, List.length_nil]; omega)) rfl ?_
 refine aP 4 rfl (A5 rfl) rfl ?_
 refine aL 5 rfl (C1 rfl rfl) rfl ?_
 refine aP 6 rfl (A7S rfl rfl (by omega)) rfl ?_
 refine aP 7 rfl (A5 rfl) rfl ?_
 refine aL 8 rfl (C1 rfl rfl) rfl ?_
 refine aP 9 rfl (A7S rfl rfl (by omega)) rfl ?_
 refine aP 10 rfl (H4 (n := 1) rfl rfl (by omega)) rfl ?_
 refine aP 11 rfl (B1y rfl rfl rfl rfl (by omega)) rfl ?_
 refine aP 12 rfl (B9 rfl rfl (by simp only [List.length_append, List.length_cons, List.length_nil]; omega)) rfl ?_
 refine aP 13 rfl (qM rfl) rfl ?_
 refine aP 14 rfl (L9 (j := 1) rfl rfl rfl (by omega)) rfl ?_
 refine aL 15 rfl (J2 rfl rfl (hat1 (by omega) _)) rfl ?_
 refine aP 16 rfl (B9 rfl rfl (by simp only [List.length_append, List.length_cons, List.length_nil]; omega)) rfl ?_
 refine aP 17 rfl (B9 rfl rfl (by simp only [List.length_append, List.length_cons, List.length_nil]; omega)) rfl ?_
 refine aP 18 rfl (qA rfl) rfl ?_
 refine M7 (nS (tT (F0 (rT rfl) ?_)))
 (exact ⟨rfl, by rw [B1C rfl (by omega) (by omega)] <;> rfl⟩)
def A0j (V : Tm → Bool) (l : A0) (e : Tm) (ok : Bool) : Prop := (ok = true ∧ V e = true ∧ A3 e = l) ∨ (ok = false ∧ e = K1 ∧ ∀ x, V x = true → A3 x ≠ l)
theorem A0j.uniq {V : Tm → Bool} {l : A0} {e e' : Tm} {ok ok' : Bool} (hi : ∀ x y, V x = true → V y = true → A3 x = A3 y → x = y) (h : A0j V l e ok) (h' : A0j V l e' ok') : e = e' ∧ ok = ok' := by
 rcases h with ⟨a1, a2, a3⟩ | ⟨a1, a2, a3⟩ <;> rcases h' with ⟨b1, b2, b3⟩ | ⟨b1, b2, b3⟩
 ·exact ⟨hi _ _ a2 b2 (a3.trans b3.symm), a1.trans b1.symm⟩
 ·exact absurd a3 (b3 _ a2)
 ·exact absurd b3 (a3 _ b2)
 ·exact ⟨a2.trans b2.symm, a1.trans b1.symm⟩
def Y1 (V : Tm → Bool) (D N : Int) : Prop := 0 ≤ D ∧ D ≤ 40 ∧ ∀ e, V e = true → N7 D N e 1 = true ∧ D4 e ≤ 200
theorem A0A : Y1 N5 12 14 := ⟨by decide, by decide, fun e h => by have := (A50 e).1 h; exact ⟨this.1, by omega⟩⟩
theorem Y1.p {V : Tm → Bool} {D N : Int} (h : Y1 V D N) {e : Tm} (he : V e = true) : D5 40 (A3 e) = some (e, []) := A4q (h.2.2 e he).1 h.2.1
theorem Y1.r {V : Tm → Bool} {D N : Int} (h : Y1 V D N) {e : Tm} (he : V e = true) {n : Nat} (hn : D ≤ n) : E1 n (A3 e) = some (e, []) := B0p (h.2.2 e he).1 hn
theorem Y1.inj {V : Tm → Bool} {D N : Int} (h : Y1 V D N) : ∀ x y, V x = true → V y = true → A3 x = A3 y → x = y := fun x y hx hy he => B0q (h.2.2 x hx).1 (h.2.2 y hy).1 h.1 he
theorem Y1.ne {V : Tm → Bool} {D N : Int} (h : Y1 V D N) {e : Tm} (he : V e = true) : A3 e ≠ [] := fun h0 => by
 have := h.p he
 rw [h0] at this
 cases this
theorem A1x {c : UInt8} {l r : A0} (h : C3 c l = some r) : r.length + 1 = l.length := by
 cases l with
 | nil => cases h
 | cons b l =>
  rw [C3] at h
  split at h
  ·cases h; rfl
  ·cases h
theorem A4T {l : A0} {x : UInt8 × A0} (h : P0 l = some x) : x.2.length + 1 = l.length := by
 cases l with
 | nil => cases h
 | cons b l => cases h; rfl
theorem A4U : ∀ (n : Nat) (l : A0) (x : Ty × A0), J7 n l = some x → x.2.length + 1 ≤ l.length := by
 intro n
 induction n with
 | zero => intro l x h; cases h
 | succ n ih =>
  intro l x h
  cases l with
  | nil => cases h
  | cons b r =>
   rw [J7] at h
   split at h
   ·cases h; simp
   split at h
   ·cases h; simp
   split at h
   ·cases h; simp
   split at h
   ·simp only [Option.bind_eq_some_iff, Option.ite_none_right_eq_some, Option.map_eq_some_iff] at h
    obtain ⟨y, h1, o, h2, z, h3, _, w, h5, rfl⟩ := h
    have := ih _ _ h1
    have := A4T h2
    have := ih _ _ h3
    have := A1x h5
    simp only [List.length_cons]; omega
   ·cases h
theorem A7V : ∀ l : A0, M5 l ≤ l.length
 | [] => Nat.le_refl _
 | c :: r => by rw [M5]; split; have := A7V r; simp only [List.length_cons]; omega; exact Nat.zero_le _
theorem A4V {l : A0} {x : Int × A0} (h : X9 l = some x) : x.2.length + 1 ≤ l.length := by
 unfold X9 at h
 simp only at h
 split at h
 ·cases h
 ·rename_i hm
  cases h
  have h1 := A7V (l.take 4)
  rw [List.length_take] at h1
  rw [List.length_drop]
  have : ¬M5 (l.take 4) = 0 := fun h => hm (.inl h)
  omega
def A2B (f : A0 → Option (Tm × A0)) : Prop := ∀ l x, f l = some x → D4 x.1 + x.2.length ≤ l.length
theorem A3s {f : A0 → Option (Tm × A0)} (hf : A2B f) : ∀ (cs l : A0) (x : List Tm × A0), P1 f cs l = some x → H0 x.1 + x.2.length ≤ l.length
 | [], l, x, h => by rw [P1] at h; cases h; simp [H0]
 | c :: cs, l, x, h => by
  rw [P1] at h
  simp only [Option.bind_eq_some_iff, Option.map_eq_some_iff] at h
  obtain ⟨y, h1, r, h2, z, h3, rfl⟩ := h
  have := hf _ _ h1
  have := A1x h2
  have := A3s hf cs r z h3
  simp only [H0]; omega
theorem B1E {f : A0 → Option (Tm × A0)} (hf : A2B f) {l : A0} {x : Tm × A0} (h : U9 f l = some x) : D4 x.1 + x.2.length ≤ l.length := by
 unfold U9 at h
 simp only [Option.bind_eq_some_iff, Option.map_eq_some_iff] at h
 obtain ⟨y, h1, r, h2, t, h3, r2, h4, z, h5, rfl⟩ := h
 have := A4T h1
 have := A1x h2
 have := A4U _ _ _ h3
 have := A1x h4
 have := hf _ _ h5
 simp only [D4, H0]; omega
theorem B1F {a : Tm} {t : Ty} {l : A0} {x : Tm × A0} (h : T7 a t l = some x) : D4 x.1 + x.2.length ≤ l.length + D4 a := by
 unfold T7 at h
 simp only [Option.bind_eq_some_iff] at h
 obtain ⟨u, h1, r, h2, h3⟩ := h
 have := A4U _ _ _ h1
 have := A1x h2
 split at h3
 ·cases h3
 split at h3
 ·simp only [Option.bind_eq_some_iff, Option.map_eq_some_iff] at h3
  obtain ⟨m, h4, r3, h5, rfl⟩ := h3
  have := A4V h4
  have := A1x h5
  have : r.tail.length ≤ r.length := by rw [List.length_tail]; omega
  simp only [D4, H0]; omega
 ·simp only [Option.bind_eq_some_iff, Option.map_eq_some_iff] at h3
  obtain ⟨m, h4, r3, h5, rfl⟩ := h3
  have := A4V h4
  have := A1x h5
  simp only [D4, H0]; omega
theorem B1G {f : A0 → Option (Tm × A0)} (hf : A2B f) {l : A0} {x : Tm × A0} (h : R7 f l = some x) : D4 x.1 + x.2.length ≤ l.length := by
 unfold R7 at h
 simp only [Option.bind_eq_some_iff] at h
 obtain ⟨a, h1, o, h2, h3⟩ := h
 have ha := hf _ _ h1
 have ho := A4T h2
 have hb : ∀ k, A0S f k a.1 o.2 = some x → D4 x.1 + x.2.length ≤ l.length := fun k hk => by
  unfold A0S at hk
  simp only [Option.map_eq_some_iff] at hk
  obtain ⟨y, h4, rfl⟩ := hk
  have := A3s hf _ _ _ h4
  simp only [nd, D4, H0]; omega
 split at h3
 ·exact hb _ h3
 split at h3
 ·exact hb _ h3
 split at h3
 ·exact hb _ h3
 split at h3
 ·unfold Y0 at h3
  simp only [Option.bind_eq_some_iff] at h3
  obtain ⟨t, h4, h5⟩ := h3
  have := A4U _ _ _ h4
  have htl : t.2.tail.length ≤ t.2.length := by rw [List.length_tail]; omega
  split at h5
  ·cases h5; simp only [D4, H0]; omega
  split at h5
  ·have := B1F h5; omega
  ·cases h5
 ·cases h3
theorem A7W {f : A0 → Option (Tm × A0)} (hf : A2B f) {k : Int} {l : A0} {x : Tm × A0} (h : Q3 f k l = some x) : D4 x.1 + x.2.length ≤ l.length + 1 := by
 unfold Q3 at h
 simp only [Option.map_eq_some_iff] at h
 obtain ⟨y, h1, rfl⟩ := h
 have := hf _ _ h1
 simp only [nd, D4, H0]; omega
theorem B1H : ∀ n, A2B (E1 n) := by
 intro n
 induction n with
 | zero => intro l x h; cases h
 | succ n ih =>
  intro l x h
  cases l with
  | nil => cases h
  | cons b r =>
   rw [E1] at h
   simp only [List.length_cons]
   split at h
   ·cases h; simp only [nd, D4, H0]; omega
   split at h
   ·cases h; simp only [nd, D4, H0]; omega
   split at h
   ·have := B1E ih h; omega
   split at h
   ·have := B1G ih h; omega
   split at h
   ·simp only [Option.map_eq_some_iff] at h
    obtain ⟨y, h1, rfl⟩ := h
    have := A3s ih _ _ _ h1
    simp only [nd, D4]; omega
   split at h
   ·simp only [Option.map_eq_some_iff] at h
    obtain ⟨y, h1, rfl⟩ := h
    have := A3s ih _ _ _ h1
    simp only [nd, D4]; omega
   split at h
   ·have := A7W ih h; omega
   split at h
   ·have := A7W ih h; omega
   split at h
   ·cases h; simp only [D4, H0]; omega
   ·simp only [Option.map_eq_some_iff] at h
    obtain ⟨y, h1, rfl⟩ := h
    have := A4V h1
    simp only [List.length_cons] at this
    simp only [D4, H0]; omega
def A7X : Option A0 → Bool
 | some [] => true
 | _ => false
theorem B1I (b : Nat) (S : Option A0) (cs : List Value) (G : IM) (h : O4 S cs) : Fn Tryz.prog 88 [.pointer (some ⟨b, 0, none⟩)] [.blk b cs] G (fun G' v outs => G' = G ∧ v = .bool (A7X S) ∧ outs = [.blk b cs]) := by
 rcases h with ⟨rfl, s, hs, rfl⟩ | ⟨l, rfl, hl, rfl⟩
 ·refine B5 Tryz.func88 rfl Tryz.ntmps88 Tryz.results88 rfl ?_
  intro w0
  refine E0 ?_
  refine sQ (A6 rfl) rfl ?_
  refine O3 ?_
  refine B2 (outs := [.blk b _]) (rT rfl) (.cons (by repeat (first | exact Pk.here | apply Pk.there)) .nil) ?_
  (exact ⟨rfl, rfl, rfl⟩)
 ·cases l with
  | nil =>
   refine B5 Tryz.func88 rfl Tryz.ntmps88 Tryz.results88 rfl ?_
   intro w0
   refine E0 ?_
   refine sQ (A6 rfl) rfl ?_
   refine P9 ?_
   refine sQ (A6 rfl) rfl ?_
   refine sQ (A5 rfl) rfl (sL (C1 rfl rfl) rfl rfl ?_)
   refine sP (A4r A4t rfl rfl) rfl rfl ?_
   refine sQ (L4 rfl rfl) rfl (sQ (qA rfl) rfl (sD (nS (tT ?_))))
   refine B2 (outs := [.blk b _]) (rT rfl) (.cons (by repeat (first | exact Pk.here | apply Pk.there)) .nil) ?_
   (exact ⟨rfl, rfl, rfl⟩)
  | cons c r =>
   refine B5 Tryz.func88 rfl Tryz.ntmps88 Tryz.results88 rfl ?_
   intro w0
   refine E0 ?_
   refine sQ (A6 rfl) rfl ?_
   refine P9 ?_
   refine sQ (A6 rfl) rfl ?_
   refine sQ (A5 rfl) rfl (sL (C1 rfl rfl) rfl rfl ?_)
   refine sP (A4s (A4u _ _) rfl rfl) rfl rfl ?_
   refine sQ (L4 rfl rfl) rfl (sQ (qA rfl) rfl (sD (nS (tT ?_))))
   refine B2 (outs := [.blk b _]) (rT rfl) (.cons (by repeat (first | exact Pk.here | apply Pk.there)) .nil) ?_
   (exact ⟨rfl, rfl, rfl⟩)
def PsP (V : Tm → Bool) (l : A0) (G : IM) : IM → Value → List A1 → Prop := I1 fun G' v => ∃ e ok cells F, v = .tuple ⟨[.agg ⟨cells⟩, .bool ok]⟩ ∧ L8 (B0 G' G) e cells F ∧ F.Nodup ∧ A0j V l e ok
theorem PsP.no {V : Tm → Bool} {l : A0} {G G' : IM} (h : ∀ x, V x = true → A3 x ≠ l) : PsP V l G G' (.tuple ⟨[.agg ⟨[.int .i64 0, .string ⟨⟨[]⟩⟩, .int .i64 0, .int .i64 0, .slice none 0 0, .int .i64 0, .slice none 0 0, .int .i64 0, .slice none 0 0]⟩, .bool false]⟩) [] :=
 ⟨rfl, K1, false, _, [], rfl, L8.zero _, List.nodup_nil, .inr ⟨rfl, rfl, h⟩⟩
theorem B1J (V : Tm → Bool) (D N : Int) (hVO : Y1 V D N) (fid : FuncId) [B1 Tryz.prog fid] (hV : ∀ (e : Tm) (G : IM) (cells : List Value), B6 G e cells → Fn Tryz.prog fid [.agg ⟨cells⟩] [] G (J8 (.bool (V e)) G)) (l : A0) (hl : l.length ≤ 4294967296) (G : IM) (hT : A0t G) (hE : X2 G) :
  Fn Tryz.prog 41 [.string (B3 l), .func (.func fid) ⟨[]⟩ ⟨[]⟩] [] G (PsP V l G) := by
 have hpx : ∀ x, V x = true → A3 x = l → D5 40 l = some (x, []) := fun x hx he => by rw [← he]; exact hVO.p hx
 obtain ⟨m, hm⟩ : ∃ m, (some l).bind (D5 40) = m := ⟨_, rfl⟩
 have hm' : D5 40 l = m := hm
 rw [hm'] at hpx
 refine B5 Tryz.func41 rfl Tryz.ntmps41 Tryz.results41 rfl ?_
 intro w0
 refine tS (tR ?_)
 refine sE (C0 rfl) rfl (fun b3 => ?_)
 refine B8 ?_
 refine sE (K0 rfl rfl) rfl (fun b11 => ?_)
 refine sQ (qA rfl) rfl (sD (nS (tS (tR (sQ (qM rfl) rfl ?_)))))
 (refine B4 rfl (B04 _ 40 1 (some l) _ G (by omega) (by omega) hE (O4.yes hl)) (Pk.perm (by repeat (first | exact Pk.here | apply Pk.there))) rfl rfl (fun v G1 outs hle1 hh => ?_); rw [hm] at hh; obtain ⟨csa, ta, ca, Fa, rfl, hRa, rfl, hsa, hna, hva⟩ := hh; have hoa := hsa.R.one; obtain ⟨x1, x2, x3, x4, x5, x6, x7, x8, x9, rfl⟩ := T5 hsa; replace hT := hT.mono hle1; have hRT := hsa.R.mono (B0.le _ _))
 refine sE (C0 rfl) rfl (fun b19 => ?_)
 refine sS rfl rfl rfl rfl hoa rfl ?_
 refine sD (nS (tS (tS (tR (sQ (qM rfl) rfl ?_)))))
 (refine B4 rfl (B1I _ (m.map Prod.snd) csa G1 hRa) (Pk.perm (by repeat (first | exact Pk.here | apply Pk.there))) rfl rfl (fun v G2 outs hle2 hh => ?_); obtain ⟨hG, rfl, rfl⟩ := hh; replace hG := hG.symm; subst hG; obtain ⟨db, hdb⟩ : ∃ b, A7X (m.map Prod.snd) = b := ⟨_, rfl⟩; rw [hdb]; cases db)
 refine A1k ?_
 refine C8 (rC rfl (A7 rfl rfl)) (rT rfl) ?_
 (exact PsP.no fun x hx he => by rw [hpx x hx he] at hdb; cases hdb)
 refine I5 ?_
 (have hVt := hV ta G1 _ hRT; obtain ⟨vb, hvb⟩ : ∃ b, V ta = b := ⟨_, rfl⟩; rw [hvb] at hVt; cases vb <;> (refine D1 (N9 rfl rfl hVt (List.Perm.refl _) rfl) rfl ?_; rintro _ ⟨v, G7, outs, rfl, hle7, hG, rfl, rfl⟩; replace hG := hG.symm; subst hG))
 refine Y5 ?_
 refine C8 (rC rfl (A7 rfl rfl)) (rT rfl) ?_
 (exact PsP.no fun x hx he => by have := hva _ (hpx x hx he); rw [this] at hvb; rw [hx] at hvb; cases hvb)
 refine I5 ?_
 (obtain ⟨hs1, hs2⟩ := hVO.2.2 ta hvb; refine L5 rfl (A7Q D N ta 1 G1 _ hs1 (by omega) hT hRT) rfl rfl (fun v G3 hle3 hh => ?_); subst hh)
 refine sQ (qM rfl) rfl ?_
 refine sB (A0m rfl rfl) rfl rfl (fun hsn => ?_) (fun hsn => ?_)
 refine H3 ?_
 refine C8 (rC rfl (A7 rfl rfl)) (rT rfl) ?_
 (exact PsP.no fun x hx he => by have := hva _ (hpx x hx he); exact hsn (by rw [this]; exact congrArg B3 he))
 refine C2 ?_
 refine sS rfl rfl rfl rfl hoa rfl ?_
 refine sQ (qA rfl) rfl (sD (nS (tT ?_)))
 refine C8 (rC rfl (A7 rfl rfl)) (rT rfl) ?_
 (exact ⟨rfl, ta, true, _, Fa, rfl, hsa.mono (B0.mono hle3), hna, .inl ⟨rfl, hvb, A3j (Classical.not_not.1 hsn)⟩⟩)
theorem A4W (l : A0) (hl : l.length ≤ 4294967296) (G : IM) (hT : A0t G) (hE : X2 G) : Fn Tryz.prog 12 [.string (B3 l)] [] G (PsP N5 l G) := by
 refine B5 Tryz.func12 rfl Tryz.ntmps12 Tryz.results12 rfl ?_
 intro w0
 refine tS (tR ?_)
 refine sE (C0 rfl) rfl (fun b3 => ?_)
 refine sQ (qA rfl) rfl (sD (nS (tS (tR (sQ (qM rfl) rfl ?_)))))
 (refine L5 rfl (B1J N5 12 14 A0A 14 A3X l hl G hT hE) rfl rfl (fun v G1 hle1 hh => ?_); obtain ⟨e, ok, ce, F, rfl, hse, hne, hpa⟩ := hh; have hoe := hse.R.one; obtain ⟨x1, x2, x3, x4, x5, x6, x7, x8, x9, rfl⟩ := T5 hse)
 refine sQ (pX rfl rfl) rfl (sQ (pX rfl rfl) rfl ?_)
 refine sS rfl rfl rfl rfl hoe rfl ?_
 refine sQ (qA rfl) rfl (sD (nS (tT ?_)))
 refine C8 (rC rfl (A7 rfl rfl)) (rT rfl) ?_
 (exact ⟨rfl, e, ok, _, F, rfl, hse, hne, hpa⟩)
def A0B (V : Tm → Bool) (e : Tm) : A0 := if V e = true then A3 e else []
theorem A1y {V : Tm → Bool} {e : Tm} (h : V e = true) : A0B V e = A3 e := by unfold A0B; rw [if_pos h]
theorem A2C {V : Tm → Bool} {e : Tm} (h : V e = false) : A0B V e = [] := by unfold A0B; rw [if_neg (by rw [h]; decide)]
theorem A4X (e : Tm) (G : IM) (cells : List Value) (hT : A0t G) (hr : B6 G e cells) : Fn Tryz.prog 11 [.agg ⟨cells⟩] [] G (A1w (A0B N5 e)) := by
 have hl := hr.len
 have hone := hr.one
 have hw := A3X e G cells hr
 have hv1 := fun h : N5 e = true => A0A.2.2 e h
 refine B5 Tryz.func11 rfl Tryz.ntmps11 Tryz.results11 rfl ?_
 intro w0
 refine tS (tR ?_)
 refine sE (K0 rfl rfl) rfl (fun b3 => ?_)
 refine sQ (qA rfl) rfl (sD (nS (tS (tS (tR ?_)))))
 refine sL (C4 rfl rfl (E7 (by repeat first | exact mH | apply mT)) hl) rfl rfl ?_
 refine H7 rfl (hw) rfl rfl (fun h11 => ?_) (fun h11 => ?_)
 refine sQ (pNt rfl) rfl (sD (nS (cF rfl (tK (nS (tS (tR ?_)))))))
 refine sL (C4 rfl rfl (E7 (by repeat first | exact mH | apply mT)) hl) rfl rfl ?_
 (have hv2 := hv1 (by assumption); refine L5 rfl (A7Q 12 14 e 1 G _ hv2.1 (by omega) hT hr) rfl rfl (fun v G3 hle3 hh => ?_); subst hh)
 refine sQ (qA rfl) rfl (sD (nS (tT (F0 (rT rfl) ?_))))
 (exact ⟨rfl, by rw [A1y (by assumption)]⟩)
 refine Q6 ?_
 (exact ⟨rfl, by rw [A2C (by assumption)]; rfl⟩)
theorem A0j.fmt {V : Tm → Bool} {D N : Int} (hV : Y1 V D N) {e p : Tm} {ok : Bool} (h : A0j V (A0B V e) p ok) : ok = V e ∧ (ok = true → p = e) := by
 cases he : V e with
 | true =>
  rw [A1y he] at h
  rcases h with ⟨h1, h2, h3⟩ | ⟨_, _, h3⟩
  ·exact ⟨h1, fun _ => hV.inj _ _ h2 he h3⟩
  ·exact absurd rfl (h3 e he)
 | false =>
  rw [A2C he] at h
  rcases h with ⟨h1, h2, h3⟩ | ⟨h1, _, _⟩
  ·exact absurd h3 (hV.ne h2)
  ·exact ⟨h1, fun h2 => by rw [h1] at h2; cases h2⟩
theorem A0j.back {V : Tm → Bool} {l : A0} {e : Tm} (h : A0j V l e true) : A0B V e = l := by
 rcases h with ⟨_, h2, h3⟩ | ⟨h1, _, _⟩
 ·rw [A1y h2]; exact h3
 ·cases h1
theorem A7Y {V : Tm → Bool} {D N : Int} (hV : Y1 V D N) {e : Tm} (he : V e = true) : (A3 e).length ≤ 900000 := by
 obtain ⟨h1, h2⟩ := hV.2.2 e he
 have := A4S D N e 1 h1
 omega
theorem B1K {V : Tm → Bool} {D N : Int} (hV : Y1 V D N) (e : Tm) : (A0B V e).length ≤ 900000 := by
 cases he : V e with
 | true => rw [A1y he]; exact A7Y hV he
 | false => rw [A2C he]; exact Nat.zero_le _
def B1L (G : IM) : IM → Value → List A1 → Prop := I1 fun _ v => ∃ l, v = .string (B3 l) ∧ l.length ≤ 1000000
theorem B1M {l : List A0} (h : ∀ b ∈ l, b.length ≤ 1) : A7E (l.map fun b => Value.string (B3 b)) := by
 intro v hv
 obtain ⟨b, hb, rfl⟩ := List.mem_map.1 hv
 exact ⟨b, rfl, h b hb⟩
def A7Z (N : Nat) (G : IM) : IM → Value → List A1 → Prop := I1 fun G' v => ∃ t cells, v = .agg ⟨cells⟩ ∧ B6 G' t cells ∧ t.fit N
theorem B1N (G : IM) (q : Option Addr) (n c : Nat) (bs : List UInt8) (hb : Sl G q n c 1 (K2 bs)) : Fn Tryz.prog 39 [.slice q n c] [] G (A7Z 2000 G) := by
 refine B5 Tryz.func39 rfl Tryz.ntmps39 Tryz.results39 rfl ?_
 intro w0
 refine tS (tR ?_)
 refine sE (C0 rfl) rfl (fun b3 => ?_)
 refine sD (nS (tS (tR (sQ (qM rfl) rfl ?_))))
 (refine B4 rfl (A6l G q n c bs hb) (List.Perm.refl _) rfl rfl (fun v G1 outs hle1 hh => ?_); obtain ⟨rfl, br, pb, nb, cb, bs', rfl, rfl, hnb, hb'⟩ := hh)
 refine B8 ?_
 (refine B4 rfl (A9O br pb nb cb bs' hnb 0 _ hb' (by omega)) (Pk.perm (by repeat (first | exact Pk.here | apply Pk.there))) rfl rfl (fun v G3 outs hle3 hh => ?_); obtain ⟨p3, hp31, hp32, rfl, t3, cells3, rfl, hr3, hs3⟩ := hh; have hf3 : t3.fit 2000 := ⟨A52 t3 (by omega), by have := A1J t3; omega⟩)
 (refine B4 rfl (A9P br pb nb cb bs' hnb p3 _ (hb'.mono hle3) (by omega) t3 cells3 2000 hf3 hr3) (Pk.perm (by repeat (first | exact Pk.here | apply Pk.there))) rfl rfl (fun v G4 outs hle4 hh => ?_); obtain ⟨p4, hp41, hp42, rfl, t4, cells4, rfl, hr4, hf4⟩ := hh; have hl4 := hr4.len; have ho4 := hr4.one)
 refine sS rfl rfl rfl hl4 ho4 rfl ?_ (hu := by exact M1 hl4.symm)
 refine sD (nS (tT ?_))
 refine F0 (rC rfl (C4 rfl rfl (E7 (by repeat first | exact mH | apply mT)) hl4)) ?_
 exact ⟨rfl, t4, cells4, rfl, hr4, hf4⟩
theorem B1O (G : IM) (q : Option Addr) (n c : Nat) (bs : List UInt8) (hb : Sl G q n c 1 (K2 bs)) : Fn Tryz.prog 10 [.slice q n c] [] G (A7Z 2000 G) := by
 refine B5 Tryz.func10 rfl Tryz.ntmps10 Tryz.results10 rfl ?_
 intro w0
 refine tS (tR ?_)
 refine sE (C0 rfl) rfl (fun b3 => ?_)
 refine sD (nS (tS (tR (sQ (qM rfl) rfl ?_))))
 (refine L5 rfl (B1N G q n c bs hb) rfl rfl (fun v G4 hle4 hh => ?_); obtain ⟨t4, cells4, rfl, hr4, hf4⟩ := hh; have hl4 := hr4.len; have ho4 := hr4.one)
 refine sS rfl rfl rfl hl4 ho4 rfl ?_ (hu := by exact M1 hl4.symm)
 refine sD (nS (tT ?_))
 refine F0 (rC rfl (C4 rfl rfl (E7 (by repeat first | exact mH | apply mT)) hl4)) ?_
 exact ⟨rfl, t4, cells4, rfl, hr4, hf4⟩
theorem A70 (G : IM) (q : Option Addr) (n c : Nat) (bs : List UInt8) (hb : Sl G q n c 1 (K2 bs)) : Fn Tryz.prog 17 [.slice q n c] [] G (B1L G) := by
 refine B5 Tryz.func17 rfl Tryz.ntmps17 Tryz.results17 rfl ?_
 intro w0
 refine E0 ?_
 (refine B4 rfl (A6l G q n c bs hb) (List.Perm.refl _) rfl rfl (fun v G1 outs hle1 hh => ?_); obtain ⟨rfl, br, pb, nb, cb, bs', rfl, rfl, hnb, hb'⟩ := hh)
 refine B8 ?_
 (refine B4 rfl (B1u br pb nb cb bs' hnb 0 _ hb' (by omega)) (Pk.perm (by repeat (first | exact Pk.here | apply Pk.there))) rfl rfl (fun v G3 outs hle3 hh => ?_); obtain ⟨p3, hp31, hp32, rfl, t3, cells3, rfl, hr3, hs3, hv3⟩ := hh; replace hb' := hb'.mono hle3; have hlen := A7Y A0A hv3; obtain ⟨hsh, hcn⟩ := A0A.2.2 t3 hv3)
 (refine L5 rfl (A7U 12 14 t3 1 _ cells3 hsh (by omega) hr3) rfl rfl (fun v G4 hle4 hh => ?_); subst hh; replace hb' := hb'.mono hle4)
 (refine D1 (I4 rfl rfl rfl (by omega) (by unfold maxLen; omega) rfl) rfl ?_; rintro _ ⟨b19, rfl⟩)
 (refine N4 (by repeat (first | exact Pk.here | apply Pk.there)) (fun Gf hlef hslf _ => ?_); refine B4 rfl (B1s br pb nb cb bs' hnb p3 Gf (hb'.mono hlef) (by omega) (A3 t3) (by omega) _ _ _ _ hslf (by decide) (by exact B1M (l := [[], [40], [41], [120], [84], [48], [58], [33], [32]]) (by decide))) (Pk.perm (by repeat (first | exact Pk.here | apply Pk.there))) rfl rfl (fun v Gn outs hlen2 hh => ?_); obtain ⟨p4, hp41, hp42, rfl, l2, rfl, hl2⟩ := hh)
 refine sQ (qA rfl) rfl (sD (nS (tT (F0 (rT rfl) ?_))))
 exact ⟨rfl, l2, rfl, by omega⟩
theorem A11 {G : IM} {k num lb : Int} {nm : ByteArray} {ty fr : Ty} {ks : List Tm} {tc fc : List Value} {es : List (List Value)} {p : Option Addr} {n c : Nat} (hk : D7 k) (hnum : D7 num) (hlb : D7 lb) (ht : C5 G ty tc) (hf : C5 G fr fc) (hn : n = ks.length) (hs : D0 G p n c 9 es) (hr : D3 G ks es) :
  B6 G (.mk k nm num ty fr lb ks) ([.int .i64 k, .string nm, .int .i64 num] ++ tc ++ fc ++ [.int .i64 lb, .slice p n c]) := by
 subst hn
 simp only [B6]
 exact ⟨tc, fc, p, c, es, rfl, hk, hnum, hlb, ht, hf, hs, hr⟩
theorem A3t {G : IM} {p : Option Addr} {c : Nat} {t : Tm} {e : List Value} (h : Sl G p 1 c 9 e) (hr : B6 G t e) : D0 G p 1 c 9 [e] ∧ D3 G [t] [e] := by
 refine ⟨D0.of (by simpa using h) rfl (by simpa using hr.len) (by simpa using hr.one), ?_⟩
 simp only [D3]; exact ⟨e, [], rfl, hr, rfl⟩
theorem A2D {l : A0} {i : Nat} (h : i < l.length) : (l.drop i).headD 0 = l.getD i 0 := by rw [Z2 h]; rfl
section plain
variable {L : A0} {f : A0 → Option (Tm × A0)} {a nx ny : Nat} {t u : Ty} {x : Tm}
theorem B1P (h : L.length ≤ a + 1) : U9 f (L.drop a) = none := by
 unfold U9
 by_cases ha : a < L.length
 ·rw [Z3 ha]; simp only [Option.bind_some]; rw [A1d h]; rfl
 ·rw [A4N (by omega)]; rfl
theorem B1Q (h : a + 1 < L.length) (hc : L.getD (a + 1) 0 ≠ 58) : U9 f (L.drop a) = none := by
 unfold U9
 rw [Z3 (by omega)]; simp only [Option.bind_some]; rw [A0T h hc]; rfl
theorem B1R (h : a + 1 < L.length) (hc : L.getD (a + 1) 0 = 58) (h2 : J7 4 (L.drop (a + 2)) = none) : U9 f (L.drop a) = none := by
 unfold U9
 rw [Z3 (by omega)]; simp only [Option.bind_some]; rw [A0i h hc]; simp only [Option.bind_some]; rw [h2]; rfl
theorem A71 (h : a + 1 < L.length) (hc : L.getD (a + 1) 0 = 58) (h2 : J7 4 (L.drop (a + 2)) = some (t, L.drop nx)) (h3 : C3 46 (L.drop nx) = none) : U9 f (L.drop a) = none := by
 unfold U9
 rw [Z3 (by omega)]; simp only [Option.bind_some]; rw [A0i h hc]; simp only [Option.bind_some]; rw [h2]; simp only [Option.bind_some]; rw [h3]; rfl
theorem B1S (h : a + 1 < L.length) (hc : L.getD (a + 1) 0 = 58) (h2 : J7 4 (L.drop (a + 2)) = some (t, L.drop nx)) (h3 : nx < L.length) (h4 : L.getD nx 0 = 46) : U9 f (L.drop a) = (f (L.drop (nx + 1))).map fun z => (.mk 5 ⟨#[L.getD a 0]⟩ 0 t A4 0 [z.1], z.2) := by
 unfold U9
 rw [Z3 (by omega)]; simp only [Option.bind_some]; rw [A0i h hc]; simp only [Option.bind_some]; rw [h2]; simp only [Option.bind_some]; rw [A0i h3 h4]; rfl
theorem B1T (h : J7 4 (L.drop a) = none) : T7 x t (L.drop a) = none := by unfold T7; rw [h]; rfl
theorem B1U (h : J7 4 (L.drop a) = some (u, L.drop nx)) (h2 : L.length ≤ nx + 1) : T7 x t (L.drop a) = none := by
 unfold T7
 rw [h]; simp only [Option.bind_some]
 by_cases h3 : nx < L.length
 ·by_cases h4 : L.getD nx 0 = 35
  ·rw [A0i h3 h4]; simp only [Option.bind_some]; rw [if_pos (A1v h2)]
  ·rw [A0T h3 h4]; rfl
 ·rw [A1d (by omega)]; rfl
theorem B1V (h : J7 4 (L.drop a) = some (u, L.drop nx)) (h2 : nx < L.length) (h3 : L.getD nx 0 ≠ 35) : T7 x t (L.drop a) = none := by
 unfold T7
 rw [h]; simp only [Option.bind_some]; rw [A0T h2 h3]; rfl
theorem B1W (h : J7 4 (L.drop a) = some (u, L.drop nx)) (h2 : nx + 1 < L.length) (h3 : L.getD nx 0 = 35) (h4 : L.getD (nx + 1) 0 = 45) : T7 x t (L.drop a) = (X9 (L.drop (nx + 1 + 1))).bind fun m => (C3 41 m.2).map fun r3 => (.mk 14 ⟨#[]⟩ 0 u t (-m.1) [x], r3) := by
 unfold T7
 rw [h]; simp only [Option.bind_some]; rw [A0i (by omega) h3]; simp only [Option.bind_some]
 rw [if_neg (by rw [Z2 h2]; exact List.cons_ne_nil _ _), A2D h2, if_pos h4, List.tail_drop]
theorem B1X (h : J7 4 (L.drop a) = some (u, L.drop nx)) (h2 : nx + 1 < L.length) (h3 : L.getD nx 0 = 35) (h4 : L.getD (nx + 1) 0 ≠ 45) : T7 x t (L.drop a) = (X9 (L.drop (nx + 1))).bind fun m => (C3 41 m.2).map fun r3 => (.mk 14 ⟨#[]⟩ 0 u t m.1 [x], r3) := by
 unfold T7
 rw [h]; simp only [Option.bind_some]; rw [A0i (by omega) h3]; simp only [Option.bind_some]
 rw [if_neg (by rw [Z2 h2]; exact List.cons_ne_nil _ _), A2D h2, if_neg h4]
theorem B1Y (h : f (L.drop a) = none) : R7 f (L.drop a) = none := by unfold R7; rw [h]; rfl
theorem B1Z (h : f (L.drop a) = some (x, L.drop nx)) (h2 : L.length ≤ nx) : R7 f (L.drop a) = none := by unfold R7; rw [h]; simp only [Option.bind_some]; rw [A4N h2]; rfl
theorem B10 (h : f (L.drop a) = some (x, L.drop nx)) (h2 : nx < L.length) (h3 : L.getD nx 0 ≠ 32) (h4 : L.getD nx 0 ≠ 43) (h5 : L.getD nx 0 ≠ 60) (h6 : L.getD nx 0 ≠ 58) : R7 f (L.drop a) = none := by
 unfold R7; rw [h]; simp only [Option.bind_some]; rw [Z3 h2]; simp only [Option.bind_some]; rw [if_neg h3, if_neg h4, if_neg h5, if_neg h6]
theorem A4Y {k : Int} (h : f (L.drop a) = some (x, L.drop nx)) (h2 : nx < L.length) (h3 : (L.getD nx 0 = 32 ∧ k = 6) ∨ (L.getD nx 0 = 43 ∧ k = 7) ∨ (L.getD nx 0 = 60 ∧ k = 8)) : R7 f (L.drop a) = A0S f k x (L.drop (nx + 1)) := by
 unfold R7; rw [h]; simp only [Option.bind_some]; rw [Z3 h2]; simp only [Option.bind_some]
 rcases h3 with ⟨h3, rfl⟩ | ⟨h3, rfl⟩ | ⟨h3, rfl⟩
 ·rw [h3, if_pos rfl]
 ·rw [h3, if_neg (by decide), if_pos rfl]
 ·rw [h3, if_neg (by decide), if_neg (by decide), if_pos rfl]
theorem B11 (h : f (L.drop a) = some (x, L.drop nx)) (h2 : nx < L.length) (h3 : L.getD nx 0 = 58) : R7 f (L.drop a) = Y0 x (L.drop (nx + 1)) := by
 unfold R7; rw [h]; simp only [Option.bind_some]; rw [Z3 h2]; simp only [Option.bind_some]
 rw [h3, if_neg (by decide), if_neg (by decide), if_neg (by decide), if_pos rfl]
theorem B12 (h : J7 4 (L.drop a) = none) : Y0 x (L.drop a) = none := by unfold Y0; rw [h]; rfl
theorem A72 (h : J7 4 (L.drop a) = some (t, L.drop ny)) (h2 : L.length ≤ ny ∨ (L.getD ny 0 ≠ 41 ∧ L.getD ny 0 ≠ 126)) : Y0 x (L.drop a) = none := by
 unfold Y0; rw [h]; simp only [Option.bind_some]
 by_cases hn : ny < L.length
 ·rw [A2D hn]
  rcases h2 with h2 | ⟨h2, h3⟩
  ·omega
  ·rw [if_neg h2, if_neg h3]
 ·rw [A1v (by omega)]; rfl
theorem B13 (h : J7 4 (L.drop a) = some (t, L.drop ny)) (hn : ny < L.length) (h2 : L.getD ny 0 = 41) : Y0 x (L.drop a) = some (.mk 13 ⟨#[]⟩ 0 t A4 0 [x], L.drop (ny + 1)) := by
 unfold Y0; rw [h]; simp only [Option.bind_some]; rw [A2D hn, if_pos h2, List.tail_drop]
theorem B14 (h : J7 4 (L.drop a) = some (t, L.drop ny)) (hn : ny < L.length) (h2 : L.getD ny 0 = 126) : Y0 x (L.drop a) = T7 x t (L.drop (ny + 1)) := by
 unfold Y0; rw [h]; simp only [Option.bind_some]; rw [A2D hn, h2, if_neg (by decide), if_pos rfl, List.tail_drop]
end plain
theorem A4Z {L : A0} {a : Nat} (h : a < L.length) : (B3 L).extract a (a + 1) = B3 [L.getD a 0] := by
 rw [Z1, Z2 h, Nat.add_sub_cancel_left]; rfl
theorem B15 (L : A0) (hL : L.length ≤ 4294967296) (n : Nat) (hP : A3q L n) (a : Nat) (ha : a ≤ L.length) (G : IM) : Fn Tryz.prog 101 [.string (B3 L), .int .i64 (a : Int), .int .i64 (n : Int)] [] G (I2 L (U9 (E1 n) (L.drop a))) := by
 have hsz := I6 L
 obtain ⟨c1, hc1⟩ : ∃ c, L.getD (a + 1) 0 = c := ⟨_, rfl⟩
 refine B5 Tryz.func101 rfl Tryz.ntmps101 Tryz.results101 rfl ?_
 intro w0
 refine tS (tR ?_)
 refine sE (C0 rfl) rfl (fun b3 => ?_)
 refine B8 ?_
 refine sP (H4 (n := 1) rfl rfl (by omega)) rfl rfl ?_
 refine sQ (qM rfl) rfl ?_
 refine sQ (M0 rfl rfl) rfl (sB (P6 rfl rfl) rfl rfl (fun h14 => ?_) (fun h14 => ?_))
 refine W3 ?_
 refine C8 (rC rfl (A7 rfl rfl)) (rT rfl) ?_
 (exact I2.no (B1P (by omega)))
 refine sQ (qM rfl) rfl (sQ (qM rfl) rfl (sQ (qM rfl) rfl ?_))
 refine sP (H4 (n := 1) rfl rfl (by omega)) rfl rfl ?_
 refine sP (Z4 (j := a + 1) rfl rfl rfl (by omega) hc1) rfl rfl ?_
 refine sB (N8 rfl rfl) rfl rfl (fun h41 => ?_) (fun h41 => ?_)
 refine H3 ?_
 refine C8 (rC rfl (A7 rfl rfl)) (rT rfl) ?_
 (exact I2.no (B1Q (by omega) (by rw [hc1]; exact E4 (by show _ ≠ (58 : Int); omega))))
 refine O2 ?_
 refine sP (H4 (n := 2) rfl rfl (by omega)) rfl rfl ?_
 focus (refine L5 rfl (A4Q L hL 4 (a + 2) G (by omega) (by omega)) rfl rfl (fun v G1 hle1 hh => ?_); obtain ⟨ty, ct, nt, rfl, hrt, hmt⟩ := hh; have hot := hrt.one; obtain ⟨pa, cca, ea, rfl, _⟩ := hrt.open; rcases hmt with ⟨hmt, rfl⟩ | ⟨nx, hmt, rfl, hnx⟩; rotate_left; obtain ⟨o, ho⟩ : ∃ o, L.getD nx 0 = o := ⟨_, rfl⟩; rotate_left)
 refine F9 ?_
 refine sE (C0 rfl) rfl (fun b72 => ?_)
 refine sS rfl rfl rfl rfl hot rfl ?_
 refine B8 ?_
 refine sP (X5 rfl rfl (by omega)) rfl rfl ?_
 refine W2 ?_
 refine sS rfl rfl rfl rfl hot rfl ?_
 refine sQ (qA rfl) rfl (sD (nS (tT (rS ?_))))
 refine C8 (rC rfl (A7 rfl rfl)) (rT rfl) ?_
 (exact I2.no (B1R (by omega) (by rw [hc1]; exact E9 (b := 58) (by show _ = (58 : Int); omega)) hmt))
 refine F9 ?_
 refine sE (C0 rfl) rfl (fun b111 => ?_)
 refine sS rfl rfl rfl rfl hot rfl ?_
 refine B8 ?_
 refine sP (S1 rfl rfl (by omega)) rfl rfl ?_
 refine sQ (qM rfl) rfl (sQ (qM rfl) rfl (sQ (qM rfl) rfl ?_))
 refine sQ (M0 rfl rfl) rfl (sB (P6 rfl rfl) rfl rfl (fun h125 => ?_) (fun h125 => ?_))
 refine H3 ?_
 refine sS rfl rfl rfl rfl hot rfl ?_
 refine sQ (qA rfl) rfl (sD (nS (tT (rS ?_))))
 refine C8 (rC rfl (A7 rfl rfl)) (rT rfl) ?_
 (exact I2.no (A71 (by omega) (by rw [hc1]; exact E9 (b := 58) (by show _ = (58 : Int); omega)) hmt (A1d (by omega))))
 refine I5 ?_
 refine sP (Z4 (j := nx) rfl rfl rfl (by omega) ho) rfl rfl ?_
 refine sB (N8 rfl rfl) rfl rfl (fun h152 => ?_) (fun h152 => ?_)
 refine B8 ?_
 refine sS rfl rfl rfl rfl hot rfl ?_
 refine sQ (qA rfl) rfl (sD (nS (tT (rS ?_))))
 refine C8 (rC rfl (A7 rfl rfl)) (rT rfl) ?_
 (exact I2.no (A71 (by omega) (by rw [hc1]; exact E9 (b := 58) (by show _ = (58 : Int); omega)) hmt (A0T (by omega) (by rw [ho]; exact E4 (by show _ ≠ (46 : Int); omega)))))
 refine O2 ?_
 refine sP (H4 (n := 1) rfl rfl (by omega)) rfl rfl ?_
 refine sQ (qM rfl) rfl ?_
 (have hal : a < L.length := (by omega); refine L5 rfl (hP (nx + 1) G1 (by omega)) rfl rfl (fun v G2 hle2 hh => ?_); obtain ⟨tb, cb, nb, rfl, hrb, hmb⟩ := hh; have hob := hrb.one; obtain ⟨x1, x2, x3, x4, x5, x6, x7, x8, x9, rfl⟩ := X3 hrb; replace hrt := hrt.mono hle2)
 refine F9 ?_
 refine sE (C0 rfl) rfl (fun b184 => ?_)
 refine sS rfl rfl rfl rfl hob rfl ?_
 refine sQ (qA rfl) rfl (sD (nS (tS ?_)))
 refine I7 J0 rfl ?_
 refine H2 (i := 0) (l' := [tt,ff,ff,ff,ff,ff,ff,ff,ff,ff,ff,ff]) rfl E8 (qM rfl) rfl (by kernel_rfl) rfl rfl ?_
 refine aP 1 rfl (qM rfl) rfl ?_
 refine aP 2 rfl (qM rfl) rfl ?_
 refine aP 3 rfl (H4 (n := 1) rfl rfl (by omega)) rfl ?_
 refine aP 4 rfl (Y7 (l := a) (h := a + 1) rfl rfl rfl rfl (by omega) (by rw [I6]; omega)) rfl ?_
 refine aL 5 rfl (A7 rfl rfl) rfl ?_
 refine aL 6 rfl (A7 rfl rfl) rfl ?_
 refine aP 9 rfl (qM rfl) rfl ?_
 refine A8 7 ?_
 (refine T4 rfl (I4 rfl rfl rfl (by omega) (by unfold maxLen; omega) rfl) rfl rfl ?_; rintro _ ⟨b200, rfl⟩)
 refine aP 8 rfl (W0 rfl rfl) rfl ?_
 refine A8 10 ?_
 refine Q7 rfl ?_
 refine aP 11 rfl (qA rfl) rfl ?_
 refine M7 (nS ?_)
 (refine Y4 (cs := [x1, x2, x3, x4, x5, x6, x7, x8, x9]) (by repeat (first | exact Pk.here | apply Pk.there)) (fun G9 hle9 hsl9 hno9 => ?_); obtain ⟨hs1, hs2⟩ := A3t hsl9 (hrb.mono hle9); have hR9 := A11 (k := 5) (num := 0) (lb := 0) (nm := B3 [L.getD a 0]) (fr := A4) (ks := [tb]) ⟨by decide, by decide⟩ ⟨by decide, by decide⟩ ⟨by decide, by decide⟩ (hrt.mono hle9) (X8 G9) rfl hs1 hs2)
 refine tT ?_
 refine C8 (rC rfl (A7 rfl rfl)) (rT rfl) ?_
 (have hee := B1S (f := E1 n) (by omega) (by rw [hc1]; exact E9 (b := 58) (by show _ = (58 : Int); omega)) hmt (by omega) (by rw [ho]; exact E9 (b := 46) (by show _ = (46 : Int); omega)); rw [hee, A4Z hal]; rcases hmb with ⟨hmb, rfl⟩ | ⟨ny, hmb, rfl, hny⟩; exact I2.noT hR9 (by rw [hmb]; rfl); exact I2.yes hR9 (by rw [hmb]; rfl) hny)
theorem B16 (L : A0) (hL : L.length ≤ 4294967296) (x : Tm) (tk : Int) (tks : List Ty) (pt : Option Addr) (ct : Nat) (p : Option Addr) (c : Nat) (es : List (List Value)) (a : Nat) (ha : a ≤ L.length) (G : IM) (hty : C5 G (.mk tk tks) [.int .i64 tk, .slice pt tks.length ct]) (hsl : D0 G p 1 c 9 es) (hkl : D3 G [x] es) :
  Fn Tryz.prog 167 [.agg ⟨[.int .i64 13, .string ⟨⟨[]⟩⟩, .int .i64 0, .int .i64 tk, .slice pt tks.length ct, .int .i64 0, .slice none 0 0, .int .i64 0, .slice p 1 c]⟩, .string (B3 L), .int .i64 (a : Int)] [] G (I2 L (T7 x (.mk tk tks) (L.drop a))) := by
 have hsz := I6 L
 refine B5 Tryz.func167 rfl Tryz.ntmps167 Tryz.results167 rfl ?_
 intro w0
 refine tS (tR ?_)
 refine sE (K0 rfl rfl) rfl (fun b3 => ?_)
 refine sE (C0 rfl) rfl (fun b4 => ?_)
 refine B8 ?_
 focus (refine L5 rfl (A4Q L hL 4 a G (by omega) ha) rfl rfl (fun v G1 hle1 hh => ?_); obtain ⟨ty, ct, nt, rfl, hrt, hmt⟩ := hh; have hot := hrt.one; obtain ⟨pa, cca, ea, rfl, _⟩ := hrt.open; replace hty := hty.mono hle1; replace hsl := hsl.mono hle1; replace hkl := hkl.mono hle1; rcases hmt with ⟨hmt, rfl⟩ | ⟨nx, hmt, rfl, hnx⟩; rotate_left; obtain ⟨o, ho⟩ : ∃ o, L.getD nx 0 = o := ⟨_, rfl⟩; obtain ⟨o1, ho1⟩ : ∃ o, L.getD (nx + 1) 0 = o := ⟨_, rfl⟩; rotate_left)
 refine F9 ?_
 refine sE (C0 rfl) rfl (fun b16 => ?_)
 refine sS rfl rfl rfl rfl hot rfl ?_
 refine B8 ?_
 refine sP (X5 rfl rfl (by omega)) rfl rfl ?_
 refine W3 ?_
 refine sS rfl rfl rfl rfl hot rfl ?_
 refine sQ (qA rfl) rfl (sD (nS (tT (rS ?_))))
 refine C8 (rC rfl (A7 rfl rfl)) (rT rfl) ?_
 (exact I2.no (B1T hmt))
 refine F9 ?_
 refine sE (C0 rfl) rfl (fun b56 => ?_)
 refine sS rfl rfl rfl rfl hot rfl ?_
 refine B8 ?_
 refine sP (S1 rfl rfl (by omega)) rfl rfl ?_
 refine sQ (qM rfl) rfl (sQ (qM rfl) rfl ?_)
 refine sP (H4 (n := 1) rfl rfl (by omega)) rfl rfl ?_
 refine sQ (qM rfl) rfl ?_
 refine sQ (M0 rfl rfl) rfl (sB (P6 rfl rfl) rfl rfl (fun h71 => ?_) (fun h71 => ?_))
 refine H3 ?_
 refine sS rfl rfl rfl rfl hot rfl ?_
 refine sQ (qA rfl) rfl (sD (nS (tT (rS ?_))))
 refine C8 (rC rfl (A7 rfl rfl)) (rT rfl) ?_
 (exact I2.no (B1U hmt (by omega)))
 refine I5 ?_
 refine sP (Z4 (j := nx) rfl rfl rfl (by omega) ho) rfl rfl ?_
 refine sB (N8 rfl rfl) rfl rfl (fun h98 => ?_) (fun h98 => ?_)
 refine B8 ?_
 refine sS rfl rfl rfl rfl hot rfl ?_
 refine sQ (qA rfl) rfl (sD (nS (tT (rS ?_))))
 refine C8 (rC rfl (A7 rfl rfl)) (rT rfl) ?_
 (exact I2.no (B1V hmt (by omega) (by rw [ho]; exact E4 (by show _ ≠ (35 : Int); omega))))
 refine O3 ?_
 refine sP (H4 (n := 1) rfl rfl (by omega)) rfl rfl ?_
 refine E0 ?_
 refine sP (Z4 (j := nx + 1) rfl rfl rfl (by omega) ho1) rfl rfl ?_
 refine sB (qE rfl rfl) rfl rfl (fun h138 => ?_) (fun h138 => ?_)
 refine O2 ?_
 refine sP (H4 (n := 1) rfl rfl (by omega)) rfl rfl ?_
 refine B8 ?_
 focus (have hneg : L.getD (nx + 1) 0 = 45 := (by rw [ho1]; exact E9 (b := 45) (by show _ = (45 : Int); omega)); have hee := B1W (x := x) (t := .mk tk tks) hmt (by omega) (by rw [ho]; exact E9 (b := 35) (by show _ = (35 : Int); omega)) hneg; refine B4 rfl (A4R L hL (nx + 1 + 1) G1 (by omega)) (List.Perm.refl _) rfl rfl (fun v G2 outs hle2 hh => ?_); obtain ⟨hG, rfl, vv, nv, rfl, hv0, hv9, hmv⟩ := hh; replace hG := hG.symm; subst hG; rcases hmv with ⟨hmv, rfl⟩ | ⟨ny, hmv, rfl, hny⟩; rotate_left; obtain ⟨q, hq⟩ : ∃ q, L.getD ny 0 = q := ⟨_, rfl⟩; rotate_left)
 refine I3 ?_
 refine sP (X5 rfl rfl (by omega)) rfl rfl ?_
 refine W2 ?_
 refine sS rfl rfl rfl rfl hot rfl ?_
 refine sQ (qA rfl) rfl (sD (nS (tT (rS ?_))))
 refine C8 (rC rfl (A7 rfl rfl)) (rT rfl) ?_
 (exact I2.no (by rw [hee, hmv]; rfl))
 refine I3 ?_
 refine sP (S1 rfl rfl (by omega)) rfl rfl ?_
 refine sQ (qM rfl) rfl (sQ (qM rfl) rfl (sQ (qM rfl) rfl ?_))
 refine sQ (M0 rfl rfl) rfl (sB (P6 rfl rfl) rfl rfl (fun h212 => ?_) (fun h212 => ?_))
 refine H3 ?_
 refine sS rfl rfl rfl rfl hot rfl ?_
 refine sQ (qA rfl) rfl (sD (nS (tT (rS ?_))))
 refine C8 (rC rfl (A7 rfl rfl)) (rT rfl) ?_
 (exact I2.no (by rw [hee, hmv]; simp only [Option.bind_some]; rw [A1d (by omega)]; rfl))
 refine I5 ?_
 refine sP (Z4 (j := ny) rfl rfl rfl (by omega) hq) rfl rfl ?_
 refine sB (N8 rfl rfl) rfl rfl (fun h239 => ?_) (fun h239 => ?_)
 refine B8 ?_
 refine sS rfl rfl rfl rfl hot rfl ?_
 refine sQ (qA rfl) rfl (sD (nS (tT (rS ?_))))
 refine C8 (rC rfl (A7 rfl rfl)) (rT rfl) ?_
 (exact I2.no (by rw [hee, hmv]; simp only [Option.bind_some]; rw [A0T (by omega) (by rw [hq]; exact E4 (by show _ ≠ (41 : Int); omega))]; rfl))
 refine H3 ?_
 refine sP (A3A rfl rfl (by omega) (by omega)) rfl rfl ?_
 refine I5 ?_
 refine sP (H4 (n := 1) rfl rfl (by omega)) rfl rfl ?_
 refine sS rfl rfl rfl rfl hot rfl ?_
 refine sQ (qA rfl) rfl (sD (nS (tT ?_)))
 refine C8 (rC rfl (A7 rfl rfl)) (rT rfl) ?_
 (exact I2.yes (A11 (k := 14) (num := 0) (lb := -1 * vv) (nm := ⟨#[]⟩) ⟨by decide, by decide⟩ ⟨by decide, by decide⟩ ⟨by omega, by omega⟩ hrt hty rfl hsl hkl) (by rw [hee, hmv]; simp only [Option.bind_some]; rw [A0i (by omega) (by rw [hq]; exact E9 (b := 41) (by show _ = (41 : Int); omega)), show -1 * vv = -vv by omega]; rfl) (by omega))
 refine C2 ?_
 focus (have hneg : L.getD (nx + 1) 0 ≠ 45 := (by rw [ho1]; exact E4 (by show _ ≠ (45 : Int); omega)); have hee := B1X (x := x) (t := .mk tk tks) hmt (by omega) (by rw [ho]; exact E9 (b := 35) (by show _ = (35 : Int); omega)) hneg; refine B4 rfl (A4R L hL (nx + 1) G1 (by omega)) (List.Perm.refl _) rfl rfl (fun v G2 outs hle2 hh => ?_); obtain ⟨hG, rfl, vv, nv, rfl, hv0, hv9, hmv⟩ := hh; replace hG := hG.symm; subst hG; rcases hmv with ⟨hmv, rfl⟩ | ⟨ny, hmv, rfl, hny⟩; rotate_left; obtain ⟨q, hq⟩ : ∃ q, L.getD ny 0 = q := ⟨_, rfl⟩; rotate_left)
 refine I3 ?_
 refine sP (X5 rfl rfl (by omega)) rfl rfl ?_
 refine W2 ?_
 refine sS rfl rfl rfl rfl hot rfl ?_
 refine sQ (qA rfl) rfl (sD (nS (tT (rS ?_))))
 refine C8 (rC rfl (A7 rfl rfl)) (rT rfl) ?_
 (exact I2.no (by rw [hee, hmv]; rfl))
 refine I3 ?_
 refine sP (S1 rfl rfl (by omega)) rfl rfl ?_
 refine sQ (qM rfl) rfl (sQ (qM rfl) rfl (sQ (qM rfl) rfl ?_))
 refine sQ (M0 rfl rfl) rfl (sB (P6 rfl rfl) rfl rfl (fun h345 => ?_) (fun h345 => ?_))
 refine H3 ?_
 refine sS rfl rfl rfl rfl hot rfl ?_
 refine sQ (qA rfl) rfl (sD (nS (tT (rS ?_))))
 refine C8 (rC rfl (A7 rfl rfl)) (rT rfl) ?_
 (exact I2.no (by rw [hee, hmv]; simp only [Option.bind_some]; rw [A1d (by omega)]; rfl))
 refine I5 ?_
 refine sP (Z4 (j := ny) rfl rfl rfl (by omega) hq) rfl rfl ?_
 refine sB (N8 rfl rfl) rfl rfl (fun h372 => ?_) (fun h372 => ?_)
 refine B8 ?_
 refine sS rfl rfl rfl rfl hot rfl ?_
 refine sQ (qA rfl) rfl (sD (nS (tT (rS ?_))))
 refine C8 (rC rfl (A7 rfl rfl)) (rT rfl) ?_
 (exact I2.no (by rw [hee, hmv]; simp only [Option.bind_some]; rw [A0T (by omega) (by rw [hq]; exact E4 (by show _ ≠ (41 : Int); omega))]; rfl))
 refine H3 ?_
 refine sP (A3A rfl rfl (by omega) (by omega)) rfl rfl ?_
 refine I5 ?_
 refine sP (H4 (n := 1) rfl rfl (by omega)) rfl rfl ?_
 refine sS rfl rfl rfl rfl hot rfl ?_
 refine sQ (qA rfl) rfl (sD (nS (tT ?_)))
 refine C8 (rC rfl (A7 rfl rfl)) (rT rfl) ?_
 (exact I2.yes (A11 (k := 14) (num := 0) (lb := 1 * vv) (nm := ⟨#[]⟩) ⟨by decide, by decide⟩ ⟨by decide, by decide⟩ ⟨by omega, by omega⟩ hrt hty rfl hsl hkl) (by rw [hee, hmv]; simp only [Option.bind_some]; rw [A0i (by omega) (by rw [hq]; exact E9 (b := 41) (by show _ = (41 : Int); omega)), show 1 * vv = vv by omega]; rfl) (by omega))
theorem B17 (L : A0) (hL : L.length ≤ 4294967296) (n : Nat) (hP : A3q L n) (a : Nat) (ha : a ≤ L.length) (G : IM) : Fn Tryz.prog 102 [.string (B3 L), .int .i64 (a : Int), .int .i64 (n : Int)] [] G (I2 L (R7 (E1 n) (L.drop a))) := by
 have hsz := I6 L
 refine B5 Tryz.func102 rfl Tryz.ntmps102 Tryz.results102 rfl ?_
 intro w0
 refine tS (tR ?_)
 refine sE (C0 rfl) rfl (fun b3 => ?_)
 refine E0 ?_
 focus (refine L5 rfl (hP a G ha) rfl rfl (fun v G1 hle1 hh => ?_); obtain ⟨tb, cb, nb, rfl, hrb, hmb⟩ := hh; have hob := hrb.one; obtain ⟨x1, x2, x3, x4, x5, x6, x7, x8, x9, rfl⟩ := X3 hrb; rcases hmb with ⟨hmb, rfl⟩ | ⟨nx, hmb, rfl, hnx⟩; rotate_left; obtain ⟨o, ho⟩ : ∃ o, L.getD nx 0 = o := ⟨_, rfl⟩; rotate_left)
 refine F9 ?_
 refine sE (C0 rfl) rfl (fun b16 => ?_)
 refine sS rfl rfl rfl rfl hob rfl ?_
 refine B8 ?_
 refine sP (X5 rfl rfl (by omega)) rfl rfl ?_
 refine W2 ?_
 refine C8 (rC rfl (A7 rfl rfl)) (rT rfl) ?_
 (exact I2.no (B1Y hmb))
 refine F9 ?_
 refine sE (C0 rfl) rfl (fun b49 => ?_)
 refine sS rfl rfl rfl rfl hob rfl ?_
 refine B8 ?_
 refine sP (S1 rfl rfl (by omega)) rfl rfl ?_
 refine sQ (qM rfl) rfl (sQ (qM rfl) rfl (sQ (qM rfl) rfl ?_))
 refine sQ (M0 rfl rfl) rfl (sB (P6 rfl rfl) rfl rfl (fun h63 => ?_) (fun h63 => ?_))
 refine H3 ?_
 refine C8 (rC rfl (A7 rfl rfl)) (rT rfl) ?_
 (exact I2.no (B1Z hmb (by omega)))
 refine C2 ?_
 (refine D1 (I4 rfl rfl rfl (by omega) (by unfold maxLen; omega) rfl) rfl ?_; rintro _ ⟨b88, rfl⟩)
 refine sQ (W0 rfl rfl) rfl ?_
 refine sE (C0 rfl) rfl (fun b90 => ?_)
 refine E0 ?_
 refine sP (Z4 (j := nx) rfl rfl rfl (by omega) ho) rfl rfl ?_
 refine sD (nS ?_)
 refine D2 (tS (tR (sB (qE rfl rfl) rfl rfl (fun h105 => ?_) (fun h105 => ?_))))
 refine L6 ?_
 refine sP (H4 (n := 1) rfl rfl (by omega)) rfl rfl ?_
 refine sQ (qM rfl) rfl ?_
 (have hbe := A4Y (k := 6) hmb (by omega) (.inl ⟨(by rw [ho]; exact E9 (b := 32) (by show _ = (32 : Int); omega)), rfl⟩); have hl1 : D3 G1 [tb] [[x1, x2, x3, x4, x5, x6, x7, x8, x9]] := (by simp only [D3]; exact ⟨_, _, rfl, hrb, rfl⟩); refine B4 rfl (A2A L hL n hP 6 ⟨by decide, by decide⟩ [tb] [[x1, x2, x3, x4, x5, x6, x7, x8, x9]] _ _ [41] (by decide) (by simp) (nx + 1) (by omega) G1 hl1) (Pk.perm (by repeat (first | exact Pk.here | apply Pk.there))) rfl rfl (fun v G4 outs hle4 hh => ?_); obtain ⟨rfl, te, ce, ne, rfl, hre, hme⟩ := hh; have hoe := hre.one; obtain ⟨e1, e2, e3, e4, e5, e6, e7, e8, e9, rfl⟩ := X3 hre)
 refine sQ (pX rfl rfl) rfl (sQ (pX rfl rfl) rfl ?_)
 refine sS rfl rfl rfl rfl hoe rfl ?_
 refine sQ (qA rfl) rfl (sD (nS (tT ?_)))
 refine C8 (rC rfl (A7 rfl rfl)) (rT rfl) ?_
 (rw [hbe]; exact ⟨rfl, te, _, _, rfl, hre, hme⟩)
 refine sQ (qA rfl) rfl (sD (nS (cF rfl (tS (tR ?_)))))
 refine sB (qE rfl rfl) rfl rfl (fun h139 => ?_) (fun h139 => ?_)
 refine L6 ?_
 refine sP (H4 (n := 1) rfl rfl (by omega)) rfl rfl ?_
 refine sQ (qM rfl) rfl ?_
 (have hbe := A4Y (k := 7) hmb (by omega) (.inr (.inl ⟨(by rw [ho]; exact E9 (b := 43) (by show _ = (43 : Int); omega)), rfl⟩)); have hl1 : D3 G1 [tb] [[x1, x2, x3, x4, x5, x6, x7, x8, x9]] := (by simp only [D3]; exact ⟨_, _, rfl, hrb, rfl⟩); refine B4 rfl (A2A L hL n hP 7 ⟨by decide, by decide⟩ [tb] [[x1, x2, x3, x4, x5, x6, x7, x8, x9]] _ _ [41] (by decide) (by simp) (nx + 1) (by omega) G1 hl1) (Pk.perm (by repeat (first | exact Pk.here | apply Pk.there))) rfl rfl (fun v G4 outs hle4 hh => ?_); obtain ⟨rfl, te, ce, ne, rfl, hre, hme⟩ := hh; have hoe := hre.one; obtain ⟨e1, e2, e3, e4, e5, e6, e7, e8, e9, rfl⟩ := X3 hre)
 refine sQ (pX rfl rfl) rfl (sQ (pX rfl rfl) rfl ?_)
 refine sS rfl rfl rfl rfl hoe rfl ?_
 refine sQ (qA rfl) rfl (sD (nS (tT ?_)))
 refine C8 (rC rfl (A7 rfl rfl)) (rT rfl) ?_
 (rw [hbe]; exact ⟨rfl, te, _, _, rfl, hre, hme⟩)
 refine sQ (qA rfl) rfl (sD (nS (cF rfl (tS (tR ?_)))))
 refine sB (qE rfl rfl) rfl rfl (fun h173 => ?_) (fun h173 => ?_)
 refine L6 ?_
 refine sP (H4 (n := 1) rfl rfl (by omega)) rfl rfl ?_
 refine sQ (qM rfl) rfl ?_
 (have hbe := A4Y (k := 8) hmb (by omega) (.inr (.inr ⟨(by rw [ho]; exact E9 (b := 60) (by show _ = (60 : Int); omega)), rfl⟩)); have hl1 : D3 G1 [tb] [[x1, x2, x3, x4, x5, x6, x7, x8, x9]] := (by simp only [D3]; exact ⟨_, _, rfl, hrb, rfl⟩); refine B4 rfl (A2A L hL n hP 8 ⟨by decide, by decide⟩ [tb] [[x1, x2, x3, x4, x5, x6, x7, x8, x9]] _ _ [41] (by decide) (by simp) (nx + 1) (by omega) G1 hl1) (Pk.perm (by repeat (first | exact Pk.here | apply Pk.there))) rfl rfl (fun v G4 outs hle4 hh => ?_); obtain ⟨rfl, te, ce, ne, rfl, hre, hme⟩ := hh; have hoe := hre.one; obtain ⟨e1, e2, e3, e4, e5, e6, e7, e8, e9, rfl⟩ := X3 hre)
 refine sQ (pX rfl rfl) rfl (sQ (pX rfl rfl) rfl ?_)
 refine sS rfl rfl rfl rfl hoe rfl ?_
 refine sQ (qA rfl) rfl (sD (nS (tT ?_)))
 refine C8 (rC rfl (A7 rfl rfl)) (rT rfl) ?_
 (rw [hbe]; exact ⟨rfl, te, _, _, rfl, hre, hme⟩)
 refine sQ (qA rfl) rfl (sD (nS (cF rfl (tS (tR ?_)))))
 refine sB (qE rfl rfl) rfl rfl (fun h207 => ?_) (fun h207 => ?_)
 refine E0 ?_
 refine sP (H4 (n := 1) rfl rfl (by omega)) rfl rfl ?_
 focus (refine N4 (cs := [x1, x2, x3, x4, x5, x6, x7, x8, x9]) (by repeat (first | exact Pk.here | apply Pk.there)) (fun G2 hle2 hsl2 hno2 => ?_); obtain ⟨hs1, hs2⟩ := A3t hsl2 (hrb.mono hle2); have has := B11 hmb (by omega) (by rw [ho]; exact E9 (b := 58) (by show _ = (58 : Int); omega)); refine L5 rfl (A4Q L hL 4 (nx + 1) G2 (by omega) (by omega)) rfl rfl (fun v G3 hle3 hh => ?_); obtain ⟨ty, ct, nt, rfl, hrt, hmt⟩ := hh; have hot := hrt.one; obtain ⟨tk, tks⟩ := ty; obtain ⟨pa, cca, ea, rfl, _⟩ := hrt.open; replace hs1 := hs1.mono hle3; replace hs2 := hs2.mono hle3; rcases hmt with ⟨hmt, rfl⟩ | ⟨ny, hmt, rfl, hny⟩; rotate_left; obtain ⟨q, hq⟩ : ∃ q, L.getD ny 0 = q := ⟨_, rfl⟩; rotate_left)
 refine F9 ?_
 refine sE (C0 rfl) rfl (fun b221 => ?_)
 refine sS rfl rfl rfl rfl hot rfl ?_
 refine sQ (qA rfl) rfl (sD (nS (tS (tR (sQ (A5 rfl) rfl ?_)))))
 refine sS rfl rfl rfl rfl hot rfl ?_
 refine K8 ?_
 refine sS rfl rfl rfl rfl hot rfl ?_
 refine sD (nS (tS (tS (tR (sQ (qM rfl) rfl ?_)))))
 refine sP (A2L rfl rfl (by omega)) rfl rfl ?_
 refine A0o ?_
 refine sP (A2L rfl rfl (by omega)) rfl rfl ?_
 refine Y5 ?_
 refine sS rfl rfl rfl rfl hot rfl ?_
 refine sQ (qA rfl) rfl (sD (nS (tT (rB (rS ?_)))))
 refine C8 (rC rfl (A7 rfl rfl)) (rT rfl) ?_
 (rw [has]; exact I2.no (B12 hmt))
 refine F9 ?_
 refine sE (C0 rfl) rfl (fun b298 => ?_)
 refine sS rfl rfl rfl rfl hot rfl ?_
 refine sQ (qA rfl) rfl (sD (nS (tS (tR (sQ (A5 rfl) rfl ?_)))))
 refine sS rfl rfl rfl rfl hot rfl ?_
 refine K8 ?_
 refine sS rfl rfl rfl rfl hot rfl ?_
 refine sD (nS (tS (tS (tR (sQ (qM rfl) rfl ?_)))))
 refine sP (A2K rfl rfl (by omega)) rfl rfl ?_
 refine sQ (qM rfl) rfl (sQ (qM rfl) rfl (sQ (qM rfl) rfl ?_))
 refine sQ (M0 rfl rfl) rfl (sB (M9 rfl rfl) rfl rfl (fun h325 => ?_) (fun h325 => ?_))
 refine I5 ?_
 refine sP (Z4 (j := ny) rfl rfl rfl (by omega) hq) rfl rfl ?_
 refine sB (qE rfl rfl) rfl rfl (fun h331 => ?_) (fun h331 => ?_)
 refine E0 ?_
 refine sP (H4 (n := 1) rfl rfl (by omega)) rfl rfl ?_
 refine sS rfl rfl rfl rfl hot rfl ?_
 refine sQ (qA rfl) rfl (sD (nS (tT (rS (rB (rS ?_))))))
 refine C8 (rC rfl (A7 rfl rfl)) (rT rfl) ?_
 (rw [has]; exact I2.yes (A11 (k := 13) (num := 0) (lb := 0) (nm := ⟨#[]⟩) (fr := A4) ⟨by decide, by decide⟩ ⟨by decide, by decide⟩ ⟨by decide, by decide⟩ hrt (X8 _) rfl hs1 hs2) (B13 hmt (by omega) (by rw [hq]; exact E9 (b := 41) (by show _ = (41 : Int); omega))) (by omega))
 refine O2 ?_
 refine sP (A2K rfl rfl (by omega)) rfl rfl ?_
 refine sQ (qM rfl) rfl (sQ (qM rfl) rfl (sQ (qM rfl) rfl ?_))
 refine sQ (M0 rfl rfl) rfl ?_
 refine sP (X5 rfl rfl (by omega)) rfl rfl ?_
 refine I5 ?_
 refine sP (Z4 (j := ny) rfl rfl rfl (by omega) hq) rfl rfl ?_
 refine sB (qE rfl rfl) rfl rfl (fun h372 => ?_) (fun h372 => ?_)
 refine C2 ?_
 refine sP (H4 (n := 1) rfl rfl (by omega)) rfl rfl ?_
 (have hcl := B16 L hL tb tk tks _ _ _ _ _ (ny + 1) (by omega) G3 hrt hs1 hs2; have hqe : L.getD ny 0 = 126 := (by rw [hq]; exact E9 (b := 126) (by show _ = (126 : Int); omega)); refine L5 rfl hcl rfl rfl (fun v G4 hle4 hh => ?_); obtain ⟨te, ce, ne, rfl, hre, hme⟩ := hh; have hoe := hre.one; obtain ⟨e1, e2, e3, e4, e5, e6, e7, e8, e9, rfl⟩ := X3 hre)
 refine sQ (pX rfl rfl) rfl (sQ (pX rfl rfl) rfl ?_)
 refine sS rfl rfl rfl rfl hoe rfl ?_
 refine sQ (qA rfl) rfl (sD (nS (tT (rS (rB (rS ?_))))))
 refine C8 (rC rfl (A7 rfl rfl)) (rT rfl) ?_
 (rw [has, B14 hmt (by omega) hqe]; exact ⟨rfl, te, _, _, rfl, hre, hme⟩)
 refine C2 ?_
 refine sS rfl rfl rfl rfl hot rfl ?_
 refine sQ (qA rfl) rfl (sD (nS (tT (rB (rS ?_)))))
 refine C8 (rC rfl (A7 rfl rfl)) (rT rfl) ?_
 (rw [has]; exact I2.no (A72 hmt (.inr ⟨(by rw [hq]; exact E4 (by show _ ≠ (41 : Int); omega)), (by rw [hq]; exact E4 (by show _ ≠ (126 : Int); omega))⟩)))
 refine M8 ?_
 refine sP (A2K rfl rfl (by omega)) rfl rfl ?_
 refine sQ (qM rfl) rfl (sQ (qM rfl) rfl (sQ (qM rfl) rfl ?_))
 refine sQ (M0 rfl rfl) rfl ?_
 refine sP (S1 rfl rfl (by omega)) rfl rfl ?_
 refine L6 ?_
 refine sS rfl rfl rfl rfl hot rfl ?_
 refine sQ (qA rfl) rfl (sD (nS (tT (rB (rS ?_)))))
 refine C8 (rC rfl (A7 rfl rfl)) (rT rfl) ?_
 (rw [has]; exact I2.no (A72 hmt (.inl (by omega))))
 refine O3 ?_
 refine C8 (rC rfl (A7 rfl rfl)) (rT rfl) ?_
 (exact I2.no (B10 hmb (by omega) (by rw [ho]; exact E4 (by show _ ≠ (32 : Int); omega)) (by rw [ho]; exact E4 (by show _ ≠ (43 : Int); omega)) (by rw [ho]; exact E4 (by show _ ≠ (60 : Int); omega)) (by rw [ho]; exact E4 (by show _ ≠ (58 : Int); omega))))
theorem B18 (c : UInt8) : S2 (B3 [c]) = decide (97 ≤ c.toNat ∧ c.toNat ≤ 122) := by
 unfold S2
 have : (B3 [c]).size = 1 := rfl
 have h2 : (B3 [c]).data.getD 0 0 = c := rfl
 rw [h2, this]
 simp
section plain
variable {n : Nat} {r : A0}
theorem B19 (n : Nat) : E1 n [] = none := by cases n <;> rfl
theorem B2a : E1 (n + 1) (84 :: r) = some (nd 3 [], r) := by rw [E1, if_pos rfl]
theorem B2b : E1 (n + 1) (70 :: r) = some (nd 4 [], r) := by rw [E1, if_neg (by decide), if_pos rfl]
theorem B2c : E1 (n + 1) (33 :: r) = U9 (E1 n) r := by rw [E1, if_neg (by decide), if_neg (by decide), if_pos rfl]
theorem B2d : E1 (n + 1) (40 :: r) = R7 (E1 n) r := by rw [E1, if_neg (by decide), if_neg (by decide), if_neg (by decide), if_pos rfl]
theorem B2e : E1 (n + 1) (123 :: r) = (P1 (E1 n) [63, 58, 125] r).map fun x => (nd 9 x.1, x.2) := by rw [E1, if_neg (by decide), if_neg (by decide), if_neg (by decide), if_neg (by decide), if_pos rfl]
theorem B2f : E1 (n + 1) (91 :: r) = (P1 (E1 n) [44, 93] r).map fun x => (nd 10 x.1, x.2) := by rw [E1, if_neg (by decide), if_neg (by decide), if_neg (by decide), if_neg (by decide), if_neg (by decide), if_pos rfl]
theorem B2g : E1 (n + 1) (36 :: r) = Q3 (E1 n) 11 r := by rw [E1, if_neg (by decide), if_neg (by decide), if_neg (by decide), if_neg (by decide), if_neg (by decide), if_neg (by decide), if_pos rfl]
theorem B2h : E1 (n + 1) (37 :: r) = Q3 (E1 n) 12 r := by rw [E1, if_neg (by decide), if_neg (by decide), if_neg (by decide), if_neg (by decide), if_neg (by decide), if_neg (by decide), if_neg (by decide), if_pos rfl]
theorem B2i {c : UInt8} (g0 : c ≠ 84) (g1 : c ≠ 70) (g2 : c ≠ 33) (g3 : c ≠ 40) (g4 : c ≠ 123) (g5 : c ≠ 91) (g6 : c ≠ 36) (g7 : c ≠ 37) (h : 97 ≤ c.toNat ∧ c.toNat ≤ 122) : E1 (n + 1) (c :: r) = some (.mk 1 ⟨#[c]⟩ 0 A4 A4 0 [], r) := by rw [E1, if_neg g0, if_neg g1, if_neg g2, if_neg g3, if_neg g4, if_neg g5, if_neg g6, if_neg g7, if_pos h]
theorem B2j {c : UInt8} (g0 : c ≠ 84) (g1 : c ≠ 70) (g2 : c ≠ 33) (g3 : c ≠ 40) (g4 : c ≠ 123) (g5 : c ≠ 91) (g6 : c ≠ 36) (g7 : c ≠ 37) (h : ¬(97 ≤ c.toNat ∧ c.toNat ≤ 122)) : E1 (n + 1) (c :: r) = (X9 (c :: r)).map fun x => (.mk 2 ⟨#[]⟩ x.1 A4 A4 0 [], x.2) := by rw [E1, if_neg g0, if_neg g1, if_neg g2, if_neg g3, if_neg g4, if_neg g5, if_neg g6, if_neg g7, if_neg h]
end plain
theorem B2k (L : A0) (hL : L.length ≤ 4294967296) : ∀ (n : Nat), n ≤ 100 → A3q L n := by
 intro n
 induction n with
 | zero =>
  intro hn a G ha
  refine B5 Tryz.func51 rfl Tryz.ntmps51 Tryz.results51 rfl ?_
  intro w0
  refine tS (tR ?_)
  refine sE (C0 rfl) rfl (fun b3 => ?_)
  refine B8 ?_
  refine sP (X5 rfl rfl (by omega)) rfl rfl ?_
  refine A1E ?_
  refine C8 (rC rfl (A7 rfl rfl)) (rT rfl) ?_
  (exact I2.no rfl)
 | succ n ih =>
  intro hn a G ha
  have ih := ih (by omega)
  have hsz := I6 L
  have hnil : L.length ≤ a → E1 (n + 1) (L.drop a) = none := fun h => by rw [A1v h]; exact B19 _
  obtain ⟨c, hc⟩ : ∃ c, L.getD a 0 = c := ⟨_, rfl⟩
  have hcs := fun h : a < L.length => by have := Z2 h; rw [hc] at this; exact this
  refine B5 Tryz.func51 rfl Tryz.ntmps51 Tryz.results51 rfl ?_
  intro w0
  refine tS (tR ?_)
  refine sE (C0 rfl) rfl (fun b3 => ?_)
  refine B8 ?_
  refine sP (S1 rfl rfl (by omega)) rfl rfl ?_
  refine sQ (qM rfl) rfl (sQ (qM rfl) rfl ?_)
  refine sP (S1 rfl rfl (by omega)) rfl rfl ?_
  refine I5 ?_
  refine sQ (M0 rfl rfl) rfl (sB (P6 rfl rfl) rfl rfl (fun h20 => ?_) (fun h20 => ?_))
  refine H3 ?_
  refine C8 (rC rfl (A7 rfl rfl)) (rT rfl) ?_
  (exact I2.no (hnil (by omega)))
  refine I3 ?_
  refine sP (Z4 (j := a) rfl rfl rfl (by omega) hc) rfl rfl ?_
  refine sD (nS ?_)
  refine D2 (tS (tR (sB (qE rfl rfl) rfl rfl (fun h53 => ?_) (fun h53 => ?_))))
  refine E0 ?_
  refine sP (H4 (n := 1) rfl rfl (by omega)) rfl rfl ?_
  refine I8 ?_
  refine sQ (qA rfl) rfl (sD (nS (tT (rB (rS ?_)))))
  refine C8 (rC rfl (A7 rfl rfl)) (rT rfl) ?_
  (obtain rfl : c = 84 := E9 (b := 84) (by show _ = (84 : Int); omega); rw [hcs (by omega)]; exact I2.yes (A1O (k := 3) (ks := []) (es := []) ⟨by decide, by decide⟩ rfl (D0.nil _ _) rfl) B2a (by omega))
  refine sQ (qA rfl) rfl (sD (nS (cF rfl (tS (tR ?_)))))
  refine sB (qE rfl rfl) rfl rfl (fun h78 => ?_) (fun h78 => ?_)
  refine E0 ?_
  refine sP (H4 (n := 1) rfl rfl (by omega)) rfl rfl ?_
  refine I8 ?_
  refine sQ (qA rfl) rfl (sD (nS (tT (rB (rS ?_)))))
  refine C8 (rC rfl (A7 rfl rfl)) (rT rfl) ?_
  (obtain rfl : c = 70 := E9 (b := 70) (by show _ = (70 : Int); omega); rw [hcs (by omega)]; exact I2.yes (A1O (k := 4) (ks := []) (es := []) ⟨by decide, by decide⟩ rfl (D0.nil _ _) rfl) B2b (by omega))
  refine sQ (qA rfl) rfl (sD (nS (cF rfl (tS (tR ?_)))))
  refine sB (qE rfl rfl) rfl rfl (fun h103 => ?_) (fun h103 => ?_)
  refine E0 ?_
  refine sP (H4 (n := 1) rfl rfl (by omega)) rfl rfl ?_
  refine sQ (qM rfl) rfl ?_
  refine sP (X7 rfl rfl (by omega)) rfl rfl ?_
  (obtain rfl : c = 33 := E9 (b := 33) (by show _ = (33 : Int); omega); refine L5 rfl (B15 L hL n ih (a + 1) (by omega) G) rfl rfl (fun v G1 hle1 hh => ?_); obtain ⟨te, ce, ne, rfl, hre, hme⟩ := hh; have hoe := hre.one; obtain ⟨e1, e2, e3, e4, e5, e6, e7, e8, e9, rfl⟩ := X3 hre; rw [← B2c] at hme)
  refine sQ (pX rfl rfl) rfl (sQ (pX rfl rfl) rfl ?_)
  refine sS rfl rfl rfl rfl hoe rfl ?_
  refine sQ (qA rfl) rfl (sD (nS (tT (rB (rS ?_)))))
  refine C8 (rC rfl (A7 rfl rfl)) (rT rfl) ?_
  (rw [hcs (by omega)]; exact ⟨rfl, te, _, _, rfl, hre, hme⟩)
  refine sQ (qA rfl) rfl (sD (nS (cF rfl (tS (tR ?_)))))
  refine sB (qE rfl rfl) rfl rfl (fun h133 => ?_) (fun h133 => ?_)
  refine E0 ?_
  refine sP (H4 (n := 1) rfl rfl (by omega)) rfl rfl ?_
  refine sQ (qM rfl) rfl ?_
  refine sP (X7 rfl rfl (by omega)) rfl rfl ?_
  (obtain rfl : c = 40 := E9 (b := 40) (by show _ = (40 : Int); omega); refine L5 rfl (B17 L hL n ih (a + 1) (by omega) G) rfl rfl (fun v G1 hle1 hh => ?_); obtain ⟨te, ce, ne, rfl, hre, hme⟩ := hh; have hoe := hre.one; obtain ⟨e1, e2, e3, e4, e5, e6, e7, e8, e9, rfl⟩ := X3 hre; rw [← B2d] at hme)
  refine sQ (pX rfl rfl) rfl (sQ (pX rfl rfl) rfl ?_)
  refine sS rfl rfl rfl rfl hoe rfl ?_
  refine sQ (qA rfl) rfl (sD (nS (tT (rB (rS ?_)))))
  refine C8 (rC rfl (A7 rfl rfl)) (rT rfl) ?_
  (rw [hcs (by omega)]; exact ⟨rfl, te, _, _, rfl, hre, hme⟩)
  refine sQ (qA rfl) rfl (sD (nS (cF rfl (tS (tR ?_)))))
  refine sB (qE rfl rfl) rfl rfl (fun h163 => ?_) (fun h163 => ?_)
  refine C2 ?_
  refine sP (H4 (n := 1) rfl rfl (by omega)) rfl rfl ?_
  refine sQ (qM rfl) rfl ?_
  refine sP (X7 rfl rfl (by omega)) rfl rfl ?_
  (obtain rfl : c = 123 := E9 (b := 123) (by show _ = (123 : Int); omega); refine A5i 28 9 ?_; refine B4 rfl (A2A L hL n ih 9 ⟨by decide, by decide⟩ [] [] none 0 [63, 58, 125] (by decide) (by decide) (a + 1) (by omega) G (by simp only [D3])) (Pk.perm (by repeat (first | exact Pk.here | apply Pk.there))) rfl rfl (fun v G1 outs hle1 hh => ?_); obtain ⟨rfl, te, ce, ne, rfl, hre, hme⟩ := hh; have hoe := hre.one; obtain ⟨e1, e2, e3, e4, e5, e6, e7, e8, e9, rfl⟩ := X3 hre; simp only [List.nil_append] at hme; rw [← B2e] at hme)
  refine sQ (pX rfl rfl) rfl (sQ (pX rfl rfl) rfl ?_)
  refine sS rfl rfl rfl rfl hoe rfl ?_
  refine sQ (qA rfl) rfl (sD (nS (tT (rB (rS ?_)))))
  refine C8 (rC rfl (A7 rfl rfl)) (rT rfl) ?_
  (rw [hcs (by omega)]; exact ⟨rfl, te, _, _, rfl, hre, hme⟩)
  refine sQ (qA rfl) rfl (sD (nS (cF rfl (tS (tR ?_)))))
  refine sB (qE rfl rfl) rfl rfl (fun h194 => ?_) (fun h194 => ?_)
  refine C2 ?_
  refine sP (H4 (n := 1) rfl rfl (by omega)) rfl rfl ?_
  refine sQ (qM rfl) rfl ?_
  refine sP (X7 rfl rfl (by omega)) rfl rfl ?_
  (obtain rfl : c = 91 := E9 (b := 91) (by show _ = (91 : Int); omega); refine A5i 28 9 ?_; refine B4 rfl (A2A L hL n ih 10 ⟨by decide, by decide⟩ [] [] none 0 [44, 93] (by decide) (by decide) (a + 1) (by omega) G (by simp only [D3])) (Pk.perm (by repeat (first | exact Pk.here | apply Pk.there))) rfl rfl (fun v G1 outs hle1 hh => ?_); obtain ⟨rfl, te, ce, ne, rfl, hre, hme⟩ := hh; have hoe := hre.one; obtain ⟨e1, e2, e3, e4, e5, e6, e7, e8, e9, rfl⟩ := X3 hre; simp only [List.nil_append] at hme; rw [← B2f] at hme)
  refine sQ (pX rfl rfl) rfl (sQ (pX rfl rfl) rfl ?_)
  refine sS rfl rfl rfl rfl hoe rfl ?_
  refine sQ (qA rfl) rfl (sD (nS (tT (rB (rS ?_)))))
  refine C8 (rC rfl (A7 rfl rfl)) (rT rfl) ?_
  (rw [hcs (by omega)]; exact ⟨rfl, te, _, _, rfl, hre, hme⟩)
  refine sQ (qA rfl) rfl (sD (nS (cF rfl (tS (tR ?_)))))
  refine sB (qE rfl rfl) rfl rfl (fun h225 => ?_) (fun h225 => ?_)
  refine E0 ?_
  refine sP (H4 (n := 1) rfl rfl (by omega)) rfl rfl ?_
  refine sQ (qM rfl) rfl ?_
  refine sP (X7 rfl rfl (by omega)) rfl rfl ?_
  (refine L5 rfl (ih (a + 1) G (by omega)) rfl rfl (fun v G1 hle1 hh => ?_); obtain ⟨tb, cb, nb, rfl, hrb, hmb⟩ := hh; have hob := hrb.one; obtain ⟨x1, x2, x3, x4, x5, x6, x7, x8, x9, rfl⟩ := X3 hrb)
  refine F9 ?_
  refine sE (C0 rfl) rfl (fun b241 => ?_)
  refine sS rfl rfl rfl rfl hob rfl ?_
  refine K8 ?_
  (refine D1 (I4 rfl rfl rfl (by omega) (by unfold maxLen; omega) rfl) rfl ?_; rintro _ ⟨b249, rfl⟩)
  refine K8 ?_
  (obtain rfl : c = 36 := E9 (b := 36) (by show _ = (36 : Int); omega); refine Y4 (cs := [x1, x2, x3, x4, x5, x6, x7, x8, x9]) (by repeat (first | exact Pk.here | apply Pk.there)) (fun G9 hle9 hsl9 hno9 => ?_); obtain ⟨hs1, hs2⟩ := A3t hsl9 (hrb.mono hle9); have hR9 := A1O (k := 11) (ks := [tb]) ⟨by decide, by decide⟩ rfl hs1 hs2; have hun : E1 (n + 1) (36 :: L.drop (a + 1)) = Q3 (E1 n) 11 (L.drop (a + 1)) := B2g; have hal : a < L.length := (by omega))
  refine tT (rB (rS ?_))
  refine C8 (rC rfl (A7 rfl rfl)) (rT rfl) ?_
  (rw [hcs hal, hun]; rcases hmb with ⟨hmb, rfl⟩ | ⟨ny, hmb, rfl, hny⟩; exact I2.noT hR9 (by unfold Q3; rw [hmb]; rfl); exact I2.yes hR9 (by unfold Q3; rw [hmb]; rfl) hny)
  refine sQ (qA rfl) rfl (sD (nS (cF rfl (tS (tR ?_)))))
  refine sB (qE rfl rfl) rfl rfl (fun h268 => ?_) (fun h268 => ?_)
  refine E0 ?_
  refine sP (H4 (n := 1) rfl rfl (by omega)) rfl rfl ?_
  refine sQ (qM rfl) rfl ?_
  refine sP (X7 rfl rfl (by omega)) rfl rfl ?_
  (refine L5 rfl (ih (a + 1) G (by omega)) rfl rfl (fun v G1 hle1 hh => ?_); obtain ⟨tb, cb, nb, rfl, hrb, hmb⟩ := hh; have hob := hrb.one; obtain ⟨x1, x2, x3, x4, x5, x6, x7, x8, x9, rfl⟩ := X3 hrb)
  refine F9 ?_
  refine sE (C0 rfl) rfl (fun b284 => ?_)
  refine sS rfl rfl rfl rfl hob rfl ?_
  refine K8 ?_
  (refine D1 (I4 rfl rfl rfl (by omega) (by unfold maxLen; omega) rfl) rfl ?_; rintro _ ⟨b292, rfl⟩)
  refine K8 ?_
  (obtain rfl : c = 37 := E9 (b := 37) (by show _ = (37 : Int); omega); refine Y4 (cs := [x1, x2, x3, x4, x5, x6, x7, x8, x9]) (by repeat (first | exact Pk.here | apply Pk.there)) (fun G9 hle9 hsl9 hno9 => ?_); obtain ⟨hs1, hs2⟩ := A3t hsl9 (hrb.mono hle9); have hR9 := A1O (k := 12) (ks := [tb]) ⟨by decide, by decide⟩ rfl hs1 hs2; have hun : E1 (n + 1) (37 :: L.drop (a + 1)) = Q3 (E1 n) 12 (L.drop (a + 1)) := B2h; have hal : a < L.length := (by omega))
  refine tT (rB (rS ?_))
  refine C8 (rC rfl (A7 rfl rfl)) (rT rfl) ?_
  (rw [hcs hal, hun]; rcases hmb with ⟨hmb, rfl⟩ | ⟨ny, hmb, rfl, hny⟩; exact I2.noT hR9 (by unfold Q3; rw [hmb]; rfl); exact I2.yes hR9 (by unfold Q3; rw [hmb]; rfl) hny)
  refine H3 ?_
  refine sP (H4 (n := 1) rfl rfl (by omega)) rfl rfl ?_
  (have hal : a < L.length := (by omega); refine sP (Y7 (l := a) (h := a + 1) rfl rfl rfl rfl (by omega) (by omega)) rfl rfl ?_; rw [A4Z hal, hc])
  focus (have hnm := A5T (B3 [c]) G; rw [B18] at hnm; by_cases hlt : 97 ≤ c.toNat ∧ c.toNat ≤ 122; (rw [decide_eq_true hlt] at hnm); rotate_left; (rw [decide_eq_false hlt] at hnm); rotate_left; refine J9 rfl hnm rfl rfl ?_; rotate_left; refine J9 rfl hnm rfl rfl ?_; rotate_left)
  refine E0 ?_
  refine sP (H4 (n := 1) rfl rfl (by omega)) rfl rfl ?_
  (have hal : a < L.length := (by omega); refine sP (Y7 (l := a) (h := a + 1) rfl rfl rfl rfl (by omega) (by omega)) rfl rfl ?_; rw [A4Z hal, hc])
  refine sQ (W0 rfl rfl) rfl (sQ (qM rfl) rfl ?_)
  refine sP (H4 (n := 1) rfl rfl (by omega)) rfl rfl ?_
  refine I8 ?_
  refine sQ (qA rfl) rfl (sD (nS (tT (rS ?_))))
  refine C8 (rC rfl (A7 rfl rfl)) (rT rfl) ?_
  (rw [hcs (by omega)]; exact I2.yes (A11 (k := 1) (num := 0) (lb := 0) (nm := B3 [c]) (ty := A4) (fr := A4) (ks := []) (es := []) ⟨by decide, by decide⟩ ⟨by decide, by decide⟩ ⟨by decide, by decide⟩ (X8 _) (X8 _) rfl (D0.nil _ _) rfl) (B2i (E4 (by show _ ≠ (84 : Int); omega)) (E4 (by show _ ≠ (70 : Int); omega)) (E4 (by show _ ≠ (33 : Int); omega)) (E4 (by show _ ≠ (40 : Int); omega)) (E4 (by show _ ≠ (123 : Int); omega)) (E4 (by show _ ≠ (91 : Int); omega)) (E4 (by show _ ≠ (36 : Int); omega)) (E4 (by show _ ≠ (37 : Int); omega)) hlt) (by omega))
  refine C2 ?_
  (refine B4 rfl (A4R L hL a G ha) (List.Perm.refl _) rfl rfl (fun v G2 outs hle2 hh => ?_); obtain ⟨hG, rfl, vv, nv, rfl, hv0, hv9, hmv⟩ := hh; replace hG := hG.symm; subst hG; rw [hcs (by omega)] at hmv)
  refine W1 ?_
  refine C8 (rC rfl (A7 rfl rfl)) (rT rfl) ?_
  (rw [hcs (by omega), B2j (E4 (by show _ ≠ (84 : Int); omega)) (E4 (by show _ ≠ (70 : Int); omega)) (E4 (by show _ ≠ (33 : Int); omega)) (E4 (by show _ ≠ (40 : Int); omega)) (E4 (by show _ ≠ (123 : Int); omega)) (E4 (by show _ ≠ (91 : Int); omega)) (E4 (by show _ ≠ (36 : Int); omega)) (E4 (by show _ ≠ (37 : Int); omega)) hlt]; have hR9 := A11 (G := G) (k := 2) (num := vv) (lb := 0) (nm := ⟨#[]⟩) (ty := A4) (fr := A4) (ks := []) (es := []) ⟨by decide, by decide⟩ ⟨by omega, by omega⟩ ⟨by decide, by decide⟩ (X8 _) (X8 _) rfl (D0.nil _ _) rfl; rcases hmv with ⟨hmv, rfl⟩ | ⟨ny, hmv, rfl, hny⟩; exact I2.noT hR9 (by rw [hmv]; rfl); exact I2.yes hR9 (by rw [hmv]; rfl) hny)
def PsR (V : Tm → Bool) (l : A0) : IM → Value → List A1 → Prop := I1 fun G' v => ∃ e ok cells, v = .tuple ⟨[.agg ⟨cells⟩, .bool ok]⟩ ∧ B6 G' e cells ∧ A0j V l e ok
theorem PsR.no {V : Tm → Bool} {l : A0} {G' : IM} (h : ∀ x, V x = true → A3 x ≠ l) : PsR V l G' (.tuple ⟨[.agg ⟨[.int .i64 0, .string ⟨⟨[]⟩⟩, .int .i64 0, .int .i64 0, .slice none 0 0, .int .i64 0, .slice none 0 0, .int .i64 0, .slice none 0 0]⟩, .bool false]⟩) [] :=
 ⟨rfl, K1, false, _, rfl, (L8.zero G').R, .inr ⟨rfl, rfl, h⟩⟩
theorem A40 (e : Tm) (G : IM) (cells : List Value) (hcnt : D4 e ≤ 4294967296) (hr : B6 G e cells) : Fn Tryz.prog 13 [.agg ⟨cells⟩] [] G (A1w (A0B N5 e)) := by
 have hl := hr.len
 have hone := hr.one
 have hw := A1I e G cells hcnt hr
 have hv1 := fun h : N5 e = true => A0A.2.2 e h
 refine B5 Tryz.func13 rfl Tryz.ntmps13 Tryz.results13 rfl ?_
 intro w0
 refine tS (tR ?_)
 refine sE (K0 rfl rfl) rfl (fun b3 => ?_)
 refine sQ (qA rfl) rfl (sD (nS (tS (tS (tR ?_)))))
 refine sL (C4 rfl rfl (E7 (by repeat first | exact mH | apply mT)) hl) rfl rfl ?_
 refine H7 rfl (hw) rfl rfl (fun h11 => ?_) (fun h11 => ?_)
 refine sQ (pNt rfl) rfl (sD (nS (cF rfl (tK (nS (tS (tR ?_)))))))
 refine sL (C4 rfl rfl (E7 (by repeat first | exact mH | apply mT)) hl) rfl rfl ?_
 (have hv2 := hv1 (by assumption); refine L5 rfl (A7U 12 14 e 1 G _ hv2.1 (by omega) hr) rfl rfl (fun v G3 hle3 hh => ?_); subst hh)
 refine sQ (qA rfl) rfl (sD (nS (tT (F0 (rT rfl) ?_))))
 (exact ⟨rfl, by rw [A1y (by assumption)]⟩)
 refine Q6 ?_
 (exact ⟨rfl, by rw [A2C (by assumption)]; rfl⟩)
theorem A73 (L : A0) (hL : L.length ≤ 4294967296) (G : IM) : Fn Tryz.prog 18 [.string (B3 L)] [] G (PsR N5 L) := by
 have hsz := I6 L
 have hVO := A0A
 have hpx : ∀ x, N5 x = true → A3 x = L → E1 12 (L.drop 0) = some (x, []) := fun x hx he => by rw [← he]; exact hVO.r hx (by decide)
 have hcn := B1H 12 (L.drop 0)
 refine B5 Tryz.func18 rfl Tryz.ntmps18 Tryz.results18 rfl ?_
 intro w0
 refine tS (tR ?_)
 refine sE (C0 rfl) rfl (fun b3 => ?_)
 refine sQ (qA rfl) rfl (sD (nS (tS (tR (sQ (qM rfl) rfl ?_)))))
 (refine L5 rfl (B2k L hL 12 (by decide) 0 G (Nat.zero_le _)) rfl rfl (fun v G1 hle1 hh => ?_); obtain ⟨e, ce, ne, rfl, hre, hme⟩ := hh; have hoe := hre.one; obtain ⟨x1, x2, x3, x4, x5, x6, x7, x8, x9, rfl⟩ := X3 hre; rcases hme with ⟨hme, rfl⟩ | ⟨nx, hme, rfl, hnx⟩)
 refine F9 ?_
 refine sE (C0 rfl) rfl (fun b14 => ?_)
 refine sS rfl rfl rfl rfl hoe rfl ?_
 refine B8 ?_
 refine sB (A0W (s := B3 []) rfl rfl) rfl rfl (fun hse => ?_) (fun hse => ?_)
 refine A0Y ?_
 refine C8 (rC rfl (A7 rfl rfl)) (rT rfl) ?_
 (exact PsR.no fun x hx he => hVO.ne hx (he.trans (A3j hse)))
 refine sQ (qM rfl) rfl (sQ (qM rfl) rfl (sQ (qM rfl) rfl ?_))
 refine sQ (M0 rfl rfl) rfl ?_
 refine sP (V2 rfl rfl (by omega)) rfl rfl ?_
 refine W3 ?_
 refine C8 (rC rfl (A7 rfl rfl)) (rT rfl) ?_
 (exact PsR.no fun x hx he => by rw [hpx x hx he] at hme; cases hme)
 refine F9 ?_
 refine sE (C0 rfl) rfl (fun b79 => ?_)
 refine sS rfl rfl rfl rfl hoe rfl ?_
 refine B8 ?_
 refine sB (A0W (s := B3 []) rfl rfl) rfl rfl (fun hse => ?_) (fun hse => ?_)
 refine A0Y ?_
 refine C8 (rC rfl (A7 rfl rfl)) (rT rfl) ?_
 (exact PsR.no fun x hx he => hVO.ne hx (he.trans (A3j hse)))
 refine sQ (qM rfl) rfl (sQ (qM rfl) rfl (sQ (qM rfl) rfl ?_))
 refine sQ (M0 rfl rfl) rfl (sB (N8 rfl rfl) rfl rfl (fun h119 => ?_) (fun h119 => ?_))
 refine W3 ?_
 refine C8 (rC rfl (A7 rfl rfl)) (rT rfl) ?_
 (exact PsR.no fun x hx he => by rw [hpx x hx he] at hme; have h9 := congrArg List.length (Prod.mk.inj (Option.some.inj hme)).2; rw [List.length_drop] at h9; simp only [List.length_nil] at h9; omega)
 refine F9 ?_
 (have hnl : nx = L.length := (by omega); have hc2 := hcn _ hme; simp only [List.drop_zero] at hc2; refine L5 rfl (A40 e G1 _ (by omega) hre) rfl rfl (fun v G2 hle2 hh => ?_); subst hh; replace hre := hre.mono hle2)
 refine sQ (qM rfl) rfl ?_
 refine sB (A0m rfl rfl) rfl rfl (fun hsn => ?_) (fun hsn => ?_)
 refine H3 ?_
 refine C8 (rC rfl (A7 rfl rfl)) (rT rfl) ?_
 (exact PsR.no fun x hx he => by rw [hpx x hx he] at hme; have h9 := (Prod.mk.inj (Option.some.inj hme)).1; exact hsn (by rw [← h9, A1y hx]; exact congrArg B3 he))
 refine C2 ?_
 refine sS rfl rfl rfl rfl hoe rfl ?_
 refine sQ (qA rfl) rfl (sD (nS (tT ?_)))
 refine C8 (rC rfl (A7 rfl rfl)) (rT rfl) ?_
 (have h9 := A3j (Classical.not_not.1 hsn); cases hvb : N5 e; (rw [A2C hvb] at h9; exact absurd (congrArg B3 h9.symm) hse); (rw [A1y hvb] at h9; exact ⟨rfl, e, true, _, rfl, hre, .inl ⟨rfl, hvb, h9⟩⟩))
theorem B2l {P : Program} {Γ : F8} {env : H1} {hp : List A1} {G : IM} {ty : TypeId} {x y : Operand} {t t' : TypeId} {r : ByteArray} (hx : evo env x = some (.string r)) (hy : evo env y = some (.string r)) :
  C9 P Γ ⟨env, hp, G⟩ (.binOp .eql t x y t') ty (.bool true) := by
 have h := A0W (P := P) (Γ := Γ) (hp := hp) (G := G) (t := t) (t' := t') (ty := ty) hx hy
 simpa using h
theorem A74 : ∀ (t : Ty) (G : IM) (cells cells' : List Value), C5 G t cells → C5 G t cells' → Fn Tryz.prog 46 [.agg ⟨cells⟩, .agg ⟨cells'⟩] [] G (J8 (.bool true) G) := by
 refine Ty.ind fun k ks ih G cells cells' hr hr' => ?_
 obtain ⟨p, c, es, rfl, hk, hsl, hkl⟩ := hr.open
 obtain ⟨p', c', es', rfl, hk', hsl', hkl'⟩ := hr'.open
 simp only [Ty.k, Ty.ks] at hk hsl hkl hk' hsl' hkl' ⊢
 refine B5 Tryz.func46 rfl Tryz.ntmps46 Tryz.results46 rfl ?_
 intro w0
 refine tS (tR ?_)
 refine sE (K0 rfl rfl) rfl (fun b3 => ?_)
 refine sE (K0 rfl rfl) rfl (fun b4 => ?_)
 refine C2 ?_
 refine sP (Z9 rfl rfl (by omega)) rfl rfl ?_
 refine P9 ?_
 refine J9 rfl (A5P _ _ _ _ _ _ _ _ _ hsl hsl' _ [] [] [] (fun _ => true) true (by simp) (fun i e e' he he' => ih (ks.getD i A4) (hkl.inv he A4).1 _ _ _ (hkl.inv he A4).2 (hkl'.inv he' A4).2)) rfl rfl ?_
 refine K8 ?_
 exact ⟨rfl, rfl, rfl⟩
theorem B2m (G : IM) (p p' : Option Addr) (n c c' : Nat) (es es' : List (List Value)) (hsl : D0 G p n c 9 es) (hsl' : D0 G p' n c' 9 es') (fid : FuncId) [B1 Tryz.prog fid]
  (hq : ∀ (i : Nat) (e e' : List Value), es[i]? = some e → es'[i]? = some e' → Fn Tryz.prog fid [.agg ⟨e⟩, .agg ⟨e'⟩] [] G (T3 (.bool true) [] G)) :
  Fn Tryz.prog 47 [.slice p n c, .slice p' n c', .func (.func fid) ⟨[]⟩ ⟨[]⟩] [] G (J8 (.bool true) G) := by
 have hn := hsl.le
 refine B5 Tryz.func47 rfl Tryz.ntmps47 Tryz.results47 rfl ?_
 intro w0
 refine Q6 ?_
 refine sP (A1B rfl rfl (by omega)) rfl rfl ?_
 refine H3 ?_
 refine D2 (Q5 (fun i : Nat => ⟨[(17, .int .i64 i), (16, .int .i64 n), (15, .slice p n c), (2, .func (.func fid) ⟨[]⟩ ⟨[]⟩), (1, .slice p' n c'), (0, .slice p n c)], [], G⟩) (fun i => i ≤ n) (fun i => n - i) 0 ?_ ?_ ?_)
 exact I9
 exact Nat.zero_le _
 rintro i hi
 refine tS (tR ?_)
 refine sB (M9 rfl rfl) rfl rfl (fun h34 => ?_) (fun h34 => ?_)
 refine sD (nS (tS (qT rfl (tK (nS (tS ?_))))))
 refine D2 ?_
 refine tS (tR (sQ (qM rfl) rfl ?_))
 (obtain ⟨e, b, o, he, rfl, hl, _, hat, _⟩ := hsl.get (i := i) (by omega); refine sP (L9 rfl rfl rfl (by omega)) rfl rfl ?_)
 refine sL (C4 rfl rfl (hat _) hl) rfl rfl ?_
 refine sE (C0 rfl) rfl (fun b48 => ?_)
 refine sQ (qA rfl) rfl ?_
 refine S0 rfl rfl rfl (by assumption) (by assumption) rfl (by repeat first | exact Sw.here | apply Sw.there) (by exact M1 (by symm; assumption)) ?_
 refine sD (nS (tS (tR (sQ (qM rfl) rfl (sQ (qM rfl) rfl ?_)))))
 (obtain ⟨e', b', o', he', rfl, hl', _, hat', _⟩ := hsl'.get (i := i) (by omega); refine sP (L9 rfl rfl rfl (by omega)) rfl rfl ?_)
 refine sL (C4 rfl rfl (hat' _) hl') rfl rfl ?_
 refine sE (C0 rfl) rfl (fun b59 => ?_)
 refine S0 rfl rfl rfl (by assumption) (by assumption) rfl (by repeat first | exact Sw.here | apply Sw.there) (by exact M1 (by symm; assumption)) ?_
 refine sD (nS (tS (tR (sQ (qM rfl) rfl ?_))))
 refine sL (C4 rfl rfl (E7 (by repeat first | exact mH | apply mT)) (by assumption)) rfl rfl ?_
 refine sL (C4 rfl rfl (E7 (by repeat first | exact mH | apply mT)) (by assumption)) rfl rfl ?_
 refine A3M rfl rfl (hq i e e' he he') A5n rfl rfl (fun h68 => ?_) (fun h68 => ?_)
 simp only [Bool.not_eq_true', Bool.not_eq_false'] at h68
 refine E0 ?_
 refine sP (O6 rfl rfl (by omega) (by omega)) rfl rfl ?_
 refine sQ (qM rfl) rfl (sD ?_)
 refine P5 (i + 1) ?_ ?_ ?_
 exact I9
 omega
 omega
 refine M8 ?_
 (exact absurd (by assumption) (by decide))
 refine M8 ?_
 exact ⟨rfl, rfl, rfl⟩
theorem A2E : ∀ (t : Tm) (G : IM) (cells cells' : List Value), B6 G t cells → B6 G t cells' → Fn Tryz.prog 16 [.agg ⟨cells⟩, .agg ⟨cells'⟩] [] G (J8 (.bool true) G) := by
 refine Tm.ind fun k nm num ty fr lb ks ih G cells cells' hr hr' => ?_
 obtain ⟨tk, tks⟩ := ty
 obtain ⟨fk, fks⟩ := fr
 obtain ⟨pt, ct, pf, cf, p, c, es, rfl, hk, hnum, hlb, hty, hfr, hsl, hkl⟩ := hr.open9
 obtain ⟨pt', ct', pf', cf', p', c', es', rfl, _, _, _, hty', hfr', hsl', hkl'⟩ := hr'.open9
 have h1 := A74 (.mk tk tks) G _ _ hty hty'
 have h2 := A74 (.mk fk fks) G _ _ hfr hfr'
 refine B5 Tryz.func16 rfl Tryz.ntmps16 Tryz.results16 rfl ?_
 intro w0
 refine tS (tR ?_)
 refine sE (K0 rfl rfl) rfl (fun b3 => ?_)
 refine sE (K0 rfl rfl) rfl (fun b4 => ?_)
 refine C2 ?_
 refine sP (Z9 rfl rfl (by omega)) rfl rfl ?_
 refine P9 ?_
 refine sQ (B2l rfl rfl) rfl ?_
 refine K8 ?_
 refine sP (Z9 rfl rfl (by omega)) rfl rfl ?_
 refine K8 ?_
 refine J9 rfl (h1) rfl rfl ?_
 refine K8 ?_
 refine J9 rfl (h2) rfl rfl ?_
 refine K8 ?_
 refine sP (Z9 rfl rfl (by omega)) rfl rfl ?_
 refine K8 ?_
 refine J9 rfl (B2m _ _ _ _ _ _ _ _ hsl hsl' _ (fun i e e' he he' => ih (ks.getD i K1) (hkl.inv he K1).1 _ _ _ (hkl.inv he K1).2 (hkl'.inv he' K1).2)) rfl rfl ?_
 refine K8 ?_
 exact ⟨rfl, rfl, rfl⟩
theorem B2n (bs bs2 : List UInt8) (G : IM) (p : Option Addr) (n c : Nat) (p2 : Option Addr) (n2 c2 : Nat) (hT : A0t G) (hE : X2 G) (hb : Sl G p n c 1 (K2 bs)) (hb2 : Sl G p2 n2 c2 1 (K2 bs2)) : Fn Tryz.prog 3 [.slice p n c, .slice p2 n2 c2] [] G (I1 fun _ v => v = .bool true) := by
 have hn := hb.le
 have hn2 := hb2.le
 refine B5 Tryz.func3 rfl Tryz.ntmps3 Tryz.results3 rfl ?_
 intro w0
 refine O2 ?_
 refine sB (V8 rfl rfl) rfl rfl (fun h11 => ?_) (fun h11 => ?_)
 refine M8 ?_
 (exact ⟨rfl, rfl⟩)
 refine sQ (qM rfl) rfl (sQ (qM rfl) rfl (sQ (pLn rfl rfl) rfl ?_))
 refine sB (V8 rfl rfl) rfl rfl (fun h32 => ?_) (fun h32 => ?_)
 refine Q6 ?_
 (exact ⟨rfl, rfl⟩)
 refine C2 ?_
 (refine L5 rfl (B1O G _ _ _ bs hb) rfl rfl (fun v G1 hle1 hh => ?_); obtain ⟨a, ca, rfl, hra, hfa⟩ := hh; replace hT := hT.mono hle1; replace hE := hE.mono hle1; replace hb2 := hb2.mono hle1; have hca := hfa.2; have hla := hra.len; have hoa := hra.one; have hlf := B1K A0A a)
 refine sE (C0 rfl) rfl (fun b56 => ?_)
 first | refine S0 rfl rfl rfl hl3 ho3 rfl (by repeat first | exact Sw.here | apply Sw.there) (by exact M1 hl3.symm) ?_ | refine sS rfl rfl rfl hla hoa rfl ?_ (hu := by exact M1 hla.symm)
 refine sD (nS (tS (tR ?_)))
 refine sL (C4 rfl rfl (E7 (by repeat first | exact mH | apply mT)) hla) rfl rfl ?_
 (refine L5 rfl (A4X a _ ca hT hra) rfl rfl (fun v2 G2 hle2 hh => ?_); subst hh; replace hT := hT.mono hle2; replace hE := hE.mono hle2; replace hb2 := hb2.mono hle2; replace hra := hra.mono hle2)
 refine sQ (qA rfl) rfl (sD (nS (tS (tR (sQ (qM rfl) rfl ?_)))))
 focus (refine L5 rfl (A4W (A0B N5 a) (by omega) _ hT hE) rfl rfl (fun v3 G3 hle3 hh => ?_); obtain ⟨e3, ok3, c3, F3, rfl, hs3, hn3, hp3⟩ := hh; replace hT := hT.mono hle3; replace hE := hE.mono hle3; replace hb2 := hb2.mono hle3; replace hra := hra.mono hle3; have hr3 := hs3.R.mono (B0.le _ _); have hl3 := hr3.len; have ho3 := hr3.one; obtain ⟨hok, heq⟩ := hp3.fmt A0A; have hV1 := fun G' (h : A9 G3 G') => A3X a G' ca (hra.mono h); have hV2 := fun G' (h : A9 G3 G') => A1I a G' ca (by omega) (hra.mono h); rw [← hok] at hV1 hV2; cases ok3; rotate_left; have heq3 := heq rfl; subst heq3; rotate_left)
 refine F9 ?_
 refine sE (C0 rfl) rfl (fun b74 => ?_)
 first | refine S0 rfl rfl rfl hl3 ho3 rfl (by repeat first | exact Sw.here | apply Sw.there) (by exact M1 hl3.symm) ?_ | refine sS rfl rfl rfl hla hoa rfl ?_ (hu := by exact M1 hla.symm)
 refine sQ (qA rfl) rfl (sD (nS (tS (tS ?_))))
 refine I7 J0 rfl ?_
 refine A16 (i := 1) (l' := [ff,tt,ff,ff,ff,ff,ff,ff,ff,ff,ff,ff,ff,ff,ff,ff,ff,ff,ff,ff,ff,ff,ff,ff,ff,ff]) rfl E8 (C4 rfl rfl (E7 (by repeat first | exact mH | apply mT)) hla) rfl (by kernel_rfl) rfl rfl ?_
 refine aP 0 rfl (qM rfl) rfl ?_
 refine A8 2 ?_
 (refine A2c rfl rfl (A40 _ _ ca (by omega) hra) rfl rfl rfl (fun v4 G4 hle4 hh => ?_); subst hh; replace hT := hT.mono hle4; replace hE := hE.mono hle4; replace hb2 := hb2.mono hle4; have hra4 := hra.mono hle4; have hr34 := hr3.mono hle4)
 refine aP 3 rfl (A5G rfl rfl) rfl ?_
 refine aP 4 rfl (qM rfl) rfl ?_
 refine aL 5 rfl (C4 rfl rfl (E7 (by repeat first | exact mH | apply mT)) hla) rfl ?_
 refine aL 7 rfl (C4 rfl rfl (E7 (by repeat first | exact mH | apply mT)) hla) rfl ?_
 refine A8 6 ?_
 refine M3 rfl rfl (hV1 _ (by assumption)) rfl rfl rfl ?_
 refine A8 8 ?_
 refine M3 rfl rfl (hV2 _ (by assumption)) rfl rfl rfl ?_
 refine aP 9 rfl (A0N rfl rfl rfl) rfl ?_
 refine aP 10 rfl (M2 rfl rfl) rfl ?_
 refine aP 11 rfl (qM rfl) rfl ?_
 refine aL 13 rfl (C4 rfl rfl (E7 (by repeat first | exact mH | apply mT)) hla) rfl ?_
 refine aP 12 rfl (qM rfl) rfl ?_
 refine A8 14 ?_
 refine M3 rfl rfl (hV2 _ (by assumption)) rfl rfl rfl ?_
 refine aP 15 rfl (A0N rfl rfl rfl) rfl ?_
 refine aP 16 rfl (M2 rfl rfl) rfl ?_
 refine aP 17 rfl (qM rfl) rfl ?_
 refine aP 18 rfl (qM rfl) rfl ?_
 refine aP 19 rfl (qM rfl) rfl ?_
 refine D6 20 rfl rfl rfl ?_
 refine D6 21 rfl rfl rfl ?_
 refine D6 22 rfl rfl rfl ?_
 refine D6 23 rfl rfl rfl ?_
 refine aP 24 rfl (M2 rfl rfl) rfl ?_
 refine aP 25 rfl (M2 rfl rfl) rfl ?_
 refine M7 (nS (cF rfl (tK (nS (tS (tR (sQ (qM rfl) rfl ?_)))))))
 (refine L5 rfl (A70 _ _ _ _ bs2 hb2) rfl rfl (fun v5 G5 hle5 hh => ?_); obtain ⟨l, rfl, hll⟩ := hh; replace hT := hT.mono hle5; replace hE := hE.mono hle5)
 refine sQ (qA rfl) rfl (sD (nS (tS (tR (sQ (qM rfl) rfl ?_)))))
 (refine L5 rfl (A4W l (by omega) _ hT hE) rfl rfl (fun v6 G6 hle6 hh => ?_); obtain ⟨e6, ok6, c6, F6, rfl, hs6, hn6, hp6⟩ := hh; replace hT := hT.mono hle6; have hr6 := hs6.R.mono (B0.le _ _); have hl6 := hr6.len; have ho6 := hr6.one)
 refine F9 ?_
 refine sE (C0 rfl) rfl (fun b131 => ?_)
 refine sS rfl rfl rfl hl6 ho6 rfl ?_ (hu := by exact M1 hl6.symm)
 refine sQ (qA rfl) rfl (sD (nS (tS (tR (sQ (qM rfl) rfl ?_)))))
 focus (refine L5 rfl (A73 l (by omega) _) rfl rfl (fun v7 G7 hle7 hh => ?_); obtain ⟨e7, ok7, c7, rfl, hr7, hp7⟩ := hh; obtain ⟨he67, hk67⟩ := hp6.uniq A0A.inj hp7; subst he67; subst hk67; replace hT := hT.mono hle7; replace hr6 := hr6.mono hle7; have hl7 := hr7.len; have ho7 := hr7.one; have hback := fun (h : ok6 = true) => A0j.back (e := e6) (by rw [h] at hp6; exact hp6); cases ok6; rotate_left; replace hback := hback rfl; rotate_left)
 refine F9 ?_
 refine sE (C0 rfl) rfl (fun b143 => ?_)
 refine sS rfl rfl rfl hl7 ho7 rfl ?_ (hu := by exact M1 hl7.symm)
 refine B8 ?_
 refine sQ (A2H rfl rfl rfl) rfl ?_
 refine sQ (qM rfl) rfl ?_
 refine sL (C4 rfl rfl (E7 (by repeat first | exact mH | apply mT)) hl6) rfl rfl ?_
 refine sL (C4 rfl rfl (E7 (by repeat first | exact mH | apply mT)) hl7) rfl rfl ?_
 refine J9 rfl (A2E e6 _ c6 c7 hr6 hr7) rfl rfl ?_
 refine M8 ?_
 (exact ⟨rfl, rfl⟩)
 refine F9 ?_
 refine sE (C0 rfl) rfl (fun b177 => ?_)
 refine sS rfl rfl rfl hl7 ho7 rfl ?_ (hu := by exact M1 hl7.symm)
 refine B8 ?_
 refine sQ (A2H rfl rfl rfl) rfl ?_
 refine sQ (qM rfl) rfl ?_
 refine sL (C4 rfl rfl (E7 (by repeat first | exact mH | apply mT)) hl6) rfl rfl ?_
 refine sL (C4 rfl rfl (E7 (by repeat first | exact mH | apply mT)) hl7) rfl rfl ?_
 refine J9 rfl (A2E e6 _ c6 c7 hr6 hr7) rfl rfl ?_
 refine P9 ?_
 refine sL (C4 rfl rfl (E7 (by repeat first | exact mH | apply mT)) hl6) rfl rfl ?_
 (refine L5 rfl (A4X e6 _ c6 hT hr6) rfl rfl (fun v8 G8 hle8 hh => ?_); subst hh; rw [hback])
 refine sQ (qM rfl) rfl ?_
 refine sB (A0W rfl rfl) rfl rfl (fun h199 => ?_) (fun h199 => ?_)
 refine B8 ?_
 (exact ⟨rfl, rfl⟩)
 refine B8 ?_
 (exfalso; first | omega | contradiction | simp_all)
 refine F9 ?_
 refine sE (C0 rfl) rfl (fun b219 => ?_)
 first | refine S0 rfl rfl rfl hl3 ho3 rfl (by repeat first | exact Sw.here | apply Sw.there) (by exact M1 hl3.symm) ?_ | refine sS rfl rfl rfl hla hoa rfl ?_ (hu := by exact M1 hla.symm)
 refine sQ (qA rfl) rfl (sD (nS (tS (tS ?_))))
 refine I7 J0 rfl ?_
 refine A16 (i := 1) (l' := [ff,tt,ff,ff,ff,ff,ff,ff,ff,ff,ff,ff,ff,ff,ff,ff,ff,ff,ff,ff,ff,ff,ff,ff,ff,ff]) rfl E8 (C4 rfl rfl (E7 (by repeat first | exact mH | apply mT)) hla) rfl (by kernel_rfl) rfl rfl ?_
 refine aP 0 rfl (qM rfl) rfl ?_
 refine A8 2 ?_
 (refine A2c rfl rfl (A40 _ _ ca (by omega) hra) rfl rfl rfl (fun v4 G4 hle4 hh => ?_); subst hh; replace hT := hT.mono hle4; replace hE := hE.mono hle4; replace hb2 := hb2.mono hle4; have hra4 := hra.mono hle4; have hr34 := hr3.mono hle4)
 refine aP 3 rfl (A5G rfl rfl) rfl ?_
 refine aP 4 rfl (qM rfl) rfl ?_
 refine aL 5 rfl (C4 rfl rfl (E7 (by repeat first | exact mH | apply mT)) hla) rfl ?_
 refine aL 7 rfl (C4 rfl rfl (E7 (by repeat first | exact mH | apply mT)) hla) rfl ?_
 refine A8 6 ?_
 refine M3 rfl rfl (hV1 _ (by assumption)) rfl rfl rfl ?_
 refine A8 8 ?_
 refine M3 rfl rfl (hV2 _ (by assumption)) rfl rfl rfl ?_
 refine aP 9 rfl (A0N rfl rfl rfl) rfl ?_
 refine aP 10 rfl (M2 rfl rfl) rfl ?_
 refine aP 11 rfl (qM rfl) rfl ?_
 refine aL 13 rfl (C4 rfl rfl (E7 (by repeat first | exact mH | apply mT)) hla) rfl ?_
 refine aP 12 rfl (qM rfl) rfl ?_
 refine A8 14 ?_
 refine M3 rfl rfl (hV2 _ (by assumption)) rfl rfl rfl ?_
 refine aP 15 rfl (A0N rfl rfl rfl) rfl ?_
 refine aP 16 rfl (M2 rfl rfl) rfl ?_
 refine aP 17 rfl (qM rfl) rfl ?_
 refine aP 18 rfl (qM rfl) rfl ?_
 refine aP 19 rfl (qM rfl) rfl ?_
 refine aL 20 rfl (C4 rfl rfl (E7 (by repeat first | exact mH | apply mT)) hl3) rfl ?_
 refine aL 21 rfl (C4 rfl rfl (E7 (by repeat first | exact mH | apply mT)) hla) rfl ?_
 refine A8 22 ?_
 refine M3 rfl rfl (A2E _ _ c3 ca hr34 hra4) rfl rfl rfl ?_
 refine aP 23 rfl (pNt rfl) rfl ?_
 refine aP 24 rfl (L4 rfl rfl) rfl ?_
 refine aP 25 rfl (M2 rfl rfl) rfl ?_
 refine M7 (nS (cF rfl (tK (nS (tS (tR (sQ (qM rfl) rfl ?_)))))))
 (refine L5 rfl (A70 _ _ _ _ bs2 hb2) rfl rfl (fun v5 G5 hle5 hh => ?_); obtain ⟨l, rfl, hll⟩ := hh; replace hT := hT.mono hle5; replace hE := hE.mono hle5)
 refine sQ (qA rfl) rfl (sD (nS (tS (tR (sQ (qM rfl) rfl ?_)))))
 (refine L5 rfl (A4W l (by omega) _ hT hE) rfl rfl (fun v6 G6 hle6 hh => ?_); obtain ⟨e6, ok6, c6, F6, rfl, hs6, hn6, hp6⟩ := hh; replace hT := hT.mono hle6; have hr6 := hs6.R.mono (B0.le _ _); have hl6 := hr6.len; have ho6 := hr6.one)
 refine F9 ?_
 refine sE (C0 rfl) rfl (fun b277 => ?_)
 refine sS rfl rfl rfl hl6 ho6 rfl ?_ (hu := by exact M1 hl6.symm)
 refine sQ (qA rfl) rfl (sD (nS (tS (tR (sQ (qM rfl) rfl ?_)))))
 focus (refine L5 rfl (A73 l (by omega) _) rfl rfl (fun v7 G7 hle7 hh => ?_); obtain ⟨e7, ok7, c7, rfl, hr7, hp7⟩ := hh; obtain ⟨he67, hk67⟩ := hp6.uniq A0A.inj hp7; subst he67; subst hk67; replace hT := hT.mono hle7; replace hr6 := hr6.mono hle7; have hl7 := hr7.len; have ho7 := hr7.one; have hback := fun (h : ok6 = true) => A0j.back (e := e6) (by rw [h] at hp6; exact hp6); cases ok6; rotate_left; replace hback := hback rfl; rotate_left)
 refine F9 ?_
 refine sE (C0 rfl) rfl (fun b289 => ?_)
 refine sS rfl rfl rfl hl7 ho7 rfl ?_ (hu := by exact M1 hl7.symm)
 refine B8 ?_
 refine sQ (A2H rfl rfl rfl) rfl ?_
 refine sQ (qM rfl) rfl ?_
 refine sL (C4 rfl rfl (E7 (by repeat first | exact mH | apply mT)) hl6) rfl rfl ?_
 refine sL (C4 rfl rfl (E7 (by repeat first | exact mH | apply mT)) hl7) rfl rfl ?_
 refine J9 rfl (A2E e6 _ c6 c7 hr6 hr7) rfl rfl ?_
 refine M8 ?_
 (exact ⟨rfl, rfl⟩)
 refine F9 ?_
 refine sE (C0 rfl) rfl (fun b323 => ?_)
 refine sS rfl rfl rfl hl7 ho7 rfl ?_ (hu := by exact M1 hl7.symm)
 refine B8 ?_
 refine sQ (A2H rfl rfl rfl) rfl ?_
 refine sQ (qM rfl) rfl ?_
 refine sL (C4 rfl rfl (E7 (by repeat first | exact mH | apply mT)) hl6) rfl rfl ?_
 refine sL (C4 rfl rfl (E7 (by repeat first | exact mH | apply mT)) hl7) rfl rfl ?_
 refine J9 rfl (A2E e6 _ c6 c7 hr6 hr7) rfl rfl ?_
 refine P9 ?_
 refine sL (C4 rfl rfl (E7 (by repeat first | exact mH | apply mT)) hl6) rfl rfl ?_
 (refine L5 rfl (A4X e6 _ c6 hT hr6) rfl rfl (fun v8 G8 hle8 hh => ?_); subst hh; rw [hback])
 refine sQ (qM rfl) rfl ?_
 refine sB (A0W rfl rfl) rfl rfl (fun h345 => ?_) (fun h345 => ?_)
 refine B8 ?_
 (exact ⟨rfl, rfl⟩)
 refine B8 ?_
 (exfalso; first | omega | contradiction | simp_all)
end Gw
end Go.Proofs.YtgodjiieijekiaaGreatDoor
