/-
  A text, sometimes changed in one place.
-/
import Derived.Test.YtgodjiieijekiaaGreatDoorKi2
import Derived.Test.YtgodjiieijekiaaGreatDoorKi7
import Derived.Test.YtgodjiieijekiaaGreatDoorKi4
import Derived.Test.YtgodjiieijekiaaGreatDoorKi5
import Derived.Test.YtgodjiieijekiaaGreatDoorKi6
import Derived.Test.YtgodjiieijekiaaGreatDoorKi1
import Derived.Test.YtgodjiieijekiaaGreatDoorKi3
set_option linter.unusedVariables false
set_option linter.unusedSimpArgs false
set_option maxHeartbeats 0
set_option maxRecDepth 100000
set_option synthInstance.maxSize 4000
set_option synthInstance.maxHeartbeats 0
namespace Go.Proofs.YtgodjiieijekiaaGreatDoor
open Go Go.RowKit
namespace Gw
section bl
variable {P : Program} {Γ : K0} {env : K3} {hp : List A4} {G : IM} {ty : TypeId}
theorem B5z {x z : Operand} {t : TypeId} {i : M5} [hI : I0 P t i] (hd' : i.desc = .string) {l : A3} {h : Nat}
  (hx : evo env x = some (.string (D6 l))) (hz : evo env z = some (.int .i64 (h : Int))) (hh : h ≤ l.length) :
  H5 P Γ ⟨env, hp, G⟩ (.slice t x none (some z) none) ty (.string (D6 (l.take h))) := by
 have := A1Z (t := t) (i := i) (P := P) (Γ := Γ) (hp := hp) (G := G) (ty := ty) hd' hx hz (by rw [N3]; exact hh)
 rwa [A0V, Nat.sub_zero, List.drop_zero] at this
theorem B5A {x y : Operand} {t : TypeId} {i : M5} [hI : I0 P t i] (hd' : i.desc = .string) {s : A3} {l : Nat}
  (hx : evo env x = some (.string (D6 s))) (hy : evo env y = some (.int .i64 (l : Int))) (hl : l ≤ s.length) :
  H5 P Γ ⟨env, hp, G⟩ (.slice t x (some y) none none) ty (.string (D6 (s.drop l))) := by
 have := U5 (t := t) (i := i) (P := P) (Γ := Γ) (hp := hp) (G := G) (ty := ty) hd' hx hy (by rw [N3]; exact hl)
 rwa [A0V, N3, List.take_of_length_le (by rw [List.length_drop]; exact Nat.le_refl _)] at this
end bl
def B0y (xs : List Value) : Prop := ∀ v ∈ xs, ∃ b : A3, v = .string (D6 b) ∧ b.length ≤ 1
theorem B5B (br : Nat) (pb : Option Addr) (nb cb : Nat) (bs : List UInt8) (hnb : nb ≤ 2000) (p : Nat) (G : IM) (hb : Sl G pb nb cb 1 (N2 bs)) (hp : p + 10 < 1099511627776) (l : A3) (hl : l.length ≤ 1000000)
  (q : Option Addr) (n c : Nat) (xs : List Value) (hx : Sl G q n c 1 xs) (hn : 0 < n) (hxs : B0y xs) :
  Fn Tryz.prog 49 [.pointer (some ⟨br, 0, none⟩), .string (D6 l), .slice q n c] [rd br pb nb cb p] G (X4 br pb nb cb p 4 (fun _ v => ∃ l2, v = .string (D6 l2) ∧ l2.length ≤ l.length + 1)) := by
 have hsz := N3 l
 refine B8 Tryz.func49 rfl Tryz.ntmps49 Tryz.results49 rfl ?_
 intro w0
 refine C7 ?_
 refine sQ (P9 rfl rfl) rfl (sB (qE rfl rfl) rfl rfl (fun h11 => ?_) (fun h11 => ?_))
 refine N6 ?_
 refine C4 (outs := [rd br pb nb cb p]) (rT rfl) (by repeat (first | exact A0.nil | refine A0.cons Pk.here ?_ | refine A0.cons (Pk.there Pk.here) ?_ | refine A0.cons (Pk.there (Pk.there Pk.here)) ?_ | apply A0.drop)) ?_
 (exact ⟨p, by omega, by omega, rfl, l, rfl, by omega⟩)
 refine sQ (qM rfl) rfl (sQ (qM rfl) rfl ?_)
 (refine C0 rfl (S0 _ br pb nb cb p bs 2 hb hnb (by omega)) (Pk.perm (by repeat (first | exact Pk.here | apply Pk.there))) rfl rfl (fun v Gp outs hle32 hh => ?_); obtain ⟨rfl, rfl, j1, rfl, hj1, hk1⟩ := hh)
 replace hb := hb.mono hle32
 replace hx := hx.mono hle32
 refine sB (qE rfl rfl) rfl rfl (fun h33 => ?_) (fun h33 => ?_)
 refine Q4 ?_
 refine C4 (outs := [rd br pb nb cb (p + 1)]) (rT rfl) (by repeat (first | exact A0.nil | refine A0.cons Pk.here ?_ | refine A0.cons (Pk.there Pk.here) ?_ | refine A0.cons (Pk.there (Pk.there Pk.here)) ?_ | apply A0.drop)) ?_
 (exact ⟨p + 1, by omega, by omega, rfl, l, rfl, by omega⟩)
 refine M2 ?_
 refine sQ (P9 rfl rfl) rfl ?_
 (refine C0 rfl (S0 _ br pb nb cb (p + 1) bs (l.length : Int) hb hnb (by omega)) (Pk.perm (by repeat (first | exact Pk.here | apply Pk.there))) rfl rfl (fun v Gp outs hle59 hh => ?_); obtain ⟨rfl, rfl, j0, rfl, hj0, hk0⟩ := hh)
 replace hb := hb.mono hle59
 replace hx := hx.mono hle59
 refine sQ (qA rfl) rfl (sD (nS (tS ?_)))
 (obtain ⟨k, rfl⟩ := Int.eq_ofNat_of_zero_le hj0; have hkl : k < l.length := (by omega); refine D3 D4 rfl ?_)
 refine E8 (i := 0) (l' := [tt,ff,ff,ff,ff,ff,ff,ff,ff,ff,ff,ff,ff,ff,ff]) rfl C5 (qM rfl) rfl (by kernel_rfl) rfl rfl ?_
 refine aP 1 rfl (qM rfl) rfl ?_
 refine aP 2 rfl (B5z (l := l) (h := k) rfl rfl rfl (by omega)) rfl ?_
 refine aP 3 rfl (qM rfl) rfl ?_
 refine aP 4 rfl (qM rfl) rfl ?_
 refine aP 7 rfl (qM rfl) rfl ?_
 refine aP 8 rfl (qM rfl) rfl ?_
 refine aP 9 rfl (qM rfl) rfl ?_
 refine A1 5 ?_
 (have hcall := A4B _ br pb nb cb (p + 1 + 1) bs q n c xs hb hnb (by omega) hx hn; refine W4 (l' := [tt,tt,tt,tt,tt,tt,ff,tt,tt,tt,ff,ff,ff,ff,ff]) rfl rfl hcall (Pk.perm (by repeat (first | exact Pk.here | apply Pk.there))) rfl rfl rfl (by repeat (first | exact A5.nil | apply A5.dep (by decide +kernel) | apply A5.blk (by decide +kernel) (by repeat (first | exact Pk.here | apply Pk.there)) (by repeat first | exact mH | apply mT))) (fun v Gn outs hle74 hh => ?_); obtain ⟨rfl, rfl, hv⟩ := hh; obtain ⟨ob, rfl, hob⟩ := hxs _ hv)
 replace hb := hb.mono hle74
 replace hx := hx.mono hle74
 refine aP 6 rfl (F0 rfl rfl (by simp only [List.length_append, List.length_take, List.length_drop]; omega)) rfl ?_
 refine A1 10 ?_
 (have hcall := S0 _ br pb nb cb (p + 1 + 1 + 1) bs 2 hb hnb (by omega); refine W4 (l' := [tt,tt,tt,tt,tt,tt,tt,tt,tt,tt,tt,ff,ff,ff,ff]) rfl rfl hcall (Pk.perm (by repeat (first | exact Pk.here | apply Pk.there))) rfl rfl rfl (by repeat (first | exact A5.nil | apply A5.dep (by decide +kernel) | apply A5.blk (by decide +kernel) (by repeat (first | exact Pk.here | apply Pk.there)) (by repeat first | exact mH | apply mT))) (fun v Gn outs hle77 hh => ?_); obtain ⟨rfl, rfl, j3, rfl, hj3, hk3⟩ := hh; obtain ⟨j, rfl⟩ := Int.eq_ofNat_of_zero_le hj3)
 replace hb := hb.mono hle77
 replace hx := hx.mono hle77
 refine aP 11 rfl (K8 (m := k) (n := j) rfl rfl (by omega)) rfl ?_
 refine aP 12 rfl (B5A (s := l) (l := k + j) rfl rfl rfl (by omega)) rfl ?_
 refine aP 13 rfl (F0 rfl rfl (by simp only [List.length_append, List.length_take, List.length_drop]; omega)) rfl ?_
 refine aP 14 rfl (qA rfl) rfl ?_
 refine D8 (nS (tT ?_))
 refine C4 (outs := [rd br pb nb cb (p + 1 + 1 + 1 + 1)]) (rT rfl) (by repeat (first | exact A0.nil | refine A0.cons Pk.here ?_ | refine A0.cons (Pk.there Pk.here) ?_ | refine A0.cons (Pk.there (Pk.there Pk.here)) ?_ | apply A0.drop)) ?_
 (exact ⟨p + 1 + 1 + 1 + 1, by omega, by omega, rfl, _, rfl, by simp only [List.length_append, List.length_take, List.length_drop]; omega⟩)
section
variable {k : Int} {nm : ByteArray} {num : Int} {ty fr : Ty} {lb : Int} {ks : List Tm}
end
def B7x (t : Tm) : Nat := if T7 t = true then C3 t else 0
def B7y (G : IM) : IM → Value → List A4 → Prop := L7 fun G' v => ∃ a ca b cb f, v = .tuple ⟨[.agg ⟨ca⟩, .agg ⟨cb⟩, .int .i64 f]⟩ ∧ B5 G' a ca ∧ a.fit 1100 ∧ B5 G' b cb ∧ b.fit 1100 ∧ H4 f
def B7z (G : IM) : IM → Value → List A4 → Prop := L7 fun G' v => ∃ a ca b cb d cd, v = .tuple ⟨[.agg ⟨ca⟩, .agg ⟨cb⟩, .agg ⟨cd⟩]⟩ ∧ B5 G' a ca ∧ a.fit 1100 ∧ B5 G' b cb ∧ b.fit 1100 ∧ B5 G' d cd ∧ d.fit 1100
def B7A (N : Nat) (G : IM) : IM → Value → List A4 → Prop := L7 fun G' v => ∃ a ca f, v = .tuple ⟨[.agg ⟨ca⟩, .int .i64 f]⟩ ∧ B5 G' a ca ∧ a.fit N ∧ H4 f
theorem A0f : ∀ (ks : List Tm) (i : Nat) (h : i < ks.length), (R6 ks).getD i [] = B0 ks[i]
 | t :: ts, 0, _ => by rw [R6]; rfl
 | t :: ts, i + 1, h => by rw [R6]; exact A0f ts i (by simpa using h)
theorem B0z {k : Int} {nm : ByteArray} {num : Int} {ty fr : Ty} {lb : Int} {ks : List Tm} (hk : k = 5) (h : 1 ≤ ks.length) : B0 (.mk k nm num ty fr lb ks) = ([33] : A3) ++ nm.data.toList ++ ([58] : A3) ++ O7 ty ++ ([46] : A3) ++ B0 (ks[0]'(by omega)) := by
 subst hk
 rw [B0, L5]
 rw [A0f ks 0 (by omega)]
 simp
theorem B0A {k : Int} {nm : ByteArray} {num : Int} {ty fr : Ty} {lb : Int} {ks : List Tm} (hk : k = 6) (h : 2 ≤ ks.length) : B0 (.mk k nm num ty fr lb ks) = ([40] : A3) ++ B0 (ks[0]'(by omega)) ++ ([32] : A3) ++ B0 (ks[1]'(by omega)) ++ ([41] : A3) := by
 subst hk
 rw [B0, L5]
 rw [A0f ks 0 (by omega)]
 rw [A0f ks 1 (by omega)]
 simp
theorem B0B {k : Int} {nm : ByteArray} {num : Int} {ty fr : Ty} {lb : Int} {ks : List Tm} (hk : k = 7) (h : 2 ≤ ks.length) : B0 (.mk k nm num ty fr lb ks) = ([40] : A3) ++ B0 (ks[0]'(by omega)) ++ ([43] : A3) ++ B0 (ks[1]'(by omega)) ++ ([41] : A3) := by
 subst hk
 rw [B0, L5]
 rw [A0f ks 0 (by omega)]
 rw [A0f ks 1 (by omega)]
 simp
theorem B0C {k : Int} {nm : ByteArray} {num : Int} {ty fr : Ty} {lb : Int} {ks : List Tm} (hk : k = 8) (h : 2 ≤ ks.length) : B0 (.mk k nm num ty fr lb ks) = ([40] : A3) ++ B0 (ks[0]'(by omega)) ++ ([60] : A3) ++ B0 (ks[1]'(by omega)) ++ ([41] : A3) := by
 subst hk
 rw [B0, L5]
 rw [A0f ks 0 (by omega)]
 rw [A0f ks 1 (by omega)]
 simp
theorem B0D {k : Int} {nm : ByteArray} {num : Int} {ty fr : Ty} {lb : Int} {ks : List Tm} (hk : k = 9) (h : 3 ≤ ks.length) : B0 (.mk k nm num ty fr lb ks) = ([123] : A3) ++ B0 (ks[0]'(by omega)) ++ ([63] : A3) ++ B0 (ks[1]'(by omega)) ++ ([58] : A3) ++ B0 (ks[2]'(by omega)) ++ ([125] : A3) := by
 subst hk
 rw [B0, L5]
 rw [A0f ks 0 (by omega)]
 rw [A0f ks 1 (by omega)]
 rw [A0f ks 2 (by omega)]
 simp
theorem B0E {k : Int} {nm : ByteArray} {num : Int} {ty fr : Ty} {lb : Int} {ks : List Tm} (hk : k = 10) (h : 2 ≤ ks.length) : B0 (.mk k nm num ty fr lb ks) = ([91] : A3) ++ B0 (ks[0]'(by omega)) ++ ([44] : A3) ++ B0 (ks[1]'(by omega)) ++ ([93] : A3) := by
 subst hk
 rw [B0, L5]
 rw [A0f ks 0 (by omega)]
 rw [A0f ks 1 (by omega)]
 simp
theorem B0F {k : Int} {nm : ByteArray} {num : Int} {ty fr : Ty} {lb : Int} {ks : List Tm} (hk : k = 11) (h : 1 ≤ ks.length) : B0 (.mk k nm num ty fr lb ks) = ([36] : A3) ++ B0 (ks[0]'(by omega)) := by
 subst hk
 rw [B0, L5]
 rw [A0f ks 0 (by omega)]
 simp
theorem B0G {k : Int} {nm : ByteArray} {num : Int} {ty fr : Ty} {lb : Int} {ks : List Tm} (hk : k = 12) (h : 1 ≤ ks.length) : B0 (.mk k nm num ty fr lb ks) = ([37] : A3) ++ B0 (ks[0]'(by omega)) := by
 subst hk
 rw [B0, L5]
 rw [A0f ks 0 (by omega)]
 simp
theorem B0H {k : Int} {nm : ByteArray} {num : Int} {ty fr : Ty} {lb : Int} {ks : List Tm} (hk : k = 13) (h : 1 ≤ ks.length) : B0 (.mk k nm num ty fr lb ks) = ([40] : A3) ++ B0 (ks[0]'(by omega)) ++ ([58] : A3) ++ O7 ty ++ ([41] : A3) := by
 subst hk
 rw [B0, L5]
 rw [A0f ks 0 (by omega)]
 simp
theorem B0I {k : Int} {nm : ByteArray} {num : Int} {ty fr : Ty} {lb : Int} {ks : List Tm} (hk : k = 14) (h : 1 ≤ ks.length) : B0 (.mk k nm num ty fr lb ks) = ([40] : A3) ++ B0 (ks[0]'(by omega)) ++ ([58] : A3) ++ O7 fr ++ ([126] : A3) ++ O7 ty ++ ([35] : A3) ++ Lib.itoa lb ++ ([41] : A3) := by
 subst hk
 rw [B0, L5]
 rw [A0f ks 0 (by omega)]
 simp
theorem A3k {n : Int} (h0 : -999 ≤ n) (h1 : n ≤ 999) : (Lib.itoa n).length ≤ 4 := by
 by_cases hn : n < 0
 ·rw [A6v hn h0]
  have := (A2f (u := n.natAbs) (by omega)).2.2.1
  simp only [List.length_cons]; omega
 ·rw [A3Y (by omega) h1]
  have := (A2f (u := n.toNat) (by omega)).2.2.1
  omega
theorem A5a (D N : Int) : ∀ (e : Tm) (d : Int), L8 D N e d = true → (B0 e).length ≤ 100 * C3 e := by
 refine Tm.ind fun k nm num ty fr lb ks ih d h => ?_
 obtain ⟨hd, _, h3, h4⟩ := Z4 h
 have I : ∀ x ∈ ks, (B0 x).length ≤ 100 * C3 x := fun x hx => by
  obtain ⟨i, hi, rfl⟩ := List.getElem_of_mem hx
  exact ih _ (List.getElem_mem hi) (d + 1) ((A0m D N ks _).1 h4 i hi)
 have hf := A6x h3
 have e0 : ∀ x : Tm, x = .mk k nm num ty fr lb ks → x.ks = ks := fun x hx => by rw [hx]; rfl
 generalize hX : Tm.mk k nm num ty fr lb ks = X at hf e0 ⊢
 have I : ∀ x ∈ X.ks, (B0 x).length ≤ 100 * C3 x := by rw [e0 X rfl]; exact I
 clear h h3 h4 hd ih e0 hX
 cases hf with
 | var b h1 h2 => simp [B0, L5, C3, C9]
 | num n h1 h2 =>
  have := A3k (n := n) (by omega) h2
  simp [B0, L5, C3, C9]; omega
 | tru => simp [B0, L5, nd, C3, C9]
 | fls => simp [B0, L5, nd, C3, C9]
 | lam b ty a h1 h2 ht =>
  have ha := I a (by simp [Tm.ks])
  have hl := Z6 ht (Int.le_refl _)
  simp [B0, R6, L5, C3, C9]; omega
 | bin k a b hk =>
  have ha := I a (by simp [Tm.ks, nd])
  have hb := I b (by simp [Tm.ks, nd])
  rcases hk with rfl | rfl | rfl <;> (simp [B0, R6, L5, nd, C3, C9]; omega)
 | ite a b c =>
  have ha := I a (by simp [Tm.ks, nd])
  have hb := I b (by simp [Tm.ks, nd])
  have hc := I c (by simp [Tm.ks, nd])
  simp [B0, R6, L5, nd, C3, C9]; omega
 | pair a b =>
  have ha := I a (by simp [Tm.ks, nd])
  have hb := I b (by simp [Tm.ks, nd])
  simp [B0, R6, L5, nd, C3, C9]; omega
 | un k a hk =>
  have ha := I a (by simp [Tm.ks, nd])
  rcases hk with rfl | rfl <;> (simp [B0, R6, L5, nd, C3, C9]; omega)
 | asc ty a ht =>
  have ha := I a (by simp [Tm.ks])
  have hl := Z6 ht (Int.le_refl _)
  simp [B0, R6, L5, C3, C9]; omega
 | cast ty fr lb a ht hf hl1 hl2 =>
  have ha := I a (by simp [Tm.ks])
  have hl := Z6 ht (Int.le_refl _)
  have hl' := Z6 hf (Int.le_refl _)
  have := A3k hl1 hl2
  simp [B0, R6, L5, C3, C9]; omega
theorem A5b {ks : List Tm} {i : Nat} (h : i < ks.length) : C3 ks[i] ≤ C9 ks := by
 have h1 := A8M ks (i + 1)
 rw [A8L h] at h1
 omega
theorem A5c {cs : List Value} {o : Nat} {u v : Value} (h : cs[o]? = some u) (h2 : cs[o + 1]? = some v) : ∀ j w, [u, v][j]? = some w → cs[o + j]? = some w := by
 intro j w hj
 match j, hj with
 | 0, hj => simpa using hj ▸ h
 | 1, hj => simpa using hj ▸ h2
 | j + 2, hj => simp at hj
theorem B0J (n : Int) (G : IM) (h : A1m G) (h0 : -999 ≤ n) (h1 : n ≤ 999) : Fn Tryz.prog 85 [.int .i64 n] [] G (L6 (.string (D6 (Lib.itoa n))) G) := by
 refine ⟨fun w hw => ?_⟩
 have ht : Lib.TabIs Tryz.prog w "internal/strconv.uint64pow10" .u64 Lib.pow10Tab := by
  obtain ⟨g, hg, hG⟩ := h
  obtain ⟨e, f, hh⟩ := hw.inn g _ hG
  unfold Lib.TabIs World.var?
  rw [hg]
  simp only [Option.bind_some, hh]
 refine (Tryz.strconv_Itoa n (by omega) (by omega) w ht).mono ?_
 rintro e w' ⟨rfl, k, os, rfl⟩
 exact ⟨_, G, [], rfl, B14 hw k os, rfl, rfl, rfl⟩
def A2K (l : A3) : IM → Value → List A4 → Prop := L7 fun _ v => v = .string (D6 l)
theorem B5C (b1 : Nat) (i : Nat) (G : IM) (bo oo cc n : Nat) (v0 v1 v2 v3 v4 v5 v6 v7 : Value) (e : List Value) (l : A3) (hb : G b1 = some [v0, v1, v2, v3, v4, v5, v6, v7, .slice (some ⟨bo, oo, none⟩) n cc]) (hi : i < n) (hn : n ≤ 100) (hl : e.length = 9) (hat : ∀ hp, At hp G bo (oo + i * 9) e)
  (ih : Fn Tryz.prog 40 [.agg ⟨e⟩] [] G (A2K l)) : Fn Tryz.prog 84 [.int .i64 (i : Int), .pointer (some ⟨b1, 0, none⟩)] [] G (A2K l) := by
 refine B8 Tryz.func84 rfl Tryz.ntmps84 Tryz.results84 rfl ?_
 intro w0
 refine F8 ?_
 refine sL (M7 rfl rfl (Q3 hb (A2u rfl))) rfl rfl ?_
 refine sQ (qM rfl) rfl ?_
 refine sP (D0 (j := i) rfl rfl rfl (by omega)) rfl rfl ?_
 refine sL (A6 rfl rfl (hat _) hl) rfl rfl ?_
 (refine D9 rfl ih rfl rfl (fun v G3 hle3 hh => ?_); subst hh)
 refine sQ (qA rfl) rfl (sD (nS (tT (E9 (rT rfl) ?_))))
 (exact ⟨rfl, rfl⟩)
theorem B0K (D N : Int) : ∀ (e : Tm) (d : Int) (G : IM) (cells : List Value), L8 D N e d = true → C3 e ≤ 100000 → A1m G → B5 G e cells → Fn Tryz.prog 40 [.agg ⟨cells⟩] [] G (A2K (B0 e)) := by
 refine Tm.ind fun k nm num ty fr lb ks ih d G cells hs hcnt hT hr => ?_
 obtain ⟨hd, _, h3, h4⟩ := Z4 hs
 have hvk := (A0m D N ks _).1 h4
 obtain ⟨n1, n2, n3, n4, n5, n6, n7, n8, n9⟩ := U8.1 h3
 rw [C3] at hcnt
 have hTl : ∀ i (h : i < ks.length), (B0 ks[i]).length ≤ 10000000 := fun i h => by
  have h1 := A5a D N ks[i] _ (hvk i h)
  have h2 := A5b h
  omega
 have hL1 : k = 5 ∨ k = 11 ∨ k = 12 ∨ k = 13 ∨ k = 14 → ks.length = 1 := fun h => by
  have : H6 k = 1 := by rcases h with rfl | rfl | rfl | rfl | rfl <;> rfl
  omega
 have hL2 : k = 6 ∨ k = 7 ∨ k = 8 ∨ k = 10 → ks.length = 2 := fun h => by
  have : H6 k = 2 := by rcases h with rfl | rfl | rfl | rfl <;> rfl
  omega
 have hL3 : k = 9 → ks.length = 3 := fun h => by
  have : H6 k = 3 := by subst h; rfl
  omega
 have hkk : 1 ≤ k ∧ k ≤ 14 ∧ ks.length ≤ 3 := by
  unfold H6 at n1
  repeat' split at n1
  all_goals omega
 have hnumr : k = 2 → 0 ≤ num ∧ num ≤ 999 := fun h => A1k (n4 h)
 have hvt : k = 5 ∨ k = 13 ∨ k = 14 → H8 ty 1 = true := n6
 have hvf : k = 14 → H8 fr 1 = true := fun h => by
  have := (n8 h).1
  unfold A0C at this
  simp only [Bool.and_eq_true] at this
  exact this.1.1
 have hvl : k = 14 → -999 ≤ lb ∧ lb ≤ 999 := fun h => by
  have := (n8 h).2
  unfold Z0 at this
  rw [Bool.or_eq_true] at this
  rcases this with h | h <;> have := A1k h <;> omega
 have hnl : (k = 1 ∨ k = 5 → nm.size = 1) := fun h => by rw [(A40 (n2 h)).1]; rfl
 obtain ⟨nl, rfl⟩ : ∃ nl, nm = D6 nl := ⟨_, (A6E nm).symm⟩
 rw [N3] at hnl
 obtain ⟨tk, tks⟩ := ty
 obtain ⟨fk, fks⟩ := fr
 obtain ⟨pt, ct, pf, cf, p, c, es, rfl, hk, hnum, hlb, hty, hfr, hsl, hkl⟩ := hr.open9
 have hkid : ∀ (b1 : Nat) (G' : IM), B2 G G' → G' b1 = some [.int .i64 k, .string (D6 nl), .int .i64 num, .int .i64 tk, .slice pt tks.length ct, .int .i64 fk, .slice pf fks.length cf, .int .i64 lb, .slice p ks.length c] → ∀ (i : Nat) (hi : i < ks.length) (G2 : IM), B2 G' G2 → Fn Tryz.prog 84 ([] ++ [.int .i64 (i : Int)] ++ [.pointer (some ⟨b1, 0, none⟩)]) [] G2 (A2K (B0 ks[i])) := fun b1 G' hle hb i hi G2 hle2 => by
  obtain ⟨bo, oo, e, rfl, hel, hat, hre, hgb⟩ := ((hsl.mono hle).mono hle2).kidTm ((hkl.mono hle).mono hle2) (i := i) hi hi
  exact B5C b1 i G2 bo oo c ks.length _ _ _ _ _ _ _ _ e _ (hle2 _ _ hb) hi (by omega) hel hat (ih ks[i] (List.getElem_mem hi) (d + 1) G2 e (hvk i hi) (by have := A5b hi; omega) ((hT.mono hle).mono hle2) hre)
 refine B8 Tryz.func40 rfl Tryz.ntmps40 Tryz.results40 rfl ?_
 intro w0
 refine tS (tR ?_)
 refine sE (E7 rfl rfl) rfl (fun b3 => ?_)
 refine sQ (qA rfl) rfl (sD (nS (tS ?_)))
 (refine A2T (bs := [(b3, [.int .i64 k, .string (D6 nl), .int .i64 num, .int .i64 tk, .slice pt tks.length ct, .int .i64 fk, .slice pf fks.length cf, .int .i64 lb, .slice p ks.length c])]) (Pk.perm (by repeat (first | exact Pk.here | apply Pk.there))) (fun hf1 hf2 hle0 => ?_); have hb1 : Wi G [(b3, [.int .i64 k, .string (D6 nl), .int .i64 num, .int .i64 tk, .slice pt tks.length ct, .int .i64 fk, .slice pf fks.length cf, .int .i64 lb, .slice p ks.length c])] b3 = some [.int .i64 k, .string (D6 nl), .int .i64 num, .int .i64 tk, .slice pt tks.length ct, .int .i64 fk, .slice pf fks.length cf, .int .i64 lb, .slice p ks.length c] := Wi.in hf1 List.mem_cons_self; generalize Wi G [(b3, [.int .i64 k, .string (D6 nl), .int .i64 num, .int .i64 tk, .slice pt tks.length ct, .int .i64 fk, .slice pf fks.length cf, .int .i64 lb, .slice p ks.length c])] = G0 at hle0 hb1 ⊢; have hT0 := hT.mono hle0; have hty0 := hty.mono hle0; have hfr0 := hfr.mono hle0; have hK := hkid _ G0 hle0 hb1)
 refine tR ?_
 refine sQ (A1h rfl rfl) rfl ?_
 refine B7 ?_
 refine sL (M7 rfl rfl (Q3 hb1 (A2u rfl))) rfl rfl ?_
 refine sD (nS ?_)
 refine C6 (tS (tR (sB (qE rfl rfl) rfl rfl (fun h24 => ?_) (fun h24 => ?_))))
 refine B7 ?_
 refine sL (M7 rfl rfl (Q3 hb1 (A2u rfl))) rfl rfl ?_
 refine sQ (qA rfl) rfl (sD (nS (tT (rB (rS (E9 (rT rfl) ?_))))))
 (have hk1 : k = 1 := (by omega); exact ⟨rfl, by rw [B0, L5, if_pos hk1]; rfl⟩)
 refine sQ (qA rfl) rfl (sD (nS (cF rfl (tS (tR ?_)))))
 refine sB (qE rfl rfl) rfl rfl (fun h47 => ?_) (fun h47 => ?_)
 refine B7 ?_
 refine sL (M7 rfl rfl (Q3 hb1 (A2u rfl))) rfl rfl ?_
 refine H7 rfl ((B0J num _ hT0 (by have := hnumr; omega) (by have := hnumr; omega))) rfl rfl ?_
 refine sQ (qA rfl) rfl (sD (nS (tT (rB (rS (E9 (rT rfl) ?_))))))
 (have hk1 : k = 2 := (by omega); exact ⟨rfl, by rw [B0, L5, if_neg (by omega), if_pos hk1]⟩)
 refine sQ (qA rfl) rfl (sD (nS (cF rfl (tS (tR ?_)))))
 refine sB (qE rfl rfl) rfl rfl (fun h71 => ?_) (fun h71 => ?_)
 refine I5 ?_
 (have hk1 : k = 3 := (by omega); subst hk1; exact ⟨rfl, rfl⟩)
 refine sQ (qA rfl) rfl (sD (nS (cF rfl (tS (tR ?_)))))
 refine sB (qE rfl rfl) rfl rfl (fun h92 => ?_) (fun h92 => ?_)
 refine I5 ?_
 (have hk1 : k = 4 := (by omega); subst hk1; exact ⟨rfl, rfl⟩)
 refine sQ (qA rfl) rfl (sD (nS (cF rfl (tS (tR ?_)))))
 refine sB (qE rfl rfl) rfl rfl (fun h113 => ?_) (fun h113 => ?_)
 refine sQ (qA rfl) rfl (sD (nS (qT rfl (tS ?_))))
 refine D3 D4 rfl ?_
 refine E8 (i := 0) (l' := [tt,ff,ff,ff,ff,ff,ff,ff,ff,ff,ff,ff,ff]) rfl C5 (A9 rfl) rfl (by kernel_rfl) rfl rfl ?_
 refine aL 1 rfl (M7 rfl rfl (Q3 hb1 (A2u rfl))) rfl ?_
 refine aP 2 rfl (F0 rfl rfl (by simp only [List.length_append, List.length_cons, List.length_nil]; omega)) rfl ?_
 refine aP 3 rfl (F0 rfl rfl (by simp only [List.length_append, List.length_cons, List.length_nil]; omega)) rfl ?_
 refine aP 4 rfl (A9 rfl) rfl ?_
 refine aL 5 rfl (A6 rfl rfl (Q3 hb1 (A5c rfl rfl)) rfl) rfl ?_
 refine aP 9 rfl (qM rfl) rfl ?_
 refine A1 6 ?_
 (refine I1 rfl rfl (A48 (.mk tk tks) 1 _ _ (hvt (by omega)) (by omega) (by first | exact hty0 | exact hty0.mono hle7)) rfl rfl rfl ?_; have hlt := Z6 (hvt (by omega)) (Int.le_refl _))
 refine aP 7 rfl (F0 rfl rfl (by simp only [List.length_append, List.length_cons, List.length_nil]; omega)) rfl ?_
 refine aP 8 rfl (F0 rfl rfl (by simp only [List.length_append, List.length_cons, List.length_nil]; omega)) rfl ?_
 refine A1 10 ?_
 (have hi0 : 0 < ks.length := (by omega); refine I7 rfl (S5 (ins := []) rfl rfl (hK 0 hi0 _ (B2.refl _)) (List.Perm.refl _) rfl) rfl rfl ?_; rintro _ ⟨v, G7, outs, rfl, hle7, rfl, rfl⟩; have hTl0 := hTl 0 hi0)
 refine aP 11 rfl (F0 rfl rfl (by simp only [List.length_append, List.length_cons, List.length_nil]; omega)) rfl ?_
 refine aP 12 rfl (qA rfl) rfl ?_
 refine D8 (nS (tT (rB (rS (E9 (rT rfl) ?_)))))
 (have hk1 : k = 5 := (by omega); exact ⟨rfl, by rw [B0z hk1 (by omega)] <;> rfl⟩)
 refine sQ (qA rfl) rfl (sD (nS (cF rfl (tS (tR ?_)))))
 refine sB (qE rfl rfl) rfl rfl (fun h148 => ?_) (fun h148 => ?_)
 refine B7 ?_
 (have hi0 : 0 < ks.length := (by omega); refine D7 (S5 rfl rfl (hK 0 hi0 _ (B2.refl _)) (List.Perm.refl _) rfl) rfl ?_; rintro _ ⟨v, G7, outs, rfl, hle7, rfl, rfl⟩; have hTl0 := hTl 0 hi0)
 refine sP (F0 rfl rfl (by simp only [List.length_append, List.length_cons, List.length_nil]; omega)) rfl rfl ?_
 refine sP (F0 rfl rfl (by simp only [List.length_append, List.length_cons, List.length_nil]; omega)) rfl rfl ?_
 refine sQ (qM rfl) rfl ?_
 (have hi1 : 1 < ks.length := (by omega); refine D7 (S5 rfl rfl (hK 1 hi1 _ hle7) (List.Perm.refl _) rfl) rfl ?_; rintro _ ⟨v, G8, outs, rfl, hle8, rfl, rfl⟩; have hTl1 := hTl 1 hi1)
 refine sP (F0 rfl rfl (by simp only [List.length_append, List.length_cons, List.length_nil]; omega)) rfl rfl ?_
 refine sP (F0 rfl rfl (by simp only [List.length_append, List.length_cons, List.length_nil]; omega)) rfl rfl ?_
 refine sQ (qA rfl) rfl (sD (nS (tT (rB (rS (E9 (rT rfl) ?_))))))
 (have hk1 : k = 6 := (by omega); exact ⟨rfl, by rw [B0A hk1 (by omega)] <;> rfl⟩)
 refine sQ (qA rfl) rfl (sD (nS (cF rfl (tS (tR ?_)))))
 refine sB (qE rfl rfl) rfl rfl (fun h177 => ?_) (fun h177 => ?_)
 refine B7 ?_
 (have hi0 : 0 < ks.length := (by omega); refine D7 (S5 rfl rfl (hK 0 hi0 _ (B2.refl _)) (List.Perm.refl _) rfl) rfl ?_; rintro _ ⟨v, G7, outs, rfl, hle7, rfl, rfl⟩; have hTl0 := hTl 0 hi0)
 refine sP (F0 rfl rfl (by simp only [List.length_append, List.length_cons, List.length_nil]; omega)) rfl rfl ?_
 refine sP (F0 rfl rfl (by simp only [List.length_append, List.length_cons, List.length_nil]; omega)) rfl rfl ?_
 refine sQ (qM rfl) rfl ?_
 (have hi1 : 1 < ks.length := (by omega); refine D7 (S5 rfl rfl (hK 1 hi1 _ hle7) (List.Perm.refl _) rfl) rfl ?_; rintro _ ⟨v, G8, outs, rfl, hle8, rfl, rfl⟩; have hTl1 := hTl 1 hi1)
 refine sP (F0 rfl rfl (by simp only [List.length_append, List.length_cons, List.length_nil]; omega)) rfl rfl ?_
 refine sP (F0 rfl rfl (by simp only [List.length_append, List.length_cons, List.length_nil]; omega)) rfl rfl ?_
 refine sQ (qA rfl) rfl (sD (nS (tT (rB (rS (E9 (rT rfl) ?_))))))
 (have hk1 : k = 7 := (by omega); exact ⟨rfl, by rw [B0B hk1 (by omega)] <;> rfl⟩)
 refine sQ (qA rfl) rfl (sD (nS (cF rfl (tS (tR ?_)))))
 refine sB (qE rfl rfl) rfl rfl (fun h206 => ?_) (fun h206 => ?_)
 refine B7 ?_
 (have hi0 : 0 < ks.length := (by omega); refine D7 (S5 rfl rfl (hK 0 hi0 _ (B2.refl _)) (List.Perm.refl _) rfl) rfl ?_; rintro _ ⟨v, G7, outs, rfl, hle7, rfl, rfl⟩; have hTl0 := hTl 0 hi0)
 refine sP (F0 rfl rfl (by simp only [List.length_append, List.length_cons, List.length_nil]; omega)) rfl rfl ?_
 refine sP (F0 rfl rfl (by simp only [List.length_append, List.length_cons, List.length_nil]; omega)) rfl rfl ?_
 refine sQ (qM rfl) rfl ?_
 (have hi1 : 1 < ks.length := (by omega); refine D7 (S5 rfl rfl (hK 1 hi1 _ hle7) (List.Perm.refl _) rfl) rfl ?_; rintro _ ⟨v, G8, outs, rfl, hle8, rfl, rfl⟩; have hTl1 := hTl 1 hi1)
 refine sP (F0 rfl rfl (by simp only [List.length_append, List.length_cons, List.length_nil]; omega)) rfl rfl ?_
 refine sP (F0 rfl rfl (by simp only [List.length_append, List.length_cons, List.length_nil]; omega)) rfl rfl ?_
 refine sQ (qA rfl) rfl (sD (nS (tT (rB (rS (E9 (rT rfl) ?_))))))
 (have hk1 : k = 8 := (by omega); exact ⟨rfl, by rw [B0C hk1 (by omega)] <;> rfl⟩)
 refine sQ (qA rfl) rfl (sD (nS (cF rfl (tS (tR ?_)))))
 refine sB (qE rfl rfl) rfl rfl (fun h235 => ?_) (fun h235 => ?_)
 refine B7 ?_
 (have hi0 : 0 < ks.length := (by omega); refine D7 (S5 rfl rfl (hK 0 hi0 _ (B2.refl _)) (List.Perm.refl _) rfl) rfl ?_; rintro _ ⟨v, G7, outs, rfl, hle7, rfl, rfl⟩; have hTl0 := hTl 0 hi0)
 refine sP (F0 rfl rfl (by simp only [List.length_append, List.length_cons, List.length_nil]; omega)) rfl rfl ?_
 refine sP (F0 rfl rfl (by simp only [List.length_append, List.length_cons, List.length_nil]; omega)) rfl rfl ?_
 refine sQ (qM rfl) rfl ?_
 (have hi1 : 1 < ks.length := (by omega); refine D7 (S5 rfl rfl (hK 1 hi1 _ hle7) (List.Perm.refl _) rfl) rfl ?_; rintro _ ⟨v, G8, outs, rfl, hle8, rfl, rfl⟩; have hTl1 := hTl 1 hi1)
 refine sP (F0 rfl rfl (by simp only [List.length_append, List.length_cons, List.length_nil]; omega)) rfl rfl ?_
 refine sP (F0 rfl rfl (by simp only [List.length_append, List.length_cons, List.length_nil]; omega)) rfl rfl ?_
 refine sQ (qM rfl) rfl ?_
 (have hi2 : 2 < ks.length := (by omega); refine D7 (S5 rfl rfl (hK 2 hi2 _ (hle7.trans hle8)) (List.Perm.refl _) rfl) rfl ?_; rintro _ ⟨v, G9, outs, rfl, hle9, rfl, rfl⟩; have hTl2 := hTl 2 hi2)
 refine sP (F0 rfl rfl (by simp only [List.length_append, List.length_cons, List.length_nil]; omega)) rfl rfl ?_
 refine sP (F0 rfl rfl (by simp only [List.length_append, List.length_cons, List.length_nil]; omega)) rfl rfl ?_
 refine sQ (qA rfl) rfl (sD (nS (tT (rB (rS (E9 (rT rfl) ?_))))))
 (have hk1 : k = 9 := (by omega); exact ⟨rfl, by rw [B0D hk1 (by omega)] <;> rfl⟩)
 refine sQ (qA rfl) rfl (sD (nS (cF rfl (tS (tR ?_)))))
 refine sB (qE rfl rfl) rfl rfl (fun h268 => ?_) (fun h268 => ?_)
 refine B7 ?_
 (have hi0 : 0 < ks.length := (by omega); refine D7 (S5 rfl rfl (hK 0 hi0 _ (B2.refl _)) (List.Perm.refl _) rfl) rfl ?_; rintro _ ⟨v, G7, outs, rfl, hle7, rfl, rfl⟩; have hTl0 := hTl 0 hi0)
 refine sP (F0 rfl rfl (by simp only [List.length_append, List.length_cons, List.length_nil]; omega)) rfl rfl ?_
 refine sP (F0 rfl rfl (by simp only [List.length_append, List.length_cons, List.length_nil]; omega)) rfl rfl ?_
 refine sQ (qM rfl) rfl ?_
 (have hi1 : 1 < ks.length := (by omega); refine D7 (S5 rfl rfl (hK 1 hi1 _ hle7) (List.Perm.refl _) rfl) rfl ?_; rintro _ ⟨v, G8, outs, rfl, hle8, rfl, rfl⟩; have hTl1 := hTl 1 hi1)
 refine sP (F0 rfl rfl (by simp only [List.length_append, List.length_cons, List.length_nil]; omega)) rfl rfl ?_
 refine sP (F0 rfl rfl (by simp only [List.length_append, List.length_cons, List.length_nil]; omega)) rfl rfl ?_
 refine sQ (qA rfl) rfl (sD (nS (tT (rB (rS (E9 (rT rfl) ?_))))))
 (have hk1 : k = 10 := (by omega); exact ⟨rfl, by rw [B0E hk1 (by omega)] <;> rfl⟩)
 refine sQ (qA rfl) rfl (sD (nS (cF rfl (tS (tR ?_)))))
 refine sB (qE rfl rfl) rfl rfl (fun h297 => ?_) (fun h297 => ?_)
 refine B7 ?_
 (have hi0 : 0 < ks.length := (by omega); refine D7 (S5 rfl rfl (hK 0 hi0 _ (B2.refl _)) (List.Perm.refl _) rfl) rfl ?_; rintro _ ⟨v, G7, outs, rfl, hle7, rfl, rfl⟩; have hTl0 := hTl 0 hi0)
 refine sP (F0 rfl rfl (by simp only [List.length_append, List.length_cons, List.length_nil]; omega)) rfl rfl ?_
 refine sQ (qA rfl) rfl (sD (nS (tT (rB (rS (E9 (rT rfl) ?_))))))
 (have hk1 : k = 11 := (by omega); exact ⟨rfl, by rw [B0F hk1 (by omega)] <;> rfl⟩)
 refine sQ (qA rfl) rfl (sD (nS (cF rfl (tS (tR ?_)))))
 refine sB (qE rfl rfl) rfl rfl (fun h321 => ?_) (fun h321 => ?_)
 refine B7 ?_
 (have hi0 : 0 < ks.length := (by omega); refine D7 (S5 rfl rfl (hK 0 hi0 _ (B2.refl _)) (List.Perm.refl _) rfl) rfl ?_; rintro _ ⟨v, G7, outs, rfl, hle7, rfl, rfl⟩; have hTl0 := hTl 0 hi0)
 refine sP (F0 rfl rfl (by simp only [List.length_append, List.length_cons, List.length_nil]; omega)) rfl rfl ?_
 refine sQ (qA rfl) rfl (sD (nS (tT (rB (rS (E9 (rT rfl) ?_))))))
 (have hk1 : k = 12 := (by omega); exact ⟨rfl, by rw [B0G hk1 (by omega)] <;> rfl⟩)
 refine sQ (qA rfl) rfl (sD (nS (cF rfl (tS (tR ?_)))))
 refine sB (qE rfl rfl) rfl rfl (fun h345 => ?_) (fun h345 => ?_)
 refine sQ (qA rfl) rfl (sD (nS (qT rfl (tS ?_))))
 refine D3 D4 rfl ?_
 refine E8 (i := 0) (l' := [tt,ff,ff,ff,ff,ff,ff,ff,ff,ff]) rfl C5 (qM rfl) rfl (by kernel_rfl) rfl rfl ?_
 refine aP 4 rfl (A9 rfl) rfl ?_
 refine aL 5 rfl (A6 rfl rfl (Q3 hb1 (A5c rfl rfl)) rfl) rfl ?_
 refine A1 1 ?_
 (have hi0 : 0 < ks.length := (by omega); refine I7 rfl (S5 (ins := []) rfl rfl (hK 0 hi0 _ (B2.refl _)) (List.Perm.refl _) rfl) rfl rfl ?_; rintro _ ⟨v, G7, outs, rfl, hle7, rfl, rfl⟩; have hTl0 := hTl 0 hi0)
 refine aP 2 rfl (F0 rfl rfl (by simp only [List.length_append, List.length_cons, List.length_nil]; omega)) rfl ?_
 refine aP 3 rfl (F0 rfl rfl (by simp only [List.length_append, List.length_cons, List.length_nil]; omega)) rfl ?_
 refine A1 6 ?_
 (refine I1 rfl rfl (A48 (.mk tk tks) 1 _ _ (hvt (by omega)) (by omega) (by first | exact hty0 | exact hty0.mono hle7)) rfl rfl rfl ?_; have hlt := Z6 (hvt (by omega)) (Int.le_refl _))
 refine aP 7 rfl (F0 rfl rfl (by simp only [List.length_append, List.length_cons, List.length_nil]; omega)) rfl ?_
 refine aP 8 rfl (F0 rfl rfl (by simp only [List.length_append, List.length_cons, List.length_nil]; omega)) rfl ?_
 refine aP 9 rfl (qA rfl) rfl ?_
 refine D8 (nS (tT (rB (rS (E9 (rT rfl) ?_)))))
 (have hk1 : k = 13 := (by omega); exact ⟨rfl, by rw [B0H hk1 (by omega)] <;> rfl⟩)
 refine F8 ?_
 refine D3 D4 rfl ?_
 refine E8 (i := 0) (l' := [tt,ff,ff,ff,ff,ff,ff,ff,ff,ff,ff,ff,ff,ff,ff,ff,ff,ff,ff,ff]) rfl C5 (qM rfl) rfl (by kernel_rfl) rfl rfl ?_
 refine aP 4 rfl (A9 rfl) rfl ?_
 refine aL 5 rfl (A6 rfl rfl (Q3 hb1 (A5c rfl rfl)) rfl) rfl ?_
 refine aP 9 rfl (A9 rfl) rfl ?_
 refine aL 10 rfl (A6 rfl rfl (Q3 hb1 (A5c rfl rfl)) rfl) rfl ?_
 refine aP 14 rfl (A9 rfl) rfl ?_
 refine aL 15 rfl (M7 rfl rfl (Q3 hb1 (A2u rfl))) rfl ?_
 refine A1 1 ?_
 (have hi0 : 0 < ks.length := (by omega); refine I7 rfl (S5 (ins := []) rfl rfl (hK 0 hi0 _ (B2.refl _)) (List.Perm.refl _) rfl) rfl rfl ?_; rintro _ ⟨v, G7, outs, rfl, hle7, rfl, rfl⟩; have hTl0 := hTl 0 hi0)
 refine aP 2 rfl (F0 rfl rfl (by simp only [List.length_append, List.length_cons, List.length_nil]; omega)) rfl ?_
 refine aP 3 rfl (F0 rfl rfl (by simp only [List.length_append, List.length_cons, List.length_nil]; omega)) rfl ?_
 refine A1 6 ?_
 (refine I1 rfl rfl (A48 (.mk fk fks) 1 _ _ (hvf (by omega)) (by omega) (by first | exact hfr0 | exact hfr0.mono hle7)) rfl rfl rfl ?_; have hlf := Z6 (hvf (by omega)) (Int.le_refl _))
 refine aP 7 rfl (F0 rfl rfl (by simp only [List.length_append, List.length_cons, List.length_nil]; omega)) rfl ?_
 refine aP 8 rfl (F0 rfl rfl (by simp only [List.length_append, List.length_cons, List.length_nil]; omega)) rfl ?_
 refine A1 11 ?_
 (refine I1 rfl rfl (A48 (.mk tk tks) 1 _ _ (hvt (by omega)) (by omega) (by first | exact hty0 | exact hty0.mono hle7)) rfl rfl rfl ?_; have hlt := Z6 (hvt (by omega)) (Int.le_refl _))
 refine aP 12 rfl (F0 rfl rfl (by simp only [List.length_append, List.length_cons, List.length_nil]; omega)) rfl ?_
 refine aP 13 rfl (F0 rfl rfl (by simp only [List.length_append, List.length_cons, List.length_nil]; omega)) rfl ?_
 refine A1 16 ?_
 (have hlab := hvl (by omega); refine I1 rfl rfl (B0J lb _ (by first | exact hT0 | exact hT0.mono hle7) hlab.1 hlab.2) rfl rfl rfl ?_; have hll := A3k hlab.1 hlab.2)
 refine aP 17 rfl (F0 rfl rfl (by simp only [List.length_append, List.length_cons, List.length_nil]; omega)) rfl ?_
 refine aP 18 rfl (F0 rfl rfl (by simp only [List.length_append, List.length_cons, List.length_nil]; omega)) rfl ?_
 refine aP 19 rfl (qA rfl) rfl ?_
 refine D8 (nS (tT (E9 (rT rfl) ?_)))
 (have hk1 : k = 14 := (by omega); exact ⟨rfl, by rw [B0I hk1 (by omega)] <;> rfl⟩)
def M9 (L : A3) (m : Option (Tm × A3)) : IM → Value → List A4 → Prop := L7 fun G' v => ∃ t cells next, v = .tuple ⟨[.agg ⟨cells⟩, .int .i64 next]⟩ ∧ B5 G' t cells ∧ A6X L m t next
theorem M9.no {L : A3} {m : Option (Tm × A3)} {G : IM} (h : m = none) : M9 L m G (.tuple ⟨[.agg ⟨[.int .i64 0, .string ⟨⟨[]⟩⟩, .int .i64 0, .int .i64 0, .slice none 0 0, .int .i64 0, .slice none 0 0, .int .i64 0, .slice none 0 0]⟩, .int .i64 (-1)]⟩) [] :=
 ⟨rfl, _, _, _, rfl, A27 (k := 0) (ks := []) (es := []) ⟨by decide, by decide⟩ rfl (D5.nil _ _) rfl, .inl ⟨h, rfl⟩⟩
theorem M9.yes {L : A3} {m : Option (Tm × A3)} {G : IM} {t : Tm} {cells : List Value} {nx : Nat} (hr : B5 G t cells) (h : m = some (t, L.drop nx)) (hn : nx ≤ L.length) : M9 L m G (.tuple ⟨[.agg ⟨cells⟩, .int .i64 (nx : Int)]⟩) [] := ⟨rfl, t, cells, _, rfl, hr, .inr ⟨nx, h, rfl, hn⟩⟩
theorem M9.noT {L : A3} {m : Option (Tm × A3)} {G : IM} {t : Tm} {cells : List Value} (hr : B5 G t cells) (h : m = none) : M9 L m G (.tuple ⟨[.agg ⟨cells⟩, .int .i64 (-1)]⟩) [] := ⟨rfl, t, cells, _, rfl, hr, .inl ⟨h, rfl⟩⟩
def A5d (L : A3) (n : Nat) : Prop := ∀ (a : Nat) (G : IM), a ≤ L.length → Fn Tryz.prog 51 [.string (D6 L), .int .i64 (a : Int), .int .i64 (n : Int)] [] G (M9 L (J2 n (L.drop a)))
theorem rm9 {G : IM} {t : Tm} {cells : List Value} (h : B5 G t cells) : ∃ x1 x2 x3 x4 x5 x6 x7 x8 x9, cells = [x1, x2, x3, x4, x5, x6, x7, x8, x9] := by
 obtain ⟨_, _, _, _, _, _, _, _, _, rfl, _⟩ := h.open; exact ⟨_, _, _, _, _, _, _, _, _, rfl⟩
theorem E5.snoc2 {G : IM} : ∀ {ts : List Tm} {es : List (List Value)} {t : Tm} {e : List Value}, E5 G ts es → B5 G t e → E5 G (ts ++ [t]) (es ++ [e])
 | [], es, t, e, h, h2 => by
  simp only [E5] at h
  subst h
  simp only [List.nil_append, E5]
  exact ⟨e, [], rfl, h2, rfl⟩
 | t' :: ts, es, t, e, h, h2 => by
  simp only [E5] at h
  obtain ⟨a, r, rfl, h3, h4⟩ := h
  simp only [List.cons_append, E5]
  exact ⟨a, r ++ [e], rfl, h3, E5.snoc2 h4 h2⟩
section ix
variable {P : Program} {Γ : K0} {env : K3} {hp : List A4} {G : IM} {ty : TypeId}
theorem A0Y {x y : Operand} {t : TypeId} {i : M5} [hI : I0 P t i] (hd : i.desc = .string) {l : A3} {k : IntKind} {j : Nat} {c : UInt8}
  (hx : evo env x = some (.string (D6 l))) (hy : evo env y = some (.int k (j : Int))) (h : j < l.length) (hc : l.getD j 0 = c) :
  H5 P Γ ⟨env, hp, G⟩ (.index t x y) ty (.int .u8 (c.toNat : Int)) := by
 subst hc
 exact R8 hd hx hy (by omega) (W7 h)
end ix
theorem B5D {f : A3 → Option (Tm × A3)} {L E : A3} {i a nx : Nat} {t : Tm} (hi : i < E.length) (h : f (L.drop a) = some (t, L.drop nx)) (h2 : nx < L.length) (h3 : L.getD nx 0 = E.getD i 0) : U0 f (E.drop i) (L.drop a) = (U0 f (E.drop (i + 1)) (L.drop (nx + 1))).map fun y => (t :: y.1, y.2) := by
 rw [A0W hi, U0, h]
 simp only [Option.bind_some]
 rw [A1f h2 h3]
 rfl
theorem B5E {f : A3 → Option (Tm × A3)} {L E : A3} {i a : Nat} (hi : i < E.length) (h : f (L.drop a) = none) : U0 f (E.drop i) (L.drop a) = none := by rw [A0W hi, U0, h]; rfl
theorem B0L {f : A3 → Option (Tm × A3)} {L E : A3} {i a nx : Nat} {t : Tm} (hi : i < E.length) (h : f (L.drop a) = some (t, L.drop nx)) (h2 : F9 (E.getD i 0) (L.drop nx) = none) : U0 f (E.drop i) (L.drop a) = none := by
 rw [A0W hi, U0, h]
 simp only [Option.bind_some]
 rw [h2]; rfl
theorem A36 (L : A3) (hL : L.length ≤ 4294967296) (n : Nat) (hP : A5d L n) (k : Int) (hk : H4 k) (ks0 : List Tm) (es0 : List (List Value)) (p0 : Option Addr) (c0 : Nat) (E : A3) (hE : E.length ≤ 100) (h0 : ks0.length ≤ 100) (a : Nat) (ha : a ≤ L.length) (G : IM) (hr0 : E5 G ks0 es0) :
  Fn Tryz.prog 103 [.agg ⟨[.int .i64 k, .string ⟨⟨[]⟩⟩, .int .i64 0, .int .i64 0, .slice none 0 0, .int .i64 0, .slice none 0 0, .int .i64 0, .slice p0 ks0.length c0]⟩, .string (D6 L), .int .i64 (a : Int), .string (D6 E), .int .i64 (n : Int)] [.slc p0 c0 28 9 ks0.length es0.flatten] G
   (M9 L ((U0 (J2 n) E (L.drop a)).map fun x => (nd k (ks0 ++ x.1), x.2))) := by
 have hsz := N3 L
 have hszE := N3 E
 refine B8 Tryz.func103 rfl Tryz.ntmps103 Tryz.results103 rfl ?_
 intro w0
 refine tS (tR ?_)
 refine sE (E7 rfl rfl) rfl (fun b3 => ?_)
 refine sE (A8 rfl) rfl (fun b4 => ?_)
 refine C7 ?_
 refine C6 ?_
 (refine N4 (fun (x : Nat × Nat × Option Addr × Nat × Nat × List Tm × List (List Value) × IM) => ⟨[(12, .int .i64 (x.1 : Int)), (2, .int .i64 (x.2.1 : Int)), (1, .string (D6 L)), (3, .string (D6 E)), (4, .int .i64 (n : Int)), (5, .pointer (some ⟨b3, 0, none⟩)), (10, .pointer (some ⟨b4, 0, none⟩))], [.slc x.2.2.1 x.2.2.2.1 28 9 x.2.2.2.2.1 x.2.2.2.2.2.2.1.flatten, .blk b3 [.int .i64 k, .string ⟨⟨[]⟩⟩, .int .i64 0, .int .i64 0, .slice none 0 0, .int .i64 0, .slice none 0 0, .int .i64 0, .slice x.2.2.1 x.2.2.2.2.1 x.2.2.2.1], .blk b4 [.int .i64 0, .string ⟨⟨[]⟩⟩, .int .i64 0, .int .i64 0, .slice none 0 0, .int .i64 0, .slice none 0 0, .int .i64 0, .slice none 0 0]], x.2.2.2.2.2.2.2⟩) (fun x => x.1 ≤ E.length ∧ x.2.1 ≤ L.length ∧ x.2.2.2.2.1 = ks0.length + x.1 ∧ x.2.2.2.2.2.1.length = x.1 ∧ B2 G x.2.2.2.2.2.2.2 ∧ E5 x.2.2.2.2.2.2.2 (ks0 ++ x.2.2.2.2.2.1) x.2.2.2.2.2.2.1 ∧ U0 (J2 n) E (L.drop a) = (U0 (J2 n) (E.drop x.1) (L.drop x.2.1)).map fun y => (x.2.2.2.2.2.1 ++ y.1, y.2)) (fun x => E.length - x.1) (0, a, p0, c0, ks0.length, [], es0, G) ?_ ?_ ?_)
 (simp only [J9]; exact E0)
 (exact ⟨Nat.zero_le _, ha, rfl, rfl, B2.refl _, by simpa using hr0, by simp⟩)
 (rintro ⟨i, ai, pi, ci, nn, us, es, Gi⟩ ⟨hi, hai, hnn, hus, hle, hrl, hmo⟩; simp only [] at hi hai hnn hus hle hrl hmo ⊢)
 refine tS (tS (tR (sQ (qM rfl) rfl (sQ (qM rfl) rfl ?_))))
 refine sQ (P9 rfl rfl) rfl (sB (L9 rfl rfl) rfl rfl (fun h25 => ?_) (fun h25 => ?_))
 refine sD (nS (qT rfl (tK (nS (tS ?_)))))
 refine C6 ?_
 refine S6 ?_
 focus (have hiE : i < E.length := (by omega); refine D9 rfl (hP ai Gi hai) rfl rfl (fun v G1 hle1 hh => ?_); obtain ⟨ta, ca, na, rfl, hra, hm⟩ := hh; have hoa := hra.one; obtain ⟨x1, x2, x3, x4, x5, x6, x7, x8, x9, rfl⟩ := rm9 hra; replace hrl := hrl.mono hle1; rcases hm with ⟨hm, rfl⟩ | ⟨nx, hm, rfl, hnx⟩; rotate_left; obtain ⟨o, ho⟩ : ∃ o, L.getD nx 0 = o := ⟨_, rfl⟩; obtain ⟨q, hq⟩ : ∃ q, E.getD i 0 = q := ⟨_, rfl⟩; rotate_left)
 refine H0 ?_
 refine sE (A8 rfl) rfl (fun b42 => ?_)
 refine sS rfl rfl rfl rfl hoa rfl ?_
 refine sQ (qA rfl) rfl (sD (nS (tS (tS ?_))))
 refine D3 D4 rfl ?_
 refine E8 (i := 0) (l' := [tt,ff,ff,ff,ff,ff,ff,ff,ff,ff,ff,ff,ff,ff,ff,ff,ff]) rfl C5 (qM rfl) rfl (by kernel_rfl) rfl rfl ?_
 refine aP 1 rfl (A0A rfl rfl (by omega)) rfl ?_
 refine aP 2 rfl (qM rfl) rfl ?_
 refine B1 3 rfl rfl rfl ?_
 refine B1 4 rfl rfl rfl ?_
 refine B1 5 rfl rfl rfl ?_
 refine B1 6 rfl rfl rfl ?_
 refine aP 7 rfl (J8 rfl rfl) rfl ?_
 refine aP 8 rfl (qM rfl) rfl ?_
 refine B1 9 rfl rfl rfl ?_
 refine B1 10 rfl rfl rfl ?_
 refine B1 11 rfl rfl rfl ?_
 refine B1 12 rfl rfl rfl ?_
 refine B1 13 rfl rfl rfl ?_
 refine B1 14 rfl rfl rfl ?_
 refine B1 15 rfl rfl rfl ?_
 refine aP 16 rfl (J8 rfl rfl) rfl ?_
 refine T5 ?_
 refine B4 (rC rfl (A2 rfl rfl)) (rT rfl) ?_
 (exact M9.no (by rw [hmo, B5E hiE hm]; rfl))
 refine H0 ?_
 refine sE (A8 rfl) rfl (fun b89 => ?_)
 refine sS rfl rfl rfl rfl hoa rfl ?_
 refine sQ (qA rfl) rfl (sD (nS (tS (tS ?_))))
 refine D3 D4 rfl ?_
 refine E8 (i := 0) (l' := [tt,ff,ff,ff,ff,ff,ff,ff,ff,ff,ff,ff,ff,ff,ff,ff,ff]) rfl C5 (qM rfl) rfl (by kernel_rfl) rfl rfl ?_
 refine aP 1 rfl (V4 rfl rfl (by omega)) rfl ?_
 refine aP 2 rfl (qM rfl) rfl ?_
 refine aP 3 rfl (qM rfl) rfl ?_
 refine aP 4 rfl (qM rfl) rfl ?_
 refine aP 5 rfl (P9 rfl rfl) rfl ?_
 refine A0F (i := 6) (l' := [tt,tt,tt,tt,tt,tt,tt,ff,ff,ff,ff,ff,ff,ff,ff,ff,ff]) rfl C5 (S4 rfl rfl) rfl (by kernel_rfl) rfl rfl (fun h103 => ?_) (fun h103 => ?_)
 refine aP 7 rfl (M4 rfl rfl) rfl ?_
 refine aP 8 rfl (qM rfl) rfl ?_
 refine B1 9 rfl rfl rfl ?_
 refine B1 10 rfl rfl rfl ?_
 refine B1 11 rfl rfl rfl ?_
 refine B1 12 rfl rfl rfl ?_
 refine B1 13 rfl rfl rfl ?_
 refine B1 14 rfl rfl rfl ?_
 refine B1 15 rfl rfl rfl ?_
 refine aP 16 rfl (J8 rfl rfl) rfl ?_
 refine T5 ?_
 refine B4 (rC rfl (A2 rfl rfl)) (rT rfl) ?_
 (exact M9.no (by rw [hmo, B0L hiE hm (A2i (by omega))]; rfl))
 refine aP 7 rfl (M4 rfl rfl) rfl ?_
 refine aP 8 rfl (qM rfl) rfl ?_
 refine aP 9 rfl (qM rfl) rfl ?_
 refine aP 10 rfl (qM rfl) rfl ?_
 refine aP 11 rfl (A0Y rfl rfl rfl (by omega) ho) rfl ?_
 refine aP 12 rfl (qM rfl) rfl ?_
 refine aP 13 rfl (qM rfl) rfl ?_
 refine aP 14 rfl (A0Y rfl rfl rfl (by omega) hq) rfl ?_
 refine A0F (i := 15) (l' := [tt,tt,tt,tt,tt,tt,tt,tt,tt,tt,tt,tt,tt,tt,tt,tt,ff]) rfl C5 (P5 rfl rfl) rfl (by kernel_rfl) rfl rfl (fun h141 => ?_) (fun h141 => ?_)
 refine aP 16 rfl (M4 rfl rfl) rfl ?_
 refine T5 ?_
 refine B4 (rC rfl (A2 rfl rfl)) (rT rfl) ?_
 (exact M9.no (by rw [hmo, B0L hiE hm (A1P (by omega) (by rw [ho, hq]; exact J3 (by omega)))]; rfl))
 refine aP 16 rfl (M4 rfl rfl) rfl ?_
 refine M2 ?_
 (refine D7 (D1 rfl rfl rfl (by omega) (by unfold maxLen; omega) rfl) rfl ?_; rintro _ ⟨b173, rfl⟩)
 refine A1T rfl rfl rfl rfl rfl (fun _ _ => by repeat (first | exact Sw.here | apply Sw.there)) (R0 (by repeat first | exact mH | apply mT)) rfl (fun u hu => List.all_eq_true.1 hoa u hu) (by unfold maxLen; omega) (by omega) rfl (fun p7 c7 => ?_)
 refine sQ (A9 rfl) rfl (H2 ?_)
 refine sD (nS (tR (sQ (qM rfl) rfl ?_)))
 refine sP (K8 (n := 1) rfl rfl (by omega)) rfl rfl ?_
 refine K4 ?_
 refine sP (K8 (n := 1) rfl rfl (by omega)) rfl rfl ?_
 refine sQ (qA rfl) rfl (sD ?_)
 (have hoq : L.getD nx 0 = E.getD i 0 := (by rw [ho, hq]; exact J5 (by omega)); have hnl : nx < L.length := (by omega); refine K5 (i + 1, nx + 1, p7, c7, nn + 1, us ++ [ta], es ++ [[x1, x2, x3, x4, x5, x6, x7, x8, x9]], G1) ?_ ?_ ?_)
 (simp only [J9]; exact E0)
 (dsimp only; exact ⟨by omega, by omega, by omega, by rw [List.length_append, hus]; rfl, hle.trans hle1, by rw [← List.append_assoc]; exact hrl.snoc2 hra, by rw [hmo, B5D hiE hm hnl hoq, Option.map_map]; congr 1; funext y; simp⟩)
 (show E.length - (i + 1) < E.length - i; omega)
 refine N6 ?_
 (have hiE2 : i = E.length := (by omega); refine L4 (cs := es.flatten) (by repeat (first | exact Pk.here | apply Pk.there)) (fun G9 hle9 hsl9 hno9 => ?_))
 refine tT ?_
 refine B4 (rC rfl (A2 rfl rfl)) (rT rfl) ?_
 (subst hiE2; have hR9 := hrl.mono hle9; obtain rfl : nn = (ks0 ++ us).length := (by rw [List.length_append, hus, hnn]); exact M9.yes (A27 hk rfl (D5.of hsl9 hR9.len hR9.all (fun e he => by obtain ⟨j, hj⟩ := List.getElem?_of_mem he; have hlt : j < (ks0 ++ us).length := (by have := (List.getElem?_eq_some_iff.1 hj).1; rw [hR9.len] at this; exact this); obtain ⟨e', he', hr⟩ := hR9.get (i := j) (t := (ks0 ++ us)[j]) (by simp [hlt]); rw [hj] at he'; cases he'; exact hr.one)) hR9) (by rw [hmo, A2J (Nat.le_refl _)]; simp [U0]; rfl) hai)
section oplaws
variable {P : Program} {Γ : K0} {env : K3} {hp : List A4} {G : IM} {ty : TypeId}
theorem B0M {x y : Operand} {t t' : TypeId} {j : Nat} (hx : evo env x = some (.int .i64 ((j : Int) + 6))) (hy : evo env y = some (.int .i64 6)) (h : j ≤ 100) :
  H5 P Γ ⟨env, hp, G⟩ (.binOp .sub t x y t') ty (.int .i64 (j : Int)) := by
 have h2 := Q9 (P := P) (Γ := Γ) (hp := hp) (G := G) (ty := ty) (t := t) (t' := t') hx hy (by omega) (by omega)
 rwa [show (j : Int) + 6 - 6 = (j : Int) by omega] at h2
def opB (j : Nat) : UInt8 := ([32, 43, 60] : A3).getD j 0
theorem B5F {x y z : Operand} {t : TypeId} {i : M5} [hI : I0 P t i] (hd' : i.desc = .string) {j : Nat} (hx : evo env x = some (.string (D6 [32, 43, 60]))) (hy : evo env y = some (.int .i64 (j : Int))) (hz : evo env z = some (.int .i64 ((j + 1 : Nat) : Int))) (h : j < 3) :
  H5 P Γ ⟨env, hp, G⟩ (.slice t x (some y) (some z) none) ty (.string (D6 [opB j])) := by
 have h2 := A0Q (P := P) (Γ := Γ) (hp := hp) (G := G) (ty := ty) (t := t) (i := i) hd' hx hy hz (Nat.le_succ j) (by rw [N3]; simp only [List.length_cons, List.length_nil]; omega)
 have e : (D6 [32, 43, 60]).extract j (j + 1) = D6 [opB j] := by
  rw [A0V]
  have : j = 0 ∨ j = 1 ∨ j = 2 := by omega
  rcases this with rfl | rfl | rfl <;> rfl
 rwa [e] at h2
end oplaws
theorem A5e {n : Int} (h0 : 0 ≤ n) (h1 : n ≤ 9999) (G : IM) : Fn Tryz.prog 89 [.int .i64 n] [] G (L6 (.string (D6 (Lib.itoa n))) G) := by
 have := B5i n.toNat (by omega) G
 rw [Int.toNat_of_nonneg h0] at this
 have e : Lib.itoa n = Lib.decDigits n.toNat := by unfold Lib.itoa; rw [if_neg (by omega)]
 rw [e]; exact this
theorem B5G {n : Int} (h : n < 0) : Lib.itoa n = 45 :: Lib.itoa (-n) := by
 unfold Lib.itoa
 rw [if_pos h, if_neg (by omega)]
 congr 2; omega
theorem B5H (k num lb : Int) (nm : ByteArray) (ty fr : Ty) (ks : List Tm) (G : IM) (cells : List Value) (ht : H8 ty 1 = true) (hf : H8 fr 1 = true) (hl : -999 ≤ lb ∧ lb ≤ 999) (hr : B5 G (.mk k nm num ty fr lb ks) cells) :
  Fn Tryz.prog 91 [.agg ⟨cells⟩] [] G (L6 (.string (D6 (([58] : A3) ++ O7 fr ++ ([126] : A3) ++ O7 ty ++ ([35] : A3) ++ Lib.itoa lb ++ ([41] : A3)))) G) := by
 obtain ⟨tk, tks⟩ := ty
 obtain ⟨fk, fks⟩ := fr
 obtain ⟨pt, ct, pf, cf, p, c, es, rfl, hk, hnum, hlb, hty, hfr, hsl, hkl⟩ := hr.open9
 have h1 := Z6 ht (Int.le_refl _)
 have h2 := Z6 hf (Int.le_refl _)
 have h3 := A3k hl.1 hl.2
 have hm := @B5G lb
 refine B8 Tryz.func91 rfl Tryz.ntmps91 Tryz.results91 rfl ?_
 intro w0
 refine tS (tR ?_)
 refine sE (E7 rfl rfl) rfl (fun b3 => ?_)
 refine A0v ?_
 refine sB (L9 rfl rfl) rfl rfl (fun h23 => ?_) (fun h23 => ?_)
 refine sD (nS (qT rfl (tS (tR (sQ (qM rfl) rfl ?_)))))
 refine sP (A2O rfl (by omega) (by omega)) rfl rfl ?_
 refine F8 ?_
 refine D3 D4 rfl ?_
 refine E8 (i := 0) (l' := [tt,ff,ff,ff,ff,ff,ff,ff,ff,ff,ff,ff,ff,ff,ff,ff,ff]) rfl C5 (A9 rfl) rfl (by kernel_rfl) rfl rfl ?_
 refine aL 1 rfl (A2 rfl rfl) rfl ?_
 refine aP 5 rfl (A9 rfl) rfl ?_
 refine aL 6 rfl (A2 rfl rfl) rfl ?_
 refine aP 10 rfl (qM rfl) rfl ?_
 refine aP 12 rfl (qM rfl) rfl ?_
 refine A1 2 ?_
 refine I1 rfl rfl ((A3i (.mk fk fks) 1 _ _ hf (by omega) hfr)) rfl rfl rfl ?_
 refine aP 3 rfl (F0 rfl rfl (by simp only [List.length_append, List.length_cons, List.length_nil]; omega)) rfl ?_
 refine aP 4 rfl (F0 rfl rfl (by simp only [List.length_append, List.length_cons, List.length_nil]; omega)) rfl ?_
 refine A1 7 ?_
 refine I1 rfl rfl ((A3i (.mk tk tks) 1 _ _ ht (by omega) hty)) rfl rfl rfl ?_
 refine aP 8 rfl (F0 rfl rfl (by simp only [List.length_append, List.length_cons, List.length_nil]; omega)) rfl ?_
 refine aP 9 rfl (F0 rfl rfl (by simp only [List.length_append, List.length_cons, List.length_nil]; omega)) rfl ?_
 refine aP 11 rfl (F0 rfl rfl (by simp only [List.length_append, List.length_cons, List.length_nil]; omega)) rfl ?_
 refine A1 13 ?_
 (have hmm := hm (by omega); have h4 : (Lib.itoa (-lb)).length ≤ 4 := A3k (by omega) (by omega); refine I1 rfl rfl (A5e (n := -lb) (by omega) (by omega) _) rfl rfl rfl ?_)
 refine aP 14 rfl (F0 rfl rfl (by simp only [List.length_append, List.length_cons, List.length_nil]; omega)) rfl ?_
 refine aP 15 rfl (F0 rfl rfl (by simp only [List.length_append, List.length_cons, List.length_nil]; omega)) rfl ?_
 refine aP 16 rfl (qA rfl) rfl ?_
 refine D8 (nS (tT (E9 (rT rfl) ?_)))
 (exact ⟨rfl, by rw [hmm]; simp, rfl⟩)
 refine sD (nS (cF rfl (tK (nS (tS ?_)))))
 refine D3 D4 rfl ?_
 refine E8 (i := 0) (l' := [tt,ff,ff,ff,ff,ff,ff,ff,ff,ff,ff,ff,ff,ff,ff,ff,ff]) rfl C5 (A9 rfl) rfl (by kernel_rfl) rfl rfl ?_
 refine aL 1 rfl (A2 rfl rfl) rfl ?_
 refine aP 5 rfl (A9 rfl) rfl ?_
 refine aL 6 rfl (A2 rfl rfl) rfl ?_
 refine aP 10 rfl (qM rfl) rfl ?_
 refine aP 12 rfl (qM rfl) rfl ?_
 refine A1 2 ?_
 refine I1 rfl rfl ((A3i (.mk fk fks) 1 _ _ hf (by omega) hfr)) rfl rfl rfl ?_
 refine aP 3 rfl (F0 rfl rfl (by simp only [List.length_append, List.length_cons, List.length_nil]; omega)) rfl ?_
 refine aP 4 rfl (F0 rfl rfl (by simp only [List.length_append, List.length_cons, List.length_nil]; omega)) rfl ?_
 refine A1 7 ?_
 refine I1 rfl rfl ((A3i (.mk tk tks) 1 _ _ ht (by omega) hty)) rfl rfl rfl ?_
 refine aP 8 rfl (F0 rfl rfl (by simp only [List.length_append, List.length_cons, List.length_nil]; omega)) rfl ?_
 refine aP 9 rfl (F0 rfl rfl (by simp only [List.length_append, List.length_cons, List.length_nil]; omega)) rfl ?_
 refine aP 11 rfl (F0 rfl rfl (by simp only [List.length_append, List.length_cons, List.length_nil]; omega)) rfl ?_
 refine A1 13 ?_
 (refine I1 rfl rfl (A5e (n := lb) (by omega) (by omega) _) rfl rfl rfl ?_)
 refine aP 14 rfl (F0 rfl rfl (by simp only [List.length_append, List.length_cons, List.length_nil]; omega)) rfl ?_
 refine aP 15 rfl (F0 rfl rfl (by simp only [List.length_append, List.length_cons, List.length_nil]; omega)) rfl ?_
 refine aP 16 rfl (qA rfl) rfl ?_
 refine D8 (nS (tT (E9 (rT rfl) ?_)))
 (exact ⟨rfl, by simp, rfl⟩)
theorem B5I {k : Int} {nm : ByteArray} {num : Int} {ty fr : Ty} {lb : Int} {ks : List Tm} (hk : k = 14) (h : 1 ≤ ks.length) : B0 (.mk k nm num ty fr lb ks) = ([40] : A3) ++ B0 (ks[0]'(by omega)) ++ (([58] : A3) ++ O7 fr ++ ([126] : A3) ++ O7 ty ++ ([35] : A3) ++ Lib.itoa lb ++ ([41] : A3)) := by
 rw [B0I hk h]; simp
theorem B5J {k : Int} {nm : ByteArray} {num : Int} {ty fr : Ty} {lb : Int} {ks : List Tm} {j : Nat} (hk : k = (j : Int) + 6) (hj : j < 3) (h : 2 ≤ ks.length) : B0 (.mk k nm num ty fr lb ks) = ([40] : A3) ++ B0 (ks[0]'(by omega)) ++ [opB j] ++ B0 (ks[1]'(by omega)) ++ ([41] : A3) := by
 have : j = 0 ∨ j = 1 ∨ j = 2 := by omega
 rcases this with rfl | rfl | rfl
 ·exact B0A hk h
 ·exact B0B hk h
 ·exact B0C hk h
theorem B5K {G : IM} {p : Option Addr} {c : Nat} {ks : List Tm} {j : Nat} (h : Sl G p ks.length c 1 (ks.map fun t => Value.string (D6 (B0 t)))) (hj : j < ks.length) : ∃ b o, p = some ⟨b, o, none⟩ ∧ ∀ hp, At hp G b (o + j * 1) [.string (D6 (B0 ks[j]))] := by
 obtain ⟨b, o, v, hp, hv, hat, _⟩ := h.kid (i := j) hj
 rw [List.getElem?_map, List.getElem?_eq_getElem hj] at hv
 obtain rfl := Option.some.inj hv
 exact ⟨b, o, hp, fun hp => by simpa using hat hp⟩
theorem B0N {G : IM} {b o n : Nat} {v : Value} (h : ∃ b' o', (some ⟨b, o, none⟩ : Option Addr) = some ⟨b', o', none⟩ ∧ ∀ hp, At hp G b' (o' + n) [v]) : ∀ hp, At hp G b (o + n) [v] := by
 obtain ⟨b', o', h1, h2⟩ := h
 cases h1
 exact h2
theorem B0O (D N : Int) : ∀ (e : Tm) (d : Int) (G : IM) (cells : List Value), L8 D N e d = true → C3 e ≤ 100000 → B5 G e cells → Fn Tryz.prog 42 [.agg ⟨cells⟩] [] G (A2K (B0 e)) := by
 refine Tm.ind fun k nm num ty fr lb ks ih d G cells hs hcnt hr => ?_
 obtain ⟨hd, _, h3, h4⟩ := Z4 hs
 have hvk := (A0m D N ks _).1 h4
 obtain ⟨n1, n2, n3, n4, n5, n6, n7, n8, n9⟩ := U8.1 h3
 rw [C3] at hcnt
 have hTl : ∀ i (h : i < ks.length), (B0 ks[i]).length ≤ 10000000 := fun i h => by
  have h1 := A5a D N ks[i] _ (hvk i h)
  have h2 := A5b h
  omega
 have hL1 : k = 5 ∨ k = 11 ∨ k = 12 ∨ k = 13 ∨ k = 14 → ks.length = 1 := fun h => by
  have : H6 k = 1 := by rcases h with rfl | rfl | rfl | rfl | rfl <;> rfl
  omega
 have hL2 : k = 6 ∨ k = 7 ∨ k = 8 ∨ k = 10 → ks.length = 2 := fun h => by
  have : H6 k = 2 := by rcases h with rfl | rfl | rfl | rfl <;> rfl
  omega
 have hL3 : k = 9 → ks.length = 3 := fun h => by
  have : H6 k = 3 := by subst h; rfl
  omega
 have hkk : 1 ≤ k ∧ k ≤ 14 ∧ ks.length ≤ 3 := by
  unfold H6 at n1
  repeat' split at n1
  all_goals omega
 have hnumr : k = 2 → 0 ≤ num ∧ num ≤ 999 := fun h => A1k (n4 h)
 have hvt : k = 5 ∨ k = 13 ∨ k = 14 → H8 ty 1 = true := n6
 have hvf : k = 14 → H8 fr 1 = true := fun h => by
  have := (n8 h).1
  unfold A0C at this
  simp only [Bool.and_eq_true] at this
  exact this.1.1
 have hvl : k = 14 → -999 ≤ lb ∧ lb ≤ 999 := fun h => by
  have := (n8 h).2
  unfold Z0 at this
  rw [Bool.or_eq_true] at this
  rcases this with h | h <;> have := A1k h <;> omega
 have hnl : (k = 1 ∨ k = 5 → nm.size = 1) := fun h => by rw [(A40 (n2 h)).1]; rfl
 obtain ⟨nl, rfl⟩ : ∃ nl, nm = D6 nl := ⟨_, (A6E nm).symm⟩
 rw [N3] at hnl
 have hr0 := hr
 obtain ⟨tk, tks⟩ := ty
 obtain ⟨fk, fks⟩ := fr
 obtain ⟨pt, ct, pf, cf, p, c, es, rfl, hk, hnum, hlb, hty, hfr, hsl, hkl⟩ := hr.open9
 have hn := hsl.le
 refine B8 Tryz.func42 rfl Tryz.ntmps42 Tryz.results42 rfl ?_
 intro w0
 refine tS (tR ?_)
 refine sE (E7 rfl rfl) rfl (fun b3 => ?_)
 refine sQ (qA rfl) rfl (sD (nS (tS (tR ?_))))
 (refine D7 (D1 rfl rfl rfl (by omega) (by unfold maxLen; omega) rfl) rfl ?_; rintro _ ⟨b9, rfl⟩)
 refine C7 ?_
 refine C6 ?_
 (refine N4 (fun (x : Nat × Option Addr × Nat × IM) => ⟨[(4, .int .i64 (x.1 : Int)), (3, .slice x.2.1 x.1 x.2.2.1), (1, .pointer (some ⟨b3, 0, none⟩))], [.slc x.2.1 x.2.2.1 9 1 x.1 ((ks.take x.1).map fun t => Value.string (D6 (B0 t))), .blk b3 [.int .i64 k, .string (D6 nl), .int .i64 num, .int .i64 tk, .slice pt tks.length ct, .int .i64 fk, .slice pf fks.length cf, .int .i64 lb, .slice p ks.length c]], x.2.2.2⟩) (fun x => x.1 ≤ ks.length ∧ B2 G x.2.2.2) (fun x => ks.length - x.1) (0, some ⟨b9, 0, none⟩, 0, G) ?_ ?_ ?_)
 (simp only [J9]; exact E0)
 (exact ⟨Nat.zero_le _, B2.refl _⟩)
 (rintro ⟨(i : Nat), pn, cn, Gi⟩ ⟨hi, hle⟩; simp only [] at hi hle ⊢)
 refine B7 ?_
 refine sB (L9 rfl rfl) rfl rfl (fun h31 => ?_) (fun h31 => ?_)
 refine sD (nS (qT rfl (tK (nS (tS ?_)))))
 refine C6 ?_
 refine S6 ?_
 (have hil : i < ks.length := (by omega); obtain ⟨bx, ox, e, rfl, hel, hat, hre, hgb⟩ := (hsl.mono hle).kidTm (hkl.mono hle) (i := i) hil hil; refine sP (D0 (j := i) rfl rfl rfl (by omega)) rfl rfl ?_)
 refine sL (A6 rfl rfl (hat _) hel) rfl rfl ?_
 (refine D9 rfl (ih ks[i] (List.getElem_mem hil) (d + 1) Gi e (hvk i hil) (by have := A5b hil; omega) (hre)) rfl rfl (fun v G3 hle3 hh => ?_); subst hh)
 (refine D7 (D1 rfl rfl rfl (by omega) (by unfold maxLen; omega) rfl) rfl ?_; rintro _ ⟨b47, rfl⟩)
 refine A1T rfl rfl rfl rfl rfl (fun _ _ => by repeat (first | exact Sw.here | apply Sw.there)) (R0 (by repeat first | exact mH | apply mT)) rfl (by simp [Value.oneCell']) (by unfold maxLen; omega) (by omega) rfl (fun pn' cn' => ?_)
 refine K4 ?_
 refine sP (K8 (n := 1) rfl rfl (by omega)) rfl rfl ?_
 refine sQ (qA rfl) rfl (sD ?_)
 (refine K5 (i + 1, pn', cn', G3) (by rw [List.take_succ_eq_append_getElem hil, List.map_append, List.map_cons, List.map_nil]; exact (N7 (by repeat (first | exact E6.nil | refine E6.cons rfl ?_)) (by repeat (first | exact A0.refl | exact A0.nil | refine A0.cons (by repeat (first | exact Pk.here | apply Pk.there)) ?_ | apply A0.drop)))) ?_ ?_)
 (dsimp only; exact ⟨by omega, hle.trans hle3⟩)
 (show ks.length - (i + 1) < ks.length - i; omega)
 refine M2 ?_
 focus (have hie : i = ks.length := (by omega); refine A0H (by repeat (first | exact Pk.here | apply Pk.there)) (fun G2 hle2 hsl2 hno2 => ?_); subst hie; rw [List.take_length] at hsl2; have hle02 := hle.trans hle2; have hty2 := hty.mono hle02; have hfr2 := hfr.mono hle02; have hr2 := hr.mono hle02; have hKid := fun j hj => B5K (j := j) hsl2 hj; rcases Nat.eq_zero_or_pos ks.length with hz | hz; rotate_left; obtain ⟨bs, os, hps, hat0⟩ := hKid 0 hz; subst hps; have hat1 := fun h : 1 < ks.length => B0N (hKid 1 h); have hat2 := fun h : 2 < ks.length => B0N (hKid 2 h); have hTl0 := hTl 0 hz; have hTl1 := hTl 1; have hTl2 := hTl 2; rotate_left)
 refine S6 ?_
 refine C6 (tS (tR (sB (qE rfl rfl) rfl rfl (fun h80 => ?_) (fun h80 => ?_))))
 refine M3 ?_
 (have hk1 : k = 1 := (by omega); exact ⟨rfl, by rw [B0, L5, if_pos hk1]; rfl⟩)
 refine sQ (qA rfl) rfl (sD (nS (cF rfl (tS (tR ?_)))))
 refine sB (qE rfl rfl) rfl rfl (fun h103 => ?_) (fun h103 => ?_)
 refine F8 ?_
 refine H7 rfl ((A5e (n := num) (by have := hnumr; omega) (by have := hnumr; omega) _)) rfl rfl ?_
 refine sQ (qA rfl) rfl (sD (nS (tT (rB (rS (E9 (rT rfl) ?_))))))
 (have hk1 : k = 2 := (by omega); exact ⟨rfl, by rw [B0, L5, if_neg (by omega), if_pos hk1]⟩)
 refine sQ (qA rfl) rfl (sD (nS (cF rfl (tS (tR ?_)))))
 refine sB (qE rfl rfl) rfl rfl (fun h127 => ?_) (fun h127 => ?_)
 refine I5 ?_
 (have hk1 : k = 3 := (by omega); subst hk1; exact ⟨rfl, rfl⟩)
 refine sQ (qA rfl) rfl (sD (nS (cF rfl (tS (tR ?_)))))
 refine sP (A0G rfl rfl (by omega)) rfl rfl ?_
 refine I5 ?_
 (have hk1 : k = 4 := (by omega); subst hk1; exact ⟨rfl, rfl⟩)
 refine S6 ?_
 refine C6 (tS (tR (sB (qE rfl rfl) rfl rfl (fun h171 => ?_) (fun h171 => ?_))))
 refine M3 ?_
 (have hk1 : k = 1 := (by omega); exact ⟨rfl, by rw [B0, L5, if_pos hk1]; rfl⟩)
 refine sQ (qA rfl) rfl (sD (nS (cF rfl (tS (tR ?_)))))
 refine sB (qE rfl rfl) rfl rfl (fun h194 => ?_) (fun h194 => ?_)
 refine F8 ?_
 refine H7 rfl ((A5e (n := num) (by have := hnumr; omega) (by have := hnumr; omega) _)) rfl rfl ?_
 refine sQ (qA rfl) rfl (sD (nS (tT (rB (rS (E9 (rT rfl) ?_))))))
 (have hk1 : k = 2 := (by omega); exact ⟨rfl, by rw [B0, L5, if_neg (by omega), if_pos hk1]⟩)
 refine sQ (qA rfl) rfl (sD (nS (cF rfl (tS (tR ?_)))))
 refine sB (qE rfl rfl) rfl rfl (fun h218 => ?_) (fun h218 => ?_)
 refine I5 ?_
 (have hk1 : k = 3 := (by omega); subst hk1; exact ⟨rfl, rfl⟩)
 refine sQ (qA rfl) rfl (sD (nS (cF rfl (tS (tR ?_)))))
 refine sB (qE rfl rfl) rfl rfl (fun h239 => ?_) (fun h239 => ?_)
 refine I5 ?_
 (have hk1 : k = 4 := (by omega); subst hk1; exact ⟨rfl, rfl⟩)
 refine sQ (qA rfl) rfl (sD (nS (cF rfl (tS (tR ?_)))))
 refine sB (qE rfl rfl) rfl rfl (fun h260 => ?_) (fun h260 => ?_)
 refine sQ (qA rfl) rfl (sD (nS (qT rfl (tS ?_))))
 refine D3 D4 rfl ?_
 refine E8 (i := 0) (l' := [tt,ff,ff,ff,ff,ff,ff,ff,ff,ff,ff,ff,ff,ff]) rfl C5 (A9 rfl) rfl (by kernel_rfl) rfl rfl ?_
 refine aL 1 rfl (C2 rfl rfl) rfl ?_
 refine aP 2 rfl (F0 rfl rfl (by simp only [List.length_append, List.length_cons, List.length_nil]; omega)) rfl ?_
 refine aP 3 rfl (F0 rfl rfl (by simp only [List.length_append, List.length_cons, List.length_nil]; omega)) rfl ?_
 refine aP 4 rfl (A9 rfl) rfl ?_
 refine aL 5 rfl (A2 rfl rfl) rfl ?_
 refine aP 9 rfl (qM rfl) rfl ?_
 refine aP 10 rfl (D0 (j := 0) rfl rfl rfl (by omega)) rfl ?_
 refine aL 11 rfl (M7 rfl rfl (hat0 _)) rfl ?_
 refine A1 6 ?_
 (refine I1 rfl rfl (A3i (.mk tk tks) 1 _ _ (hvt (by omega)) (by omega) hty2) rfl rfl rfl ?_; have hlt := Z6 (hvt (by omega)) (Int.le_refl _))
 refine aP 7 rfl (F0 rfl rfl (by simp only [List.length_append, List.length_cons, List.length_nil]; omega)) rfl ?_
 refine aP 8 rfl (F0 rfl rfl (by simp only [List.length_append, List.length_cons, List.length_nil]; omega)) rfl ?_
 refine aP 12 rfl (F0 rfl rfl (by simp only [List.length_append, List.length_cons, List.length_nil]; omega)) rfl ?_
 refine aP 13 rfl (qA rfl) rfl ?_
 refine D8 (nS (tT (rB (rS (E9 (rT rfl) ?_)))))
 (have hk1 : k = 5 := (by omega); exact ⟨rfl, by rw [B0z hk1 (by omega)] <;> rfl⟩)
 refine sQ (qA rfl) rfl (sD (nS (cF rfl (tS (tR ?_)))))
 refine sB (qE rfl rfl) rfl rfl (fun h295 => ?_) (fun h295 => ?_)
 refine sQ (qA rfl) rfl (sD (nS (qT rfl (tS ?_))))
 (have hj9 : k = 9 := (by omega); have hx1 := hTl1 (by omega); have hx2 := hTl2 (by omega); refine D3 D4 rfl ?_)
 refine E8 (i := 0) (l' := [tt,ff,ff,ff,ff,ff,ff,ff,ff,ff,ff,ff,ff,ff,ff,ff]) rfl C5 (qM rfl) rfl (by kernel_rfl) rfl rfl ?_
 refine aP 1 rfl (D0 (j := 0) rfl rfl rfl (by omega)) rfl ?_
 refine aL 2 rfl (M7 rfl rfl (hat0 _)) rfl ?_
 refine aP 3 rfl (F0 rfl rfl (by simp only [List.length_append, List.length_cons, List.length_nil]; omega)) rfl ?_
 refine aP 4 rfl (F0 rfl rfl (by simp only [List.length_append, List.length_cons, List.length_nil]; omega)) rfl ?_
 refine aP 5 rfl (qM rfl) rfl ?_
 refine aP 6 rfl (D0 (j := 1) rfl rfl rfl (by omega)) rfl ?_
 refine aL 7 rfl (M7 rfl rfl (hat1 (by omega) _)) rfl ?_
 refine aP 8 rfl (F0 rfl rfl (by simp only [List.length_append, List.length_cons, List.length_nil]; omega)) rfl ?_
 refine aP 9 rfl (F0 rfl rfl (by simp only [List.length_append, List.length_cons, List.length_nil]; omega)) rfl ?_
 refine aP 10 rfl (qM rfl) rfl ?_
 refine aP 11 rfl (D0 (j := 2) rfl rfl rfl (by omega)) rfl ?_
 refine aL 12 rfl (M7 rfl rfl (hat2 (by omega) _)) rfl ?_
 refine aP 13 rfl (F0 rfl rfl (by simp only [List.length_append, List.length_cons, List.length_nil]; omega)) rfl ?_
 refine aP 14 rfl (F0 rfl rfl (by simp only [List.length_append, List.length_cons, List.length_nil]; omega)) rfl ?_
 refine aP 15 rfl (qA rfl) rfl ?_
 refine D8 (nS (tT (rB (rS (E9 (rT rfl) ?_)))))
 (have hk1 : k = 9 := (by omega); exact ⟨rfl, by rw [B0D hk1 (by omega)] <;> rfl⟩)
 refine sQ (qA rfl) rfl (sD (nS (cF rfl (tS (tR ?_)))))
 refine sB (qE rfl rfl) rfl rfl (fun h331 => ?_) (fun h331 => ?_)
 refine sQ (qA rfl) rfl (sD (nS (qT rfl (tS ?_))))
 (have hj10 : k = 10 := (by omega); have hx1 := hTl1 (by omega); refine D3 D4 rfl ?_)
 refine E8 (i := 0) (l' := [tt,ff,ff,ff,ff,ff,ff,ff,ff,ff,ff]) rfl C5 (qM rfl) rfl (by kernel_rfl) rfl rfl ?_
 refine aP 1 rfl (D0 (j := 0) rfl rfl rfl (by omega)) rfl ?_
 refine aL 2 rfl (M7 rfl rfl (hat0 _)) rfl ?_
 refine aP 3 rfl (F0 rfl rfl (by simp only [List.length_append, List.length_cons, List.length_nil]; omega)) rfl ?_
 refine aP 4 rfl (F0 rfl rfl (by simp only [List.length_append, List.length_cons, List.length_nil]; omega)) rfl ?_
 refine aP 5 rfl (qM rfl) rfl ?_
 refine aP 6 rfl (D0 (j := 1) rfl rfl rfl (by omega)) rfl ?_
 refine aL 7 rfl (M7 rfl rfl (hat1 (by omega) _)) rfl ?_
 refine aP 8 rfl (F0 rfl rfl (by simp only [List.length_append, List.length_cons, List.length_nil]; omega)) rfl ?_
 refine aP 9 rfl (F0 rfl rfl (by simp only [List.length_append, List.length_cons, List.length_nil]; omega)) rfl ?_
 refine aP 10 rfl (qA rfl) rfl ?_
 refine D8 (nS (tT (rB (rS (E9 (rT rfl) ?_)))))
 (have hk1 : k = 10 := (by omega); exact ⟨rfl, by rw [B0E hk1 (by omega)] <;> rfl⟩)
 refine sQ (qA rfl) rfl (sD (nS (cF rfl (tS (tR ?_)))))
 refine sB (qE rfl rfl) rfl rfl (fun h362 => ?_) (fun h362 => ?_)
 refine B7 ?_
 refine sP (D0 (j := 0) rfl rfl rfl (by omega)) rfl rfl ?_
 refine sL (M7 rfl rfl (hat0 _)) rfl rfl ?_
 refine sP (F0 rfl rfl (by simp only [List.length_append, List.length_cons, List.length_nil]; omega)) rfl rfl ?_
 refine sQ (qA rfl) rfl (sD (nS (tT (rB (rS (E9 (rT rfl) ?_))))))
 (have hk1 : k = 11 := (by omega); exact ⟨rfl, by rw [B0F hk1 (by omega)] <;> rfl⟩)
 refine sQ (qA rfl) rfl (sD (nS (cF rfl (tS (tR ?_)))))
 refine sB (qE rfl rfl) rfl rfl (fun h387 => ?_) (fun h387 => ?_)
 refine B7 ?_
 refine sP (D0 (j := 0) rfl rfl rfl (by omega)) rfl rfl ?_
 refine sL (M7 rfl rfl (hat0 _)) rfl rfl ?_
 refine sP (F0 rfl rfl (by simp only [List.length_append, List.length_cons, List.length_nil]; omega)) rfl rfl ?_
 refine sQ (qA rfl) rfl (sD (nS (tT (rB (rS (E9 (rT rfl) ?_))))))
 (have hk1 : k = 12 := (by omega); exact ⟨rfl, by rw [B0G hk1 (by omega)] <;> rfl⟩)
 refine sQ (qA rfl) rfl (sD (nS (cF rfl (tS (tR ?_)))))
 refine sB (qE rfl rfl) rfl rfl (fun h412 => ?_) (fun h412 => ?_)
 refine sQ (qA rfl) rfl (sD (nS (qT rfl (tS ?_))))
 refine D3 D4 rfl ?_
 refine E8 (i := 0) (l' := [tt,ff,ff,ff,ff,ff,ff,ff,ff,ff,ff]) rfl C5 (qM rfl) rfl (by kernel_rfl) rfl rfl ?_
 refine aP 1 rfl (D0 (j := 0) rfl rfl rfl (by omega)) rfl ?_
 refine aL 2 rfl (M7 rfl rfl (hat0 _)) rfl ?_
 refine aP 3 rfl (F0 rfl rfl (by simp only [List.length_append, List.length_cons, List.length_nil]; omega)) rfl ?_
 refine aP 4 rfl (F0 rfl rfl (by simp only [List.length_append, List.length_cons, List.length_nil]; omega)) rfl ?_
 refine aP 5 rfl (A9 rfl) rfl ?_
 refine aL 6 rfl (A2 rfl rfl) rfl ?_
 refine A1 7 ?_
 (refine I1 rfl rfl (A3i (.mk tk tks) 1 _ _ (hvt (by omega)) (by omega) hty2) rfl rfl rfl ?_; have hlt := Z6 (hvt (by omega)) (Int.le_refl _))
 refine aP 8 rfl (F0 rfl rfl (by simp only [List.length_append, List.length_cons, List.length_nil]; omega)) rfl ?_
 refine aP 9 rfl (F0 rfl rfl (by simp only [List.length_append, List.length_cons, List.length_nil]; omega)) rfl ?_
 refine aP 10 rfl (qA rfl) rfl ?_
 refine D8 (nS (tT (rB (rS (E9 (rT rfl) ?_)))))
 (have hk1 : k = 13 := (by omega); exact ⟨rfl, by rw [B0H hk1 (by omega)] <;> rfl⟩)
 refine sQ (qA rfl) rfl (sD (nS (cF rfl (tS (tR ?_)))))
 refine sB (qE rfl rfl) rfl rfl (fun h444 => ?_) (fun h444 => ?_)
 refine sQ (qA rfl) rfl (sD (nS (qT rfl (tS ?_))))
 refine D3 D4 rfl ?_
 refine S3 (i := 4) (l' := [ff,ff,ff,ff,tt,ff,ff,ff]) rfl C5 (A6 rfl rfl (C8 (by repeat first | exact mH | apply mT)) rfl) rfl (by kernel_rfl) rfl rfl ?_
 refine aP 0 rfl (qM rfl) rfl ?_
 refine aP 1 rfl (D0 (j := 0) rfl rfl rfl (by omega)) rfl ?_
 refine aL 2 rfl (M7 rfl rfl (hat0 _)) rfl ?_
 refine aP 3 rfl (F0 rfl rfl (by simp only [List.length_append, List.length_cons, List.length_nil]; omega)) rfl ?_
 refine A1 5 ?_
 (have hlab := hvl (by omega); refine I1 rfl rfl (B5H k num lb (D6 nl) (.mk tk tks) (.mk fk fks) ks _ _ (hvt (by omega)) (hvf (by omega)) hlab hr2) rfl rfl rfl ?_; have hlt := Z6 (hvt (by omega)) (Int.le_refl _); have hlf := Z6 (hvf (by omega)) (Int.le_refl _); have hll := A3k hlab.1 hlab.2)
 refine aP 6 rfl (F0 rfl rfl (by simp only [List.length_append, List.length_cons, List.length_nil]; omega)) rfl ?_
 refine aP 7 rfl (qA rfl) rfl ?_
 refine D8 (nS (tT (rB (rS (E9 (rT rfl) ?_)))))
 (have hk1 : k = 14 := (by omega); exact ⟨rfl, by rw [B5I hk1 (by omega)] <;> rfl⟩)
 refine F8 ?_
 (have hj6 : 6 ≤ k ∧ k ≤ 8 := (by omega); obtain ⟨j, hjk⟩ : ∃ j : Nat, k = (j : Int) + 6 := ⟨(k - 6).toNat, by omega⟩; subst hjk; have hx1 := hTl1 (by omega); refine D3 D4 rfl ?_)
 refine E8 (i := 0) (l' := [tt,ff,ff,ff,ff,ff,ff,ff,ff,ff,ff,ff,ff,ff,ff,ff,ff,ff,ff]) rfl C5 (qM rfl) rfl (by kernel_rfl) rfl rfl ?_
 refine aP 1 rfl (D0 (j := 0) rfl rfl rfl (by omega)) rfl ?_
 refine aL 2 rfl (M7 rfl rfl (hat0 _)) rfl ?_
 refine aP 3 rfl (F0 rfl rfl (by simp only [List.length_append, List.length_cons, List.length_nil]; omega)) rfl ?_
 refine aP 4 rfl (A9 rfl) rfl ?_
 refine aL 5 rfl (C2 rfl rfl) rfl ?_
 refine aP 6 rfl (B0M rfl rfl (by omega)) rfl ?_
 refine aP 7 rfl (A9 rfl) rfl ?_
 refine aL 8 rfl (C2 rfl rfl) rfl ?_
 refine aP 9 rfl (B0M rfl rfl (by omega)) rfl ?_
 refine aP 10 rfl (K8 (n := 1) rfl rfl (by omega)) rfl ?_
 refine aP 11 rfl (B5F rfl rfl rfl rfl (by omega)) rfl ?_
 refine aP 12 rfl (F0 rfl rfl (by simp only [List.length_append, List.length_cons, List.length_nil]; omega)) rfl ?_
 refine aP 13 rfl (qM rfl) rfl ?_
 refine aP 14 rfl (D0 (j := 1) rfl rfl rfl (by omega)) rfl ?_
 refine aL 15 rfl (M7 rfl rfl (hat1 (by omega) _)) rfl ?_
 refine aP 16 rfl (F0 rfl rfl (by simp only [List.length_append, List.length_cons, List.length_nil]; omega)) rfl ?_
 refine aP 17 rfl (F0 rfl rfl (by simp only [List.length_append, List.length_cons, List.length_nil]; omega)) rfl ?_
 refine aP 18 rfl (qA rfl) rfl ?_
 refine D8 (nS (tT (E9 (rT rfl) ?_)))
 (exact ⟨rfl, by rw [B5J rfl (by omega) (by omega)] <;> rfl⟩)
def A1g (V : Tm → Bool) (l : A3) (e : Tm) (ok : Bool) : Prop := (ok = true ∧ V e = true ∧ B0 e = l) ∨ (ok = false ∧ e = K7 ∧ ∀ x, V x = true → B0 x ≠ l)
theorem A1g.uniq {V : Tm → Bool} {l : A3} {e e' : Tm} {ok ok' : Bool} (hi : ∀ x y, V x = true → V y = true → B0 x = B0 y → x = y) (h : A1g V l e ok) (h' : A1g V l e' ok') : e = e' ∧ ok = ok' := by
 rcases h with ⟨a1, a2, a3⟩ | ⟨a1, a2, a3⟩ <;> rcases h' with ⟨b1, b2, b3⟩ | ⟨b1, b2, b3⟩
 ·exact ⟨hi _ _ a2 b2 (a3.trans b3.symm), a1.trans b1.symm⟩
 ·exact absurd a3 (b3 _ a2)
 ·exact absurd b3 (a3 _ b2)
 ·exact ⟨a2.trans b2.symm, a1.trans b1.symm⟩
def VOk (V : Tm → Bool) (D N : Int) : Prop := 0 ≤ D ∧ D ≤ 40 ∧ ∀ e, V e = true → L8 D N e 1 = true ∧ C3 e ≤ 200
theorem A2k : VOk R2 40 13 := ⟨by decide, by decide, fun e h => (A4w e).1 h⟩
theorem VOk.p {V : Tm → Bool} {D N : Int} (h : VOk V D N) {e : Tm} (he : V e = true) : I2 40 (B0 e) = some (e, []) := A6z (h.2.2 e he).1 h.2.1
theorem VOk.r {V : Tm → Bool} {D N : Int} (h : VOk V D N) {e : Tm} (he : V e = true) {n : Nat} (hn : D ≤ n) : J2 n (B0 e) = some (e, []) := B4y (h.2.2 e he).1 hn
theorem VOk.inj {V : Tm → Bool} {D N : Int} (h : VOk V D N) : ∀ x y, V x = true → V y = true → B0 x = B0 y → x = y := fun x y hx hy he => B4z (h.2.2 x hx).1 (h.2.2 y hy).1 h.1 he
theorem VOk.ne {V : Tm → Bool} {D N : Int} (h : VOk V D N) {e : Tm} (he : V e = true) : B0 e ≠ [] := fun h0 => by
 have := h.p he
 rw [h0] at this
 cases this
theorem A2L {c : UInt8} {l r : A3} (h : F9 c l = some r) : r.length + 1 = l.length := by
 cases l with
 | nil => cases h
 | cons b l =>
  rw [F9] at h
  split at h
  ·cases h; rfl
  ·cases h
theorem A61 {l : A3} {x : UInt8 × A3} (h : T9 l = some x) : x.2.length + 1 = l.length := by
 cases l with
 | nil => cases h
 | cons b l => cases h; rfl
theorem A62 : ∀ (n : Nat) (l : A3) (x : Ty × A3), O0 n l = some x → x.2.length + 1 ≤ l.length := by
 intro n
 induction n with
 | zero => intro l x h; cases h
 | succ n ih =>
  intro l x h
  cases l with
  | nil => cases h
  | cons b r =>
   rw [O0] at h
   split at h
   ·cases h; simp
   split at h
   ·cases h; simp
   split at h
   ·cases h; simp
   split at h
   ·simp only [Option.bind_eq_some_iff, Option.ite_none_right_eq_some, Option.map_eq_some_iff] at h
    obtain ⟨y, h1, o, h2, z, h3, _, w, h5, rfl⟩ := h
    have := ih _ _ h1
    have := A61 h2
    have := ih _ _ h3
    have := A2L h5
    simp only [List.length_cons]; omega
   ·cases h
theorem B0P : ∀ l : A3, Q7 l ≤ l.length
 | [] => Nat.le_refl _
 | c :: r => by rw [Q7]; split; have := B0P r; simp only [List.length_cons]; omega; exact Nat.zero_le _
theorem A63 {l : A3} {x : Int × A3} (h : A0E l = some x) : x.2.length + 1 ≤ l.length := by
 unfold A0E at h
 simp only at h
 split at h
 ·cases h
 ·rename_i hm
  cases h
  have h1 := B0P (l.take 4)
  rw [List.length_take] at h1
  rw [List.length_drop]
  have : ¬Q7 (l.take 4) = 0 := fun h => hm (.inl h)
  omega
def A37 (f : A3 → Option (Tm × A3)) : Prop := ∀ l x, f l = some x → C3 x.1 + x.2.length ≤ l.length
theorem A5f {f : A3 → Option (Tm × A3)} (hf : A37 f) : ∀ (cs l : A3) (x : List Tm × A3), U0 f cs l = some x → C9 x.1 + x.2.length ≤ l.length
 | [], l, x, h => by rw [U0] at h; cases h; simp [C9]
 | c :: cs, l, x, h => by
  rw [U0] at h
  simp only [Option.bind_eq_some_iff, Option.map_eq_some_iff] at h
  obtain ⟨y, h1, r, h2, z, h3, rfl⟩ := h
  have := hf _ _ h1
  have := A2L h2
  have := A5f hf cs r z h3
  simp only [C9]; omega
theorem B5L {f : A3 → Option (Tm × A3)} (hf : A37 f) {l : A3} {x : Tm × A3} (h : A0o f l = some x) : C3 x.1 + x.2.length ≤ l.length := by
 unfold A0o at h
 simp only [Option.bind_eq_some_iff, Option.map_eq_some_iff] at h
 obtain ⟨y, h1, r, h2, t, h3, r2, h4, z, h5, rfl⟩ := h
 have := A61 h1
 have := A2L h2
 have := A62 _ _ _ h3
 have := A2L h4
 have := hf _ _ h5
 simp only [C3, C9]; omega
theorem B5M {a : Tm} {t : Ty} {l : A3} {x : Tm × A3} (h : A0e a t l = some x) : C3 x.1 + x.2.length ≤ l.length + C3 a := by
 unfold A0e at h
 simp only [Option.bind_eq_some_iff] at h
 obtain ⟨u, h1, r, h2, h3⟩ := h
 have := A62 _ _ _ h1
 have := A2L h2
 split at h3
 ·cases h3
 split at h3
 ·simp only [Option.bind_eq_some_iff, Option.map_eq_some_iff] at h3
  obtain ⟨m, h4, r3, h5, rfl⟩ := h3
  have := A63 h4
  have := A2L h5
  have : r.tail.length ≤ r.length := by rw [List.length_tail]; omega
  simp only [C3, C9]; omega
 ·simp only [Option.bind_eq_some_iff, Option.map_eq_some_iff] at h3
  obtain ⟨m, h4, r3, h5, rfl⟩ := h3
  have := A63 h4
  have := A2L h5
  simp only [C3, C9]; omega
theorem B5N {f : A3 → Option (Tm × A3)} (hf : A37 f) {l : A3} {x : Tm × A3} (h : X8 f l = some x) : C3 x.1 + x.2.length ≤ l.length := by
 unfold X8 at h
 simp only [Option.bind_eq_some_iff] at h
 obtain ⟨a, h1, o, h2, h3⟩ := h
 have ha := hf _ _ h1
 have ho := A61 h2
 have hb : ∀ k, A1O f k a.1 o.2 = some x → C3 x.1 + x.2.length ≤ l.length := fun k hk => by
  unfold A1O at hk
  simp only [Option.map_eq_some_iff] at hk
  obtain ⟨y, h4, rfl⟩ := hk
  have := A5f hf _ _ _ h4
  simp only [nd, C3, C9]; omega
 split at h3
 ·exact hb _ h3
 split at h3
 ·exact hb _ h3
 split at h3
 ·exact hb _ h3
 split at h3
 ·unfold rAs at h3
  simp only [Option.bind_eq_some_iff] at h3
  obtain ⟨t, h4, h5⟩ := h3
  have := A62 _ _ _ h4
  have htl : t.2.tail.length ≤ t.2.length := by rw [List.length_tail]; omega
  split at h5
  ·cases h5; simp only [C3, C9]; omega
  split at h5
  ·have := B5M h5; omega
  ·cases h5
 ·cases h3
theorem B0Q {f : A3 → Option (Tm × A3)} (hf : A37 f) {k : Int} {l : A3} {x : Tm × A3} (h : V1 f k l = some x) : C3 x.1 + x.2.length ≤ l.length + 1 := by
 unfold V1 at h
 simp only [Option.map_eq_some_iff] at h
 obtain ⟨y, h1, rfl⟩ := h
 have := hf _ _ h1
 simp only [nd, C3, C9]; omega
theorem B5O : ∀ n, A37 (J2 n) := by
 intro n
 induction n with
 | zero => intro l x h; cases h
 | succ n ih =>
  intro l x h
  cases l with
  | nil => cases h
  | cons b r =>
   rw [J2] at h
   simp only [List.length_cons]
   split at h
   ·cases h; simp only [nd, C3, C9]; omega
   split at h
   ·cases h; simp only [nd, C3, C9]; omega
   split at h
   ·have := B5L ih h; omega
   split at h
   ·have := B5N ih h; omega
   split at h
   ·simp only [Option.map_eq_some_iff] at h
    obtain ⟨y, h1, rfl⟩ := h
    have := A5f ih _ _ _ h1
    simp only [nd, C3]; omega
   split at h
   ·simp only [Option.map_eq_some_iff] at h
    obtain ⟨y, h1, rfl⟩ := h
    have := A5f ih _ _ _ h1
    simp only [nd, C3]; omega
   split at h
   ·have := B0Q ih h; omega
   split at h
   ·have := B0Q ih h; omega
   split at h
   ·cases h; simp only [C3, C9]; omega
   ·simp only [Option.map_eq_some_iff] at h
    obtain ⟨y, h1, rfl⟩ := h
    have := A63 h1
    simp only [List.length_cons] at this
    simp only [C3, C9]; omega
def B0R : Option A3 → Bool
 | some [] => true
 | _ => false
theorem B5P (b : Nat) (S : Option A3) (cs : List Value) (G : IM) (h : T3 S cs) : Fn Tryz.prog 88 [.pointer (some ⟨b, 0, none⟩)] [.blk b cs] G (fun G' v outs => G' = G ∧ v = .bool (B0R S) ∧ outs = [.blk b cs]) := by
 rcases h with ⟨rfl, s, hs, rfl⟩ | ⟨l, rfl, hl, rfl⟩
 ·refine B8 Tryz.func88 rfl Tryz.ntmps88 Tryz.results88 rfl ?_
  intro w0
  refine F8 ?_
  refine sQ (C1 rfl) rfl ?_
  refine O8 ?_
  refine C4 (outs := [.blk b _]) (rT rfl) (.cons (by repeat (first | exact Pk.here | apply Pk.there)) .nil) ?_
  (exact ⟨rfl, rfl, rfl⟩)
 ·cases l with
  | nil =>
   refine B8 Tryz.func88 rfl Tryz.ntmps88 Tryz.results88 rfl ?_
   intro w0
   refine F8 ?_
   refine sQ (C1 rfl) rfl ?_
   refine S6 ?_
   refine sQ (C1 rfl) rfl ?_
   refine sQ (A9 rfl) rfl (sL (C2 rfl rfl) rfl rfl ?_)
   refine sP (A6A A6C rfl rfl) rfl rfl ?_
   refine sQ (J8 rfl rfl) rfl (sQ (qA rfl) rfl (sD (nS (tT ?_))))
   refine C4 (outs := [.blk b _]) (rT rfl) (.cons (by repeat (first | exact Pk.here | apply Pk.there)) .nil) ?_
   (exact ⟨rfl, rfl, rfl⟩)
  | cons c r =>
   refine B8 Tryz.func88 rfl Tryz.ntmps88 Tryz.results88 rfl ?_
   intro w0
   refine F8 ?_
   refine sQ (C1 rfl) rfl ?_
   refine S6 ?_
   refine sQ (C1 rfl) rfl ?_
   refine sQ (A9 rfl) rfl (sL (C2 rfl rfl) rfl rfl ?_)
   refine sP (A6B (A6D _ _) rfl rfl) rfl rfl ?_
   refine sQ (J8 rfl rfl) rfl (sQ (qA rfl) rfl (sD (nS (tT ?_))))
   refine C4 (outs := [.blk b _]) (rT rfl) (.cons (by repeat (first | exact Pk.here | apply Pk.there)) .nil) ?_
   (exact ⟨rfl, rfl, rfl⟩)
def PsP (V : Tm → Bool) (l : A3) (G : IM) : IM → Value → List A4 → Prop := L7 fun G' v => ∃ e ok cells F, v = .tuple ⟨[.agg ⟨cells⟩, .bool ok]⟩ ∧ P0 (B6 G' G) e cells F ∧ F.Nodup ∧ A1g V l e ok
theorem PsP.no {V : Tm → Bool} {l : A3} {G G' : IM} (h : ∀ x, V x = true → B0 x ≠ l) : PsP V l G G' (.tuple ⟨[.agg ⟨[.int .i64 0, .string ⟨⟨[]⟩⟩, .int .i64 0, .int .i64 0, .slice none 0 0, .int .i64 0, .slice none 0 0, .int .i64 0, .slice none 0 0]⟩, .bool false]⟩) [] :=
 ⟨rfl, K7, false, _, [], rfl, P0.zero _, List.nodup_nil, .inr ⟨rfl, rfl, h⟩⟩
theorem B5Q (V : Tm → Bool) (D N : Int) (hVO : VOk V D N) (fid : FuncId) [B9 Tryz.prog fid] (hV : ∀ (e : Tm) (G : IM) (cells : List Value), B5 G e cells → Fn Tryz.prog fid [.agg ⟨cells⟩] [] G (L6 (.bool (V e)) G)) (l : A3) (hl : l.length ≤ 4294967296) (G : IM) (hT : A1m G) (hE : A0y G) :
  Fn Tryz.prog 41 [.string (D6 l), .func (.func fid) ⟨[]⟩ ⟨[]⟩] [] G (PsP V l G) := by
 have hpx : ∀ x, V x = true → B0 x = l → I2 40 l = some (x, []) := fun x hx he => by rw [← he]; exact hVO.p hx
 obtain ⟨m, hm⟩ : ∃ m, (some l).bind (I2 40) = m := ⟨_, rfl⟩
 have hm' : I2 40 l = m := hm
 rw [hm'] at hpx
 refine B8 Tryz.func41 rfl Tryz.ntmps41 Tryz.results41 rfl ?_
 intro w0
 refine tS (tR ?_)
 refine sE (A8 rfl) rfl (fun b3 => ?_)
 refine B7 ?_
 refine sE (E7 rfl rfl) rfl (fun b11 => ?_)
 refine sQ (qA rfl) rfl (sD (nS (tS (tR (sQ (qM rfl) rfl ?_)))))
 (refine C0 rfl (B5d _ 40 1 (some l) _ G (by omega) (by omega) hE (T3.yes hl)) (Pk.perm (by repeat (first | exact Pk.here | apply Pk.there))) rfl rfl (fun v G1 outs hle1 hh => ?_); rw [hm] at hh; obtain ⟨csa, ta, ca, Fa, rfl, hRa, rfl, hsa, hna, hva⟩ := hh; have hoa := hsa.R.one; obtain ⟨x1, x2, x3, x4, x5, x6, x7, x8, x9, rfl⟩ := A0c hsa; replace hT := hT.mono hle1; have hRT := hsa.R.mono (B6.le _ _))
 refine sE (A8 rfl) rfl (fun b19 => ?_)
 refine sS rfl rfl rfl rfl hoa rfl ?_
 refine sD (nS (tS (tS (tR (sQ (qM rfl) rfl ?_)))))
 (refine C0 rfl (B5P _ (m.map Prod.snd) csa G1 hRa) (Pk.perm (by repeat (first | exact Pk.here | apply Pk.there))) rfl rfl (fun v G2 outs hle2 hh => ?_); obtain ⟨hG, rfl, rfl⟩ := hh; replace hG := hG.symm; subst hG; obtain ⟨db, hdb⟩ : ∃ b, B0R (m.map Prod.snd) = b := ⟨_, rfl⟩; rw [hdb]; cases db)
 refine A2t ?_
 refine B4 (rC rfl (A2 rfl rfl)) (rT rfl) ?_
 (exact PsP.no fun x hx he => by rw [hpx x hx he] at hdb; cases hdb)
 refine H9 ?_
 (have hVt := hV ta G1 _ hRT; obtain ⟨vb, hvb⟩ : ∃ b, V ta = b := ⟨_, rfl⟩; rw [hvb] at hVt; cases vb <;> (refine D7 (S5 rfl rfl hVt (List.Perm.refl _) rfl) rfl ?_; rintro _ ⟨v, G7, outs, rfl, hle7, hG, rfl, rfl⟩; replace hG := hG.symm; subst hG))
 refine A0j ?_
 refine B4 (rC rfl (A2 rfl rfl)) (rT rfl) ?_
 (exact PsP.no fun x hx he => by have := hva _ (hpx x hx he); rw [this] at hvb; rw [hx] at hvb; cases hvb)
 refine H9 ?_
 (obtain ⟨hs1, hs2⟩ := hVO.2.2 ta hvb; refine D9 rfl (B0K D N ta 1 G1 _ hs1 (by omega) hT hRT) rfl rfl (fun v G3 hle3 hh => ?_); subst hh)
 refine sQ (qM rfl) rfl ?_
 refine sB (A1i rfl rfl) rfl rfl (fun hsn => ?_) (fun hsn => ?_)
 refine I5 ?_
 refine B4 (rC rfl (A2 rfl rfl)) (rT rfl) ?_
 (exact PsP.no fun x hx he => by have := hva _ (hpx x hx he); exact hsn (by rw [this]; exact congrArg D6 he))
 refine C7 ?_
 refine sS rfl rfl rfl rfl hoa rfl ?_
 refine sQ (qA rfl) rfl (sD (nS (tT ?_)))
 refine B4 (rC rfl (A2 rfl rfl)) (rT rfl) ?_
 (exact ⟨rfl, ta, true, _, Fa, rfl, hsa.mono (B6.mono hle3), hna, .inl ⟨rfl, hvb, A45 (Classical.not_not.1 hsn)⟩⟩)
theorem A64 (l : A3) (hl : l.length ≤ 4294967296) (G : IM) (hT : A1m G) (hE : A0y G) : Fn Tryz.prog 23 [.string (D6 l)] [] G (PsP R2 l G) := by
 refine B8 Tryz.func23 rfl Tryz.ntmps23 Tryz.results23 rfl ?_
 intro w0
 refine tS (tR ?_)
 refine sE (A8 rfl) rfl (fun b3 => ?_)
 refine sQ (qA rfl) rfl (sD (nS (tS (tR (sQ (qM rfl) rfl ?_)))))
 (refine D9 rfl (B5Q R2 40 13 A2k 36 A5O l hl G hT hE) rfl rfl (fun v G1 hle1 hh => ?_); obtain ⟨e, ok, ce, F, rfl, hse, hne, hpa⟩ := hh; have hoe := hse.R.one; obtain ⟨x1, x2, x3, x4, x5, x6, x7, x8, x9, rfl⟩ := A0c hse)
 refine sQ (pX rfl rfl) rfl (sQ (pX rfl rfl) rfl ?_)
 refine sS rfl rfl rfl rfl hoe rfl ?_
 refine sQ (qA rfl) rfl (sD (nS (tT ?_)))
 refine B4 (rC rfl (A2 rfl rfl)) (rT rfl) ?_
 (exact ⟨rfl, e, ok, _, F, rfl, hse, hne, hpa⟩)
def A1w (V : Tm → Bool) (e : Tm) : A3 := if V e = true then B0 e else []
theorem A2M {V : Tm → Bool} {e : Tm} (h : V e = true) : A1w V e = B0 e := by unfold A1w; rw [if_pos h]
theorem A38 {V : Tm → Bool} {e : Tm} (h : V e = false) : A1w V e = [] := by unfold A1w; rw [if_neg (by rw [h]; decide)]
theorem A65 (e : Tm) (G : IM) (cells : List Value) (hT : A1m G) (hr : B5 G e cells) : Fn Tryz.prog 34 [.agg ⟨cells⟩] [] G (A2K (A1w R2 e)) := by
 have hl := hr.len
 have hone := hr.one
 have hw := A5O e G cells hr
 have hv1 := fun h : R2 e = true => A2k.2.2 e h
 refine B8 Tryz.func34 rfl Tryz.ntmps34 Tryz.results34 rfl ?_
 intro w0
 refine tS (tR ?_)
 refine sE (E7 rfl rfl) rfl (fun b3 => ?_)
 refine sQ (qA rfl) rfl (sD (nS (tS (tS (tR ?_)))))
 refine sL (A6 rfl rfl (C8 (by repeat first | exact mH | apply mT)) hl) rfl rfl ?_
 refine J4 rfl (hw) rfl rfl (fun h11 => ?_) (fun h11 => ?_)
 refine sQ (Y7 rfl) rfl (sD (nS (cF rfl (tK (nS (tS (tR ?_)))))))
 refine sL (A6 rfl rfl (C8 (by repeat first | exact mH | apply mT)) hl) rfl rfl ?_
 (have hv2 := hv1 (by assumption); refine D9 rfl (B0K 40 13 e 1 G _ hv2.1 (by omega) hT hr) rfl rfl (fun v G3 hle3 hh => ?_); subst hh)
 refine sQ (qA rfl) rfl (sD (nS (tT (E9 (rT rfl) ?_))))
 (exact ⟨rfl, by rw [A2M (by assumption)]⟩)
 refine Q4 ?_
 (exact ⟨rfl, by rw [A38 (by assumption)]; rfl⟩)
theorem A1g.fmt {V : Tm → Bool} {D N : Int} (hV : VOk V D N) {e p : Tm} {ok : Bool} (h : A1g V (A1w V e) p ok) : ok = V e ∧ (ok = true → p = e) := by
 cases he : V e with
 | true =>
  rw [A2M he] at h
  rcases h with ⟨h1, h2, h3⟩ | ⟨_, _, h3⟩
  ·exact ⟨h1, fun _ => hV.inj _ _ h2 he h3⟩
  ·exact absurd rfl (h3 e he)
 | false =>
  rw [A38 he] at h
  rcases h with ⟨h1, h2, h3⟩ | ⟨h1, _, _⟩
  ·exact absurd h3 (hV.ne h2)
  ·exact ⟨h1, fun h2 => by rw [h1] at h2; cases h2⟩
theorem A1g.back {V : Tm → Bool} {l : A3} {e : Tm} (h : A1g V l e true) : A1w V e = l := by
 rcases h with ⟨_, h2, h3⟩ | ⟨h1, _, _⟩
 ·rw [A2M h2]; exact h3
 ·cases h1
theorem B5R {V : Tm → Bool} {D N : Int} (hV : VOk V D N) {e : Tm} (he : V e = true) : (B0 e).length ≤ 900000 := by
 obtain ⟨h1, h2⟩ := hV.2.2 e he
 have := A5a D N e 1 h1
 omega
theorem B5S {V : Tm → Bool} {D N : Int} (hV : VOk V D N) (e : Tm) : (A1w V e).length ≤ 900000 := by
 cases he : V e with
 | true => rw [A2M he]; exact B5R hV he
 | false => rw [A38 he]; exact Nat.zero_le _
def B5T (G : IM) : IM → Value → List A4 → Prop := L7 fun _ v => ∃ l, v = .string (D6 l) ∧ l.length ≤ 1000000
theorem B5U {l : List A3} (h : ∀ b ∈ l, b.length ≤ 1) : B0y (l.map fun b => Value.string (D6 b)) := by
 intro v hv
 obtain ⟨b, hb, rfl⟩ := List.mem_map.1 hv
 exact ⟨b, rfl, h b hb⟩
def B0S (N : Nat) (G : IM) : IM → Value → List A4 → Prop := L7 fun G' v => ∃ t cells, v = .agg ⟨cells⟩ ∧ B5 G' t cells ∧ t.fit N
mutual
def tKs : Ty → Prop
 | .mk k ks => 1 ≤ k ∧ k ≤ 5 ∧ A2l ks
def A2l : List Ty → Prop
 | [] => True
 | t :: ts => tKs t ∧ A2l ts
end
theorem A39 : ∀ ts : List Ty, A2l ts ↔ ∀ t ∈ ts, tKs t
 | [] => by simp [A2l]
 | t :: ts => by simp [A2l, A39 ts]
def V3 (n : Nat) (t : Ty) : Prop := Q2 n t ∧ tKs t
theorem V3.ar {n : Nat} {t : Ty} (h : V3 n t) : E4 t := h.1.ar
theorem V3.le {n m : Nat} {t : Ty} (h : V3 n t) (hm : n ≤ m) : V3 m t := ⟨h.1.le hm, h.2⟩
theorem B5V {d : Nat} {k : Int} {ts : List Ty} (h0 : d = 0 → k < 4) (hl : (ts.length : Int) = Q5 k) (h1 : 1 ≤ k) (h5 : k ≤ 5) (ha : ∀ u ∈ ts, V3 (d - 1) u) : V3 d (.mk k ts) :=
 ⟨A8d h0 hl h1 h5 fun u hu => (ha u hu).1, by rw [tKs]; exact ⟨h1, h5, (A39 _).2 fun u hu => (ha u hu).2⟩⟩
theorem B5W (n : Nat) : V3 n Q1 := ⟨A5V n, by rw [Q1, tKs]; exact ⟨by decide, by decide, trivial⟩⟩
theorem B5X {k : Int} {ks us : List Ty} {n : Nat} (h : V3 n (.mk k ks)) (hl : us.length = ks.length) (hu : ∀ u ∈ us, V3 (n - 1) u) : V3 n (.mk k us) := by
 obtain ⟨h1, h2⟩ := h
 rw [tKs] at h2
 exact ⟨A8e h1 hl fun u hm => (hu u hm).1, by rw [tKs]; exact ⟨h2.1, h2.2.1, (A39 _).2 fun u hm => (hu u hm).2⟩⟩
theorem B5Y {k : Int} {ks : List Ty} {t : Ty} {n : Nat} (h : V3 n (.mk k ks)) (ht : t ∈ ks) : V3 (n - 1) t := by
 obtain ⟨h1, h2⟩ := h
 rw [tKs] at h2
 exact ⟨A4y h1 ht, (A39 _).1 h2.2.2 t ht⟩
theorem B0T : ∀ (n : Nat) (t : Ty) (d : Int), V3 n t → d + n ≤ 4 → H8 t d = true
 | 0, .mk k ks, d, h, hd => by
  obtain ⟨h1, h2⟩ := h
  rw [tKs] at h2
  rw [Q2] at h1
  obtain ⟨rfl, h3, h4⟩ := h1
  have : Q5 k = 0 := by have := N5 k; unfold Q5; repeat' split <;> omega
  rw [H8, this]
  simp [T1]
  omega
 | n + 1, .mk k ks, d, h, hd => by
  have hh := h
  obtain ⟨h1, h2⟩ := hh
  rw [tKs] at h2
  rw [Q2] at h1
  obtain ⟨h3, h4, h5⟩ := h1
  have hk : Q5 k = ks.length := by
   unfold Q5
   repeat' split
   all_goals omega
  rw [H8, hk]
  simp only [Bool.and_eq_true, decide_eq_true_eq]
  refine ⟨⟨by omega, trivial⟩, (A3w _ _).2 fun i hi => ?_⟩
  exact B0T n ks[i] (d + 1) ⟨h5 _ (List.getElem_mem hi), (A39 _).1 h2.2.2 _ (List.getElem_mem hi)⟩ (by omega)
theorem B0U {t : Ty} (h : V3 3 t) : H3 t = true := B0T 3 t 1 h (by decide)
mutual
theorem B0V : ∀ (t : Ty) (d : Int), H8 t d = true → tKs t
 | .mk k ks, d, h => by
  rw [H8] at h
  simp only [Bool.and_eq_true, decide_eq_true_eq] at h
  rw [tKs]
  have hk : 1 ≤ k ∧ k ≤ 5 := by
   have h2 := h.1.2
   unfold Q5 at h2
   repeat' split at h2
   all_goals omega
  exact ⟨hk.1, hk.2, B0W ks _ h.2⟩
theorem B0W : ∀ (ts : List Ty) (d : Int), T1 ts d = true → A2l ts
 | [], _, _ => by rw [A2l]; trivial
 | t :: ts, d, h => by
  rw [T1, Bool.and_eq_true] at h
  rw [A2l]
  exact ⟨B0V t d h.1, B0W ts d h.2⟩
end
theorem B5Z {t : Ty} (h : H3 t = true) : V3 3 t := ⟨A8y 3 t 1 h (by decide), B0V t 1 h⟩
theorem B50 (br : Nat) (pb : Option Addr) (nb cb : Nat) (bs : List UInt8) (hnb : nb ≤ 2000) : ∀ (d p : Nat) (G : IM), d ≤ 1000 → Sl G pb nb cb 1 (N2 bs) → p + dB (d + 1) < 1099511627776 →
  Fn Tryz.prog 111 [.pointer (some ⟨br, 0, none⟩), .int .i64 ((d + 1 : Nat) : Int)] [rd br pb nb cb p] G
   (X4 br pb nb cb p (dB (d + 1)) (fun G' v => ∃ t cells, v = .agg ⟨cells⟩ ∧ B3 G' t cells ∧ F4 t ≤ ((dB (d + 1) : Nat) : Int) ∧ V3 d t)) := by
 refine fun d => Nat.strongRecOn d fun d ih p G hd hb hp => ?_
 rw [dB] at hp ⊢
 refine B8 Tryz.func111 rfl Tryz.ntmps111 Tryz.results111 rfl ?_
 intro w0
 refine tS (tR ?_)
 refine sE (A8 rfl) rfl (fun b3 => ?_)
 refine sD (nS (tS (tR (sQ (qM rfl) rfl ?_))))
 (refine D7 (D1 rfl rfl rfl (by omega) (by unfold maxLen; omega) rfl) rfl ?_; rintro _ ⟨b9, rfl⟩)
 (refine P2 (by repeat (first | exact Pk.here | apply Pk.there)) (fun G1 hle1 hsl1 _ => ?_); refine C0 rfl (Z3 G1 br pb nb cb p bs _ _ _ _ (hb.mono hle1) hnb (by omega) hsl1 (by decide)) (Pk.perm (by repeat (first | exact Pk.here | apply Pk.there))) rfl rfl (fun v G2 outs hle2 hh => ?_); obtain ⟨rfl, rfl, hv⟩ := hh; replace hb := hb.mono hle1; obtain ⟨k, rfl, hk1⟩ : ∃ k, v = .int .i64 k ∧ 1 ≤ k ∧ k ≤ 5 := (by simp only [List.mem_cons, List.not_mem_nil, or_false] at hv; rcases hv with rfl | rfl | rfl | rfl | rfl | rfl | rfl <;> exact ⟨_, rfl, by decide, by decide⟩))
 refine sQ (qA rfl) rfl (sD (nS (tS (tS ?_))))
 (have hv' := hv; refine A0b (fun (x : Bool) => ⟨(16, .bool x) :: [(5, .int .i64 k), (4, .pointer (some ⟨b3, 0, none⟩)), (0, .pointer (some ⟨br, 0, none⟩)), (1, .int .i64 ((d + 1 : Nat) : Int))], [rd br pb nb cb (p + 1), .blk b3 [.int .i64 0, .slice none 0 0]], G2⟩) (fun x => x = false → d = 0 → k < 4) ?_ ?_)
 refine tR (sQ (qM rfl) rfl ?_)
 refine sB (L9 rfl rfl) rfl rfl (fun h19 => ?_) (fun h19 => ?_)
 refine sQ (qM rfl) rfl (sQ (qM rfl) rfl ?_)
 refine sB (S4 rfl rfl) rfl rfl (fun h22 => ?_) (fun h22 => ?_)
 refine sQ (J8 rfl rfl) rfl (sD ?_)
 refine P1 true (N7 (by repeat (first | exact E6.nil | refine E6.cons rfl ?_)) (by repeat (first | exact A0.refl | exact A0.nil | refine A0.cons (by repeat (first | exact Pk.here | apply Pk.there)) ?_ | apply A0.drop))) ?_
 (show _ = false → d = 0 → k < 4; intro hf h0; first | exact absurd hf (by decide) | omega)
 refine sQ (J8 rfl rfl) rfl (sD ?_)
 refine P1 false (N7 (by repeat (first | exact E6.nil | refine E6.cons rfl ?_)) (by repeat (first | exact A0.refl | exact A0.nil | refine A0.cons (by repeat (first | exact Pk.here | apply Pk.there)) ?_ | apply A0.drop))) ?_
 (show _ = false → d = 0 → k < 4; intro hf h0; first | exact absurd hf (by decide) | omega)
 refine S6 ?_
 refine P1 false (N7 (by repeat (first | exact E6.nil | refine E6.cons rfl ?_)) (by repeat (first | exact A0.refl | exact A0.nil | refine A0.cons (by repeat (first | exact Pk.here | apply Pk.there)) ?_ | apply A0.drop))) ?_
 (show _ = false → d = 0 → k < 4; intro hf h0; first | exact absurd hf (by decide) | omega)
 (rintro x hx; clear hv)
 (show I9 _ _ (.cond (.tmp 16) _ _) _ _; refine A0b (fun (x : Int) => ⟨[(5, .int .i64 x), (4, .pointer (some ⟨b3, 0, none⟩)), (0, .pointer (some ⟨br, 0, none⟩)), (1, .int .i64 ((d + 1 : Nat) : Int))], [rd br pb nb cb (p + 1), .blk b3 [.int .i64 0, .slice none 0 0]], G2⟩) (fun x => 1 ≤ x ∧ x ≤ 5 ∧ (d = 0 → x < 4)) (A2m rfl (fun hxt => ?_) (fun hxf => ?_)) ?_)
 refine tR (sQ (qA rfl) rfl (sD ?_))
 refine P1 1 (N7 (by repeat (first | exact E6.nil | refine E6.cons rfl ?_)) (by repeat (first | exact A0.refl | exact A0.nil | refine A0.cons (by repeat (first | exact Pk.here | apply Pk.there)) ?_ | apply A0.drop))) ?_
 (first | exact ⟨by omega, by omega, by omega⟩ | exact ⟨by omega, by omega, fun h0 => by have := hx hxf h0; omega⟩)
 refine tK ?_
 refine P1 k (N7 (by repeat (first | exact E6.nil | refine E6.cons rfl ?_)) (by repeat (first | exact A0.refl | exact A0.nil | refine A0.cons (by repeat (first | exact Pk.here | apply Pk.there)) ?_ | apply A0.drop))) ?_
 (first | exact ⟨by omega, by omega, by omega⟩ | exact ⟨by omega, by omega, fun h0 => by have := hx hxf h0; omega⟩)
 (rintro kk ⟨hk2, hk3, hk4⟩; have hop := A8k kk; have hk5 := (N5 kk).1; have hk6 := (N5 kk).2.1; have hK := A5P kk)
 refine tS (tR (sQ (qM rfl) rfl (sQ (P6 rfl rfl) rfl ?_)))
 refine sE (A8 rfl) rfl (fun b53 => ?_)
 refine H2 ?_
 refine sD (nS (tS (tS (tR (sQ (qA rfl) rfl (sD (nS ?_)))))))
 refine C6 ?_
 (refine A0B 25 2 ?_; refine N4 (fun (x : Nat × Option Addr × Nat × List Ty × List (List Value) × Nat × IM) => ⟨[(7, .int .i64 x.1), (5, .int .i64 kk), (6, .pointer (some ⟨b53, 0, none⟩)), (4, .pointer (some ⟨b3, 0, none⟩)), (0, .pointer (some ⟨br, 0, none⟩)), (1, .int .i64 ((d + 1 : Nat) : Int))], [.blk b53 [.int .i64 kk, .slice x.2.1 x.1 x.2.2.1], .slc x.2.1 x.2.2.1 25 2 x.1 x.2.2.2.2.1.flatten, rd br pb nb cb x.2.2.2.2.2.1, .blk b3 [.int .i64 0, .slice none 0 0]], x.2.2.2.2.2.2⟩) (fun x => (∀ u ∈ x.2.2.2.1, V3 (d - 1) u) ∧ (x.1 : Int) ≤ Q5 kk ∧ B2 G2 x.2.2.2.2.2.2 ∧ x.2.2.2.1.length = x.1 ∧ E1 x.2.2.2.2.2.2 x.2.2.2.1 x.2.2.2.2.1 ∧ K1 x.2.2.2.1 ≤ ((x.1 * dB d : Nat) : Int) ∧ p + 1 ≤ x.2.2.2.2.2.1 ∧ x.2.2.2.2.2.1 ≤ p + 1 + x.1 * dB d) (fun x => (Q5 kk).toNat - x.1) (0, none, 0, [], [], p + 1, G2) ?_ ?_ ?_)
 (simp only [J9]; exact E0)
 (exact ⟨by simp, by dsimp only; omega, B2.refl _, rfl, by simp [E1], by simp [K1], by dsimp only; omega, by dsimp only; omega⟩)
 (rintro ⟨i, pn, cn, ts, es', p', Gi⟩ ⟨hah, hi, hle, hlt, hst, hsum, hq1, hq2⟩; simp only [] at hah hi hle hlt hst hsum hq1 hq2 ⊢; have hid : i * dB d ≤ 2 * dB d := Nat.mul_le_mul_right _ (by omega))
 refine tS (tS (tR (sQ (qM rfl) rfl (sQ (qM rfl) rfl ?_))))
 refine H7 rfl ((hK _)) rfl rfl ?_
 refine sB (L9 rfl rfl) rfl rfl (fun h74 => ?_) (fun h74 => ?_)
 refine sD (nS (qT rfl (tK (nS (tS ?_)))))
 refine C6 ?_
 (obtain ⟨d', rfl⟩ : ∃ d', d = d' + 1 := ⟨d - 1, by omega⟩; have hih := ih d' (by omega) p' Gi (by omega) (hb.mono hle) (by have := Nat.mul_le_mul_right (dB (d' + 1)) (show i + 1 ≤ 2 by omega); rw [Nat.succ_mul] at this; omega); refine D3 D4 rfl ?_)
 refine E8 (i := 0) (l' := [tt,ff,ff,ff,ff,ff,ff,ff,ff,ff]) rfl C5 (A9 rfl) rfl (by kernel_rfl) rfl rfl ?_
 refine aL 1 rfl (C2 rfl rfl) rfl ?_
 refine aP 2 rfl (qM rfl) rfl ?_
 refine aP 3 rfl (qM rfl) rfl ?_
 refine aP 4 rfl (T4 rfl rfl (by omega)) rfl ?_
 refine A1 5 ?_
 (refine W4 (l' := [tt,tt,tt,tt,tt,tt,ff,ff,ff,ff]) rfl rfl hih (Pk.perm (by repeat (first | exact Pk.here | apply Pk.there))) rfl rfl rfl (by repeat (first | exact A5.nil | apply A5.dep (by decide +kernel) | apply A5.blk (by decide +kernel) (by repeat (first | exact Pk.here | apply Pk.there)) (by repeat first | exact mH | apply mT))) (fun v G3 outs hle3 hh => ?_); obtain ⟨p3, hp31, hp32, rfl, t3, cells3, rfl, hr3, hs3, ha3⟩ := hh; obtain ⟨q3, c3, es3, rfl, _⟩ := hr3.open)
 refine A1 6 ?_
 (refine I7 rfl (D1 rfl rfl rfl (by omega) (by unfold maxLen; omega) rfl) rfl rfl ?_; rintro _ ⟨b91, rfl⟩)
 refine A1 7 ?_
 refine W2 rfl rfl rfl rfl rfl rfl (fun _ _ => by repeat (first | exact Sw.here | apply Sw.there)) (R0 (by repeat first | exact mH | apply mT)) rfl (by simp [Value.oneCell']) (by unfold maxLen; omega) (by omega) rfl rfl (by repeat (first | exact A5.nil | apply A5.dep (by decide +kernel) | apply A5.blk (by decide +kernel) (by repeat (first | exact Pk.here | apply Pk.there)) (by repeat first | exact mH | apply mT))) (fun pn' cn' => ?_)
 refine aP 8 rfl (A9 rfl) rfl ?_
 refine A1 9 ?_
 refine K6 rfl rfl rfl rfl rfl rfl rfl rfl (by decide +kernel) (by repeat first | exact Sw.here | apply Sw.there) (by rfl) ?_
 refine D8 (O3 (nS (tR (sQ (qM rfl) rfl ?_))))
 refine sP (N0 rfl rfl (by omega) (by omega)) rfl rfl ?_
 refine sQ (qA rfl) rfl (sD ?_)
 refine K5 (i + 1, pn', cn', ts ++ [t3], es' ++ [[.int .i64 t3.k, .slice q3 t3.ks.length c3]], p3, G3) ?_ ?_ ?_
 (simp only [J9]; exact E0)
 (dsimp only; have e1 : (i + 1) * dB (d' + 1) = i * dB (d' + 1) + dB (d' + 1) := Nat.succ_mul _ _; have e2 := A1Y ts t3; exact ⟨by simp only [List.forall_mem_append, List.forall_mem_singleton]; exact ⟨hah, ha3⟩, by omega, hle.trans hle3, by simp [hlt], E1.snoc (hst.mono hle3) hr3, by omega, by omega, by omega⟩)
 (show (Q5 kk).toNat - (i + 1) < (Q5 kk).toNat - i; omega)
 refine O8 ?_
 (refine L4 (by repeat (first | exact Pk.here | apply Pk.there)) (fun G5 hle5 hsl5 hno5 => ?_))
 refine tT ?_
 refine C4 (outs := [rd br pb nb cb p']) (rC rfl (A2 rfl rfl)) (by repeat (first | exact A0.nil | refine A0.cons Pk.here ?_ | refine A0.cons (Pk.there Pk.here) ?_ | apply A0.drop)) ?_
 (refine ⟨p', by omega, by omega, rfl, .mk kk ts, _, rfl, (hst.mono hle5).ty hlt hsl5 ⟨by omega, by omega⟩, ?_, B5V hk4 (by omega) hk2 hk3 hah⟩; rw [F4]; omega)
theorem B51 (br : Nat) (pb : Option Addr) (nb cb : Nat) (bs : List UInt8) (hnb : nb ≤ 2000) (p : Nat) (G : IM) (hb : Sl G pb nb cb 1 (N2 bs)) (hp : p + 31 < 1099511627776) :
  Fn Tryz.prog 115 [.pointer (some ⟨br, 0, none⟩)] [rd br pb nb cb p] G
   (X4 br pb nb cb p 31 (fun G' v => ∃ t cells, v = .agg ⟨cells⟩ ∧ B3 G' t cells ∧ F4 t ≤ 30 ∧ V3 3 t)) := by
 refine B8 Tryz.func115 rfl Tryz.ntmps115 Tryz.results115 rfl ?_
 intro w0
 refine tS (tR ?_)
 refine sE (A8 rfl) rfl (fun b3 => ?_)
 refine sD (nS (tS (tR (sQ (qM rfl) rfl (sQ (qM rfl) rfl ?_)))))
 (refine D7 (D1 rfl rfl rfl (by omega) (by unfold maxLen; omega) rfl) rfl ?_; rintro _ ⟨b10, rfl⟩)
 (refine P2 (by repeat (first | exact Pk.here | apply Pk.there)) (fun G1 hle1 hsl1 _ => ?_); refine C0 rfl (Z3 G1 br pb nb cb p bs _ _ _ _ (hb.mono hle1) hnb (by omega) hsl1 (by decide)) (Pk.perm (by repeat (first | exact Pk.here | apply Pk.there))) rfl rfl (fun v G2 outs hle2 hh => ?_); obtain ⟨rfl, rfl, hv⟩ := hh; replace hb := hb.mono hle1; obtain ⟨d, rfl, hd⟩ : ∃ d : Nat, v = .int .i64 ((d + 1 : Nat) : Int) ∧ d ≤ 3 := (by simp only [List.mem_cons, List.not_mem_nil, or_false] at hv; rcases hv with rfl | rfl | rfl | rfl | rfl <;> first | exact ⟨0, rfl, by decide⟩ | exact ⟨1, rfl, by decide⟩ | exact ⟨2, rfl, by decide⟩ | exact ⟨3, rfl, by decide⟩))
 (have hdB := A8j hd; refine C0 rfl (B50 br pb nb cb bs hnb d (p + 1) G2 (by omega) hb (by omega)) (Pk.perm (by repeat (first | exact Pk.here | apply Pk.there))) rfl rfl (fun v G3 outs hle3 hh => ?_); obtain ⟨p3, hp31, hp32, rfl, t3, cells3, rfl, hr3, hs3, ha3⟩ := hh; obtain ⟨q3, c3, es3, rfl, _⟩ := hr3.open)
 refine H2 ?_
 refine sD (nS (tT ?_))
 refine C4 (outs := [rd br pb nb cb p3]) (rC rfl (A2 rfl rfl)) (by repeat (first | exact A0.nil | refine A0.cons Pk.here ?_ | refine A0.cons (Pk.there Pk.here) ?_ | apply A0.drop)) ?_
 exact ⟨p3, by omega, by omega, rfl, t3, _, rfl, hr3, by omega, ha3.le hd⟩
theorem B52 (br : Nat) (pb : Option Addr) (nb cb : Nat) (bs : List UInt8) (hnb : nb ≤ 2000) : ∀ (t : Ty) (p : Nat) (G : IM) (cells : List Value), E4 t → B3 G t cells → Sl G pb nb cb 1 (N2 bs) → p + (F4 t).toNat + 1 < 1099511627776 →
  Fn Tryz.prog 144 [.pointer (some ⟨br, 0, none⟩), .agg ⟨cells⟩] [rd br pb nb cb p] G
   (X4 br pb nb cb p ((F4 t).toNat + 1) (fun G' v => ∃ u cells, v = .agg ⟨cells⟩ ∧ B3 G' u cells ∧ E4 u ∧ F4 u ≤ F4 t ∧ ∀ n, V3 n t → V3 n u)) := by
 refine Ty.ind fun k ks ih p G cells ha hr hb hp => ?_
 have hkid := ha.kid
 have hnn := A08 ks
 have hz : F4 (.mk k ks) = ks.length + K1 ks := by rw [F4]
 rw [hz] at hp ⊢
 obtain ⟨q, c, es, rfl, hk, hsl, hkl⟩ := hr.open
 simp only [Ty.k, Ty.ks] at hk hsl hkl ⊢
 have hn := hsl.le
 have hl2 := ha.two
 refine B8 Tryz.func144 rfl Tryz.ntmps144 Tryz.results144 rfl ?_
 intro w0
 refine tS (tR ?_)
 refine sE (E7 rfl rfl) rfl (fun b3 => ?_)
 refine sE (A8 rfl) rfl (fun b4 => ?_)
 refine sD (nS (tS (tS (tR (sQ (qM rfl) rfl ?_)))))
 (refine C0 rfl (S0 _ br pb nb cb p bs _ hb hnb (by omega)) (Pk.perm (by repeat (first | exact Pk.here | apply Pk.there))) rfl rfl (fun v11 G11 outs11 hle11 hh => ?_); obtain ⟨rfl, rfl, j11, rfl, hj11, hk11⟩ := hh; have hm := hle11)
 replace hb := hb.mono hle11
 replace hr := hr.mono hle11
 replace hsl := hsl.mono hle11
 replace hkl := hkl.mono hle11
 refine sB (qE rfl rfl) rfl rfl (fun h12 => ?_) (fun h12 => ?_)
 refine sD (nS (qT rfl (tS (tR ?_))))
 refine H7 rfl ((A09 _)) rfl rfl ?_
 refine H2 ?_
 refine sD (nS (tT (rS ?_)))
 refine C4 (outs := [rd br pb nb cb (p + 1)]) (rC rfl (A2 rfl rfl)) (by repeat (first | exact A0.nil | refine A0.cons Pk.here ?_ | refine A0.cons (Pk.there Pk.here) ?_ | refine A0.cons (Pk.there (Pk.there Pk.here)) ?_ | apply A0.drop)) ?_
 (exact ⟨p + 1, by omega, by omega, rfl, Q1, _, rfl, A1a _, A2Z, by rw [A4C]; omega, fun n _ => B5W n⟩)
 refine M2 ?_
 refine sE (A8 rfl) rfl (fun b36 => ?_)
 refine H2 ?_
 refine sD (nS (tS (tS (tR (sQ (qA rfl) rfl (sD (nS ?_)))))))
 refine C6 ?_
 (refine A0B 25 2 ?_; refine N4 (fun (x : Nat × Option Addr × Nat × List Ty × List (List Value) × Nat × IM) => ⟨[(6, .int .i64 x.1), (5, .pointer (some ⟨b36, 0, none⟩)), (4, .pointer (some ⟨b4, 0, none⟩)), (0, .pointer (some ⟨br, 0, none⟩)), (3, .pointer (some ⟨b3, 0, none⟩))], [.blk b36 [.int .i64 k, .slice x.2.1 x.1 x.2.2.1], .slc x.2.1 x.2.2.1 25 2 x.1 x.2.2.2.2.1.flatten, rd br pb nb cb x.2.2.2.2.2.1, .blk b4 [.int .i64 0, .slice none 0 0], .blk b3 [.int .i64 k, .slice q ks.length c]], x.2.2.2.2.2.2⟩) (fun x => x.1 ≤ ks.length ∧ B2 G11 x.2.2.2.2.2.2 ∧ x.2.2.2.1.length = x.1 ∧ E1 x.2.2.2.2.2.2 x.2.2.2.1 x.2.2.2.2.1 ∧ (∀ u ∈ x.2.2.2.1, E4 u) ∧ (∀ n, V3 n (.mk k ks) → ∀ u ∈ x.2.2.2.1, V3 (n - 1) u) ∧ K1 x.2.2.2.1 ≤ K1 (ks.take x.1) ∧ p + 1 ≤ x.2.2.2.2.2.1 ∧ (x.2.2.2.2.2.1 : Int) ≤ p + 1 + x.1 + K1 (ks.take x.1)) (fun x => ks.length - x.1) (0, none, 0, [], [], p + 1, G11) ?_ ?_ ?_)
 (simp only [J9]; exact E0)
 (exact ⟨by simp, B2.refl _, rfl, by simp [E1], by simp, by simp, by simp [K1], by dsimp only; omega, by simp [K1]⟩)
 (rintro ⟨i, pn, cn, us, es', p', Gi⟩ ⟨hi, hle, hlu, hst, hau, hhu, hsu, hp1, hp2⟩; simp only [] at hi hle hlu hst hau hhu hsu hp1 hp2 ⊢; replace hsl := hsl.mono hle; replace hkl := hkl.mono hle; have htk := A2V ks i)
 refine B7 ?_
 refine sB (L9 rfl rfl) rfl rfl (fun h58 => ?_) (fun h58 => ?_)
 refine sD (nS (qT rfl (tK (nS (tS ?_)))))
 refine C6 ?_
 (obtain ⟨b, o, q0, d0, hp0, hat0, hre0, hg0⟩ := hsl.kidTy hkl (i := i) (by omega) (by omega); subst hp0; have e1 := A2U (ks := ks) (i := i) (by omega); have e2 := A2V ks (i + 1); have e3 := A0a ks[i]; have hih := ih ks[i] (List.getElem_mem (by omega)) p' Gi _ (hkid _ (List.getElem_mem (by omega))) hre0 (hb.mono hle) (by omega); refine D3 D4 rfl ?_)
 refine E8 (i := 0) (l' := [tt,ff,ff,ff,ff,ff,ff,ff,ff,ff,ff,ff,ff]) rfl C5 (A9 rfl) rfl (by kernel_rfl) rfl rfl ?_
 refine aL 1 rfl (C2 rfl rfl) rfl ?_
 refine aP 2 rfl (qM rfl) rfl ?_
 refine aP 3 rfl (A9 rfl) rfl ?_
 refine aL 4 rfl (C2 rfl rfl) rfl ?_
 refine aP 5 rfl (qM rfl) rfl ?_
 refine aP 6 rfl (D0 rfl rfl rfl (by omega)) rfl ?_
 refine aL 7 rfl (A6 rfl rfl (hat0 _) rfl) rfl ?_
 refine A1 8 ?_
 (refine W4 (l' := [tt,tt,tt,tt,tt,tt,tt,tt,tt,ff,ff,ff,ff]) rfl rfl hih (Pk.perm (by repeat (first | exact Pk.here | apply Pk.there))) rfl rfl rfl (by repeat (first | exact A5.nil | apply A5.dep (by decide +kernel) | apply A5.blk (by decide +kernel) (by repeat (first | exact Pk.here | apply Pk.there)) (by repeat first | exact mH | apply mT) | apply A5.im (by decide +kernel) hg0 (by repeat first | exact mH | apply mT))) (fun v G3 outs hle3 hh => ?_); obtain ⟨p3, hp31, hp32, rfl, u, cells3, rfl, hru, hua, hus, huh⟩ := hh; obtain ⟨q3, c3, es3, rfl, _⟩ := hru.open)
 refine A1 9 ?_
 (refine I7 rfl (D1 rfl rfl rfl (by omega) (by unfold maxLen; omega) rfl) rfl rfl ?_; rintro _ ⟨b78, rfl⟩)
 refine A1 10 ?_
 refine W2 rfl rfl rfl rfl rfl rfl (fun _ _ => by repeat (first | exact Sw.here | apply Sw.there)) (R0 (by repeat first | exact mH | apply mT)) rfl (by simp [Value.oneCell']) (by unfold maxLen; omega) (by omega) rfl rfl (by repeat (first | exact A5.nil | apply A5.dep (by decide +kernel) | apply A5.blk (by decide +kernel) (by repeat (first | exact Pk.here | apply Pk.there)) (by repeat first | exact mH | apply mT))) (fun pn' cn' => ?_)
 refine aP 11 rfl (A9 rfl) rfl ?_
 refine A1 12 ?_
 refine K6 rfl rfl rfl rfl rfl rfl rfl rfl (by decide +kernel) (by repeat first | exact Sw.here | apply Sw.there) (by rfl) ?_
 refine D8 (O3 (nS (tR (sQ (qM rfl) rfl ?_))))
 refine sP (N0 rfl rfl (by omega) (by omega)) rfl rfl ?_
 refine sQ (qA rfl) rfl (sD ?_)
 refine K5 (i + 1, pn', cn', us ++ [u], es' ++ [[.int .i64 u.k, .slice q3 u.ks.length c3]], p3, G3) ?_ ?_ ?_
 (simp only [J9]; exact E0)
 (dsimp only; exact ⟨by omega, hle.trans hle3, by simp [hlu], E1.snoc (hst.mono hle3) hru, A12 hau hua, fun n hn => A12 (hhu n hn) (huh _ (B5Y hn (List.getElem_mem _))), by rw [A1Y]; omega, by omega, by omega⟩)
 (show ks.length - (i + 1) < ks.length - i; omega)
 refine O8 ?_
 (refine L4 (by repeat (first | exact Pk.here | apply Pk.there)) (fun G5 hle5 hsl5 hno5 => ?_); obtain rfl : i = ks.length := (by omega))
 refine tT ?_
 refine C4 (outs := [rd br pb nb cb p']) (rC rfl (A2 rfl rfl)) (by repeat (first | exact A0.nil | refine A0.cons Pk.here ?_ | refine A0.cons (Pk.there Pk.here) ?_ | refine A0.cons (Pk.there (Pk.there Pk.here)) ?_ | apply A0.drop)) ?_
 (rw [List.take_length] at hsu hp2; refine ⟨p', by omega, by omega, rfl, .mk k us, _, rfl, (hst.mono hle5).ty hlu hsl5 hk, A4F ha hlu hau, by rw [F4]; omega, fun n hn => B5X hn hlu (hhu n hn)⟩)
theorem A5g {l : Int} (h1 : -99 ≤ l) (h2 : l ≤ -1) : Z0 l = true := by
 unfold Z0
 rw [A8S.2 (⟨h1, h2⟩ : -99 ≤ l ∧ l ≤ -1), Bool.or_true]
mutual
theorem B0X {D N : Int} : ∀ (t : Tm) (d : Int), L8 D N t d = true → L8 (D + 1) N t (d + 1) = true
 | .mk k nm num ty fr lb ks, d, h => by
  obtain ⟨h1, h2, h3, h4⟩ := Z4 h
  rw [A0M (by omega) h2 h3]
  exact B0Y ks (d + 1) h4
theorem B0Y {D N : Int} : ∀ (ts : List Tm) (d : Int), O5 D N ts d = true → O5 (D + 1) N ts (d + 1) = true
 | [], _, _ => by rw [O5]
 | t :: ts, d, h => by
  rw [O5, Bool.and_eq_true] at h
  rw [O5, Bool.and_eq_true]
  exact ⟨B0X t d h.1, B0Y ts d h.2⟩
end
theorem B53 {D N : Int} {t : Tm} {d : Int} (h : L8 D N t d = true) : d ≤ D := by
 obtain ⟨k, nm, num, ty, fr, lb, ks⟩ := t
 exact (Z4 h).1
theorem A5h {e : Tm} {a b : Ty} {l : Int} {G : IM} {cells : List Value} (he : ∃ D, L8 D 13 e 1 = true) (hc : K2 a b = true) (ha : H3 a = true) (hb : H3 b = true) (hl : Z0 l = true) (hr : B5 G (if P4 a b = true then e else R5 e a b l) cells) :
  ∃ y, B5 G y cells ∧ (∃ D, L8 D 13 y 1 = true) ∧ C3 y ≤ C3 e + 1 := by
 refine ⟨_, hr, ?_, ?_⟩
 ·split
  ·exact he
  ·obtain ⟨D, hD⟩ := he
   have h0 := B53 hD
   refine ⟨D + 1, ?_⟩
   unfold R5
   rw [A0M (by omega) (by decide) (U8.2 ⟨rfl, by simp, fun _ => rfl, by simp, fun _ => rfl, fun _ => hb, by simp, fun _ => ⟨by simp [A0C, ha, hb, hc], hl⟩, by simp⟩)]
   rw [O5, B0X e 1 hD, O5]; rfl
 ·split
  ·omega
  ·unfold R5
   simp only [C3, C9]; omega
theorem B54 (br : Nat) (pb : Option Addr) (nb cb : Nat) (bs : List UInt8) (hnb : nb ≤ 2000) (p : Nat) (G : IM) (hb : Sl G pb nb cb 1 (N2 bs)) (hp : p + 9100000 < 1099511627776) :
  Fn Tryz.prog 83 [.pointer (some ⟨br, 0, none⟩)] [rd br pb nb cb p] G
   (X4 br pb nb cb p 9100000 (fun G' v => ∃ e cells, v = .agg ⟨cells⟩ ∧ B5 G' e cells ∧ (∃ D, L8 D 13 e 1 = true) ∧ C3 e ≤ 203)) := by
 refine B8 Tryz.func83 rfl Tryz.ntmps83 Tryz.results83 rfl ?_
 intro w0
 refine tS (tR ?_)
 refine sE (A8 rfl) rfl (fun b3 => ?_)
 refine sD (nS (tS (tR (sQ (qM rfl) rfl ?_))))
 (have hcall := A9P br pb nb cb bs hnb p _ hb (by omega); refine C0 rfl hcall (Pk.perm (by repeat (first | exact Pk.here | apply Pk.there))) rfl rfl (fun v Gn outs hleT hh => ?_); obtain ⟨pT, hpT1, hpT2, rfl, eT, cT, rfl, hrT, hcT⟩ := hh; replace hb := hb.mono hleT)
 focus (have hX := B36 eT _ _ (by omega) hrT; obtain ⟨r, hmi⟩ : ∃ r, A0t eT = r := ⟨_, rfl⟩; rw [hmi] at hX; refine D9 rfl hX rfl rfl (fun v G9 hle9 hh => ?_); rcases r with _ | ⟨u0, t0⟩; rotate_left; obtain ⟨cu0, ct0, rfl, hru0, hrt0⟩ := hh; replace hru0 : B5 G9 u0 cu0 := hru0; replace hrt0 : B3 G9 t0 ct0 := hrt0; obtain ⟨hcv0, _, htv0⟩ := B3i hmi; obtain ⟨hsh0, hcn0⟩ := (A4w u0).1 hcv0; have hl0 := hru0.len; have ho0 := hru0.one; have hl1 := hrt0.len; have ho1 := hrt0.one; replace hb := hb.mono hle9; rotate_left; obtain ⟨cu0, ct0, rfl, hru0, hrt0⟩ := hh; have hl0 := hru0.len; have ho0 := hru0.one; have hl1 := hrt0.len; have ho1 := hrt0.one; replace hb := hb.mono hle9)
 refine H9 ?_
 refine sE (A8 rfl) rfl (fun b15 => ?_)
 refine sE (A8 rfl) rfl (fun b16 => ?_)
 refine M0 rfl rfl rfl hl0 ho0 rfl (by repeat first | exact Sw.here | apply Sw.there) (by exact I4 (by first | exact hl0.symm | omega)) ?_
 refine M0 rfl rfl rfl hl1 ho1 rfl (by repeat first | exact Sw.here | apply Sw.there) (by exact I4 (by first | exact hl1.symm | omega)) ?_
 refine I5 ?_
 refine H7 rfl ((A10 _ _)) rfl rfl ?_
 refine H2 ?_
 refine sD (nS (tT (rS ?_)))
 refine C4 (outs := [rd br pb nb cb pT]) (rC rfl (A2 rfl rfl)) (by repeat (first | exact A0.nil | refine A0.cons Pk.here ?_ | refine A0.cons (Pk.there Pk.here) ?_ | refine A0.cons (Pk.there (Pk.there Pk.here)) ?_ | apply A0.drop)) ?_
 (exact ⟨pT, by omega, by omega, rfl, _, _, rfl, A1b ⟨by omega, by omega⟩ ⟨by omega, by omega⟩, ⟨1, by decide⟩, by simp only [C3, C9]; omega⟩)
 refine H9 ?_
 refine sE (A8 rfl) rfl (fun b44 => ?_)
 refine sE (A8 rfl) rfl (fun b45 => ?_)
 refine M0 rfl rfl rfl hl0 ho0 rfl (by repeat first | exact Sw.here | apply Sw.there) (by exact I4 (by first | exact hl0.symm | omega)) ?_
 refine M0 rfl rfl rfl hl1 ho1 rfl (by repeat first | exact Sw.here | apply Sw.there) (by exact I4 (by first | exact hl1.symm | omega)) ?_
 refine T5 ?_
 (refine C0 rfl (S0 _ br pb nb cb (pT) bs 3 hb hnb (by omega)) (Pk.perm (by repeat (first | exact Pk.here | apply Pk.there))) rfl rfl (fun v Gp outs hle65 hh => ?_); obtain ⟨rfl, rfl, j65, rfl, hj65, hk65⟩ := hh; obtain ⟨i0, rfl⟩ := Int.eq_ofNat_of_zero_le hj65; have hi0 := hk65)
 replace hru0 := hru0.mono hle65
 replace hrt0 := hrt0.mono hle65
 replace hb := hb.mono hle65
 refine sQ (qA rfl) rfl (sD (nS ?_))
 refine C6 ?_
 (refine N4 (fun (x : Nat × List Value × List Value × Nat × IM) => ⟨[(6, .int .i64 x.1), (0, .pointer (some ⟨br, 0, none⟩)), (2, .pointer (some ⟨b3, 0, none⟩)), (3, .pointer (some ⟨b44, 0, none⟩)), (4, .pointer (some ⟨b45, 0, none⟩))], [.blk b44 x.2.1, .blk b45 x.2.2.1, rd br pb nb cb x.2.2.2.1, .blk b3 [.int .i64 0, .string ⟨⟨[]⟩⟩, .int .i64 0, .int .i64 0, .slice none 0 0, .int .i64 0, .slice none 0 0, .int .i64 0, .slice none 0 0]], x.2.2.2.2⟩) (fun x => x.1 ≤ 2 ∧ B2 Gp x.2.2.2.2 ∧ (∃ e, B5 x.2.2.2.2 e x.2.1 ∧ (∃ D, L8 D 13 e 1 = true) ∧ C3 e + x.1 ≤ 203) ∧ (∃ t, B3 x.2.2.2.2 t x.2.2.1 ∧ H3 t = true) ∧ pT + 1 ≤ x.2.2.2.1 ∧ x.2.2.2.1 + x.1 * 2000 ≤ pT + 1 + 4000) (fun x => x.1) (i0, cu0, ct0, pT + 1, Gp) ?_ ?_ ?_)
 (simp only [J9]; exact E0)
 (exact ⟨by dsimp only; omega, B2.refl _, ⟨u0, hru0, ⟨40, hsh0⟩, by dsimp only; omega⟩, ⟨t0, hrt0, htv0⟩, Nat.le_refl _, by dsimp only; omega⟩)
 (rintro ⟨(i : Nat), ce, ct, (p1 : Nat), G1⟩ ⟨hi, hleL, ⟨e, hre, hse, hce⟩, ⟨t, hrt, htv⟩, hpL, hpL2⟩; simp only [] at hi hleL hre hse hce hrt htv hpL hpL2 ⊢; have hak := B5Z htv; have hat := hak.ar; have hst := (A4H htv).2; replace hb := hb.mono hleL; have hl2 := hre.len; have ho2 := hre.one; have hl3 := hrt.len; have ho3 := hrt.one; have hnt := A0a t)
 refine tS (tS (tR (sQ (qM rfl) rfl ?_)))
 refine sB (Y2 rfl rfl) rfl rfl (fun h78 => ?_) (fun h78 => ?_)
 refine sD (nS (qT rfl (tK (nS (tS ?_)))))
 (show I9 _ _ (.block 1 ..) _ _; obtain ⟨j, rfl⟩ : ∃ j, i = j + 1 := ⟨i - 1, by omega⟩; refine C6 ?_)
 refine tS (tR (sQ (qM rfl) rfl ?_))
 refine sL (A6 rfl rfl (C8 (by repeat first | exact mH | apply mT)) hl3) rfl rfl ?_
 (have hcall := B52 br pb nb cb bs hnb t p1 _ _ hat hrt hb (by omega); refine C0 rfl hcall (Pk.perm (by repeat (first | exact Pk.here | apply Pk.there))) rfl rfl (fun v Gn outs hleu hh => ?_); obtain ⟨p2, hp21, hp22, rfl, u, cu, rfl, hru, hua, hus, huh⟩ := hh; have huv := B0U (huh 3 hak); have hl4 := hru.len; have ho4 := hru.one; replace hb := hb.mono hleu; replace hrt := hrt.mono hleu; replace hre := hre.mono hleu; replace hleL := hleL.trans hleu)
 refine sE (A8 rfl) rfl (fun b91 => ?_)
 refine M0 rfl rfl rfl hl4 ho4 rfl (by repeat first | exact Sw.here | apply Sw.there) (by exact I4 (by first | exact hl4.symm | omega)) ?_
 refine sD (nS (tS (tS (tR (sQ (qM rfl) rfl ?_)))))
 (refine C0 rfl (S0 _ br pb nb cb (p2) bs 2 hb hnb (by omega)) (Pk.perm (by repeat (first | exact Pk.here | apply Pk.there))) rfl rfl (fun v Gp outs hle99 hh => ?_); obtain ⟨rfl, rfl, j99, rfl, hj99, hk99⟩ := hh; have hpickA := hj99)
 replace hru := hru.mono hle99
 replace hb := hb.mono hle99
 replace hrt := hrt.mono hle99
 replace hre := hre.mono hle99
 refine sB (qE rfl rfl) rfl rfl (fun h100 => ?_) (fun h100 => ?_)
 refine sD (nS (qT rfl (tR (sQ (qM rfl) rfl ?_))))
 (have hcall := B51 br pb nb cb bs hnb (p2 + 1) _ hb (by omega); refine C0 rfl hcall (Pk.perm (by repeat (first | exact Pk.here | apply Pk.there))) rfl rfl (fun v Gn outs hlew hh => ?_); obtain ⟨p3, hp31, hp32, rfl, w, cw, rfl, hrw, hws, hwh⟩ := hh; have hl5 := hrw.len; have ho5 := hrw.one; have hwa := hwh.ar; have hwv := B0U hwh; replace hb := hb.mono hlew; replace hrt := hrt.mono hlew; replace hre := hre.mono hlew; replace hleL := hleL.trans hlew)
 refine M0 rfl rfl rfl hl5 ho5 rfl (by repeat first | exact Sw.here | apply Sw.there) (by exact I4 (by first | exact hl5.symm | omega)) ?_
 refine sD (nS (tS (tR ?_)))
 refine sL (A6 rfl rfl (C8 (by repeat first | exact mH | apply mT)) hl3) rfl rfl ?_
 refine sL (A6 rfl rfl (C8 (by repeat first | exact mH | apply mT)) hl5) rfl rfl ?_
 refine J4 rfl ((W5 t w _ _ _ hat hwa hrt hrw)) rfl rfl (fun h114 => ?_) (fun h114 => ?_)
 refine sD (nS (qT rfl (tS (tR (sQ (qM rfl) rfl ?_)))))
 refine sP (N0 rfl rfl (by omega) (by omega)) rfl rfl ?_
 refine B7 ?_
 (refine C0 rfl (S0 _ br pb nb cb (p3) bs 3 hb hnb (by omega)) (Pk.perm (by repeat (first | exact Pk.here | apply Pk.there))) rfl rfl (fun v Gp outs hle129 hh => ?_); obtain ⟨rfl, rfl, j129, rfl, hj129, hk129⟩ := hh; have hpickB := hwa)
 replace hrw := hrw.mono hle129
 replace hb := hb.mono hle129
 replace hrt := hrt.mono hle129
 replace hre := hre.mono hle129
 refine sB (qE rfl rfl) rfl rfl (fun h130 => ?_) (fun h130 => ?_)
 refine sD (nS (qT rfl (tR (sQ (qM rfl) rfl ?_))))
 refine sP (A2O rfl (by omega) (by omega)) rfl rfl ?_
 refine sQ (qA rfl) rfl (sD (nS (tS (tR ?_))))
 refine sL (A6 rfl rfl (C8 (by repeat first | exact mH | apply mT)) hl2) rfl rfl ?_
 refine sL (A6 rfl rfl (C8 (by repeat first | exact mH | apply mT)) hl3) rfl rfl ?_
 refine sL (A6 rfl rfl (C8 (by repeat first | exact mH | apply mT)) hl5) rfl rfl ?_
 refine sQ (qM rfl) rfl ?_
 (refine D9 rfl (A3W e t w _ _ _ _ _ ⟨by omega, by omega⟩ hre hrt hrw hat.small hwa.small) rfl rfl (fun v G8 hle8 hh => ?_); obtain ⟨cy, rfl, hry⟩ := hh; have hl6 := hry.len; have ho6 := hry.one; replace hb := hb.mono hle8; have hrN := hrw.mono hle8; replace hleL := hleL.trans hle8; have hNv := hwv; have hsy := fun hc hl => A5h hse hc htv hwv hl hry; skip)
 refine H0 ?_
 refine M0 rfl rfl rfl hl6 ho6 rfl (by repeat first | exact Sw.here | apply Sw.there) (by exact I4 (by first | exact hl6.symm | omega)) ?_
 refine sD (nS (tR ?_))
 refine sL (A6 rfl rfl (C8 (by repeat first | exact mH | apply mT)) hl5) rfl rfl ?_
 refine M0 rfl rfl rfl hl5 ho5 rfl (by repeat first | exact Sw.here | apply Sw.there) (by exact I4 (by first | exact hl5.symm | omega)) ?_
 refine sD (O3 (nS (tR (sQ (qM rfl) rfl ?_))))
 refine sP (T4 rfl rfl (by omega)) rfl rfl ?_
 refine sQ (qA rfl) rfl (sD ?_)
 refine K5 (j, cy, cw, p3 + 1, G8) ?_ ?_ ?_
 (simp only [J9]; exact E0)
 (dsimp only; exact ⟨by omega, hleL, (by obtain ⟨y, h1, h2, h3⟩ := hsy (by assumption) (by first | exact A3P (by omega) (by omega) | exact A5g (by omega) (by omega)); exact ⟨y, h1, h2, by omega⟩), ⟨_, hrN, hNv⟩, by omega, by omega⟩)
 (show _ < _ + 1; omega)
 refine sD (nS (cF rfl (tK (nS (tS (tR ?_))))))
 refine sL (A6 rfl rfl (C8 (by repeat first | exact mH | apply mT)) hl2) rfl rfl ?_
 refine sL (A6 rfl rfl (C8 (by repeat first | exact mH | apply mT)) hl3) rfl rfl ?_
 refine sL (A6 rfl rfl (C8 (by repeat first | exact mH | apply mT)) hl5) rfl rfl ?_
 refine sQ (qM rfl) rfl ?_
 (refine D9 rfl (A3W e t w _ _ _ _ _ ⟨by omega, by omega⟩ hre hrt hrw hat.small hwa.small) rfl rfl (fun v G8 hle8 hh => ?_); obtain ⟨cy, rfl, hry⟩ := hh; have hl6 := hry.len; have ho6 := hry.one; replace hb := hb.mono hle8; have hrN := hrw.mono hle8; replace hleL := hleL.trans hle8; have hNv := hwv; have hsy := fun hc hl => A5h hse hc htv hwv hl hry; skip)
 refine H0 ?_
 refine M0 rfl rfl rfl hl6 ho6 rfl (by repeat first | exact Sw.here | apply Sw.there) (by exact I4 (by first | exact hl6.symm | omega)) ?_
 refine sD (nS (tR ?_))
 refine sL (A6 rfl rfl (C8 (by repeat first | exact mH | apply mT)) hl5) rfl rfl ?_
 refine M0 rfl rfl rfl hl5 ho5 rfl (by repeat first | exact Sw.here | apply Sw.there) (by exact I4 (by first | exact hl5.symm | omega)) ?_
 refine sD (O3 (nS (tR (sQ (qM rfl) rfl ?_))))
 refine sP (T4 rfl rfl (by omega)) rfl rfl ?_
 refine sQ (qA rfl) rfl (sD ?_)
 refine K5 (j, cy, cw, p3 + 1, G8) ?_ ?_ ?_
 (simp only [J9]; exact E0)
 (dsimp only; exact ⟨by omega, hleL, (by obtain ⟨y, h1, h2, h3⟩ := hsy (by assumption) (by first | exact A3P (by omega) (by omega) | exact A5g (by omega) (by omega)); exact ⟨y, h1, h2, by omega⟩), ⟨_, hrN, hNv⟩, by omega, by omega⟩)
 (show _ < _ + 1; omega)
 refine F8 ?_
 refine sP (T4 rfl rfl (by omega)) rfl rfl ?_
 refine sQ (qA rfl) rfl (sD ?_)
 refine K5 (j, ce, ct, p3, Gn) ?_ ?_ ?_
 (simp only [J9]; exact E0)
 (dsimp only; exact ⟨by omega, hleL, ⟨e, hre, hse, by omega⟩, ⟨t, hrt, htv⟩, by omega, by omega⟩)
 (show _ < _ + 1; omega)
 refine sD (nS (cF rfl (tK (nS (tS (tR ?_))))))
 refine sL (A6 rfl rfl (C8 (by repeat first | exact mH | apply mT)) hl3) rfl rfl ?_
 refine sL (A6 rfl rfl (C8 (by repeat first | exact mH | apply mT)) hl4) rfl rfl ?_
 refine J4 rfl ((W5 t u _ _ _ hat hua hrt hru)) rfl rfl (fun h225 => ?_) (fun h225 => ?_)
 refine sD (nS (qT rfl (tS (tR (sQ (qM rfl) rfl ?_)))))
 refine sP (N0 rfl rfl (by omega) (by omega)) rfl rfl ?_
 refine B7 ?_
 (refine C0 rfl (S0 _ br pb nb cb (p2 + 1) bs 3 hb hnb (by omega)) (Pk.perm (by repeat (first | exact Pk.here | apply Pk.there))) rfl rfl (fun v Gp outs hle240 hh => ?_); obtain ⟨rfl, rfl, j240, rfl, hj240, hk240⟩ := hh; have hpickB := hua)
 replace hru := hru.mono hle240
 replace hb := hb.mono hle240
 replace hrt := hrt.mono hle240
 replace hre := hre.mono hle240
 refine sB (qE rfl rfl) rfl rfl (fun h241 => ?_) (fun h241 => ?_)
 refine sD (nS (qT rfl (tR (sQ (qM rfl) rfl ?_))))
 refine sP (A2O rfl (by omega) (by omega)) rfl rfl ?_
 refine sQ (qA rfl) rfl (sD (nS (tS (tR ?_))))
 refine sL (A6 rfl rfl (C8 (by repeat first | exact mH | apply mT)) hl2) rfl rfl ?_
 refine sL (A6 rfl rfl (C8 (by repeat first | exact mH | apply mT)) hl3) rfl rfl ?_
 refine sL (A6 rfl rfl (C8 (by repeat first | exact mH | apply mT)) hl4) rfl rfl ?_
 refine sQ (qM rfl) rfl ?_
 (refine D9 rfl (A3W e t u _ _ _ _ _ ⟨by omega, by omega⟩ hre hrt hru hat.small hua.small) rfl rfl (fun v G8 hle8 hh => ?_); obtain ⟨cy, rfl, hry⟩ := hh; have hl6 := hry.len; have ho6 := hry.one; replace hb := hb.mono hle8; have hrN := hru.mono hle8; replace hleL := hleL.trans hle8; have hNv := huv; have hsy := fun hc hl => A5h hse hc htv huv hl hry; skip)
 refine H0 ?_
 refine M0 rfl rfl rfl hl6 ho6 rfl (by repeat first | exact Sw.here | apply Sw.there) (by exact I4 (by first | exact hl6.symm | omega)) ?_
 refine sD (nS (tR ?_))
 refine sL (A6 rfl rfl (C8 (by repeat first | exact mH | apply mT)) hl4) rfl rfl ?_
 refine M0 rfl rfl rfl hl4 ho4 rfl (by repeat first | exact Sw.here | apply Sw.there) (by exact I4 (by first | exact hl4.symm | omega)) ?_
 refine sD (O3 (nS (tR (sQ (qM rfl) rfl ?_))))
 refine sP (T4 rfl rfl (by omega)) rfl rfl ?_
 refine sQ (qA rfl) rfl (sD ?_)
 refine K5 (j, cy, cu, p2 + 1 + 1, G8) ?_ ?_ ?_
 (simp only [J9]; exact E0)
 (dsimp only; exact ⟨by omega, hleL, (by obtain ⟨y, h1, h2, h3⟩ := hsy (by assumption) (by first | exact A3P (by omega) (by omega) | exact A5g (by omega) (by omega)); exact ⟨y, h1, h2, by omega⟩), ⟨_, hrN, hNv⟩, by omega, by omega⟩)
 (show _ < _ + 1; omega)
 refine sD (nS (cF rfl (tK (nS (tS (tR ?_))))))
 refine sL (A6 rfl rfl (C8 (by repeat first | exact mH | apply mT)) hl2) rfl rfl ?_
 refine sL (A6 rfl rfl (C8 (by repeat first | exact mH | apply mT)) hl3) rfl rfl ?_
 refine sL (A6 rfl rfl (C8 (by repeat first | exact mH | apply mT)) hl4) rfl rfl ?_
 refine sQ (qM rfl) rfl ?_
 (refine D9 rfl (A3W e t u _ _ _ _ _ ⟨by omega, by omega⟩ hre hrt hru hat.small hua.small) rfl rfl (fun v G8 hle8 hh => ?_); obtain ⟨cy, rfl, hry⟩ := hh; have hl6 := hry.len; have ho6 := hry.one; replace hb := hb.mono hle8; have hrN := hru.mono hle8; replace hleL := hleL.trans hle8; have hNv := huv; have hsy := fun hc hl => A5h hse hc htv huv hl hry; skip)
 refine H0 ?_
 refine M0 rfl rfl rfl hl6 ho6 rfl (by repeat first | exact Sw.here | apply Sw.there) (by exact I4 (by first | exact hl6.symm | omega)) ?_
 refine sD (nS (tR ?_))
 refine sL (A6 rfl rfl (C8 (by repeat first | exact mH | apply mT)) hl4) rfl rfl ?_
 refine M0 rfl rfl rfl hl4 ho4 rfl (by repeat first | exact Sw.here | apply Sw.there) (by exact I4 (by first | exact hl4.symm | omega)) ?_
 refine sD (O3 (nS (tR (sQ (qM rfl) rfl ?_))))
 refine sP (T4 rfl rfl (by omega)) rfl rfl ?_
 refine sQ (qA rfl) rfl (sD ?_)
 refine K5 (j, cy, cu, p2 + 1 + 1, G8) ?_ ?_ ?_
 (simp only [J9]; exact E0)
 (dsimp only; exact ⟨by omega, hleL, (by obtain ⟨y, h1, h2, h3⟩ := hsy (by assumption) (by first | exact A3P (by omega) (by omega) | exact A5g (by omega) (by omega)); exact ⟨y, h1, h2, by omega⟩), ⟨_, hrN, hNv⟩, by omega, by omega⟩)
 (show _ < _ + 1; omega)
 refine F8 ?_
 refine sP (T4 rfl rfl (by omega)) rfl rfl ?_
 refine sQ (qA rfl) rfl (sD ?_)
 refine K5 (j, ce, ct, p2 + 1, Gp) ?_ ?_ ?_
 (simp only [J9]; exact E0)
 (dsimp only; exact ⟨by omega, hleL, ⟨e, hre, hse, by omega⟩, ⟨t, hrt, htv⟩, by omega, by omega⟩)
 (show _ < _ + 1; omega)
 refine M2 ?_
 refine sL (A6 rfl rfl (C8 (by repeat first | exact mH | apply mT)) hl2) rfl rfl ?_
 refine M0 rfl rfl rfl (by assumption) (by assumption) rfl (by repeat first | exact Sw.here | apply Sw.there) (by exact I4 (by symm; assumption)) ?_
 refine sD (nS (tT ?_))
 refine C4 (outs := [rd br pb nb cb p1]) (rC rfl (A6 rfl rfl (C8 (by repeat first | exact mH | apply mT)) hl2)) (by repeat (first | exact A0.nil | refine A0.cons Pk.here ?_ | refine A0.cons (Pk.there Pk.here) ?_ | refine A0.cons (Pk.there (Pk.there Pk.here)) ?_ | apply A0.drop)) ?_
 (exact ⟨p1, by omega, by omega, rfl, e, _, rfl, hre, hse, by omega⟩)
theorem B55 (G : IM) (q : Option Addr) (n c : Nat) (bs : List UInt8) (hb : Sl G q n c 1 (N2 bs)) : Fn Tryz.prog 81 [.slice q n c] [] G (B0S 100 G) := by
 refine B8 Tryz.func81 rfl Tryz.ntmps81 Tryz.results81 rfl ?_
 intro w0
 refine tS (tR ?_)
 refine sE (A8 rfl) rfl (fun b3 => ?_)
 refine sD (nS (tS (tR (sQ (qM rfl) rfl ?_))))
 (refine C0 rfl (A8s G q n c bs hb) (List.Perm.refl _) rfl rfl (fun v G1 outs hle1 hh => ?_); obtain ⟨rfl, br, pb, nb, cb, bs', rfl, rfl, hnb, hb'⟩ := hh)
 refine B7 ?_
 (have hcall := B4h br pb nb cb bs' hnb 0 _ hb' (by omega); refine C0 rfl hcall (Pk.perm (by repeat (first | exact Pk.here | apply Pk.there))) rfl rfl (fun v Gn outs hle1 hh => ?_); obtain ⟨p1, hp11, hp12, rfl, e, ce, rfl, hre, hfe⟩ := hh; replace hb' := hb'.mono hle1)
 (have hcall := B4g br pb nb cb bs' hnb p1 _ hb' (by omega) e ce 100 hfe hre; refine C0 rfl hcall (Pk.perm (by repeat (first | exact Pk.here | apply Pk.there))) rfl rfl (fun v Gn outs hle3 hh => ?_); obtain ⟨p3, hp31, hp32, rfl, f, cf, rfl, hrf, hff⟩ := hh; have hl2 := hrf.len; have ho2 := hrf.one)
 refine sS rfl rfl rfl hl2 ho2 rfl ?_ (hu := by exact I4 hl2.symm)
 refine sD (nS (tT ?_))
 refine E9 (rC rfl (A6 rfl rfl (C8 (by repeat first | exact mH | apply mT)) hl2)) ?_
 (exact ⟨rfl, f, _, rfl, hrf, hff⟩)
theorem B56 (G : IM) (q : Option Addr) (n c : Nat) (bs : List UInt8) (hb : Sl G q n c 1 (N2 bs)) : Fn Tryz.prog 33 [.slice q n c] [] G (B0S 100 G) := by
 refine B8 Tryz.func33 rfl Tryz.ntmps33 Tryz.results33 rfl ?_
 intro w0
 refine tS (tR ?_)
 refine sE (A8 rfl) rfl (fun b3 => ?_)
 refine sD (nS (tS (tR (sQ (qM rfl) rfl ?_))))
 (refine D9 rfl (B55 G q n c bs hb) rfl rfl (fun v G4 hle4 hh => ?_); obtain ⟨t4, cells4, rfl, hr4, hf4⟩ := hh; have hl4 := hr4.len; have ho4 := hr4.one)
 refine sS rfl rfl rfl hl4 ho4 rfl ?_ (hu := by exact I4 hl4.symm)
 refine sD (nS (tT ?_))
 refine E9 (rC rfl (A6 rfl rfl (C8 (by repeat first | exact mH | apply mT)) hl4)) ?_
 exact ⟨rfl, t4, cells4, rfl, hr4, hf4⟩
theorem B0Z (G : IM) (q : Option Addr) (n c : Nat) (bs : List UInt8) (hb : Sl G q n c 1 (N2 bs)) : Fn Tryz.prog 38 [.slice q n c] [] G (B5T G) := by
 refine B8 Tryz.func38 rfl Tryz.ntmps38 Tryz.results38 rfl ?_
 intro w0
 refine F8 ?_
 (refine C0 rfl (A8s G q n c bs hb) (List.Perm.refl _) rfl rfl (fun v G1 outs hle1 hh => ?_); obtain ⟨rfl, br, pb, nb, cb, bs', rfl, rfl, hnb, hb'⟩ := hh)
 refine B7 ?_
 (refine C0 rfl (B54 br pb nb cb bs' hnb 0 _ hb' (by omega)) (Pk.perm (by repeat (first | exact Pk.here | apply Pk.there))) rfl rfl (fun v G3 outs hle3 hh => ?_); obtain ⟨p3, hp31, hp32, rfl, t3, cells3, rfl, hr3, ⟨D, hsh⟩, hcn⟩ := hh; replace hb' := hb'.mono hle3; have hlen := A5a D 13 t3 1 hsh)
 (refine D9 rfl (B0O D 13 t3 1 _ cells3 hsh (by omega) hr3) rfl rfl (fun v G4 hle4 hh => ?_); subst hh; replace hb' := hb'.mono hle4)
 (refine D7 (D1 rfl rfl rfl (by omega) (by unfold maxLen; omega) rfl) rfl ?_; rintro _ ⟨b19, rfl⟩)
 (refine P2 (by repeat (first | exact Pk.here | apply Pk.there)) (fun Gf hlef hslf _ => ?_); refine C0 rfl (B5B br pb nb cb bs' hnb p3 Gf (hb'.mono hlef) (by omega) (B0 t3) (by omega) _ _ _ _ hslf (by decide) (by exact B5U (l := [[], [40], [41], [126], [35], [45], [48], [73], [63]]) (by decide))) (Pk.perm (by repeat (first | exact Pk.here | apply Pk.there))) rfl rfl (fun v Gn outs hlen2 hh => ?_); obtain ⟨p4, hp41, hp42, rfl, l2, rfl, hl2⟩ := hh)
 refine sQ (qA rfl) rfl (sD (nS (tT (E9 (rT rfl) ?_))))
 exact ⟨rfl, l2, rfl, by omega⟩
theorem A3l {G : IM} {k num lb : Int} {nm : ByteArray} {ty fr : Ty} {ks : List Tm} {tc fc : List Value} {es : List (List Value)} {p : Option Addr} {n c : Nat} (hk : H4 k) (hnum : H4 num) (hlb : H4 lb) (ht : B3 G ty tc) (hf : B3 G fr fc) (hn : n = ks.length) (hs : D5 G p n c 9 es) (hr : E5 G ks es) :
  B5 G (.mk k nm num ty fr lb ks) ([.int .i64 k, .string nm, .int .i64 num] ++ tc ++ fc ++ [.int .i64 lb, .slice p n c]) := by
 subst hn
 simp only [B5]
 exact ⟨tc, fc, p, c, es, rfl, hk, hnum, hlb, ht, hf, hs, hr⟩
theorem A5i {G : IM} {p : Option Addr} {c : Nat} {t : Tm} {e : List Value} (h : Sl G p 1 c 9 e) (hr : B5 G t e) : D5 G p 1 c 9 [e] ∧ E5 G [t] [e] := by
 refine ⟨D5.of (by simpa using h) rfl (by simpa using hr.len) (by simpa using hr.one), ?_⟩
 simp only [E5]; exact ⟨e, [], rfl, hr, rfl⟩
theorem A4a {l : A3} {i : Nat} (h : i < l.length) : (l.drop i).headD 0 = l.getD i 0 := by rw [A0W h]; rfl
section plain
variable {L : A3} {f : A3 → Option (Tm × A3)} {a nx ny : Nat} {t u : Ty} {x : Tm}
theorem B57 (h : L.length ≤ a + 1) : A0o f (L.drop a) = none := by
 unfold A0o
 by_cases ha : a < L.length
 ·rw [A0X ha]; simp only [Option.bind_some]; rw [A2i h]; rfl
 ·rw [A6W (by omega)]; rfl
theorem B58 (h : a + 1 < L.length) (hc : L.getD (a + 1) 0 ≠ 58) : A0o f (L.drop a) = none := by
 unfold A0o
 rw [A0X (by omega)]; simp only [Option.bind_some]; rw [A1P h hc]; rfl
theorem B59 (h : a + 1 < L.length) (hc : L.getD (a + 1) 0 = 58) (h2 : O0 4 (L.drop (a + 2)) = none) : A0o f (L.drop a) = none := by
 unfold A0o
 rw [A0X (by omega)]; simp only [Option.bind_some]; rw [A1f h hc]; simp only [Option.bind_some]; rw [h2]; rfl
theorem B00 (h : a + 1 < L.length) (hc : L.getD (a + 1) 0 = 58) (h2 : O0 4 (L.drop (a + 2)) = some (t, L.drop nx)) (h3 : F9 46 (L.drop nx) = none) : A0o f (L.drop a) = none := by
 unfold A0o
 rw [A0X (by omega)]; simp only [Option.bind_some]; rw [A1f h hc]; simp only [Option.bind_some]; rw [h2]; simp only [Option.bind_some]; rw [h3]; rfl
theorem B6a (h : a + 1 < L.length) (hc : L.getD (a + 1) 0 = 58) (h2 : O0 4 (L.drop (a + 2)) = some (t, L.drop nx)) (h3 : nx < L.length) (h4 : L.getD nx 0 = 46) : A0o f (L.drop a) = (f (L.drop (nx + 1))).map fun z => (.mk 5 ⟨#[L.getD a 0]⟩ 0 t A7 0 [z.1], z.2) := by
 unfold A0o
 rw [A0X (by omega)]; simp only [Option.bind_some]; rw [A1f h hc]; simp only [Option.bind_some]; rw [h2]; simp only [Option.bind_some]; rw [A1f h3 h4]; rfl
theorem B6b (h : O0 4 (L.drop a) = none) : A0e x t (L.drop a) = none := by unfold A0e; rw [h]; rfl
theorem B6c (h : O0 4 (L.drop a) = some (u, L.drop nx)) (h2 : L.length ≤ nx + 1) : A0e x t (L.drop a) = none := by
 unfold A0e
 rw [h]; simp only [Option.bind_some]
 by_cases h3 : nx < L.length
 ·by_cases h4 : L.getD nx 0 = 35
  ·rw [A1f h3 h4]; simp only [Option.bind_some]; rw [if_pos (A2J h2)]
  ·rw [A1P h3 h4]; rfl
 ·rw [A2i (by omega)]; rfl
theorem B6d (h : O0 4 (L.drop a) = some (u, L.drop nx)) (h2 : nx < L.length) (h3 : L.getD nx 0 ≠ 35) : A0e x t (L.drop a) = none := by
 unfold A0e
 rw [h]; simp only [Option.bind_some]; rw [A1P h2 h3]; rfl
theorem B6e (h : O0 4 (L.drop a) = some (u, L.drop nx)) (h2 : nx + 1 < L.length) (h3 : L.getD nx 0 = 35) (h4 : L.getD (nx + 1) 0 = 45) : A0e x t (L.drop a) = (A0E (L.drop (nx + 1 + 1))).bind fun m => (F9 41 m.2).map fun r3 => (.mk 14 ⟨#[]⟩ 0 u t (-m.1) [x], r3) := by
 unfold A0e
 rw [h]; simp only [Option.bind_some]; rw [A1f (by omega) h3]; simp only [Option.bind_some]
 rw [if_neg (by rw [A0W h2]; exact List.cons_ne_nil _ _), A4a h2, if_pos h4, List.tail_drop]
theorem B6f (h : O0 4 (L.drop a) = some (u, L.drop nx)) (h2 : nx + 1 < L.length) (h3 : L.getD nx 0 = 35) (h4 : L.getD (nx + 1) 0 ≠ 45) : A0e x t (L.drop a) = (A0E (L.drop (nx + 1))).bind fun m => (F9 41 m.2).map fun r3 => (.mk 14 ⟨#[]⟩ 0 u t m.1 [x], r3) := by
 unfold A0e
 rw [h]; simp only [Option.bind_some]; rw [A1f (by omega) h3]; simp only [Option.bind_some]
 rw [if_neg (by rw [A0W h2]; exact List.cons_ne_nil _ _), A4a h2, if_neg h4]
theorem B6g (h : f (L.drop a) = none) : X8 f (L.drop a) = none := by unfold X8; rw [h]; rfl
theorem B6h (h : f (L.drop a) = some (x, L.drop nx)) (h2 : L.length ≤ nx) : X8 f (L.drop a) = none := by unfold X8; rw [h]; simp only [Option.bind_some]; rw [A6W h2]; rfl
theorem B6i (h : f (L.drop a) = some (x, L.drop nx)) (h2 : nx < L.length) (h3 : L.getD nx 0 ≠ 32) (h4 : L.getD nx 0 ≠ 43) (h5 : L.getD nx 0 ≠ 60) (h6 : L.getD nx 0 ≠ 58) : X8 f (L.drop a) = none := by
 unfold X8; rw [h]; simp only [Option.bind_some]; rw [A0X h2]; simp only [Option.bind_some]; rw [if_neg h3, if_neg h4, if_neg h5, if_neg h6]
theorem A66 {k : Int} (h : f (L.drop a) = some (x, L.drop nx)) (h2 : nx < L.length) (h3 : (L.getD nx 0 = 32 ∧ k = 6) ∨ (L.getD nx 0 = 43 ∧ k = 7) ∨ (L.getD nx 0 = 60 ∧ k = 8)) : X8 f (L.drop a) = A1O f k x (L.drop (nx + 1)) := by
 unfold X8; rw [h]; simp only [Option.bind_some]; rw [A0X h2]; simp only [Option.bind_some]
 rcases h3 with ⟨h3, rfl⟩ | ⟨h3, rfl⟩ | ⟨h3, rfl⟩
 ·rw [h3, if_pos rfl]
 ·rw [h3, if_neg (by decide), if_pos rfl]
 ·rw [h3, if_neg (by decide), if_neg (by decide), if_pos rfl]
theorem B6j (h : f (L.drop a) = some (x, L.drop nx)) (h2 : nx < L.length) (h3 : L.getD nx 0 = 58) : X8 f (L.drop a) = rAs x (L.drop (nx + 1)) := by
 unfold X8; rw [h]; simp only [Option.bind_some]; rw [A0X h2]; simp only [Option.bind_some]
 rw [h3, if_neg (by decide), if_neg (by decide), if_neg (by decide), if_pos rfl]
theorem B6k (h : O0 4 (L.drop a) = none) : rAs x (L.drop a) = none := by unfold rAs; rw [h]; rfl
theorem B01 (h : O0 4 (L.drop a) = some (t, L.drop ny)) (h2 : L.length ≤ ny ∨ (L.getD ny 0 ≠ 41 ∧ L.getD ny 0 ≠ 126)) : rAs x (L.drop a) = none := by
 unfold rAs; rw [h]; simp only [Option.bind_some]
 by_cases hn : ny < L.length
 ·rw [A4a hn]
  rcases h2 with h2 | ⟨h2, h3⟩
  ·omega
  ·rw [if_neg h2, if_neg h3]
 ·rw [A2J (by omega)]; rfl
theorem B6l (h : O0 4 (L.drop a) = some (t, L.drop ny)) (hn : ny < L.length) (h2 : L.getD ny 0 = 41) : rAs x (L.drop a) = some (.mk 13 ⟨#[]⟩ 0 t A7 0 [x], L.drop (ny + 1)) := by
 unfold rAs; rw [h]; simp only [Option.bind_some]; rw [A4a hn, if_pos h2, List.tail_drop]
theorem B6m (h : O0 4 (L.drop a) = some (t, L.drop ny)) (hn : ny < L.length) (h2 : L.getD ny 0 = 126) : rAs x (L.drop a) = A0e x t (L.drop (ny + 1)) := by
 unfold rAs; rw [h]; simp only [Option.bind_some]; rw [A4a hn, h2, if_neg (by decide), if_pos rfl, List.tail_drop]
end plain
theorem A67 {L : A3} {a : Nat} (h : a < L.length) : (D6 L).extract a (a + 1) = D6 [L.getD a 0] := by
 rw [A0V, A0W h, Nat.add_sub_cancel_left]; rfl
theorem B6n (L : A3) (hL : L.length ≤ 4294967296) (n : Nat) (hP : A5d L n) (a : Nat) (ha : a ≤ L.length) (G : IM) : Fn Tryz.prog 101 [.string (D6 L), .int .i64 (a : Int), .int .i64 (n : Int)] [] G (M9 L (A0o (J2 n) (L.drop a))) := by
 have hsz := N3 L
 obtain ⟨c1, hc1⟩ : ∃ c, L.getD (a + 1) 0 = c := ⟨_, rfl⟩
 refine B8 Tryz.func101 rfl Tryz.ntmps101 Tryz.results101 rfl ?_
 intro w0
 refine tS (tR ?_)
 refine sE (A8 rfl) rfl (fun b3 => ?_)
 refine B7 ?_
 refine sP (K8 (n := 1) rfl rfl (by omega)) rfl rfl ?_
 refine sQ (qM rfl) rfl ?_
 refine sQ (P9 rfl rfl) rfl (sB (S4 rfl rfl) rfl rfl (fun h14 => ?_) (fun h14 => ?_))
 refine A0v ?_
 refine B4 (rC rfl (A2 rfl rfl)) (rT rfl) ?_
 (exact M9.no (B57 (by omega)))
 refine sQ (qM rfl) rfl (sQ (qM rfl) rfl (sQ (qM rfl) rfl ?_))
 refine sP (K8 (n := 1) rfl rfl (by omega)) rfl rfl ?_
 refine sP (A0Y (j := a + 1) rfl rfl rfl (by omega) hc1) rfl rfl ?_
 refine sB (P5 rfl rfl) rfl rfl (fun h41 => ?_) (fun h41 => ?_)
 refine I5 ?_
 refine B4 (rC rfl (A2 rfl rfl)) (rT rfl) ?_
 (exact M9.no (B58 (by omega) (by rw [hc1]; exact J3 (by show _ ≠ (58 : Int); omega))))
 refine M2 ?_
 refine sP (K8 (n := 2) rfl rfl (by omega)) rfl rfl ?_
 focus (refine D9 rfl (A6Z L hL 4 (a + 2) G (by omega) (by omega)) rfl rfl (fun v G1 hle1 hh => ?_); obtain ⟨ty, ct, nt, rfl, hrt, hmt⟩ := hh; have hot := hrt.one; obtain ⟨pa, cca, ea, rfl, _⟩ := hrt.open; rcases hmt with ⟨hmt, rfl⟩ | ⟨nx, hmt, rfl, hnx⟩; rotate_left; obtain ⟨o, ho⟩ : ∃ o, L.getD nx 0 = o := ⟨_, rfl⟩; rotate_left)
 refine H0 ?_
 refine sE (A8 rfl) rfl (fun b72 => ?_)
 refine sS rfl rfl rfl rfl hot rfl ?_
 refine B7 ?_
 refine sP (A0A rfl rfl (by omega)) rfl rfl ?_
 refine A0i ?_
 refine sS rfl rfl rfl rfl hot rfl ?_
 refine sQ (qA rfl) rfl (sD (nS (tT (rS ?_))))
 refine B4 (rC rfl (A2 rfl rfl)) (rT rfl) ?_
 (exact M9.no (B59 (by omega) (by rw [hc1]; exact J5 (b := 58) (by show _ = (58 : Int); omega)) hmt))
 refine H0 ?_
 refine sE (A8 rfl) rfl (fun b111 => ?_)
 refine sS rfl rfl rfl rfl hot rfl ?_
 refine B7 ?_
 refine sP (V4 rfl rfl (by omega)) rfl rfl ?_
 refine sQ (qM rfl) rfl (sQ (qM rfl) rfl (sQ (qM rfl) rfl ?_))
 refine sQ (P9 rfl rfl) rfl (sB (S4 rfl rfl) rfl rfl (fun h125 => ?_) (fun h125 => ?_))
 refine I5 ?_
 refine sS rfl rfl rfl rfl hot rfl ?_
 refine sQ (qA rfl) rfl (sD (nS (tT (rS ?_))))
 refine B4 (rC rfl (A2 rfl rfl)) (rT rfl) ?_
 (exact M9.no (B00 (by omega) (by rw [hc1]; exact J5 (b := 58) (by show _ = (58 : Int); omega)) hmt (A2i (by omega))))
 refine H9 ?_
 refine sP (A0Y (j := nx) rfl rfl rfl (by omega) ho) rfl rfl ?_
 refine sB (P5 rfl rfl) rfl rfl (fun h152 => ?_) (fun h152 => ?_)
 refine B7 ?_
 refine sS rfl rfl rfl rfl hot rfl ?_
 refine sQ (qA rfl) rfl (sD (nS (tT (rS ?_))))
 refine B4 (rC rfl (A2 rfl rfl)) (rT rfl) ?_
 (exact M9.no (B00 (by omega) (by rw [hc1]; exact J5 (b := 58) (by show _ = (58 : Int); omega)) hmt (A1P (by omega) (by rw [ho]; exact J3 (by show _ ≠ (46 : Int); omega)))))
 refine M2 ?_
 refine sP (K8 (n := 1) rfl rfl (by omega)) rfl rfl ?_
 refine sQ (qM rfl) rfl ?_
 (have hal : a < L.length := (by omega); refine D9 rfl (hP (nx + 1) G1 (by omega)) rfl rfl (fun v G2 hle2 hh => ?_); obtain ⟨tb, cb, nb, rfl, hrb, hmb⟩ := hh; have hob := hrb.one; obtain ⟨x1, x2, x3, x4, x5, x6, x7, x8, x9, rfl⟩ := rm9 hrb; replace hrt := hrt.mono hle2)
 refine H0 ?_
 refine sE (A8 rfl) rfl (fun b184 => ?_)
 refine sS rfl rfl rfl rfl hob rfl ?_
 refine sQ (qA rfl) rfl (sD (nS (tS ?_)))
 refine D3 D4 rfl ?_
 refine E8 (i := 0) (l' := [tt,ff,ff,ff,ff,ff,ff,ff,ff,ff,ff,ff]) rfl C5 (qM rfl) rfl (by kernel_rfl) rfl rfl ?_
 refine aP 1 rfl (qM rfl) rfl ?_
 refine aP 2 rfl (qM rfl) rfl ?_
 refine aP 3 rfl (K8 (n := 1) rfl rfl (by omega)) rfl ?_
 refine aP 4 rfl (A0Q (l := a) (h := a + 1) rfl rfl rfl rfl (by omega) (by rw [N3]; omega)) rfl ?_
 refine aL 5 rfl (A2 rfl rfl) rfl ?_
 refine aL 6 rfl (A2 rfl rfl) rfl ?_
 refine aP 9 rfl (qM rfl) rfl ?_
 refine A1 7 ?_
 (refine I7 rfl (D1 rfl rfl rfl (by omega) (by unfold maxLen; omega) rfl) rfl rfl ?_; rintro _ ⟨b200, rfl⟩)
 refine aP 8 rfl (P6 rfl rfl) rfl ?_
 refine A1 10 ?_
 refine J7 rfl ?_
 refine aP 11 rfl (qA rfl) rfl ?_
 refine D8 (nS ?_)
 (refine L4 (cs := [x1, x2, x3, x4, x5, x6, x7, x8, x9]) (by repeat (first | exact Pk.here | apply Pk.there)) (fun G9 hle9 hsl9 hno9 => ?_); obtain ⟨hs1, hs2⟩ := A5i hsl9 (hrb.mono hle9); have hR9 := A3l (k := 5) (num := 0) (lb := 0) (nm := D6 [L.getD a 0]) (fr := A7) (ks := [tb]) ⟨by decide, by decide⟩ ⟨by decide, by decide⟩ ⟨by decide, by decide⟩ (hrt.mono hle9) (A0D G9) rfl hs1 hs2)
 refine tT ?_
 refine B4 (rC rfl (A2 rfl rfl)) (rT rfl) ?_
 (have hee := B6a (f := J2 n) (by omega) (by rw [hc1]; exact J5 (b := 58) (by show _ = (58 : Int); omega)) hmt (by omega) (by rw [ho]; exact J5 (b := 46) (by show _ = (46 : Int); omega)); rw [hee, A67 hal]; rcases hmb with ⟨hmb, rfl⟩ | ⟨ny, hmb, rfl, hny⟩; exact M9.noT hR9 (by rw [hmb]; rfl); exact M9.yes hR9 (by rw [hmb]; rfl) hny)
theorem B6o (L : A3) (hL : L.length ≤ 4294967296) (x : Tm) (tk : Int) (tks : List Ty) (pt : Option Addr) (ct : Nat) (p : Option Addr) (c : Nat) (es : List (List Value)) (a : Nat) (ha : a ≤ L.length) (G : IM) (hty : B3 G (.mk tk tks) [.int .i64 tk, .slice pt tks.length ct]) (hsl : D5 G p 1 c 9 es) (hkl : E5 G [x] es) :
  Fn Tryz.prog 167 [.agg ⟨[.int .i64 13, .string ⟨⟨[]⟩⟩, .int .i64 0, .int .i64 tk, .slice pt tks.length ct, .int .i64 0, .slice none 0 0, .int .i64 0, .slice p 1 c]⟩, .string (D6 L), .int .i64 (a : Int)] [] G (M9 L (A0e x (.mk tk tks) (L.drop a))) := by
 have hsz := N3 L
 refine B8 Tryz.func167 rfl Tryz.ntmps167 Tryz.results167 rfl ?_
 intro w0
 refine tS (tR ?_)
 refine sE (E7 rfl rfl) rfl (fun b3 => ?_)
 refine sE (A8 rfl) rfl (fun b4 => ?_)
 refine B7 ?_
 focus (refine D9 rfl (A6Z L hL 4 a G (by omega) ha) rfl rfl (fun v G1 hle1 hh => ?_); obtain ⟨ty, ct, nt, rfl, hrt, hmt⟩ := hh; have hot := hrt.one; obtain ⟨pa, cca, ea, rfl, _⟩ := hrt.open; replace hty := hty.mono hle1; replace hsl := hsl.mono hle1; replace hkl := hkl.mono hle1; rcases hmt with ⟨hmt, rfl⟩ | ⟨nx, hmt, rfl, hnx⟩; rotate_left; obtain ⟨o, ho⟩ : ∃ o, L.getD nx 0 = o := ⟨_, rfl⟩; obtain ⟨o1, ho1⟩ : ∃ o, L.getD (nx + 1) 0 = o := ⟨_, rfl⟩; rotate_left)
 refine H0 ?_
 refine sE (A8 rfl) rfl (fun b16 => ?_)
 refine sS rfl rfl rfl rfl hot rfl ?_
 refine B7 ?_
 refine sP (A0A rfl rfl (by omega)) rfl rfl ?_
 refine A0v ?_
 refine sS rfl rfl rfl rfl hot rfl ?_
 refine sQ (qA rfl) rfl (sD (nS (tT (rS ?_))))
 refine B4 (rC rfl (A2 rfl rfl)) (rT rfl) ?_
 (exact M9.no (B6b hmt))
 refine H0 ?_
 refine sE (A8 rfl) rfl (fun b56 => ?_)
 refine sS rfl rfl rfl rfl hot rfl ?_
 refine B7 ?_
 refine sP (V4 rfl rfl (by omega)) rfl rfl ?_
 refine sQ (qM rfl) rfl (sQ (qM rfl) rfl ?_)
 refine sP (K8 (n := 1) rfl rfl (by omega)) rfl rfl ?_
 refine sQ (qM rfl) rfl ?_
 refine sQ (P9 rfl rfl) rfl (sB (S4 rfl rfl) rfl rfl (fun h71 => ?_) (fun h71 => ?_))
 refine I5 ?_
 refine sS rfl rfl rfl rfl hot rfl ?_
 refine sQ (qA rfl) rfl (sD (nS (tT (rS ?_))))
 refine B4 (rC rfl (A2 rfl rfl)) (rT rfl) ?_
 (exact M9.no (B6c hmt (by omega)))
 refine H9 ?_
 refine sP (A0Y (j := nx) rfl rfl rfl (by omega) ho) rfl rfl ?_
 refine sB (P5 rfl rfl) rfl rfl (fun h98 => ?_) (fun h98 => ?_)
 refine B7 ?_
 refine sS rfl rfl rfl rfl hot rfl ?_
 refine sQ (qA rfl) rfl (sD (nS (tT (rS ?_))))
 refine B4 (rC rfl (A2 rfl rfl)) (rT rfl) ?_
 (exact M9.no (B6d hmt (by omega) (by rw [ho]; exact J3 (by show _ ≠ (35 : Int); omega))))
 refine O8 ?_
 refine sP (K8 (n := 1) rfl rfl (by omega)) rfl rfl ?_
 refine F8 ?_
 refine sP (A0Y (j := nx + 1) rfl rfl rfl (by omega) ho1) rfl rfl ?_
 refine sB (qE rfl rfl) rfl rfl (fun h138 => ?_) (fun h138 => ?_)
 refine M2 ?_
 refine sP (K8 (n := 1) rfl rfl (by omega)) rfl rfl ?_
 refine B7 ?_
 focus (have hneg : L.getD (nx + 1) 0 = 45 := (by rw [ho1]; exact J5 (b := 45) (by show _ = (45 : Int); omega)); have hee := B6e (x := x) (t := .mk tk tks) hmt (by omega) (by rw [ho]; exact J5 (b := 35) (by show _ = (35 : Int); omega)) hneg; refine C0 rfl (A60 L hL (nx + 1 + 1) G1 (by omega)) (List.Perm.refl _) rfl rfl (fun v G2 outs hle2 hh => ?_); obtain ⟨hG, rfl, vv, nv, rfl, hv0, hv9, hmv⟩ := hh; replace hG := hG.symm; subst hG; rcases hmv with ⟨hmv, rfl⟩ | ⟨ny, hmv, rfl, hny⟩; rotate_left; obtain ⟨q, hq⟩ : ∃ q, L.getD ny 0 = q := ⟨_, rfl⟩; rotate_left)
 refine I6 ?_
 refine sP (A0A rfl rfl (by omega)) rfl rfl ?_
 refine A0i ?_
 refine sS rfl rfl rfl rfl hot rfl ?_
 refine sQ (qA rfl) rfl (sD (nS (tT (rS ?_))))
 refine B4 (rC rfl (A2 rfl rfl)) (rT rfl) ?_
 (exact M9.no (by rw [hee, hmv]; rfl))
 refine I6 ?_
 refine sP (V4 rfl rfl (by omega)) rfl rfl ?_
 refine sQ (qM rfl) rfl (sQ (qM rfl) rfl (sQ (qM rfl) rfl ?_))
 refine sQ (P9 rfl rfl) rfl (sB (S4 rfl rfl) rfl rfl (fun h212 => ?_) (fun h212 => ?_))
 refine I5 ?_
 refine sS rfl rfl rfl rfl hot rfl ?_
 refine sQ (qA rfl) rfl (sD (nS (tT (rS ?_))))
 refine B4 (rC rfl (A2 rfl rfl)) (rT rfl) ?_
 (exact M9.no (by rw [hee, hmv]; simp only [Option.bind_some]; rw [A2i (by omega)]; rfl))
 refine H9 ?_
 refine sP (A0Y (j := ny) rfl rfl rfl (by omega) hq) rfl rfl ?_
 refine sB (P5 rfl rfl) rfl rfl (fun h239 => ?_) (fun h239 => ?_)
 refine B7 ?_
 refine sS rfl rfl rfl rfl hot rfl ?_
 refine sQ (qA rfl) rfl (sD (nS (tT (rS ?_))))
 refine B4 (rC rfl (A2 rfl rfl)) (rT rfl) ?_
 (exact M9.no (by rw [hee, hmv]; simp only [Option.bind_some]; rw [A1P (by omega) (by rw [hq]; exact J3 (by show _ ≠ (41 : Int); omega))]; rfl))
 refine I5 ?_
 refine sP (A5p rfl rfl (by omega) (by omega)) rfl rfl ?_
 refine H9 ?_
 refine sP (K8 (n := 1) rfl rfl (by omega)) rfl rfl ?_
 refine sS rfl rfl rfl rfl hot rfl ?_
 refine sQ (qA rfl) rfl (sD (nS (tT ?_)))
 refine B4 (rC rfl (A2 rfl rfl)) (rT rfl) ?_
 (exact M9.yes (A3l (k := 14) (num := 0) (lb := -1 * vv) (nm := ⟨#[]⟩) ⟨by decide, by decide⟩ ⟨by decide, by decide⟩ ⟨by omega, by omega⟩ hrt hty rfl hsl hkl) (by rw [hee, hmv]; simp only [Option.bind_some]; rw [A1f (by omega) (by rw [hq]; exact J5 (b := 41) (by show _ = (41 : Int); omega)), show -1 * vv = -vv by omega]; rfl) (by omega))
 refine C7 ?_
 focus (have hneg : L.getD (nx + 1) 0 ≠ 45 := (by rw [ho1]; exact J3 (by show _ ≠ (45 : Int); omega)); have hee := B6f (x := x) (t := .mk tk tks) hmt (by omega) (by rw [ho]; exact J5 (b := 35) (by show _ = (35 : Int); omega)) hneg; refine C0 rfl (A60 L hL (nx + 1) G1 (by omega)) (List.Perm.refl _) rfl rfl (fun v G2 outs hle2 hh => ?_); obtain ⟨hG, rfl, vv, nv, rfl, hv0, hv9, hmv⟩ := hh; replace hG := hG.symm; subst hG; rcases hmv with ⟨hmv, rfl⟩ | ⟨ny, hmv, rfl, hny⟩; rotate_left; obtain ⟨q, hq⟩ : ∃ q, L.getD ny 0 = q := ⟨_, rfl⟩; rotate_left)
 refine I6 ?_
 refine sP (A0A rfl rfl (by omega)) rfl rfl ?_
 refine A0i ?_
 refine sS rfl rfl rfl rfl hot rfl ?_
 refine sQ (qA rfl) rfl (sD (nS (tT (rS ?_))))
 refine B4 (rC rfl (A2 rfl rfl)) (rT rfl) ?_
 (exact M9.no (by rw [hee, hmv]; rfl))
 refine I6 ?_
 refine sP (V4 rfl rfl (by omega)) rfl rfl ?_
 refine sQ (qM rfl) rfl (sQ (qM rfl) rfl (sQ (qM rfl) rfl ?_))
 refine sQ (P9 rfl rfl) rfl (sB (S4 rfl rfl) rfl rfl (fun h345 => ?_) (fun h345 => ?_))
 refine I5 ?_
 refine sS rfl rfl rfl rfl hot rfl ?_
 refine sQ (qA rfl) rfl (sD (nS (tT (rS ?_))))
 refine B4 (rC rfl (A2 rfl rfl)) (rT rfl) ?_
 (exact M9.no (by rw [hee, hmv]; simp only [Option.bind_some]; rw [A2i (by omega)]; rfl))
 refine H9 ?_
 refine sP (A0Y (j := ny) rfl rfl rfl (by omega) hq) rfl rfl ?_
 refine sB (P5 rfl rfl) rfl rfl (fun h372 => ?_) (fun h372 => ?_)
 refine B7 ?_
 refine sS rfl rfl rfl rfl hot rfl ?_
 refine sQ (qA rfl) rfl (sD (nS (tT (rS ?_))))
 refine B4 (rC rfl (A2 rfl rfl)) (rT rfl) ?_
 (exact M9.no (by rw [hee, hmv]; simp only [Option.bind_some]; rw [A1P (by omega) (by rw [hq]; exact J3 (by show _ ≠ (41 : Int); omega))]; rfl))
 refine I5 ?_
 refine sP (A5p rfl rfl (by omega) (by omega)) rfl rfl ?_
 refine H9 ?_
 refine sP (K8 (n := 1) rfl rfl (by omega)) rfl rfl ?_
 refine sS rfl rfl rfl rfl hot rfl ?_
 refine sQ (qA rfl) rfl (sD (nS (tT ?_)))
 refine B4 (rC rfl (A2 rfl rfl)) (rT rfl) ?_
 (exact M9.yes (A3l (k := 14) (num := 0) (lb := 1 * vv) (nm := ⟨#[]⟩) ⟨by decide, by decide⟩ ⟨by decide, by decide⟩ ⟨by omega, by omega⟩ hrt hty rfl hsl hkl) (by rw [hee, hmv]; simp only [Option.bind_some]; rw [A1f (by omega) (by rw [hq]; exact J5 (b := 41) (by show _ = (41 : Int); omega)), show 1 * vv = vv by omega]; rfl) (by omega))
theorem B6p (L : A3) (hL : L.length ≤ 4294967296) (n : Nat) (hP : A5d L n) (a : Nat) (ha : a ≤ L.length) (G : IM) : Fn Tryz.prog 102 [.string (D6 L), .int .i64 (a : Int), .int .i64 (n : Int)] [] G (M9 L (X8 (J2 n) (L.drop a))) := by
 have hsz := N3 L
 refine B8 Tryz.func102 rfl Tryz.ntmps102 Tryz.results102 rfl ?_
 intro w0
 refine tS (tR ?_)
 refine sE (A8 rfl) rfl (fun b3 => ?_)
 refine F8 ?_
 focus (refine D9 rfl (hP a G ha) rfl rfl (fun v G1 hle1 hh => ?_); obtain ⟨tb, cb, nb, rfl, hrb, hmb⟩ := hh; have hob := hrb.one; obtain ⟨x1, x2, x3, x4, x5, x6, x7, x8, x9, rfl⟩ := rm9 hrb; rcases hmb with ⟨hmb, rfl⟩ | ⟨nx, hmb, rfl, hnx⟩; rotate_left; obtain ⟨o, ho⟩ : ∃ o, L.getD nx 0 = o := ⟨_, rfl⟩; rotate_left)
 refine H0 ?_
 refine sE (A8 rfl) rfl (fun b16 => ?_)
 refine sS rfl rfl rfl rfl hob rfl ?_
 refine B7 ?_
 refine sP (A0A rfl rfl (by omega)) rfl rfl ?_
 refine A0i ?_
 refine B4 (rC rfl (A2 rfl rfl)) (rT rfl) ?_
 (exact M9.no (B6g hmb))
 refine H0 ?_
 refine sE (A8 rfl) rfl (fun b49 => ?_)
 refine sS rfl rfl rfl rfl hob rfl ?_
 refine B7 ?_
 refine sP (V4 rfl rfl (by omega)) rfl rfl ?_
 refine sQ (qM rfl) rfl (sQ (qM rfl) rfl (sQ (qM rfl) rfl ?_))
 refine sQ (P9 rfl rfl) rfl (sB (S4 rfl rfl) rfl rfl (fun h63 => ?_) (fun h63 => ?_))
 refine I5 ?_
 refine B4 (rC rfl (A2 rfl rfl)) (rT rfl) ?_
 (exact M9.no (B6h hmb (by omega)))
 refine C7 ?_
 (refine D7 (D1 rfl rfl rfl (by omega) (by unfold maxLen; omega) rfl) rfl ?_; rintro _ ⟨b88, rfl⟩)
 refine sQ (P6 rfl rfl) rfl ?_
 refine sE (A8 rfl) rfl (fun b90 => ?_)
 refine F8 ?_
 refine sP (A0Y (j := nx) rfl rfl rfl (by omega) ho) rfl rfl ?_
 refine sD (nS ?_)
 refine C6 (tS (tR (sB (qE rfl rfl) rfl rfl (fun h105 => ?_) (fun h105 => ?_))))
 refine M3 ?_
 refine sP (K8 (n := 1) rfl rfl (by omega)) rfl rfl ?_
 refine sQ (qM rfl) rfl ?_
 (have hbe := A66 (k := 6) hmb (by omega) (.inl ⟨(by rw [ho]; exact J5 (b := 32) (by show _ = (32 : Int); omega)), rfl⟩); have hl1 : E5 G1 [tb] [[x1, x2, x3, x4, x5, x6, x7, x8, x9]] := (by simp only [E5]; exact ⟨_, _, rfl, hrb, rfl⟩); refine C0 rfl (A36 L hL n hP 6 ⟨by decide, by decide⟩ [tb] [[x1, x2, x3, x4, x5, x6, x7, x8, x9]] _ _ [41] (by decide) (by simp) (nx + 1) (by omega) G1 hl1) (Pk.perm (by repeat (first | exact Pk.here | apply Pk.there))) rfl rfl (fun v G4 outs hle4 hh => ?_); obtain ⟨rfl, te, ce, ne, rfl, hre, hme⟩ := hh; have hoe := hre.one; obtain ⟨e1, e2, e3, e4, e5, e6, e7, e8, e9, rfl⟩ := rm9 hre)
 refine sQ (pX rfl rfl) rfl (sQ (pX rfl rfl) rfl ?_)
 refine sS rfl rfl rfl rfl hoe rfl ?_
 refine sQ (qA rfl) rfl (sD (nS (tT ?_)))
 refine B4 (rC rfl (A2 rfl rfl)) (rT rfl) ?_
 (rw [hbe]; exact ⟨rfl, te, _, _, rfl, hre, hme⟩)
 refine sQ (qA rfl) rfl (sD (nS (cF rfl (tS (tR ?_)))))
 refine sB (qE rfl rfl) rfl rfl (fun h139 => ?_) (fun h139 => ?_)
 refine M3 ?_
 refine sP (K8 (n := 1) rfl rfl (by omega)) rfl rfl ?_
 refine sQ (qM rfl) rfl ?_
 (have hbe := A66 (k := 7) hmb (by omega) (.inr (.inl ⟨(by rw [ho]; exact J5 (b := 43) (by show _ = (43 : Int); omega)), rfl⟩)); have hl1 : E5 G1 [tb] [[x1, x2, x3, x4, x5, x6, x7, x8, x9]] := (by simp only [E5]; exact ⟨_, _, rfl, hrb, rfl⟩); refine C0 rfl (A36 L hL n hP 7 ⟨by decide, by decide⟩ [tb] [[x1, x2, x3, x4, x5, x6, x7, x8, x9]] _ _ [41] (by decide) (by simp) (nx + 1) (by omega) G1 hl1) (Pk.perm (by repeat (first | exact Pk.here | apply Pk.there))) rfl rfl (fun v G4 outs hle4 hh => ?_); obtain ⟨rfl, te, ce, ne, rfl, hre, hme⟩ := hh; have hoe := hre.one; obtain ⟨e1, e2, e3, e4, e5, e6, e7, e8, e9, rfl⟩ := rm9 hre)
 refine sQ (pX rfl rfl) rfl (sQ (pX rfl rfl) rfl ?_)
 refine sS rfl rfl rfl rfl hoe rfl ?_
 refine sQ (qA rfl) rfl (sD (nS (tT ?_)))
 refine B4 (rC rfl (A2 rfl rfl)) (rT rfl) ?_
 (rw [hbe]; exact ⟨rfl, te, _, _, rfl, hre, hme⟩)
 refine sQ (qA rfl) rfl (sD (nS (cF rfl (tS (tR ?_)))))
 refine sB (qE rfl rfl) rfl rfl (fun h173 => ?_) (fun h173 => ?_)
 refine M3 ?_
 refine sP (K8 (n := 1) rfl rfl (by omega)) rfl rfl ?_
 refine sQ (qM rfl) rfl ?_
 (have hbe := A66 (k := 8) hmb (by omega) (.inr (.inr ⟨(by rw [ho]; exact J5 (b := 60) (by show _ = (60 : Int); omega)), rfl⟩)); have hl1 : E5 G1 [tb] [[x1, x2, x3, x4, x5, x6, x7, x8, x9]] := (by simp only [E5]; exact ⟨_, _, rfl, hrb, rfl⟩); refine C0 rfl (A36 L hL n hP 8 ⟨by decide, by decide⟩ [tb] [[x1, x2, x3, x4, x5, x6, x7, x8, x9]] _ _ [41] (by decide) (by simp) (nx + 1) (by omega) G1 hl1) (Pk.perm (by repeat (first | exact Pk.here | apply Pk.there))) rfl rfl (fun v G4 outs hle4 hh => ?_); obtain ⟨rfl, te, ce, ne, rfl, hre, hme⟩ := hh; have hoe := hre.one; obtain ⟨e1, e2, e3, e4, e5, e6, e7, e8, e9, rfl⟩ := rm9 hre)
 refine sQ (pX rfl rfl) rfl (sQ (pX rfl rfl) rfl ?_)
 refine sS rfl rfl rfl rfl hoe rfl ?_
 refine sQ (qA rfl) rfl (sD (nS (tT ?_)))
 refine B4 (rC rfl (A2 rfl rfl)) (rT rfl) ?_
 (rw [hbe]; exact ⟨rfl, te, _, _, rfl, hre, hme⟩)
 refine sQ (qA rfl) rfl (sD (nS (cF rfl (tS (tR ?_)))))
 refine sB (qE rfl rfl) rfl rfl (fun h207 => ?_) (fun h207 => ?_)
 refine F8 ?_
 refine sP (K8 (n := 1) rfl rfl (by omega)) rfl rfl ?_
 focus (refine P2 (cs := [x1, x2, x3, x4, x5, x6, x7, x8, x9]) (by repeat (first | exact Pk.here | apply Pk.there)) (fun G2 hle2 hsl2 hno2 => ?_); obtain ⟨hs1, hs2⟩ := A5i hsl2 (hrb.mono hle2); have has := B6j hmb (by omega) (by rw [ho]; exact J5 (b := 58) (by show _ = (58 : Int); omega)); refine D9 rfl (A6Z L hL 4 (nx + 1) G2 (by omega) (by omega)) rfl rfl (fun v G3 hle3 hh => ?_); obtain ⟨ty, ct, nt, rfl, hrt, hmt⟩ := hh; have hot := hrt.one; obtain ⟨tk, tks⟩ := ty; obtain ⟨pa, cca, ea, rfl, _⟩ := hrt.open; replace hs1 := hs1.mono hle3; replace hs2 := hs2.mono hle3; rcases hmt with ⟨hmt, rfl⟩ | ⟨ny, hmt, rfl, hny⟩; rotate_left; obtain ⟨q, hq⟩ : ∃ q, L.getD ny 0 = q := ⟨_, rfl⟩; rotate_left)
 refine H0 ?_
 refine sE (A8 rfl) rfl (fun b221 => ?_)
 refine sS rfl rfl rfl rfl hot rfl ?_
 refine sQ (qA rfl) rfl (sD (nS (tS (tR (sQ (A9 rfl) rfl ?_)))))
 refine sS rfl rfl rfl rfl hot rfl ?_
 refine K4 ?_
 refine sS rfl rfl rfl rfl hot rfl ?_
 refine sD (nS (tS (tS (tR (sQ (qM rfl) rfl ?_)))))
 refine sP (A4i rfl rfl (by omega)) rfl rfl ?_
 refine Y8 ?_
 refine sP (A4i rfl rfl (by omega)) rfl rfl ?_
 refine A0j ?_
 refine sS rfl rfl rfl rfl hot rfl ?_
 refine sQ (qA rfl) rfl (sD (nS (tT (rB (rS ?_)))))
 refine B4 (rC rfl (A2 rfl rfl)) (rT rfl) ?_
 (rw [has]; exact M9.no (B6k hmt))
 refine H0 ?_
 refine sE (A8 rfl) rfl (fun b298 => ?_)
 refine sS rfl rfl rfl rfl hot rfl ?_
 refine sQ (qA rfl) rfl (sD (nS (tS (tR (sQ (A9 rfl) rfl ?_)))))
 refine sS rfl rfl rfl rfl hot rfl ?_
 refine K4 ?_
 refine sS rfl rfl rfl rfl hot rfl ?_
 refine sD (nS (tS (tS (tR (sQ (qM rfl) rfl ?_)))))
 refine sP (A4h rfl rfl (by omega)) rfl rfl ?_
 refine sQ (qM rfl) rfl (sQ (qM rfl) rfl (sQ (qM rfl) rfl ?_))
 refine sQ (P9 rfl rfl) rfl (sB (L9 rfl rfl) rfl rfl (fun h325 => ?_) (fun h325 => ?_))
 refine H9 ?_
 refine sP (A0Y (j := ny) rfl rfl rfl (by omega) hq) rfl rfl ?_
 refine sB (qE rfl rfl) rfl rfl (fun h331 => ?_) (fun h331 => ?_)
 refine F8 ?_
 refine sP (K8 (n := 1) rfl rfl (by omega)) rfl rfl ?_
 refine sS rfl rfl rfl rfl hot rfl ?_
 refine sQ (qA rfl) rfl (sD (nS (tT (rS (rB (rS ?_))))))
 refine B4 (rC rfl (A2 rfl rfl)) (rT rfl) ?_
 (rw [has]; exact M9.yes (A3l (k := 13) (num := 0) (lb := 0) (nm := ⟨#[]⟩) (fr := A7) ⟨by decide, by decide⟩ ⟨by decide, by decide⟩ ⟨by decide, by decide⟩ hrt (A0D _) rfl hs1 hs2) (B6l hmt (by omega) (by rw [hq]; exact J5 (b := 41) (by show _ = (41 : Int); omega))) (by omega))
 refine M2 ?_
 refine sP (A4h rfl rfl (by omega)) rfl rfl ?_
 refine sQ (qM rfl) rfl (sQ (qM rfl) rfl (sQ (qM rfl) rfl ?_))
 refine sQ (P9 rfl rfl) rfl ?_
 refine sP (A0A rfl rfl (by omega)) rfl rfl ?_
 refine H9 ?_
 refine sP (A0Y (j := ny) rfl rfl rfl (by omega) hq) rfl rfl ?_
 refine sB (qE rfl rfl) rfl rfl (fun h372 => ?_) (fun h372 => ?_)
 refine C7 ?_
 refine sP (K8 (n := 1) rfl rfl (by omega)) rfl rfl ?_
 (have hcl := B6o L hL tb tk tks _ _ _ _ _ (ny + 1) (by omega) G3 hrt hs1 hs2; have hqe : L.getD ny 0 = 126 := (by rw [hq]; exact J5 (b := 126) (by show _ = (126 : Int); omega)); refine D9 rfl hcl rfl rfl (fun v G4 hle4 hh => ?_); obtain ⟨te, ce, ne, rfl, hre, hme⟩ := hh; have hoe := hre.one; obtain ⟨e1, e2, e3, e4, e5, e6, e7, e8, e9, rfl⟩ := rm9 hre)
 refine sQ (pX rfl rfl) rfl (sQ (pX rfl rfl) rfl ?_)
 refine sS rfl rfl rfl rfl hoe rfl ?_
 refine sQ (qA rfl) rfl (sD (nS (tT (rS (rB (rS ?_))))))
 refine B4 (rC rfl (A2 rfl rfl)) (rT rfl) ?_
 (rw [has, B6m hmt (by omega) hqe]; exact ⟨rfl, te, _, _, rfl, hre, hme⟩)
 refine C7 ?_
 refine sS rfl rfl rfl rfl hot rfl ?_
 refine sQ (qA rfl) rfl (sD (nS (tT (rB (rS ?_)))))
 refine B4 (rC rfl (A2 rfl rfl)) (rT rfl) ?_
 (rw [has]; exact M9.no (B01 hmt (.inr ⟨(by rw [hq]; exact J3 (by show _ ≠ (41 : Int); omega)), (by rw [hq]; exact J3 (by show _ ≠ (126 : Int); omega))⟩)))
 refine N6 ?_
 refine sP (A4h rfl rfl (by omega)) rfl rfl ?_
 refine sQ (qM rfl) rfl (sQ (qM rfl) rfl (sQ (qM rfl) rfl ?_))
 refine sQ (P9 rfl rfl) rfl ?_
 refine sP (V4 rfl rfl (by omega)) rfl rfl ?_
 refine M3 ?_
 refine sS rfl rfl rfl rfl hot rfl ?_
 refine sQ (qA rfl) rfl (sD (nS (tT (rB (rS ?_)))))
 refine B4 (rC rfl (A2 rfl rfl)) (rT rfl) ?_
 (rw [has]; exact M9.no (B01 hmt (.inl (by omega))))
 refine O8 ?_
 refine B4 (rC rfl (A2 rfl rfl)) (rT rfl) ?_
 (exact M9.no (B6i hmb (by omega) (by rw [ho]; exact J3 (by show _ ≠ (32 : Int); omega)) (by rw [ho]; exact J3 (by show _ ≠ (43 : Int); omega)) (by rw [ho]; exact J3 (by show _ ≠ (60 : Int); omega)) (by rw [ho]; exact J3 (by show _ ≠ (58 : Int); omega))))
end Gw
end Go.Proofs.YtgodjiieijekiaaGreatDoor
