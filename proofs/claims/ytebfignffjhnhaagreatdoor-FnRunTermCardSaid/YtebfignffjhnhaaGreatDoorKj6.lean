/-
  The program's RunTerm. The reference's typing, exactly. The reference's typing, exactly: meets, the types of nodes. The reference's typing, exactly: types of terms. The reference's evaluator: ground types, values, casts, replacing a name. The reference's evaluator: steps of nodes whose operands are values.
-/
import Derived.Test.YtebfignffjhnhaaGreatDoorKj5
import Derived.Test.YtebfignffjhnhaaGreatDoorKj4
import Derived.Test.YtebfignffjhnhaaGreatDoorKj3
set_option linter.unusedVariables false
set_option linter.unusedSimpArgs false
set_option maxHeartbeats 0
set_option maxRecDepth 100000
set_option synthInstance.maxSize 4000
set_option synthInstance.maxHeartbeats 0
namespace Go.Proofs.YtebfignffjhnhaaGreatDoor
open Go Go.RowKit
namespace Gw
def R8 (e : Tm) (fuel : Int) : ByteArray × Int × Int := match R7 e with
 | none => (⟨⟨[]⟩⟩, 3, 0)
 | some (u, _) => if (R6 u fuel).2.1 = 0 then (A0c (R6 u fuel).1, 0, 0) else (⟨⟨[]⟩⟩, (R6 u fuel).2.1, (R6 u fuel).2.2)
def A97 (r : ByteArray × Int × Int) (G : IM) : IM → Value → List A5 → Prop := L8 fun _ v => v = .tuple ⟨[.string r.1, .int .i64 r.2.1, .int .i64 r.2.2]⟩
theorem A98 {e : Tm} {fuel : Int} (h : R7 e = none) : R8 e fuel = (⟨⟨[]⟩⟩, 3, 0) := by unfold R8; rw [h]
theorem A6A {e u : Tm} {t : Ty} {fuel : Int} (h : R7 e = some (u, t)) (h0 : (R6 u fuel).2.1 = 0) : R8 e fuel = (A0c (R6 u fuel).1, 0, 0) := by unfold R8; rw [h]; simp only [h0, if_true]
theorem A6B {e u : Tm} {t : Ty} {fuel : Int} (h : R7 e = some (u, t)) (h0 : (R6 u fuel).2.1 ≠ 0) : R8 e fuel = (⟨⟨[]⟩⟩, (R6 u fuel).2.1, (R6 u fuel).2.2) := by unfold R8; rw [h]; simp only [if_neg h0]
theorem A99 : ∀ (n : Nat) (e : Tm), (O4 n e).2.1 = 0 → M2 (O4 n e).1 = true ∧ F0 (O4 n e).1 = true ∧ (O4 n e).2.2.1 = 0
 | 0, e, h => by rw [A6k] at h ⊢; exact stepv e h
 | n + 1, e, h => by
  by_cases h1 : (H7 e).2.1 = 1
  ·rw [A6l h1] at h ⊢; exact A99 n _ h
  ·rw [A6m h1] at h ⊢; exact stepv e h
where
 stepv (e : Tm) (h : (H7 e).2.1 = 0) : M2 (H7 e).1 = true ∧ F0 (H7 e).1 = true ∧ (H7 e).2.2 = 0 := by
  cases h1 : M2 e with
  | false => rw [A4T h1] at h; simp at h
  | true =>
   cases h2 : F0 e with
   | true => rw [A3V h1 h2]; exact ⟨h1, h2, rfl⟩
   | false =>
    by_cases h3 : (I6 e).2.1 = 1
    ·cases h4 : M2 (I6 e).1 with
     | false => rw [A3X h1 h2 h3 h4] at h; simp at h
     | true => rw [A3Y h1 h2 h3 h4] at h; simp at h
    ·rw [A3W h1 h2 h3] at h
     exact absurd h (stp_ne0 e)
 stp_ne0 : ∀ (e : Tm), (I6 e).2.1 ≠ 0 := by
  refine Tm.ind fun k nm num ty fr lb ks ih => ?_
  rw [I6]
  cases hL : Y9 (if k = 9 then 1 else ks.length) ks with
  | none => exact red_ne0 k ty fr lb ks
  | some p =>
   obtain ⟨us, c, l⟩ := p
   have := stpL_ne0 ks ih _ us c l hL
   simp only
   by_cases hc : c = 1
   ·rw [if_pos hc]; simp
   ·rw [if_neg hc]; exact this
 red_ne0 (k : Int) (ty fr : Ty) (lb : Int) (ks : List Tm) : (O2 k ty fr lb ks).2.1 ≠ 0 := by
  unfold O2 P5
  repeat' split
  all_goals simp
 stpL_ne0 (ks : List Tm) (ih : ∀ t ∈ ks, (I6 t).2.1 ≠ 0) : ∀ (n : Nat) us c l, Y9 n ks = some (us, c, l) → c ≠ 0 := by
  induction ks with
  | nil => intro n us c l h; cases n <;> simp [Y9] at h
  | cons t ts iht =>
   intro n us c l h
   cases n with
   | zero => simp [Y9] at h
   | succ n =>
    rw [A4Q] at h
    by_cases hv : F0 t = true
    ·rw [if_pos hv] at h
     split at h
     ·rename_i us' c' l' h'
      simp only [Option.some.injEq, Prod.mk.injEq] at h
      obtain ⟨_, rfl, _⟩ := h
      exact iht (fun u hu => ih u (List.mem_cons_of_mem _ hu)) n _ _ _ h'
     ·cases h
    ·rw [if_neg hv] at h
     simp only [Option.some.injEq, Prod.mk.injEq] at h
     obtain ⟨_, rfl, _⟩ := h
     exact ih t List.mem_cons_self
theorem B0a {e : Tm} {fuel : Int} (h : (R6 e fuel).2.1 = 0) : M2 (R6 e fuel).1 = true ∧ F0 (R6 e fuel).1 = true ∧ (R6 e fuel).2.2 = 0 := by
 cases hf : P1 fuel 0 300 with
 | false => rw [A6o hf] at h; simp at h
 | true =>
  by_cases h1 : (O4 fuel.toNat e).2.1 = 1
  ·rw [A9F hf h1] at h; simp at h
  ·rw [A9G hf h1] at h ⊢; exact A99 _ _ h
theorem B0b {Q : Prop} (h : Q := by (obtain rfl : c = 0 := (by omega); subst he3; exact ⟨rfl, by rw [hyv rfl]⟩)) : Q := h
theorem B4T (e : Tm) (fuel : Int) (G : IM) (cells : List Value) (hT : A07 G) (hr : B0 G e cells) : Fn Tryz.prog 23 [.agg ⟨cells⟩, .int .i64 fuel] [] G (A97 (R8 e fuel) G) := by
 have hRl := hr.len
 have hRo := hr.one
 have hno := @A98 e fuel
 have hyv := fun u t => @A6A e u t fuel
 have hyn := fun u t => @A6B e u t fuel
 refine C3 Tryz.func23 rfl Tryz.ntmps23 Tryz.results23 rfl ?_
 intro w0
 refine A3 ?_
 refine sE (C8 rfl rfl) rfl (fun b3 => ?_)
 refine B2 ?_
 refine sL (A2 rfl rfl (B3 (by repeat first | exact mH | apply mT)) hRl) rfl rfl ?_
 focus (refine E7 rfl (A96 e G cells hr) rfl rfl (fun v G1 hle1 hh => ?_); obtain ⟨cu, ct, rfl, hru, hrt⟩ := hh; rcases hI : R7 e with _ | ⟨u, t⟩; rotate_left; rw [hI] at hru hrt; simp only [Option.getD_some] at hru hrt; rotate_left; rw [hI] at hru hrt; simp only [Option.getD_none] at hru hrt; simp only [Option.isSome]; rotate_left; simp only [Option.isSome]; rotate_left; all_goals (have hul := hru.len; have huo := hru.one; obtain ⟨p3, c3, e3, rfl, _⟩ := hrt.open))
 refine B1 ?_
 refine sE (A6 rfl) rfl (fun b17 => ?_)
 refine sE (A6 rfl) rfl (fun b18 => ?_)
 refine sS rfl rfl rfl hul huo rfl ?_ (hu := by exact D6 hul.symm)
 refine A0r ?_
 refine C9 (rT rfl) (rT rfl) (rT rfl) ?_
 (exact ⟨rfl, by rw [hno (by first | exact hI | rfl | assumption)]⟩)
 refine B1 ?_
 refine sE (A6 rfl) rfl (fun b47 => ?_)
 refine sE (A6 rfl) rfl (fun b48 => ?_)
 refine sS rfl rfl rfl hul huo rfl ?_ (hu := by exact D6 hul.symm)
 refine J9 ?_
 refine sL (A2 rfl rfl (B3 (by repeat first | exact mH | apply mT)) hul) rfl rfl ?_
 refine E6 ?_
 (have hyv := hyv u t hI; have hyn := hyn u t hI; have hev := @B0a u fuel; refine E7 rfl (B4p u fuel G1 cu hru) rfl rfl (fun v G2 hle2 hh => ?_); obtain ⟨wc, hvv, hrw⟩ := hh; have hwl := hrw.len; have hwo := hrw.one; generalize R6 u fuel = r at hvv hrw hyv hyn hev; obtain ⟨w, c, l⟩ := r; simp only at hvv hrw hyv hyn hev; subst hvv)
 refine B1 ?_
 refine sE (A6 rfl) rfl (fun b73 => ?_)
 refine sS rfl rfl rfl hwl hwo rfl ?_ (hu := by exact D6 hwl.symm)
 refine D4 ?_
 refine sB (N9 rfl rfl) rfl rfl (fun h83 => ?_) (fun h83 => ?_)
 refine J3 ?_
 refine C9 (rT rfl) (rT rfl) (rT rfl) ?_
 (exact ⟨rfl, by rw [hyn (by omega)]⟩)
 refine B2 ?_
 refine sL (A2 rfl rfl (B3 (by repeat first | exact mH | apply mT)) hwl) rfl rfl ?_
 (obtain ⟨he1, he2, he3⟩ := hev (by omega); refine H6 rfl (B4N w G2 wc (hT.mono (hle1.trans hle2)) (A0X he1).1 he2 hrw) rfl rfl ?_)
 refine D4 ?_
 refine C9 (rT rfl) (rT rfl) (rT rfl) ?_
 exact B0b
def Q9 (o : Option Ty) (G : IM) : IM → Value → List A5 → Prop := L8 fun G' v => ∃ t cells, v = .tuple ⟨[.agg ⟨cells⟩, .bool o.isSome]⟩ ∧ B9 G' t cells ∧ E5 t ∧ ∀ u, o = some u → u = t
theorem Q9.yes {G G' : IM} {o : Option Ty} {t : Ty} {cells : List Value} (h : o = some t) (hr : B9 G' t cells) (ha : E5 t) : Q9 o G G' (.tuple ⟨[.agg ⟨cells⟩, .bool true]⟩) [] := by
 subst h; exact ⟨rfl, t, cells, rfl, hr, ha, fun u h => (by cases h; rfl)⟩
theorem Q9.no {G G' : IM} {o : Option Ty} {t : Ty} {cells : List Value} (h : o = none) (hr : B9 G' t cells) (ha : E5 t) : Q9 o G G' (.tuple ⟨[.agg ⟨cells⟩, .bool false]⟩) [] := by
 subst h; exact ⟨rfl, t, cells, rfl, hr, ha, fun u h => (by cases h)⟩
theorem Q9.mk {G G' : IM} {o : Option Ty} {b : Bool} {t : Ty} {cells : List Value} (h : o = if b = true then some t else none) (hr : B9 G' t cells) (ha : E5 t) : Q9 o G G' (.tuple ⟨[.agg ⟨cells⟩, .bool b]⟩) [] := by
 cases b
 ·exact Q9.no h hr ha
 ·exact Q9.yes h hr ha
theorem A6C {t : Ty} (h : E9 t = true) : E5 t := (A3D h).1
theorem A2t (k : Int) (a b : Ty) (G : IM) (ca cb : List Value) (hk : k = 4 ∨ k = 5) (ha : E5 a) (hb : E5 b) (hra : B9 G a ca) (hrb : B9 G b cb) :
  Fn Tryz.prog 189 [.int .i64 k, .agg ⟨ca⟩, .agg ⟨cb⟩] [] G (L8 fun G' v => ∃ cells, v = .tuple ⟨[.agg ⟨cells⟩, .bool (E9 (.mk k [a, b]))]⟩ ∧ B9 G' (.mk k [a, b]) cells) := by
 obtain ⟨ak, aks⟩ := a
 obtain ⟨bk, bks⟩ := b
 obtain ⟨pa, cca, ea, rfl, _⟩ := hra.open
 obtain ⟨pb, ccb, eb, rfl, _⟩ := hrb.open
 have hki : E8 k := ⟨by omega, by omega⟩
 refine C3 Tryz.func189 rfl Tryz.ntmps189 Tryz.results189 rfl ?_
 intro w0
 refine A3 ?_
 refine sE (C8 rfl rfl) rfl (fun b3 => ?_)
 refine sE (C8 rfl rfl) rfl (fun b4 => ?_)
 refine sE (A6 rfl) rfl (fun b5 => ?_)
 refine B1 ?_
 refine D7 D8 rfl ?_
 refine I9 (i := 0) (l' := [tt,ff,ff,ff,ff,ff,ff,ff,ff]) rfl D1 (qM rfl) rfl (by kernel_rfl) rfl rfl ?_
 refine aL 1 rfl (A4 rfl rfl) rfl ?_
 refine aL 3 rfl (A4 rfl rfl) rfl ?_
 refine Q2 (j := 2) (j' := 7) (by kernel_rfl) ?_ ?_
 (refine H0 rfl rfl (O9 _ G _ ha.small hra) rfl rfl rfl (fun v G1 hle1 hh => ?_); obtain ⟨cs1, F1, rfl, hs1, hn1⟩ := hh; obtain ⟨p1, c1, rfl, _⟩ := hs1.open; have hC2 := O9 _ G1 _ hb.small (hrb.mono hle1))
 refine Q2 (j := 4) (j' := 7) (by kernel_rfl) ?_ ?_
 (refine H0 rfl rfl hC2 rfl rfl rfl (fun v G2 hle2 hh => ?_); obtain ⟨cs2, F2, rfl, hs2, hn2⟩ := hh; obtain ⟨p2, c2, rfl, _⟩ := hs2.open; have hr1 := hs1.R.mono ((C5.le G1 G).trans hle2); have hr2 := hs2.R.mono (C5.le G2 G1))
 refine Q2 (j := 5) (j' := 7) (by kernel_rfl) ?_ ?_
 (refine E3 rfl (C7 rfl rfl rfl (by omega) (by unfold maxLen; omega) rfl) rfl rfl ?_; rintro _ ⟨b19, rfl⟩)
 refine aP 6 rfl (V6 rfl rfl) rfl ?_
 refine A1 7 ?_
 (refine E3 rfl (A6 rfl) rfl rfl ?_; rintro _ ⟨b22, rfl⟩)
 refine A1 8 ?_
 refine H1 rfl ?_
 refine B6 ?_
 (have hr1' := hr1; refine A1I (by repeat (first | exact Pk.here | apply Pk.there)) (fun G5 hle5 hsl5 hno5 => ?_); have hRT : B9 G5 (.mk k [.mk ak aks, .mk bk bks]) _ := D2.ty (ts := [.mk ak aks, .mk bk bks]) (es := [[.int .i64 ak, .slice p1 aks.length c1], [.int .i64 bk, .slice p2 bks.length c2]]) ⟨_, _, rfl, hr1.mono hle5, _, _, rfl, hr2.mono hle5, rfl⟩ rfl hsl5 hki; have hV := A1x _ G5 _ hRT; refine D7 D8 rfl ?_)
 refine K7 (i := 0) (l' := [tt,ff,ff,ff,ff]) rfl D1 (A4 rfl rfl) rfl (by kernel_rfl) rfl rfl ?_
 refine aL 1 rfl (A4 rfl rfl) rfl ?_
 refine A1 2 ?_
 refine M8 rfl rfl (hV) rfl rfl rfl ?_
 refine A1 3 ?_
 refine H1 rfl ?_
 refine aP 4 rfl (qA rfl) rfl ?_
 refine B6 ?_
 refine I1 (rC rfl (A4 rfl rfl)) (rT rfl) ?_
 (exact ⟨rfl, _, rfl, hRT⟩)
 (refine E3 rfl (A6 rfl) rfl rfl ?_; rintro _ ⟨b41, rfl⟩)
 refine A1 5 ?_
 (refine E3 rfl (C7 rfl rfl rfl (by omega) (by unfold maxLen; omega) rfl) rfl rfl ?_; rintro _ ⟨b43, rfl⟩)
 refine aP 6 rfl (V6 rfl rfl) rfl ?_
 refine A1 8 ?_
 refine H1 rfl ?_
 refine B6 ?_
 (have hr1' := hr1; refine A1I (by repeat (first | exact Pk.here | apply Pk.there)) (fun G5 hle5 hsl5 hno5 => ?_); have hRT : B9 G5 (.mk k [.mk ak aks, .mk bk bks]) _ := D2.ty (ts := [.mk ak aks, .mk bk bks]) (es := [[.int .i64 ak, .slice p1 aks.length c1], [.int .i64 bk, .slice p2 bks.length c2]]) ⟨_, _, rfl, hr1.mono hle5, _, _, rfl, hr2.mono hle5, rfl⟩ rfl hsl5 hki; have hV := A1x _ G5 _ hRT; refine D7 D8 rfl ?_)
 refine K7 (i := 0) (l' := [tt,ff,ff,ff,ff]) rfl D1 (A4 rfl rfl) rfl (by kernel_rfl) rfl rfl ?_
 refine aL 1 rfl (A4 rfl rfl) rfl ?_
 refine A1 2 ?_
 refine M8 rfl rfl (hV) rfl rfl rfl ?_
 refine A1 3 ?_
 refine H1 rfl ?_
 refine aP 4 rfl (qA rfl) rfl ?_
 refine B6 ?_
 refine I1 (rC rfl (A4 rfl rfl)) (rT rfl) ?_
 (exact ⟨rfl, _, rfl, hRT⟩)
 (refine E3 rfl (A6 rfl) rfl rfl ?_; rintro _ ⟨b63, rfl⟩)
 refine A1 4 ?_
 (refine H0 rfl rfl hC2 rfl rfl rfl (fun v G2 hle2 hh => ?_); obtain ⟨cs2, F2, rfl, hs2, hn2⟩ := hh; obtain ⟨p2, c2, rfl, _⟩ := hs2.open; have hr1 := hs1.R.mono ((C5.le G1 G).trans hle2); have hr2 := hs2.R.mono (C5.le G2 G1))
 refine A1 5 ?_
 (refine E3 rfl (C7 rfl rfl rfl (by omega) (by unfold maxLen; omega) rfl) rfl rfl ?_; rintro _ ⟨b67, rfl⟩)
 refine aP 6 rfl (V6 rfl rfl) rfl ?_
 refine A1 8 ?_
 refine H1 rfl ?_
 refine B6 ?_
 (have hr1' := hr1; refine A1I (by repeat (first | exact Pk.here | apply Pk.there)) (fun G5 hle5 hsl5 hno5 => ?_); have hRT : B9 G5 (.mk k [.mk ak aks, .mk bk bks]) _ := D2.ty (ts := [.mk ak aks, .mk bk bks]) (es := [[.int .i64 ak, .slice p1 aks.length c1], [.int .i64 bk, .slice p2 bks.length c2]]) ⟨_, _, rfl, hr1.mono hle5, _, _, rfl, hr2.mono hle5, rfl⟩ rfl hsl5 hki; have hV := A1x _ G5 _ hRT; refine D7 D8 rfl ?_)
 refine K7 (i := 0) (l' := [tt,ff,ff,ff,ff]) rfl D1 (A4 rfl rfl) rfl (by kernel_rfl) rfl rfl ?_
 refine aL 1 rfl (A4 rfl rfl) rfl ?_
 refine A1 2 ?_
 refine M8 rfl rfl (hV) rfl rfl rfl ?_
 refine A1 3 ?_
 refine H1 rfl ?_
 refine aP 4 rfl (qA rfl) rfl ?_
 refine B6 ?_
 refine I1 (rC rfl (A4 rfl rfl)) (rT rfl) ?_
 (exact ⟨rfl, _, rfl, hRT⟩)
 (refine E3 rfl (A6 rfl) rfl rfl ?_; rintro _ ⟨b87, rfl⟩)
 refine A1 2 ?_
 (refine H0 rfl rfl (O9 _ G _ ha.small hra) rfl rfl rfl (fun v G1 hle1 hh => ?_); obtain ⟨cs1, F1, rfl, hs1, hn1⟩ := hh; obtain ⟨p1, c1, rfl, _⟩ := hs1.open; have hC2 := O9 _ G1 _ hb.small (hrb.mono hle1))
 refine A1 4 ?_
 (refine H0 rfl rfl hC2 rfl rfl rfl (fun v G2 hle2 hh => ?_); obtain ⟨cs2, F2, rfl, hs2, hn2⟩ := hh; obtain ⟨p2, c2, rfl, _⟩ := hs2.open; have hr1 := hs1.R.mono ((C5.le G1 G).trans hle2); have hr2 := hs2.R.mono (C5.le G2 G1))
 refine A1 5 ?_
 (refine E3 rfl (C7 rfl rfl rfl (by omega) (by unfold maxLen; omega) rfl) rfl rfl ?_; rintro _ ⟨b93, rfl⟩)
 refine aP 6 rfl (V6 rfl rfl) rfl ?_
 refine A1 8 ?_
 refine H1 rfl ?_
 refine B6 ?_
 (have hr1' := hr1; refine A1I (by repeat (first | exact Pk.here | apply Pk.there)) (fun G5 hle5 hsl5 hno5 => ?_); have hRT : B9 G5 (.mk k [.mk ak aks, .mk bk bks]) _ := D2.ty (ts := [.mk ak aks, .mk bk bks]) (es := [[.int .i64 ak, .slice p1 aks.length c1], [.int .i64 bk, .slice p2 bks.length c2]]) ⟨_, _, rfl, hr1.mono hle5, _, _, rfl, hr2.mono hle5, rfl⟩ rfl hsl5 hki; have hV := A1x _ G5 _ hRT; refine D7 D8 rfl ?_)
 refine K7 (i := 0) (l' := [tt,ff,ff,ff,ff]) rfl D1 (A4 rfl rfl) rfl (by kernel_rfl) rfl rfl ?_
 refine aL 1 rfl (A4 rfl rfl) rfl ?_
 refine A1 2 ?_
 refine M8 rfl rfl (hV) rfl rfl rfl ?_
 refine A1 3 ?_
 refine H1 rfl ?_
 refine aP 4 rfl (qA rfl) rfl ?_
 refine B6 ?_
 refine I1 (rC rfl (A4 rfl rfl)) (rT rfl) ?_
 (exact ⟨rfl, _, rfl, hRT⟩)
theorem A23 (k : Int) (t : Ty) (G : IM) (cells : List Value) (hk : k = 4 ∨ k = 5) (ha : E5 t) (hr : B9 G t cells) :
  Fn Tryz.prog 191 [.int .i64 k, .agg ⟨cells⟩] [] G (A8T k t G) := by
 obtain ⟨tk, ks⟩ := t
 have ha2 := ha
 rw [E5] at ha2
 have hkid := ha.kid
 obtain ⟨p, c, es, rfl, htk, hsl, hkl⟩ := hr.open
 simp only [Ty.k, Ty.ks] at htk hsl hkl ⊢
 refine C3 Tryz.func191 rfl Tryz.ntmps191 Tryz.results191 rfl ?_
 intro w0
 refine A3 ?_
 refine sE (C8 rfl rfl) rfl (fun b3 => ?_)
 refine sE (A6 rfl) rfl (fun b4 => ?_)
 refine sE (A6 rfl) rfl (fun b5 => ?_)
 refine D4 ?_
 refine sB (qE rfl rfl) rfl rfl (fun h14 => ?_) (fun h14 => ?_)
 refine A9 ?_
 refine H6 rfl ((A1A _)) rfl rfl ?_
 refine H6 rfl ((A1A _)) rfl rfl ?_
 refine B2 ?_
 refine C9 (rC rfl (A4 rfl rfl)) (rC rfl (A4 rfl rfl)) (rT rfl) ?_
 (refine ⟨rfl, _, _, _, _, ?_, A0u _, A0u _, A3u, A3u, ?_⟩ <;> rw [A0Y, if_neg (by omega), if_pos (by omega)] <;> first | rfl | (intro p hp; cases hp; rfl))
 refine J4 ?_
 refine sB (N9 rfl rfl) rfl rfl (fun h42 => ?_) (fun h42 => ?_)
 refine J3 ?_
 refine C9 (rC rfl (A4 rfl rfl)) (rC rfl (A4 rfl rfl)) (rT rfl) ?_
 (refine ⟨rfl, B7, _, B7, _, ?_, O0 _ ⟨by omega, by omega⟩, O0 _ ⟨by omega, by omega⟩, V3 (by omega) (by omega), V3 (by omega) (by omega), ?_⟩ <;> rw [A0Y, if_neg (by omega), if_neg (by omega)] <;> first | rfl | (intro p hp; cases hp))
 refine A8 ?_
 (have hlen : ks.length = 2 := ha2.1 (by omega); obtain ⟨b, o, q0, d0, hp0, hat0, hre0, hg0⟩ := hsl.kidTy hkl (i := 0) (by omega) (by omega); obtain ⟨b', o', q1, d1, hp1, hat1, hre1, hg1⟩ := hsl.kidTy hkl (i := 1) (by omega) (by omega); subst hp0; cases hp1; have hC1 := O9 _ G _ (hkid _ (List.getElem_mem (by omega))).small hre0; refine D7 D8 rfl ?_)
 refine I9 (i := 0) (l' := [tt,ff,ff,ff,ff,ff,ff,ff,ff,ff,ff,ff,ff]) rfl D1 (B5 rfl) rfl (by kernel_rfl) rfl rfl ?_
 refine aL 1 rfl (C4 rfl rfl) rfl ?_
 refine aP 2 rfl (B4 (j := 0) rfl rfl rfl (by omega)) rfl ?_
 refine aL 3 rfl (A2 rfl rfl (hat0 _) rfl) rfl ?_
 refine aP 5 rfl (B5 rfl) rfl ?_
 refine aL 6 rfl (C4 rfl rfl) rfl ?_
 refine aP 7 rfl (B4 (j := 1) rfl rfl rfl (by omega)) rfl ?_
 refine aL 8 rfl (A2 rfl rfl (hat1 _) rfl) rfl ?_
 refine A1 4 ?_
 (refine H0 rfl rfl hC1 rfl rfl rfl (fun v G1 hle1 hh => ?_); obtain ⟨cs1, F1, rfl, hs1, hn1⟩ := hh; obtain ⟨p1, c1, rfl, _⟩ := hs1.open; have hC2 := O9 _ G1 _ (hkid _ (List.getElem_mem (by omega))).small (hre1.mono hle1))
 refine A1 9 ?_
 (refine H0 rfl rfl hC2 rfl rfl rfl (fun v G2 hle2 hh => ?_); obtain ⟨cs2, F2, rfl, hs2, hn2⟩ := hh; obtain ⟨p2, c2, rfl, _⟩ := hs2.open; have hr1 := hs1.R.mono ((C5.le G1 G).trans hle2); have hr2 := hs2.R.mono (C5.le G2 G1))
 refine A1 10 ?_
 refine H1 rfl ?_
 refine A1 11 ?_
 refine Q8 rfl rfl rfl rfl rfl rfl rfl rfl (by decide +kernel) (by repeat first | exact Sw.here | apply Sw.there) (by rfl) ?_
 refine aP 12 rfl (qA rfl) rfl ?_
 refine B6 ?_
 refine C9 (rC rfl (A4 rfl rfl)) (rC rfl (A4 rfl rfl)) (rT rfl) ?_
 (refine ⟨rfl, _, _, _, _, ?_, hr1, hr2, hkid _ (List.getElem_mem (by omega)), hkid _ (List.getElem_mem (by omega)), ?_⟩ <;> rw [A0Y, if_pos (by omega)] <;> first | rfl | (intro p hp; cases hp; simp [hlen]))
theorem B4U (G : IM) (cx : Cx) (hv : X9 cx) (p : Option Addr) (n c : Nat) (nm : ByteArray) (hx : S3 G cx p n c) :
  Fn Tryz.prog 162 [.slice p n c, .string nm] [] G (Q9 (O8 cx nm) G) := by
 have hn := hx.le
 refine C3 Tryz.func162 rfl Tryz.ntmps162 Tryz.results162 rfl ?_
 intro w0
 refine A3 ?_
 refine sE (A6 rfl) rfl (fun b3 => ?_)
 refine D4 ?_
 refine sP (O5 rfl rfl (by omega) (by omega)) rfl rfl ?_
 refine B6 ?_
 refine C1 ?_
 (refine J8 (fun (i : Nat) => ⟨[(6, .int .i64 ((i : Int) - 1)), (0, .slice p n c), (1, .string nm), (4, .pointer (some ⟨b3, 0, none⟩))], [.blk b3 [.int .i64 0, .slice none 0 0]], G⟩) (fun i => i ≤ n ∧ O8 cx nm = U9 cx nm i) (fun i => i) n ?_ ?_ ?_)
 exact E2
 (exact ⟨Nat.le_refl _, by unfold O8; rw [hx.1]⟩)
 (rintro i ⟨hi, hlk⟩)
 refine B1 ?_
 refine sB (A0L rfl rfl) rfl rfl (fun h25 => ?_) (fun h25 => ?_)
 refine A8 ?_
 (show I4 _ _ (.block 1 _) _ _; obtain ⟨j, rfl⟩ : ∃ j, i = j + 1 := ⟨i - 1, by omega⟩; rw [show ((j + 1 : Nat) : Int) - 1 = (j : Int) from by omega]; obtain ⟨b, o, nm1, t1, q1, d1, hcx, rfl, hat, hr1, hgb⟩ := hx.get (i := j) (by omega); have ha1 := A6C (hv _ (List.mem_of_getElem? hcx)); refine C1 ?_)
 refine B1 ?_
 refine sP (B4 rfl rfl rfl (by omega)) rfl rfl ?_
 refine E6 ?_
 refine sL (A0p rfl rfl ((hat _).sub (j := 0) rfl)) rfl rfl ?_
 refine E6 ?_
 refine sB (A04 rfl rfl) rfl rfl (fun h41 => ?_) (fun h41 => ?_)
 refine B2 ?_
 refine sP (B4 rfl rfl rfl (by omega)) rfl rfl ?_
 refine E6 ?_
 refine sL (A2 rfl rfl (hat _).drop rfl) rfl rfl ?_
 (refine E7 rfl (O9 _ G _ ha1.small hr1) rfl rfl (fun v G1 hle1 hh => ?_); obtain ⟨cs1, F1, rfl, hs1', hn1⟩ := hh; obtain ⟨p1, c1, rfl, _⟩ := hs1'.open; have hrr := hs1'.R.mono (C5.le G1 G))
 refine J2 ?_
 refine I1 (rC rfl (A4 rfl rfl)) (rT rfl) ?_
 (exact Q9.yes (by rw [hlk]; exact A3y hcx (by assumption)) hrr ha1)
 refine D4 ?_
 refine sP (O5 rfl rfl (by omega) (by omega)) rfl rfl ?_
 refine A3 ?_
 refine J6 j ?_ ?_ ?_
 exact E2
 (exact ⟨by omega, by rw [hlk]; exact A3z hcx (by assumption)⟩)
 (show _ < _ + 1; omega)
 refine J9 ?_
 refine I1 (rC rfl (A4 rfl rfl)) (rT rfl) ?_
 (obtain rfl : i = 0 := (by omega); exact Q9.no (by rw [hlk]; rfl) (O0 _ ⟨by omega, by omega⟩) (V3 (by omega) (by omega)))
theorem A4Y : ∀ (xs ys : List Ty), xs.length = ys.length → (T4 xs ys).length = xs.length
 | [], [], _ => rfl
 | a :: xs, b :: ys, h => by simp only [T4, List.length_cons]; rw [A4Y xs ys (by simpa using h)]
 | [], b :: ys, h => by simp at h
 | a :: xs, [], h => by simp at h
theorem A6D : ∀ (xs ys : List Ty) (i : Nat) (h : i < xs.length) (h' : i < ys.length) (hl : i < (T4 xs ys).length), (T4 xs ys)[i] = U4 xs[i] ys[i]
 | [], _, i, h, _, _ => by simp at h
 | a :: xs, [], i, _, h', _ => by simp at h'
 | a :: xs, b :: ys, 0, _, _, _ => by simp [T4]
 | a :: xs, b :: ys, i + 1, h, h', hl => by
  simp only [T4, List.getElem_cons_succ]
  exact A6D xs ys i (by simpa using h) (by simpa using h') _
theorem B4V {xs ys : List Ty} {i : Nat} (hl : xs.length = ys.length) (h : i < xs.length) : (T4 xs ys).take (i + 1) = (T4 xs ys).take i ++ [U4 xs[i] (ys[i]'(by omega))] := by
 rw [List.take_succ_eq_append_getElem (by rw [A4Y _ _ hl]; exact h), A6D _ _ i h (by omega)]
theorem B4W : ∀ (a b : Ty) (G : IM) (ca cb : List Value), K1 a b = true → E5 a → E5 b → B9 G a ca → B9 G b cb → Fn Tryz.prog 221 [.agg ⟨ca⟩, .agg ⟨cb⟩] [] G (L8 fun G' v => ∃ cells, v = .agg ⟨cells⟩ ∧ B9 G' (U4 a b) cells) := by
 refine Ty.ind fun ak aks ih b G ca cb hc ha hb hra hrb => ?_
 obtain ⟨bk, bks⟩ := b
 have hka := ha.kid
 have hkb := hb.kid
 have hca := O9 _ G _ ha.small hra
 have hcb := O9 _ G _ hb.small hrb
 have hcc : ak ≠ 1 → bk ≠ 1 → aks.length = bks.length ∧ ∀ i, (h : i < aks.length) → (h' : i < bks.length) → K1 aks[i] bks[i] = true := by
  intro h1 h2
  rw [Y4, decide_eq_false h1, decide_eq_false h2] at hc
  simp only [Bool.false_or, Bool.and_eq_true, decide_eq_true_eq] at hc
  exact (A17 _ _).1 hc.2
 rw [A2J]
 obtain ⟨pa, cca, ea, rfl, hak, hsla, hkla⟩ := hra.open
 obtain ⟨pb, ccb, eb, rfl, hbk, hslb, hklb⟩ := hrb.open
 simp only [Ty.k, Ty.ks] at hak hsla hkla hbk hslb hklb ⊢
 have hna := hsla.le
 have hnb := hslb.le
 have hl2 := ha.two
 refine C3 Tryz.func221 rfl Tryz.ntmps221 Tryz.results221 rfl ?_
 intro w0
 refine A3 ?_
 refine sE (C8 rfl rfl) rfl (fun b3 => ?_)
 refine sE (C8 rfl rfl) rfl (fun b4 => ?_)
 refine sE (A6 rfl) rfl (fun b5 => ?_)
 refine B2 ?_
 refine sB (qE rfl rfl) rfl rfl (fun h13 => ?_) (fun h13 => ?_)
 refine A8 ?_
 (refine E7 rfl (by first | exact hcb | exact hca) rfl rfl (fun v G1 hle1 hh => ?_); obtain ⟨cs1, F1, rfl, hs1, hn1⟩ := hh; obtain ⟨p1, c1, rfl, _⟩ := hs1.open; have hr1 := hs1.R.mono (C5.le G1 G))
 refine A9 ?_
 refine M7 (rC rfl (A4 rfl rfl)) ?_
 (rw [if_pos (by omega)]; exact ⟨rfl, _, rfl, hr1⟩)
 refine J2 ?_
 refine sB (qE rfl rfl) rfl rfl (fun h38 => ?_) (fun h38 => ?_)
 refine A8 ?_
 (refine E7 rfl (by first | exact hcb | exact hca) rfl rfl (fun v G1 hle1 hh => ?_); obtain ⟨cs1, F1, rfl, hs1, hn1⟩ := hh; obtain ⟨p1, c1, rfl, _⟩ := hs1.open; have hr1 := hs1.R.mono (C5.le G1 G))
 refine A9 ?_
 refine M7 (rC rfl (A4 rfl rfl)) ?_
 (rw [if_neg (by omega), if_pos (by omega)]; exact ⟨rfl, _, rfl, hr1⟩)
 refine J2 ?_
 refine sE (A6 rfl) rfl (fun b63 => ?_)
 refine E0 ?_
 refine C1 ?_
 (obtain ⟨hlab, hcab⟩ := hcc (by omega) (by omega); refine S0 34 2 ?_; refine J8 (fun (x : Nat × Option Addr × Nat × List Ty × List (List Value) × IM) => ⟨[(6, .int .i64 x.1), (5, .pointer (some ⟨b63, 0, none⟩)), (4, .pointer (some ⟨b5, 0, none⟩)), (2, .pointer (some ⟨b3, 0, none⟩)), (3, .pointer (some ⟨b4, 0, none⟩))], [.blk b63 [.int .i64 ak, .slice x.2.1 x.1 x.2.2.1], .slc x.2.1 x.2.2.1 34 2 x.1 x.2.2.2.2.1.flatten, .blk b5 [.int .i64 0, .slice none 0 0], .blk b4 [.int .i64 bk, .slice pb bks.length ccb], .blk b3 [.int .i64 ak, .slice pa aks.length cca]], x.2.2.2.2.2⟩) (fun x => x.1 ≤ aks.length ∧ C0 G x.2.2.2.2.2 ∧ x.2.2.2.1.length = x.1 ∧ D2 x.2.2.2.2.2 x.2.2.2.1 x.2.2.2.2.1 ∧ x.2.2.2.1 = (T4 aks bks).take x.1) (fun x => aks.length - x.1) (0, none, 0, [], [], G) ?_ ?_ ?_)
 (simp only [I5]; exact E2)
 (exact ⟨by simp, C0.refl _, rfl, by simp [D2], rfl⟩)
 (rintro ⟨i, pn, cn, us, es', Gi⟩ ⟨hi, hle, hlu, hst, hus⟩; simp only [] at hi hle hlu hst hus ⊢; replace hsla := hsla.mono hle; replace hkla := hkla.mono hle; replace hslb := hslb.mono hle; replace hklb := hklb.mono hle)
 refine B2 ?_
 refine sB (J1 rfl rfl) rfl rfl (fun h85 => ?_) (fun h85 => ?_)
 refine A8 ?_
 refine C1 ?_
 (obtain ⟨b, o, q0, d0, hp0, hat0, hre0, hg0⟩ := hsla.kidTy hkla (i := i) (by omega) (by omega); obtain ⟨b', o', q1, d1, hp1, hat1, hre1, hg1⟩ := hslb.kidTy hklb (i := i) (by omega) (by omega); subst hp0; subst hp1; have hih := ih aks[i] (List.getElem_mem (by omega)) bks[i] Gi _ _ (hcab i (by omega) (by omega)) (hka _ (List.getElem_mem (by omega))) (hkb _ (List.getElem_mem (by omega))) hre0 hre1; refine D7 D8 rfl ?_)
 refine I9 (i := 0) (l' := [tt,ff,ff,ff,ff,ff,ff,ff,ff,ff,ff,ff,ff,ff,ff,ff,ff]) rfl D1 (B5 rfl) rfl (by kernel_rfl) rfl rfl ?_
 refine aL 1 rfl (C4 rfl rfl) rfl ?_
 refine aP 2 rfl (B5 rfl) rfl ?_
 refine aL 3 rfl (C4 rfl rfl) rfl ?_
 refine aP 4 rfl (qM rfl) rfl ?_
 refine aP 5 rfl (B4 rfl rfl rfl (by omega)) rfl ?_
 refine aL 6 rfl (A2 rfl rfl (hat0 _) rfl) rfl ?_
 refine aP 7 rfl (B5 rfl) rfl ?_
 refine aL 8 rfl (C4 rfl rfl) rfl ?_
 refine aP 9 rfl (qM rfl) rfl ?_
 refine aP 10 rfl (B4 rfl rfl rfl (by omega)) rfl ?_
 refine aL 11 rfl (A2 rfl rfl (hat1 _) rfl) rfl ?_
 refine A1 12 ?_
 (refine H0 rfl rfl hih rfl rfl rfl (fun v G1 hle1 hh => ?_); obtain ⟨cells', rfl, hru⟩ := hh; generalize hu : U4 aks[i] bks[i] = u at hru; obtain ⟨p3, c3, es3, rfl, _⟩ := hru.open)
 refine A1 13 ?_
 (refine E3 rfl (C7 rfl rfl rfl (by omega) (by unfold maxLen; omega) rfl) rfl rfl ?_; rintro _ ⟨b109, rfl⟩)
 refine A1 14 ?_
 refine Q6 rfl rfl rfl rfl rfl rfl (fun _ _ => by repeat (first | exact Sw.here | apply Sw.there)) (M6 (by repeat first | exact mH | apply mT)) rfl (by simp [Value.oneCell']) (by unfold maxLen; omega) (by omega) rfl rfl (by repeat (first | exact A7.nil | apply A7.dep (by decide +kernel) | apply A7.blk (by decide +kernel) (by repeat (first | exact Pk.here | apply Pk.there)) (by repeat first | exact mH | apply mT))) (fun pn' cn' => ?_)
 refine aP 15 rfl (B5 rfl) rfl ?_
 refine A1 16 ?_
 refine Q8 rfl rfl rfl rfl rfl rfl rfl rfl (by decide +kernel) (by repeat first | exact Sw.here | apply Sw.there) (by rfl) ?_
 refine A9 ?_
 refine sP (J0 rfl rfl (by omega) (by omega)) rfl rfl ?_
 refine A3 ?_
 refine J6 (i + 1, pn', cn', us ++ [u], es' ++ [[.int .i64 u.k, .slice p3 u.ks.length c3]], G1) ?_ ?_ ?_
 (simp only [I5]; exact E2)
 (dsimp only; exact ⟨by omega, hle.trans hle1, by simp [hlu], D2.snoc (hst.mono hle1) hru, by rw [B4V hlab (by omega), ← hus, hu]⟩)
 (show aks.length - (i + 1) < aks.length - i; omega)
 refine J3 ?_
 (refine F9 (by repeat (first | exact Pk.here | apply Pk.there)) (fun G2 hle2 hsl2 hno2 => ?_); obtain rfl : i = aks.length := (by omega))
 refine tT ?_
 refine M7 (rC rfl (A4 rfl rfl)) ?_
 (rw [List.take_of_length_le (by rw [A4Y _ _ hlab]; omega)] at hus; rw [if_neg (by omega), if_neg (by omega), ← hus]; exact ⟨rfl, _, rfl, (hst.mono hle2).ty hlu hsl2 hak⟩)
theorem gD {ts : List Ty} {i : Nat} (h : i < ts.length) : ts.getD i B7 = ts[i] := by rw [List.getD_eq_getElem?_getD, List.getElem?_eq_getElem h, Option.getD_some]
section
variable {cx : Cx} {k : Int} {nm : ByteArray} {ty : Ty} {ts : List Ty}
theorem B0c (h : 1 < ts.length) : V7 cx 6 nm ty ts = match R0 4 ts[0] with | some (a, b) => if K1 ts[1] a = true then some b else none | none => none := by
 unfold V7 K8
 rw [gD (i := 0) (by omega), gD (i := 1) h]
 simp only [show ¬((6 : Int) = 1) by decide, show ¬((6 : Int) = 2) by decide, show ¬((6 : Int) = 3 ∨ (6 : Int) = 4) by decide, show ¬((6 : Int) = 5) by decide, if_false, if_true]
 cases R0 4 ts[0] with
 | none => rfl
 | some p =>
  obtain ⟨a, b⟩ := p
  by_cases hc : K1 ts[1] a = true
  ·simp [hc]
  ·simp [hc]
theorem B0d (hk : k = 7 ∨ k = 8) (h : 1 < ts.length) : V7 cx k nm ty ts = if K1 ts[0] Q1 = true ∧ K1 ts[1] Q1 = true then some (if k = 8 then T3 else Q1) else none := by
 unfold V7 K8
 rw [gD (i := 0) (by omega), gD (i := 1) h, if_neg (by omega), if_neg (by omega), if_neg (by omega), if_neg (by omega), if_neg (by omega), if_pos hk]
 by_cases hc : K1 ts[0] Q1 = true ∧ K1 ts[1] Q1 = true
 ·rw [if_pos hc, if_pos hc]; simp only; rw [if_neg (by omega)]
 ·rw [if_neg hc, if_neg hc]
theorem B0e (h : 2 < ts.length) : V7 cx 9 nm ty ts = if K1 ts[0] T3 = true ∧ K1 ts[1] ts[2] = true then some (U4 ts[1] ts[2]) else none := by
 unfold V7 K8
 rw [gD (i := 0) (by omega), gD (i := 1) (by omega), gD (i := 2) h, if_neg (by omega), if_neg (by omega), if_neg (by omega), if_neg (by omega), if_neg (by omega), if_neg (by omega), if_pos rfl]
 by_cases hc : K1 ts[0] T3 = true ∧ K1 ts[1] ts[2] = true
 ·rw [if_pos hc, if_pos hc]; simp
 ·rw [if_neg hc, if_neg hc]
theorem B4X (h : 1 < ts.length) : V7 cx 10 nm ty ts = if E9 (.mk 5 [ts[0], ts[1]]) = true then some (.mk 5 [ts[0], ts[1]]) else none := by
 unfold V7 K8
 rw [gD (i := 0) (by omega), gD (i := 1) h, if_neg (by omega), if_neg (by omega), if_neg (by omega), if_neg (by omega), if_neg (by omega), if_neg (by omega), if_neg (by omega), if_pos rfl]
 cases hv : E9 (.mk 5 [ts[0], ts[1]]) <;> simp [hv]
theorem B4Y (h : 0 < ts.length) : V7 cx 13 nm ty ts = if K1 ts[0] ty = true then some ty else none := by
 unfold V7 K8
 rw [gD (i := 0) h, if_neg (by omega), if_neg (by omega), if_neg (by omega), if_neg (by omega), if_neg (by omega), if_neg (by omega), if_neg (by omega), if_neg (by omega), if_pos rfl]
 by_cases hc : K1 ts[0] ty = true
 ·rw [if_pos hc, if_pos hc]; simp
 ·rw [if_neg hc, if_neg hc]
theorem A4Z (hk : k = 11 ∨ k = 12) (h : 0 < ts.length) : V7 cx k nm ty ts = match R0 5 ts[0] with | some (a, b) => some (if k = 12 then b else a) | none => none := by
 unfold V7 K8
 rw [gD (i := 0) h, if_neg (by omega), if_neg (by omega), if_neg (by omega), if_neg (by omega), if_neg (by omega), if_neg (by omega), if_neg (by omega), if_neg (by omega), if_neg (by omega)]
 cases R0 5 ts[0] with
 | none => rfl
 | some p =>
  obtain ⟨a, b⟩ := p
  simp only
  rw [if_neg (by omega)]
end
theorem B4Z : ∀ (a b : Ty), K1 a b = true → E5 a → E5 b → E5 (U4 a b) := by
 refine Ty.ind fun k ks ih b hc ha hb => ?_
 obtain ⟨k', ks'⟩ := b
 rw [A2J]
 split
 ·exact hb
 ·split
  ·exact ha
  ·rw [Y4] at hc
   simp only [Bool.or_eq_true, Bool.and_eq_true, decide_eq_true_eq] at hc
   obtain ⟨hk, hl⟩ : k = k' ∧ P4 ks ks' = true := by
    rcases hc with (h | h) | h
    ·contradiction
    ·contradiction
    ·exact h
   obtain ⟨hll, hcc⟩ := (A17 _ _).1 hl
   have hlen := A4Y ks ks' hll
   refine A8G ha hlen fun u hu => ?_
   obtain ⟨i, hi, rfl⟩ := List.mem_iff_getElem.1 hu
   rw [A6D ks ks' i (by omega) (by omega)]
   exact ih _ (List.getElem_mem _) _ (hcc i (by omega) (by omega)) (ha.kid _ (List.getElem_mem _)) (hb.kid _ (List.getElem_mem _))
theorem B0f {Q : Prop} (h : Q := by (have hk7 : k = 7 := (by omega); exact Q9.mk (by rw [B0d (.inl hk7) (by omega)]; simp_all [Q1]) (O0 _ ⟨by omega, by omega⟩) (V3 (by omega) (by omega)))) : Q := h
theorem B0g {Q : Prop} (h : Q := by (have hk8 : k = 8 := (by omega); exact Q9.mk (by rw [B0d (.inr hk8) (by omega)]; simp_all [Q1, T3]) (O0 _ ⟨by omega, by omega⟩) (V3 (by omega) (by omega)))) : Q := h
theorem B40 (cx : Cx) (k : Int) (nm : ByteArray) (num : Int) (ty fr : Ty) (lb : Int) (ks : List Tm) (ts : List Ty) (G : IM) (cells : List Value) (p : Option Addr) (c : Nat) (es : List (List Value))
  (hops : D9 k = ts.length) (hk6 : 6 ≤ k ∧ k ≤ 13) (hty : E5 ty) (hr : B0 G (.mk k nm num ty fr lb ks) cells) (hsl : D5 G p ts.length c 2 es) (hkl : D2 G ts es) (har : ∀ t ∈ ts, E5 t) :
  Fn Tryz.prog 190 [.agg ⟨cells⟩, .slice p ts.length c] [] G (Q9 (V7 cx k nm ty ts) G) := by
 have hone := hr.one
 have hop := A2Q hops
 have ha0 := fun h : 0 < ts.length => har _ (List.getElem_mem h)
 have ha1 := fun h : 1 < ts.length => har _ (List.getElem_mem h)
 have ha2 := fun h : 2 < ts.length => har _ (List.getElem_mem h)
 obtain ⟨tk, tks⟩ := ty
 obtain ⟨fk, fks⟩ := fr
 obtain ⟨pt, ct, pf, cf, pk, ck, ek, rfl, hk, hnum, hlb, hrty, hrfr, _, _⟩ := hr.open9
 refine C3 Tryz.func190 rfl Tryz.ntmps190 Tryz.results190 rfl ?_
 intro w0
 refine A3 ?_
 refine sE (C8 rfl rfl) rfl (fun b3 => ?_)
 refine sE (A6 rfl) rfl (fun b4 => ?_)
 refine J2 ?_
 refine C1 (tS (tR (sB (qE rfl rfl) rfl rfl (fun h18 => ?_) (fun h18 => ?_))))
 refine B2 ?_
 (have hl2 : ts.length = 2 := hop.1 (by omega); obtain ⟨b0, o0, q0, d0, hp0, hat0, hre0, hg0⟩ := hsl.kidTy hkl (i := 0) (by omega) (by omega); obtain ⟨b1, o1, q1, d1, hp1, hat1, hre1, hg1⟩ := hsl.kidTy hkl (i := 1) (by omega) (by omega); cases hp0; cases hp1; refine sP (B4 (j := 0) rfl rfl rfl (by omega)) rfl rfl ?_)
 refine sL (A2 rfl rfl (hat0 _) rfl) rfl rfl ?_
 focus (refine E7 rfl (A23 4 ts[0] G _ (.inl rfl) (ha0 (by omega)) hre0) rfl rfl (fun v G1 hle1 hh => ?_); obtain ⟨ma, mca, mb, mcb, rfl, hma, hmb, hma2, hmb2, hpp⟩ := hh; obtain ⟨p1, c1, e1, rfl, _⟩ := hma.open; obtain ⟨p2, c2, e2, rfl, _⟩ := hmb.open; replace hsl := hsl.mono hle1; replace hkl := hkl.mono hle1; rcases hm : R0 4 ts[0] with _ | pr; rotate_left; obtain rfl := hpp _ hm; rotate_left; all_goals simp only [Option.isSome])
 refine B1 ?_
 refine sE (A6 rfl) rfl (fun b33 => ?_)
 refine sE (A6 rfl) rfl (fun b34 => ?_)
 refine A8 ?_
 (have hl2 : ts.length = 2 := hop.1 (by omega); obtain ⟨b0, o0, q0, d0, hp0, hat0, hre0, hg0⟩ := hsl.kidTy hkl (i := 0) (by omega) (by omega); obtain ⟨b1, o1, q1, d1, hp1, hat1, hre1, hg1⟩ := hsl.kidTy hkl (i := 1) (by omega) (by omega); cases hp0; cases hp1; refine D7 D8 rfl ?_)
 refine K7 (i := 0) (l' := [tt,ff,ff,ff,ff,ff,ff,ff,ff,ff,ff]) rfl D1 (A4 rfl rfl) rfl (by kernel_rfl) rfl rfl ?_
 refine aP 1 rfl (qM rfl) rfl ?_
 refine aP 2 rfl (qM rfl) rfl ?_
 refine C2 3 rfl rfl rfl ?_
 refine C2 4 rfl rfl rfl ?_
 refine C2 5 rfl rfl rfl ?_
 refine C2 6 rfl rfl rfl ?_
 refine C2 7 rfl rfl rfl ?_
 refine aP 8 rfl (O7 rfl rfl) rfl ?_
 refine A1 9 ?_
 refine H1 rfl ?_
 refine aP 10 rfl (qA rfl) rfl ?_
 refine A9 ?_
 refine I1 (rC rfl (A4 rfl rfl)) (rT rfl) ?_
 (obtain rfl : k = 6 := (by omega); exact Q9.no (by rw [B0c (by omega), hm]) hmb hmb2)
 refine B1 ?_
 refine sE (A6 rfl) rfl (fun b65 => ?_)
 refine sE (A6 rfl) rfl (fun b66 => ?_)
 refine A8 ?_
 (have hl2 : ts.length = 2 := hop.1 (by omega); obtain ⟨b0, o0, q0, d0, hp0, hat0, hre0, hg0⟩ := hsl.kidTy hkl (i := 0) (by omega) (by omega); obtain ⟨b1, o1, q1, d1, hp1, hat1, hre1, hg1⟩ := hsl.kidTy hkl (i := 1) (by omega) (by omega); cases hp0; cases hp1; refine D7 D8 rfl ?_)
 refine K7 (i := 0) (l' := [tt,ff,ff,ff,ff,ff,ff,ff,ff,ff,ff]) rfl D1 (A4 rfl rfl) rfl (by kernel_rfl) rfl rfl ?_
 refine aP 1 rfl (qM rfl) rfl ?_
 refine aP 2 rfl (qM rfl) rfl ?_
 refine aP 3 rfl (qM rfl) rfl ?_
 refine aP 4 rfl (B4 (j := 1) rfl rfl rfl (by omega)) rfl ?_
 refine aL 5 rfl (A2 rfl rfl (hat1 _) rfl) rfl ?_
 refine aL 6 rfl (A4 rfl rfl) rfl ?_
 refine A1 7 ?_
 refine M8 rfl rfl ((A1D ts[1] ma _ _ _ (ha1 (by omega)) hma2 hre1 hma)) rfl rfl rfl ?_
 refine aP 8 rfl (M5 rfl rfl) rfl ?_
 refine A1 9 ?_
 refine H1 rfl ?_
 refine aP 10 rfl (qA rfl) rfl ?_
 refine A9 ?_
 refine I1 (rC rfl (A4 rfl rfl)) (rT rfl) ?_
 (obtain rfl : k = 6 := (by omega); exact Q9.mk (by rw [B0c (by omega), hm]) hmb hmb2)
 refine A8 ?_
 refine sB (qE rfl rfl) rfl rfl (fun h100 => ?_) (fun h100 => ?_)
 refine A9 ?_
 (have hl2 : ts.length = 2 := hop.1 (by omega); obtain ⟨b0, o0, q0, d0, hp0, hat0, hre0, hg0⟩ := hsl.kidTy hkl (i := 0) (by omega) (by omega); obtain ⟨b1, o1, q1, d1, hp1, hat1, hre1, hg1⟩ := hsl.kidTy hkl (i := 1) (by omega) (by omega); cases hp0; cases hp1; refine D7 D8 rfl ?_)
 refine I9 (i := 1) (l' := [ff,tt,ff,ff,ff,ff,ff,ff,ff,ff,ff,ff,ff,ff,ff]) rfl D1 (qM rfl) rfl (by kernel_rfl) rfl rfl ?_
 refine aP 2 rfl (B4 (j := 0) rfl rfl rfl (by omega)) rfl ?_
 refine aL 3 rfl (A2 rfl rfl (hat0 _) rfl) rfl ?_
 refine A1 0 ?_
 refine M8 rfl rfl ((A0k _)) rfl rfl rfl ?_
 refine A1 4 ?_
 refine M8 rfl rfl ((A0k _)) rfl rfl rfl ?_
 refine A1 5 ?_
 refine S6 rfl rfl ((A1D ts[0] (.mk 2 []) _ _ _ (ha0 (by omega)) (V3 (by decide) (by decide)) hre0 (O0 _ ⟨by omega, by omega⟩))) rfl rfl rfl (fun h115 => ?_) (fun h115 => ?_)
 refine aP 6 rfl (qM rfl) rfl ?_
 refine aP 7 rfl (qM rfl) rfl ?_
 refine aP 8 rfl (B4 (j := 1) rfl rfl rfl (by omega)) rfl ?_
 refine aL 9 rfl (A2 rfl rfl (hat1 _) rfl) rfl ?_
 refine A1 10 ?_
 refine M8 rfl rfl ((A0k _)) rfl rfl rfl ?_
 refine A1 11 ?_
 refine M8 rfl rfl ((A1D ts[1] (.mk 2 []) _ _ _ (ha1 (by omega)) (V3 (by decide) (by decide)) hre1 (O0 _ ⟨by omega, by omega⟩))) rfl rfl rfl ?_
 refine aP 12 rfl (M5 rfl rfl) rfl ?_
 refine A1 13 ?_
 refine H1 rfl ?_
 refine aP 14 rfl (qA rfl) rfl ?_
 refine A9 ?_
 refine I1 (rC rfl (A4 rfl rfl)) (rT rfl) ?_
 exact B0f
 refine aP 6 rfl (qM rfl) rfl ?_
 refine C2 7 rfl rfl rfl ?_
 refine C2 8 rfl rfl rfl ?_
 refine C2 9 rfl rfl rfl ?_
 refine C2 10 rfl rfl rfl ?_
 refine C2 11 rfl rfl rfl ?_
 refine aP 12 rfl (O7 rfl rfl) rfl ?_
 refine A1 13 ?_
 refine H1 rfl ?_
 refine aP 14 rfl (qA rfl) rfl ?_
 refine A9 ?_
 refine I1 (rC rfl (A4 rfl rfl)) (rT rfl) ?_
 exact B0f
 refine A8 ?_
 refine sB (qE rfl rfl) rfl rfl (fun h158 => ?_) (fun h158 => ?_)
 refine A9 ?_
 (have hl2 : ts.length = 2 := hop.1 (by omega); obtain ⟨b0, o0, q0, d0, hp0, hat0, hre0, hg0⟩ := hsl.kidTy hkl (i := 0) (by omega) (by omega); obtain ⟨b1, o1, q1, d1, hp1, hat1, hre1, hg1⟩ := hsl.kidTy hkl (i := 1) (by omega) (by omega); cases hp0; cases hp1; refine D7 D8 rfl ?_)
 refine I9 (i := 1) (l' := [ff,tt,ff,ff,ff,ff,ff,ff,ff,ff,ff,ff,ff,ff,ff]) rfl D1 (qM rfl) rfl (by kernel_rfl) rfl rfl ?_
 refine aP 2 rfl (B4 (j := 0) rfl rfl rfl (by omega)) rfl ?_
 refine aL 3 rfl (A2 rfl rfl (hat0 _) rfl) rfl ?_
 refine A1 0 ?_
 refine M8 rfl rfl ((A2O _)) rfl rfl rfl ?_
 refine A1 4 ?_
 refine M8 rfl rfl ((A0k _)) rfl rfl rfl ?_
 refine A1 5 ?_
 refine S6 rfl rfl ((A1D ts[0] (.mk 2 []) _ _ _ (ha0 (by omega)) (V3 (by decide) (by decide)) hre0 (O0 _ ⟨by omega, by omega⟩))) rfl rfl rfl (fun h173 => ?_) (fun h173 => ?_)
 refine aP 6 rfl (qM rfl) rfl ?_
 refine aP 7 rfl (qM rfl) rfl ?_
 refine aP 8 rfl (B4 (j := 1) rfl rfl rfl (by omega)) rfl ?_
 refine aL 9 rfl (A2 rfl rfl (hat1 _) rfl) rfl ?_
 refine A1 10 ?_
 refine M8 rfl rfl ((A0k _)) rfl rfl rfl ?_
 refine A1 11 ?_
 refine M8 rfl rfl ((A1D ts[1] (.mk 2 []) _ _ _ (ha1 (by omega)) (V3 (by decide) (by decide)) hre1 (O0 _ ⟨by omega, by omega⟩))) rfl rfl rfl ?_
 refine aP 12 rfl (M5 rfl rfl) rfl ?_
 refine A1 13 ?_
 refine H1 rfl ?_
 refine aP 14 rfl (qA rfl) rfl ?_
 refine A9 ?_
 refine I1 (rC rfl (A4 rfl rfl)) (rT rfl) ?_
 exact B0g
 refine aP 6 rfl (qM rfl) rfl ?_
 refine C2 7 rfl rfl rfl ?_
 refine C2 8 rfl rfl rfl ?_
 refine C2 9 rfl rfl rfl ?_
 refine C2 10 rfl rfl rfl ?_
 refine C2 11 rfl rfl rfl ?_
 refine aP 12 rfl (O7 rfl rfl) rfl ?_
 refine A1 13 ?_
 refine H1 rfl ?_
 refine aP 14 rfl (qA rfl) rfl ?_
 refine A9 ?_
 refine I1 (rC rfl (A4 rfl rfl)) (rT rfl) ?_
 exact B0g
 refine A8 ?_
 refine sB (qE rfl rfl) rfl rfl (fun h216 => ?_) (fun h216 => ?_)
 refine A8 ?_
 (have hl3 : ts.length = 3 := hop.2.1 (by omega); obtain ⟨b0, o0, q0, d0, hp0, hat0, hre0, hg0⟩ := hsl.kidTy hkl (i := 0) (by omega) (by omega); obtain ⟨b1, o1, q1, d1, hp1, hat1, hre1, hg1⟩ := hsl.kidTy hkl (i := 1) (by omega) (by omega); obtain ⟨b2, o2, q2, d2, hp2, hat2, hre2, hg2⟩ := hsl.kidTy hkl (i := 2) (by omega) (by omega); cases hp0; cases hp1; cases hp2; refine D7 D8 rfl ?_)
 refine I9 (i := 0) (l' := [tt,ff,ff,ff,ff,ff,ff,ff]) rfl D1 (qM rfl) rfl (by kernel_rfl) rfl rfl ?_
 refine aP 1 rfl (B4 (j := 1) rfl rfl rfl (by omega)) rfl ?_
 refine aL 2 rfl (A2 rfl rfl (hat1 _) rfl) rfl ?_
 refine aP 3 rfl (qM rfl) rfl ?_
 refine aP 4 rfl (B4 (j := 2) rfl rfl rfl (by omega)) rfl ?_
 refine aL 5 rfl (A2 rfl rfl (hat2 _) rfl) rfl ?_
 refine A1 6 ?_
 refine S6 rfl rfl ((A1D ts[1] ts[2] _ _ _ (ha1 (by omega)) (ha2 (by omega)) hre1 hre2)) rfl rfl rfl (fun h231 => ?_) (fun h231 => ?_)
 refine aP 7 rfl (pNt rfl) rfl ?_
 refine A8 ?_
 (have hl3 : ts.length = 3 := hop.2.1 (by omega); obtain ⟨b0, o0, q0, d0, hp0, hat0, hre0, hg0⟩ := hsl.kidTy hkl (i := 0) (by omega) (by omega); obtain ⟨b1, o1, q1, d1, hp1, hat1, hre1, hg1⟩ := hsl.kidTy hkl (i := 1) (by omega) (by omega); obtain ⟨b2, o2, q2, d2, hp2, hat2, hre2, hg2⟩ := hsl.kidTy hkl (i := 2) (by omega) (by omega); cases hp0; cases hp1; cases hp2; refine D7 D8 rfl ?_)
 refine I9 (i := 0) (l' := [tt,ff,ff,ff,ff,ff,ff,ff,ff,ff,ff,ff,ff,ff]) rfl D1 (qM rfl) rfl (by kernel_rfl) rfl rfl ?_
 refine aP 1 rfl (B4 (j := 1) rfl rfl rfl (by omega)) rfl ?_
 refine aL 2 rfl (A2 rfl rfl (hat1 _) rfl) rfl ?_
 refine aP 3 rfl (qM rfl) rfl ?_
 refine aP 4 rfl (B4 (j := 2) rfl rfl rfl (by omega)) rfl ?_
 refine aL 5 rfl (A2 rfl rfl (hat2 _) rfl) rfl ?_
 refine aP 7 rfl (qM rfl) rfl ?_
 refine aP 8 rfl (B4 (j := 0) rfl rfl rfl (by omega)) rfl ?_
 refine aL 9 rfl (A2 rfl rfl (hat0 _) rfl) rfl ?_
 refine A1 6 ?_
 (refine H0 rfl rfl (B4W ts[1] ts[2] G _ _ (by assumption) (ha1 (by omega)) (ha2 (by omega)) hre1 hre2) rfl rfl rfl (fun v G1 hle1 hh => ?_); obtain ⟨mc, rfl, hmr⟩ := hh; obtain ⟨mt, hmt⟩ : ∃ mt, U4 ts[1] ts[2] = mt := ⟨_, rfl⟩; rw [hmt] at hmr; have hma : E5 mt := (hmt ▸ B4Z ts[1] ts[2] (by assumption) (ha1 (by omega)) (ha2 (by omega))); obtain ⟨p1, c1, e1, rfl, _⟩ := hmr.open; have hre0q := hre0.mono hle1)
 refine A1 10 ?_
 refine M8 rfl rfl ((A2O _)) rfl rfl rfl ?_
 refine A1 11 ?_
 refine M8 rfl rfl ((A1D ts[0] (.mk 3 []) _ _ _ (ha0 (by omega)) (V3 (by decide) (by decide)) hre0q (O0 _ ⟨by omega, by omega⟩))) rfl rfl rfl ?_
 refine A1 12 ?_
 refine H1 rfl ?_
 refine aP 13 rfl (qA rfl) rfl ?_
 refine A9 ?_
 refine I1 (rC rfl (A4 rfl rfl)) (rT rfl) ?_
 (obtain rfl : k = 9 := (by omega); exact Q9.mk (by rw [B0e (by omega), hmt]; simp_all [T3]) hmr hma)
 refine aP 7 rfl (pNf rfl) rfl ?_
 refine J3 ?_
 refine I1 (rC rfl (A4 rfl rfl)) (rT rfl) ?_
 (obtain rfl : k = 9 := (by omega); exact Q9.no (by rw [B0e (by omega)]; simp_all) (O0 _ ⟨by omega, by omega⟩) (V3 (by omega) (by omega)))
 refine A8 ?_
 refine sB (qE rfl rfl) rfl rfl (fun h288 => ?_) (fun h288 => ?_)
 refine A9 ?_
 (have hl2 : ts.length = 2 := hop.1 (by omega); obtain ⟨b0, o0, q0, d0, hp0, hat0, hre0, hg0⟩ := hsl.kidTy hkl (i := 0) (by omega) (by omega); obtain ⟨b1, o1, q1, d1, hp1, hat1, hre1, hg1⟩ := hsl.kidTy hkl (i := 1) (by omega) (by omega); cases hp0; cases hp1; refine D7 D8 rfl ?_)
 refine I9 (i := 0) (l' := [tt,ff,ff,ff,ff,ff,ff,ff,ff,ff,ff]) rfl D1 (qM rfl) rfl (by kernel_rfl) rfl rfl ?_
 refine aP 1 rfl (B4 (j := 0) rfl rfl rfl (by omega)) rfl ?_
 refine aL 2 rfl (A2 rfl rfl (hat0 _) rfl) rfl ?_
 refine aP 3 rfl (qM rfl) rfl ?_
 refine aP 4 rfl (B4 (j := 1) rfl rfl rfl (by omega)) rfl ?_
 refine aL 5 rfl (A2 rfl rfl (hat1 _) rfl) rfl ?_
 refine A1 6 ?_
 (refine H0 rfl rfl (A2t 5 ts[0] ts[1] G _ _ (.inr rfl) (ha0 (by omega)) (ha1 (by omega)) hre0 hre1) rfl rfl rfl (fun v G1 hle1 hh => ?_); obtain ⟨mc, rfl, hmr⟩ := hh; have hma := A8E (.inr rfl) (ha0 (by omega)) (ha1 (by omega)); obtain ⟨p1, c1, e1, rfl, _⟩ := hmr.open)
 refine aP 7 rfl (pX rfl rfl) rfl ?_
 refine aP 8 rfl (pX rfl rfl) rfl ?_
 refine A1 9 ?_
 refine H1 rfl ?_
 refine aP 10 rfl (qA rfl) rfl ?_
 refine A9 ?_
 refine I1 (rC rfl (A4 rfl rfl)) (rT rfl) ?_
 (obtain rfl : k = 10 := (by omega); exact Q9.mk (by rw [B4X (by omega)]) hmr hma)
 refine A8 ?_
 refine sB (qE rfl rfl) rfl rfl (fun h321 => ?_) (fun h321 => ?_)
 refine B2 ?_
 (have hl1 : ts.length = 1 := hop.2.2 (by omega); obtain ⟨b0, o0, q0, d0, hp0, hat0, hre0, hg0⟩ := hsl.kidTy hkl (i := 0) (by omega) (by omega); cases hp0; refine sP (B4 (j := 0) rfl rfl rfl (by omega)) rfl rfl ?_)
 refine sL (A2 rfl rfl (hat0 _) rfl) rfl rfl ?_
 focus (refine E7 rfl (A23 5 ts[0] G _ (.inr rfl) (ha0 (by omega)) hre0) rfl rfl (fun v G1 hle1 hh => ?_); obtain ⟨ma, mca, mb, mcb, rfl, hma, hmb, hma2, hmb2, hpp⟩ := hh; obtain ⟨p1, c1, e1, rfl, _⟩ := hma.open; obtain ⟨p2, c2, e2, rfl, _⟩ := hmb.open; rcases hm : R0 5 ts[0] with _ | pr; rotate_left; obtain rfl := hpp _ hm; rotate_left; all_goals simp only [Option.isSome])
 refine B1 ?_
 refine sE (A6 rfl) rfl (fun b336 => ?_)
 refine sE (A6 rfl) rfl (fun b337 => ?_)
 refine J9 ?_
 refine I1 (rC rfl (A4 rfl rfl)) (rT rfl) ?_
 (have hk11 : k = 11 := (by omega); exact Q9.no (by rw [A4Z (.inl hk11) (by omega), hm]) hma hma2)
 refine B1 ?_
 refine sE (A6 rfl) rfl (fun b360 => ?_)
 refine sE (A6 rfl) rfl (fun b361 => ?_)
 refine J9 ?_
 refine I1 (rC rfl (A4 rfl rfl)) (rT rfl) ?_
 (have hk11 : k = 11 := (by omega); exact Q9.yes (by rw [A4Z (.inl hk11) (by omega), hm]; simp only; rw [if_neg (by omega)]) hma hma2)
 refine A8 ?_
 refine sB (qE rfl rfl) rfl rfl (fun h386 => ?_) (fun h386 => ?_)
 refine B2 ?_
 (have hl1 : ts.length = 1 := hop.2.2 (by omega); obtain ⟨b0, o0, q0, d0, hp0, hat0, hre0, hg0⟩ := hsl.kidTy hkl (i := 0) (by omega) (by omega); cases hp0; refine sP (B4 (j := 0) rfl rfl rfl (by omega)) rfl rfl ?_)
 refine sL (A2 rfl rfl (hat0 _) rfl) rfl rfl ?_
 focus (refine E7 rfl (A23 5 ts[0] G _ (.inr rfl) (ha0 (by omega)) hre0) rfl rfl (fun v G1 hle1 hh => ?_); obtain ⟨ma, mca, mb, mcb, rfl, hma, hmb, hma2, hmb2, hpp⟩ := hh; obtain ⟨p1, c1, e1, rfl, _⟩ := hma.open; obtain ⟨p2, c2, e2, rfl, _⟩ := hmb.open; rcases hm : R0 5 ts[0] with _ | pr; rotate_left; obtain rfl := hpp _ hm; rotate_left; all_goals simp only [Option.isSome])
 refine B1 ?_
 refine sE (A6 rfl) rfl (fun b401 => ?_)
 refine sE (A6 rfl) rfl (fun b402 => ?_)
 refine J9 ?_
 refine I1 (rC rfl (A4 rfl rfl)) (rT rfl) ?_
 (have hk12 : k = 12 := (by omega); exact Q9.no (by rw [A4Z (.inr hk12) (by omega), hm]) hmb hmb2)
 refine B1 ?_
 refine sE (A6 rfl) rfl (fun b425 => ?_)
 refine sE (A6 rfl) rfl (fun b426 => ?_)
 refine J9 ?_
 refine I1 (rC rfl (A4 rfl rfl)) (rT rfl) ?_
 (have hk12 : k = 12 := (by omega); exact Q9.yes (by rw [A4Z (.inr hk12) (by omega), hm]; simp only; rw [if_pos (by omega)]) hmb hmb2)
 refine A8 ?_
 refine sP (T8 rfl rfl (by omega)) rfl rfl ?_
 refine A9 ?_
 (have hl1 : ts.length = 1 := hop.2.2 (by omega); obtain ⟨b0, o0, q0, d0, hp0, hat0, hre0, hg0⟩ := hsl.kidTy hkl (i := 0) (by omega) (by omega); cases hp0; refine D7 D8 rfl ?_)
 refine I9 (i := 0) (l' := [tt,ff,ff,ff,ff,ff,ff,ff,ff,ff,ff]) rfl D1 (B5 rfl) rfl (by kernel_rfl) rfl rfl ?_
 refine aL 1 rfl (A4 rfl rfl) rfl ?_
 refine aP 3 rfl (qM rfl) rfl ?_
 refine aP 4 rfl (B4 (j := 0) rfl rfl rfl (by omega)) rfl ?_
 refine aL 5 rfl (A2 rfl rfl (hat0 _) rfl) rfl ?_
 refine aP 6 rfl (B5 rfl) rfl ?_
 refine aL 7 rfl (A4 rfl rfl) rfl ?_
 refine A1 2 ?_
 (refine H0 rfl rfl (O9 (.mk tk tks) G _ hty.small hrty) rfl rfl rfl (fun v G1 hle1 hh => ?_); obtain ⟨cs1, F1, rfl, hs1, hn1⟩ := hh; obtain ⟨p1, c1, rfl, _⟩ := hs1.open; have hmr := hs1.R.mono (C5.le G1 G); have hre0q := hre0.mono hle1; have hrtyq := hrty.mono hle1)
 refine A1 8 ?_
 refine M8 rfl rfl ((A1D ts[0] (.mk tk tks) _ _ _ (ha0 (by omega)) hty hre0q hrtyq)) rfl rfl rfl ?_
 refine A1 9 ?_
 refine H1 rfl ?_
 refine aP 10 rfl (qA rfl) rfl ?_
 refine A9 ?_
 refine I1 (rC rfl (A4 rfl rfl)) (rT rfl) ?_
 (obtain rfl : k = 13 := (by omega); exact Q9.mk (by rw [B4Y (by omega)]) hmr hty)
section
variable {ak bk : Int} {aks bks : List Ty}
theorem B41 (h : ak ≠ bk) : N1 (.mk ak aks) (.mk bk bks) = false := by rw [A2I, decide_eq_false h]; rfl
theorem B42 (h : aks.length ≠ bks.length) : N1 (.mk ak aks) (.mk bk bks) = false := by
 rw [A2I]
 cases hl : Y6 aks bks with
 | false => simp
 | true => exact absurd ((A3x _ _).1 hl).1 h
theorem B43 {i : Nat} (hi : i < aks.length) (hi' : i < bks.length) (h : N1 aks[i] bks[i] = false) : N1 (.mk ak aks) (.mk bk bks) = false := by
 rw [A2I]
 cases hl : Y6 aks bks with
 | false => simp
 | true => have := ((A3x _ _).1 hl).2 i hi hi'; rw [h] at this; cases this
theorem B44 (hk : ak = bk) (hl : aks.length = bks.length) (h : ∀ i, (h : i < aks.length) → (h' : i < bks.length) → N1 aks[i] bks[i] = true) : N1 (.mk ak aks) (.mk bk bks) = true := by
 rw [A2I, decide_eq_true hk, (A3x _ _).2 ⟨hl, h⟩]; rfl
end
theorem B0h : ∀ (a b : Ty) (G : IM) (ca cb : List Value), B9 G a ca → B9 G b cb → Fn Tryz.prog 192 [.agg ⟨ca⟩, .agg ⟨cb⟩] [] G (I3 (.bool (N1 a b)) G) := by
 refine Ty.ind fun ak aks ih b G ca cb hra hrb => ?_
 obtain ⟨bk, bks⟩ := b
 obtain ⟨pa, cca, ea, rfl, hak, hsla, hkla⟩ := hra.open
 obtain ⟨pb, ccb, eb, rfl, hbk, hslb, hklb⟩ := hrb.open
 simp only [Ty.k, Ty.ks] at hak hsla hkla hbk hslb hklb ⊢
 have hna := hsla.le
 have hnb := hslb.le
 have e1 := @B41 ak bk aks bks
 have e2 := @B42 ak bk aks bks
 have e3 := fun i => @B43 ak bk aks bks i
 have e4 := @B44 ak bk aks bks
 generalize N1 (.mk ak aks) (.mk bk bks) = R at e1 e2 e3 e4 ⊢
 refine C3 Tryz.func192 rfl Tryz.ntmps192 Tryz.results192 rfl ?_
 intro w0
 refine A3 ?_
 refine sE (C8 rfl rfl) rfl (fun b3 => ?_)
 refine sE (C8 rfl rfl) rfl (fun b4 => ?_)
 refine J2 ?_
 refine sB (N9 rfl rfl) rfl rfl (fun h15 => ?_) (fun h15 => ?_)
 refine Z5 ?_
 (exact ⟨rfl, by rw [e1 (by omega)], rfl⟩)
 refine B2 ?_
 refine sB (N9 rfl rfl) rfl rfl (fun h44 => ?_) (fun h44 => ?_)
 refine N0 ?_
 (exact ⟨rfl, by rw [e2 (by omega)], rfl⟩)
 refine N0 ?_
 refine C1 ?_
 (refine J8 (fun (i : Nat) => ⟨[(5, .int .i64 i), (2, .pointer (some ⟨b3, 0, none⟩)), (3, .pointer (some ⟨b4, 0, none⟩))], [.blk b4 [.int .i64 bk, .slice pb bks.length ccb], .blk b3 [.int .i64 ak, .slice pa aks.length cca]], G⟩) (fun i => i ≤ aks.length ∧ ∀ j, (h : j < aks.length) → (h' : j < bks.length) → j < i → N1 aks[j] bks[j] = true) (fun i => aks.length - i) 0 ?_ ?_ ?_)
 exact E2
 (exact ⟨Nat.zero_le _, fun j _ _ hj => absurd hj (Nat.not_lt_zero j)⟩)
 (rintro i ⟨hi, hall⟩)
 refine B2 ?_
 refine sB (J1 rfl rfl) rfl rfl (fun h82 => ?_) (fun h82 => ?_)
 refine A8 ?_
 refine C1 ?_
 refine tS ?_
 (obtain ⟨b, o, q0, d0, hp0, hat0, hre0, hg0⟩ := hsla.kidTy hkla (i := i) (by omega) (by omega); obtain ⟨b', o', q1, d1, hp1, hat1, hre1, hg1⟩ := hslb.kidTy hklb (i := i) (by omega) (by omega); subst hp0; subst hp1; have hih := ih aks[i] (List.getElem_mem (by omega)) bks[i] G _ _ hre0 hre1; refine D7 D8 rfl ?_)
 refine I9 (i := 0) (l' := [tt,ff,ff,ff,ff,ff,ff,ff,ff,ff,ff,ff]) rfl D1 (B5 rfl) rfl (by kernel_rfl) rfl rfl ?_
 refine aL 1 rfl (C4 rfl rfl) rfl ?_
 refine aP 2 rfl (qM rfl) rfl ?_
 refine aP 3 rfl (B4 rfl rfl rfl (by omega)) rfl ?_
 refine aL 4 rfl (A2 rfl rfl (hat0 _) rfl) rfl ?_
 refine aP 5 rfl (B5 rfl) rfl ?_
 refine aL 6 rfl (C4 rfl rfl) rfl ?_
 refine aP 7 rfl (qM rfl) rfl ?_
 refine aP 8 rfl (B4 rfl rfl rfl (by omega)) rfl ?_
 refine aL 9 rfl (A2 rfl rfl (hat1 _) rfl) rfl ?_
 refine A1 10 ?_
 refine S6 rfl rfl (hih) rfl rfl rfl (fun h103 => ?_) (fun h103 => ?_)
 refine aP 11 rfl (pNt rfl) rfl ?_
 refine D4 ?_
 refine sP (J0 rfl rfl (by omega) (by omega)) rfl rfl ?_
 refine A3 ?_
 refine J6 (i + 1) ?_ ?_ ?_
 exact E2
 (exact ⟨by omega, fun j h h' hj => by by_cases hji : j = i; (subst hji; assumption); exact hall j h h' (by omega)⟩)
 omega
 refine aP 11 rfl (pNf rfl) rfl ?_
 refine I0 ?_
 (exact ⟨rfl, by rw [e3 i (by omega) (by omega) (by assumption)], rfl⟩)
 refine I0 ?_
 (exact ⟨rfl, by rw [e4 (by omega) (by omega) (fun j h h' => hall j h h' (by omega))], rfl⟩)
theorem A6E {Q : Prop} (h : Q := by (exact ⟨rfl, _, _, rfl, S3.snoc (nm := nm) (t := .mk k ks) hx1 h2.len h2.all h2.one h3 hle5 ⟨_, _, rfl, hr.mono hle5⟩ hsl5⟩)) : Q := h
theorem B0i (G : IM) (cx : Cx) (p : Option Addr) (n c : Nat) (nm : ByteArray) (t : Ty) (cells : List Value) (hx : S3 G cx p n c) (hn : n ≤ 1000) (hr : B9 G t cells) :
  Fn Tryz.prog 141 [.slice p n c, .string nm, .agg ⟨cells⟩] [] G (L8 fun G' v => ∃ p' c', v = .slice p' (n + 1) c' ∧ S3 G' (cx ++ [(nm, t)]) p' (n + 1) c') := by
 obtain ⟨k, ks⟩ := t
 obtain ⟨q, d, es0, rfl, _⟩ := hr.open
 simp only [Ty.k, Ty.ks] at hr ⊢
 obtain ⟨hx1, es, h2, h3⟩ := id hx
 have hSl : Sl G p n c 3 es.flatten := h2.1
 have h1c : ∀ u ∈ es.flatten, u.oneCell' = true := by
  intro u hu
  obtain ⟨e, he, hue⟩ := List.mem_flatten.1 hu
  exact List.all_eq_true.1 (h2.one e he) u hue
 refine C3 Tryz.func141 rfl Tryz.ntmps141 Tryz.results141 rfl ?_
 intro w0
 refine A3 ?_
 refine sE (C8 rfl rfl) rfl (fun b3 => ?_)
 refine B1 ?_
 refine D7 D8 rfl ?_
 refine I9 (i := 1) (l' := [ff,tt,ff,ff,ff,ff,ff,ff,ff]) rfl D1 (qM rfl) rfl (by kernel_rfl) rfl rfl ?_
 refine aP 3 rfl (qM rfl) rfl ?_
 refine aL 4 rfl (A4 rfl rfl) rfl ?_
 refine aP 5 rfl (V6 rfl rfl) rfl ?_
 refine Q2 (j := 0) (j' := 6) (by kernel_rfl) ?_ ?_
 (refine E3 rfl (C7 rfl rfl rfl (by omega) (by unfold maxLen; omega) rfl) rfl rfl ?_; rintro _ ⟨b14, rfl⟩)
 refine Q2 (j := 2) (j' := 6) (by kernel_rfl) ?_ ?_
 (refine A2M rfl rfl rfl rfl rfl rfl (fun _ _ => by repeat (first | exact Sw.here | apply Sw.there)) hSl h1c (Nat.zero_le _) (by unfold maxLen; omega) (by omega) rfl rfl (by repeat (first | exact A7.nil | apply A7.dep (by decide +kernel) | apply A7.blk (by decide +kernel) (by repeat (first | exact Pk.here | apply Pk.there)) (by repeat first | exact mH | apply mT))) (fun p4 c4 => ?_); simp only [Nat.zero_add, List.nil_append])
 refine A1 6 ?_
 (refine E3 rfl (C7 rfl rfl rfl (by omega) (by unfold maxLen; omega) rfl) rfl rfl ?_; rintro _ ⟨b18, rfl⟩)
 refine A1 7 ?_
 (refine Q6 rfl rfl rfl rfl rfl rfl (fun _ _ => by repeat (first | exact Sw.here | apply Sw.there)) (M6 (by repeat first | exact mH | apply mT)) rfl (by simp [Value.oneCell']) (by unfold maxLen; omega) (by omega) rfl rfl (by repeat (first | exact A7.nil | apply A7.dep (by decide +kernel) | apply A7.blk (by decide +kernel) (by repeat (first | exact Pk.here | apply Pk.there)) (by repeat first | exact mH | apply mT))) (fun p5 c5 => ?_))
 refine aP 8 rfl (qA rfl) rfl ?_
 refine A3 ?_
 (refine F9 (cs := es.flatten ++ [.string nm, .int .i64 k, .slice q ks.length d]) (by repeat (first | exact Pk.here | apply Pk.there)) (fun G5 hle5 hsl5 hno5 => ?_))
 refine A3 ?_
 exact A6E
 (refine E3 rfl (C7 rfl rfl rfl (by omega) (by unfold maxLen; omega) rfl) rfl rfl ?_; rintro _ ⟨b28, rfl⟩)
 refine A1 2 ?_
 (refine A2M rfl rfl rfl rfl rfl rfl (fun _ _ => by repeat (first | exact Sw.here | apply Sw.there)) hSl h1c (Nat.zero_le _) (by unfold maxLen; omega) (by omega) rfl rfl (by repeat (first | exact A7.nil | apply A7.dep (by decide +kernel) | apply A7.blk (by decide +kernel) (by repeat (first | exact Pk.here | apply Pk.there)) (by repeat first | exact mH | apply mT))) (fun p4 c4 => ?_); simp only [Nat.zero_add, List.nil_append])
 refine A1 7 ?_
 (refine Q6 rfl rfl rfl rfl rfl rfl (fun _ _ => by repeat (first | exact Sw.here | apply Sw.there)) (M6 (by repeat first | exact mH | apply mT)) rfl (by simp [Value.oneCell']) (by unfold maxLen; omega) (by omega) rfl rfl (by repeat (first | exact A7.nil | apply A7.dep (by decide +kernel) | apply A7.blk (by decide +kernel) (by repeat (first | exact Pk.here | apply Pk.there)) (by repeat first | exact mH | apply mT))) (fun p5 c5 => ?_))
 refine aP 8 rfl (qA rfl) rfl ?_
 refine A3 ?_
 (refine F9 (cs := es.flatten ++ [.string nm, .int .i64 k, .slice q ks.length d]) (by repeat (first | exact Pk.here | apply Pk.there)) (fun G5 hle5 hsl5 hno5 => ?_))
 refine A3 ?_
 exact A6E
 (refine E3 rfl (C7 rfl rfl rfl (by omega) (by unfold maxLen; omega) rfl) rfl rfl ?_; rintro _ ⟨b40, rfl⟩)
 refine A1 0 ?_
 (refine E3 rfl (C7 rfl rfl rfl (by omega) (by unfold maxLen; omega) rfl) rfl rfl ?_; rintro _ ⟨b42, rfl⟩)
 refine A1 2 ?_
 (refine A2M rfl rfl rfl rfl rfl rfl (fun _ _ => by repeat (first | exact Sw.here | apply Sw.there)) hSl h1c (Nat.zero_le _) (by unfold maxLen; omega) (by omega) rfl rfl (by repeat (first | exact A7.nil | apply A7.dep (by decide +kernel) | apply A7.blk (by decide +kernel) (by repeat (first | exact Pk.here | apply Pk.there)) (by repeat first | exact mH | apply mT))) (fun p4 c4 => ?_); simp only [Nat.zero_add, List.nil_append])
 refine A1 7 ?_
 (refine Q6 rfl rfl rfl rfl rfl rfl (fun _ _ => by repeat (first | exact Sw.here | apply Sw.there)) (M6 (by repeat first | exact mH | apply mT)) rfl (by simp [Value.oneCell']) (by unfold maxLen; omega) (by omega) rfl rfl (by repeat (first | exact A7.nil | apply A7.dep (by decide +kernel) | apply A7.blk (by decide +kernel) (by repeat (first | exact Pk.here | apply Pk.there)) (by repeat first | exact mH | apply mT))) (fun p5 c5 => ?_))
 refine aP 8 rfl (qA rfl) rfl ?_
 refine A3 ?_
 (refine F9 (cs := es.flatten ++ [.string nm, .int .i64 k, .slice q ks.length d]) (by repeat (first | exact Pk.here | apply Pk.there)) (fun G5 hle5 hsl5 hno5 => ?_))
 refine A3 ?_
 exact A6E
theorem B0j {cx : Cx} : ∀ {ks : List Tm} {i : Nat} {us : List Ty} {u : Ty} (hi : i < ks.length), V1 cx (ks.take i) = some us → P6 cx ks[i] = some u → V1 cx (ks.take (i + 1)) = some (us ++ [u])
 | [], i, us, u, hi, _, _ => by simp at hi
 | t :: ts, 0, us, u, _, h1, h2 => by
  simp only [List.take_zero, V1, Option.some.injEq] at h1
  subst h1
  simp only [List.getElem_cons_zero] at h2
  simp [V1, h2]
 | t :: ts, i + 1, us, u, hi, h1, h2 => by
  simp only [List.take_succ_cons, V1] at h1 ⊢
  split at h1
  ·cases h1
  ·rename_i a ha
   split at h1
   ·cases h1
   ·rename_i bs has
    simp only [Option.some.injEq] at h1
    subst h1
    simp only [List.getElem_cons_succ] at h2
    have := B0j (ks := ts) (i := i) (by simpa using hi) has h2
    simp only [this, List.cons_append]
theorem B0k {cx : Cx} : ∀ {ks : List Tm} {i : Nat} (hi : i < ks.length), P6 cx ks[i] = none → V1 cx ks = none
 | [], i, hi, _ => by simp at hi
 | t :: ts, 0, _, h => by simp only [List.getElem_cons_zero] at h; rw [V1, h]
 | t :: ts, i + 1, hi, h => by
  simp only [List.getElem_cons_succ] at h
  have := B0k (ks := ts) (i := i) (by simpa using hi) h
  rw [V1, this]
  cases P6 cx t <;> rfl
section
variable {cx : Cx} {k : Int} {nm : ByteArray} {num : Int} {ty fr : Ty} {lb : Int} {ks : List Tm}
theorem B45 (hk : k = 1) (h0 : ks = []) : P6 cx (.mk k nm num ty fr lb ks) = O8 cx nm := by
 subst hk h0
 rw [P6, V1]
 simp only [V7, mW1]
 cases O8 cx nm with
 | none => rfl
 | some t => simp
theorem B46 (hk : k = 2) (h0 : ks = []) : P6 cx (.mk k nm num ty fr lb ks) = some Q1 := by subst hk h0; rfl
theorem B47 (hk : k = 3 ∨ k = 4) (h0 : ks = []) : P6 cx (.mk k nm num ty fr lb ks) = some T3 := by subst h0; rcases hk with rfl | rfl <;> rfl
theorem B48 {b : Tm} (hk : k = 5) (h : P6 (cx ++ [(nm, ty)]) b = none) : P6 cx (.mk k nm num ty fr lb [b]) = none := by
 subst hk; rw [P6, K2, if_pos rfl, V1, h]
theorem B49 {b : Tm} {t : Ty} (hk : k = 5) (h : P6 (cx ++ [(nm, ty)]) b = some t) : P6 cx (.mk k nm num ty fr lb [b]) = if E9 (.mk 4 [ty, t]) = true then some (.mk 4 [ty, t]) else none := by
 subst hk
 rw [P6, K2, if_pos rfl, V1, h]
 simp only [V1, V7, mW5, List.getD_cons_zero]
 cases E9 (.mk 4 [ty, t]) <;> simp
theorem B5a (hk : k ≠ 5) (h : V1 cx ks = none) : P6 cx (.mk k nm num ty fr lb ks) = none := by rw [P6, K2, if_neg hk, h]
theorem B5b {ts : List Ty} (hk : k ≠ 5) (h : V1 cx ks = some ts) : P6 cx (.mk k nm num ty fr lb ks) = V7 cx k nm ty ts := by rw [P6, K2, if_neg hk, h]
end
theorem B0l {Q : Prop} (h : Q := by (rw [f3 (by omega)]; exact Q9.yes rfl (A0b _) (V3 (by omega) (by omega)))) : Q := h
theorem A6F {Q : Prop} (h : Q := by (rw [f4 (by omega) (by omega) (by first | exact hE | assumption)]; exact Q9.no rfl (O0 _ ⟨by omega, by omega⟩) (V3 (by omega) (by omega)))) : Q := h
theorem A6G {Q : Prop} (h : Q := by (rw [f5 _ (by omega) (by omega) (by first | exact hE | assumption)]; exact Q9.mk rfl hmr2 (A8E (.inl rfl) hta hma))) : Q := h
theorem B0m : ∀ (e : Tm) (d : Int) (cx : Cx) (G : IM) (p : Option Addr) (n c : Nat) (cells : List Value), N7 12 14 e d = true → (n : Int) ≤ d → X9 cx → S3 G cx p n c → B0 G e cells →
  Fn Tryz.prog 140 [.slice p n c, .agg ⟨cells⟩] [] G (Q9 (P6 cx e) G) := by
 refine Tm.ind fun k nm num ty fr lb ks ih d cx G p n c cells hv hnd hcv hx hr => ?_
 have hr0 := hr
 have hone := hr.one
 obtain ⟨hv1, hv2, hv3, hv4⟩ := A0D hv
 have hvk := (A09 12 14 ks _).1 hv4
 have har := (U3.1 hv3).1
 have hop := A2Q har
 obtain ⟨hta, hts⟩ := A2R hv3
 have hkr : 1 ≤ k ∧ k ≤ 14 := A3U (by rw [har]; omega)
 have hcv5 : k = 5 → X9 (cx ++ [(nm, ty)]) := fun hk => by have := A3L (k := k) (nm := nm) (ty := ty) hcv fun hk => (U3.1 hv3).2.2.2.2.2.1 (.inl hk); rwa [K2, if_pos hk] at this
 have h0 : k ≤ 4 → ks = [] := fun h => List.length_eq_zero_iff.1 (by
  have hk : k = 1 ∨ k = 2 ∨ k = 3 ∨ k = 4 := by omega
  rcases hk with rfl | rfl | rfl | rfl
  ·have : D9 1 = 0 := rfl; omega
  ·have : D9 2 = 0 := rfl; omega
  ·have : D9 3 = 0 := rfl; omega
  ·have : D9 4 = 0 := rfl; omega)
 have f1 := fun hk => @B45 cx k nm num ty fr lb ks hk (h0 (by omega))
 have f2 := fun hk => @B46 cx k nm num ty fr lb ks hk (h0 (by omega))
 have f3 := fun hk => @B47 cx k nm num ty fr lb ks hk (h0 (by omega))
 have f4 : ∀ (hk : k = 5) (hl : 0 < ks.length), P6 (cx ++ [(nm, ty)]) ks[0] = none → P6 cx (.mk k nm num ty fr lb ks) = none := fun hk hl h => by
  obtain ⟨b, rfl⟩ := X1 (hop.2.2 (.inl hk)); exact B48 hk h
 have f5 : ∀ (t : Ty) (hk : k = 5) (hl : 0 < ks.length), P6 (cx ++ [(nm, ty)]) ks[0] = some t → P6 cx (.mk k nm num ty fr lb ks) = if E9 (.mk 4 [ty, t]) = true then some (.mk 4 [ty, t]) else none := fun t hk hl h => by
  obtain ⟨b, rfl⟩ := X1 (hop.2.2 (.inl hk)); exact B49 hk h
 have f6 := @B5a cx k nm num ty fr lb ks
 have f7 := fun ts => @B5b cx k nm num ty fr lb ks ts
 generalize P6 cx (.mk k nm num ty fr lb ks) = R at f1 f2 f3 f4 f5 f6 f7 ⊢
 obtain ⟨tk, tks⟩ := ty
 obtain ⟨fk, fks⟩ := fr
 obtain ⟨pt, ct, pf, cf, q, cq, es, rfl, hk, hnum, hlb, hty, hfr, hsl, hkl⟩ := hr.open9
 have hlen : ks.length ≤ 3 := by have := A1a k; omega
 refine C3 Tryz.func140 rfl Tryz.ntmps140 Tryz.results140 rfl ?_
 intro w0
 refine A3 ?_
 refine sE (C8 rfl rfl) rfl (fun b3 => ?_)
 refine sE (A6 rfl) rfl (fun b4 => ?_)
 refine J2 ?_
 refine C1 (tS (tR (sB (qE rfl rfl) rfl rfl (fun h18 => ?_) (fun h18 => ?_))))
 refine E0 ?_
 (refine E7 rfl (B4U G cx hcv p n c nm hx) rfl rfl (fun v G1 hle1 hh => ?_); obtain ⟨mt, mc, rfl, hmr, hma, hmu⟩ := hh; obtain ⟨p1, c1, e1, rfl, _⟩ := hmr.open)
 refine E0 ?_
 refine I1 (rC rfl (A4 rfl rfl)) (rT rfl) ?_
 (rw [f1 (by omega)]; exact ⟨rfl, _, _, rfl, hmr, hma, hmu⟩)
 refine A8 ?_
 refine sB (qE rfl rfl) rfl rfl (fun h46 => ?_) (fun h46 => ?_)
 refine A8 ?_
 refine H6 rfl ((A0k _)) rfl rfl ?_
 refine B2 ?_
 refine I1 (rC rfl (A4 rfl rfl)) (rT rfl) ?_
 (rw [f2 (by omega)]; exact Q9.yes rfl (K3 _) (V3 (by omega) (by omega)))
 refine B2 ?_
 refine sB (qE rfl rfl) rfl rfl (fun h70 => ?_) (fun h70 => ?_)
 refine E0 ?_
 refine H6 rfl ((A2O _)) rfl rfl ?_
 refine B2 ?_
 refine I1 (rC rfl (A4 rfl rfl)) (rT rfl) ?_
 exact B0l
 refine A9 ?_
 refine sB (qE rfl rfl) rfl rfl (fun h95 => ?_) (fun h95 => ?_)
 refine A8 ?_
 refine H6 rfl ((A2O _)) rfl rfl ?_
 refine B2 ?_
 refine I1 (rC rfl (A4 rfl rfl)) (rT rfl) ?_
 exact B0l
 refine A8 ?_
 refine sB (qE rfl rfl) rfl rfl (fun h118 => ?_) (fun h118 => ?_)
 refine A9 ?_
 (have hl1 : ks.length = 1 := hop.2.2 (by omega); obtain ⟨b, o, e, rfl, hl, hat, hre, hgb⟩ := hsl.kidTm hkl (i := 0) (by omega) (by omega); have hMore := B0i G cx p n c nm (.mk tk tks) _ hx (by omega) hty; refine D7 D8 rfl ?_)
 refine I9 (i := 0) (l' := [tt,ff,ff,ff,ff,ff,ff,ff,ff,ff,ff,ff,ff,ff,ff,ff,ff]) rfl D1 (qM rfl) rfl (by kernel_rfl) rfl rfl ?_
 refine aP 1 rfl (B5 rfl) rfl ?_
 refine aL 2 rfl (C4 rfl rfl) rfl ?_
 refine aP 3 rfl (B5 rfl) rfl ?_
 refine aL 4 rfl (A4 rfl rfl) rfl ?_
 refine aP 6 rfl (B5 rfl) rfl ?_
 refine aL 7 rfl (C4 rfl rfl) rfl ?_
 refine aP 8 rfl (B4 (j := 0) rfl rfl rfl (by omega)) rfl ?_
 refine aL 9 rfl (A2 rfl rfl (hat _) hl) rfl ?_
 refine Q2 (j := 5) (j' := 14) (by kernel_rfl) ?_ ?_
 (refine H0 rfl rfl hMore rfl rfl rfl (fun v G1 hle1 hh => ?_); obtain ⟨pm, cm, rfl, hxm⟩ := hh; have hreM := hre.mono hle1; have hLam := ih ks[0] (List.getElem_mem (by omega)) (d + 1) _ G1 pm (n + 1) cm _ (hvk 0 (by omega)) (by omega) (hcv5 (by omega)) hxm hreM; have htyM := hty.mono hle1)
 refine Q2 (j := 10) (j' := 14) (by kernel_rfl) ?_ ?_
 focus (refine H0 rfl rfl hLam rfl rfl rfl (fun v G2 hle2 hh => ?_); obtain ⟨mt, mc, rfl, hmr, hma, hmu⟩ := hh; obtain ⟨p1, c1, e1, rfl, _⟩ := hmr.open; have htyN := htyM.mono hle2; rcases hE : P6 (cx ++ [(nm, Ty.mk tk tks)]) ks[0] with _ | mt2; rotate_left; obtain rfl := hmu _ hE; rotate_left; all_goals simp only [Option.isSome])
 refine aP 11 rfl (qM rfl) rfl ?_
 refine aP 12 rfl (pX rfl rfl) rfl ?_
 refine aP 13 rfl (pX rfl rfl) rfl ?_
 refine A1 14 ?_
 (refine E3 rfl (A6 rfl) rfl rfl ?_; rintro _ ⟨b142, rfl⟩)
 refine A1 15 ?_
 refine H1 rfl ?_
 refine aP 16 rfl (qA rfl) rfl ?_
 refine A0r ?_
 refine I1 (rC rfl (A4 rfl rfl)) (rT rfl) ?_
 exact A6F
 refine aP 11 rfl (qM rfl) rfl ?_
 refine aP 12 rfl (pX rfl rfl) rfl ?_
 refine aP 13 rfl (pX rfl rfl) rfl ?_
 refine A1 14 ?_
 (refine E3 rfl (A6 rfl) rfl rfl ?_; rintro _ ⟨b173, rfl⟩)
 refine A1 15 ?_
 refine H1 rfl ?_
 refine aP 16 rfl (qA rfl) rfl ?_
 refine T1 ?_
 (refine E7 rfl (A2t 4 (.mk tk tks) _ _ _ _ (.inl rfl) hta hma htyN hmr) rfl rfl (fun v G3 hle3 hh => ?_); obtain ⟨mc2, rfl, hmr2⟩ := hh; obtain ⟨p2, c2, e2, rfl, _⟩ := hmr2.open)
 refine E0 ?_
 refine I1 (rC rfl (A4 rfl rfl)) (rT rfl) ?_
 exact A6G
 (refine E3 rfl (A6 rfl) rfl rfl ?_; rintro _ ⟨b206, rfl⟩)
 refine A1 10 ?_
 focus (refine H0 rfl rfl hLam rfl rfl rfl (fun v G2 hle2 hh => ?_); obtain ⟨mt, mc, rfl, hmr, hma, hmu⟩ := hh; obtain ⟨p1, c1, e1, rfl, _⟩ := hmr.open; have htyN := htyM.mono hle2; rcases hE : P6 (cx ++ [(nm, Ty.mk tk tks)]) ks[0] with _ | mt2; rotate_left; obtain rfl := hmu _ hE; rotate_left; all_goals simp only [Option.isSome])
 refine aP 11 rfl (qM rfl) rfl ?_
 refine aP 12 rfl (pX rfl rfl) rfl ?_
 refine aP 13 rfl (pX rfl rfl) rfl ?_
 refine A1 15 ?_
 refine H1 rfl ?_
 refine aP 16 rfl (qA rfl) rfl ?_
 refine A0r ?_
 refine I1 (rC rfl (A4 rfl rfl)) (rT rfl) ?_
 exact A6F
 refine aP 11 rfl (qM rfl) rfl ?_
 refine aP 12 rfl (pX rfl rfl) rfl ?_
 refine aP 13 rfl (pX rfl rfl) rfl ?_
 refine A1 15 ?_
 refine H1 rfl ?_
 refine aP 16 rfl (qA rfl) rfl ?_
 refine T1 ?_
 (refine E7 rfl (A2t 4 (.mk tk tks) _ _ _ _ (.inl rfl) hta hma htyN hmr) rfl rfl (fun v G3 hle3 hh => ?_); obtain ⟨mc2, rfl, hmr2⟩ := hh; obtain ⟨p2, c2, e2, rfl, _⟩ := hmr2.open)
 refine E0 ?_
 refine I1 (rC rfl (A4 rfl rfl)) (rT rfl) ?_
 exact A6G
 (refine E3 rfl (A6 rfl) rfl rfl ?_; rintro _ ⟨b273, rfl⟩)
 refine A1 5 ?_
 (refine H0 rfl rfl hMore rfl rfl rfl (fun v G1 hle1 hh => ?_); obtain ⟨pm, cm, rfl, hxm⟩ := hh; have hreM := hre.mono hle1; have hLam := ih ks[0] (List.getElem_mem (by omega)) (d + 1) _ G1 pm (n + 1) cm _ (hvk 0 (by omega)) (by omega) (hcv5 (by omega)) hxm hreM; have htyM := hty.mono hle1)
 refine A1 10 ?_
 focus (refine H0 rfl rfl hLam rfl rfl rfl (fun v G2 hle2 hh => ?_); obtain ⟨mt, mc, rfl, hmr, hma, hmu⟩ := hh; obtain ⟨p1, c1, e1, rfl, _⟩ := hmr.open; have htyN := htyM.mono hle2; rcases hE : P6 (cx ++ [(nm, Ty.mk tk tks)]) ks[0] with _ | mt2; rotate_left; obtain rfl := hmu _ hE; rotate_left; all_goals simp only [Option.isSome])
 refine aP 11 rfl (qM rfl) rfl ?_
 refine aP 12 rfl (pX rfl rfl) rfl ?_
 refine aP 13 rfl (pX rfl rfl) rfl ?_
 refine A1 15 ?_
 refine H1 rfl ?_
 refine aP 16 rfl (qA rfl) rfl ?_
 refine A0r ?_
 refine I1 (rC rfl (A4 rfl rfl)) (rT rfl) ?_
 exact A6F
 refine aP 11 rfl (qM rfl) rfl ?_
 refine aP 12 rfl (pX rfl rfl) rfl ?_
 refine aP 13 rfl (pX rfl rfl) rfl ?_
 refine A1 15 ?_
 refine H1 rfl ?_
 refine aP 16 rfl (qA rfl) rfl ?_
 refine T1 ?_
 (refine E7 rfl (A2t 4 (.mk tk tks) _ _ _ _ (.inl rfl) hta hma htyN hmr) rfl rfl (fun v G3 hle3 hh => ?_); obtain ⟨mc2, rfl, hmr2⟩ := hh; obtain ⟨p2, c2, e2, rfl, _⟩ := hmr2.open)
 refine E0 ?_
 refine I1 (rC rfl (A4 rfl rfl)) (rT rfl) ?_
 exact A6G
 refine E0 ?_
 (refine I7 (C7 rfl rfl rfl (by omega) (by unfold maxLen; omega) rfl) rfl ?_; rintro _ ⟨b351, rfl⟩)
 refine E0 ?_
 refine C1 ?_
 (refine J8 (fun (x : Nat × Option Addr × Nat × List Ty × List (List Value) × IM) => ⟨[(9, .int .i64 x.1), (8, .slice x.2.1 x.1 x.2.2.1), (3, .pointer (some ⟨b3, 0, none⟩)), (4, .pointer (some ⟨b4, 0, none⟩)), (0, .slice p n c)], [.slc x.2.1 x.2.2.1 34 2 x.1 x.2.2.2.2.1.flatten, .blk b4 [.int .i64 0, .slice none 0 0], .blk b3 [.int .i64 k, .string nm, .int .i64 num, .int .i64 tk, .slice pt tks.length ct, .int .i64 fk, .slice pf fks.length cf, .int .i64 lb, .slice q ks.length cq]], x.2.2.2.2.2⟩) (fun x => x.1 ≤ ks.length ∧ C0 G x.2.2.2.2.2 ∧ x.2.2.2.1.length = x.1 ∧ D2 x.2.2.2.2.2 x.2.2.2.1 x.2.2.2.2.1 ∧ (∀ u ∈ x.2.2.2.1, E5 u) ∧ V1 cx (ks.take x.1) = some x.2.2.2.1) (fun x => ks.length - x.1) (0, some ⟨b351, 0, none⟩, 0, [], [], G) ?_ ?_ ?_)
 (simp only [I5]; exact E2)
 (exact ⟨by simp, C0.refl _, rfl, by simp [D2], by simp, by simp [V1]⟩)
 (rintro ⟨i, pn, cn, us, es', Gi⟩ ⟨hi, hle, hlu, hst, hau, hsu⟩; simp only [] at hi hle hlu hst hau hsu ⊢; replace hsl := hsl.mono hle; replace hkl := hkl.mono hle; replace hx := hx.mono hle; replace hr0 := hr0.mono hle)
 refine B2 ?_
 refine sB (J1 rfl rfl) rfl rfl (fun h373 => ?_) (fun h373 => ?_)
 refine A8 ?_
 refine C1 ?_
 refine A8 ?_
 (obtain ⟨b, o, e, rfl, hl, hat, hre, hgb⟩ := hsl.kidTm hkl (i := i) (by omega) (by omega); refine sP (B4 rfl rfl rfl (by omega)) rfl rfl ?_)
 refine sL (A2 rfl rfl (hat _) hl) rfl rfl ?_
 focus (refine E7 rfl (ih ks[i] (List.getElem_mem (by omega)) (d + 1) cx Gi p n c _ (hvk i (by omega)) (by omega) hcv hx hre) rfl rfl (fun v G2 hle2 hh => ?_); obtain ⟨u, uc, rfl, hru, hua, huu⟩ := hh; obtain ⟨p3, c3, e3, rfl, _⟩ := hru.open; rcases hE : P6 cx ks[i] with _ | u2; rotate_left; obtain rfl := huu _ hE; rotate_left; all_goals simp only [Option.isSome])
 refine B6 ?_
 refine sE (A6 rfl) rfl (fun b393 => ?_)
 refine A4i ?_
 refine I1 (rC rfl (A4 rfl rfl)) (rT rfl) ?_
 (rw [f6 (by omega) (B0k (by omega) hE)]; exact Q9.no rfl (O0 _ ⟨by omega, by omega⟩) (V3 (by omega) (by omega)))
 refine B6 ?_
 refine sE (A6 rfl) rfl (fun b425 => ?_)
 refine T1 ?_
 (refine I7 (C7 rfl rfl rfl (by omega) (by unfold maxLen; omega) rfl) rfl ?_; rintro _ ⟨b443, rfl⟩)
 refine A0z rfl rfl rfl rfl rfl (fun _ _ => by repeat (first | exact Sw.here | apply Sw.there)) (M6 (by repeat first | exact mH | apply mT)) rfl (by simp [Value.oneCell']) (by unfold maxLen; omega) (by omega) rfl (fun pn' cn' => ?_)
 refine A8 ?_
 refine sP (J0 rfl rfl (by omega) (by omega)) rfl rfl ?_
 refine A3 ?_
 refine J6 (i + 1, pn', cn', us ++ [u2], es' ++ [[.int .i64 u2.k, .slice p3 u2.ks.length c3]], G2) ?_ ?_ ?_
 (simp only [I5]; exact E2)
 (dsimp only; exact ⟨by omega, hle.trans hle2, by simp [hlu], D2.snoc (hst.mono hle2) hru, A2P hau hua, B0j (by omega) hsu hE⟩)
 exact U8
 refine N0 ?_
 (obtain rfl : i = ks.length := (by omega); rw [List.take_length] at hsu; refine S9 (cs := es'.flatten) (by repeat (first | exact Pk.here | apply Pk.there)) (fun G3 hle3 hsl3 hno3 => ?_); have hst3 := hst.mono hle3; have hRes := B40 cx k nm num (.mk tk tks) (.mk fk fks) lb ks us G3 _ pn cn es' (by rw [hlu]; exact har) (by omega) hta (hr0.mono hle3) (by rw [hlu]; exact D5.of hsl3 (by rw [hst3.len, hlu]) hst3.all (fun e he => (hst3.each e he).2)) hst3 hau; rw [hlu] at hRes; refine E7 rfl hRes rfl rfl (fun v G4 hle4 hh => ?_); obtain ⟨mt, mc, rfl, hmr, hma, hmu⟩ := hh; obtain ⟨p1, c1, e1, rfl, _⟩ := hmr.open)
 refine B2 ?_
 refine I1 (rC rfl (A4 rfl rfl)) (rT rfl) ?_
 (rw [f7 us (by omega) hsu]; exact ⟨rfl, _, _, rfl, hmr, hma, hmu⟩)
theorem B5c {t : Ty} (ha : E5 t) : S2 t = .mk t.k (List.replicate t.ks.length P9) := by
 obtain ⟨k, ks⟩ := t
 rw [E5] at ha
 show (if k = 4 ∨ k = 5 then Ty.mk k [P9, P9] else .mk k []) = _
 show _ = Ty.mk k (List.replicate ks.length P9)
 split
 ·rename_i h; rw [ha.1 h]; rfl
 ·rename_i h
  rw [ha.2.1 (fun e => h (.inl e)) (fun e => h (.inr e))]; rfl
theorem A6H (t : Ty) (G : IM) (cells : List Value) (ha : E5 t) (hr : B9 G t cells) : Fn Tryz.prog 212 [.agg ⟨cells⟩] [] G (A51 (S2 t) G) := by
 rw [B5c ha]
 obtain ⟨tk, tks⟩ := t
 have hsm := ha.small
 rw [Ty.small] at hsm
 obtain ⟨hsm1, _⟩ := hsm
 obtain ⟨p, c, es, rfl, hk, hsl, hkl⟩ := hr.open
 simp only [Ty.k, Ty.ks] at hk hsl hkl ⊢
 have hn := hsl.le
 refine C3 Tryz.func212 rfl Tryz.ntmps212 Tryz.results212 rfl ?_
 intro w0
 refine A3 ?_
 refine sE (C8 rfl rfl) rfl (fun b3 => ?_)
 refine sE (A6 rfl) rfl (fun b4 => ?_)
 refine B2 ?_
 refine sE (A6 rfl) rfl (fun b12 => ?_)
 refine E0 ?_
 refine C1 ?_
 (refine S0 34 2 ?_; refine J8 (fun (x : Nat × Option Addr × Nat × List (List Value)) => ⟨[(4, .int .i64 x.1), (3, .pointer (some ⟨b12, 0, none⟩)), (1, .pointer (some ⟨b3, 0, none⟩)), (2, .pointer (some ⟨b4, 0, none⟩))], [.blk b12 [.int .i64 tk, .slice x.2.1 x.1 x.2.2.1], .slc x.2.1 x.2.2.1 34 2 x.1 x.2.2.2.flatten, .blk b4 [.int .i64 0, .slice none 0 0], .blk b3 [.int .i64 tk, .slice p tks.length c]], G⟩) (fun x => x.1 ≤ tks.length ∧ D2 G (List.replicate x.1 P9) x.2.2.2) (fun x => tks.length - x.1) (0, none, 0, []) ?_ ?_ ?_)
 (simp only [I5]; exact E2)
 (exact ⟨Nat.zero_le _, rfl⟩)
 (rintro ⟨i, pn, cn, es'⟩ ⟨hi, hst⟩; simp only [] at hi hst ⊢; have hsl' := hst.len; rw [List.length_replicate] at hsl')
 refine B2 ?_
 refine sB (J1 rfl rfl) rfl rfl (fun h34 => ?_) (fun h34 => ?_)
 refine A8 ?_
 refine C1 ?_
 refine D7 D8 rfl ?_
 refine I9 (i := 0) (l' := [tt,ff,ff,ff,ff,ff,ff]) rfl D1 (B5 rfl) rfl (by kernel_rfl) rfl rfl ?_
 refine aL 1 rfl (C4 rfl rfl) rfl ?_
 refine A1 2 ?_
 refine M8 rfl rfl ((A1A _)) rfl rfl rfl ?_
 refine A1 3 ?_
 (refine E3 rfl (C7 rfl rfl rfl (by omega) (by unfold maxLen; omega) rfl) rfl rfl ?_; rintro _ ⟨b48, rfl⟩)
 refine A1 4 ?_
 refine Q6 rfl rfl rfl rfl rfl rfl (fun _ _ => by repeat (first | exact Sw.here | apply Sw.there)) (M6 (by repeat first | exact mH | apply mT)) rfl (by simp [Value.oneCell']) (by unfold maxLen; omega) (by omega) rfl rfl (by repeat (first | exact A7.nil | apply A7.dep (by decide +kernel) | apply A7.im (by decide +kernel) (by assumption) (by repeat first | exact mH | apply mT) | apply A7.blk (by decide +kernel) (by repeat (first | exact Pk.here | apply Pk.there)) (by repeat first | exact mH | apply mT) | apply A7.slc (by decide +kernel) (by repeat (first | exact Pk.here | apply Pk.there)) (by repeat first | exact mH | apply mT))) (fun pn' cn' => ?_)
 refine aP 5 rfl (B5 rfl) rfl ?_
 refine A1 6 ?_
 refine Q8 rfl rfl rfl rfl rfl rfl rfl rfl (by decide +kernel) (by repeat first | exact Sw.here | apply Sw.there) (by rfl) ?_
 refine A9 ?_
 refine sP (J0 rfl rfl (by omega) (by omega)) rfl rfl ?_
 refine A3 ?_
 refine J6 (i + 1, pn', cn', es' ++ [[.int .i64 1, .slice none 0 0]]) ?_ ?_ ?_
 (simp only [I5]; exact E2)
 (dsimp only; exact ⟨by omega, by rw [List.replicate_succ']; exact D2.snoc hst (A0u _)⟩)
 (show tks.length - (i + 1) < tks.length - i; omega)
 refine J3 ?_
 (refine F9 (cs := es'.flatten) (by repeat (first | exact Pk.here | apply Pk.there)) (fun G2 hle2 hsl2 hno2 => ?_); obtain rfl : i = tks.length := (by omega))
 refine tT ?_
 refine M7 (rC rfl (A4 rfl rfl)) ?_
 (exact ⟨rfl, _, rfl, (hst.mono hle2).ty (by simp) hsl2 hk⟩)
theorem B0n (t : Ty) (G : IM) (cells : List Value) (ha : E5 t) (hr : B9 G t cells) : Fn Tryz.prog 171 [.agg ⟨cells⟩] [] G (I3 (.bool (S5 t)) G) := by
 refine Fn.forget (post := L8 fun _ v => v = .bool (S5 t)) ?_ (fun _ _ _ h => h.2)
 have hr0 := hr
 have hG := A6H t G cells ha hr
 obtain ⟨tk, tks⟩ := t
 obtain ⟨p, c, es, rfl, hk, _⟩ := hr.open
 simp only [Ty.k, Ty.ks] at hk hr0 hG ⊢
 have hd : S5 (.mk tk tks) = (decide (tk ≠ 1) && N1 (.mk tk tks) (S2 (.mk tk tks))) := rfl
 rw [hd]
 generalize S2 (.mk tk tks) = g at hG ⊢
 refine C3 Tryz.func171 rfl Tryz.ntmps171 Tryz.results171 rfl ?_
 intro w0
 refine A3 ?_
 refine sE (C8 rfl rfl) rfl (fun b3 => ?_)
 refine B1 ?_
 refine D7 D8 rfl ?_
 refine I9 (i := 0) (l' := [tt,ff,ff,ff,ff,ff,ff,ff,ff,ff]) rfl D1 (B5 rfl) rfl (by kernel_rfl) rfl rfl ?_
 refine aL 1 rfl (C4 rfl rfl) rfl ?_
 refine A0y (i := 2) (l' := [tt,tt,tt,ff,ff,ff,ff,ff,ff,ff]) rfl D1 (N9 rfl rfl) rfl (by kernel_rfl) rfl rfl (fun h11 => ?_) (fun h11 => ?_)
 refine aP 3 rfl (qM rfl) rfl ?_
 refine aL 4 rfl (A4 rfl rfl) rfl ?_
 refine aL 5 rfl (A4 rfl rfl) rfl ?_
 refine A1 6 ?_
 (refine H0 rfl rfl hG rfl rfl rfl (fun v G1 hle1 hh => ?_); obtain ⟨cg, rfl, hrg⟩ := hh; have hT := B0h (.mk tk tks) g G1 _ _ (hr0.mono hle1) hrg; obtain ⟨pg, cgg, eg, rfl, _⟩ := hrg.open)
 refine A1 7 ?_
 refine M8 rfl rfl (hT) rfl rfl rfl ?_
 refine aP 8 rfl (M5 rfl rfl) rfl ?_
 refine aP 9 rfl (qA rfl) rfl ?_
 refine B1 ?_
 (refine ⟨rfl, ?_⟩; show Value.bool _ = Value.bool _; rw [decide_eq_true (by omega), Bool.true_and])
 refine aP 3 rfl (qM rfl) rfl ?_
 refine C2 4 rfl rfl rfl ?_
 refine C2 5 rfl rfl rfl ?_
 refine C2 6 rfl rfl rfl ?_
 refine C2 7 rfl rfl rfl ?_
 refine aP 8 rfl (O7 rfl rfl) rfl ?_
 refine aP 9 rfl (qA rfl) rfl ?_
 refine B1 ?_
 (refine ⟨rfl, ?_⟩; show Value.bool _ = Value.bool _; rw [decide_eq_false (by omega), Bool.false_and])
theorem A40 (t : Tm) (G : IM) (cells : List Value) (hr : B0 G t cells) : Fn Tryz.prog 130 [.agg ⟨cells⟩] [] G (I3 (.bool (N2 t)) G) := by
 obtain ⟨k, nm, num, ⟨tk, tks⟩, ⟨fk, fks⟩, lb, ks⟩ := t
 obtain ⟨pt, ct, pf, cf, p, c, es, rfl, hk, hnum, hlb, hty, hfr, hsl, hkl⟩ := hr.open9
 have hd : N2 (.mk k nm num (.mk tk tks) (.mk fk fks) lb ks) = decide (k = 14 ∧ fk = tk ∧ (tk = 4 ∨ tk = 5)) := rfl
 rw [hd]
 refine C3 Tryz.func130 rfl Tryz.ntmps130 Tryz.results130 rfl ?_
 intro w0
 refine A3 ?_
 refine sE (C8 rfl rfl) rfl (fun b3 => ?_)
 refine B2 ?_
 refine sB (qE rfl rfl) rfl rfl (fun h11 => ?_) (fun h11 => ?_)
 refine B2 ?_
 refine sB (qE rfl rfl) rfl rfl (fun h19 => ?_) (fun h19 => ?_)
 refine A9 ?_
 refine sB (qE rfl rfl) rfl rfl (fun h25 => ?_) (fun h25 => ?_)
 refine N0 ?_
 exact A1S
 refine B1 ?_
 refine sB (qE rfl rfl) rfl rfl (fun h43 => ?_) (fun h43 => ?_)
 refine B2 ?_
 exact A1S
 refine B2 ?_
 exact A2l
 refine U0 ?_
 exact A2l
 refine A4i ?_
 exact A2l
theorem A6I (t : Tm) (G : IM) (cells : List Value) (ha : E5 t.fr) (hr : B0 G t cells) : Fn Tryz.prog 131 [.agg ⟨cells⟩] [] G (I3 (.bool (inj t)) G) := by
 obtain ⟨k, nm, num, ⟨tk, tks⟩, ⟨fk, fks⟩, lb, ks⟩ := t
 obtain ⟨pt, ct, pf, cf, p, c, es, rfl, hk, hnum, hlb, hty, hfr, hsl, hkl⟩ := hr.open9
 have hd : inj (.mk k nm num (.mk tk tks) (.mk fk fks) lb ks) = (decide (k = 14 ∧ tk = 1) && S5 (.mk fk fks)) := rfl
 rw [hd]
 have hG := B0n (.mk fk fks) G _ ha hfr
 refine C3 Tryz.func131 rfl Tryz.ntmps131 Tryz.results131 rfl ?_
 intro w0
 refine A3 ?_
 refine sE (C8 rfl rfl) rfl (fun b3 => ?_)
 refine B2 ?_
 refine sB (qE rfl rfl) rfl rfl (fun h11 => ?_) (fun h11 => ?_)
 refine B1 ?_
 refine sB (qE rfl rfl) rfl rfl (fun h16 => ?_) (fun h16 => ?_)
 refine B1 ?_
 refine H6 rfl (hG) rfl rfl ?_
 refine A8 ?_
 (exact ⟨rfl, by rw [decide_eq_true (by omega), Bool.true_and], rfl⟩)
 refine J4 ?_
 exact A4O
 refine J9 ?_
 exact A4O
section
variable {k : Int} {nm : ByteArray} {num : Int} {ty fr : Ty} {lb : Int} {ks : List Tm}
theorem B5d (h : k = 2 ∨ k = 3 ∨ k = 4 ∨ k = 5) : F0 (.mk k nm num ty fr lb ks) = true := by
 rw [F0, if_neg (by omega)]; exact decide_eq_true h
theorem B5e (h : k = 10) (hl : ks.length = 2) : F0 (.mk k nm num ty fr lb ks) = (F0 (ks[0]'(by omega)) && F0 (ks[1]'(by omega))) := by
 rw [A2n (.inl h)]
 obtain ⟨a, b, rfl⟩ := ks2 hl
 simp
theorem B0o (h : N2 (.mk k nm num ty fr lb ks) = true ∨ inj (.mk k nm num ty fr lb ks) = true) (hl : ks.length = 1) : F0 (.mk k nm num ty fr lb ks) = F0 (ks[0]'(by omega)) := by
 rw [A2n (.inr h)]
 obtain ⟨a, rfl⟩ := X1 hl
 simp
theorem B5f (h : ¬(k = 2 ∨ k = 3 ∨ k = 4 ∨ k = 5)) (h10 : k ≠ 10) (h2 : N2 (.mk k nm num ty fr lb ks) = false) (h3 : inj (.mk k nm num ty fr lb ks) = false) : F0 (.mk k nm num ty fr lb ks) = false := by
 rw [A3S h10 h2 h3]; exact decide_eq_false h
theorem B5g (h : N2 (.mk k nm num ty fr lb ks) = true ∨ inj (.mk k nm num ty fr lb ks) = true) : k = 14 := by
 rcases h with h | h
 ·exact (prx_spec' h)
 ·exact A3T h
where
 prx_spec' {k : Int} {nm : ByteArray} {num : Int} {ty fr : Ty} {lb : Int} {ks : List Tm} (h : N2 (.mk k nm num ty fr lb ks) = true) : k = 14 := by rw [A0F] at h; exact (of_decide_eq_true h).1
end
theorem A6J {Q : Prop} (h : Q := by (exact ⟨rfl, by rw [e2 (by omega) hl2]; simp [*], rfl⟩)) : Q := h
theorem A41 {Q : Prop} (h : Q := by (exact ⟨rfl, by rw [e3 (by first | exact .inl (by assumption) | exact .inr (by assumption)) hl1]; simp [*], rfl⟩)) : Q := h
theorem A6K : ∀ (t : Tm) (G : IM) (cells : List Value), cv t → B0 G t cells → Fn Tryz.prog 210 [.agg ⟨cells⟩] [] G (I3 (.bool (F0 t)) G) := by
 refine Tm.ind fun k nm num ty fr lb ks ih G cells hc hr => ?_
 obtain ⟨hN, hkk⟩ := hc.node
 have hop := hN.ops
 have h10 : k = 10 → ks.length = 2 := fun h => by rw [h] at hop; have : D9 10 = 2 := rfl; omega
 have h14 : k = 14 → ks.length = 1 := fun h => by rw [h] at hop; have : D9 14 = 1 := rfl; omega
 have hP := A40 _ G _ hr
 have hI := A6I (.mk k nm num ty fr lb ks) G _ hN.frA hr
 have e1 := @B5d k nm num ty fr lb ks
 have e2 := @B5e k nm num ty fr lb ks
 have e3 := @B0o k nm num ty fr lb ks
 have e4 := @B5f k nm num ty fr lb ks
 have e5 := @B5g k nm num ty fr lb ks
 generalize hpx : N2 (.mk k nm num ty fr lb ks) = bp at hP e3 e4 e5
 generalize hij : inj (.mk k nm num ty fr lb ks) = bi at hI e3 e4 e5
 generalize F0 (.mk k nm num ty fr lb ks) = R at e1 e2 e3 e4 ⊢
 obtain ⟨tk, tks⟩ := ty
 obtain ⟨fk, fks⟩ := fr
 obtain ⟨pt, ct, pf, cf, p, c, es, rfl, hk, hnum, hlb, hty, hfr, hsl, hkl⟩ := hr.open9
 refine C3 Tryz.func210 rfl Tryz.ntmps210 Tryz.results210 rfl ?_
 intro w0
 refine A3 ?_
 refine sE (C8 rfl rfl) rfl (fun b3 => ?_)
 refine J2 ?_
 refine C1 (tS (tS (tR (sB (qE rfl rfl) rfl rfl (fun h18 => ?_) (fun h18 => ?_)))))
 refine J9 ?_
 (exact ⟨rfl, by rw [e1 (by omega)], rfl⟩)
 refine A8 ?_
 refine sB (qE rfl rfl) rfl rfl (fun h42 => ?_) (fun h42 => ?_)
 refine J9 ?_
 (exact ⟨rfl, by rw [e1 (by omega)], rfl⟩)
 refine A8 ?_
 refine sB (qE rfl rfl) rfl rfl (fun h66 => ?_) (fun h66 => ?_)
 refine J9 ?_
 (exact ⟨rfl, by rw [e1 (by omega)], rfl⟩)
 refine A9 ?_
 refine sB (qE rfl rfl) rfl rfl (fun h89 => ?_) (fun h89 => ?_)
 refine K5 ?_
 (exact ⟨rfl, by rw [e1 (by omega)], rfl⟩)
 refine A8 ?_
 refine sB (qE rfl rfl) rfl rfl (fun h110 => ?_) (fun h110 => ?_)
 refine D4 ?_
 (have hl2 := h10 (by omega); obtain ⟨bx, ox, e, rfl, hl, hat, hre, hgb⟩ := hsl.kidTm hkl (i := 0) (by omega) (by omega); have hih := ih ks[0] (List.getElem_mem (by omega)) G e (hkk _ (List.getElem_mem (by omega))) hre; obtain ⟨_, _, e', hp', hl', hat', hre', hgb'⟩ := hsl.kidTm hkl (i := 1) (by omega) (by omega); cases hp'; have hih' := ih ks[1] (List.getElem_mem (by omega)) G e' (hkk _ (List.getElem_mem (by omega))) hre'; refine sP (B4 (j := 0) rfl rfl rfl (by omega)) rfl rfl ?_)
 refine sL (A2 rfl rfl (hat _) hl) rfl rfl ?_
 refine F8 rfl (hih) rfl rfl (fun h121 => ?_) (fun h121 => ?_)
 refine B6 ?_
 refine sP (B4 (j := 1) rfl rfl rfl (by omega)) rfl rfl ?_
 refine sL (A2 rfl rfl (hat' _) hl') rfl rfl ?_
 refine F8 rfl (hih') rfl rfl (fun h127 => ?_) (fun h127 => ?_)
 refine D4 ?_
 exact A6J
 refine D4 ?_
 exact A6J
 refine J3 ?_
 exact A6J
 refine J2 ?_
 refine F8 rfl (hP) rfl rfl (fun h171 => ?_) (fun h171 => ?_)
 refine B2 ?_
 (have hl1 := h14 (by first | exact e5 (.inl (by assumption)) | exact e5 (.inr (by assumption))); obtain ⟨bx, ox, e, rfl, hl, hat, hre, hgb⟩ := hsl.kidTm hkl (i := 0) (by omega) (by omega); have hih := ih ks[0] (List.getElem_mem (by omega)) G e (hkk _ (List.getElem_mem (by omega))) hre; refine sP (B4 (j := 0) rfl rfl rfl (by omega)) rfl rfl ?_)
 refine sL (A2 rfl rfl (hat _) hl) rfl rfl ?_
 refine F8 rfl (hih) rfl rfl (fun h181 => ?_) (fun h181 => ?_)
 refine A8 ?_
 exact A41
 refine A8 ?_
 exact A41
 refine A3 ?_
 refine F8 rfl (hI) rfl rfl (fun h198 => ?_) (fun h198 => ?_)
 refine B1 ?_
 (have hl1 := h14 (by first | exact e5 (.inl (by assumption)) | exact e5 (.inr (by assumption))); obtain ⟨bx, ox, e, rfl, hl, hat, hre, hgb⟩ := hsl.kidTm hkl (i := 0) (by omega) (by omega); have hih := ih ks[0] (List.getElem_mem (by omega)) G e (hkk _ (List.getElem_mem (by omega))) hre; refine sP (B4 (j := 0) rfl rfl rfl (by omega)) rfl rfl ?_)
 refine sL (A2 rfl rfl (hat _) hl) rfl rfl ?_
 refine F8 rfl (hih) rfl rfl (fun h205 => ?_) (fun h205 => ?_)
 refine A8 ?_
 exact A41
 refine A8 ?_
 exact A41
 refine K5 ?_
 (exact ⟨rfl, by rw [e4 (by omega) (by omega) (by assumption) (by assumption)], rfl⟩)
theorem A6L {Q : Prop} (h : Q := by (exact V4.mk (B0.of9 (ks := [e]) ⟨by omega, by omega⟩ ⟨by omega, by omega⟩ hl (hr2.mono hle5) (hr1.mono hle5) hone1 hone2))) : Q := h
theorem A0w (e : Tm) (a b : Ty) (l : Int) (G : IM) (ce ca cb : List Value) (hl : E8 l) (he : B0 G e ce) (ha : B9 G a ca) (hb : B9 G b cb) (hsa : a.small) (hsb : b.small) : Fn Tryz.prog 257 [.agg ⟨ce⟩, .agg ⟨ca⟩, .agg ⟨cb⟩, .int .i64 l] [] G (V4 (J7 e a b l)) := by
 have hel := he.len
 have heo := he.one
 obtain ⟨v1, v2, v3, v4, v5, v6, v7, v8, v9, rfl⟩ := nine hel
 obtain ⟨ak, aks⟩ := a
 obtain ⟨bk, bks⟩ := b
 obtain ⟨pa, cca, ea, rfl, _⟩ := ha.open
 obtain ⟨pb, ccb, eb, rfl, _⟩ := hb.open
 refine C3 Tryz.func257 rfl Tryz.ntmps257 Tryz.results257 rfl ?_
 intro w0
 refine A3 ?_
 refine sE (C8 rfl rfl) rfl (fun b3 => ?_)
 refine sE (C8 rfl rfl) rfl (fun b4 => ?_)
 refine sE (C8 rfl rfl) rfl (fun b5 => ?_)
 refine sE (A6 rfl) rfl (fun b6 => ?_)
 refine B6 ?_
 refine D7 D8 rfl ?_
 refine K7 (i := 0) (l' := [tt,ff,ff,ff,ff,ff,ff,ff,ff]) rfl D1 (A4 rfl rfl) rfl (by kernel_rfl) rfl rfl ?_
 refine aL 2 rfl (A4 rfl rfl) rfl ?_
 refine aP 4 rfl (qM rfl) rfl ?_
 refine aL 5 rfl (A4 rfl rfl) rfl ?_
 refine Q2 (j := 1) (j' := 6) (by kernel_rfl) ?_ ?_
 (refine H0 rfl rfl (O9 (.mk ak aks) _ _ hsa ha) rfl rfl rfl (fun v G1 hle1 hh => ?_); obtain ⟨cs1, F1, rfl, hs1, hn1⟩ := hh; obtain ⟨p1, c1, rfl, _⟩ := hs1.open; have hC2 := O9 _ G1 _ hsb (hb.mono hle1))
 refine Q2 (j := 3) (j' := 6) (by kernel_rfl) ?_ ?_
 (refine H0 rfl rfl hC2 rfl rfl rfl (fun v G2 hle2 hh => ?_); obtain ⟨cs2, F2, rfl, hs2, hn2⟩ := hh; obtain ⟨p2, c2, rfl, _⟩ := hs2.open; have hr1 := hs1.R.mono ((C5.le G1 _).trans hle2); have hr2 := hs2.R.mono (C5.le G2 G1); have hre := he.mono (hle1.trans hle2))
 refine A1 6 ?_
 (refine E3 rfl (C7 rfl rfl rfl (by omega) (by unfold maxLen; omega) rfl) rfl rfl ?_; rintro _ ⟨b20, rfl⟩)
 refine aP 7 rfl (V6 rfl rfl) rfl ?_
 refine A1 8 ?_
 refine H1 rfl ?_
 refine A3 ?_
 (refine F9 (cs := [v1, v2, v3, v4, v5, v6, v7, v8, v9]) (by repeat (first | exact Pk.here | apply Pk.there)) (fun G5 hle5 hsl5 hno5 => ?_); obtain ⟨hone1, hone2⟩ := A2g (hre.mono hle5) hsl5)
 refine tT ?_
 refine M7 (rC rfl (A4 rfl rfl)) ?_
 exact A6L
 (refine E3 rfl (C7 rfl rfl rfl (by omega) (by unfold maxLen; omega) rfl) rfl rfl ?_; rintro _ ⟨b30, rfl⟩)
 refine A1 3 ?_
 (refine H0 rfl rfl hC2 rfl rfl rfl (fun v G2 hle2 hh => ?_); obtain ⟨cs2, F2, rfl, hs2, hn2⟩ := hh; obtain ⟨p2, c2, rfl, _⟩ := hs2.open; have hr1 := hs1.R.mono ((C5.le G1 _).trans hle2); have hr2 := hs2.R.mono (C5.le G2 G1); have hre := he.mono (hle1.trans hle2))
 refine aP 7 rfl (V6 rfl rfl) rfl ?_
 refine A1 8 ?_
 refine H1 rfl ?_
 refine A3 ?_
 (refine F9 (cs := [v1, v2, v3, v4, v5, v6, v7, v8, v9]) (by repeat (first | exact Pk.here | apply Pk.there)) (fun G5 hle5 hsl5 hno5 => ?_); obtain ⟨hone1, hone2⟩ := A2g (hre.mono hle5) hsl5)
 refine tT ?_
 refine M7 (rC rfl (A4 rfl rfl)) ?_
 exact A6L
 (refine E3 rfl (C7 rfl rfl rfl (by omega) (by unfold maxLen; omega) rfl) rfl rfl ?_; rintro _ ⟨b42, rfl⟩)
 refine A1 1 ?_
 (refine H0 rfl rfl (O9 (.mk ak aks) _ _ hsa ha) rfl rfl rfl (fun v G1 hle1 hh => ?_); obtain ⟨cs1, F1, rfl, hs1, hn1⟩ := hh; obtain ⟨p1, c1, rfl, _⟩ := hs1.open; have hC2 := O9 _ G1 _ hsb (hb.mono hle1))
 refine A1 3 ?_
 (refine H0 rfl rfl hC2 rfl rfl rfl (fun v G2 hle2 hh => ?_); obtain ⟨cs2, F2, rfl, hs2, hn2⟩ := hh; obtain ⟨p2, c2, rfl, _⟩ := hs2.open; have hr1 := hs1.R.mono ((C5.le G1 _).trans hle2); have hr2 := hs2.R.mono (C5.le G2 G1); have hre := he.mono (hle1.trans hle2))
 refine aP 7 rfl (V6 rfl rfl) rfl ?_
 refine A1 8 ?_
 refine H1 rfl ?_
 refine A3 ?_
 (refine F9 (cs := [v1, v2, v3, v4, v5, v6, v7, v8, v9]) (by repeat (first | exact Pk.here | apply Pk.there)) (fun G5 hle5 hsl5 hno5 => ?_); obtain ⟨hone1, hone2⟩ := A2g (hre.mono hle5) hsl5)
 refine tT ?_
 refine M7 (rC rfl (A4 rfl rfl)) ?_
 exact A6L
theorem B5h (G : IM) : Fn Tryz.prog 258 [.bool true] [] G (V4 (X8 (true = true))) := by
 refine C3 Tryz.func258 rfl Tryz.ntmps258 Tryz.results258 rfl ?_
 intro w0
 refine A3 ?_
 refine sE (A6 rfl) rfl (fun b3 => ?_)
 refine T1 ?_
 refine M7 (rC rfl (A4 rfl rfl)) ?_
 exact A4P
theorem B5i (G : IM) : Fn Tryz.prog 258 [.bool false] [] G (V4 (X8 (false = true))) := by
 refine C3 Tryz.func258 rfl Tryz.ntmps258 Tryz.results258 rfl ?_
 intro w0
 refine A3 ?_
 refine sE (A6 rfl) rfl (fun b3 => ?_)
 refine U0 ?_
 refine M7 (rC rfl (A4 rfl rfl)) ?_
 exact A4P
theorem B0p (b : Bool) (G : IM) : Fn Tryz.prog 258 [.bool b] [] G (V4 (X8 (b = true))) := by
 cases b
 ·exact B5i G
 ·exact B5h G
theorem A6M {Q : Prop} (h : Q := by (dsimp only; exact ⟨by omega, hle.trans hle3, by rw [A9r (by omega)]; exact D0.snoc (hst.mono hle3) hru⟩)) : Q := h
theorem A6N {Q : Prop} (h : Q := by (rw [if_neg (by rintro ⟨h1, h2⟩; first | omega | contradiction), if_neg (by rintro ⟨h1, h2⟩; first | omega | contradiction)]; rw [List.take_of_length_le (by rw [A1e]; omega)] at hst; exact V4.mk (B0.put hk hnum hlb (hty1.mono hle4) (hfr1.mono hle4) (by rw [A1e]) (D5.of hsl4 (by omega) hst.all (fun e he => (hst.each e he).2)) (hst.mono hle4)))) : Q := h
theorem B5j (y : ByteArray) (v : Tm) (vc : List Value) (hvs : v.small) : ∀ (t : Tm) (G : IM) (cells : List Value), t.small → B0 G t cells → B0 G v vc → Fn Tryz.prog 256 [.agg ⟨cells⟩, .string y, .agg ⟨vc⟩] [] G (V4 (W0 y v t)) := by
 refine Tm.ind fun k nm num ty fr lb ks ih G cells hts hr hv => ?_
 have hr0 := hr
 have hts0 := hts
 obtain ⟨_, htsm, hfsm, hsm, hks⟩ := A0a.1 hts
 have hvl := hv.len
 have hvo := hv.one
 have hRl := hr.len
 have hRo := hr.one
 rw [W0]
 have hCv := A2L v G vc hvs hv
 have hCt := A2L _ G cells hts0 hr0
 obtain ⟨tk, tks⟩ := ty
 obtain ⟨fk, fks⟩ := fr
 obtain ⟨pt, ct, pf, cf, p, c, es, rfl, hk, hnum, hlb, hty, hfr, hsl, hkl⟩ := hr.open9
 have hn := hsl.le
 refine C3 Tryz.func256 rfl Tryz.ntmps256 Tryz.results256 rfl ?_
 intro w0
 refine A3 ?_
 refine sE (C8 rfl rfl) rfl (fun b3 => ?_)
 refine sE (C8 rfl rfl) rfl (fun b4 => ?_)
 refine sE (A6 rfl) rfl (fun b5 => ?_)
 refine B2 ?_
 refine sB (qE rfl rfl) rfl rfl (fun h13 => ?_) (fun h13 => ?_)
 refine B1 ?_
 refine sB (A04 rfl rfl) rfl rfl (fun h18 => ?_) (fun h18 => ?_)
 refine A8 ?_
 refine sL (A2 rfl rfl (B3 (by repeat first | exact mH | apply mT)) hvl) rfl rfl ?_
 (refine E7 rfl hCv rfl rfl (fun v9 G1 hle1 hh => ?_); obtain ⟨uc, F1, rfl, hs1, hn1⟩ := hh; have hru := hs1.R.mono (C5.le G1 G); have hul := hru.len; have huo := hru.one)
 refine sS rfl rfl rfl hul huo rfl ?_ (hu := by exact D6 hul.symm)
 refine B1 ?_
 refine M7 (rC rfl (A2 rfl rfl (B3 (by repeat first | exact mH | apply mT)) hul)) ?_
 (rw [if_pos (by refine ⟨by omega, by assumption⟩)]; exact V4.mk hru)
 refine J4 ?_
 refine sP (H9 rfl rfl (by omega)) rfl rfl ?_
 refine J3 ?_
 refine sE (A6 rfl) rfl (fun b60 => ?_)
 refine B2 ?_
 (refine E7 rfl (O9 (.mk tk tks) _ _ htsm hty) rfl rfl (fun v9 G1 hle1 hh => ?_); obtain ⟨cs1, F1, rfl, hs1, hn1⟩ := hh; obtain ⟨q1, c1, rfl, _⟩ := hs1.open; have hC2 := O9 (.mk fk fks) G1 _ hfsm (hfr.mono hle1))
 refine D4 ?_
 (refine E7 rfl hC2 rfl rfl (fun v9 G2 hle2 hh => ?_); obtain ⟨cs2, F2, rfl, hs2, hn2⟩ := hh; obtain ⟨q2, c2, rfl, _⟩ := hs2.open; have hty1 := hs1.R.mono ((C5.le G1 _).trans hle2); have hfr1 := hs2.R.mono (C5.le G2 G1); have hle12 := hle1.trans hle2; replace hsl := hsl.mono hle12; replace hkl := hkl.mono hle12; replace hv := hv.mono hle12)
 refine J9 ?_
 refine C1 ?_
 (refine S0 37 9 ?_; refine J8 (fun (x : Nat × Option Addr × Nat × List (List Value) × IM) => ⟨[(8, .int .i64 x.1), (1, .string y), (3, .pointer (some ⟨b3, 0, none⟩)), (5, .pointer (some ⟨b4, 0, none⟩)), (6, .pointer (some ⟨b5, 0, none⟩)), (7, .pointer (some ⟨b60, 0, none⟩))], [.blk b60 [.int .i64 k, .string nm, .int .i64 num, .int .i64 tk, .slice q1 tks.length c1, .int .i64 fk, .slice q2 fks.length c2, .int .i64 lb, .slice x.2.1 x.1 x.2.2.1], .slc x.2.1 x.2.2.1 37 9 x.1 x.2.2.2.1.flatten, .blk b5 [.int .i64 0, .string ⟨⟨[]⟩⟩, .int .i64 0, .int .i64 0, .slice none 0 0, .int .i64 0, .slice none 0 0, .int .i64 0, .slice none 0 0], .blk b4 vc, .blk b3 [.int .i64 k, .string nm, .int .i64 num, .int .i64 tk, .slice pt tks.length ct, .int .i64 fk, .slice pf fks.length cf, .int .i64 lb, .slice p ks.length c]], x.2.2.2.2⟩) (fun x => x.1 ≤ ks.length ∧ C0 G2 x.2.2.2.2 ∧ D0 x.2.2.2.2 ((T5 y v ks).take x.1) x.2.2.2.1) (fun x => ks.length - x.1) (0, none, 0, [], G2) ?_ ?_ ?_)
 (simp only [I5]; exact E2)
 exact A2Y
 (rintro ⟨i, pn, cn, es', Gi⟩ ⟨hi, hle, hst⟩; simp only [] at hi hle hst ⊢; replace hsl := hsl.mono hle; replace hkl := hkl.mono hle; replace hv := hv.mono hle; replace hty1 := hty1.mono hle; replace hfr1 := hfr1.mono hle; have hsl' := hst.len; rw [List.length_take, A1e] at hsl')
 refine B2 ?_
 refine sB (J1 rfl rfl) rfl rfl (fun h106 => ?_) (fun h106 => ?_)
 refine A8 ?_
 refine C1 ?_
 (have hil : i < ks.length := (by omega); obtain ⟨bx, ox, e, rfl, hl, hat, hre, hgb⟩ := hsl.kidTm hkl (i := i) (by omega) (by omega); have hel := hre.len; have heo := hre.one; refine D7 D8 rfl ?_)
 refine K7 (i := 8) (l' := [ff,ff,ff,ff,ff,ff,ff,ff,tt,ff,ff,ff,ff,ff]) rfl D1 (A2 rfl rfl (B3 (by repeat first | exact mH | apply mT)) hvl) rfl (by kernel_rfl) rfl rfl ?_
 refine aP 0 rfl (B5 rfl) rfl ?_
 refine aL 1 rfl (C4 rfl rfl) rfl ?_
 refine aP 2 rfl (B5 rfl) rfl ?_
 refine aL 3 rfl (C4 rfl rfl) rfl ?_
 refine aP 4 rfl (qM rfl) rfl ?_
 refine aP 5 rfl (B4 (j := i) rfl rfl rfl (by omega)) rfl ?_
 refine aL 6 rfl (A2 rfl rfl (hat _) hl) rfl ?_
 refine aP 7 rfl (qM rfl) rfl ?_
 refine A1 9 ?_
 (refine H0 rfl rfl (ih ks[i] (List.getElem_mem (by omega)) Gi _ (Tm.smallL_mem hks _ (List.getElem_mem (by omega))) hre hv) rfl rfl rfl (fun u G3 hle3 hh => ?_); obtain ⟨uc, rfl, hru⟩ := hh; have hul := hru.len; have huo := hru.one; obtain ⟨v1, v2, v3, v4, v5, v6, v7, v8, v9, rfl⟩ := nine hul)
 refine A1 10 ?_
 (refine E3 rfl (C7 rfl rfl rfl (by omega) (by unfold maxLen; omega) rfl) rfl rfl ?_; rintro _ ⟨b127, rfl⟩)
 refine A1 11 ?_
 (refine Q6 rfl rfl rfl rfl rfl rfl (fun _ _ => by repeat (first | exact Sw.here | apply Sw.there)) (M6 (by repeat first | exact mH | apply mT)) rfl (fun u hu => List.all_eq_true.1 huo u hu) (by unfold maxLen; omega) (by omega) rfl rfl (by repeat (first | exact A7.nil | apply A7.dep (by decide +kernel) | apply A7.im (by decide +kernel) (by assumption) (by repeat first | exact mH | apply mT) | apply A7.blk (by decide +kernel) (by repeat (first | exact Pk.here | apply Pk.there)) (by repeat first | exact mH | apply mT) | apply A7.slc (by decide +kernel) (by repeat (first | exact Pk.here | apply Pk.there)) (by repeat first | exact mH | apply mT))) (fun p7 c7 => ?_))
 refine aP 12 rfl (B5 rfl) rfl ?_
 refine A1 13 ?_
 refine Q8 rfl rfl rfl rfl rfl rfl rfl rfl (by decide +kernel) (by repeat first | exact Sw.here | apply Sw.there) (by rfl) ?_
 refine A9 ?_
 refine sP (J0 rfl rfl (by omega) (by omega)) rfl rfl ?_
 refine A3 ?_
 refine J6 (i + 1, p7, c7, es' ++ [[v1, v2, v3, v4, v5, v6, v7, v8, v9]], G3) ?_ ?_ ?_
 (simp only [I5]; exact E2)
 exact A6M
 exact U8
 refine J3 ?_
 (refine F9 (cs := es'.flatten) (by repeat (first | exact Pk.here | apply Pk.there)) (fun G4 hle4 hsl4 hno4 => ?_); obtain rfl : i = ks.length := (by omega))
 refine tT ?_
 refine M7 (rC rfl (A4 rfl rfl)) ?_
 exact A6N
 refine J9 ?_
 refine sB (qE rfl rfl) rfl rfl (fun h179 => ?_) (fun h179 => ?_)
 refine B1 ?_
 refine sB (A04 rfl rfl) rfl rfl (fun h184 => ?_) (fun h184 => ?_)
 refine B2 ?_
 (refine E7 rfl hCt rfl rfl (fun v9 G1 hle1 hh => ?_); obtain ⟨uc, F1, rfl, hs1, hn1⟩ := hh; have hru := hs1.R.mono (C5.le G1 G); have hul := hru.len; have huo := hru.one)
 refine sS rfl rfl rfl hul huo rfl ?_ (hu := by exact D6 hul.symm)
 refine B1 ?_
 refine M7 (rC rfl (A2 rfl rfl (B3 (by repeat first | exact mH | apply mT)) hul)) ?_
 (rw [if_neg (by rintro ⟨h1, h2⟩; first | omega | contradiction), if_pos (by refine ⟨by omega, by assumption⟩)]; exact V4.mk hru)
 refine E0 ?_
 refine sE (A6 rfl) rfl (fun b209 => ?_)
 refine B2 ?_
 (refine E7 rfl (O9 (.mk tk tks) _ _ htsm hty) rfl rfl (fun v9 G1 hle1 hh => ?_); obtain ⟨cs1, F1, rfl, hs1, hn1⟩ := hh; obtain ⟨q1, c1, rfl, _⟩ := hs1.open; have hC2 := O9 (.mk fk fks) G1 _ hfsm (hfr.mono hle1))
 refine D4 ?_
 (refine E7 rfl hC2 rfl rfl (fun v9 G2 hle2 hh => ?_); obtain ⟨cs2, F2, rfl, hs2, hn2⟩ := hh; obtain ⟨q2, c2, rfl, _⟩ := hs2.open; have hty1 := hs1.R.mono ((C5.le G1 _).trans hle2); have hfr1 := hs2.R.mono (C5.le G2 G1); have hle12 := hle1.trans hle2; replace hsl := hsl.mono hle12; replace hkl := hkl.mono hle12; replace hv := hv.mono hle12)
 refine J9 ?_
 refine C1 ?_
 (refine S0 37 9 ?_; refine J8 (fun (x : Nat × Option Addr × Nat × List (List Value) × IM) => ⟨[(8, .int .i64 x.1), (1, .string y), (3, .pointer (some ⟨b3, 0, none⟩)), (5, .pointer (some ⟨b4, 0, none⟩)), (6, .pointer (some ⟨b5, 0, none⟩)), (7, .pointer (some ⟨b209, 0, none⟩))], [.blk b209 [.int .i64 k, .string nm, .int .i64 num, .int .i64 tk, .slice q1 tks.length c1, .int .i64 fk, .slice q2 fks.length c2, .int .i64 lb, .slice x.2.1 x.1 x.2.2.1], .slc x.2.1 x.2.2.1 37 9 x.1 x.2.2.2.1.flatten, .blk b5 [.int .i64 0, .string ⟨⟨[]⟩⟩, .int .i64 0, .int .i64 0, .slice none 0 0, .int .i64 0, .slice none 0 0, .int .i64 0, .slice none 0 0], .blk b4 vc, .blk b3 [.int .i64 k, .string nm, .int .i64 num, .int .i64 tk, .slice pt tks.length ct, .int .i64 fk, .slice pf fks.length cf, .int .i64 lb, .slice p ks.length c]], x.2.2.2.2⟩) (fun x => x.1 ≤ ks.length ∧ C0 G2 x.2.2.2.2 ∧ D0 x.2.2.2.2 ((T5 y v ks).take x.1) x.2.2.2.1) (fun x => ks.length - x.1) (0, none, 0, [], G2) ?_ ?_ ?_)
 (simp only [I5]; exact E2)
 exact A2Y
 (rintro ⟨i, pn, cn, es', Gi⟩ ⟨hi, hle, hst⟩; simp only [] at hi hle hst ⊢; replace hsl := hsl.mono hle; replace hkl := hkl.mono hle; replace hv := hv.mono hle; replace hty1 := hty1.mono hle; replace hfr1 := hfr1.mono hle; have hsl' := hst.len; rw [List.length_take, A1e] at hsl')
 refine B2 ?_
 refine sB (J1 rfl rfl) rfl rfl (fun h255 => ?_) (fun h255 => ?_)
 refine A8 ?_
 refine C1 ?_
 (have hil : i < ks.length := (by omega); obtain ⟨bx, ox, e, rfl, hl, hat, hre, hgb⟩ := hsl.kidTm hkl (i := i) (by omega) (by omega); have hel := hre.len; have heo := hre.one; refine D7 D8 rfl ?_)
 refine K7 (i := 8) (l' := [ff,ff,ff,ff,ff,ff,ff,ff,tt,ff,ff,ff,ff,ff]) rfl D1 (A2 rfl rfl (B3 (by repeat first | exact mH | apply mT)) hvl) rfl (by kernel_rfl) rfl rfl ?_
 refine aP 0 rfl (B5 rfl) rfl ?_
 refine aL 1 rfl (C4 rfl rfl) rfl ?_
 refine aP 2 rfl (B5 rfl) rfl ?_
 refine aL 3 rfl (C4 rfl rfl) rfl ?_
 refine aP 4 rfl (qM rfl) rfl ?_
 refine aP 5 rfl (B4 (j := i) rfl rfl rfl (by omega)) rfl ?_
 refine aL 6 rfl (A2 rfl rfl (hat _) hl) rfl ?_
 refine aP 7 rfl (qM rfl) rfl ?_
 refine A1 9 ?_
 (refine H0 rfl rfl (ih ks[i] (List.getElem_mem (by omega)) Gi _ (Tm.smallL_mem hks _ (List.getElem_mem (by omega))) hre hv) rfl rfl rfl (fun u G3 hle3 hh => ?_); obtain ⟨uc, rfl, hru⟩ := hh; have hul := hru.len; have huo := hru.one; obtain ⟨v1, v2, v3, v4, v5, v6, v7, v8, v9, rfl⟩ := nine hul)
 refine A1 10 ?_
 (refine E3 rfl (C7 rfl rfl rfl (by omega) (by unfold maxLen; omega) rfl) rfl rfl ?_; rintro _ ⟨b276, rfl⟩)
 refine A1 11 ?_
 (refine Q6 rfl rfl rfl rfl rfl rfl (fun _ _ => by repeat (first | exact Sw.here | apply Sw.there)) (M6 (by repeat first | exact mH | apply mT)) rfl (fun u hu => List.all_eq_true.1 huo u hu) (by unfold maxLen; omega) (by omega) rfl rfl (by repeat (first | exact A7.nil | apply A7.dep (by decide +kernel) | apply A7.im (by decide +kernel) (by assumption) (by repeat first | exact mH | apply mT) | apply A7.blk (by decide +kernel) (by repeat (first | exact Pk.here | apply Pk.there)) (by repeat first | exact mH | apply mT) | apply A7.slc (by decide +kernel) (by repeat (first | exact Pk.here | apply Pk.there)) (by repeat first | exact mH | apply mT))) (fun p7 c7 => ?_))
 refine aP 12 rfl (B5 rfl) rfl ?_
 refine A1 13 ?_
 refine Q8 rfl rfl rfl rfl rfl rfl rfl rfl (by decide +kernel) (by repeat first | exact Sw.here | apply Sw.there) (by rfl) ?_
 refine A9 ?_
 refine sP (J0 rfl rfl (by omega) (by omega)) rfl rfl ?_
 refine A3 ?_
 refine J6 (i + 1, p7, c7, es' ++ [[v1, v2, v3, v4, v5, v6, v7, v8, v9]], G3) ?_ ?_ ?_
 (simp only [I5]; exact E2)
 exact A6M
 exact U8
 refine J3 ?_
 (refine F9 (cs := es'.flatten) (by repeat (first | exact Pk.here | apply Pk.there)) (fun G4 hle4 hsl4 hno4 => ?_); obtain rfl : i = ks.length := (by omega))
 refine tT ?_
 refine M7 (rC rfl (A4 rfl rfl)) ?_
 exact A6N
 refine J3 ?_
 refine sE (A6 rfl) rfl (fun b326 => ?_)
 refine B2 ?_
 (refine E7 rfl (O9 (.mk tk tks) _ _ htsm hty) rfl rfl (fun v9 G1 hle1 hh => ?_); obtain ⟨cs1, F1, rfl, hs1, hn1⟩ := hh; obtain ⟨q1, c1, rfl, _⟩ := hs1.open; have hC2 := O9 (.mk fk fks) G1 _ hfsm (hfr.mono hle1))
 refine D4 ?_
 (refine E7 rfl hC2 rfl rfl (fun v9 G2 hle2 hh => ?_); obtain ⟨cs2, F2, rfl, hs2, hn2⟩ := hh; obtain ⟨q2, c2, rfl, _⟩ := hs2.open; have hty1 := hs1.R.mono ((C5.le G1 _).trans hle2); have hfr1 := hs2.R.mono (C5.le G2 G1); have hle12 := hle1.trans hle2; replace hsl := hsl.mono hle12; replace hkl := hkl.mono hle12; replace hv := hv.mono hle12)
 refine J9 ?_
 refine C1 ?_
 (refine S0 37 9 ?_; refine J8 (fun (x : Nat × Option Addr × Nat × List (List Value) × IM) => ⟨[(8, .int .i64 x.1), (1, .string y), (3, .pointer (some ⟨b3, 0, none⟩)), (5, .pointer (some ⟨b4, 0, none⟩)), (6, .pointer (some ⟨b5, 0, none⟩)), (7, .pointer (some ⟨b326, 0, none⟩))], [.blk b326 [.int .i64 k, .string nm, .int .i64 num, .int .i64 tk, .slice q1 tks.length c1, .int .i64 fk, .slice q2 fks.length c2, .int .i64 lb, .slice x.2.1 x.1 x.2.2.1], .slc x.2.1 x.2.2.1 37 9 x.1 x.2.2.2.1.flatten, .blk b5 [.int .i64 0, .string ⟨⟨[]⟩⟩, .int .i64 0, .int .i64 0, .slice none 0 0, .int .i64 0, .slice none 0 0, .int .i64 0, .slice none 0 0], .blk b4 vc, .blk b3 [.int .i64 k, .string nm, .int .i64 num, .int .i64 tk, .slice pt tks.length ct, .int .i64 fk, .slice pf fks.length cf, .int .i64 lb, .slice p ks.length c]], x.2.2.2.2⟩) (fun x => x.1 ≤ ks.length ∧ C0 G2 x.2.2.2.2 ∧ D0 x.2.2.2.2 ((T5 y v ks).take x.1) x.2.2.2.1) (fun x => ks.length - x.1) (0, none, 0, [], G2) ?_ ?_ ?_)
 (simp only [I5]; exact E2)
 exact A2Y
 (rintro ⟨i, pn, cn, es', Gi⟩ ⟨hi, hle, hst⟩; simp only [] at hi hle hst ⊢; replace hsl := hsl.mono hle; replace hkl := hkl.mono hle; replace hv := hv.mono hle; replace hty1 := hty1.mono hle; replace hfr1 := hfr1.mono hle; have hsl' := hst.len; rw [List.length_take, A1e] at hsl')
 refine B2 ?_
 refine sB (J1 rfl rfl) rfl rfl (fun h372 => ?_) (fun h372 => ?_)
 refine A8 ?_
 refine C1 ?_
 (have hil : i < ks.length := (by omega); obtain ⟨bx, ox, e, rfl, hl, hat, hre, hgb⟩ := hsl.kidTm hkl (i := i) (by omega) (by omega); have hel := hre.len; have heo := hre.one; refine D7 D8 rfl ?_)
 refine K7 (i := 8) (l' := [ff,ff,ff,ff,ff,ff,ff,ff,tt,ff,ff,ff,ff,ff]) rfl D1 (A2 rfl rfl (B3 (by repeat first | exact mH | apply mT)) hvl) rfl (by kernel_rfl) rfl rfl ?_
 refine aP 0 rfl (B5 rfl) rfl ?_
 refine aL 1 rfl (C4 rfl rfl) rfl ?_
 refine aP 2 rfl (B5 rfl) rfl ?_
 refine aL 3 rfl (C4 rfl rfl) rfl ?_
 refine aP 4 rfl (qM rfl) rfl ?_
 refine aP 5 rfl (B4 (j := i) rfl rfl rfl (by omega)) rfl ?_
 refine aL 6 rfl (A2 rfl rfl (hat _) hl) rfl ?_
 refine aP 7 rfl (qM rfl) rfl ?_
 refine A1 9 ?_
 (refine H0 rfl rfl (ih ks[i] (List.getElem_mem (by omega)) Gi _ (Tm.smallL_mem hks _ (List.getElem_mem (by omega))) hre hv) rfl rfl rfl (fun u G3 hle3 hh => ?_); obtain ⟨uc, rfl, hru⟩ := hh; have hul := hru.len; have huo := hru.one; obtain ⟨v1, v2, v3, v4, v5, v6, v7, v8, v9, rfl⟩ := nine hul)
 refine A1 10 ?_
 (refine E3 rfl (C7 rfl rfl rfl (by omega) (by unfold maxLen; omega) rfl) rfl rfl ?_; rintro _ ⟨b393, rfl⟩)
 refine A1 11 ?_
 (refine Q6 rfl rfl rfl rfl rfl rfl (fun _ _ => by repeat (first | exact Sw.here | apply Sw.there)) (M6 (by repeat first | exact mH | apply mT)) rfl (fun u hu => List.all_eq_true.1 huo u hu) (by unfold maxLen; omega) (by omega) rfl rfl (by repeat (first | exact A7.nil | apply A7.dep (by decide +kernel) | apply A7.im (by decide +kernel) (by assumption) (by repeat first | exact mH | apply mT) | apply A7.blk (by decide +kernel) (by repeat (first | exact Pk.here | apply Pk.there)) (by repeat first | exact mH | apply mT) | apply A7.slc (by decide +kernel) (by repeat (first | exact Pk.here | apply Pk.there)) (by repeat first | exact mH | apply mT))) (fun p7 c7 => ?_))
 refine aP 12 rfl (B5 rfl) rfl ?_
 refine A1 13 ?_
 refine Q8 rfl rfl rfl rfl rfl rfl rfl rfl (by decide +kernel) (by repeat first | exact Sw.here | apply Sw.there) (by rfl) ?_
 refine A9 ?_
 refine sP (J0 rfl rfl (by omega) (by omega)) rfl rfl ?_
 refine A3 ?_
 refine J6 (i + 1, p7, c7, es' ++ [[v1, v2, v3, v4, v5, v6, v7, v8, v9]], G3) ?_ ?_ ?_
 (simp only [I5]; exact E2)
 exact A6M
 exact U8
 refine J3 ?_
 (refine F9 (cs := es'.flatten) (by repeat (first | exact Pk.here | apply Pk.there)) (fun G4 hle4 hsl4 hno4 => ?_); obtain rfl : i = ks.length := (by omega))
 refine tT ?_
 refine M7 (rC rfl (A4 rfl rfl)) ?_
 exact A6N
theorem B0q (k : Int) (a b : Tm) (G : IM) (ca cb : List Value) (hk78 : k = 7 ∨ k = 8) (hca : 0 ≤ a.num ∧ a.num ≤ 999) (hcb : 0 ≤ b.num ∧ b.num ≤ 999) (hra : B0 G a ca) (hrb : B0 G b cb) : Fn Tryz.prog 249 [.int .i64 k, .agg ⟨ca⟩, .agg ⟨cb⟩] [] G (L5 (O2 k B7 B7 0 [a, b])) := by
 obtain ⟨ak, anm, anum, ⟨atk, atks⟩, ⟨afk, afks⟩, alb, aks⟩ := a
 obtain ⟨bk, bnm, bnum, ⟨btk, btks⟩, ⟨bfk, bfks⟩, blb, bks⟩ := b
 obtain ⟨apt, act, apf, acf, ap, ac, aes, rfl, hak, hanum, halb, haty, hafr, hasl, hakl⟩ := hra.open9
 obtain ⟨bpt, bct, bpf, bcf, bp, bc, bes, rfl, hbk, hbnum, hblb, hbty, hbfr, hbsl, hbkl⟩ := hrb.open9
 simp only [Tm.num] at hca hcb
 have hR : O2 k B7 B7 0 [Tm.mk ak anm anum (.mk atk atks) (.mk afk afks) alb aks, Tm.mk bk bnm bnum (.mk btk btks) (.mk bfk bfks) blb bks] = (if ak = 2 ∧ bk = 2 then (if k = 7 then A1N ((anum + bnum) % 1000) else X8 (anum < bnum), 1, 0) else P5) := by
  unfold O2; rw [if_neg (by omega), if_pos hk78]; rfl
 rw [hR]
 have htm : (anum + bnum).tmod 1000 = (anum + bnum) % 1000 := A9t hca hcb
 have hb : E8 ((anum + bnum) % 1000) := ⟨by omega, by omega⟩
 refine C3 Tryz.func249 rfl Tryz.ntmps249 Tryz.results249 rfl ?_
 intro w0
 refine A3 ?_
 refine sE (C8 rfl rfl) rfl (fun b3 => ?_)
 refine sE (C8 rfl rfl) rfl (fun b4 => ?_)
 refine sE (A6 rfl) rfl (fun b5 => ?_)
 refine E0 ?_
 refine sB (N9 rfl rfl) rfl rfl (fun h15 => ?_) (fun h15 => ?_)
 refine U0 ?_
 refine C9 (rC rfl (A4 rfl rfl)) (rT rfl) (rT rfl) ?_
 (exact L5.mk (by rw [if_neg (by omega)]; rfl) (O6 _))
 refine B6 ?_
 refine sB (N9 rfl rfl) rfl rfl (fun h39 => ?_) (fun h39 => ?_)
 refine J3 ?_
 refine C9 (rC rfl (A4 rfl rfl)) (rT rfl) (rT rfl) ?_
 (exact L5.mk (by rw [if_neg (by omega)]; rfl) (O6 _))
 refine J2 ?_
 refine sB (qE rfl rfl) rfl rfl (fun h66 => ?_) (fun h66 => ?_)
 refine E0 ?_
 refine sP (J0 rfl rfl (by omega) (by omega)) rfl rfl ?_
 refine sP (A3g rfl rfl (by omega)) rfl rfl ?_
 (rw [htm]; refine H6 rfl (A2e _ _) rfl rfl ?_)
 refine B2 ?_
 refine C9 (rC rfl (A4 rfl rfl)) (rT rfl) (rT rfl) ?_
 (exact L5.mk (u := A1N (HMod.hMod (anum + bnum) 1000)) (by rw [if_pos ⟨by omega, by omega⟩, if_pos (by omega)]) (B0.put (us := []) ⟨by decide, by decide⟩ hb ⟨by decide, by decide⟩ (A1B _) (A1B _) rfl (D5.nil _ _) rfl))
 refine J4 ?_
 (refine sB (J1 rfl rfl) rfl rfl (fun h99 => ?_) (fun h99 => ?_))
 (refine E7 rfl (B0p _ _) rfl rfl (fun u G1 hle1 hh => ?_); obtain ⟨uc, rfl, hru⟩ := hh; have hul := hru.len; have huo := hru.one)
 refine sS rfl rfl rfl hul huo rfl ?_ (hu := by exact D6 hul.symm)
 refine A9 ?_
 refine C9 (rC rfl (A2 rfl rfl (B3 (by repeat first | exact mH | apply mT)) hul)) (rT rfl) (rT rfl) ?_
 (exact L5.mk (by rw [if_pos ⟨by omega, by omega⟩, if_neg (by omega)]; unfold X8; rw [if_pos (by omega), if_pos rfl]) hru)
 (refine E7 rfl (B0p _ _) rfl rfl (fun u G1 hle1 hh => ?_); obtain ⟨uc, rfl, hru⟩ := hh; have hul := hru.len; have huo := hru.one)
 refine sS rfl rfl rfl hul huo rfl ?_ (hu := by exact D6 hul.symm)
 refine A9 ?_
 refine C9 (rC rfl (A2 rfl rfl (B3 (by repeat first | exact mH | apply mT)) hul)) (rT rfl) (rT rfl) ?_
 (exact L5.mk (by rw [if_pos ⟨by omega, by omega⟩, if_neg (by omega)]; unfold X8; rw [if_neg (by omega), if_neg (by decide)]) hru)
theorem A42 {Q : Prop} (h : Q := by (exact L5.mk (by rw [if_neg (by omega), if_neg (by omega)]; rfl) (O6 _))) : Q := h
theorem A24 {Q : Prop} (h : Q := by (exact L5.mk (by rw [if_neg hnd, if_pos hq, A1T (by omega), A0G (by omega), A0G (by omega), A0G (by omega), A0G (by omega)]) hrw)) : Q := h
theorem B5k (a b : Tm) (G : IM) (ca cb : List Value) (hca : cv a) (hbs : b.small) (hra : B0 G a ca) (hrb : B0 G b cb) : Fn Tryz.prog 248 [.agg ⟨ca⟩, .agg ⟨cb⟩] [] G (L5 (O2 6 B7 B7 0 [a, b])) := by
 have hsma := A2h a hca
 have hP := A40 a G _ hra
 obtain ⟨ak, anm, anum, ⟨atk, atks⟩, ⟨afk, afks⟩, alb, aks⟩ := a
 obtain ⟨hN, hkk⟩ := hca.node
 have hops := hN.ops
 have hbl := hN.lbB
 have htyA := hN.tyA
 have hfrA := hN.frA
 rw [E5] at htyA hfrA
 have htyS := fun t (h : t ∈ atks) => (A1w.1 htyA.2.2 t h).small
 have hfrS := fun t (h : t ∈ afks) => (A1w.1 hfrA.2.2 t h).small
 have h14 : ak = 14 → aks.length = 1 := fun h => by rw [h] at hops; have : D9 14 = 1 := rfl; omega
 have h5 : ak = 5 → aks.length = 1 := fun h => by rw [h] at hops; have : D9 5 = 1 := rfl; omega
 obtain ⟨_, _, _, _, hksm⟩ := A0a.1 hsma
 have hbL := hrb.len
 have hbO := hrb.one
 obtain ⟨apt, act, apf, acf, ap, ac, aes, rfl, hak, hanum, halb, haty, hafr, hasl, hakl⟩ := hra.open9
 obtain ⟨tes, htS, htL⟩ := haty.kids
 obtain ⟨fes, hfS, hfL⟩ := hafr.kids
 simp only [Ty.ks] at htS htL hfS hfL
 obtain ⟨y1, y2, y3, y4, y5, y6, y7, y8, y9, rfl⟩ := nine hbL
 have hR : O2 6 B7 B7 0 [Tm.mk ak anm anum (.mk atk atks) (.mk afk afks) alb aks, b] = (if ak = 5 then (W0 anm b (kd aks 0), 1, 0) else if (ak = 14 ∧ afk = atk ∧ (atk = 4 ∨ atk = 5)) ∧ atk = 4 then (J7 (W1 6 [kd aks 0, J7 b (kt atks 0) (kt afks 0) (-alb)]) (kt afks 1) (kt atks 1) alb, 1, 0) else P5) := by
  unfold O2
  rw [if_pos rfl, show kd [Tm.mk ak anm anum (.mk atk atks) (.mk afk afks) alb aks, b] 0 = Tm.mk ak anm anum (.mk atk atks) (.mk afk afks) alb aks from rfl, A0F]
  simp only [decide_eq_true_eq]
  rfl
 rw [hR]
 replace hP : Fn Tryz.prog 130 _ [] G (I3 (.bool (decide (ak = 14 ∧ afk = atk ∧ (atk = 4 ∨ atk = 5)))) G) := hP
 refine C3 Tryz.func248 rfl Tryz.ntmps248 Tryz.results248 rfl ?_
 intro w0
 refine A3 ?_
 refine sE (C8 rfl rfl) rfl (fun b3 => ?_)
 refine sE (C8 rfl rfl) rfl (fun b4 => ?_)
 refine sE (A6 rfl) rfl (fun b5 => ?_)
 refine E0 ?_
 refine sB (qE rfl rfl) rfl rfl (fun h15 => ?_) (fun h15 => ?_)
 refine B1 ?_
 (have hq : ak = 5 := (by assumption); have hq1 := h5 hq; obtain ⟨bq, oq, e3, rfl, hl3, hat3, hre3, hgb3⟩ := hasl.kidTm hakl (i := 0) (by omega) (by omega); have hS := B5j anm b _ hbs aks[0] G e3 (Tm.smallL_mem hksm _ (List.getElem_mem (by omega))) hre3 hrb; refine D7 D8 rfl ?_)
 refine K7 (i := 6) (l' := [ff,ff,ff,ff,ff,ff,tt,ff,ff,ff,ff]) rfl D1 (A2 rfl rfl (B3 (by repeat first | exact mH | apply mT)) rfl) rfl (by kernel_rfl) rfl rfl ?_
 refine aP 0 rfl (B5 rfl) rfl ?_
 refine aL 1 rfl (C4 rfl rfl) rfl ?_
 refine aP 2 rfl (B4 (j := 0) rfl rfl rfl (by omega)) rfl ?_
 refine aL 3 rfl (A2 rfl rfl (hat3 _) hl3) rfl ?_
 refine aP 4 rfl (B5 rfl) rfl ?_
 refine aL 5 rfl (C4 rfl rfl) rfl ?_
 refine A1 7 ?_
 (refine H0 rfl rfl hS rfl rfl rfl (fun u G1 hle1 hh => ?_); obtain ⟨uc, rfl, hru⟩ := hh; have hwl := hru.len; have hwo := hru.one)
 refine A1 8 ?_
 (refine oS rfl rfl rfl rfl hwl hwo rfl rfl ?_ (hu := by exact D6 hwl.symm))
 refine aP 9 rfl (qA rfl) rfl ?_
 refine aP 10 rfl (qA rfl) rfl ?_
 refine B1 ?_
 refine C9 (rC rfl (A2 rfl rfl (B3 (by repeat first | exact mH | apply mT)) hwl)) (rT rfl) (rT rfl) ?_
 (exact L5.mk (by rw [if_pos hq, A1T (by omega)]) hru)
 refine E0 ?_
 focus (by_cases hpx : (ak = 14 ∧ afk = atk ∧ (atk = 4 ∨ atk = 5)); rw [decide_eq_true hpx] at hP; rotate_left; rw [decide_eq_false hpx] at hP; rotate_left; all_goals (refine H6 rfl hP rfl rfl ?_))
 refine A9 ?_
 refine sB (N9 rfl rfl) rfl rfl (fun h55 => ?_) (fun h55 => ?_)
 refine J3 ?_
 refine C9 (rC rfl (A4 rfl rfl)) (rT rfl) (rT rfl) ?_
 exact A42
 refine B2 ?_
 (have hnd : ¬ak = 5 := (by omega); have hq : (ak = 14 ∧ afk = atk ∧ (atk = 4 ∨ atk = 5)) ∧ atk = 4 := ⟨hpx, by omega⟩; have hq1 := h14 hq.1.1; have hq2 := htyA.1 (by omega); have hq3 := hfrA.1 (by omega); obtain ⟨bq, oq, e3, rfl, hl3, hat3, hre3, hgb3⟩ := hasl.kidTm hakl (i := 0) (by omega) (by omega); have ho3 := hre3.one; obtain ⟨b5, o5, q5, d5, rfl, hat5, hre5, hgb5⟩ := htS.kidTy htL (i := 0) (by omega) (by omega); obtain ⟨_, _, q6, d6, hp6, hat6, hre6, hgb6⟩ := htS.kidTy htL (i := 1) (by omega) (by omega); cases hp6; obtain ⟨b7, o7, q7, d7, rfl, hat7, hre7, hgb7⟩ := hfS.kidTy hfL (i := 0) (by omega) (by omega); obtain ⟨_, _, q8, d8, hp8, hat8, hre8, hgb8⟩ := hfS.kidTy hfL (i := 1) (by omega) (by omega); cases hp8; obtain ⟨x1, x2, x3, x4, x5, x6, x7, x8, x9, rfl⟩ := nine hl3; refine D7 D8 rfl ?_)
 refine K7 (i := 0) (l' := [tt,ff,ff,ff,ff,ff,ff,ff,ff,ff,ff,ff,ff,ff,ff,ff,ff]) rfl D1 (A2 rfl rfl (B3 (by repeat first | exact mH | apply mT)) rfl) rfl (by kernel_rfl) rfl rfl ?_
 refine aP 1 rfl (B5 rfl) rfl ?_
 refine aP 2 rfl (qF rfl) rfl ?_
 refine aL 3 rfl (C4 rfl rfl) rfl ?_
 refine aP 4 rfl (B4 (j := 0) rfl rfl rfl (by omega)) rfl ?_
 refine aL 5 rfl (A2 rfl rfl (hat5 _) rfl) rfl ?_
 refine aP 6 rfl (B5 rfl) rfl ?_
 refine aP 7 rfl (qF rfl) rfl ?_
 refine aL 8 rfl (C4 rfl rfl) rfl ?_
 refine aP 9 rfl (B4 (j := 0) rfl rfl rfl (by omega)) rfl ?_
 refine aL 10 rfl (A2 rfl rfl (hat7 _) rfl) rfl ?_
 refine aP 11 rfl (B5 rfl) rfl ?_
 refine aL 12 rfl (C4 rfl rfl) rfl ?_
 refine aP 13 rfl (A1Z rfl (by omega) (by omega)) rfl ?_
 refine Q2 (j := 14) (j' := 15) (by kernel_rfl) ?_ ?_
 (have hcO := hnd; refine H0 rfl rfl (A0w b atks[0] afks[0] (-alb) G _ _ _ ⟨by omega, by omega⟩ hrb hre5 hre7 (htyS _ (List.getElem_mem (by omega))) (hfrS _ (List.getElem_mem (by omega)))) rfl rfl rfl (fun u G1 hle1 hh => ?_); obtain ⟨uc, rfl, hru⟩ := hh; have hul := hru.len; have huo := hru.one; obtain ⟨z1, z2, z3, z4, z5, z6, z7, z8, z9, rfl⟩ := nine hul; replace hre3 := hre3.mono hle1; replace hre6 := hre6.mono hle1; replace hre8 := hre8.mono hle1)
 refine A1 15 ?_
 (refine E3 rfl (A6 rfl) rfl rfl ?_; rintro _ ⟨b97, rfl⟩)
 refine A1 16 ?_
 (refine oS rfl rfl rfl rfl rfl huo rfl rfl ?_ (hu := by exact D6 rfl))
 refine B6 ?_
 refine D7 D8 rfl ?_
 refine K7 (i := 4) (l' := [ff,ff,ff,ff,tt,ff,ff,ff,ff]) rfl D1 (A2 rfl rfl (B3 (by repeat first | exact mH | apply mT)) rfl) rfl (by kernel_rfl) rfl rfl ?_
 refine aP 0 rfl (B5 rfl) rfl ?_
 refine aL 1 rfl (C4 rfl rfl) rfl ?_
 refine aP 2 rfl (B4 (j := 0) rfl rfl rfl (by omega)) rfl ?_
 refine aL 3 rfl (A2 rfl rfl (At.mono' hle1 (hat3 _)) rfl) rfl ?_
 refine Q2 (j := 5) (j' := 7) (by kernel_rfl) ?_ ?_
 (refine E3 rfl (C7 rfl rfl rfl (by omega) (by unfold maxLen; omega) rfl) rfl rfl ?_; rintro _ ⟨b110, rfl⟩)
 refine Q2 (j := 6) (j' := 7) (by kernel_rfl) ?_ ?_
 (refine A0Z (cs := [x1, x2, x3, x4, x5, x6, x7, x8, x9, z1, z2, z3, z4, z5, z6, z7, z8, z9]) (by repeat (first | exact Pk.here | apply Pk.there)) (fun G2 hle2 hsl2 hno2 => ?_); have hrN := A0E (k := 6) (ks := [aks[0], J7 b atks[0] afks[0] (-alb)]) (es := [[x1, x2, x3, x4, x5, x6, x7, x8, x9], [z1, z2, z3, z4, z5, z6, z7, z8, z9]]) ⟨by decide, by decide⟩ rfl (D5.of hsl2 rfl (by simp) (by intro x hx; rcases List.mem_cons.1 hx with rfl | hx; exact ho3; obtain rfl := List.mem_singleton.1 hx; exact huo)) (by simp only [D0]; exact ⟨_, _, rfl, hre3.mono hle2, _, _, rfl, hru.mono hle2, rfl⟩); replace hre6 := hre6.mono hle2; replace hre8 := hre8.mono hle2; refine M8 rfl rfl (A0l _ _ _ _ _) rfl rfl rfl ?_)
 refine A1 7 ?_
 (refine E3 rfl (A6 rfl) rfl rfl ?_; rintro _ ⟨b114, rfl⟩)
 refine A1 8 ?_
 refine H1 rfl ?_
 refine B6 ?_
 refine D7 D8 rfl ?_
 refine K7 (i := 0) (l' := [tt,ff,ff,ff,ff,ff,ff,ff,ff,ff,ff,ff,ff,ff,ff,ff,ff]) rfl D1 (A2 rfl rfl (B3 (by repeat first | exact mH | apply mT)) rfl) rfl (by kernel_rfl) rfl rfl ?_
 refine aP 1 rfl (B5 rfl) rfl ?_
 refine aP 2 rfl (qF rfl) rfl ?_
 refine aL 3 rfl (C4 rfl rfl) rfl ?_
 refine aP 4 rfl (B4 (j := 1) rfl rfl rfl (by omega)) rfl ?_
 refine aL 5 rfl (A2 rfl rfl (At.mono' (hle1.trans hle2) (hat8 _)) rfl) rfl ?_
 refine aP 6 rfl (B5 rfl) rfl ?_
 refine aP 7 rfl (qF rfl) rfl ?_
 refine aL 8 rfl (C4 rfl rfl) rfl ?_
 refine aP 9 rfl (B4 (j := 1) rfl rfl rfl (by omega)) rfl ?_
 refine aL 10 rfl (A2 rfl rfl (At.mono' (hle1.trans hle2) (hat6 _)) rfl) rfl ?_
 refine aP 11 rfl (B5 rfl) rfl ?_
 refine aL 12 rfl (C4 rfl rfl) rfl ?_
 refine A1 13 ?_
 (refine H0 rfl rfl (A0w _ afks[1] atks[1] alb G2 _ _ _ ⟨by omega, by omega⟩ hrN hre8 hre6 (hfrS _ (List.getElem_mem (by omega))) (htyS _ (List.getElem_mem (by omega)))) rfl rfl rfl (fun u G3 hle3 hh => ?_); obtain ⟨wc, rfl, hrw⟩ := hh; have hwl := hrw.len; have hwo := hrw.one)
 refine A1 14 ?_
 (refine oS rfl rfl rfl rfl hwl hwo rfl rfl ?_ (hu := by exact D6 hwl.symm))
 refine aP 15 rfl (qA rfl) rfl ?_
 refine aP 16 rfl (qA rfl) rfl ?_
 refine B6 ?_
 refine C9 (rC rfl (A2 rfl rfl (B3 (by repeat first | exact mH | apply mT)) hwl)) (rT rfl) (rT rfl) ?_
 exact A24
 (refine E3 rfl (A6 rfl) rfl rfl ?_; rintro _ ⟨b145, rfl⟩)
 refine A1 6 ?_
 (refine A0Z (cs := [x1, x2, x3, x4, x5, x6, x7, x8, x9, z1, z2, z3, z4, z5, z6, z7, z8, z9]) (by repeat (first | exact Pk.here | apply Pk.there)) (fun G2 hle2 hsl2 hno2 => ?_); have hrN := A0E (k := 6) (ks := [aks[0], J7 b atks[0] afks[0] (-alb)]) (es := [[x1, x2, x3, x4, x5, x6, x7, x8, x9], [z1, z2, z3, z4, z5, z6, z7, z8, z9]]) ⟨by decide, by decide⟩ rfl (D5.of hsl2 rfl (by simp) (by intro x hx; rcases List.mem_cons.1 hx with rfl | hx; exact ho3; obtain rfl := List.mem_singleton.1 hx; exact huo)) (by simp only [D0]; exact ⟨_, _, rfl, hre3.mono hle2, _, _, rfl, hru.mono hle2, rfl⟩); replace hre6 := hre6.mono hle2; replace hre8 := hre8.mono hle2; refine M8 rfl rfl (A0l _ _ _ _ _) rfl rfl rfl ?_)
 refine A1 8 ?_
 refine H1 rfl ?_
 refine B6 ?_
 refine D7 D8 rfl ?_
 refine K7 (i := 0) (l' := [tt,ff,ff,ff,ff,ff,ff,ff,ff,ff,ff,ff,ff,ff,ff,ff,ff]) rfl D1 (A2 rfl rfl (B3 (by repeat first | exact mH | apply mT)) rfl) rfl (by kernel_rfl) rfl rfl ?_
 refine aP 1 rfl (B5 rfl) rfl ?_
 refine aP 2 rfl (qF rfl) rfl ?_
 refine aL 3 rfl (C4 rfl rfl) rfl ?_
 refine aP 4 rfl (B4 (j := 1) rfl rfl rfl (by omega)) rfl ?_
 refine aL 5 rfl (A2 rfl rfl (At.mono' (hle1.trans hle2) (hat8 _)) rfl) rfl ?_
 refine aP 6 rfl (B5 rfl) rfl ?_
 refine aP 7 rfl (qF rfl) rfl ?_
 refine aL 8 rfl (C4 rfl rfl) rfl ?_
 refine aP 9 rfl (B4 (j := 1) rfl rfl rfl (by omega)) rfl ?_
 refine aL 10 rfl (A2 rfl rfl (At.mono' (hle1.trans hle2) (hat6 _)) rfl) rfl ?_
 refine aP 11 rfl (B5 rfl) rfl ?_
 refine aL 12 rfl (C4 rfl rfl) rfl ?_
 refine A1 13 ?_
 (refine H0 rfl rfl (A0w _ afks[1] atks[1] alb G2 _ _ _ ⟨by omega, by omega⟩ hrN hre8 hre6 (hfrS _ (List.getElem_mem (by omega))) (htyS _ (List.getElem_mem (by omega)))) rfl rfl rfl (fun u G3 hle3 hh => ?_); obtain ⟨wc, rfl, hrw⟩ := hh; have hwl := hrw.len; have hwo := hrw.one)
 refine A1 14 ?_
 (refine oS rfl rfl rfl rfl hwl hwo rfl rfl ?_ (hu := by exact D6 hwl.symm))
 refine aP 15 rfl (qA rfl) rfl ?_
 refine aP 16 rfl (qA rfl) rfl ?_
 refine B6 ?_
 refine C9 (rC rfl (A2 rfl rfl (B3 (by repeat first | exact mH | apply mT)) hwl)) (rT rfl) (rT rfl) ?_
 exact A24
 (refine E3 rfl (A6 rfl) rfl rfl ?_; rintro _ ⟨b178, rfl⟩)
 refine A1 5 ?_
 (refine E3 rfl (C7 rfl rfl rfl (by omega) (by unfold maxLen; omega) rfl) rfl rfl ?_; rintro _ ⟨b180, rfl⟩)
 refine A1 6 ?_
 (refine A0Z (cs := [x1, x2, x3, x4, x5, x6, x7, x8, x9, z1, z2, z3, z4, z5, z6, z7, z8, z9]) (by repeat (first | exact Pk.here | apply Pk.there)) (fun G2 hle2 hsl2 hno2 => ?_); have hrN := A0E (k := 6) (ks := [aks[0], J7 b atks[0] afks[0] (-alb)]) (es := [[x1, x2, x3, x4, x5, x6, x7, x8, x9], [z1, z2, z3, z4, z5, z6, z7, z8, z9]]) ⟨by decide, by decide⟩ rfl (D5.of hsl2 rfl (by simp) (by intro x hx; rcases List.mem_cons.1 hx with rfl | hx; exact ho3; obtain rfl := List.mem_singleton.1 hx; exact huo)) (by simp only [D0]; exact ⟨_, _, rfl, hre3.mono hle2, _, _, rfl, hru.mono hle2, rfl⟩); replace hre6 := hre6.mono hle2; replace hre8 := hre8.mono hle2; refine M8 rfl rfl (A0l _ _ _ _ _) rfl rfl rfl ?_)
 refine A1 8 ?_
 refine H1 rfl ?_
 refine B6 ?_
 refine D7 D8 rfl ?_
 refine K7 (i := 0) (l' := [tt,ff,ff,ff,ff,ff,ff,ff,ff,ff,ff,ff,ff,ff,ff,ff,ff]) rfl D1 (A2 rfl rfl (B3 (by repeat first | exact mH | apply mT)) rfl) rfl (by kernel_rfl) rfl rfl ?_
 refine aP 1 rfl (B5 rfl) rfl ?_
 refine aP 2 rfl (qF rfl) rfl ?_
 refine aL 3 rfl (C4 rfl rfl) rfl ?_
 refine aP 4 rfl (B4 (j := 1) rfl rfl rfl (by omega)) rfl ?_
 refine aL 5 rfl (A2 rfl rfl (At.mono' (hle1.trans hle2) (hat8 _)) rfl) rfl ?_
 refine aP 6 rfl (B5 rfl) rfl ?_
 refine aP 7 rfl (qF rfl) rfl ?_
 refine aL 8 rfl (C4 rfl rfl) rfl ?_
 refine aP 9 rfl (B4 (j := 1) rfl rfl rfl (by omega)) rfl ?_
 refine aL 10 rfl (A2 rfl rfl (At.mono' (hle1.trans hle2) (hat6 _)) rfl) rfl ?_
 refine aP 11 rfl (B5 rfl) rfl ?_
 refine aL 12 rfl (C4 rfl rfl) rfl ?_
 refine A1 13 ?_
 (refine H0 rfl rfl (A0w _ afks[1] atks[1] alb G2 _ _ _ ⟨by omega, by omega⟩ hrN hre8 hre6 (hfrS _ (List.getElem_mem (by omega))) (htyS _ (List.getElem_mem (by omega)))) rfl rfl rfl (fun u G3 hle3 hh => ?_); obtain ⟨wc, rfl, hrw⟩ := hh; have hwl := hrw.len; have hwo := hrw.one)
 refine A1 14 ?_
 (refine oS rfl rfl rfl rfl hwl hwo rfl rfl ?_ (hu := by exact D6 hwl.symm))
 refine aP 15 rfl (qA rfl) rfl ?_
 refine aP 16 rfl (qA rfl) rfl ?_
 refine B6 ?_
 refine C9 (rC rfl (A2 rfl rfl (B3 (by repeat first | exact mH | apply mT)) hwl)) (rT rfl) (rT rfl) ?_
 exact A24
 (refine E3 rfl (A6 rfl) rfl rfl ?_; rintro _ ⟨b213, rfl⟩)
 refine A1 14 ?_
 (have hcO := hnd; refine H0 rfl rfl (A0w b atks[0] afks[0] (-alb) G _ _ _ ⟨by omega, by omega⟩ hrb hre5 hre7 (htyS _ (List.getElem_mem (by omega))) (hfrS _ (List.getElem_mem (by omega)))) rfl rfl rfl (fun u G1 hle1 hh => ?_); obtain ⟨uc, rfl, hru⟩ := hh; have hul := hru.len; have huo := hru.one; obtain ⟨z1, z2, z3, z4, z5, z6, z7, z8, z9, rfl⟩ := nine hul; replace hre3 := hre3.mono hle1; replace hre6 := hre6.mono hle1; replace hre8 := hre8.mono hle1)
 refine A1 16 ?_
 (refine oS rfl rfl rfl rfl rfl huo rfl rfl ?_ (hu := by exact D6 rfl))
 refine B6 ?_
 refine D7 D8 rfl ?_
 refine K7 (i := 4) (l' := [ff,ff,ff,ff,tt,ff,ff,ff,ff]) rfl D1 (A2 rfl rfl (B3 (by repeat first | exact mH | apply mT)) rfl) rfl (by kernel_rfl) rfl rfl ?_
 refine aP 0 rfl (B5 rfl) rfl ?_
 refine aL 1 rfl (C4 rfl rfl) rfl ?_
 refine aP 2 rfl (B4 (j := 0) rfl rfl rfl (by omega)) rfl ?_
 refine aL 3 rfl (A2 rfl rfl (At.mono' hle1 (hat3 _)) rfl) rfl ?_
 refine Q2 (j := 5) (j' := 7) (by kernel_rfl) ?_ ?_
 (refine E3 rfl (C7 rfl rfl rfl (by omega) (by unfold maxLen; omega) rfl) rfl rfl ?_; rintro _ ⟨b228, rfl⟩)
 refine Q2 (j := 6) (j' := 7) (by kernel_rfl) ?_ ?_
 (refine A0Z (cs := [x1, x2, x3, x4, x5, x6, x7, x8, x9, z1, z2, z3, z4, z5, z6, z7, z8, z9]) (by repeat (first | exact Pk.here | apply Pk.there)) (fun G2 hle2 hsl2 hno2 => ?_); have hrN := A0E (k := 6) (ks := [aks[0], J7 b atks[0] afks[0] (-alb)]) (es := [[x1, x2, x3, x4, x5, x6, x7, x8, x9], [z1, z2, z3, z4, z5, z6, z7, z8, z9]]) ⟨by decide, by decide⟩ rfl (D5.of hsl2 rfl (by simp) (by intro x hx; rcases List.mem_cons.1 hx with rfl | hx; exact ho3; obtain rfl := List.mem_singleton.1 hx; exact huo)) (by simp only [D0]; exact ⟨_, _, rfl, hre3.mono hle2, _, _, rfl, hru.mono hle2, rfl⟩); replace hre6 := hre6.mono hle2; replace hre8 := hre8.mono hle2; refine M8 rfl rfl (A0l _ _ _ _ _) rfl rfl rfl ?_)
 refine A1 7 ?_
 (refine E3 rfl (A6 rfl) rfl rfl ?_; rintro _ ⟨b232, rfl⟩)
 refine A1 8 ?_
 refine H1 rfl ?_
 refine B6 ?_
 refine D7 D8 rfl ?_
 refine K7 (i := 0) (l' := [tt,ff,ff,ff,ff,ff,ff,ff,ff,ff,ff,ff,ff,ff,ff,ff,ff]) rfl D1 (A2 rfl rfl (B3 (by repeat first | exact mH | apply mT)) rfl) rfl (by kernel_rfl) rfl rfl ?_
 refine aP 1 rfl (B5 rfl) rfl ?_
 refine aP 2 rfl (qF rfl) rfl ?_
 refine aL 3 rfl (C4 rfl rfl) rfl ?_
 refine aP 4 rfl (B4 (j := 1) rfl rfl rfl (by omega)) rfl ?_
 refine aL 5 rfl (A2 rfl rfl (At.mono' (hle1.trans hle2) (hat8 _)) rfl) rfl ?_
 refine aP 6 rfl (B5 rfl) rfl ?_
 refine aP 7 rfl (qF rfl) rfl ?_
 refine aL 8 rfl (C4 rfl rfl) rfl ?_
 refine aP 9 rfl (B4 (j := 1) rfl rfl rfl (by omega)) rfl ?_
 refine aL 10 rfl (A2 rfl rfl (At.mono' (hle1.trans hle2) (hat6 _)) rfl) rfl ?_
 refine aP 11 rfl (B5 rfl) rfl ?_
 refine aL 12 rfl (C4 rfl rfl) rfl ?_
 refine A1 13 ?_
 (refine H0 rfl rfl (A0w _ afks[1] atks[1] alb G2 _ _ _ ⟨by omega, by omega⟩ hrN hre8 hre6 (hfrS _ (List.getElem_mem (by omega))) (htyS _ (List.getElem_mem (by omega)))) rfl rfl rfl (fun u G3 hle3 hh => ?_); obtain ⟨wc, rfl, hrw⟩ := hh; have hwl := hrw.len; have hwo := hrw.one)
 refine A1 14 ?_
 (refine oS rfl rfl rfl rfl hwl hwo rfl rfl ?_ (hu := by exact D6 hwl.symm))
 refine aP 15 rfl (qA rfl) rfl ?_
 refine aP 16 rfl (qA rfl) rfl ?_
 refine B6 ?_
 refine C9 (rC rfl (A2 rfl rfl (B3 (by repeat first | exact mH | apply mT)) hwl)) (rT rfl) (rT rfl) ?_
 exact A24
 (refine E3 rfl (A6 rfl) rfl rfl ?_; rintro _ ⟨b263, rfl⟩)
 refine A1 6 ?_
 (refine A0Z (cs := [x1, x2, x3, x4, x5, x6, x7, x8, x9, z1, z2, z3, z4, z5, z6, z7, z8, z9]) (by repeat (first | exact Pk.here | apply Pk.there)) (fun G2 hle2 hsl2 hno2 => ?_); have hrN := A0E (k := 6) (ks := [aks[0], J7 b atks[0] afks[0] (-alb)]) (es := [[x1, x2, x3, x4, x5, x6, x7, x8, x9], [z1, z2, z3, z4, z5, z6, z7, z8, z9]]) ⟨by decide, by decide⟩ rfl (D5.of hsl2 rfl (by simp) (by intro x hx; rcases List.mem_cons.1 hx with rfl | hx; exact ho3; obtain rfl := List.mem_singleton.1 hx; exact huo)) (by simp only [D0]; exact ⟨_, _, rfl, hre3.mono hle2, _, _, rfl, hru.mono hle2, rfl⟩); replace hre6 := hre6.mono hle2; replace hre8 := hre8.mono hle2; refine M8 rfl rfl (A0l _ _ _ _ _) rfl rfl rfl ?_)
 refine A1 8 ?_
 refine H1 rfl ?_
 refine B6 ?_
 refine D7 D8 rfl ?_
 refine K7 (i := 0) (l' := [tt,ff,ff,ff,ff,ff,ff,ff,ff,ff,ff,ff,ff,ff,ff,ff,ff]) rfl D1 (A2 rfl rfl (B3 (by repeat first | exact mH | apply mT)) rfl) rfl (by kernel_rfl) rfl rfl ?_
 refine aP 1 rfl (B5 rfl) rfl ?_
 refine aP 2 rfl (qF rfl) rfl ?_
 refine aL 3 rfl (C4 rfl rfl) rfl ?_
 refine aP 4 rfl (B4 (j := 1) rfl rfl rfl (by omega)) rfl ?_
 refine aL 5 rfl (A2 rfl rfl (At.mono' (hle1.trans hle2) (hat8 _)) rfl) rfl ?_
 refine aP 6 rfl (B5 rfl) rfl ?_
 refine aP 7 rfl (qF rfl) rfl ?_
 refine aL 8 rfl (C4 rfl rfl) rfl ?_
 refine aP 9 rfl (B4 (j := 1) rfl rfl rfl (by omega)) rfl ?_
 refine aL 10 rfl (A2 rfl rfl (At.mono' (hle1.trans hle2) (hat6 _)) rfl) rfl ?_
 refine aP 11 rfl (B5 rfl) rfl ?_
 refine aL 12 rfl (C4 rfl rfl) rfl ?_
 refine A1 13 ?_
 (refine H0 rfl rfl (A0w _ afks[1] atks[1] alb G2 _ _ _ ⟨by omega, by omega⟩ hrN hre8 hre6 (hfrS _ (List.getElem_mem (by omega))) (htyS _ (List.getElem_mem (by omega)))) rfl rfl rfl (fun u G3 hle3 hh => ?_); obtain ⟨wc, rfl, hrw⟩ := hh; have hwl := hrw.len; have hwo := hrw.one)
 refine A1 14 ?_
 (refine oS rfl rfl rfl rfl hwl hwo rfl rfl ?_ (hu := by exact D6 hwl.symm))
 refine aP 15 rfl (qA rfl) rfl ?_
 refine aP 16 rfl (qA rfl) rfl ?_
 refine B6 ?_
 refine C9 (rC rfl (A2 rfl rfl (B3 (by repeat first | exact mH | apply mT)) hwl)) (rT rfl) (rT rfl) ?_
 exact A24
 (refine E3 rfl (A6 rfl) rfl rfl ?_; rintro _ ⟨b296, rfl⟩)
 refine A1 5 ?_
 (refine E3 rfl (C7 rfl rfl rfl (by omega) (by unfold maxLen; omega) rfl) rfl rfl ?_; rintro _ ⟨b298, rfl⟩)
 refine A1 6 ?_
 (refine A0Z (cs := [x1, x2, x3, x4, x5, x6, x7, x8, x9, z1, z2, z3, z4, z5, z6, z7, z8, z9]) (by repeat (first | exact Pk.here | apply Pk.there)) (fun G2 hle2 hsl2 hno2 => ?_); have hrN := A0E (k := 6) (ks := [aks[0], J7 b atks[0] afks[0] (-alb)]) (es := [[x1, x2, x3, x4, x5, x6, x7, x8, x9], [z1, z2, z3, z4, z5, z6, z7, z8, z9]]) ⟨by decide, by decide⟩ rfl (D5.of hsl2 rfl (by simp) (by intro x hx; rcases List.mem_cons.1 hx with rfl | hx; exact ho3; obtain rfl := List.mem_singleton.1 hx; exact huo)) (by simp only [D0]; exact ⟨_, _, rfl, hre3.mono hle2, _, _, rfl, hru.mono hle2, rfl⟩); replace hre6 := hre6.mono hle2; replace hre8 := hre8.mono hle2; refine M8 rfl rfl (A0l _ _ _ _ _) rfl rfl rfl ?_)
 refine A1 8 ?_
 refine H1 rfl ?_
 refine B6 ?_
 refine D7 D8 rfl ?_
 refine K7 (i := 0) (l' := [tt,ff,ff,ff,ff,ff,ff,ff,ff,ff,ff,ff,ff,ff,ff,ff,ff]) rfl D1 (A2 rfl rfl (B3 (by repeat first | exact mH | apply mT)) rfl) rfl (by kernel_rfl) rfl rfl ?_
 refine aP 1 rfl (B5 rfl) rfl ?_
 refine aP 2 rfl (qF rfl) rfl ?_
 refine aL 3 rfl (C4 rfl rfl) rfl ?_
 refine aP 4 rfl (B4 (j := 1) rfl rfl rfl (by omega)) rfl ?_
 refine aL 5 rfl (A2 rfl rfl (At.mono' (hle1.trans hle2) (hat8 _)) rfl) rfl ?_
 refine aP 6 rfl (B5 rfl) rfl ?_
 refine aP 7 rfl (qF rfl) rfl ?_
 refine aL 8 rfl (C4 rfl rfl) rfl ?_
 refine aP 9 rfl (B4 (j := 1) rfl rfl rfl (by omega)) rfl ?_
 refine aL 10 rfl (A2 rfl rfl (At.mono' (hle1.trans hle2) (hat6 _)) rfl) rfl ?_
 refine aP 11 rfl (B5 rfl) rfl ?_
 refine aL 12 rfl (C4 rfl rfl) rfl ?_
 refine A1 13 ?_
 (refine H0 rfl rfl (A0w _ afks[1] atks[1] alb G2 _ _ _ ⟨by omega, by omega⟩ hrN hre8 hre6 (hfrS _ (List.getElem_mem (by omega))) (htyS _ (List.getElem_mem (by omega)))) rfl rfl rfl (fun u G3 hle3 hh => ?_); obtain ⟨wc, rfl, hrw⟩ := hh; have hwl := hrw.len; have hwo := hrw.one)
 refine A1 14 ?_
 (refine oS rfl rfl rfl rfl hwl hwo rfl rfl ?_ (hu := by exact D6 hwl.symm))
 refine aP 15 rfl (qA rfl) rfl ?_
 refine aP 16 rfl (qA rfl) rfl ?_
 refine B6 ?_
 refine C9 (rC rfl (A2 rfl rfl (B3 (by repeat first | exact mH | apply mT)) hwl)) (rT rfl) (rT rfl) ?_
 exact A24
 refine Z5 ?_
 refine C9 (rC rfl (A4 rfl rfl)) (rT rfl) (rT rfl) ?_
 exact A42
theorem B0r (k : Int) (a : Tm) (G : IM) (ca : List Value) (hk1 : k = 11 ∨ k = 12) (hca : cv a) (hra : B0 G a ca) : Fn Tryz.prog 250 [.int .i64 k, .agg ⟨ca⟩] [] G (L5 (O2 k B7 B7 0 [a])) := by
 have hP := A40 a G _ hra
 obtain ⟨ak, anm, anum, ⟨atk, atks⟩, ⟨afk, afks⟩, alb, aks⟩ := a
 obtain ⟨hN, hkk⟩ := hca.node
 have hops := hN.ops
 have hbl := hN.lbB
 have htyA := hN.tyA
 have hfrA := hN.frA
 rw [E5] at htyA hfrA
 have htyS := fun t (h : t ∈ atks) => (A1w.1 htyA.2.2 t h).small
 have hfrS := fun t (h : t ∈ afks) => (A1w.1 hfrA.2.2 t h).small
 have h14 : ak = 14 → aks.length = 1 := fun h => by rw [h] at hops; have : D9 14 = 1 := rfl; omega
 have h10 : ak = 10 → aks.length = 2 := fun h => by rw [h] at hops; have : D9 10 = 2 := rfl; omega
 obtain ⟨apt, act, apf, acf, ap, ac, aes, rfl, hak, hanum, halb, haty, hafr, hasl, hakl⟩ := hra.open9
 obtain ⟨tes, htS, htL⟩ := haty.kids
 obtain ⟨fes, hfS, hfL⟩ := hafr.kids
 simp only [Ty.ks] at htS htL hfS hfL
 obtain ⟨i, hi⟩ : ∃ i : Nat, (k - 11).toNat = i := ⟨_, rfl⟩
 have hR : O2 k B7 B7 0 [Tm.mk ak anm anum (.mk atk atks) (.mk afk afks) alb aks] = (if ak = 10 then (kd aks i, 1, 0) else if (ak = 14 ∧ afk = atk ∧ (atk = 4 ∨ atk = 5)) ∧ atk = 5 then (J7 (W1 k [kd aks 0]) (kt afks i) (kt atks i) alb, 1, 0) else P5) := by
  unfold O2
  rw [if_neg (by omega), if_neg (by omega), if_neg (by omega), if_pos hk1, hi, show kd [Tm.mk ak anm anum (.mk atk atks) (.mk afk afks) alb aks] 0 = Tm.mk ak anm anum (.mk atk atks) (.mk afk afks) alb aks from rfl, A0F]
  simp only [decide_eq_true_eq]
  rfl
 rw [hR]
 replace hP : Fn Tryz.prog 130 _ [] G (I3 (.bool (decide (ak = 14 ∧ afk = atk ∧ (atk = 4 ∨ atk = 5)))) G) := hP
 refine C3 Tryz.func250 rfl Tryz.ntmps250 Tryz.results250 rfl ?_
 intro w0
 refine A3 ?_
 refine sE (C8 rfl rfl) rfl (fun b3 => ?_)
 refine sE (A6 rfl) rfl (fun b4 => ?_)
 refine B2 ?_
 refine sP (O5 rfl rfl (by omega) (by omega)) rfl rfl ?_
 (rw [show (k - 11 : Int) = ((i : Nat) : Int) from (by omega)]; refine sQ (qA rfl) rfl ?_)
 refine B2 ?_
 refine sB (qE rfl rfl) rfl rfl (fun h21 => ?_) (fun h21 => ?_)
 refine D4 ?_
 (have hq := h10 (by omega); obtain ⟨bq, oq, e3, rfl, hl3, hat3, hre3, hgb3⟩ := hasl.kidTm hakl (i := i) (by omega) (by omega); have ho3 := hre3.one; refine sP (B4 (j := i) rfl rfl rfl (by omega)) rfl rfl ?_)
 refine sL (A2 rfl rfl (hat3 _) hl3) rfl rfl ?_
 refine sS rfl rfl rfl hl3 ho3 rfl ?_ (hu := by exact D6 hl3.symm)
 refine A8 ?_
 refine C9 (rC rfl (A2 rfl rfl (B3 (by repeat first | exact mH | apply mT)) hl3)) (rT rfl) (rT rfl) ?_
 (exact L5.mk (by rw [if_pos (by omega), A1T (by omega)]) hre3)
 refine E0 ?_
 focus (by_cases hpx : (ak = 14 ∧ afk = atk ∧ (atk = 4 ∨ atk = 5)); rw [decide_eq_true hpx] at hP; rotate_left; rw [decide_eq_false hpx] at hP; rotate_left; all_goals (refine H6 rfl hP rfl rfl ?_))
 refine A9 ?_
 refine sB (N9 rfl rfl) rfl rfl (fun h56 => ?_) (fun h56 => ?_)
 refine J3 ?_
 refine C9 (rC rfl (A4 rfl rfl)) (rT rfl) (rT rfl) ?_
 exact A42
 refine B2 ?_
 (have hnd : ¬ak = 10 := (by omega); have hq : (ak = 14 ∧ afk = atk ∧ (atk = 4 ∨ atk = 5)) ∧ atk = 5 := ⟨hpx, by omega⟩; have hq1 := h14 hq.1.1; have hq2 := htyA.1 (by omega); have hq3 := hfrA.1 (by omega); obtain ⟨bq, oq, e3, rfl, hl3, hat3, hre3, hgb3⟩ := hasl.kidTm hakl (i := 0) (by omega) (by omega); have ho3 := hre3.one; obtain ⟨b5, o5, q5, d5, rfl, hat5, hre5, hgb5⟩ := htS.kidTy htL (i := i) (by omega) (by omega); obtain ⟨b7, o7, q7, d7, rfl, hat7, hre7, hgb7⟩ := hfS.kidTy hfL (i := i) (by omega) (by omega); obtain ⟨x1, x2, x3, x4, x5, x6, x7, x8, x9, rfl⟩ := nine hl3; refine D7 D8 rfl ?_)
 refine I9 (i := 0) (l' := [tt,ff,ff,ff,ff,ff,ff,ff,ff,ff,ff,ff,ff,ff,ff,ff,ff,ff,ff,ff,ff,ff,ff,ff,ff]) rfl D1 (qM rfl) rfl (by kernel_rfl) rfl rfl ?_
 refine aP 1 rfl (B5 rfl) rfl ?_
 refine aL 2 rfl (C4 rfl rfl) rfl ?_
 refine aP 3 rfl (B4 (j := 0) rfl rfl rfl (by omega)) rfl ?_
 refine aL 4 rfl (A2 rfl rfl (hat3 _) rfl) rfl ?_
 refine aP 7 rfl (B5 rfl) rfl ?_
 refine aP 8 rfl (qF rfl) rfl ?_
 refine aL 9 rfl (C4 rfl rfl) rfl ?_
 refine aP 10 rfl (qM rfl) rfl ?_
 refine aP 11 rfl (B4 (j := i) rfl rfl rfl (by omega)) rfl ?_
 refine aL 12 rfl (A2 rfl rfl (hat7 _) rfl) rfl ?_
 refine aP 13 rfl (B5 rfl) rfl ?_
 refine aP 14 rfl (qF rfl) rfl ?_
 refine aL 15 rfl (C4 rfl rfl) rfl ?_
 refine aP 16 rfl (qM rfl) rfl ?_
 refine aP 17 rfl (B4 (j := i) rfl rfl rfl (by omega)) rfl ?_
 refine aL 18 rfl (A2 rfl rfl (hat5 _) rfl) rfl ?_
 refine aP 19 rfl (B5 rfl) rfl ?_
 refine aL 20 rfl (C4 rfl rfl) rfl ?_
 refine A1 5 ?_
 (refine E3 rfl (C7 rfl rfl rfl (by omega) (by unfold maxLen; omega) rfl) rfl rfl ?_; rintro _ ⟨b101, rfl⟩)
 refine A1 6 ?_
 (refine A0Z (cs := [x1, x2, x3, x4, x5, x6, x7, x8, x9]) (by repeat (first | exact Pk.here | apply Pk.there)) (fun G2 hle2 hsl2 hno2 => ?_); have hrN := A0E (k := k) (ks := [aks[0]]) (es := [[x1, x2, x3, x4, x5, x6, x7, x8, x9]]) ⟨by omega, by omega⟩ rfl (D5.of hsl2 rfl (by simp) (by intro x hx; obtain rfl := List.mem_singleton.1 hx; exact ho3)) (by simp only [D0]; exact ⟨_, _, rfl, hre3.mono hle2, rfl⟩); replace hre5 := hre5.mono hle2; replace hre7 := hre7.mono hle2; refine M8 rfl rfl (A0l _ _ _ _ _) rfl rfl rfl ?_)
 refine A1 21 ?_
 (refine H0 rfl rfl (A0w _ afks[i] atks[i] alb G2 _ _ _ ⟨by omega, by omega⟩ hrN hre7 hre5 (hfrS _ (List.getElem_mem (by omega))) (htyS _ (List.getElem_mem (by omega)))) rfl rfl rfl (fun u G3 hle3 hh => ?_); obtain ⟨wc, rfl, hrw⟩ := hh; have hwl := hrw.len; have hwo := hrw.one)
 refine A1 22 ?_
 (refine oS rfl rfl rfl rfl hwl hwo rfl rfl ?_ (hu := by exact D6 hwl.symm))
 refine aP 23 rfl (qA rfl) rfl ?_
 refine aP 24 rfl (qA rfl) rfl ?_
 refine B6 ?_
 refine C9 (rC rfl (A2 rfl rfl (B3 (by repeat first | exact mH | apply mT)) hwl)) (rT rfl) (rT rfl) ?_
 (exact L5.mk (by rw [if_neg hnd, if_pos hq, A1T (by omega), A0G (by omega), A0G (by omega)]) hrw)
 refine Z5 ?_
 refine C9 (rC rfl (A4 rfl rfl)) (rT rfl) (rT rfl) ?_
 exact A42
theorem B5l (a : Tm) (nm : ByteArray) (num : Int) (ty fr : Ty) (lb : Int) (G : IM) (cells : List Value) (hc : cv (.mk 14 nm num ty fr lb [a])) (hr : B0 G (.mk 14 nm num ty fr lb [a]) cells) : Fn Tryz.prog 251 [.agg ⟨cells⟩] [] G (L5 (O2 14 ty fr lb [a])) := by
 obtain ⟨hNe, hkk0⟩ := hc.node
 have hca := hkk0 a (by simp)
 have hlb9 := hNe.lbB
 obtain ⟨hcons, htv, hfv⟩ := hNe.c14 rfl
 have hji := @A6f a
 have hjk := @A3T a
 obtain ⟨ak, anm, anum, ⟨atk, atks⟩, ⟨afk, afks⟩, alb, aks⟩ := a
 obtain ⟨hN, hkk⟩ := hca.node
 have hops := hN.ops
 have h14 : ak = 14 → aks.length = 1 := fun h => by rw [h] at hops; have : D9 14 = 1 := rfl; omega
 obtain ⟨tk, tks⟩ := ty
 obtain ⟨fk, fks⟩ := fr
 rw [Y4] at hcons
 simp only [Bool.or_eq_true, Bool.and_eq_true, decide_eq_true_eq] at hcons
 have hcc : fk ≠ tk → tk ≠ 1 → fk = 1 := fun h1 h2 => by rcases hcons with (h | h) | h; exact h; exact absurd h h2; exact absurd h.1 h1
 have hta := A6C htv
 have hfa := A6C hfv
 obtain ⟨pt, ct, pf, cf, p, c, es, rfl, hk, hnum, hlb, hty, hfr, hsl, hkl⟩ := hr.open9
 obtain ⟨bx, ox, e0, rfl, hl0, hat0, hre0, hgb0⟩ := hsl.kidTm hkl (i := 0) (by simp) (by simp)
 replace hre0 : B0 G (Tm.mk ak anm anum (.mk atk atks) (.mk afk afks) alb aks) e0 := hre0
 have hI := A6I (Tm.mk ak anm anum (.mk atk atks) (.mk afk afks) alb aks) G _ hN.frA hre0
 have ho0 := hre0.one
 obtain ⟨apt, act, apf, acf, ap, ac, aes, rfl, hak, hanum, halb, haty, hafr, hasl, hakl⟩ := hre0.open9
 obtain ⟨J, hJ⟩ : ∃ J, inj (Tm.mk ak anm anum (.mk atk atks) (.mk afk afks) alb aks) = J := ⟨_, rfl⟩
 obtain ⟨D, hD⟩ : ∃ D, S5 (.mk tk tks) = D := ⟨_, rfl⟩
 have hGr := B0n (.mk tk tks) G _ hta hty
 rw [hD] at hGr
 rw [hJ] at hI hji hjk
 have hR : O2 14 (.mk tk tks) (.mk fk fks) lb [Tm.mk ak anm anum (.mk atk atks) (.mk afk afks) alb aks] = (if fk = tk then (Tm.mk ak anm anum (.mk atk atks) (.mk afk afks) alb aks, 1, 0)
   else if tk = 1 then (J7 (J7 (Tm.mk ak anm anum (.mk atk atks) (.mk afk afks) alb aks) (.mk fk fks) (S2 (.mk fk fks)) lb) (S2 (.mk fk fks)) (.mk tk tks) lb, 1, 0)
   else if D = false then (J7 (J7 (Tm.mk ak anm anum (.mk atk atks) (.mk afk afks) alb aks) (.mk fk fks) (S2 (.mk tk tks)) lb) (S2 (.mk tk tks)) (.mk tk tks) lb, 1, 0)
   else if J = false then P5
   else if afk = tk then (kd aks 0, 1, 0)
   else (J5, 2, lb)) := by
  rw [← hJ, ← hD]; rfl
 rw [hR]
 refine C3 Tryz.func251 rfl Tryz.ntmps251 Tryz.results251 rfl ?_
 intro w0
 refine A3 ?_
 refine sE (C8 rfl rfl) rfl (fun b3 => ?_)
 refine sE (A6 rfl) rfl (fun b4 => ?_)
 refine D4 ?_
 refine sP (B4 (j := 0) rfl rfl rfl (by simp)) rfl rfl ?_
 refine sL (A2 rfl rfl (hat0 _) rfl) rfl rfl ?_
 refine sE (A6 rfl) rfl (fun b15 => ?_)
 refine B1 ?_
 refine C1 ?_
 refine D4 ?_
 refine sB (qE rfl rfl) rfl rfl (fun h29 => ?_) (fun h29 => ?_)
 refine I0 ?_
 refine C9 (rC rfl (A4 rfl rfl)) (rT rfl) (rT rfl) ?_
 (exact L5.mk (by rw [if_pos (by omega)]) hre0)
 refine E0 ?_
 refine sB (qE rfl rfl) rfl rfl (fun h56 => ?_) (fun h56 => ?_)
 refine D4 ?_
 (have hgk : tk = 1 := (by omega); refine E7 rfl (A6H (.mk fk fks) G _ hfa hfr) rfl rfl (fun u G1 hle1 hh => ?_); obtain ⟨gc, rfl, hrg⟩ := hh; have hgs := A2T (.mk fk fks); generalize S2 (.mk fk fks) = g at hrg hgs ⊢; obtain ⟨pg, cg, eg, rfl, _⟩ := hrg.open; replace hre0 := hre0.mono hle1; replace hfr := hfr.mono hle1; replace hty := hty.mono hle1)
 refine sE (A6 rfl) rfl (fun b66 => ?_)
 refine B1 ?_
 refine D7 D8 rfl ?_
 refine K7 (i := 0) (l' := [tt,ff,ff,ff,ff,ff,ff,ff,ff,ff,ff,ff,ff,ff,ff,ff]) rfl D1 (A2 rfl rfl (B3 (by repeat first | exact mH | apply mT)) rfl) rfl (by kernel_rfl) rfl rfl ?_
 refine aL 3 rfl (A2 rfl rfl (B3 (by repeat first | exact mH | apply mT)) rfl) rfl ?_
 refine aL 7 rfl (A2 rfl rfl (B3 (by repeat first | exact mH | apply mT)) rfl) rfl ?_
 refine aP 1 rfl (B5 rfl) rfl ?_
 refine aL 2 rfl (A4 rfl rfl) rfl ?_
 refine aP 4 rfl (B5 rfl) rfl ?_
 refine aL 5 rfl (C4 rfl rfl) rfl ?_
 refine aP 8 rfl (B5 rfl) rfl ?_
 refine aL 9 rfl (A4 rfl rfl) rfl ?_
 refine aP 10 rfl (B5 rfl) rfl ?_
 refine aL 11 rfl (C4 rfl rfl) rfl ?_
 refine A1 6 ?_
 (refine H0 rfl rfl (A0w _ (.mk fk fks) _ lb G1 _ _ _ ⟨by omega, by omega⟩ hre0 hfr hrg hfa.small hgs) rfl rfl rfl (fun u G3 hle3 hh => ?_); obtain ⟨wc, rfl, hrw⟩ := hh; have hwl := hrw.len; have hwo := hrw.one; replace hrg := hrg.mono hle3; replace hty := hty.mono hle3)
 refine A1 12 ?_
 (refine H0 rfl rfl (A0w _ _ (.mk tk tks) lb G3 _ _ _ ⟨by omega, by omega⟩ hrw hrg hty hgs hta.small) rfl rfl rfl (fun u G4 hle4 hh => ?_); obtain ⟨xc, rfl, hrx⟩ := hh; have hxl := hrx.len; have hxo := hrx.one)
 refine A1 13 ?_
 (refine oS rfl rfl rfl rfl hxl hxo rfl rfl ?_ (hu := by exact D6 hxl.symm))
 refine aP 14 rfl (qA rfl) rfl ?_
 refine aP 15 rfl (qA rfl) rfl ?_
 refine A9 ?_
 refine C9 (rC rfl (A2 rfl rfl (B3 (by repeat first | exact mH | apply mT)) hxl)) (rT rfl) (rT rfl) ?_
 (exact L5.mk (by rw [if_neg (by omega), if_pos (by omega)]) hrx)
 refine E0 ?_
 refine sP (A0N rfl rfl (by omega)) rfl rfl ?_
 refine D4 ?_
 focus (cases hDD : D; all_goals (rw [hDD] at hGr; refine H6 rfl hGr rfl rfl ?_))
 refine E0 ?_
 (refine E7 rfl (A6H (.mk tk tks) G _ hta hty) rfl rfl (fun u G1 hle1 hh => ?_); obtain ⟨gc, rfl, hrg⟩ := hh; have hgs := A2T (.mk tk tks); generalize S2 (.mk tk tks) = g at hrg hgs ⊢; obtain ⟨pg, cg, eg, rfl, _⟩ := hrg.open; replace hre0 := hre0.mono hle1; replace hfr := hfr.mono hle1; replace hty := hty.mono hle1)
 refine sE (A6 rfl) rfl (fun b127 => ?_)
 refine B1 ?_
 refine D7 D8 rfl ?_
 refine K7 (i := 0) (l' := [tt,ff,ff,ff,ff,ff,ff,ff,ff,ff,ff,ff,ff,ff,ff,ff]) rfl D1 (A2 rfl rfl (B3 (by repeat first | exact mH | apply mT)) rfl) rfl (by kernel_rfl) rfl rfl ?_
 refine aL 3 rfl (A2 rfl rfl (B3 (by repeat first | exact mH | apply mT)) rfl) rfl ?_
 refine aL 7 rfl (A2 rfl rfl (B3 (by repeat first | exact mH | apply mT)) rfl) rfl ?_
 refine aP 1 rfl (B5 rfl) rfl ?_
 refine aL 2 rfl (A4 rfl rfl) rfl ?_
 refine aP 4 rfl (B5 rfl) rfl ?_
 refine aL 5 rfl (C4 rfl rfl) rfl ?_
 refine aP 8 rfl (B5 rfl) rfl ?_
 refine aL 9 rfl (A4 rfl rfl) rfl ?_
 refine aP 10 rfl (B5 rfl) rfl ?_
 refine aL 11 rfl (C4 rfl rfl) rfl ?_
 refine A1 6 ?_
 (refine H0 rfl rfl (A0w _ (.mk fk fks) _ lb G1 _ _ _ ⟨by omega, by omega⟩ hre0 hfr hrg hfa.small hgs) rfl rfl rfl (fun u G3 hle3 hh => ?_); obtain ⟨wc, rfl, hrw⟩ := hh; have hwl := hrw.len; have hwo := hrw.one; replace hrg := hrg.mono hle3; replace hty := hty.mono hle3)
 refine A1 12 ?_
 (refine H0 rfl rfl (A0w _ _ (.mk tk tks) lb G3 _ _ _ ⟨by omega, by omega⟩ hrw hrg hty hgs hta.small) rfl rfl rfl (fun u G4 hle4 hh => ?_); obtain ⟨xc, rfl, hrx⟩ := hh; have hxl := hrx.len; have hxo := hrx.one)
 refine A1 13 ?_
 (refine oS rfl rfl rfl rfl hxl hxo rfl rfl ?_ (hu := by exact D6 hxl.symm))
 refine aP 14 rfl (qA rfl) rfl ?_
 refine aP 15 rfl (qA rfl) rfl ?_
 refine A9 ?_
 refine C9 (rC rfl (A2 rfl rfl (B3 (by repeat first | exact mH | apply mT)) hxl)) (rT rfl) (rT rfl) ?_
 (exact L5.mk (by rw [if_neg (by omega), if_neg (by omega), if_pos rfl]) hrx)
 refine D4 ?_
 focus (cases hJJ : J; all_goals (rw [hJJ] at hI; refine H6 rfl hI rfl rfl ?_))
 refine J9 ?_
 refine C9 (rC rfl (A4 rfl rfl)) (rT rfl) (rT rfl) ?_
 (exact L5.mk (by rw [if_neg (by omega), if_neg (by omega), if_neg (by decide), if_pos rfl]; rfl) (O6 _))
 refine K5 ?_
 refine sB (qE rfl rfl) rfl rfl (fun h199 => ?_) (fun h199 => ?_)
 refine D4 ?_
 (have hq1 := h14 (hjk (by assumption)); obtain ⟨bq, oq, e3, rfl, hl3, hat3, hre3, hgb3⟩ := hasl.kidTm hakl (i := 0) (by omega) (by omega); have ho3 := hre3.one; refine sP (B4 (j := 0) rfl rfl rfl (by omega)) rfl rfl ?_)
 refine sL (A2 rfl rfl (hat3 _) hl3) rfl rfl ?_
 refine sS rfl rfl rfl hl3 ho3 rfl ?_ (hu := by exact D6 hl3.symm)
 refine B2 ?_
 refine C9 (rC rfl (A2 rfl rfl (B3 (by repeat first | exact mH | apply mT)) hl3)) (rT rfl) (rT rfl) ?_
 (exact L5.mk (by rw [if_neg (by omega), if_neg (by omega), if_neg (by decide), if_neg (by decide), if_pos (by assumption), A1T (by omega)]) hre3)
 refine D4 ?_
 refine D7 D8 rfl ?_
 refine I9 (i := 0) (l' := [tt,ff,ff,ff,ff,ff]) rfl D1 (V6 rfl rfl) rfl (by kernel_rfl) rfl rfl ?_
 refine aP 1 rfl (B5 rfl) rfl ?_
 refine aL 2 rfl (C4 rfl rfl) rfl ?_
 refine A1 3 ?_
 refine H1 rfl ?_
 refine aP 4 rfl (qA rfl) rfl ?_
 refine aP 5 rfl (qA rfl) rfl ?_
 refine B6 ?_
 refine C9 (rC rfl (A4 rfl rfl)) (rT rfl) (rT rfl) ?_
 (exact L5.mk (by rw [if_neg (by omega), if_neg (by omega), if_neg (by decide), if_neg (by decide), if_neg (by assumption)]) (O6 _))
end Gw
end Go.Proofs.YtebfignffjhnhaaGreatDoor
