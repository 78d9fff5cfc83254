/-
  Drawn terms with casts, paths, arguments.
-/
import Derived.Test.YtfpgncjeejickaaGreatKf5
import Derived.Test.YtfpgncjeejickaaGreatKf3
import Derived.Test.YtfpgncjeejickaaGreatKf2
import Derived.Test.YtfpgncjeejickaaGreatKf6
import Derived.Test.YtfpgncjeejickaaGreatKf4
import Derived.Test.YtfpgncjeejickaaGreatShelf
import Derived.Test.YtfpgncjeejickaaGreatKf1
import Derived.Lib.ItoaNum
import Derived.Lib.LaidTab
set_option linter.unusedVariables false
set_option linter.unusedSimpArgs false
set_option maxHeartbeats 0
set_option maxRecDepth 100000
set_option synthInstance.maxSize 4000
set_option synthInstance.maxHeartbeats 0
namespace Go.Proofs.YtfpgncjeejickaaGreat
open Go Go.RowKit
namespace Gw
def B5c (G : IM) : IM → Value → List A4 → Prop := J8 fun G' v => ∃ u cu t ct b, v = .tuple ⟨[.agg ⟨cu⟩, .agg ⟨ct⟩, .bool b]⟩ ∧ A6 G' u cu ∧ u.small ∧ D1 u ≤ 60 ∧ B6 G' t ct ∧ E6 t ∧ P2 t ≤ 960
def B5d (G : IM) : IM → Value → List A4 → Prop := J8 fun G' v => ∃ t cells l q c, v = .tuple ⟨[.agg ⟨cells⟩, .slice q l.length c]⟩ ∧ A6 G' t cells ∧ t.fit 100 ∧ Sl G' q l.length c 1 (N3 l) ∧ l.length ≤ 100
def B5e (ts : List Tm) (G : IM) : IM → Value → List A4 → Prop := J8 fun G' v => ∃ p c es, v = .slice p ts.length c ∧ C4 G' p ts.length c 9 es ∧ C7 G' ts es
def B5f (ts : List Ty) (G : IM) : IM → Value → List A4 → Prop := J8 fun G' v => ∃ p c es, v = .slice p ts.length c ∧ C4 G' p ts.length c 2 es ∧ C2 G' ts es
theorem B36 (G : IM) (cells : List Value) (hl : cells.length = 9) (ho : cells.all (·.oneCell') = true) : Fn Tryz.prog 51 [.agg ⟨cells⟩] [] G (E4 (.tuple ⟨[]⟩) G) := by
 refine B4 Tryz.func51 rfl Tryz.ntmps51 Tryz.results51 rfl ?_
 intro w0
 refine tR ?_
 refine sE (C1 rfl rfl) rfl (fun b2 => ?_)
 refine sD ?_
 refine B2T ?_
 (exact ⟨rfl, rfl, rfl⟩)
theorem B37 {e : Tm} {fuel : Int} (h : R4 fuel 0 300 = false) : A0R e fuel = 0 := by
 unfold A0R; rw [if_neg (A6u h)]
theorem B38 {e : Tm} {fuel : Int} (h : R4 fuel 0 300 = true) : A0R e fuel = ((P8 fuel.toNat e).2.2.2 : Int) := by
 unfold A0R; rw [if_pos (A4L h), B2Q]
theorem B39 (e : Tm) (fuel : Int) (G : IM) (cells : List Value) (hr : A6 G e cells) : Fn Tryz.prog 15 [.agg ⟨cells⟩, .int .i64 fuel] [] G (J8 fun _ v => v = .int .i64 (A0R e fuel)) := by
 have hRl := hr.len
 have hRo := hr.one
 have hno := @B37 e fuel
 have hye := @B38 e fuel
 refine B4 Tryz.func15 rfl Tryz.ntmps15 Tryz.results15 rfl ?_
 intro w0
 refine tS (tR ?_)
 refine sE (C1 rfl rfl) rfl (fun b3 => ?_)
 refine C3 ?_
 refine F0 rfl ((A8t fuel _)) rfl rfl (fun h11 => ?_) (fun h11 => ?_)
 refine sQ (U0 rfl) rfl (sD (nS (cF rfl (tK (nS (tS (tR ?_)))))))
 refine sL (A0 rfl rfl (A9 (by repeat first | exact mH | apply mT)) hRl) rfl rfl ?_
 refine sQ (qM rfl) rfl ?_
 (have hf : R4 fuel 0 300 = true := (by assumption); have hf2 := A4L hf; have hE := B2U e fuel.toNat (by omega) 51 [] [] (fun G u cells hru => B36 G cells hru.len hru.one) G cells hr; rw [Int.toNat_of_nonneg hf2.1] at hE; have hye2 := hye hf; refine D2 rfl hE rfl rfl (fun v G1 hle1 hh => ?_); obtain ⟨wc, hv, hrw⟩ := hh; have hwl := hrw.len; have hwo := hrw.one; generalize P8 fuel.toNat e = r at hv hrw hye2; obtain ⟨w, c, l, i⟩ := r; simp only at hv hrw hye2; subst hv)
 refine O8 ?_
 refine sE (A5 rfl) rfl (fun b28 => ?_)
 refine sS rfl rfl rfl hwl hwo rfl ?_ (hu := by exact D4 hwl.symm)
 refine K1 ?_
 (exact ⟨rfl, by rw [hye2]⟩)
 refine J9 ?_
 (exact ⟨rfl, by rw [hno (by assumption)]⟩)
def B5g (r : Option Ty) : IM → Value → List A4 → Prop := J8 fun G' v => ∃ cells, v = .tuple ⟨[.agg ⟨cells⟩, .bool r.isSome]⟩ ∧ B6 G' (r.getD B5) cells
theorem B4a (x : Tm) (fuel : Int) (G : IM) (xc : List Value) (b : Nat) (hr : A6 G x xc) : Fn Tryz.prog 66 [.agg ⟨xc⟩, .pointer (some ⟨b, 0, none⟩)] [.blk b [.int .i64 fuel]] G (fun _ v outs => outs = [.blk b [.int .i64 fuel]] ∧ v = .int .i64 (A1N x fuel)) := by
 have hl := hr.len
 have hone := hr.one
 refine B4 Tryz.func66 rfl Tryz.ntmps66 Tryz.results66 rfl ?_
 intro w0
 refine tS (tR ?_)
 refine sE (C1 rfl rfl) rfl (fun b3 => ?_)
 refine sQ (qA rfl) rfl (sD (nS (tS (tR ?_))))
 refine sL (A0 rfl rfl (A9 (by repeat first | exact mH | apply mT)) hl) rfl rfl ?_
 (refine D2 rfl (B25 x G xc hr) rfl rfl (fun v2 G2 hle2 hh => ?_); obtain ⟨cu, ct, rfl, hru, hrt⟩ := hh; obtain ⟨qt, dt, et2, rfl, _⟩ := hrt.open; have hlu := hru.len; have hou := hru.one; have hC := B39 _ fuel G2 cu hru)
 refine H8 ?_
 refine sE (A5 rfl) rfl (fun b15 => ?_)
 refine sE (A5 rfl) rfl (fun b16 => ?_)
 refine S6 rfl rfl rfl (by assumption) (by assumption) rfl (by repeat first | exact Sw.here | apply Sw.there) (by exact D4 (by symm; assumption)) ?_
 refine J7 ?_
 refine sQ (qA rfl) rfl (sD (nS (tS (tR ?_))))
 refine sL (A0 rfl rfl (A9 (by repeat first | exact mH | apply mT)) hlu) rfl rfl ?_
 refine sL (B9 rfl rfl) rfl rfl ?_
 (refine D2 rfl hC rfl rfl (fun v3 G3 hle3 hh => ?_); subst hh)
 refine sQ (qA rfl) rfl (sD (nS (tT ?_)))
 refine N9 (outs := [.blk b [.int .i64 fuel]]) (rT rfl) (by repeat (first | exact A7.nil | refine A7.cons Pk.here ?_ | refine A7.cons (Pk.there Pk.here) ?_ | refine A7.cons (Pk.there (Pk.there Pk.here)) ?_ | apply A7.drop)) ?_
 exact ⟨rfl, rfl⟩
theorem A5S (e : Tm) (fuel : Int) (G : IM) (cells : List Value) (hts : e.small) (hcnt : D1 e ≤ 4000000) (hr : A6 G e cells) :
  Fn Tryz.prog 22 [.agg ⟨cells⟩, .int .i64 fuel] [] G (IsP ((S0 e fuel).getD []) (S0 e fuel).isSome G) := by
 have hl := hr.len
 have hone := hr.one
 have hno : R4 fuel 0 300 = false → S0 e fuel = none := fun h => by unfold S0; rw [if_neg (by rw [h]; decide)]
 have hyes : R4 fuel 0 300 = true → S0 e fuel = (W5 e).map (List.map fun x => A1N x fuel) := fun h => by unfold S0; rw [if_pos h]
 generalize S0 e fuel = R at *
 refine B4 Tryz.func22 rfl Tryz.ntmps22 Tryz.results22 rfl ?_
 intro w0
 refine tS (tR ?_)
 refine sE (C1 rfl rfl) rfl (fun b3 => ?_)
 (refine K6 (A58 rfl rfl rfl) rfl ?_; rintro _ ⟨b4, rfl⟩)
 refine D3 ?_
 refine F0 rfl (A8t fuel _) rfl rfl (fun h13 => ?_) (fun h13 => ?_)
 refine sQ (U0 rfl) rfl (sD (nS (cF rfl (tK (nS (tS (tR ?_)))))))
 refine sL (A0 rfl rfl (A9 (by repeat first | exact mH | apply mT)) hl) rfl rfl ?_
 refine sQ (A2r rfl rfl) rfl ?_
 (have hy2 := hyes (by assumption); refine A1F rfl (B3k e (fun x => A1N x fuel) 66 [] [.pointer (some ⟨b4, 0, none⟩)] (.blk b4 [.int .i64 fuel]) G cells hts hcnt hr (fun x G' xc hle _ hrx => B4a x fuel G' xc _ hrx)) (Pk.perm (by repeat (first | exact Pk.here | apply Pk.there))) rfl rfl (fun v3 G3 outs hle3 hh => ?_); obtain ⟨rfl, p, c, rfl, hsp⟩ := hh; rw [← hy2] at hsp ⊢)
 refine C3 ?_
 refine E5 (rT rfl) (rT rfl) ?_
 exact IsP.mk rfl rfl rfl hsp
 refine J9 ?_
 refine E5 (rT rfl) (rT rfl) ?_
 exact IsP.mk (by rw [hno (by assumption)]; rfl) (by rw [hno (by assumption)]; rfl) rfl (SP1.nil _)
theorem A9n {G : IM} {w : World} {b o c : Nat} {l : List Int} (hw : A2o G w) (h : Sl G (some ⟨b, o, none⟩) l.length c 1 (N3 l)) (h0 : 0 < l.length) : ∀ j, j < l.length → w.cell? ⟨b, o + j, none⟩ = some (.int .i64 (l.getD j 0)) := by
 intro j hj
 obtain ⟨_, _, _, h4⟩ := h
 rcases h4 with h4 | ⟨b', o', full, hp, hg, hf⟩
 ·omega
 ·cases hp
  obtain ⟨e, f, hh⟩ := hw b full hg
  have := hf j _ (by rw [N3, List.getElem?_map, List.getElem?_eq_getElem hj]; rfl)
  unfold World.cell?
  simp only [hh, Option.isSome_none, Bool.false_eq_true, if_false]
  rw [List.getElem?_toArray, this, List.getD_eq_getElem?_getD, List.getElem?_eq_getElem hj]
  rfl
theorem B4b (l : List Int) (G : IM) (b o c : Nat) (h0 : 0 < l.length) (hl : l.length ≤ 4294967296) (h : Sl G (some ⟨b, o, none⟩) l.length c 1 (N3 l)) :
  Fn Tryz.prog 57 [.slice (some ⟨b, o, none⟩) l.length c] [] G (E4 (.int .i64 (Lib.maxOf l)) G) := by
 refine ⟨fun w hw => ?_⟩
 refine (Tryz.slices_Max_int b o l.length c l w h0 (Nat.le_refl _) (by omega) (A9n hw.inn h h0)).mono ?_
 rintro e w' ⟨rfl, rfl⟩
 exact ⟨_, G, [], rfl, O3.refl hw, rfl, by rw [List.take_length], rfl⟩
theorem B4c (l : List Int) (x : Int) (G : IM) (b o c : Nat) (h0 : 0 < l.length) (hl : l.length ≤ 4294967296) (h : Sl G (some ⟨b, o, none⟩) l.length c 1 (N3 l)) :
  Fn Tryz.prog 56 [.slice (some ⟨b, o, none⟩) l.length c, .int .i64 x] [] G (E4 (.int .i64 (Lib.idxOf l x)) G) := by
 refine ⟨fun w hw => ?_⟩
 refine (Tryz.slices_Index_int b o l.length c l x w (Nat.le_refl _) (by omega) (A9n hw.inn h h0)).mono ?_
 rintro e w' ⟨rfl, rfl⟩
 exact ⟨_, G, [], rfl, O3.refl hw, rfl, by rw [List.take_length], rfl⟩
theorem B4d (e : Tm) (fuel : Int) (G : IM) (cells : List Value) (hts : e.small) (hcnt : D1 e ≤ 4000000) (hr : A6 G e cells) :
  Fn Tryz.prog 19 [.agg ⟨cells⟩, .int .i64 fuel] [] G (J8 fun _ v => v = .tuple ⟨[.int .i64 (A0w e fuel).1, .bool (A0w e fuel).2]⟩) := by
 have hl := hr.len
 have hone := hr.one
 have hC := A5S e fuel G cells hts hcnt hr
 have hno : S0 e fuel = none → A0w e fuel = (0, false) := fun h => by unfold A0w; rw [h]
 have hyes : ∀ l, S0 e fuel = some l → A0w e fuel = (Lib.idxOf l (Lib.maxOf l), true) := fun l h => by unfold A0w; rw [h]
 have hlen := @A5R e fuel
 generalize S0 e fuel = R at *
 refine B4 Tryz.func19 rfl Tryz.ntmps19 Tryz.results19 rfl ?_
 intro w0
 refine tS (tR ?_)
 refine sE (C1 rfl rfl) rfl (fun b3 => ?_)
 refine sQ (qA rfl) rfl (sQ (qA rfl) rfl (sD (nS (tS (tR ?_)))))
 refine sL (A0 rfl rfl (A9 (by repeat first | exact mH | apply mT)) hl) rfl rfl ?_
 refine sQ (qM rfl) rfl ?_
 focus (refine D2 rfl hC rfl rfl (fun v2 G2 hle2 hh => ?_); obtain ⟨p2, c2, rfl, hp2⟩ := hh; rcases R with _ | l; rotate_left; (obtain ⟨hl1, hl2⟩ := hlen rfl; have hsl : Sl G2 p2 l.length c2 1 (N3 l) := hp2.1.mono (B2.le _ _); obtain ⟨bR, oR, vR, rfl, _⟩ := hsl.kid (i := 0) hl1; have hMx := B4b l G2 bR oR c2 hl1 (by omega) hsl; have hIx := B4c l (Lib.maxOf l) G2 bR oR c2 hl1 (by omega) hsl); rotate_left)
 refine A0Y ?_
 refine E5 (rT rfl) (rT rfl) ?_
 (exact ⟨rfl, by rw [hno rfl]⟩)
 refine A0p ?_
 refine I3 rfl (hMx) rfl rfl ?_
 refine I3 rfl (hIx) rfl rfl ?_
 refine sQ (qA rfl) rfl (sQ (qA rfl) rfl (sD (nS (tT ?_))))
 refine E5 (rT rfl) (rT rfl) ?_
 (exact ⟨rfl, by rw [hyes l rfl]⟩)
theorem B4e {t : Ty} (ha : E6 t) : T7 t = .mk t.k (List.replicate t.ks.length R8) := by
 obtain ⟨k, ks⟩ := t
 rw [E6] at ha
 show (if k = 4 ∨ k = 5 then Ty.mk k [R8, R8] else .mk k []) = _
 show _ = Ty.mk k (List.replicate ks.length R8)
 split
 ·rename_i h; rw [ha.1 h]; rfl
 ·rename_i h
  rw [ha.2.1 (fun e => h (.inl e)) (fun e => h (.inr e))]; rfl
theorem A5T (t : Ty) (G : IM) (cells : List Value) (ha : E6 t) (hr : B6 G t cells) : Fn Tryz.prog 239 [.agg ⟨cells⟩] [] G (A5j (T7 t) G) := by
 rw [B4e ha]
 obtain ⟨tk, tks⟩ := t
 have hsm := ha.small
 rw [Ty.small] at hsm
 obtain ⟨hsm1, _⟩ := hsm
 obtain ⟨p, c, es, rfl, hk, hsl, hkl⟩ := hr.open
 simp only [Ty.k, Ty.ks] at hk hsl hkl ⊢
 have hn := hsl.le
 refine B4 Tryz.func239 rfl Tryz.ntmps239 Tryz.results239 rfl ?_
 intro w0
 refine tS (tR ?_)
 refine sE (C1 rfl rfl) rfl (fun b3 => ?_)
 refine sE (A5 rfl) rfl (fun b4 => ?_)
 refine C3 ?_
 refine sE (A5 rfl) rfl (fun b12 => ?_)
 refine J7 ?_
 refine sD (nS (tS (tS (tR (sQ (qA rfl) rfl (sD (nS ?_)))))))
 refine B3 ?_
 (refine S2 25 2 ?_; refine I1 (fun (x : Nat × Option Addr × Nat × List (List Value)) => ⟨[(4, .int .i64 x.1), (3, .pointer (some ⟨b12, 0, none⟩)), (1, .pointer (some ⟨b3, 0, none⟩)), (2, .pointer (some ⟨b4, 0, none⟩))], [.blk b12 [.int .i64 tk, .slice x.2.1 x.1 x.2.2.1], .slc x.2.1 x.2.2.1 25 2 x.1 x.2.2.2.flatten, .blk b4 [.int .i64 0, .slice none 0 0], .blk b3 [.int .i64 tk, .slice p tks.length c]], G⟩) (fun x => x.1 ≤ tks.length ∧ C2 G (List.replicate x.1 R8) x.2.2.2) (fun x => tks.length - x.1) (0, none, 0, []) ?_ ?_ ?_)
 (simp only [H5]; exact C9)
 (exact ⟨Nat.zero_le _, rfl⟩)
 (rintro ⟨i, pn, cn, es'⟩ ⟨hi, hst⟩; simp only [] at hi hst ⊢; have hsl' := hst.len; rw [List.length_replicate] at hsl')
 refine C3 ?_
 refine sB (I2 rfl rfl) rfl rfl (fun h34 => ?_) (fun h34 => ?_)
 refine sD (nS (qT rfl (tK (nS (tS ?_)))))
 refine B3 ?_
 refine D5 D6 rfl ?_
 refine J6 (i := 0) (l' := [tt,ff,ff,ff,ff,ff,ff]) rfl D0 (B0 rfl) rfl (by kernel_rfl) rfl rfl ?_
 refine aL 1 rfl (B9 rfl rfl) rfl ?_
 refine A2 2 ?_
 refine M6 rfl rfl ((A31 _)) rfl rfl rfl ?_
 refine A2 3 ?_
 (refine E3 rfl (D7 rfl rfl rfl (by omega) (by unfold maxLen; omega) rfl) rfl rfl ?_; rintro _ ⟨b48, rfl⟩)
 refine A2 4 ?_
 refine U2 rfl rfl rfl rfl rfl rfl (fun _ _ => by repeat (first | exact Sw.here | apply Sw.there)) (N8 (by repeat first | exact mH | apply mT)) rfl (by simp [Value.oneCell']) (by unfold maxLen; omega) (by omega) rfl rfl (by repeat (first | exact C6.nil | apply C6.dep (by decide +kernel) | apply C6.im (by decide +kernel) (by assumption) (by repeat first | exact mH | apply mT) | apply C6.blk (by decide +kernel) (by repeat (first | exact Pk.here | apply Pk.there)) (by repeat first | exact mH | apply mT) | apply C6.slc (by decide +kernel) (by repeat (first | exact Pk.here | apply Pk.there)) (by repeat first | exact mH | apply mT))) (fun pn' cn' => ?_)
 refine aP 5 rfl (B0 rfl) rfl ?_
 refine A2 6 ?_
 refine Y2 rfl rfl rfl rfl rfl rfl rfl rfl (by decide +kernel) (by repeat first | exact Sw.here | apply Sw.there) (by rfl) ?_
 refine C5 (P4 (nS (tR (sQ (qM rfl) rfl ?_))))
 refine sP (E8 rfl rfl (by omega) (by omega)) rfl rfl ?_
 refine sQ (qA rfl) rfl (sD ?_)
 refine I4 (i + 1, pn', cn', es' ++ [[.int .i64 1, .slice none 0 0]]) ?_ ?_ ?_
 (simp only [H5]; exact C9)
 (dsimp only; exact ⟨by omega, by rw [List.replicate_succ']; exact C2.snoc hst (A19 _)⟩)
 (show tks.length - (i + 1) < tks.length - i; omega)
 refine L5 ?_
 (refine H7 (cs := es'.flatten) (by repeat (first | exact Pk.here | apply Pk.there)) (fun G2 hle2 hsl2 hno2 => ?_); obtain rfl : i = tks.length := (by omega))
 refine tT ?_
 refine E1 (rC rfl (A3 rfl rfl)) ?_
 (exact ⟨rfl, _, rfl, (hst.mono hle2).ty (by simp) hsl2 hk⟩)
theorem A9o (t : Ty) (G : IM) (cells : List Value) (ha : E6 t) (hr : B6 G t cells) : Fn Tryz.prog 225 [.agg ⟨cells⟩] [] G (E4 (.bool (V3 t)) G) := by
 refine Fn.forget (post := J8 fun _ v => v = .bool (V3 t)) ?_ (fun _ _ _ h => h.2)
 have hr0 := hr
 have hG := A5T t G cells ha hr
 obtain ⟨tk, tks⟩ := t
 obtain ⟨p, c, es, rfl, hk, _⟩ := hr.open
 simp only [Ty.k, Ty.ks] at hk hr0 hG ⊢
 have hd : V3 (.mk tk tks) = (decide (tk ≠ 1) && M4 (.mk tk tks) (T7 (.mk tk tks))) := rfl
 rw [hd]
 generalize T7 (.mk tk tks) = g at hG ⊢
 refine B4 Tryz.func225 rfl Tryz.ntmps225 Tryz.results225 rfl ?_
 intro w0
 refine tS (tR ?_)
 refine sE (C1 rfl rfl) rfl (fun b3 => ?_)
 refine sQ (qA rfl) rfl (sD (nS (tS ?_)))
 refine D5 D6 rfl ?_
 refine J6 (i := 0) (l' := [tt,ff,ff,ff,ff,ff,ff,ff,ff,ff]) rfl D0 (B0 rfl) rfl (by kernel_rfl) rfl rfl ?_
 refine aL 1 rfl (B9 rfl rfl) rfl ?_
 refine A0n (i := 2) (l' := [tt,tt,tt,ff,ff,ff,ff,ff,ff,ff]) rfl D0 (N7 rfl rfl) rfl (by kernel_rfl) rfl rfl (fun h11 => ?_) (fun h11 => ?_)
 refine aP 3 rfl (qM rfl) rfl ?_
 refine aL 4 rfl (A3 rfl rfl) rfl ?_
 refine aL 5 rfl (A3 rfl rfl) rfl ?_
 refine A2 6 ?_
 (refine E9 rfl rfl hG rfl rfl rfl (fun v G1 hle1 hh => ?_); obtain ⟨cg, rfl, hrg⟩ := hh; have hT := A83 (.mk tk tks) g G1 _ _ (hr0.mono hle1) hrg; obtain ⟨pg, cgg, eg, rfl, _⟩ := hrg.open)
 refine A2 7 ?_
 refine M6 rfl rfl (hT) rfl rfl rfl ?_
 refine aP 8 rfl (L4 rfl rfl) rfl ?_
 refine aP 9 rfl (qA rfl) rfl ?_
 refine C5 (nS (tT (E1 (rT rfl) ?_)))
 (refine ⟨rfl, ?_⟩; show Value.bool _ = Value.bool _; rw [decide_eq_true (by omega), Bool.true_and])
 refine aP 3 rfl (qM rfl) rfl ?_
 refine B8 4 rfl rfl rfl ?_
 refine B8 5 rfl rfl rfl ?_
 refine B8 6 rfl rfl rfl ?_
 refine B8 7 rfl rfl rfl ?_
 refine aP 8 rfl (N4 rfl rfl) rfl ?_
 refine aP 9 rfl (qA rfl) rfl ?_
 refine C5 (nS (tT (E1 (rT rfl) ?_)))
 (refine ⟨rfl, ?_⟩; show Value.bool _ = Value.bool _; rw [decide_eq_false (by omega), Bool.false_and])
theorem A5U (t : Tm) (G : IM) (cells : List Value) (hr : A6 G t cells) : Fn Tryz.prog 180 [.agg ⟨cells⟩] [] G (E4 (.bool (W1 t)) G) := by
 obtain ⟨k, nm, num, ⟨tk, tks⟩, ⟨fk, fks⟩, lb, ks⟩ := t
 obtain ⟨pt, ct, pf, cf, p, c, es, rfl, hk, hnum, hlb, hty, hfr, hsl, hkl⟩ := hr.open9
 have hd : W1 (.mk k nm num (.mk tk tks) (.mk fk fks) lb ks) = decide (k = 14 ∧ fk = tk ∧ (tk = 4 ∨ tk = 5)) := rfl
 rw [hd]
 refine B4 Tryz.func180 rfl Tryz.ntmps180 Tryz.results180 rfl ?_
 intro w0
 refine tS (tR ?_)
 refine sE (C1 rfl rfl) rfl (fun b3 => ?_)
 refine C3 ?_
 refine sB (qE rfl rfl) rfl rfl (fun h11 => ?_) (fun h11 => ?_)
 refine C3 ?_
 refine sB (qE rfl rfl) rfl rfl (fun h19 => ?_) (fun h19 => ?_)
 refine O8 ?_
 refine sB (qE rfl rfl) rfl rfl (fun h25 => ?_) (fun h25 => ?_)
 refine J9 ?_
 (exact ⟨rfl, by rw [decide_eq_true (by omega)], rfl⟩)
 refine H8 ?_
 refine sB (qE rfl rfl) rfl rfl (fun h43 => ?_) (fun h43 => ?_)
 refine C3 ?_
 (exact ⟨rfl, by rw [decide_eq_true (by omega)], rfl⟩)
 refine C3 ?_
 (exact ⟨rfl, by rw [decide_eq_false (by omega)], rfl⟩)
 refine T2 ?_
 (exact ⟨rfl, by rw [decide_eq_false (by omega)], rfl⟩)
 refine A3L ?_
 (exact ⟨rfl, by rw [decide_eq_false (by omega)], rfl⟩)
theorem A9p (t : Tm) (G : IM) (cells : List Value) (ha : E6 t.fr) (hr : A6 G t cells) : Fn Tryz.prog 181 [.agg ⟨cells⟩] [] G (E4 (.bool (inj t)) G) := by
 obtain ⟨k, nm, num, ⟨tk, tks⟩, ⟨fk, fks⟩, lb, ks⟩ := t
 obtain ⟨pt, ct, pf, cf, p, c, es, rfl, hk, hnum, hlb, hty, hfr, hsl, hkl⟩ := hr.open9
 have hd : inj (.mk k nm num (.mk tk tks) (.mk fk fks) lb ks) = (decide (k = 14 ∧ tk = 1) && V3 (.mk fk fks)) := rfl
 rw [hd]
 have hG := A9o (.mk fk fks) G _ ha hfr
 refine B4 Tryz.func181 rfl Tryz.ntmps181 Tryz.results181 rfl ?_
 intro w0
 refine tS (tR ?_)
 refine sE (C1 rfl rfl) rfl (fun b3 => ?_)
 refine C3 ?_
 refine sB (qE rfl rfl) rfl rfl (fun h11 => ?_) (fun h11 => ?_)
 refine H8 ?_
 refine sB (qE rfl rfl) rfl rfl (fun h16 => ?_) (fun h16 => ?_)
 refine H8 ?_
 refine I3 rfl (hG) rfl rfl ?_
 refine E2 ?_
 (exact ⟨rfl, by rw [decide_eq_true (by omega), Bool.true_and], rfl⟩)
 refine F8 ?_
 (exact ⟨rfl, by rw [decide_eq_false (by omega), Bool.false_and], rfl⟩)
 refine J1 ?_
 (exact ⟨rfl, by rw [decide_eq_false (by omega), Bool.false_and], rfl⟩)
section
variable {k : Int} {nm : ByteArray} {num : Int} {ty fr : Ty} {lb : Int} {ks : List Tm}
theorem B4f (h : k = 2 ∨ k = 3 ∨ k = 4 ∨ k = 5) : K0 (.mk k nm num ty fr lb ks) = true := by
 rw [K0, if_neg (by omega)]; exact decide_eq_true h
theorem B4g (h : k = 10) (hl : ks.length = 2) : K0 (.mk k nm num ty fr lb ks) = (K0 (ks[0]'(by omega)) && K0 (ks[1]'(by omega))) := by
 rw [A4f (.inl h)]
 obtain ⟨a, b, rfl⟩ := ks2 hl
 simp
theorem B4h (h : W1 (.mk k nm num ty fr lb ks) = true ∨ inj (.mk k nm num ty fr lb ks) = true) (hl : ks.length = 1) : K0 (.mk k nm num ty fr lb ks) = K0 (ks[0]'(by omega)) := by
 rw [A4f (.inr h)]
 obtain ⟨a, rfl⟩ := ks1 hl
 simp
theorem B4i (h : ¬(k = 2 ∨ k = 3 ∨ k = 4 ∨ k = 5)) (h10 : k ≠ 10) (h2 : W1 (.mk k nm num ty fr lb ks) = false) (h3 : inj (.mk k nm num ty fr lb ks) = false) : K0 (.mk k nm num ty fr lb ks) = false := by
 rw [A8c h10 h2 h3]; exact decide_eq_false h
theorem B4j (h : W1 (.mk k nm num ty fr lb ks) = true ∨ inj (.mk k nm num ty fr lb ks) = true) : k = 14 := by
 rcases h with h | h
 ·exact (prx_spec' h)
 ·exact A5r h
where
 prx_spec' {k : Int} {nm : ByteArray} {num : Int} {ty fr : Ty} {lb : Int} {ks : List Tm} (h : W1 (.mk k nm num ty fr lb ks) = true) : k = 14 := by rw [A2h] at h; exact (of_decide_eq_true h).1
end
theorem A5V : ∀ (t : Tm) (G : IM) (cells : List Value), cv t → A6 G t cells → Fn Tryz.prog 127 [.agg ⟨cells⟩] [] G (E4 (.bool (K0 t)) G) := by
 refine Tm.ind fun k nm num ty fr lb ks ih G cells hc hr => ?_
 obtain ⟨hN, hkk⟩ := hc.node
 have hop := hN.ops
 have h10 : k = 10 → ks.length = 2 := fun h => by rw [h] at hop; have : D9 10 = 2 := rfl; omega
 have h14 : k = 14 → ks.length = 1 := fun h => by rw [h] at hop; have : D9 14 = 1 := rfl; omega
 have hP := A5U _ G _ hr
 have hI := A9p (.mk k nm num ty fr lb ks) G _ hN.frA hr
 have e1 := @B4f k nm num ty fr lb ks
 have e2 := @B4g k nm num ty fr lb ks
 have e3 := @B4h k nm num ty fr lb ks
 have e4 := @B4i k nm num ty fr lb ks
 have e5 := @B4j k nm num ty fr lb ks
 generalize hpx : W1 (.mk k nm num ty fr lb ks) = bp at hP e3 e4 e5
 generalize hij : inj (.mk k nm num ty fr lb ks) = bi at hI e3 e4 e5
 generalize K0 (.mk k nm num ty fr lb ks) = R at e1 e2 e3 e4 ⊢
 obtain ⟨tk, tks⟩ := ty
 obtain ⟨fk, fks⟩ := fr
 obtain ⟨pt, ct, pf, cf, p, c, es, rfl, hk, hnum, hlb, hty, hfr, hsl, hkl⟩ := hr.open9
 refine B4 Tryz.func127 rfl Tryz.ntmps127 Tryz.results127 rfl ?_
 intro w0
 refine tS (tR ?_)
 refine sE (C1 rfl rfl) rfl (fun b3 => ?_)
 refine I8 ?_
 refine B3 (tS (tS (tR (sB (qE rfl rfl) rfl rfl (fun h18 => ?_) (fun h18 => ?_)))))
 refine J1 ?_
 (exact ⟨rfl, by rw [e1 (by omega)], rfl⟩)
 refine sQ (qA rfl) rfl (sD (nS (cF rfl (tS (tR ?_)))))
 refine sB (qE rfl rfl) rfl rfl (fun h42 => ?_) (fun h42 => ?_)
 refine J1 ?_
 (exact ⟨rfl, by rw [e1 (by omega)], rfl⟩)
 refine sQ (qA rfl) rfl (sD (nS (cF rfl (tS (tR ?_)))))
 refine sB (qE rfl rfl) rfl rfl (fun h66 => ?_) (fun h66 => ?_)
 refine J1 ?_
 (exact ⟨rfl, by rw [e1 (by omega)], rfl⟩)
 refine sQ (qA rfl) rfl (sD (nS (cF rfl (tR ?_))))
 refine sB (qE rfl rfl) rfl rfl (fun h89 => ?_) (fun h89 => ?_)
 refine K1 ?_
 (exact ⟨rfl, by rw [e1 (by omega)], rfl⟩)
 refine sQ (qA rfl) rfl (sD (nS (cF rfl (tS (tR ?_)))))
 refine sB (qE rfl rfl) rfl rfl (fun h110 => ?_) (fun h110 => ?_)
 refine D3 ?_
 (have hl2 := h10 (by omega); obtain ⟨bx, ox, e, rfl, hl, hat, hre, hgb⟩ := hsl.kidTm hkl (i := 0) (by omega) (by omega); have hih := ih ks[0] (List.getElem_mem (by omega)) G e (hkk _ (List.getElem_mem (by omega))) hre; obtain ⟨_, _, e', hp', hl', hat', hre', hgb'⟩ := hsl.kidTm hkl (i := 1) (by omega) (by omega); cases hp'; have hih' := ih ks[1] (List.getElem_mem (by omega)) G e' (hkk _ (List.getElem_mem (by omega))) hre'; refine sP (A8 (j := 0) rfl rfl rfl (by omega)) rfl rfl ?_)
 refine sL (A0 rfl rfl (hat _) hl) rfl rfl ?_
 refine F0 rfl (hih) rfl rfl (fun h121 => ?_) (fun h121 => ?_)
 refine J2 ?_
 refine sP (A8 (j := 1) rfl rfl rfl (by omega)) rfl rfl ?_
 refine sL (A0 rfl rfl (hat' _) hl') rfl rfl ?_
 refine F0 rfl (hih') rfl rfl (fun h127 => ?_) (fun h127 => ?_)
 refine D3 ?_
 (exact ⟨rfl, by rw [e2 (by omega) hl2]; simp [*], rfl⟩)
 refine D3 ?_
 (exact ⟨rfl, by rw [e2 (by omega) hl2]; simp [*], rfl⟩)
 refine L5 ?_
 (exact ⟨rfl, by rw [e2 (by omega) hl2]; simp [*], rfl⟩)
 refine I8 ?_
 refine F0 rfl (hP) rfl rfl (fun h171 => ?_) (fun h171 => ?_)
 refine C3 ?_
 (have hl1 := h14 (by first | exact e5 (.inl (by assumption)) | exact e5 (.inr (by assumption))); obtain ⟨bx, ox, e, rfl, hl, hat, hre, hgb⟩ := hsl.kidTm hkl (i := 0) (by omega) (by omega); have hih := ih ks[0] (List.getElem_mem (by omega)) G e (hkk _ (List.getElem_mem (by omega))) hre; refine sP (A8 (j := 0) rfl rfl rfl (by omega)) rfl rfl ?_)
 refine sL (A0 rfl rfl (hat _) hl) rfl rfl ?_
 refine F0 rfl (hih) rfl rfl (fun h181 => ?_) (fun h181 => ?_)
 refine E2 ?_
 (exact ⟨rfl, by rw [e3 (by first | exact .inl (by assumption) | exact .inr (by assumption)) hl1]; simp [*], rfl⟩)
 refine E2 ?_
 (exact ⟨rfl, by rw [e3 (by first | exact .inl (by assumption) | exact .inr (by assumption)) hl1]; simp [*], rfl⟩)
 refine sQ (qM rfl) rfl (sL (A3 rfl rfl) rfl rfl ?_)
 refine F0 rfl (hI) rfl rfl (fun h198 => ?_) (fun h198 => ?_)
 refine H8 ?_
 (have hl1 := h14 (by first | exact e5 (.inl (by assumption)) | exact e5 (.inr (by assumption))); obtain ⟨bx, ox, e, rfl, hl, hat, hre, hgb⟩ := hsl.kidTm hkl (i := 0) (by omega) (by omega); have hih := ih ks[0] (List.getElem_mem (by omega)) G e (hkk _ (List.getElem_mem (by omega))) hre; refine sP (A8 (j := 0) rfl rfl rfl (by omega)) rfl rfl ?_)
 refine sL (A0 rfl rfl (hat _) hl) rfl rfl ?_
 refine F0 rfl (hih) rfl rfl (fun h205 => ?_) (fun h205 => ?_)
 refine E2 ?_
 (exact ⟨rfl, by rw [e3 (by first | exact .inl (by assumption) | exact .inr (by assumption)) hl1]; simp [*], rfl⟩)
 refine E2 ?_
 (exact ⟨rfl, by rw [e3 (by first | exact .inl (by assumption) | exact .inr (by assumption)) hl1]; simp [*], rfl⟩)
 refine K1 ?_
 (exact ⟨rfl, by rw [e4 (by omega) (by omega) (by assumption) (by assumption)], rfl⟩)
theorem A0x (e : Tm) (a b : Ty) (l : Int) (G : IM) (ce ca cb : List Value) (hl : H1 l) (he : A6 G e ce) (ha : B6 G a ca) (hb : B6 G b cb) (hsa : a.small) (hsb : b.small) : Fn Tryz.prog 249 [.agg ⟨ce⟩, .agg ⟨ca⟩, .agg ⟨cb⟩, .int .i64 l] [] G (Q5 (K8 e a b l)) := by
 have hel := he.len
 have heo := he.one
 obtain ⟨v1, v2, v3, v4, v5, v6, v7, v8, v9, rfl⟩ := T8 hel
 obtain ⟨ak, aks⟩ := a
 obtain ⟨bk, bks⟩ := b
 obtain ⟨pa, cca, ea, rfl, _⟩ := ha.open
 obtain ⟨pb, ccb, eb, rfl, _⟩ := hb.open
 refine B4 Tryz.func249 rfl Tryz.ntmps249 Tryz.results249 rfl ?_
 intro w0
 refine tS (tR ?_)
 refine sE (C1 rfl rfl) rfl (fun b3 => ?_)
 refine sE (C1 rfl rfl) rfl (fun b4 => ?_)
 refine sE (C1 rfl rfl) rfl (fun b5 => ?_)
 refine sE (A5 rfl) rfl (fun b6 => ?_)
 refine sD (nS (tS ?_))
 refine D5 D6 rfl ?_
 refine L3 (i := 0) (l' := [tt,ff,ff,ff,ff,ff,ff,ff,ff]) rfl D0 (A3 rfl rfl) rfl (by kernel_rfl) rfl rfl ?_
 refine aL 2 rfl (A3 rfl rfl) rfl ?_
 refine aP 4 rfl (qM rfl) rfl ?_
 refine aL 5 rfl (A3 rfl rfl) rfl ?_
 refine Q0 (j := 1) (j' := 6) (by kernel_rfl) ?_ ?_
 (refine E9 rfl rfl (P6 (.mk ak aks) _ _ hsa ha) rfl rfl rfl (fun v G1 hle1 hh => ?_); obtain ⟨cs1, F1, rfl, hs1, hn1⟩ := hh; obtain ⟨p1, c1, rfl, _⟩ := hs1.open; have hC2 := P6 _ G1 _ hsb (hb.mono hle1))
 refine Q0 (j := 3) (j' := 6) (by kernel_rfl) ?_ ?_
 (refine E9 rfl rfl hC2 rfl rfl rfl (fun v G2 hle2 hh => ?_); obtain ⟨cs2, F2, rfl, hs2, hn2⟩ := hh; obtain ⟨p2, c2, rfl, _⟩ := hs2.open; have hr1 := hs1.R.mono ((B2.le G1 _).trans hle2); have hr2 := hs2.R.mono (B2.le G2 G1); have hre := he.mono (hle1.trans hle2))
 refine A2 6 ?_
 (refine E3 rfl (D7 rfl rfl rfl (by omega) (by unfold maxLen; omega) rfl) rfl rfl ?_; rintro _ ⟨b20, rfl⟩)
 refine aP 7 rfl (U1 rfl rfl) rfl ?_
 refine A2 8 ?_
 refine H0 rfl ?_
 refine C5 (nS ?_)
 (refine H7 (cs := [v1, v2, v3, v4, v5, v6, v7, v8, v9]) (by repeat (first | exact Pk.here | apply Pk.there)) (fun G5 hle5 hsl5 hno5 => ?_); obtain ⟨hone1, hone2⟩ := A2F (hre.mono hle5) hsl5)
 refine tT ?_
 refine E1 (rC rfl (A3 rfl rfl)) ?_
 (exact Q5.mk (A6.of9 (ks := [e]) ⟨by omega, by omega⟩ ⟨by omega, by omega⟩ hl (hr2.mono hle5) (hr1.mono hle5) hone1 hone2))
 (refine E3 rfl (D7 rfl rfl rfl (by omega) (by unfold maxLen; omega) rfl) rfl rfl ?_; rintro _ ⟨b30, rfl⟩)
 refine A2 3 ?_
 (refine E9 rfl rfl hC2 rfl rfl rfl (fun v G2 hle2 hh => ?_); obtain ⟨cs2, F2, rfl, hs2, hn2⟩ := hh; obtain ⟨p2, c2, rfl, _⟩ := hs2.open; have hr1 := hs1.R.mono ((B2.le G1 _).trans hle2); have hr2 := hs2.R.mono (B2.le G2 G1); have hre := he.mono (hle1.trans hle2))
 refine aP 7 rfl (U1 rfl rfl) rfl ?_
 refine A2 8 ?_
 refine H0 rfl ?_
 refine C5 (nS ?_)
 (refine H7 (cs := [v1, v2, v3, v4, v5, v6, v7, v8, v9]) (by repeat (first | exact Pk.here | apply Pk.there)) (fun G5 hle5 hsl5 hno5 => ?_); obtain ⟨hone1, hone2⟩ := A2F (hre.mono hle5) hsl5)
 refine tT ?_
 refine E1 (rC rfl (A3 rfl rfl)) ?_
 (exact Q5.mk (A6.of9 (ks := [e]) ⟨by omega, by omega⟩ ⟨by omega, by omega⟩ hl (hr2.mono hle5) (hr1.mono hle5) hone1 hone2))
 (refine E3 rfl (D7 rfl rfl rfl (by omega) (by unfold maxLen; omega) rfl) rfl rfl ?_; rintro _ ⟨b42, rfl⟩)
 refine A2 1 ?_
 (refine E9 rfl rfl (P6 (.mk ak aks) _ _ hsa ha) rfl rfl rfl (fun v G1 hle1 hh => ?_); obtain ⟨cs1, F1, rfl, hs1, hn1⟩ := hh; obtain ⟨p1, c1, rfl, _⟩ := hs1.open; have hC2 := P6 _ G1 _ hsb (hb.mono hle1))
 refine A2 3 ?_
 (refine E9 rfl rfl hC2 rfl rfl rfl (fun v G2 hle2 hh => ?_); obtain ⟨cs2, F2, rfl, hs2, hn2⟩ := hh; obtain ⟨p2, c2, rfl, _⟩ := hs2.open; have hr1 := hs1.R.mono ((B2.le G1 _).trans hle2); have hr2 := hs2.R.mono (B2.le G2 G1); have hre := he.mono (hle1.trans hle2))
 refine aP 7 rfl (U1 rfl rfl) rfl ?_
 refine A2 8 ?_
 refine H0 rfl ?_
 refine C5 (nS ?_)
 (refine H7 (cs := [v1, v2, v3, v4, v5, v6, v7, v8, v9]) (by repeat (first | exact Pk.here | apply Pk.there)) (fun G5 hle5 hsl5 hno5 => ?_); obtain ⟨hone1, hone2⟩ := A2F (hre.mono hle5) hsl5)
 refine tT ?_
 refine E1 (rC rfl (A3 rfl rfl)) ?_
 (exact Q5.mk (A6.of9 (ks := [e]) ⟨by omega, by omega⟩ ⟨by omega, by omega⟩ hl (hr2.mono hle5) (hr1.mono hle5) hone1 hone2))
theorem B4k (G : IM) : Fn Tryz.prog 248 [.bool true] [] G (Q5 (A0d (true = true))) := by
 refine B4 Tryz.func248 rfl Tryz.ntmps248 Tryz.results248 rfl ?_
 intro w0
 refine tS (tR ?_)
 refine sE (A5 rfl) rfl (fun b3 => ?_)
 refine S1 ?_
 refine E1 (rC rfl (A3 rfl rfl)) ?_
 (exact Q5.mk (A4g _ ⟨by decide, by decide⟩))
theorem B4l (G : IM) : Fn Tryz.prog 248 [.bool false] [] G (Q5 (A0d (false = true))) := by
 refine B4 Tryz.func248 rfl Tryz.ntmps248 Tryz.results248 rfl ?_
 intro w0
 refine tS (tR ?_)
 refine sE (A5 rfl) rfl (fun b3 => ?_)
 refine T2 ?_
 refine E1 (rC rfl (A3 rfl rfl)) ?_
 (exact Q5.mk (A4g _ ⟨by decide, by decide⟩))
theorem A9q (b : Bool) (G : IM) : Fn Tryz.prog 248 [.bool b] [] G (Q5 (A0d (b = true))) := by
 cases b
 ·exact B4l G
 ·exact B4k G
theorem B4m (y : ByteArray) (v : Tm) (vc : List Value) (hvs : v.small) : ∀ (t : Tm) (G : IM) (cells : List Value), t.small → A6 G t cells → A6 G v vc → Fn Tryz.prog 227 [.agg ⟨cells⟩, .string y, .agg ⟨vc⟩] [] G (Q5 (A0m y v t)) := by
 refine Tm.ind fun k nm num ty fr lb ks ih G cells hts hr hv => ?_
 have hr0 := hr
 have hts0 := hts
 obtain ⟨_, htsm, hfsm, hsm, hks⟩ := A0e.1 hts
 have hvl := hv.len
 have hvo := hv.one
 have hRl := hr.len
 have hRo := hr.one
 rw [A0m]
 have hCv := A3g v G vc hvs hv
 have hCt := A3g _ G cells hts0 hr0
 obtain ⟨tk, tks⟩ := ty
 obtain ⟨fk, fks⟩ := fr
 obtain ⟨pt, ct, pf, cf, p, c, es, rfl, hk, hnum, hlb, hty, hfr, hsl, hkl⟩ := hr.open9
 have hn := hsl.le
 refine B4 Tryz.func227 rfl Tryz.ntmps227 Tryz.results227 rfl ?_
 intro w0
 refine tS (tR ?_)
 refine sE (C1 rfl rfl) rfl (fun b3 => ?_)
 refine sE (C1 rfl rfl) rfl (fun b4 => ?_)
 refine sE (A5 rfl) rfl (fun b5 => ?_)
 refine C3 ?_
 refine sB (qE rfl rfl) rfl rfl (fun h13 => ?_) (fun h13 => ?_)
 refine H8 ?_
 refine sB (A1R rfl rfl) rfl rfl (fun h18 => ?_) (fun h18 => ?_)
 refine sQ (L4 rfl rfl) rfl (sD (nS (qT rfl (tS (tR ?_)))))
 refine sL (A0 rfl rfl (A9 (by repeat first | exact mH | apply mT)) hvl) rfl rfl ?_
 (refine D2 rfl hCv rfl rfl (fun v9 G1 hle1 hh => ?_); obtain ⟨uc, F1, rfl, hs1, hn1⟩ := hh; have hru := hs1.R.mono (B2.le G1 G); have hul := hru.len; have huo := hru.one)
 refine sS rfl rfl rfl hul huo rfl ?_ (hu := by exact D4 hul.symm)
 refine sD (nS (tT (rS ?_)))
 refine E1 (rC rfl (A0 rfl rfl (A9 (by repeat first | exact mH | apply mT)) hul)) ?_
 (rw [if_pos (by refine ⟨by omega, by assumption⟩)]; exact Q5.mk hru)
 refine F8 ?_
 refine sP (I6 rfl rfl (by omega)) rfl rfl ?_
 refine L5 ?_
 refine sE (A5 rfl) rfl (fun b60 => ?_)
 refine C3 ?_
 (refine D2 rfl (P6 (.mk tk tks) _ _ htsm hty) rfl rfl (fun v9 G1 hle1 hh => ?_); obtain ⟨cs1, F1, rfl, hs1, hn1⟩ := hh; obtain ⟨q1, c1, rfl, _⟩ := hs1.open; have hC2 := P6 (.mk fk fks) G1 _ hfsm (hfr.mono hle1))
 refine D3 ?_
 (refine D2 rfl hC2 rfl rfl (fun v9 G2 hle2 hh => ?_); obtain ⟨cs2, F2, rfl, hs2, hn2⟩ := hh; obtain ⟨q2, c2, rfl, _⟩ := hs2.open; have hty1 := hs1.R.mono ((B2.le G1 _).trans hle2); have hfr1 := hs2.R.mono (B2.le G2 G1); have hle12 := hle1.trans hle2; replace hsl := hsl.mono hle12; replace hkl := hkl.mono hle12; replace hv := hv.mono hle12)
 refine J1 ?_
 refine B3 ?_
 (refine S2 28 9 ?_; refine I1 (fun (x : Nat × Option Addr × Nat × List (List Value) × IM) => ⟨[(8, .int .i64 x.1), (1, .string y), (3, .pointer (some ⟨b3, 0, none⟩)), (5, .pointer (some ⟨b4, 0, none⟩)), (6, .pointer (some ⟨b5, 0, none⟩)), (7, .pointer (some ⟨b60, 0, none⟩))], [.blk b60 [.int .i64 k, .string nm, .int .i64 num, .int .i64 tk, .slice q1 tks.length c1, .int .i64 fk, .slice q2 fks.length c2, .int .i64 lb, .slice x.2.1 x.1 x.2.2.1], .slc x.2.1 x.2.2.1 28 9 x.1 x.2.2.2.1.flatten, .blk b5 [.int .i64 0, .string ⟨⟨[]⟩⟩, .int .i64 0, .int .i64 0, .slice none 0 0, .int .i64 0, .slice none 0 0, .int .i64 0, .slice none 0 0], .blk b4 vc, .blk b3 [.int .i64 k, .string nm, .int .i64 num, .int .i64 tk, .slice pt tks.length ct, .int .i64 fk, .slice pf fks.length cf, .int .i64 lb, .slice p ks.length c]], x.2.2.2.2⟩) (fun x => x.1 ≤ ks.length ∧ B7 G2 x.2.2.2.2 ∧ C7 x.2.2.2.2 ((Z0 y v ks).take x.1) x.2.2.2.1) (fun x => ks.length - x.1) (0, none, 0, [], G2) ?_ ?_ ?_)
 (simp only [H5]; exact C9)
 (exact ⟨Nat.zero_le _, B7.refl _, by simp [C7]⟩)
 (rintro ⟨i, pn, cn, es', Gi⟩ ⟨hi, hle, hst⟩; simp only [] at hi hle hst ⊢; replace hsl := hsl.mono hle; replace hkl := hkl.mono hle; replace hv := hv.mono hle; replace hty1 := hty1.mono hle; replace hfr1 := hfr1.mono hle; have hsl' := hst.len; rw [List.length_take, X5] at hsl')
 refine C3 ?_
 refine sB (I2 rfl rfl) rfl rfl (fun h106 => ?_) (fun h106 => ?_)
 refine sD (nS (qT rfl (tK (nS (tS ?_)))))
 refine B3 ?_
 (have hil : i < ks.length := (by omega); obtain ⟨bx, ox, e, rfl, hl, hat, hre, hgb⟩ := hsl.kidTm hkl (i := i) (by omega) (by omega); have hel := hre.len; have heo := hre.one; refine D5 D6 rfl ?_)
 refine L3 (i := 8) (l' := [ff,ff,ff,ff,ff,ff,ff,ff,tt,ff,ff,ff,ff,ff]) rfl D0 (A0 rfl rfl (A9 (by repeat first | exact mH | apply mT)) hvl) rfl (by kernel_rfl) rfl rfl ?_
 refine aP 0 rfl (B0 rfl) rfl ?_
 refine aL 1 rfl (B9 rfl rfl) rfl ?_
 refine aP 2 rfl (B0 rfl) rfl ?_
 refine aL 3 rfl (B9 rfl rfl) rfl ?_
 refine aP 4 rfl (qM rfl) rfl ?_
 refine aP 5 rfl (A8 (j := i) rfl rfl rfl (by omega)) rfl ?_
 refine aL 6 rfl (A0 rfl rfl (hat _) hl) rfl ?_
 refine aP 7 rfl (qM rfl) rfl ?_
 refine A2 9 ?_
 (refine E9 rfl rfl (ih ks[i] (List.getElem_mem (by omega)) Gi _ (Tm.smallL_mem hks _ (List.getElem_mem (by omega))) hre hv) rfl rfl rfl (fun u G3 hle3 hh => ?_); obtain ⟨uc, rfl, hru⟩ := hh; have hul := hru.len; have huo := hru.one; obtain ⟨v1, v2, v3, v4, v5, v6, v7, v8, v9, rfl⟩ := T8 hul)
 refine A2 10 ?_
 (refine E3 rfl (D7 rfl rfl rfl (by omega) (by unfold maxLen; omega) rfl) rfl rfl ?_; rintro _ ⟨b127, rfl⟩)
 refine A2 11 ?_
 (refine U2 rfl rfl rfl rfl rfl rfl (fun _ _ => by repeat (first | exact Sw.here | apply Sw.there)) (N8 (by repeat first | exact mH | apply mT)) rfl (fun u hu => List.all_eq_true.1 huo u hu) (by unfold maxLen; omega) (by omega) rfl rfl (by repeat (first | exact C6.nil | apply C6.dep (by decide +kernel) | apply C6.im (by decide +kernel) (by assumption) (by repeat first | exact mH | apply mT) | apply C6.blk (by decide +kernel) (by repeat (first | exact Pk.here | apply Pk.there)) (by repeat first | exact mH | apply mT) | apply C6.slc (by decide +kernel) (by repeat (first | exact Pk.here | apply Pk.there)) (by repeat first | exact mH | apply mT))) (fun p7 c7 => ?_))
 refine aP 12 rfl (B0 rfl) rfl ?_
 refine A2 13 ?_
 refine Y2 rfl rfl rfl rfl rfl rfl rfl rfl (by decide +kernel) (by repeat first | exact Sw.here | apply Sw.there) (by rfl) ?_
 refine C5 (P4 (nS (tR (sQ (qM rfl) rfl ?_))))
 refine sP (E8 rfl rfl (by omega) (by omega)) rfl rfl ?_
 refine sQ (qA rfl) rfl (sD ?_)
 refine I4 (i + 1, p7, c7, es' ++ [[v1, v2, v3, v4, v5, v6, v7, v8, v9]], G3) ?_ ?_ ?_
 (simp only [H5]; exact C9)
 (dsimp only; exact ⟨by omega, hle.trans hle3, by rw [A2P (by omega)]; exact C7.snoc (hst.mono hle3) hru⟩)
 (show ks.length - (i + 1) < ks.length - i; omega)
 refine L5 ?_
 (refine H7 (cs := es'.flatten) (by repeat (first | exact Pk.here | apply Pk.there)) (fun G4 hle4 hsl4 hno4 => ?_); obtain rfl : i = ks.length := (by omega))
 refine tT ?_
 refine E1 (rC rfl (A3 rfl rfl)) ?_
 (rw [if_neg (by rintro ⟨h1, h2⟩; first | omega | contradiction), if_neg (by rintro ⟨h1, h2⟩; first | omega | contradiction)]; rw [List.take_of_length_le (by rw [X5]; omega)] at hst; exact Q5.mk (A6.put hk hnum hlb (hty1.mono hle4) (hfr1.mono hle4) (by rw [X5]) (C4.of hsl4 (by omega) hst.all (fun e he => (hst.each e he).2)) (hst.mono hle4)))
 refine J1 ?_
 refine sB (qE rfl rfl) rfl rfl (fun h179 => ?_) (fun h179 => ?_)
 refine H8 ?_
 refine sB (A1R rfl rfl) rfl rfl (fun h184 => ?_) (fun h184 => ?_)
 refine C3 ?_
 (refine D2 rfl hCt rfl rfl (fun v9 G1 hle1 hh => ?_); obtain ⟨uc, F1, rfl, hs1, hn1⟩ := hh; have hru := hs1.R.mono (B2.le G1 G); have hul := hru.len; have huo := hru.one)
 refine sS rfl rfl rfl hul huo rfl ?_ (hu := by exact D4 hul.symm)
 refine sD (nS (tT (rS ?_)))
 refine E1 (rC rfl (A0 rfl rfl (A9 (by repeat first | exact mH | apply mT)) hul)) ?_
 (rw [if_neg (by rintro ⟨h1, h2⟩; first | omega | contradiction), if_pos (by refine ⟨by omega, by assumption⟩)]; exact Q5.mk hru)
 refine D8 ?_
 refine sE (A5 rfl) rfl (fun b209 => ?_)
 refine C3 ?_
 (refine D2 rfl (P6 (.mk tk tks) _ _ htsm hty) rfl rfl (fun v9 G1 hle1 hh => ?_); obtain ⟨cs1, F1, rfl, hs1, hn1⟩ := hh; obtain ⟨q1, c1, rfl, _⟩ := hs1.open; have hC2 := P6 (.mk fk fks) G1 _ hfsm (hfr.mono hle1))
 refine D3 ?_
 (refine D2 rfl hC2 rfl rfl (fun v9 G2 hle2 hh => ?_); obtain ⟨cs2, F2, rfl, hs2, hn2⟩ := hh; obtain ⟨q2, c2, rfl, _⟩ := hs2.open; have hty1 := hs1.R.mono ((B2.le G1 _).trans hle2); have hfr1 := hs2.R.mono (B2.le G2 G1); have hle12 := hle1.trans hle2; replace hsl := hsl.mono hle12; replace hkl := hkl.mono hle12; replace hv := hv.mono hle12)
 refine J1 ?_
 refine B3 ?_
 (refine S2 28 9 ?_; refine I1 (fun (x : Nat × Option Addr × Nat × List (List Value) × IM) => ⟨[(8, .int .i64 x.1), (1, .string y), (3, .pointer (some ⟨b3, 0, none⟩)), (5, .pointer (some ⟨b4, 0, none⟩)), (6, .pointer (some ⟨b5, 0, none⟩)), (7, .pointer (some ⟨b209, 0, none⟩))], [.blk b209 [.int .i64 k, .string nm, .int .i64 num, .int .i64 tk, .slice q1 tks.length c1, .int .i64 fk, .slice q2 fks.length c2, .int .i64 lb, .slice x.2.1 x.1 x.2.2.1], .slc x.2.1 x.2.2.1 28 9 x.1 x.2.2.2.1.flatten, .blk b5 [.int .i64 0, .string ⟨⟨[]⟩⟩, .int .i64 0, .int .i64 0, .slice none 0 0, .int .i64 0, .slice none 0 0, .int .i64 0, .slice none 0 0], .blk b4 vc, .blk b3 [.int .i64 k, .string nm, .int .i64 num, .int .i64 tk, .slice pt tks.length ct, .int .i64 fk, .slice pf fks.length cf, .int .i64 lb, .slice p ks.length c]], x.2.2.2.2⟩) (fun x => x.1 ≤ ks.length ∧ B7 G2 x.2.2.2.2 ∧ C7 x.2.2.2.2 ((Z0 y v ks).take x.1) x.2.2.2.1) (fun x => ks.length - x.1) (0, none, 0, [], G2) ?_ ?_ ?_)
 (simp only [H5]; exact C9)
 (exact ⟨Nat.zero_le _, B7.refl _, by simp [C7]⟩)
 (rintro ⟨i, pn, cn, es', Gi⟩ ⟨hi, hle, hst⟩; simp only [] at hi hle hst ⊢; replace hsl := hsl.mono hle; replace hkl := hkl.mono hle; replace hv := hv.mono hle; replace hty1 := hty1.mono hle; replace hfr1 := hfr1.mono hle; have hsl' := hst.len; rw [List.length_take, X5] at hsl')
 refine C3 ?_
 refine sB (I2 rfl rfl) rfl rfl (fun h255 => ?_) (fun h255 => ?_)
 refine sD (nS (qT rfl (tK (nS (tS ?_)))))
 refine B3 ?_
 (have hil : i < ks.length := (by omega); obtain ⟨bx, ox, e, rfl, hl, hat, hre, hgb⟩ := hsl.kidTm hkl (i := i) (by omega) (by omega); have hel := hre.len; have heo := hre.one; refine D5 D6 rfl ?_)
 refine L3 (i := 8) (l' := [ff,ff,ff,ff,ff,ff,ff,ff,tt,ff,ff,ff,ff,ff]) rfl D0 (A0 rfl rfl (A9 (by repeat first | exact mH | apply mT)) hvl) rfl (by kernel_rfl) rfl rfl ?_
 refine aP 0 rfl (B0 rfl) rfl ?_
 refine aL 1 rfl (B9 rfl rfl) rfl ?_
 refine aP 2 rfl (B0 rfl) rfl ?_
 refine aL 3 rfl (B9 rfl rfl) rfl ?_
 refine aP 4 rfl (qM rfl) rfl ?_
 refine aP 5 rfl (A8 (j := i) rfl rfl rfl (by omega)) rfl ?_
 refine aL 6 rfl (A0 rfl rfl (hat _) hl) rfl ?_
 refine aP 7 rfl (qM rfl) rfl ?_
 refine A2 9 ?_
 (refine E9 rfl rfl (ih ks[i] (List.getElem_mem (by omega)) Gi _ (Tm.smallL_mem hks _ (List.getElem_mem (by omega))) hre hv) rfl rfl rfl (fun u G3 hle3 hh => ?_); obtain ⟨uc, rfl, hru⟩ := hh; have hul := hru.len; have huo := hru.one; obtain ⟨v1, v2, v3, v4, v5, v6, v7, v8, v9, rfl⟩ := T8 hul)
 refine A2 10 ?_
 (refine E3 rfl (D7 rfl rfl rfl (by omega) (by unfold maxLen; omega) rfl) rfl rfl ?_; rintro _ ⟨b276, rfl⟩)
 refine A2 11 ?_
 (refine U2 rfl rfl rfl rfl rfl rfl (fun _ _ => by repeat (first | exact Sw.here | apply Sw.there)) (N8 (by repeat first | exact mH | apply mT)) rfl (fun u hu => List.all_eq_true.1 huo u hu) (by unfold maxLen; omega) (by omega) rfl rfl (by repeat (first | exact C6.nil | apply C6.dep (by decide +kernel) | apply C6.im (by decide +kernel) (by assumption) (by repeat first | exact mH | apply mT) | apply C6.blk (by decide +kernel) (by repeat (first | exact Pk.here | apply Pk.there)) (by repeat first | exact mH | apply mT) | apply C6.slc (by decide +kernel) (by repeat (first | exact Pk.here | apply Pk.there)) (by repeat first | exact mH | apply mT))) (fun p7 c7 => ?_))
 refine aP 12 rfl (B0 rfl) rfl ?_
 refine A2 13 ?_
 refine Y2 rfl rfl rfl rfl rfl rfl rfl rfl (by decide +kernel) (by repeat first | exact Sw.here | apply Sw.there) (by rfl) ?_
 refine C5 (P4 (nS (tR (sQ (qM rfl) rfl ?_))))
 refine sP (E8 rfl rfl (by omega) (by omega)) rfl rfl ?_
 refine sQ (qA rfl) rfl (sD ?_)
 refine I4 (i + 1, p7, c7, es' ++ [[v1, v2, v3, v4, v5, v6, v7, v8, v9]], G3) ?_ ?_ ?_
 (simp only [H5]; exact C9)
 (dsimp only; exact ⟨by omega, hle.trans hle3, by rw [A2P (by omega)]; exact C7.snoc (hst.mono hle3) hru⟩)
 (show ks.length - (i + 1) < ks.length - i; omega)
 refine L5 ?_
 (refine H7 (cs := es'.flatten) (by repeat (first | exact Pk.here | apply Pk.there)) (fun G4 hle4 hsl4 hno4 => ?_); obtain rfl : i = ks.length := (by omega))
 refine tT ?_
 refine E1 (rC rfl (A3 rfl rfl)) ?_
 (rw [if_neg (by rintro ⟨h1, h2⟩; first | omega | contradiction), if_neg (by rintro ⟨h1, h2⟩; first | omega | contradiction)]; rw [List.take_of_length_le (by rw [X5]; omega)] at hst; exact Q5.mk (A6.put hk hnum hlb (hty1.mono hle4) (hfr1.mono hle4) (by rw [X5]) (C4.of hsl4 (by omega) hst.all (fun e he => (hst.each e he).2)) (hst.mono hle4)))
 refine L5 ?_
 refine sE (A5 rfl) rfl (fun b326 => ?_)
 refine C3 ?_
 (refine D2 rfl (P6 (.mk tk tks) _ _ htsm hty) rfl rfl (fun v9 G1 hle1 hh => ?_); obtain ⟨cs1, F1, rfl, hs1, hn1⟩ := hh; obtain ⟨q1, c1, rfl, _⟩ := hs1.open; have hC2 := P6 (.mk fk fks) G1 _ hfsm (hfr.mono hle1))
 refine D3 ?_
 (refine D2 rfl hC2 rfl rfl (fun v9 G2 hle2 hh => ?_); obtain ⟨cs2, F2, rfl, hs2, hn2⟩ := hh; obtain ⟨q2, c2, rfl, _⟩ := hs2.open; have hty1 := hs1.R.mono ((B2.le G1 _).trans hle2); have hfr1 := hs2.R.mono (B2.le G2 G1); have hle12 := hle1.trans hle2; replace hsl := hsl.mono hle12; replace hkl := hkl.mono hle12; replace hv := hv.mono hle12)
 refine J1 ?_
 refine B3 ?_
 (refine S2 28 9 ?_; refine I1 (fun (x : Nat × Option Addr × Nat × List (List Value) × IM) => ⟨[(8, .int .i64 x.1), (1, .string y), (3, .pointer (some ⟨b3, 0, none⟩)), (5, .pointer (some ⟨b4, 0, none⟩)), (6, .pointer (some ⟨b5, 0, none⟩)), (7, .pointer (some ⟨b326, 0, none⟩))], [.blk b326 [.int .i64 k, .string nm, .int .i64 num, .int .i64 tk, .slice q1 tks.length c1, .int .i64 fk, .slice q2 fks.length c2, .int .i64 lb, .slice x.2.1 x.1 x.2.2.1], .slc x.2.1 x.2.2.1 28 9 x.1 x.2.2.2.1.flatten, .blk b5 [.int .i64 0, .string ⟨⟨[]⟩⟩, .int .i64 0, .int .i64 0, .slice none 0 0, .int .i64 0, .slice none 0 0, .int .i64 0, .slice none 0 0], .blk b4 vc, .blk b3 [.int .i64 k, .string nm, .int .i64 num, .int .i64 tk, .slice pt tks.length ct, .int .i64 fk, .slice pf fks.length cf, .int .i64 lb, .slice p ks.length c]], x.2.2.2.2⟩) (fun x => x.1 ≤ ks.length ∧ B7 G2 x.2.2.2.2 ∧ C7 x.2.2.2.2 ((Z0 y v ks).take x.1) x.2.2.2.1) (fun x => ks.length - x.1) (0, none, 0, [], G2) ?_ ?_ ?_)
 (simp only [H5]; exact C9)
 (exact ⟨Nat.zero_le _, B7.refl _, by simp [C7]⟩)
 (rintro ⟨i, pn, cn, es', Gi⟩ ⟨hi, hle, hst⟩; simp only [] at hi hle hst ⊢; replace hsl := hsl.mono hle; replace hkl := hkl.mono hle; replace hv := hv.mono hle; replace hty1 := hty1.mono hle; replace hfr1 := hfr1.mono hle; have hsl' := hst.len; rw [List.length_take, X5] at hsl')
 refine C3 ?_
 refine sB (I2 rfl rfl) rfl rfl (fun h372 => ?_) (fun h372 => ?_)
 refine sD (nS (qT rfl (tK (nS (tS ?_)))))
 refine B3 ?_
 (have hil : i < ks.length := (by omega); obtain ⟨bx, ox, e, rfl, hl, hat, hre, hgb⟩ := hsl.kidTm hkl (i := i) (by omega) (by omega); have hel := hre.len; have heo := hre.one; refine D5 D6 rfl ?_)
 refine L3 (i := 8) (l' := [ff,ff,ff,ff,ff,ff,ff,ff,tt,ff,ff,ff,ff,ff]) rfl D0 (A0 rfl rfl (A9 (by repeat first | exact mH | apply mT)) hvl) rfl (by kernel_rfl) rfl rfl ?_
 refine aP 0 rfl (B0 rfl) rfl ?_
 refine aL 1 rfl (B9 rfl rfl) rfl ?_
 refine aP 2 rfl (B0 rfl) rfl ?_
 refine aL 3 rfl (B9 rfl rfl) rfl ?_
 refine aP 4 rfl (qM rfl) rfl ?_
 refine aP 5 rfl (A8 (j := i) rfl rfl rfl (by omega)) rfl ?_
 refine aL 6 rfl (A0 rfl rfl (hat _) hl) rfl ?_
 refine aP 7 rfl (qM rfl) rfl ?_
 refine A2 9 ?_
 (refine E9 rfl rfl (ih ks[i] (List.getElem_mem (by omega)) Gi _ (Tm.smallL_mem hks _ (List.getElem_mem (by omega))) hre hv) rfl rfl rfl (fun u G3 hle3 hh => ?_); obtain ⟨uc, rfl, hru⟩ := hh; have hul := hru.len; have huo := hru.one; obtain ⟨v1, v2, v3, v4, v5, v6, v7, v8, v9, rfl⟩ := T8 hul)
 refine A2 10 ?_
 (refine E3 rfl (D7 rfl rfl rfl (by omega) (by unfold maxLen; omega) rfl) rfl rfl ?_; rintro _ ⟨b393, rfl⟩)
 refine A2 11 ?_
 (refine U2 rfl rfl rfl rfl rfl rfl (fun _ _ => by repeat (first | exact Sw.here | apply Sw.there)) (N8 (by repeat first | exact mH | apply mT)) rfl (fun u hu => List.all_eq_true.1 huo u hu) (by unfold maxLen; omega) (by omega) rfl rfl (by repeat (first | exact C6.nil | apply C6.dep (by decide +kernel) | apply C6.im (by decide +kernel) (by assumption) (by repeat first | exact mH | apply mT) | apply C6.blk (by decide +kernel) (by repeat (first | exact Pk.here | apply Pk.there)) (by repeat first | exact mH | apply mT) | apply C6.slc (by decide +kernel) (by repeat (first | exact Pk.here | apply Pk.there)) (by repeat first | exact mH | apply mT))) (fun p7 c7 => ?_))
 refine aP 12 rfl (B0 rfl) rfl ?_
 refine A2 13 ?_
 refine Y2 rfl rfl rfl rfl rfl rfl rfl rfl (by decide +kernel) (by repeat first | exact Sw.here | apply Sw.there) (by rfl) ?_
 refine C5 (P4 (nS (tR (sQ (qM rfl) rfl ?_))))
 refine sP (E8 rfl rfl (by omega) (by omega)) rfl rfl ?_
 refine sQ (qA rfl) rfl (sD ?_)
 refine I4 (i + 1, p7, c7, es' ++ [[v1, v2, v3, v4, v5, v6, v7, v8, v9]], G3) ?_ ?_ ?_
 (simp only [H5]; exact C9)
 (dsimp only; exact ⟨by omega, hle.trans hle3, by rw [A2P (by omega)]; exact C7.snoc (hst.mono hle3) hru⟩)
 (show ks.length - (i + 1) < ks.length - i; omega)
 refine L5 ?_
 (refine H7 (cs := es'.flatten) (by repeat (first | exact Pk.here | apply Pk.there)) (fun G4 hle4 hsl4 hno4 => ?_); obtain rfl : i = ks.length := (by omega))
 refine tT ?_
 refine E1 (rC rfl (A3 rfl rfl)) ?_
 (rw [if_neg (by rintro ⟨h1, h2⟩; first | omega | contradiction), if_neg (by rintro ⟨h1, h2⟩; first | omega | contradiction)]; rw [List.take_of_length_le (by rw [X5]; omega)] at hst; exact Q5.mk (A6.put hk hnum hlb (hty1.mono hle4) (hfr1.mono hle4) (by rw [X5]) (C4.of hsl4 (by omega) hst.all (fun e he => (hst.each e he).2)) (hst.mono hle4)))
theorem A9r (k : Int) (a b : Tm) (G : IM) (ca cb : List Value) (hk78 : k = 7 ∨ k = 8) (hca : 0 ≤ a.num ∧ a.num ≤ 999) (hcb : 0 ≤ b.num ∧ b.num ≤ 999) (hra : A6 G a ca) (hrb : A6 G b cb) : Fn Tryz.prog 240 [.int .i64 k, .agg ⟨ca⟩, .agg ⟨cb⟩] [] G (L6 (O7 k B5 B5 0 [a, b])) := by
 obtain ⟨ak, anm, anum, ⟨atk, atks⟩, ⟨afk, afks⟩, alb, aks⟩ := a
 obtain ⟨bk, bnm, bnum, ⟨btk, btks⟩, ⟨bfk, bfks⟩, blb, bks⟩ := b
 obtain ⟨apt, act, apf, acf, ap, ac, aes, rfl, hak, hanum, halb, haty, hafr, hasl, hakl⟩ := hra.open9
 obtain ⟨bpt, bct, bpf, bcf, bp, bc, bes, rfl, hbk, hbnum, hblb, hbty, hbfr, hbsl, hbkl⟩ := hrb.open9
 simp only [Tm.num] at hca hcb
 have hR : O7 k B5 B5 0 [Tm.mk ak anm anum (.mk atk atks) (.mk afk afks) alb aks, Tm.mk bk bnm bnum (.mk btk btks) (.mk bfk bfks) blb bks] = (if ak = 2 ∧ bk = 2 then (if k = 7 then A2b ((anum + bnum) % 1000) else A0d (anum < bnum), 1, 0) else Q3) := by
  unfold O7; rw [if_neg (by omega), if_pos hk78]; rfl
 rw [hR]
 have htm : (anum + bnum).tmod 1000 = (anum + bnum) % 1000 := A8f hca hcb
 have hb : H1 ((anum + bnum) % 1000) := ⟨by omega, by omega⟩
 refine B4 Tryz.func240 rfl Tryz.ntmps240 Tryz.results240 rfl ?_
 intro w0
 refine tS (tR ?_)
 refine sE (C1 rfl rfl) rfl (fun b3 => ?_)
 refine sE (C1 rfl rfl) rfl (fun b4 => ?_)
 refine sE (A5 rfl) rfl (fun b5 => ?_)
 refine D8 ?_
 refine sB (N7 rfl rfl) rfl rfl (fun h15 => ?_) (fun h15 => ?_)
 refine T2 ?_
 refine C8 (rC rfl (A3 rfl rfl)) (rT rfl) (rT rfl) ?_
 (exact L6.mk (by rw [if_neg (by omega)]; rfl) (M1 _))
 refine J2 ?_
 refine sB (N7 rfl rfl) rfl rfl (fun h39 => ?_) (fun h39 => ?_)
 refine L5 ?_
 refine C8 (rC rfl (A3 rfl rfl)) (rT rfl) (rT rfl) ?_
 (exact L6.mk (by rw [if_neg (by omega)]; rfl) (M1 _))
 refine I8 ?_
 refine sB (qE rfl rfl) rfl rfl (fun h66 => ?_) (fun h66 => ?_)
 refine D8 ?_
 refine sP (E8 rfl rfl (by omega) (by omega)) rfl rfl ?_
 refine sP (A4v rfl rfl (by omega)) rfl rfl ?_
 (rw [htm]; refine I3 rfl (B1N _ _) rfl rfl ?_)
 refine C3 ?_
 refine C8 (rC rfl (A3 rfl rfl)) (rT rfl) (rT rfl) ?_
 (exact L6.mk (u := A2b (HMod.hMod (anum + bnum) 1000)) (by rw [if_pos ⟨by omega, by omega⟩, if_pos (by omega)]) (A6.put (us := []) ⟨by decide, by decide⟩ hb ⟨by decide, by decide⟩ (A2C _) (A2C _) rfl (C4.nil _ _) rfl))
 refine F8 ?_
 (refine sB (I2 rfl rfl) rfl rfl (fun h99 => ?_) (fun h99 => ?_))
 (refine D2 rfl (A9q _ _) rfl rfl (fun u G1 hle1 hh => ?_); obtain ⟨uc, rfl, hru⟩ := hh; have hul := hru.len; have huo := hru.one)
 refine sS rfl rfl rfl hul huo rfl ?_ (hu := by exact D4 hul.symm)
 refine sQ (qA rfl) rfl (sQ (qA rfl) rfl (sD (nS (tT ?_))))
 refine C8 (rC rfl (A0 rfl rfl (A9 (by repeat first | exact mH | apply mT)) hul)) (rT rfl) (rT rfl) ?_
 (exact L6.mk (by rw [if_pos ⟨by omega, by omega⟩, if_neg (by omega)]; unfold A0d; rw [if_pos (by omega), if_pos rfl]) hru)
 (refine D2 rfl (A9q _ _) rfl rfl (fun u G1 hle1 hh => ?_); obtain ⟨uc, rfl, hru⟩ := hh; have hul := hru.len; have huo := hru.one)
 refine sS rfl rfl rfl hul huo rfl ?_ (hu := by exact D4 hul.symm)
 refine sQ (qA rfl) rfl (sQ (qA rfl) rfl (sD (nS (tT ?_))))
 refine C8 (rC rfl (A0 rfl rfl (A9 (by repeat first | exact mH | apply mT)) hul)) (rT rfl) (rT rfl) ?_
 (exact L6.mk (by rw [if_pos ⟨by omega, by omega⟩, if_neg (by omega)]; unfold A0d; rw [if_neg (by omega), if_neg (by decide)]) hru)
theorem B4n (a b : Tm) (G : IM) (ca cb : List Value) (hca : cv a) (hbs : b.small) (hra : A6 G a ca) (hrb : A6 G b cb) : Fn Tryz.prog 243 [.agg ⟨ca⟩, .agg ⟨cb⟩] [] G (L6 (O7 6 B5 B5 0 [a, b])) := by
 have hsma := A2c a hca
 have hP := A5U a G _ hra
 obtain ⟨ak, anm, anum, ⟨atk, atks⟩, ⟨afk, afks⟩, alb, aks⟩ := a
 obtain ⟨hN, hkk⟩ := hca.node
 have hops := hN.ops
 have hbl := hN.lbB
 have htyA := hN.tyA
 have hfrA := hN.frA
 rw [E6] at htyA hfrA
 have htyS := fun t (h : t ∈ atks) => (A1k.1 htyA.2.2 t h).small
 have hfrS := fun t (h : t ∈ afks) => (A1k.1 hfrA.2.2 t h).small
 have h14 : ak = 14 → aks.length = 1 := fun h => by rw [h] at hops; have : D9 14 = 1 := rfl; omega
 have h5 : ak = 5 → aks.length = 1 := fun h => by rw [h] at hops; have : D9 5 = 1 := rfl; omega
 obtain ⟨_, _, _, _, hksm⟩ := A0e.1 hsma
 have hbL := hrb.len
 have hbO := hrb.one
 obtain ⟨apt, act, apf, acf, ap, ac, aes, rfl, hak, hanum, halb, haty, hafr, hasl, hakl⟩ := hra.open9
 obtain ⟨tes, htS, htL⟩ := haty.kids
 obtain ⟨fes, hfS, hfL⟩ := hafr.kids
 simp only [Ty.ks] at htS htL hfS hfL
 obtain ⟨y1, y2, y3, y4, y5, y6, y7, y8, y9, rfl⟩ := T8 hbL
 have hR : O7 6 B5 B5 0 [Tm.mk ak anm anum (.mk atk atks) (.mk afk afks) alb aks, b] = (if ak = 5 then (A0m anm b (kd aks 0), 1, 0) else if (ak = 14 ∧ afk = atk ∧ (atk = 4 ∨ atk = 5)) ∧ atk = 4 then (K8 (A0c 6 [kd aks 0, K8 b (kt atks 0) (kt afks 0) (-alb)]) (kt afks 1) (kt atks 1) alb, 1, 0) else Q3) := by
  unfold O7
  rw [if_pos rfl, show kd [Tm.mk ak anm anum (.mk atk atks) (.mk afk afks) alb aks, b] 0 = Tm.mk ak anm anum (.mk atk atks) (.mk afk afks) alb aks from rfl, A2h]
  simp only [decide_eq_true_eq]
  rfl
 rw [hR]
 replace hP : Fn Tryz.prog 180 _ [] G (E4 (.bool (decide (ak = 14 ∧ afk = atk ∧ (atk = 4 ∨ atk = 5)))) G) := hP
 refine B4 Tryz.func243 rfl Tryz.ntmps243 Tryz.results243 rfl ?_
 intro w0
 refine tS (tR ?_)
 refine sE (C1 rfl rfl) rfl (fun b3 => ?_)
 refine sE (C1 rfl rfl) rfl (fun b4 => ?_)
 refine sE (A5 rfl) rfl (fun b5 => ?_)
 refine D8 ?_
 refine sB (qE rfl rfl) rfl rfl (fun h15 => ?_) (fun h15 => ?_)
 refine sD (nS (qT rfl (tS ?_)))
 (have hq : ak = 5 := (by assumption); have hq1 := h5 hq; obtain ⟨bq, oq, e3, rfl, hl3, hat3, hre3, hgb3⟩ := hasl.kidTm hakl (i := 0) (by omega) (by omega); have hS := B4m anm b _ hbs aks[0] G e3 (Tm.smallL_mem hksm _ (List.getElem_mem (by omega))) hre3 hrb; refine D5 D6 rfl ?_)
 refine L3 (i := 6) (l' := [ff,ff,ff,ff,ff,ff,tt,ff,ff,ff,ff]) rfl D0 (A0 rfl rfl (A9 (by repeat first | exact mH | apply mT)) rfl) rfl (by kernel_rfl) rfl rfl ?_
 refine aP 0 rfl (B0 rfl) rfl ?_
 refine aL 1 rfl (B9 rfl rfl) rfl ?_
 refine aP 2 rfl (A8 (j := 0) rfl rfl rfl (by omega)) rfl ?_
 refine aL 3 rfl (A0 rfl rfl (hat3 _) hl3) rfl ?_
 refine aP 4 rfl (B0 rfl) rfl ?_
 refine aL 5 rfl (B9 rfl rfl) rfl ?_
 refine A2 7 ?_
 (refine E9 rfl rfl hS rfl rfl rfl (fun u G1 hle1 hh => ?_); obtain ⟨uc, rfl, hru⟩ := hh; have hwl := hru.len; have hwo := hru.one)
 refine A2 8 ?_
 (refine oS rfl rfl rfl rfl hwl hwo rfl rfl ?_ (hu := by exact D4 hwl.symm))
 refine aP 9 rfl (qA rfl) rfl ?_
 refine aP 10 rfl (qA rfl) rfl ?_
 refine C5 (nS (tT (rS ?_)))
 refine C8 (rC rfl (A0 rfl rfl (A9 (by repeat first | exact mH | apply mT)) hwl)) (rT rfl) (rT rfl) ?_
 (exact L6.mk (by rw [if_pos hq, A0f (by omega)]) hru)
 refine D8 ?_
 focus (by_cases hpx : (ak = 14 ∧ afk = atk ∧ (atk = 4 ∨ atk = 5)); rw [decide_eq_true hpx] at hP; rotate_left; rw [decide_eq_false hpx] at hP; rotate_left; all_goals (refine I3 rfl hP rfl rfl ?_))
 refine O8 ?_
 refine sB (N7 rfl rfl) rfl rfl (fun h55 => ?_) (fun h55 => ?_)
 refine L5 ?_
 refine C8 (rC rfl (A3 rfl rfl)) (rT rfl) (rT rfl) ?_
 (exact L6.mk (by rw [if_neg (by omega), if_neg (by omega)]; rfl) (M1 _))
 refine sQ (N4 rfl rfl) rfl (sD (nS (cF rfl (tK (nS (tS ?_))))))
 (have hnd : ¬ak = 5 := (by omega); have hq : (ak = 14 ∧ afk = atk ∧ (atk = 4 ∨ atk = 5)) ∧ atk = 4 := ⟨hpx, by omega⟩; have hq1 := h14 hq.1.1; have hq2 := htyA.1 (by omega); have hq3 := hfrA.1 (by omega); obtain ⟨bq, oq, e3, rfl, hl3, hat3, hre3, hgb3⟩ := hasl.kidTm hakl (i := 0) (by omega) (by omega); have ho3 := hre3.one; obtain ⟨b5, o5, q5, d5, rfl, hat5, hre5, hgb5⟩ := htS.kidTy htL (i := 0) (by omega) (by omega); obtain ⟨_, _, q6, d6, hp6, hat6, hre6, hgb6⟩ := htS.kidTy htL (i := 1) (by omega) (by omega); cases hp6; obtain ⟨b7, o7, q7, d7, rfl, hat7, hre7, hgb7⟩ := hfS.kidTy hfL (i := 0) (by omega) (by omega); obtain ⟨_, _, q8, d8, hp8, hat8, hre8, hgb8⟩ := hfS.kidTy hfL (i := 1) (by omega) (by omega); cases hp8; obtain ⟨x1, x2, x3, x4, x5, x6, x7, x8, x9, rfl⟩ := T8 hl3; refine D5 D6 rfl ?_)
 refine L3 (i := 0) (l' := [tt,ff,ff,ff,ff,ff,ff,ff,ff,ff,ff,ff,ff,ff,ff,ff,ff]) rfl D0 (A0 rfl rfl (A9 (by repeat first | exact mH | apply mT)) rfl) rfl (by kernel_rfl) rfl rfl ?_
 refine aP 1 rfl (B0 rfl) rfl ?_
 refine aP 2 rfl (qF rfl) rfl ?_
 refine aL 3 rfl (B9 rfl rfl) rfl ?_
 refine aP 4 rfl (A8 (j := 0) rfl rfl rfl (by omega)) rfl ?_
 refine aL 5 rfl (A0 rfl rfl (hat5 _) rfl) rfl ?_
 refine aP 6 rfl (B0 rfl) rfl ?_
 refine aP 7 rfl (qF rfl) rfl ?_
 refine aL 8 rfl (B9 rfl rfl) rfl ?_
 refine aP 9 rfl (A8 (j := 0) rfl rfl rfl (by omega)) rfl ?_
 refine aL 10 rfl (A0 rfl rfl (hat7 _) rfl) rfl ?_
 refine aP 11 rfl (B0 rfl) rfl ?_
 refine aL 12 rfl (B9 rfl rfl) rfl ?_
 refine aP 13 rfl (A3C rfl (by omega) (by omega)) rfl ?_
 refine Q0 (j := 14) (j' := 15) (by kernel_rfl) ?_ ?_
 (have hcO := hnd; refine E9 rfl rfl (A0x b atks[0] afks[0] (-alb) G _ _ _ ⟨by omega, by omega⟩ hrb hre5 hre7 (htyS _ (List.getElem_mem (by omega))) (hfrS _ (List.getElem_mem (by omega)))) rfl rfl rfl (fun u G1 hle1 hh => ?_); obtain ⟨uc, rfl, hru⟩ := hh; have hul := hru.len; have huo := hru.one; obtain ⟨z1, z2, z3, z4, z5, z6, z7, z8, z9, rfl⟩ := T8 hul; replace hre3 := hre3.mono hle1; replace hre6 := hre6.mono hle1; replace hre8 := hre8.mono hle1)
 refine A2 15 ?_
 (refine E3 rfl (A5 rfl) rfl rfl ?_; rintro _ ⟨b97, rfl⟩)
 refine A2 16 ?_
 (refine oS rfl rfl rfl rfl rfl huo rfl rfl ?_ (hu := by exact D4 rfl))
 refine C5 (nS (tS ?_))
 refine D5 D6 rfl ?_
 refine L3 (i := 4) (l' := [ff,ff,ff,ff,tt,ff,ff,ff,ff]) rfl D0 (A0 rfl rfl (A9 (by repeat first | exact mH | apply mT)) rfl) rfl (by kernel_rfl) rfl rfl ?_
 refine aP 0 rfl (B0 rfl) rfl ?_
 refine aL 1 rfl (B9 rfl rfl) rfl ?_
 refine aP 2 rfl (A8 (j := 0) rfl rfl rfl (by omega)) rfl ?_
 refine aL 3 rfl (A0 rfl rfl (At.mono' hle1 (hat3 _)) rfl) rfl ?_
 refine Q0 (j := 5) (j' := 7) (by kernel_rfl) ?_ ?_
 (refine E3 rfl (D7 rfl rfl rfl (by omega) (by unfold maxLen; omega) rfl) rfl rfl ?_; rintro _ ⟨b110, rfl⟩)
 refine Q0 (j := 6) (j' := 7) (by kernel_rfl) ?_ ?_
 (refine A0S (cs := [x1, x2, x3, x4, x5, x6, x7, x8, x9, z1, z2, z3, z4, z5, z6, z7, z8, z9]) (by repeat (first | exact Pk.here | apply Pk.there)) (fun G2 hle2 hsl2 hno2 => ?_); have hrN := A0F (k := 6) (ks := [aks[0], K8 b atks[0] afks[0] (-alb)]) (es := [[x1, x2, x3, x4, x5, x6, x7, x8, x9], [z1, z2, z3, z4, z5, z6, z7, z8, z9]]) ⟨by decide, by decide⟩ rfl (C4.of hsl2 rfl (by simp) (by intro x hx; rcases List.mem_cons.1 hx with rfl | hx; exact ho3; obtain rfl := List.mem_singleton.1 hx; exact huo)) (by simp only [C7]; exact ⟨_, _, rfl, hre3.mono hle2, _, _, rfl, hru.mono hle2, rfl⟩); replace hre6 := hre6.mono hle2; replace hre8 := hre8.mono hle2; refine M6 rfl rfl (A2a _ _ _ _ _) rfl rfl rfl ?_)
 refine A2 7 ?_
 (refine E3 rfl (A5 rfl) rfl rfl ?_; rintro _ ⟨b114, rfl⟩)
 refine A2 8 ?_
 refine H0 rfl ?_
 refine C5 (nS (tS ?_))
 refine D5 D6 rfl ?_
 refine L3 (i := 0) (l' := [tt,ff,ff,ff,ff,ff,ff,ff,ff,ff,ff,ff,ff,ff,ff,ff,ff]) rfl D0 (A0 rfl rfl (A9 (by repeat first | exact mH | apply mT)) rfl) rfl (by kernel_rfl) rfl rfl ?_
 refine aP 1 rfl (B0 rfl) rfl ?_
 refine aP 2 rfl (qF rfl) rfl ?_
 refine aL 3 rfl (B9 rfl rfl) rfl ?_
 refine aP 4 rfl (A8 (j := 1) rfl rfl rfl (by omega)) rfl ?_
 refine aL 5 rfl (A0 rfl rfl (At.mono' (hle1.trans hle2) (hat8 _)) rfl) rfl ?_
 refine aP 6 rfl (B0 rfl) rfl ?_
 refine aP 7 rfl (qF rfl) rfl ?_
 refine aL 8 rfl (B9 rfl rfl) rfl ?_
 refine aP 9 rfl (A8 (j := 1) rfl rfl rfl (by omega)) rfl ?_
 refine aL 10 rfl (A0 rfl rfl (At.mono' (hle1.trans hle2) (hat6 _)) rfl) rfl ?_
 refine aP 11 rfl (B0 rfl) rfl ?_
 refine aL 12 rfl (B9 rfl rfl) rfl ?_
 refine A2 13 ?_
 (refine E9 rfl rfl (A0x _ afks[1] atks[1] alb G2 _ _ _ ⟨by omega, by omega⟩ hrN hre8 hre6 (hfrS _ (List.getElem_mem (by omega))) (htyS _ (List.getElem_mem (by omega)))) rfl rfl rfl (fun u G3 hle3 hh => ?_); obtain ⟨wc, rfl, hrw⟩ := hh; have hwl := hrw.len; have hwo := hrw.one)
 refine A2 14 ?_
 (refine oS rfl rfl rfl rfl hwl hwo rfl rfl ?_ (hu := by exact D4 hwl.symm))
 refine aP 15 rfl (qA rfl) rfl ?_
 refine aP 16 rfl (qA rfl) rfl ?_
 refine C5 (nS (tT ?_))
 refine C8 (rC rfl (A0 rfl rfl (A9 (by repeat first | exact mH | apply mT)) hwl)) (rT rfl) (rT rfl) ?_
 (exact L6.mk (by rw [if_neg hnd, if_pos hq, A0f (by omega), O1 (by omega), O1 (by omega), O1 (by omega), O1 (by omega)]) hrw)
 (refine E3 rfl (A5 rfl) rfl rfl ?_; rintro _ ⟨b145, rfl⟩)
 refine A2 6 ?_
 (refine A0S (cs := [x1, x2, x3, x4, x5, x6, x7, x8, x9, z1, z2, z3, z4, z5, z6, z7, z8, z9]) (by repeat (first | exact Pk.here | apply Pk.there)) (fun G2 hle2 hsl2 hno2 => ?_); have hrN := A0F (k := 6) (ks := [aks[0], K8 b atks[0] afks[0] (-alb)]) (es := [[x1, x2, x3, x4, x5, x6, x7, x8, x9], [z1, z2, z3, z4, z5, z6, z7, z8, z9]]) ⟨by decide, by decide⟩ rfl (C4.of hsl2 rfl (by simp) (by intro x hx; rcases List.mem_cons.1 hx with rfl | hx; exact ho3; obtain rfl := List.mem_singleton.1 hx; exact huo)) (by simp only [C7]; exact ⟨_, _, rfl, hre3.mono hle2, _, _, rfl, hru.mono hle2, rfl⟩); replace hre6 := hre6.mono hle2; replace hre8 := hre8.mono hle2; refine M6 rfl rfl (A2a _ _ _ _ _) rfl rfl rfl ?_)
 refine A2 8 ?_
 refine H0 rfl ?_
 refine C5 (nS (tS ?_))
 refine D5 D6 rfl ?_
 refine L3 (i := 0) (l' := [tt,ff,ff,ff,ff,ff,ff,ff,ff,ff,ff,ff,ff,ff,ff,ff,ff]) rfl D0 (A0 rfl rfl (A9 (by repeat first | exact mH | apply mT)) rfl) rfl (by kernel_rfl) rfl rfl ?_
 refine aP 1 rfl (B0 rfl) rfl ?_
 refine aP 2 rfl (qF rfl) rfl ?_
 refine aL 3 rfl (B9 rfl rfl) rfl ?_
 refine aP 4 rfl (A8 (j := 1) rfl rfl rfl (by omega)) rfl ?_
 refine aL 5 rfl (A0 rfl rfl (At.mono' (hle1.trans hle2) (hat8 _)) rfl) rfl ?_
 refine aP 6 rfl (B0 rfl) rfl ?_
 refine aP 7 rfl (qF rfl) rfl ?_
 refine aL 8 rfl (B9 rfl rfl) rfl ?_
 refine aP 9 rfl (A8 (j := 1) rfl rfl rfl (by omega)) rfl ?_
 refine aL 10 rfl (A0 rfl rfl (At.mono' (hle1.trans hle2) (hat6 _)) rfl) rfl ?_
 refine aP 11 rfl (B0 rfl) rfl ?_
 refine aL 12 rfl (B9 rfl rfl) rfl ?_
 refine A2 13 ?_
 (refine E9 rfl rfl (A0x _ afks[1] atks[1] alb G2 _ _ _ ⟨by omega, by omega⟩ hrN hre8 hre6 (hfrS _ (List.getElem_mem (by omega))) (htyS _ (List.getElem_mem (by omega)))) rfl rfl rfl (fun u G3 hle3 hh => ?_); obtain ⟨wc, rfl, hrw⟩ := hh; have hwl := hrw.len; have hwo := hrw.one)
 refine A2 14 ?_
 (refine oS rfl rfl rfl rfl hwl hwo rfl rfl ?_ (hu := by exact D4 hwl.symm))
 refine aP 15 rfl (qA rfl) rfl ?_
 refine aP 16 rfl (qA rfl) rfl ?_
 refine C5 (nS (tT ?_))
 refine C8 (rC rfl (A0 rfl rfl (A9 (by repeat first | exact mH | apply mT)) hwl)) (rT rfl) (rT rfl) ?_
 (exact L6.mk (by rw [if_neg hnd, if_pos hq, A0f (by omega), O1 (by omega), O1 (by omega), O1 (by omega), O1 (by omega)]) hrw)
 (refine E3 rfl (A5 rfl) rfl rfl ?_; rintro _ ⟨b178, rfl⟩)
 refine A2 5 ?_
 (refine E3 rfl (D7 rfl rfl rfl (by omega) (by unfold maxLen; omega) rfl) rfl rfl ?_; rintro _ ⟨b180, rfl⟩)
 refine A2 6 ?_
 (refine A0S (cs := [x1, x2, x3, x4, x5, x6, x7, x8, x9, z1, z2, z3, z4, z5, z6, z7, z8, z9]) (by repeat (first | exact Pk.here | apply Pk.there)) (fun G2 hle2 hsl2 hno2 => ?_); have hrN := A0F (k := 6) (ks := [aks[0], K8 b atks[0] afks[0] (-alb)]) (es := [[x1, x2, x3, x4, x5, x6, x7, x8, x9], [z1, z2, z3, z4, z5, z6, z7, z8, z9]]) ⟨by decide, by decide⟩ rfl (C4.of hsl2 rfl (by simp) (by intro x hx; rcases List.mem_cons.1 hx with rfl | hx; exact ho3; obtain rfl := List.mem_singleton.1 hx; exact huo)) (by simp only [C7]; exact ⟨_, _, rfl, hre3.mono hle2, _, _, rfl, hru.mono hle2, rfl⟩); replace hre6 := hre6.mono hle2; replace hre8 := hre8.mono hle2; refine M6 rfl rfl (A2a _ _ _ _ _) rfl rfl rfl ?_)
 refine A2 8 ?_
 refine H0 rfl ?_
 refine C5 (nS (tS ?_))
 refine D5 D6 rfl ?_
 refine L3 (i := 0) (l' := [tt,ff,ff,ff,ff,ff,ff,ff,ff,ff,ff,ff,ff,ff,ff,ff,ff]) rfl D0 (A0 rfl rfl (A9 (by repeat first | exact mH | apply mT)) rfl) rfl (by kernel_rfl) rfl rfl ?_
 refine aP 1 rfl (B0 rfl) rfl ?_
 refine aP 2 rfl (qF rfl) rfl ?_
 refine aL 3 rfl (B9 rfl rfl) rfl ?_
 refine aP 4 rfl (A8 (j := 1) rfl rfl rfl (by omega)) rfl ?_
 refine aL 5 rfl (A0 rfl rfl (At.mono' (hle1.trans hle2) (hat8 _)) rfl) rfl ?_
 refine aP 6 rfl (B0 rfl) rfl ?_
 refine aP 7 rfl (qF rfl) rfl ?_
 refine aL 8 rfl (B9 rfl rfl) rfl ?_
 refine aP 9 rfl (A8 (j := 1) rfl rfl rfl (by omega)) rfl ?_
 refine aL 10 rfl (A0 rfl rfl (At.mono' (hle1.trans hle2) (hat6 _)) rfl) rfl ?_
 refine aP 11 rfl (B0 rfl) rfl ?_
 refine aL 12 rfl (B9 rfl rfl) rfl ?_
 refine A2 13 ?_
 (refine E9 rfl rfl (A0x _ afks[1] atks[1] alb G2 _ _ _ ⟨by omega, by omega⟩ hrN hre8 hre6 (hfrS _ (List.getElem_mem (by omega))) (htyS _ (List.getElem_mem (by omega)))) rfl rfl rfl (fun u G3 hle3 hh => ?_); obtain ⟨wc, rfl, hrw⟩ := hh; have hwl := hrw.len; have hwo := hrw.one)
 refine A2 14 ?_
 (refine oS rfl rfl rfl rfl hwl hwo rfl rfl ?_ (hu := by exact D4 hwl.symm))
 refine aP 15 rfl (qA rfl) rfl ?_
 refine aP 16 rfl (qA rfl) rfl ?_
 refine C5 (nS (tT ?_))
 refine C8 (rC rfl (A0 rfl rfl (A9 (by repeat first | exact mH | apply mT)) hwl)) (rT rfl) (rT rfl) ?_
 (exact L6.mk (by rw [if_neg hnd, if_pos hq, A0f (by omega), O1 (by omega), O1 (by omega), O1 (by omega), O1 (by omega)]) hrw)
 (refine E3 rfl (A5 rfl) rfl rfl ?_; rintro _ ⟨b213, rfl⟩)
 refine A2 14 ?_
 (have hcO := hnd; refine E9 rfl rfl (A0x b atks[0] afks[0] (-alb) G _ _ _ ⟨by omega, by omega⟩ hrb hre5 hre7 (htyS _ (List.getElem_mem (by omega))) (hfrS _ (List.getElem_mem (by omega)))) rfl rfl rfl (fun u G1 hle1 hh => ?_); obtain ⟨uc, rfl, hru⟩ := hh; have hul := hru.len; have huo := hru.one; obtain ⟨z1, z2, z3, z4, z5, z6, z7, z8, z9, rfl⟩ := T8 hul; replace hre3 := hre3.mono hle1; replace hre6 := hre6.mono hle1; replace hre8 := hre8.mono hle1)
 refine A2 16 ?_
 (refine oS rfl rfl rfl rfl rfl huo rfl rfl ?_ (hu := by exact D4 rfl))
 refine C5 (nS (tS ?_))
 refine D5 D6 rfl ?_
 refine L3 (i := 4) (l' := [ff,ff,ff,ff,tt,ff,ff,ff,ff]) rfl D0 (A0 rfl rfl (A9 (by repeat first | exact mH | apply mT)) rfl) rfl (by kernel_rfl) rfl rfl ?_
 refine aP 0 rfl (B0 rfl) rfl ?_
 refine aL 1 rfl (B9 rfl rfl) rfl ?_
 refine aP 2 rfl (A8 (j := 0) rfl rfl rfl (by omega)) rfl ?_
 refine aL 3 rfl (A0 rfl rfl (At.mono' hle1 (hat3 _)) rfl) rfl ?_
 refine Q0 (j := 5) (j' := 7) (by kernel_rfl) ?_ ?_
 (refine E3 rfl (D7 rfl rfl rfl (by omega) (by unfold maxLen; omega) rfl) rfl rfl ?_; rintro _ ⟨b228, rfl⟩)
 refine Q0 (j := 6) (j' := 7) (by kernel_rfl) ?_ ?_
 (refine A0S (cs := [x1, x2, x3, x4, x5, x6, x7, x8, x9, z1, z2, z3, z4, z5, z6, z7, z8, z9]) (by repeat (first | exact Pk.here | apply Pk.there)) (fun G2 hle2 hsl2 hno2 => ?_); have hrN := A0F (k := 6) (ks := [aks[0], K8 b atks[0] afks[0] (-alb)]) (es := [[x1, x2, x3, x4, x5, x6, x7, x8, x9], [z1, z2, z3, z4, z5, z6, z7, z8, z9]]) ⟨by decide, by decide⟩ rfl (C4.of hsl2 rfl (by simp) (by intro x hx; rcases List.mem_cons.1 hx with rfl | hx; exact ho3; obtain rfl := List.mem_singleton.1 hx; exact huo)) (by simp only [C7]; exact ⟨_, _, rfl, hre3.mono hle2, _, _, rfl, hru.mono hle2, rfl⟩); replace hre6 := hre6.mono hle2; replace hre8 := hre8.mono hle2; refine M6 rfl rfl (A2a _ _ _ _ _) rfl rfl rfl ?_)
 refine A2 7 ?_
 (refine E3 rfl (A5 rfl) rfl rfl ?_; rintro _ ⟨b232, rfl⟩)
 refine A2 8 ?_
 refine H0 rfl ?_
 refine C5 (nS (tS ?_))
 refine D5 D6 rfl ?_
 refine L3 (i := 0) (l' := [tt,ff,ff,ff,ff,ff,ff,ff,ff,ff,ff,ff,ff,ff,ff,ff,ff]) rfl D0 (A0 rfl rfl (A9 (by repeat first | exact mH | apply mT)) rfl) rfl (by kernel_rfl) rfl rfl ?_
 refine aP 1 rfl (B0 rfl) rfl ?_
 refine aP 2 rfl (qF rfl) rfl ?_
 refine aL 3 rfl (B9 rfl rfl) rfl ?_
 refine aP 4 rfl (A8 (j := 1) rfl rfl rfl (by omega)) rfl ?_
 refine aL 5 rfl (A0 rfl rfl (At.mono' (hle1.trans hle2) (hat8 _)) rfl) rfl ?_
 refine aP 6 rfl (B0 rfl) rfl ?_
 refine aP 7 rfl (qF rfl) rfl ?_
 refine aL 8 rfl (B9 rfl rfl) rfl ?_
 refine aP 9 rfl (A8 (j := 1) rfl rfl rfl (by omega)) rfl ?_
 refine aL 10 rfl (A0 rfl rfl (At.mono' (hle1.trans hle2) (hat6 _)) rfl) rfl ?_
 refine aP 11 rfl (B0 rfl) rfl ?_
 refine aL 12 rfl (B9 rfl rfl) rfl ?_
 refine A2 13 ?_
 (refine E9 rfl rfl (A0x _ afks[1] atks[1] alb G2 _ _ _ ⟨by omega, by omega⟩ hrN hre8 hre6 (hfrS _ (List.getElem_mem (by omega))) (htyS _ (List.getElem_mem (by omega)))) rfl rfl rfl (fun u G3 hle3 hh => ?_); obtain ⟨wc, rfl, hrw⟩ := hh; have hwl := hrw.len; have hwo := hrw.one)
 refine A2 14 ?_
 (refine oS rfl rfl rfl rfl hwl hwo rfl rfl ?_ (hu := by exact D4 hwl.symm))
 refine aP 15 rfl (qA rfl) rfl ?_
 refine aP 16 rfl (qA rfl) rfl ?_
 refine C5 (nS (tT ?_))
 refine C8 (rC rfl (A0 rfl rfl (A9 (by repeat first | exact mH | apply mT)) hwl)) (rT rfl) (rT rfl) ?_
 (exact L6.mk (by rw [if_neg hnd, if_pos hq, A0f (by omega), O1 (by omega), O1 (by omega), O1 (by omega), O1 (by omega)]) hrw)
 (refine E3 rfl (A5 rfl) rfl rfl ?_; rintro _ ⟨b263, rfl⟩)
 refine A2 6 ?_
 (refine A0S (cs := [x1, x2, x3, x4, x5, x6, x7, x8, x9, z1, z2, z3, z4, z5, z6, z7, z8, z9]) (by repeat (first | exact Pk.here | apply Pk.there)) (fun G2 hle2 hsl2 hno2 => ?_); have hrN := A0F (k := 6) (ks := [aks[0], K8 b atks[0] afks[0] (-alb)]) (es := [[x1, x2, x3, x4, x5, x6, x7, x8, x9], [z1, z2, z3, z4, z5, z6, z7, z8, z9]]) ⟨by decide, by decide⟩ rfl (C4.of hsl2 rfl (by simp) (by intro x hx; rcases List.mem_cons.1 hx with rfl | hx; exact ho3; obtain rfl := List.mem_singleton.1 hx; exact huo)) (by simp only [C7]; exact ⟨_, _, rfl, hre3.mono hle2, _, _, rfl, hru.mono hle2, rfl⟩); replace hre6 := hre6.mono hle2; replace hre8 := hre8.mono hle2; refine M6 rfl rfl (A2a _ _ _ _ _) rfl rfl rfl ?_)
 refine A2 8 ?_
 refine H0 rfl ?_
 refine C5 (nS (tS ?_))
 refine D5 D6 rfl ?_
 refine L3 (i := 0) (l' := [tt,ff,ff,ff,ff,ff,ff,ff,ff,ff,ff,ff,ff,ff,ff,ff,ff]) rfl D0 (A0 rfl rfl (A9 (by repeat first | exact mH | apply mT)) rfl) rfl (by kernel_rfl) rfl rfl ?_
 refine aP 1 rfl (B0 rfl) rfl ?_
 refine aP 2 rfl (qF rfl) rfl ?_
 refine aL 3 rfl (B9 rfl rfl) rfl ?_
 refine aP 4 rfl (A8 (j := 1) rfl rfl rfl (by omega)) rfl ?_
 refine aL 5 rfl (A0 rfl rfl (At.mono' (hle1.trans hle2) (hat8 _)) rfl) rfl ?_
 refine aP 6 rfl (B0 rfl) rfl ?_
 refine aP 7 rfl (qF rfl) rfl ?_
 refine aL 8 rfl (B9 rfl rfl) rfl ?_
 refine aP 9 rfl (A8 (j := 1) rfl rfl rfl (by omega)) rfl ?_
 refine aL 10 rfl (A0 rfl rfl (At.mono' (hle1.trans hle2) (hat6 _)) rfl) rfl ?_
 refine aP 11 rfl (B0 rfl) rfl ?_
 refine aL 12 rfl (B9 rfl rfl) rfl ?_
 refine A2 13 ?_
 (refine E9 rfl rfl (A0x _ afks[1] atks[1] alb G2 _ _ _ ⟨by omega, by omega⟩ hrN hre8 hre6 (hfrS _ (List.getElem_mem (by omega))) (htyS _ (List.getElem_mem (by omega)))) rfl rfl rfl (fun u G3 hle3 hh => ?_); obtain ⟨wc, rfl, hrw⟩ := hh; have hwl := hrw.len; have hwo := hrw.one)
 refine A2 14 ?_
 (refine oS rfl rfl rfl rfl hwl hwo rfl rfl ?_ (hu := by exact D4 hwl.symm))
 refine aP 15 rfl (qA rfl) rfl ?_
 refine aP 16 rfl (qA rfl) rfl ?_
 refine C5 (nS (tT ?_))
 refine C8 (rC rfl (A0 rfl rfl (A9 (by repeat first | exact mH | apply mT)) hwl)) (rT rfl) (rT rfl) ?_
 (exact L6.mk (by rw [if_neg hnd, if_pos hq, A0f (by omega), O1 (by omega), O1 (by omega), O1 (by omega), O1 (by omega)]) hrw)
 (refine E3 rfl (A5 rfl) rfl rfl ?_; rintro _ ⟨b296, rfl⟩)
 refine A2 5 ?_
 (refine E3 rfl (D7 rfl rfl rfl (by omega) (by unfold maxLen; omega) rfl) rfl rfl ?_; rintro _ ⟨b298, rfl⟩)
 refine A2 6 ?_
 (refine A0S (cs := [x1, x2, x3, x4, x5, x6, x7, x8, x9, z1, z2, z3, z4, z5, z6, z7, z8, z9]) (by repeat (first | exact Pk.here | apply Pk.there)) (fun G2 hle2 hsl2 hno2 => ?_); have hrN := A0F (k := 6) (ks := [aks[0], K8 b atks[0] afks[0] (-alb)]) (es := [[x1, x2, x3, x4, x5, x6, x7, x8, x9], [z1, z2, z3, z4, z5, z6, z7, z8, z9]]) ⟨by decide, by decide⟩ rfl (C4.of hsl2 rfl (by simp) (by intro x hx; rcases List.mem_cons.1 hx with rfl | hx; exact ho3; obtain rfl := List.mem_singleton.1 hx; exact huo)) (by simp only [C7]; exact ⟨_, _, rfl, hre3.mono hle2, _, _, rfl, hru.mono hle2, rfl⟩); replace hre6 := hre6.mono hle2; replace hre8 := hre8.mono hle2; refine M6 rfl rfl (A2a _ _ _ _ _) rfl rfl rfl ?_)
 refine A2 8 ?_
 refine H0 rfl ?_
 refine C5 (nS (tS ?_))
 refine D5 D6 rfl ?_
 refine L3 (i := 0) (l' := [tt,ff,ff,ff,ff,ff,ff,ff,ff,ff,ff,ff,ff,ff,ff,ff,ff]) rfl D0 (A0 rfl rfl (A9 (by repeat first | exact mH | apply mT)) rfl) rfl (by kernel_rfl) rfl rfl ?_
 refine aP 1 rfl (B0 rfl) rfl ?_
 refine aP 2 rfl (qF rfl) rfl ?_
 refine aL 3 rfl (B9 rfl rfl) rfl ?_
 refine aP 4 rfl (A8 (j := 1) rfl rfl rfl (by omega)) rfl ?_
 refine aL 5 rfl (A0 rfl rfl (At.mono' (hle1.trans hle2) (hat8 _)) rfl) rfl ?_
 refine aP 6 rfl (B0 rfl) rfl ?_
 refine aP 7 rfl (qF rfl) rfl ?_
 refine aL 8 rfl (B9 rfl rfl) rfl ?_
 refine aP 9 rfl (A8 (j := 1) rfl rfl rfl (by omega)) rfl ?_
 refine aL 10 rfl (A0 rfl rfl (At.mono' (hle1.trans hle2) (hat6 _)) rfl) rfl ?_
 refine aP 11 rfl (B0 rfl) rfl ?_
 refine aL 12 rfl (B9 rfl rfl) rfl ?_
 refine A2 13 ?_
 (refine E9 rfl rfl (A0x _ afks[1] atks[1] alb G2 _ _ _ ⟨by omega, by omega⟩ hrN hre8 hre6 (hfrS _ (List.getElem_mem (by omega))) (htyS _ (List.getElem_mem (by omega)))) rfl rfl rfl (fun u G3 hle3 hh => ?_); obtain ⟨wc, rfl, hrw⟩ := hh; have hwl := hrw.len; have hwo := hrw.one)
 refine A2 14 ?_
 (refine oS rfl rfl rfl rfl hwl hwo rfl rfl ?_ (hu := by exact D4 hwl.symm))
 refine aP 15 rfl (qA rfl) rfl ?_
 refine aP 16 rfl (qA rfl) rfl ?_
 refine C5 (nS (tT ?_))
 refine C8 (rC rfl (A0 rfl rfl (A9 (by repeat first | exact mH | apply mT)) hwl)) (rT rfl) (rT rfl) ?_
 (exact L6.mk (by rw [if_neg hnd, if_pos hq, A0f (by omega), O1 (by omega), O1 (by omega), O1 (by omega), O1 (by omega)]) hrw)
 refine A0b ?_
 refine C8 (rC rfl (A3 rfl rfl)) (rT rfl) (rT rfl) ?_
 (exact L6.mk (by rw [if_neg (by omega), if_neg (by omega)]; rfl) (M1 _))
theorem A9s (k : Int) (a : Tm) (G : IM) (ca : List Value) (hk1 : k = 11 ∨ k = 12) (hca : cv a) (hra : A6 G a ca) : Fn Tryz.prog 244 [.int .i64 k, .agg ⟨ca⟩] [] G (L6 (O7 k B5 B5 0 [a])) := by
 have hP := A5U a G _ hra
 obtain ⟨ak, anm, anum, ⟨atk, atks⟩, ⟨afk, afks⟩, alb, aks⟩ := a
 obtain ⟨hN, hkk⟩ := hca.node
 have hops := hN.ops
 have hbl := hN.lbB
 have htyA := hN.tyA
 have hfrA := hN.frA
 rw [E6] at htyA hfrA
 have htyS := fun t (h : t ∈ atks) => (A1k.1 htyA.2.2 t h).small
 have hfrS := fun t (h : t ∈ afks) => (A1k.1 hfrA.2.2 t h).small
 have h14 : ak = 14 → aks.length = 1 := fun h => by rw [h] at hops; have : D9 14 = 1 := rfl; omega
 have h10 : ak = 10 → aks.length = 2 := fun h => by rw [h] at hops; have : D9 10 = 2 := rfl; omega
 obtain ⟨apt, act, apf, acf, ap, ac, aes, rfl, hak, hanum, halb, haty, hafr, hasl, hakl⟩ := hra.open9
 obtain ⟨tes, htS, htL⟩ := haty.kids
 obtain ⟨fes, hfS, hfL⟩ := hafr.kids
 simp only [Ty.ks] at htS htL hfS hfL
 obtain ⟨i, hi⟩ : ∃ i : Nat, (k - 11).toNat = i := ⟨_, rfl⟩
 have hR : O7 k B5 B5 0 [Tm.mk ak anm anum (.mk atk atks) (.mk afk afks) alb aks] = (if ak = 10 then (kd aks i, 1, 0) else if (ak = 14 ∧ afk = atk ∧ (atk = 4 ∨ atk = 5)) ∧ atk = 5 then (K8 (A0c k [kd aks 0]) (kt afks i) (kt atks i) alb, 1, 0) else Q3) := by
  unfold O7
  rw [if_neg (by omega), if_neg (by omega), if_neg (by omega), if_pos hk1, hi, show kd [Tm.mk ak anm anum (.mk atk atks) (.mk afk afks) alb aks] 0 = Tm.mk ak anm anum (.mk atk atks) (.mk afk afks) alb aks from rfl, A2h]
  simp only [decide_eq_true_eq]
  rfl
 rw [hR]
 replace hP : Fn Tryz.prog 180 _ [] G (E4 (.bool (decide (ak = 14 ∧ afk = atk ∧ (atk = 4 ∨ atk = 5)))) G) := hP
 refine B4 Tryz.func244 rfl Tryz.ntmps244 Tryz.results244 rfl ?_
 intro w0
 refine tS (tR ?_)
 refine sE (C1 rfl rfl) rfl (fun b3 => ?_)
 refine sE (A5 rfl) rfl (fun b4 => ?_)
 refine C3 ?_
 refine sP (W8 rfl rfl (by omega) (by omega)) rfl rfl ?_
 (rw [show (k - 11 : Int) = ((i : Nat) : Int) from (by omega)]; refine sQ (qA rfl) rfl ?_)
 refine C3 ?_
 refine sB (qE rfl rfl) rfl rfl (fun h21 => ?_) (fun h21 => ?_)
 refine D3 ?_
 (have hq := h10 (by omega); obtain ⟨bq, oq, e3, rfl, hl3, hat3, hre3, hgb3⟩ := hasl.kidTm hakl (i := i) (by omega) (by omega); have ho3 := hre3.one; refine sP (A8 (j := i) rfl rfl rfl (by omega)) rfl rfl ?_)
 refine sL (A0 rfl rfl (hat3 _) hl3) rfl rfl ?_
 refine sS rfl rfl rfl hl3 ho3 rfl ?_ (hu := by exact D4 hl3.symm)
 refine sQ (qA rfl) rfl (sQ (qA rfl) rfl (sD (nS (tT (rS ?_)))))
 refine C8 (rC rfl (A0 rfl rfl (A9 (by repeat first | exact mH | apply mT)) hl3)) (rT rfl) (rT rfl) ?_
 (exact L6.mk (by rw [if_pos (by omega), A0f (by omega)]) hre3)
 refine D8 ?_
 focus (by_cases hpx : (ak = 14 ∧ afk = atk ∧ (atk = 4 ∨ atk = 5)); rw [decide_eq_true hpx] at hP; rotate_left; rw [decide_eq_false hpx] at hP; rotate_left; all_goals (refine I3 rfl hP rfl rfl ?_))
 refine O8 ?_
 refine sB (N7 rfl rfl) rfl rfl (fun h56 => ?_) (fun h56 => ?_)
 refine L5 ?_
 refine C8 (rC rfl (A3 rfl rfl)) (rT rfl) (rT rfl) ?_
 (exact L6.mk (by rw [if_neg (by omega), if_neg (by omega)]; rfl) (M1 _))
 refine sQ (N4 rfl rfl) rfl (sD (nS (cF rfl (tK (nS (tS ?_))))))
 (have hnd : ¬ak = 10 := (by omega); have hq : (ak = 14 ∧ afk = atk ∧ (atk = 4 ∨ atk = 5)) ∧ atk = 5 := ⟨hpx, by omega⟩; have hq1 := h14 hq.1.1; have hq2 := htyA.1 (by omega); have hq3 := hfrA.1 (by omega); obtain ⟨bq, oq, e3, rfl, hl3, hat3, hre3, hgb3⟩ := hasl.kidTm hakl (i := 0) (by omega) (by omega); have ho3 := hre3.one; obtain ⟨b5, o5, q5, d5, rfl, hat5, hre5, hgb5⟩ := htS.kidTy htL (i := i) (by omega) (by omega); obtain ⟨b7, o7, q7, d7, rfl, hat7, hre7, hgb7⟩ := hfS.kidTy hfL (i := i) (by omega) (by omega); obtain ⟨x1, x2, x3, x4, x5, x6, x7, x8, x9, rfl⟩ := T8 hl3; refine D5 D6 rfl ?_)
 refine J6 (i := 0) (l' := [tt,ff,ff,ff,ff,ff,ff,ff,ff,ff,ff,ff,ff,ff,ff,ff,ff,ff,ff,ff,ff,ff,ff,ff,ff]) rfl D0 (qM rfl) rfl (by kernel_rfl) rfl rfl ?_
 refine aP 1 rfl (B0 rfl) rfl ?_
 refine aL 2 rfl (B9 rfl rfl) rfl ?_
 refine aP 3 rfl (A8 (j := 0) rfl rfl rfl (by omega)) rfl ?_
 refine aL 4 rfl (A0 rfl rfl (hat3 _) rfl) rfl ?_
 refine aP 7 rfl (B0 rfl) rfl ?_
 refine aP 8 rfl (qF rfl) rfl ?_
 refine aL 9 rfl (B9 rfl rfl) rfl ?_
 refine aP 10 rfl (qM rfl) rfl ?_
 refine aP 11 rfl (A8 (j := i) rfl rfl rfl (by omega)) rfl ?_
 refine aL 12 rfl (A0 rfl rfl (hat7 _) rfl) rfl ?_
 refine aP 13 rfl (B0 rfl) rfl ?_
 refine aP 14 rfl (qF rfl) rfl ?_
 refine aL 15 rfl (B9 rfl rfl) rfl ?_
 refine aP 16 rfl (qM rfl) rfl ?_
 refine aP 17 rfl (A8 (j := i) rfl rfl rfl (by omega)) rfl ?_
 refine aL 18 rfl (A0 rfl rfl (hat5 _) rfl) rfl ?_
 refine aP 19 rfl (B0 rfl) rfl ?_
 refine aL 20 rfl (B9 rfl rfl) rfl ?_
 refine A2 5 ?_
 (refine E3 rfl (D7 rfl rfl rfl (by omega) (by unfold maxLen; omega) rfl) rfl rfl ?_; rintro _ ⟨b101, rfl⟩)
 refine A2 6 ?_
 (refine A0S (cs := [x1, x2, x3, x4, x5, x6, x7, x8, x9]) (by repeat (first | exact Pk.here | apply Pk.there)) (fun G2 hle2 hsl2 hno2 => ?_); have hrN := A0F (k := k) (ks := [aks[0]]) (es := [[x1, x2, x3, x4, x5, x6, x7, x8, x9]]) ⟨by omega, by omega⟩ rfl (C4.of hsl2 rfl (by simp) (by intro x hx; obtain rfl := List.mem_singleton.1 hx; exact ho3)) (by simp only [C7]; exact ⟨_, _, rfl, hre3.mono hle2, rfl⟩); replace hre5 := hre5.mono hle2; replace hre7 := hre7.mono hle2; refine M6 rfl rfl (A2a _ _ _ _ _) rfl rfl rfl ?_)
 refine A2 21 ?_
 (refine E9 rfl rfl (A0x _ afks[i] atks[i] alb G2 _ _ _ ⟨by omega, by omega⟩ hrN hre7 hre5 (hfrS _ (List.getElem_mem (by omega))) (htyS _ (List.getElem_mem (by omega)))) rfl rfl rfl (fun u G3 hle3 hh => ?_); obtain ⟨wc, rfl, hrw⟩ := hh; have hwl := hrw.len; have hwo := hrw.one)
 refine A2 22 ?_
 (refine oS rfl rfl rfl rfl hwl hwo rfl rfl ?_ (hu := by exact D4 hwl.symm))
 refine aP 23 rfl (qA rfl) rfl ?_
 refine aP 24 rfl (qA rfl) rfl ?_
 refine C5 (nS (tT ?_))
 refine C8 (rC rfl (A0 rfl rfl (A9 (by repeat first | exact mH | apply mT)) hwl)) (rT rfl) (rT rfl) ?_
 (exact L6.mk (by rw [if_neg hnd, if_pos hq, A0f (by omega), O1 (by omega), O1 (by omega)]) hrw)
 refine A0b ?_
 refine C8 (rC rfl (A3 rfl rfl)) (rT rfl) (rT rfl) ?_
 (exact L6.mk (by rw [if_neg (by omega), if_neg (by omega)]; rfl) (M1 _))
theorem B4o (a : Tm) (nm : ByteArray) (num : Int) (ty fr : Ty) (lb : Int) (G : IM) (cells : List Value) (hc : cv (.mk 14 nm num ty fr lb [a])) (hr : A6 G (.mk 14 nm num ty fr lb [a]) cells) : Fn Tryz.prog 245 [.agg ⟨cells⟩] [] G (L6 (O7 14 ty fr lb [a])) := by
 obtain ⟨hNe, hkk0⟩ := hc.node
 have hca := hkk0 a (by simp)
 have hlb9 := hNe.lbB
 obtain ⟨hcons, htv, hfv⟩ := hNe.c14 rfl
 have hji := @A8k a
 have hjk := @A5r a
 obtain ⟨ak, anm, anum, ⟨atk, atks⟩, ⟨afk, afks⟩, alb, aks⟩ := a
 obtain ⟨hN, hkk⟩ := hca.node
 have hops := hN.ops
 have h14 : ak = 14 → aks.length = 1 := fun h => by rw [h] at hops; have : D9 14 = 1 := rfl; omega
 obtain ⟨tk, tks⟩ := ty
 obtain ⟨fk, fks⟩ := fr
 rw [W0] at hcons
 simp only [Bool.or_eq_true, Bool.and_eq_true, decide_eq_true_eq] at hcons
 have hcc : fk ≠ tk → tk ≠ 1 → fk = 1 := fun h1 h2 => by rcases hcons with (h | h) | h; exact h; exact absurd h h2; exact absurd h.1 h1
 have hta := A5M htv
 have hfa := A5M hfv
 obtain ⟨pt, ct, pf, cf, p, c, es, rfl, hk, hnum, hlb, hty, hfr, hsl, hkl⟩ := hr.open9
 obtain ⟨bx, ox, e0, rfl, hl0, hat0, hre0, hgb0⟩ := hsl.kidTm hkl (i := 0) (by simp) (by simp)
 replace hre0 : A6 G (Tm.mk ak anm anum (.mk atk atks) (.mk afk afks) alb aks) e0 := hre0
 have hI := A9p (Tm.mk ak anm anum (.mk atk atks) (.mk afk afks) alb aks) G _ hN.frA hre0
 have ho0 := hre0.one
 obtain ⟨apt, act, apf, acf, ap, ac, aes, rfl, hak, hanum, halb, haty, hafr, hasl, hakl⟩ := hre0.open9
 obtain ⟨J, hJ⟩ : ∃ J, inj (Tm.mk ak anm anum (.mk atk atks) (.mk afk afks) alb aks) = J := ⟨_, rfl⟩
 obtain ⟨D, hD⟩ : ∃ D, V3 (.mk tk tks) = D := ⟨_, rfl⟩
 have hGr := A9o (.mk tk tks) G _ hta hty
 rw [hD] at hGr
 rw [hJ] at hI hji hjk
 have hR : O7 14 (.mk tk tks) (.mk fk fks) lb [Tm.mk ak anm anum (.mk atk atks) (.mk afk afks) alb aks] = (if fk = tk then (Tm.mk ak anm anum (.mk atk atks) (.mk afk afks) alb aks, 1, 0)
   else if tk = 1 then (K8 (K8 (Tm.mk ak anm anum (.mk atk atks) (.mk afk afks) alb aks) (.mk fk fks) (T7 (.mk fk fks)) lb) (T7 (.mk fk fks)) (.mk tk tks) lb, 1, 0)
   else if D = false then (K8 (K8 (Tm.mk ak anm anum (.mk atk atks) (.mk afk afks) alb aks) (.mk fk fks) (T7 (.mk tk tks)) lb) (T7 (.mk tk tks)) (.mk tk tks) lb, 1, 0)
   else if J = false then Q3
   else if afk = tk then (kd aks 0, 1, 0)
   else (K7, 2, lb)) := by
  rw [← hJ, ← hD]; rfl
 rw [hR]
 refine B4 Tryz.func245 rfl Tryz.ntmps245 Tryz.results245 rfl ?_
 intro w0
 refine tS (tR ?_)
 refine sE (C1 rfl rfl) rfl (fun b3 => ?_)
 refine sE (A5 rfl) rfl (fun b4 => ?_)
 refine D3 ?_
 refine sP (A8 (j := 0) rfl rfl rfl (by simp)) rfl rfl ?_
 refine sL (A0 rfl rfl (hat0 _) rfl) rfl rfl ?_
 refine sE (A5 rfl) rfl (fun b15 => ?_)
 refine J7 ?_
 refine sD (nS (tS ?_))
 refine B3 ?_
 refine D3 ?_
 refine sB (qE rfl rfl) rfl rfl (fun h29 => ?_) (fun h29 => ?_)
 refine H3 ?_
 refine C8 (rC rfl (A3 rfl rfl)) (rT rfl) (rT rfl) ?_
 (exact L6.mk (by rw [if_pos (by omega)]) hre0)
 refine D8 ?_
 refine sB (qE rfl rfl) rfl rfl (fun h56 => ?_) (fun h56 => ?_)
 refine D3 ?_
 (have hgk : tk = 1 := (by omega); refine D2 rfl (A5T (.mk fk fks) G _ hfa hfr) rfl rfl (fun u G1 hle1 hh => ?_); obtain ⟨gc, rfl, hrg⟩ := hh; have hgs := A2I (.mk fk fks); generalize T7 (.mk fk fks) = g at hrg hgs ⊢; obtain ⟨pg, cg, eg, rfl, _⟩ := hrg.open; replace hre0 := hre0.mono hle1; replace hfr := hfr.mono hle1; replace hty := hty.mono hle1)
 refine sE (A5 rfl) rfl (fun b66 => ?_)
 refine J7 ?_
 refine sD (nS (tS ?_))
 refine D5 D6 rfl ?_
 refine L3 (i := 0) (l' := [tt,ff,ff,ff,ff,ff,ff,ff,ff,ff,ff,ff,ff,ff,ff,ff]) rfl D0 (A0 rfl rfl (A9 (by repeat first | exact mH | apply mT)) rfl) rfl (by kernel_rfl) rfl rfl ?_
 refine aL 3 rfl (A0 rfl rfl (A9 (by repeat first | exact mH | apply mT)) rfl) rfl ?_
 refine aL 7 rfl (A0 rfl rfl (A9 (by repeat first | exact mH | apply mT)) rfl) rfl ?_
 refine aP 1 rfl (B0 rfl) rfl ?_
 refine aL 2 rfl (A3 rfl rfl) rfl ?_
 refine aP 4 rfl (B0 rfl) rfl ?_
 refine aL 5 rfl (B9 rfl rfl) rfl ?_
 refine aP 8 rfl (B0 rfl) rfl ?_
 refine aL 9 rfl (A3 rfl rfl) rfl ?_
 refine aP 10 rfl (B0 rfl) rfl ?_
 refine aL 11 rfl (B9 rfl rfl) rfl ?_
 refine A2 6 ?_
 (refine E9 rfl rfl (A0x _ (.mk fk fks) _ lb G1 _ _ _ ⟨by omega, by omega⟩ hre0 hfr hrg hfa.small hgs) rfl rfl rfl (fun u G3 hle3 hh => ?_); obtain ⟨wc, rfl, hrw⟩ := hh; have hwl := hrw.len; have hwo := hrw.one; replace hrg := hrg.mono hle3; replace hty := hty.mono hle3)
 refine A2 12 ?_
 (refine E9 rfl rfl (A0x _ _ (.mk tk tks) lb G3 _ _ _ ⟨by omega, by omega⟩ hrw hrg hty hgs hta.small) rfl rfl rfl (fun u G4 hle4 hh => ?_); obtain ⟨xc, rfl, hrx⟩ := hh; have hxl := hrx.len; have hxo := hrx.one)
 refine A2 13 ?_
 (refine oS rfl rfl rfl rfl hxl hxo rfl rfl ?_ (hu := by exact D4 hxl.symm))
 refine aP 14 rfl (qA rfl) rfl ?_
 refine aP 15 rfl (qA rfl) rfl ?_
 refine C5 (nS (tT (rB (rS ?_))))
 refine C8 (rC rfl (A0 rfl rfl (A9 (by repeat first | exact mH | apply mT)) hxl)) (rT rfl) (rT rfl) ?_
 (exact L6.mk (by rw [if_neg (by omega), if_pos (by omega)]) hrx)
 refine D8 ?_
 refine sP (X9 rfl rfl (by omega)) rfl rfl ?_
 refine D3 ?_
 focus (cases hDD : D; all_goals (rw [hDD] at hGr; refine I3 rfl hGr rfl rfl ?_))
 refine D8 ?_
 (refine D2 rfl (A5T (.mk tk tks) G _ hta hty) rfl rfl (fun u G1 hle1 hh => ?_); obtain ⟨gc, rfl, hrg⟩ := hh; have hgs := A2I (.mk tk tks); generalize T7 (.mk tk tks) = g at hrg hgs ⊢; obtain ⟨pg, cg, eg, rfl, _⟩ := hrg.open; replace hre0 := hre0.mono hle1; replace hfr := hfr.mono hle1; replace hty := hty.mono hle1)
 refine sE (A5 rfl) rfl (fun b127 => ?_)
 refine J7 ?_
 refine sD (nS (tS ?_))
 refine D5 D6 rfl ?_
 refine L3 (i := 0) (l' := [tt,ff,ff,ff,ff,ff,ff,ff,ff,ff,ff,ff,ff,ff,ff,ff]) rfl D0 (A0 rfl rfl (A9 (by repeat first | exact mH | apply mT)) rfl) rfl (by kernel_rfl) rfl rfl ?_
 refine aL 3 rfl (A0 rfl rfl (A9 (by repeat first | exact mH | apply mT)) rfl) rfl ?_
 refine aL 7 rfl (A0 rfl rfl (A9 (by repeat first | exact mH | apply mT)) rfl) rfl ?_
 refine aP 1 rfl (B0 rfl) rfl ?_
 refine aL 2 rfl (A3 rfl rfl) rfl ?_
 refine aP 4 rfl (B0 rfl) rfl ?_
 refine aL 5 rfl (B9 rfl rfl) rfl ?_
 refine aP 8 rfl (B0 rfl) rfl ?_
 refine aL 9 rfl (A3 rfl rfl) rfl ?_
 refine aP 10 rfl (B0 rfl) rfl ?_
 refine aL 11 rfl (B9 rfl rfl) rfl ?_
 refine A2 6 ?_
 (refine E9 rfl rfl (A0x _ (.mk fk fks) _ lb G1 _ _ _ ⟨by omega, by omega⟩ hre0 hfr hrg hfa.small hgs) rfl rfl rfl (fun u G3 hle3 hh => ?_); obtain ⟨wc, rfl, hrw⟩ := hh; have hwl := hrw.len; have hwo := hrw.one; replace hrg := hrg.mono hle3; replace hty := hty.mono hle3)
 refine A2 12 ?_
 (refine E9 rfl rfl (A0x _ _ (.mk tk tks) lb G3 _ _ _ ⟨by omega, by omega⟩ hrw hrg hty hgs hta.small) rfl rfl rfl (fun u G4 hle4 hh => ?_); obtain ⟨xc, rfl, hrx⟩ := hh; have hxl := hrx.len; have hxo := hrx.one)
 refine A2 13 ?_
 (refine oS rfl rfl rfl rfl hxl hxo rfl rfl ?_ (hu := by exact D4 hxl.symm))
 refine aP 14 rfl (qA rfl) rfl ?_
 refine aP 15 rfl (qA rfl) rfl ?_
 refine C5 (nS (tT (rB (rS ?_))))
 refine C8 (rC rfl (A0 rfl rfl (A9 (by repeat first | exact mH | apply mT)) hxl)) (rT rfl) (rT rfl) ?_
 (exact L6.mk (by rw [if_neg (by omega), if_neg (by omega), if_pos rfl]) hrx)
 refine D3 ?_
 focus (cases hJJ : J; all_goals (rw [hJJ] at hI; refine I3 rfl hI rfl rfl ?_))
 refine J1 ?_
 refine C8 (rC rfl (A3 rfl rfl)) (rT rfl) (rT rfl) ?_
 (exact L6.mk (by rw [if_neg (by omega), if_neg (by omega), if_neg (by decide), if_pos rfl]; rfl) (M1 _))
 refine K1 ?_
 refine sB (qE rfl rfl) rfl rfl (fun h199 => ?_) (fun h199 => ?_)
 refine D3 ?_
 (have hq1 := h14 (hjk (by assumption)); obtain ⟨bq, oq, e3, rfl, hl3, hat3, hre3, hgb3⟩ := hasl.kidTm hakl (i := 0) (by omega) (by omega); have ho3 := hre3.one; refine sP (A8 (j := 0) rfl rfl rfl (by omega)) rfl rfl ?_)
 refine sL (A0 rfl rfl (hat3 _) hl3) rfl rfl ?_
 refine sS rfl rfl rfl hl3 ho3 rfl ?_ (hu := by exact D4 hl3.symm)
 refine C3 ?_
 refine C8 (rC rfl (A0 rfl rfl (A9 (by repeat first | exact mH | apply mT)) hl3)) (rT rfl) (rT rfl) ?_
 (exact L6.mk (by rw [if_neg (by omega), if_neg (by omega), if_neg (by decide), if_neg (by decide), if_pos (by assumption), A0f (by omega)]) hre3)
 refine D3 ?_
 refine D5 D6 rfl ?_
 refine J6 (i := 0) (l' := [tt,ff,ff,ff,ff,ff]) rfl D0 (U1 rfl rfl) rfl (by kernel_rfl) rfl rfl ?_
 refine aP 1 rfl (B0 rfl) rfl ?_
 refine aL 2 rfl (B9 rfl rfl) rfl ?_
 refine A2 3 ?_
 refine H0 rfl ?_
 refine aP 4 rfl (qA rfl) rfl ?_
 refine aP 5 rfl (qA rfl) rfl ?_
 refine C5 (nS (tT ?_))
 refine C8 (rC rfl (A3 rfl rfl)) (rT rfl) (rT rfl) ?_
 (exact L6.mk (by rw [if_neg (by omega), if_neg (by omega), if_neg (by decide), if_neg (by decide), if_neg (by assumption)]) (M1 _))
theorem A5W {k : Int} {ty fr ty' fr' : Ty} {lb lb' : Int} {ks : List Tm} (h : k ≠ 14) : O7 k ty fr lb ks = O7 k ty' fr' lb' ks := by
 unfold O7
 rw [if_neg h, if_neg h]
theorem B4p (k : Int) (nm : ByteArray) (num : Int) (ty fr : Ty) (lb : Int) (ks : List Tm) (G : IM) (cells : List Value) (h7 : k = 1 ∨ k = 6 ∨ k = 7 ∨ k = 8 ∨ k = 11 ∨ k = 12 ∨ k = 14) (hc : cv (.mk k nm num ty fr lb ks)) (hr : A6 G (.mk k nm num ty fr lb ks) cells) : Fn Tryz.prog 235 [.agg ⟨cells⟩] [] G (L6 (O7 k ty fr lb ks)) := by
 have hr0 := hr
 obtain ⟨hN, hkk⟩ := hc.node
 have hops := hN.ops
 have hL2 : k = 6 ∨ k = 7 ∨ k = 8 → ∃ a b, ks = [a, b] := fun h => ks2 (by
  rcases h with rfl | rfl | rfl
  ·have : D9 6 = 2 := rfl; omega
  ·have : D9 7 = 2 := rfl; omega
  ·have : D9 8 = 2 := rfl; omega)
 have hL1 : k = 11 ∨ k = 12 ∨ k = 14 → ∃ a, ks = [a] := fun h => ks1 (by
  rcases h with rfl | rfl | rfl
  ·have : D9 11 = 1 := rfl; omega
  ·have : D9 12 = 1 := rfl; omega
  ·have : D9 14 = 1 := rfl; omega)
 have hC : k = 14 → Fn Tryz.prog 245 [.agg ⟨cells⟩] [] G (L6 (O7 k ty fr lb ks)) := by
  rintro rfl
  obtain ⟨a, rfl⟩ := hL1 (by omega)
  exact B4o a nm num ty fr lb G cells hc hr
 have hA : k = 6 → ∀ a b, ks = [a, b] → O7 k ty fr lb ks = O7 6 B5 B5 0 [a, b] := by rintro rfl a b rfl; exact A5W (by decide)
 have hB : k = 7 ∨ k = 8 → ∀ a b, ks = [a, b] → O7 k ty fr lb ks = O7 k B5 B5 0 [a, b] := by rintro h a b rfl; exact A5W (by omega)
 have hD : k = 11 ∨ k = 12 → ∀ a, ks = [a] → O7 k ty fr lb ks = O7 k B5 B5 0 [a] := by rintro h a rfl; exact A5W (by omega)
 have hO : k = 1 → O7 k ty fr lb ks = Q3 := by rintro rfl; rfl
 generalize O7 k ty fr lb ks = R at hC hA hB hD hO ⊢
 obtain ⟨tk, tks⟩ := ty
 obtain ⟨fk, fks⟩ := fr
 obtain ⟨pt, ct, pf, cf, p, c, es, rfl, hk, hnum, hlb, hty, hfr, hsl, hkl⟩ := hr.open9
 refine B4 Tryz.func235 rfl Tryz.ntmps235 Tryz.results235 rfl ?_
 intro w0
 refine tS (tR ?_)
 refine sE (C1 rfl rfl) rfl (fun b3 => ?_)
 refine sE (A5 rfl) rfl (fun b4 => ?_)
 refine F8 ?_
 refine B3 (tS (tR (sB (qE rfl rfl) rfl rfl (fun h19 => ?_) (fun h19 => ?_))))
 refine sQ (qA rfl) rfl (sD (nS (qT rfl (tS ?_))))
 (have hq : k = 6 := (by assumption); obtain ⟨x, y, hxy⟩ := hL2 (by omega); have hAq := hA hq x y hxy; subst hxy; obtain ⟨bx, ox, e0, rfl, hl0, hat0, hre0, hgb0⟩ := hsl.kidTm hkl (i := 0) (by simp) (by simp); obtain ⟨_, _, e1, hp1, hl1, hat1, hre1, hgb1⟩ := hsl.kidTm hkl (i := 1) (by simp) (by simp); cases hp1; have hF := B4n x y G e0 e1 (hkk x (by simp)) (A2c y (hkk y (by simp))) hre0 hre1; rw [← hAq] at hF; refine D5 D6 rfl ?_)
 refine J6 (i := 0) (l' := [tt,ff,ff,ff,ff,ff,ff,ff,ff,ff,ff,ff,ff,ff,ff]) rfl D0 (B0 rfl) rfl (by kernel_rfl) rfl rfl ?_
 refine aL 1 rfl (B9 rfl rfl) rfl ?_
 refine aP 2 rfl (A8 (j := 0) rfl rfl rfl (by simp)) rfl ?_
 refine aL 3 rfl (A0 rfl rfl (hat0 _) hl0) rfl ?_
 refine aP 4 rfl (B0 rfl) rfl ?_
 refine aL 5 rfl (B9 rfl rfl) rfl ?_
 refine aP 6 rfl (A8 (j := 1) rfl rfl rfl (by simp)) rfl ?_
 refine aL 7 rfl (A0 rfl rfl (hat1 _) hl1) rfl ?_
 refine A2 8 ?_
 (refine E9 rfl rfl hF rfl rfl rfl (fun v G1 hle1 hh => ?_); obtain ⟨wc, rfl, hrw⟩ := hh; have hwl := hrw.len; have hwo := hrw.one)
 refine aP 9 rfl (pX rfl rfl) rfl ?_
 refine aP 10 rfl (pX rfl rfl) rfl ?_
 refine aP 11 rfl (pX rfl rfl) rfl ?_
 refine A2 12 ?_
 (refine oS rfl rfl rfl rfl hwl hwo rfl rfl ?_ (hu := by exact D4 hwl.symm))
 refine aP 13 rfl (qA rfl) rfl ?_
 refine aP 14 rfl (qA rfl) rfl ?_
 refine C5 (nS (tT (rB (rS ?_))))
 refine C8 (rC rfl (A0 rfl rfl (A9 (by repeat first | exact mH | apply mT)) hwl)) (rT rfl) (rT rfl) ?_
 (exact ⟨rfl, _, rfl, hrw⟩)
 refine sQ (qA rfl) rfl (sD (nS (cF rfl (tS (tS (tR ?_))))))
 refine sB (qE rfl rfl) rfl rfl (fun h57 => ?_) (fun h57 => ?_)
 refine D3 ?_
 (have hq : k = 7 ∨ k = 8 := (by omega); obtain ⟨x, y, hxy⟩ := hL2 (by omega); have hBq := hB hq x y hxy; subst hxy; obtain ⟨bx, ox, e0, rfl, hl0, hat0, hre0, hgb0⟩ := hsl.kidTm hkl (i := 0) (by simp) (by simp); obtain ⟨_, _, e1, hp1, hl1, hat1, hre1, hgb1⟩ := hsl.kidTm hkl (i := 1) (by simp) (by simp); cases hp1; have hF := A9r k x y G e0 e1 hq (by have := (hkk x (by simp)); cases x; exact this.node.1.num0) (by have := (hkk y (by simp)); cases y; exact this.node.1.num0) hre0 hre1; rw [← hBq] at hF; refine D5 D6 rfl ?_)
 refine J6 (i := 0) (l' := [tt,ff,ff,ff,ff,ff,ff,ff,ff,ff,ff,ff,ff,ff,ff,ff,ff]) rfl D0 (B0 rfl) rfl (by kernel_rfl) rfl rfl ?_
 refine aL 1 rfl (B9 rfl rfl) rfl ?_
 refine aP 2 rfl (B0 rfl) rfl ?_
 refine aL 3 rfl (B9 rfl rfl) rfl ?_
 refine aP 4 rfl (A8 (j := 0) rfl rfl rfl (by simp)) rfl ?_
 refine aL 5 rfl (A0 rfl rfl (hat0 _) hl0) rfl ?_
 refine aP 6 rfl (B0 rfl) rfl ?_
 refine aL 7 rfl (B9 rfl rfl) rfl ?_
 refine aP 8 rfl (A8 (j := 1) rfl rfl rfl (by simp)) rfl ?_
 refine aL 9 rfl (A0 rfl rfl (hat1 _) hl1) rfl ?_
 refine A2 10 ?_
 (refine E9 rfl rfl hF rfl rfl rfl (fun v G1 hle1 hh => ?_); obtain ⟨wc, rfl, hrw⟩ := hh; have hwl := hrw.len; have hwo := hrw.one)
 refine aP 11 rfl (pX rfl rfl) rfl ?_
 refine aP 12 rfl (pX rfl rfl) rfl ?_
 refine aP 13 rfl (pX rfl rfl) rfl ?_
 refine A2 14 ?_
 (refine oS rfl rfl rfl rfl hwl hwo rfl rfl ?_ (hu := by exact D4 hwl.symm))
 refine aP 15 rfl (qA rfl) rfl ?_
 refine aP 16 rfl (qA rfl) rfl ?_
 refine C5 (nS (tT (rB (rS ?_))))
 refine C8 (rC rfl (A0 rfl rfl (A9 (by repeat first | exact mH | apply mT)) hwl)) (rT rfl) (rT rfl) ?_
 (exact ⟨rfl, _, rfl, hrw⟩)
 refine sQ (qA rfl) rfl (sD (nS (cF rfl (tR ?_))))
 refine sB (qE rfl rfl) rfl rfl (fun h98 => ?_) (fun h98 => ?_)
 refine sQ (qA rfl) rfl (sD (nS (qT rfl (tS ?_))))
 (have hq : k = 7 ∨ k = 8 := (by omega); obtain ⟨x, y, hxy⟩ := hL2 (by omega); have hBq := hB hq x y hxy; subst hxy; obtain ⟨bx, ox, e0, rfl, hl0, hat0, hre0, hgb0⟩ := hsl.kidTm hkl (i := 0) (by simp) (by simp); obtain ⟨_, _, e1, hp1, hl1, hat1, hre1, hgb1⟩ := hsl.kidTm hkl (i := 1) (by simp) (by simp); cases hp1; have hF := A9r k x y G e0 e1 hq (by have := (hkk x (by simp)); cases x; exact this.node.1.num0) (by have := (hkk y (by simp)); cases y; exact this.node.1.num0) hre0 hre1; rw [← hBq] at hF; refine D5 D6 rfl ?_)
 refine J6 (i := 0) (l' := [tt,ff,ff,ff,ff,ff,ff,ff,ff,ff,ff,ff,ff,ff,ff,ff,ff]) rfl D0 (B0 rfl) rfl (by kernel_rfl) rfl rfl ?_
 refine aL 1 rfl (B9 rfl rfl) rfl ?_
 refine aP 2 rfl (B0 rfl) rfl ?_
 refine aL 3 rfl (B9 rfl rfl) rfl ?_
 refine aP 4 rfl (A8 (j := 0) rfl rfl rfl (by simp)) rfl ?_
 refine aL 5 rfl (A0 rfl rfl (hat0 _) hl0) rfl ?_
 refine aP 6 rfl (B0 rfl) rfl ?_
 refine aL 7 rfl (B9 rfl rfl) rfl ?_
 refine aP 8 rfl (A8 (j := 1) rfl rfl rfl (by simp)) rfl ?_
 refine aL 9 rfl (A0 rfl rfl (hat1 _) hl1) rfl ?_
 refine A2 10 ?_
 (refine E9 rfl rfl hF rfl rfl rfl (fun v G1 hle1 hh => ?_); obtain ⟨wc, rfl, hrw⟩ := hh; have hwl := hrw.len; have hwo := hrw.one)
 refine aP 11 rfl (pX rfl rfl) rfl ?_
 refine aP 12 rfl (pX rfl rfl) rfl ?_
 refine aP 13 rfl (pX rfl rfl) rfl ?_
 refine A2 14 ?_
 (refine oS rfl rfl rfl rfl hwl hwo rfl rfl ?_ (hu := by exact D4 hwl.symm))
 refine aP 15 rfl (qA rfl) rfl ?_
 refine aP 16 rfl (qA rfl) rfl ?_
 refine C5 (nS (tT (rB (rS ?_))))
 refine C8 (rC rfl (A0 rfl rfl (A9 (by repeat first | exact mH | apply mT)) hwl)) (rT rfl) (rT rfl) ?_
 (exact ⟨rfl, _, rfl, hrw⟩)
 refine sQ (qA rfl) rfl (sD (nS (cF rfl (tS (tS (tR ?_))))))
 refine sB (qE rfl rfl) rfl rfl (fun h138 => ?_) (fun h138 => ?_)
 refine D3 ?_
 (have hq : k = 11 ∨ k = 12 := (by omega); obtain ⟨x, hxy⟩ := hL1 (by omega); have hDq := hD hq x hxy; subst hxy; obtain ⟨bx, ox, e0, rfl, hl0, hat0, hre0, hgb0⟩ := hsl.kidTm hkl (i := 0) (by simp) (by simp); have hF := A9s k x G e0 hq (hkk x (by simp)) hre0; rw [← hDq] at hF; refine D5 D6 rfl ?_)
 refine J6 (i := 0) (l' := [tt,ff,ff,ff,ff,ff,ff,ff,ff,ff,ff,ff,ff]) rfl D0 (B0 rfl) rfl (by kernel_rfl) rfl rfl ?_
 refine aL 1 rfl (B9 rfl rfl) rfl ?_
 refine aP 2 rfl (B0 rfl) rfl ?_
 refine aL 3 rfl (B9 rfl rfl) rfl ?_
 refine aP 4 rfl (A8 (j := 0) rfl rfl rfl (by simp)) rfl ?_
 refine aL 5 rfl (A0 rfl rfl (hat0 _) hl0) rfl ?_
 refine A2 6 ?_
 (refine E9 rfl rfl hF rfl rfl rfl (fun v G1 hle1 hh => ?_); obtain ⟨wc, rfl, hrw⟩ := hh; have hwl := hrw.len; have hwo := hrw.one)
 refine aP 7 rfl (pX rfl rfl) rfl ?_
 refine aP 8 rfl (pX rfl rfl) rfl ?_
 refine aP 9 rfl (pX rfl rfl) rfl ?_
 refine A2 10 ?_
 (refine oS rfl rfl rfl rfl hwl hwo rfl rfl ?_ (hu := by exact D4 hwl.symm))
 refine aP 11 rfl (qA rfl) rfl ?_
 refine aP 12 rfl (qA rfl) rfl ?_
 refine C5 (nS (tT (rB (rS ?_))))
 refine C8 (rC rfl (A0 rfl rfl (A9 (by repeat first | exact mH | apply mT)) hwl)) (rT rfl) (rT rfl) ?_
 (exact ⟨rfl, _, rfl, hrw⟩)
 refine sQ (qA rfl) rfl (sD (nS (cF rfl (tR ?_))))
 refine sB (qE rfl rfl) rfl rfl (fun h175 => ?_) (fun h175 => ?_)
 refine sQ (qA rfl) rfl (sD (nS (qT rfl (tS ?_))))
 (have hq : k = 11 ∨ k = 12 := (by omega); obtain ⟨x, hxy⟩ := hL1 (by omega); have hDq := hD hq x hxy; subst hxy; obtain ⟨bx, ox, e0, rfl, hl0, hat0, hre0, hgb0⟩ := hsl.kidTm hkl (i := 0) (by simp) (by simp); have hF := A9s k x G e0 hq (hkk x (by simp)) hre0; rw [← hDq] at hF; refine D5 D6 rfl ?_)
 refine J6 (i := 0) (l' := [tt,ff,ff,ff,ff,ff,ff,ff,ff,ff,ff,ff,ff]) rfl D0 (B0 rfl) rfl (by kernel_rfl) rfl rfl ?_
 refine aL 1 rfl (B9 rfl rfl) rfl ?_
 refine aP 2 rfl (B0 rfl) rfl ?_
 refine aL 3 rfl (B9 rfl rfl) rfl ?_
 refine aP 4 rfl (A8 (j := 0) rfl rfl rfl (by simp)) rfl ?_
 refine aL 5 rfl (A0 rfl rfl (hat0 _) hl0) rfl ?_
 refine A2 6 ?_
 (refine E9 rfl rfl hF rfl rfl rfl (fun v G1 hle1 hh => ?_); obtain ⟨wc, rfl, hrw⟩ := hh; have hwl := hrw.len; have hwo := hrw.one)
 refine aP 7 rfl (pX rfl rfl) rfl ?_
 refine aP 8 rfl (pX rfl rfl) rfl ?_
 refine aP 9 rfl (pX rfl rfl) rfl ?_
 refine A2 10 ?_
 (refine oS rfl rfl rfl rfl hwl hwo rfl rfl ?_ (hu := by exact D4 hwl.symm))
 refine aP 11 rfl (qA rfl) rfl ?_
 refine aP 12 rfl (qA rfl) rfl ?_
 refine C5 (nS (tT (rB (rS ?_))))
 refine C8 (rC rfl (A0 rfl rfl (A9 (by repeat first | exact mH | apply mT)) hwl)) (rT rfl) (rT rfl) ?_
 (exact ⟨rfl, _, rfl, hrw⟩)
 refine sQ (qA rfl) rfl (sD (nS (cF rfl (tS (tR ?_)))))
 refine sB (qE rfl rfl) rfl rfl (fun h210 => ?_) (fun h210 => ?_)
 refine C3 ?_
 (refine D2 rfl (hC (by omega)) rfl rfl (fun v G1 hle1 hh => ?_); obtain ⟨wc, rfl, hrw⟩ := hh; have hwl := hrw.len; have hwo := hrw.one)
 refine J2 ?_
 refine sS rfl rfl rfl hwl hwo rfl ?_ (hu := by exact D4 hwl.symm)
 refine C3 ?_
 refine C8 (rC rfl (A0 rfl rfl (A9 (by repeat first | exact mH | apply mT)) hwl)) (rT rfl) (rT rfl) ?_
 (exact ⟨rfl, _, rfl, hrw⟩)
 refine J1 ?_
 refine C8 (rC rfl (A3 rfl rfl)) (rT rfl) (rT rfl) ?_
 (rw [hO (by omega)]; exact L6.mk rfl (M1 _))
theorem B4q {k : Int} {nm : ByteArray} {num : Int} {ty fr : Ty} {lb : Int} {ks : List Tm} {i : Nat} (hi : i < ks.length) (hn : i < (if k = 9 then 1 else ks.length)) (hj : ∀ j, j < i → (h : j < ks.length) → K0 ks[j] = true) (hv : K0 ks[i] = false) :
  J3 (.mk k nm num ty fr lb ks) = if (J3 ks[i]).2.1 = 1 then (.mk k nm num ty fr lb (ks.set i (J3 ks[i]).1), 1, 0) else (K7, (J3 ks[i]).2.1, (J3 ks[i]).2.2) := by
 rw [J3, A5u _ ks i hi hn hj hv]
theorem B4r {k : Int} {nm : ByteArray} {num : Int} {ty fr : Ty} {lb : Int} {ks : List Tm} (h : ∀ i, i < (if k = 9 then 1 else ks.length) → (hl : i < ks.length) → K0 ks[i] = true) : J3 (.mk k nm num ty fr lb ks) = O7 k ty fr lb ks := by
 rw [J3, A5t _ _ h]
theorem B4s {ty fr : Ty} {lb : Int} {a b c : Tm} : O7 9 ty fr lb [a, b, c] = (if a.k = 3 then (b, 1, 0) else if a.k = 4 then (c, 1, 0) else Q3) := rfl
theorem B4t : ∀ (t : Tm) (G : IM) (cells : List Value), cv t → K0 t = false → A6 G t cells → Fn Tryz.prog 204 [.agg ⟨cells⟩] [] G (L6 (J3 t)) := by
 refine Tm.ind fun k nm num ty fr lb ks ih G cells hc hv hr => ?_
 have hr0 := hr
 have hRl := hr.len
 have hN := hc.node.1
 have hkk := hc.node.2
 have hops := hN.ops
 have hle3 := A1G k
 have hkd := @A8m k nm num ty fr lb ks hc hv
 have hkX := fun (i : Nat) => @B4q k nm num ty fr lb ks i
 have hrX := @B4r k nm num ty fr lb ks
 have hRd := fun h7 => B4p k nm num ty fr lb ks G cells h7 hc hr
 obtain ⟨C, hC⟩ : ∃ C : Nat, (if k = 9 then 1 else ks.length : Nat) = C := ⟨_, rfl⟩
 rw [hC] at hkd hrX
 have hkX' := fun (i : Nat) (hi : i < ks.length) (hn : i < C) => hkX i hi (by rw [hC]; exact hn)
 have h93 : k = 9 → ks.length = 3 := fun h => by rw [h] at hops; have : D9 9 = 3 := rfl; omega
 have hC1 : k = 9 → C = 1 := fun h => by rw [← hC, if_pos h]
 have hC2 : k ≠ 9 → C = ks.length := fun h => by rw [← hC, if_neg h]
 have hC9 : C ≤ ks.length := by by_cases h9 : k = 9; have := h93 h9; have := hC1 h9; omega; have := hC2 h9; omega
 generalize J3 (.mk k nm num ty fr lb ks) = R at hkX hkX' hrX ⊢
 obtain ⟨tk, tks⟩ := ty
 obtain ⟨fk, fks⟩ := fr
 obtain ⟨pt, ct, pf, cf, p, c, es, rfl, hk, hnum, hlb, hty, hfr, hsl, hkl⟩ := hr.open9
 have hn := hsl.le
 have hnc := hsl.sl.2.1
 have hes1 : ∀ u ∈ es.flatten, u.oneCell' = true := by
  intro u hu
  obtain ⟨e, he, hue⟩ := List.mem_flatten.1 hu
  exact List.all_eq_true.1 (hsl.one e he) u hue
 refine B4 Tryz.func204 rfl Tryz.ntmps204 Tryz.results204 rfl ?_
 intro w0
 refine tS (tR ?_)
 refine sE (C1 rfl rfl) rfl (fun b3 => ?_)
 refine sE (A5 rfl) rfl (fun b4 => ?_)
 refine S1 ?_
 refine sB (qE rfl rfl) rfl rfl (fun h22 => ?_) (fun h22 => ?_)
 refine sD (nS ?_)
 (show K2 _ _ (.cond (.tmp 16) _ _) _ _; refine A3h (fun (_ : Unit) => ⟨[(5, .int .i64 (C : Int)), (1, .pointer (some ⟨b3, 0, none⟩)), (2, .pointer (some ⟨b4, 0, none⟩))], [.blk b4 [.int .i64 0, .string ⟨⟨[]⟩⟩, .int .i64 0, .int .i64 0, .slice none 0 0, .int .i64 0, .slice none 0 0, .int .i64 0, .slice none 0 0], .blk b3 [.int .i64 k, .string nm, .int .i64 num, .int .i64 tk, .slice pt tks.length ct, .int .i64 fk, .slice pf fks.length cf, .int .i64 lb, .slice p ks.length c]], G⟩) (fun _ => True) (qT rfl ?_) ?_)
 refine tR (sQ (qA rfl) rfl (sD ?_))
 (have hCC := hC1 (by omega); subst hCC; refine A1n () (Q1 (by repeat (first | exact I7.nil | refine I7.cons rfl ?_)) (by repeat (first | exact A7.refl | exact A7.nil | refine A7.cons (by repeat (first | exact Pk.here | apply Pk.there)) ?_ | apply A7.drop))) trivial)
 (rintro (_ : Unit) _)
 refine tS (tS (tR (sQ (qA rfl) rfl (sD (nS ?_)))))
 refine B3 ?_
 (refine I1 (fun (i : Nat) => ⟨[(6, .int .i64 (i : Int)), (5, .int .i64 (C : Int)), (1, .pointer (some ⟨b3, 0, none⟩)), (2, .pointer (some ⟨b4, 0, none⟩))], [.blk b4 [.int .i64 0, .string ⟨⟨[]⟩⟩, .int .i64 0, .int .i64 0, .slice none 0 0, .int .i64 0, .slice none 0 0, .int .i64 0, .slice none 0 0], .blk b3 [.int .i64 k, .string nm, .int .i64 num, .int .i64 tk, .slice pt tks.length ct, .int .i64 fk, .slice pf fks.length cf, .int .i64 lb, .slice p ks.length c]], G⟩) (fun i => i ≤ C ∧ ∀ j, j < i → (h : j < ks.length) → K0 ks[j] = true) (fun i => C - i) 0 ?_ ?_ ?_)
 exact C9
 (exact ⟨Nat.zero_le _, fun j hj => absurd hj (Nat.not_lt_zero j)⟩)
 (rintro i ⟨hi, hj⟩)
 refine tS (tS (tR (sQ (qM rfl) rfl (sQ (qM rfl) rfl ?_))))
 refine sB (I2 rfl rfl) rfl rfl (fun h47 => ?_) (fun h47 => ?_)
 refine sD (nS (qT rfl (tK (nS (tS ?_)))))
 refine B3 ?_
 refine E2 ?_
 (have hiC : i < C := (by omega); obtain ⟨bx, ox, e, rfl, hl, hat, hre, hgb⟩ := hsl.kidTm hkl (i := i) (by omega) (by omega); have heo := hre.one; have hVi := A5V ks[i] G e (hkk _ (List.getElem_mem (by omega))) hre; refine sP (A8 (j := i) rfl rfl rfl (by omega)) rfl rfl ?_)
 refine sL (A0 rfl rfl (hat _) hl) rfl rfl ?_
 refine F0 rfl (hVi) rfl rfl (fun h63 => ?_) (fun h63 => ?_)
 refine D8 ?_
 refine sP (E8 rfl rfl (by omega) (by omega)) rfl rfl ?_
 refine sQ (qA rfl) rfl (sD ?_)
 refine I4 (i + 1) ?_ ?_ ?_
 exact C9
 (exact ⟨by omega, fun j hji hl2 => (by by_cases he : j = i; (subst he; assumption); exact hj j (by omega) hl2)⟩)
 (show C - (i + 1) < C - i; omega)
 refine I8 ?_
 refine sP (A8 (j := i) rfl rfl rfl (by omega)) rfl rfl ?_
 refine sL (A0 rfl rfl (hat _) hl) rfl rfl ?_
 (have hvF : K0 ks[i] = false := (by assumption); have hst := hkX' i (by omega) hiC (fun j hji hl2 => hj j hji hl2) hvF; refine D2 rfl (ih ks[i] (List.getElem_mem (by omega)) G e (hkk _ (List.getElem_mem (by omega))) hvF hre) rfl rfl (fun v G1 hle1 hh => ?_); obtain ⟨uc, hvv, hru⟩ := hh; have hul := hru.len; have huo := hru.one; generalize J3 ks[i] = r at hvv hru hst; obtain ⟨u, cc, ll⟩ := r; simp only at hvv hru hst; subst hvv)
 refine H8 ?_
 refine sE (A5 rfl) rfl (fun b97 => ?_)
 refine sS rfl rfl rfl hul huo rfl ?_ (hu := by exact D4 hul.symm)
 refine D3 ?_
 refine sB (N7 rfl rfl) rfl rfl (fun h107 => ?_) (fun h107 => ?_)
 refine A0b ?_
 refine C8 (rC rfl (A3 rfl rfl)) (rT rfl) (rT rfl) ?_
 (rw [hst, if_neg (by omega)]; exact L6.mk rfl (M1 _))
 refine D3 ?_
 refine sE (A5 rfl) rfl (fun b138 => ?_)
 refine J7 ?_
 refine sD (nS (tS (tR ?_)))
 (refine K6 (D7 rfl rfl rfl (by omega) (by unfold maxLen; omega) rfl) rfl ?_; rintro _ ⟨b144, rfl⟩)
 refine sQ (B0 rfl) rfl (sL (B9 rfl rfl) rfl rfl ?_)
 (refine A3d rfl rfl rfl rfl rfl (fun _ _ => by repeat (first | exact Sw.here | apply Sw.there)) (hsl.mono hle1).sl hes1 (Nat.zero_le _) (by unfold maxLen; omega) (by omega) rfl (fun p4 c4 => ?_); simp only [Nat.zero_add, List.nil_append]; refine A3j (cs := es.flatten) (by repeat (first | exact Pk.here | apply Pk.there)) (by omega) (fun bc Cc hpe hnc1 hcm => ?_); subst hpe)
 refine D8 ?_
 refine sL (A0 rfl rfl (A9 (by repeat first | exact mH | apply mT)) hul) rfl rfl ?_
 refine sP (A8 (j := i) rfl rfl rfl (by omega)) rfl rfl ?_
 refine S6 rfl rfl rfl hul huo rfl (by repeat first | exact Sw.here | apply Sw.there) (by exact A3k (by rw [hkl.len]; omega) (fun e he => (hsl.all e he)) hul) ?_
 refine I8 ?_
 (refine A1d (bs := [(bc, (es.set i uc).flatten ++ Cc)]) (Pk.perm (by repeat (first | exact Pk.here | apply Pk.there))) (fun hn2 hd2 hle2 => ?_))
 refine tT (rB (rS (A3z (rB (rS ?_)))))
 refine C8 (rC rfl (A3 rfl rfl)) (rT rfl) (rT rfl) ?_
 (have hks2 := C7.set (j := i) ((hkl.mono hle1).mono hle2) (hru.mono hle2); rw [hst, if_pos (by omega)]; exact L6.mk rfl (A6.put (us := ks.set i u) (es := es.set i uc) hk hnum hlb ((hty.mono hle1).mono hle2) ((hfr.mono hle1).mono hle2) (by rw [List.length_set]) (C4.of (Sl.of_blk (A := []) (by rw [Z6 hks2.all, hks2.len, List.length_set]) (by omega) hcm (Wi.in hn2 List.mem_cons_self)) (by rw [hks2.len, List.length_set]) hks2.all (fun e he => by obtain ⟨q, hq⟩ := List.getElem?_of_mem he; exact (hks2.inv hq K7).2.one)) hks2))
 refine K1 ?_
 refine sP (X9 rfl rfl (by omega)) rfl rfl ?_
 refine I8 ?_
 (have hall : ∀ i, i < C → (hl : i < ks.length) → K0 ks[i] = true := (fun j hjc hl2 => hj j (by omega) hl2); have hrd' := hrX hall; have h9 : k = 9 := (by omega); subst h9; obtain ⟨xa, xb, xc, hxs⟩ := ks3 (h93 rfl); subst hxs; rw [B4s] at hrd'; obtain ⟨bx, ox, e0, rfl, hl0, hat0, hre0, hgb0⟩ := hsl.kidTm hkl (i := 0) (by simp) (by simp); obtain ⟨_, _, e1, hp1, hl1, hat1, hre1, hgb1⟩ := hsl.kidTm hkl (i := 1) (by simp) (by simp); cases hp1; obtain ⟨_, _, e2, hp2, hl2, hat2, hre2, hgb2⟩ := hsl.kidTm hkl (i := 2) (by simp) (by simp); cases hp2; replace hre0 : A6 G xa e0 := hre0; replace hre1 : A6 G xb e1 := hre1; replace hre2 : A6 G xc e2 := hre2; have ho1 := hre1.one; have ho2 := hre2.one; obtain ⟨ak, anm, anum, ⟨atk, atks⟩, ⟨afk, afks⟩, alb, aks⟩ := xa; obtain ⟨apt, act, apf, acf, ap, ac, aes, rfl, hak, hanum, halb, haty, hafr, hasl, hakl⟩ := hre0.open9; replace hrd' : R = (if ak = 3 then (xb, 1, 0) else if ak = 4 then (xc, 1, 0) else Q3) := hrd'; refine sP (A8 (j := 0) rfl rfl rfl (by simp)) rfl rfl ?_)
 refine sQ (qF rfl) rfl ?_
 refine sL (A0g rfl rfl ((hat0 _).sub (j := 0) rfl)) rfl rfl ?_
 refine sD (nS ?_)
 refine B3 (tS (tR (sB (qE rfl rfl) rfl rfl (fun h211 => ?_) (fun h211 => ?_))))
 refine D3 ?_
 refine sP (A8 (j := 1) rfl rfl rfl (by simp)) rfl rfl ?_
 refine sL (A0 rfl rfl (hat1 _) hl1) rfl rfl ?_
 refine sS rfl rfl rfl hl1 ho1 rfl ?_ (hu := by exact D4 hl1.symm)
 refine C3 ?_
 refine C8 (rC rfl (A0 rfl rfl (A9 (by repeat first | exact mH | apply mT)) hl1)) (rT rfl) (rT rfl) ?_
 (rw [hrd', if_pos (by omega)]; exact L6.mk rfl hre1)
 refine sQ (qA rfl) rfl (sD (nS (cF rfl (tS (tR ?_)))))
 refine sB (qE rfl rfl) rfl rfl (fun h238 => ?_) (fun h238 => ?_)
 refine D3 ?_
 refine sP (A8 (j := 2) rfl rfl rfl (by simp)) rfl rfl ?_
 refine sL (A0 rfl rfl (hat2 _) hl2) rfl rfl ?_
 refine sS rfl rfl rfl hl2 ho2 rfl ?_ (hu := by exact D4 hl2.symm)
 refine C3 ?_
 refine C8 (rC rfl (A0 rfl rfl (A9 (by repeat first | exact mH | apply mT)) hl2)) (rT rfl) (rT rfl) ?_
 (rw [hrd', if_neg (by omega), if_pos (by omega)]; exact L6.mk rfl hre2)
 refine J1 ?_
 refine C8 (rC rfl (A3 rfl rfl)) (rT rfl) (rT rfl) ?_
 (rw [hrd', if_neg (by omega), if_neg (by omega)]; exact L6.mk rfl (M1 _))
 refine sD (nS ?_)
 (show K2 _ _ (.cond (.tmp 16) _ _) _ _; refine A3h (fun (_ : Unit) => ⟨[(5, .int .i64 (C : Int)), (1, .pointer (some ⟨b3, 0, none⟩)), (2, .pointer (some ⟨b4, 0, none⟩))], [.blk b4 [.int .i64 0, .string ⟨⟨[]⟩⟩, .int .i64 0, .int .i64 0, .slice none 0 0, .int .i64 0, .slice none 0 0, .int .i64 0, .slice none 0 0], .blk b3 [.int .i64 k, .string nm, .int .i64 num, .int .i64 tk, .slice pt tks.length ct, .int .i64 fk, .slice pf fks.length cf, .int .i64 lb, .slice p ks.length c]], G⟩) (fun _ => True) (cF rfl ?_) ?_)
 refine tK ?_
 (have hCC := hC2 (by omega); subst hCC; refine A1n () (Q1 (by repeat (first | exact I7.nil | refine I7.cons rfl ?_)) (by repeat (first | exact A7.refl | exact A7.nil | refine A7.cons (by repeat (first | exact Pk.here | apply Pk.there)) ?_ | apply A7.drop))) trivial)
 (rintro (_ : Unit) _)
 refine tS (tS (tR (sQ (qA rfl) rfl (sD (nS ?_)))))
 refine B3 ?_
 (refine I1 (fun (i : Nat) => ⟨[(6, .int .i64 (i : Int)), (5, .int .i64 (C : Int)), (1, .pointer (some ⟨b3, 0, none⟩)), (2, .pointer (some ⟨b4, 0, none⟩))], [.blk b4 [.int .i64 0, .string ⟨⟨[]⟩⟩, .int .i64 0, .int .i64 0, .slice none 0 0, .int .i64 0, .slice none 0 0, .int .i64 0, .slice none 0 0], .blk b3 [.int .i64 k, .string nm, .int .i64 num, .int .i64 tk, .slice pt tks.length ct, .int .i64 fk, .slice pf fks.length cf, .int .i64 lb, .slice p ks.length c]], G⟩) (fun i => i ≤ C ∧ ∀ j, j < i → (h : j < ks.length) → K0 ks[j] = true) (fun i => C - i) 0 ?_ ?_ ?_)
 exact C9
 (exact ⟨Nat.zero_le _, fun j hj => absurd hj (Nat.not_lt_zero j)⟩)
 (rintro i ⟨hi, hj⟩)
 refine tS (tS (tR (sQ (qM rfl) rfl (sQ (qM rfl) rfl ?_))))
 refine sB (I2 rfl rfl) rfl rfl (fun h299 => ?_) (fun h299 => ?_)
 refine sD (nS (qT rfl (tK (nS (tS ?_)))))
 refine B3 ?_
 refine E2 ?_
 (have hiC : i < C := (by omega); obtain ⟨bx, ox, e, rfl, hl, hat, hre, hgb⟩ := hsl.kidTm hkl (i := i) (by omega) (by omega); have heo := hre.one; have hVi := A5V ks[i] G e (hkk _ (List.getElem_mem (by omega))) hre; refine sP (A8 (j := i) rfl rfl rfl (by omega)) rfl rfl ?_)
 refine sL (A0 rfl rfl (hat _) hl) rfl rfl ?_
 refine F0 rfl (hVi) rfl rfl (fun h315 => ?_) (fun h315 => ?_)
 refine D8 ?_
 refine sP (E8 rfl rfl (by omega) (by omega)) rfl rfl ?_
 refine sQ (qA rfl) rfl (sD ?_)
 refine I4 (i + 1) ?_ ?_ ?_
 exact C9
 (exact ⟨by omega, fun j hji hl2 => (by by_cases he : j = i; (subst he; assumption); exact hj j (by omega) hl2)⟩)
 (show C - (i + 1) < C - i; omega)
 refine I8 ?_
 refine sP (A8 (j := i) rfl rfl rfl (by omega)) rfl rfl ?_
 refine sL (A0 rfl rfl (hat _) hl) rfl rfl ?_
 (have hvF : K0 ks[i] = false := (by assumption); have hst := hkX' i (by omega) hiC (fun j hji hl2 => hj j hji hl2) hvF; refine D2 rfl (ih ks[i] (List.getElem_mem (by omega)) G e (hkk _ (List.getElem_mem (by omega))) hvF hre) rfl rfl (fun v G1 hle1 hh => ?_); obtain ⟨uc, hvv, hru⟩ := hh; have hul := hru.len; have huo := hru.one; generalize J3 ks[i] = r at hvv hru hst; obtain ⟨u, cc, ll⟩ := r; simp only at hvv hru hst; subst hvv)
 refine H8 ?_
 refine sE (A5 rfl) rfl (fun b349 => ?_)
 refine sS rfl rfl rfl hul huo rfl ?_ (hu := by exact D4 hul.symm)
 refine D3 ?_
 refine sB (N7 rfl rfl) rfl rfl (fun h359 => ?_) (fun h359 => ?_)
 refine A0b ?_
 refine C8 (rC rfl (A3 rfl rfl)) (rT rfl) (rT rfl) ?_
 (rw [hst, if_neg (by omega)]; exact L6.mk rfl (M1 _))
 refine D3 ?_
 refine sE (A5 rfl) rfl (fun b390 => ?_)
 refine J7 ?_
 refine sD (nS (tS (tR ?_)))
 (refine K6 (D7 rfl rfl rfl (by omega) (by unfold maxLen; omega) rfl) rfl ?_; rintro _ ⟨b396, rfl⟩)
 refine sQ (B0 rfl) rfl (sL (B9 rfl rfl) rfl rfl ?_)
 (refine A3d rfl rfl rfl rfl rfl (fun _ _ => by repeat (first | exact Sw.here | apply Sw.there)) (hsl.mono hle1).sl hes1 (Nat.zero_le _) (by unfold maxLen; omega) (by omega) rfl (fun p4 c4 => ?_); simp only [Nat.zero_add, List.nil_append]; refine A3j (cs := es.flatten) (by repeat (first | exact Pk.here | apply Pk.there)) (by omega) (fun bc Cc hpe hnc1 hcm => ?_); subst hpe)
 refine D8 ?_
 refine sL (A0 rfl rfl (A9 (by repeat first | exact mH | apply mT)) hul) rfl rfl ?_
 refine sP (A8 (j := i) rfl rfl rfl (by omega)) rfl rfl ?_
 refine S6 rfl rfl rfl hul huo rfl (by repeat first | exact Sw.here | apply Sw.there) (by exact A3k (by rw [hkl.len]; omega) (fun e he => (hsl.all e he)) hul) ?_
 refine I8 ?_
 (refine A1d (bs := [(bc, (es.set i uc).flatten ++ Cc)]) (Pk.perm (by repeat (first | exact Pk.here | apply Pk.there))) (fun hn2 hd2 hle2 => ?_))
 refine tT (rB (rS (A3z (rB (rS ?_)))))
 refine C8 (rC rfl (A3 rfl rfl)) (rT rfl) (rT rfl) ?_
 (have hks2 := C7.set (j := i) ((hkl.mono hle1).mono hle2) (hru.mono hle2); rw [hst, if_pos (by omega)]; exact L6.mk rfl (A6.put (us := ks.set i u) (es := es.set i uc) hk hnum hlb ((hty.mono hle1).mono hle2) ((hfr.mono hle1).mono hle2) (by rw [List.length_set]) (C4.of (Sl.of_blk (A := []) (by rw [Z6 hks2.all, hks2.len, List.length_set]) (by omega) hcm (Wi.in hn2 List.mem_cons_self)) (by rw [hks2.len, List.length_set]) hks2.all (fun e he => by obtain ⟨q, hq⟩ := List.getElem?_of_mem he; exact (hks2.inv hq K7).2.one)) hks2))
 refine K1 ?_
 refine sP (A0i rfl rfl (by omega)) rfl rfl ?_
 refine sD (nS (qT rfl (tS (tR (sL (A3 rfl rfl) rfl rfl ?_)))))
 (have hall : ∀ i, i < C → (hl : i < ks.length) → K0 ks[i] = true := (fun j hjc hl2 => hj j (by omega) hl2); have hk8 := hkd hall; have hrd' := hrX hall; refine D2 rfl (hRd (by omega)) rfl rfl (fun v G1 hle1 hh => ?_); obtain ⟨uc, rfl, hru⟩ := hh; have hul := hru.len; have huo := hru.one)
 refine J2 ?_
 refine sS rfl rfl rfl hul huo rfl ?_ (hu := by exact D4 hul.symm)
 refine sQ (qA rfl) rfl (sQ (qA rfl) rfl (sD (nS (tT (rS ?_)))))
 refine C8 (rC rfl (A0 rfl rfl (A9 (by repeat first | exact mH | apply mT)) hul)) (rT rfl) (rT rfl) ?_
 (rw [hrd']; exact ⟨rfl, _, rfl, hru⟩)
theorem B4u {t : Tm} (h : P7 t = true) : (J3 t).1.small ∧ D1 (J3 t).1 ≤ 40300 := by
 obtain ⟨h1, h2⟩ := A2H h
 have := B14 t (A2c t h1) h2
 exact ⟨this.1, by omega⟩
theorem B4v (t : Tm) (G : IM) (cells : List Value) (hcnt : D1 t ≤ 4294967296) (hr : A6 G t cells) : Fn Tryz.prog 149 [.agg ⟨cells⟩] [] G (L6 (J0 t)) := by
 have hRl := hr.len
 have hRo := hr.one
 have hV := A7t t G cells hcnt hr
 have e1 := @A5v t
 have e2 := @A5w t
 have e3 := @A5x t
 have e4 := @A5y t
 have e5 := @A5z t
 have hsc := @B4u t
 refine B4 Tryz.func149 rfl Tryz.ntmps149 Tryz.results149 rfl ?_
 intro w0
 refine tS (tR ?_)
 refine sE (C1 rfl rfl) rfl (fun b3 => ?_)
 refine sE (A5 rfl) rfl (fun b4 => ?_)
 refine C3 ?_
 refine sL (A0 rfl rfl (A9 (by repeat first | exact mH | apply mT)) hRl) rfl rfl ?_
 refine F0 rfl (hV) rfl rfl (fun h13 => ?_) (fun h13 => ?_)
 refine D8 ?_
 refine sL (A0 rfl rfl (A9 (by repeat first | exact mH | apply mT)) hRl) rfl rfl ?_
 refine F0 rfl ((A5V t G cells (A2H (by assumption)).1 hr)) rfl rfl (fun h24 => ?_) (fun h24 => ?_)
 refine sD (nS (qT rfl (tS (tR ?_))))
 refine sL (A0 rfl rfl (A9 (by repeat first | exact mH | apply mT)) hRl) rfl rfl ?_
 (refine D2 rfl (A3g t G cells (A4h (by assumption)) hr) rfl rfl (fun v G1 hle1 hh => ?_); obtain ⟨cs1, F1, rfl, hs1, hn1⟩ := hh; have hul := hs1.R.len; have huo := hs1.R.one)
 refine sS rfl rfl rfl hul huo rfl ?_ (hu := by exact D4 hul.symm)
 refine sQ (qA rfl) rfl (sQ (qA rfl) rfl (sD (nS (tT (rS ?_)))))
 refine C8 (rC rfl (A0 rfl rfl (A9 (by repeat first | exact mH | apply mT)) hul)) (rT rfl) (rT rfl) ?_
 (exact L6.mk (e2 (by assumption) (by assumption)) (hs1.R.mono (B2.le _ _)))
 refine sD (nS (cF rfl (tK (nS (tS (tR ?_))))))
 refine sL (A0 rfl rfl (A9 (by repeat first | exact mH | apply mT)) hRl) rfl rfl ?_
 (have hcv : P7 t = true := (by assumption); have hnv : K0 t = false := (by assumption); obtain ⟨hsc1, hsc2⟩ := hsc hcv; replace e3 := e3 hcv hnv; replace e4 := e4 hcv hnv; replace e5 := e5 hcv hnv; refine D2 rfl (B4t t G cells (A2H hcv).1 hnv hr) rfl rfl (fun v G1 hle1 hh => ?_); obtain ⟨uc, hvv, hru⟩ := hh; have hul := hru.len; have huo := hru.one; generalize J3 t = r at hvv hru hsc1 hsc2 e3 e4 e5; obtain ⟨u, cc, ll⟩ := r; simp only at hvv hru hsc1 hsc2 e3 e4 e5; subst hvv; have hVu := A7t u G1 uc (by omega) hru)
 refine H8 ?_
 refine sE (A5 rfl) rfl (fun b54 => ?_)
 refine sS rfl rfl rfl hul huo rfl ?_ (hu := by exact D4 hul.symm)
 refine D3 ?_
 refine sB (N7 rfl rfl) rfl rfl (fun h64 => ?_) (fun h64 => ?_)
 refine H3 ?_
 refine C8 (rC rfl (A3 rfl rfl)) (rT rfl) (rT rfl) ?_
 (exact L6.mk (e3 (by omega)) (M1 _))
 refine sD (nS (cF rfl (tK (nS (tS (tS (tR ?_)))))))
 refine sL (A0 rfl rfl (A9 (by repeat first | exact mH | apply mT)) hul) rfl rfl ?_
 refine F0 rfl (hVu) rfl rfl (fun h91 => ?_) (fun h91 => ?_)
 refine sQ (U0 rfl) rfl (sD (nS (cF rfl (tK (nS (tS (tR ?_)))))))
 refine sL (A0 rfl rfl (A9 (by repeat first | exact mH | apply mT)) hul) rfl rfl ?_
 (refine D2 rfl (A3g u G1 uc hsc1 hru) rfl rfl (fun v G2 hle2 hh => ?_); obtain ⟨cs2, F2, rfl, hs2, hn2⟩ := hh; have hwl := hs2.R.len; have hwo := hs2.R.one)
 refine sS rfl rfl rfl hwl hwo rfl ?_ (hu := by exact D4 hwl.symm)
 refine sQ (qA rfl) rfl (sQ (qA rfl) rfl (sD (nS (tT ?_))))
 refine C8 (rC rfl (A0 rfl rfl (A9 (by repeat first | exact mH | apply mT)) hwl)) (rT rfl) (rT rfl) ?_
 (exact L6.mk (e5 (by omega) (by assumption)) (hs2.R.mono (B2.le _ _)))
 refine L5 ?_
 refine C8 (rC rfl (A3 rfl rfl)) (rT rfl) (rT rfl) ?_
 (exact L6.mk (e4 (by omega) (by assumption)) (M1 _))
 refine L5 ?_
 refine C8 (rC rfl (A3 rfl rfl)) (rT rfl) (rT rfl) ?_
 (exact L6.mk (e1 (by assumption)) (M1 _))
theorem B4w {m i : Nat} {e : Tm} (h : (J0 e).2.1 ≠ 1) : Z8 i (R2 m e) = ((J0 e).1, (J0 e).2.1, (J0 e).2.2, i) := by
 cases m with
 | zero => rw [R2, if_neg h]; simp [Z8]
 | succ m => rw [R2, if_neg h]; simp [Z8]
theorem B4x {m i : Nat} {e : Tm} (h : (J0 e).2.1 = 1) (hm : m = 0) : Z8 i (R2 m e) = (K7, 5, 0, i) := by
 subst hm; rw [R2, if_pos h]; simp [Z8]
theorem B4y {m i : Nat} {e : Tm} (h : (J0 e).2.1 = 1) (hm : 0 < m) : Z8 i (R2 m e) = Z8 (i + 1) (R2 (m - 1) (J0 e).1) := by
 obtain ⟨k, rfl⟩ : ∃ k, m = k + 1 := ⟨m - 1, by omega⟩
 rw [R2, if_pos h]; simp only [Z8, Nat.add_sub_cancel, Nat.add_assoc, Nat.add_comm 1 i]
theorem B4z (e : Tm) (n : Nat) (hn : n ≤ 300) (G : IM) (cells : List Value) (hcnt : D1 e ≤ 4294967296) (hr : A6 G e cells) : Fn Tryz.prog 104 [.agg ⟨cells⟩, .int .i64 (n : Int)] [] G (EvP (R2 n e)) := by
 have hRl := hr.len
 have hRo := hr.one
 refine B4 Tryz.func104 rfl Tryz.ntmps104 Tryz.results104 rfl ?_
 intro w0
 refine tS (tR ?_)
 refine sE (C1 rfl rfl) rfl (fun b3 => ?_)
 refine sE (A5 rfl) rfl (fun b4 => ?_)
 refine I8 ?_
 refine B3 ?_
 (refine I1 (fun (x : Nat × Tm × List Value × IM) => ⟨[(8, .int .i64 (x.1 : Int)), (1, .int .i64 (n : Int)), (2, .pointer (some ⟨b3, 0, none⟩)), (4, .pointer (some ⟨b4, 0, none⟩))], [.blk b3 x.2.2.1, .blk b4 [.int .i64 0, .string ⟨⟨[]⟩⟩, .int .i64 0, .int .i64 0, .slice none 0 0, .int .i64 0, .slice none 0 0, .int .i64 0, .slice none 0 0]], x.2.2.2⟩) (fun x => x.1 ≤ n ∧ B7 G x.2.2.2 ∧ A6 x.2.2.2 x.2.1 x.2.2.1 ∧ D1 x.2.1 ≤ 4294967296 ∧ Z8 x.1 (R2 (n - x.1) x.2.1) = R2 n e) (fun x => n - x.1) (0, e, cells, G) ?_ ?_ ?_)
 (simp only [H5]; exact C9)
 (exact ⟨Nat.zero_le _, B7.refl _, hr, hcnt, rfl⟩)
 (rintro ⟨i, u, uc, Gi⟩ ⟨hi, hle, hru, hcu, hev⟩; simp only [] at hi hle hru hcu hev ⊢; have hul := hru.len; have huo := hru.one)
 refine tS ?_
 refine B3 ?_
 refine tS (tR ?_)
 refine sL (A0 rfl rfl (A9 (by repeat first | exact mH | apply mT)) hul) rfl rfl ?_
 (refine D2 rfl (B4v u Gi uc hcu hru) rfl rfl (fun v G1 hle1 hh => ?_); obtain ⟨wc, hv, hrw⟩ := hh; have hwl := hrw.len; have hwo := hrw.one; have hend := @B4w (n - i) i u; have hmu := @B4x (n - i) i u; have hgo := @B4y (n - i) i u; have hval := @B2O u; generalize J0 u = r at hv hrw hend hmu hgo hval; obtain ⟨w, c, l⟩ := r; simp only at hv hrw hend hmu hgo hval; subst hv)
 refine H8 ?_
 refine sE (A5 rfl) rfl (fun b30 => ?_)
 refine sS rfl rfl rfl hwl hwo rfl ?_ (hu := by exact D4 hwl.symm)
 refine D3 ?_
 refine sB (N7 rfl rfl) rfl rfl (fun h40 => ?_) (fun h40 => ?_)
 refine sD (nS (qT rfl (tS (tR ?_))))
 refine sL (A0 rfl rfl (A9 (by repeat first | exact mH | apply mT)) hwl) rfl rfl ?_
 refine sQ (qM rfl) rfl (sQ (qM rfl) rfl (sQ (qM rfl) rfl ?_))
 refine sS rfl rfl rfl hwl hwo rfl ?_ (hu := by exact D4 hwl.symm)
 refine F8 ?_
 refine A4i (rC rfl (A0 rfl rfl (A9 (by repeat first | exact mH | apply mT)) hwl)) (rT rfl) (rT rfl) (rT rfl) ?_
 (exact EvP.mk (by rw [← hev]; exact hend (by omega)) hrw)
 refine I8 ?_
 refine sB (qE rfl rfl) rfl rfl (fun h74 => ?_) (fun h74 => ?_)
 refine A0k ?_
 refine A4i (rC rfl (A3 rfl rfl)) (rT rfl) (rT rfl) (rT rfl) ?_
 (exact EvP.mk (by rw [← hev]; exact hmu (by omega) (by omega)) (M1 _))
 refine sD (nS (cF rfl (tK (nS (tR ?_)))))
 refine sL (A0 rfl rfl (A9 (by repeat first | exact mH | apply mT)) hwl) rfl rfl ?_
 refine S6 rfl rfl rfl hwl hwo rfl (by repeat first | exact Sw.here | apply Sw.there) (by exact D4 (hul.trans hwl.symm)) ?_
 refine sD (P4 (nS (tR (sQ (qM rfl) rfl ?_))))
 refine sP (E8 rfl rfl (by omega) (by omega)) rfl rfl ?_
 refine sQ (qA rfl) rfl (sD ?_)
 refine I4 (i + 1, w, wc, G1) ?_ ?_ ?_
 (simp only [H5]; exact C9)
 (dsimp only; exact ⟨by omega, hle.trans hle1, hrw, by have := B0z (hval (by omega)); omega, by rw [← hev, hgo (by omega) (by omega), show n - (i + 1) = n - i - 1 by omega]⟩)
 (show n - (i + 1) < n - i; omega)
def B5h (G : IM) : Prop := ∃ g, Tryz.prog.globalNamed "internal/strconv.uint64pow10" = some g ∧ G g = some (Lib.pow10Tab.map fun z => Value.int .u64 z)
inductive MV where
 | mk (k num : Int) (env parts : List MV)
def MV.k : MV → Int | .mk k _ _ _ => k
def MV.num : MV → Int | .mk _ n _ _ => n
def MV.env : MV → List MV | .mk _ _ e _ => e
def MV.parts : MV → List MV | .mk _ _ _ p => p
def mv0 : MV := .mk 0 0 [] []
mutual
def RMv (kc : Int → Int) (G : IM) : MV → List Value → Prop
 | .mk k num env parts, cells => ∃ p c es q d fs, cells = [.int .i64 (kc k), .int .i64 num, .slice p env.length c, .slice q parts.length d] ∧ H1 num ∧ H1 (kc k) ∧ C4 G p env.length c 4 es ∧ A2V kc G env es ∧ C4 G q parts.length d 4 fs ∧ A2V kc G parts fs
def A2V (kc : Int → Int) (G : IM) : List MV → List (List Value) → Prop
 | [], es => es = []
 | t :: ts, es => ∃ a r, es = a :: r ∧ RMv kc G t a ∧ A2V kc G ts r
end
section
variable {kc : Int → Int} {G : IM}
end

def RFr (kc : Int → Int) (G : IM) (f : Int × List MV) (cells : List Value) : Prop := ∃ p c es, cells = [.int .i64 f.1, .slice p f.2.length c] ∧ H1 f.1 ∧ C4 G p f.2.length c 4 es ∧ A2V kc G f.2 es
def A9t (kc : Int → Int) (G : IM) : List (Int × List MV) → List (List Value) → Prop
 | [], es => es = []
 | t :: ts, es => ∃ a r, es = a :: r ∧ RFr kc G t a ∧ A9t kc G ts r
section
variable {kc : Int → Int} {G : IM}
end

structure MSt where
 at' : Int
 st : List MV
 env : List MV
 fr : List (Int × List MV)
def RSs (kc : Int → Int) (G : IM) (s : MSt) (cells : List Value) : Prop := ∃ pe ce ps cs pf cf ee es ef, cells = [.int .i64 s.at', .slice pe s.env.length ce, .slice ps s.st.length cs, .slice pf s.fr.length cf] ∧ H1 s.at' ∧
 C4 G pe s.env.length ce 4 ee ∧ A2V kc G s.env ee ∧ C4 G ps s.st.length cs 4 es ∧ A2V kc G s.st es ∧ C4 G pf s.fr.length cf 2 ef ∧ A9t kc G s.fr ef
def A4q (k : Int) : Nat := if k = 6 ∨ k = 7 ∨ k = 8 ∨ k = 11 then 2 else if k = 9 ∨ k = 12 ∨ k = 13 then 1 else 0
def A5X (k : Int) : Int × Nat × Int := if k = 6 then (2, 1, 1) else if k = 7 ∨ k = 8 then (0, 2, 2) else if k = 9 then (1, 1, 3) else if k = 12 ∨ k = 13 then (3, 1, 4) else (0, 0, 0)
def A1O (s : MSt) (v : MV) : MSt := { s with st := s.st ++ [v] }
def mGo (k a : Int) (s : MSt) (v : List MV) : MSt ⊕ (Int × Int) :=
 if k = 1 then .inl (A1O s (.mk 0 a [] []))
 else if k = 2 then .inl (A1O s (.mk 1 a [] []))
 else if k = 3 then (if (s.env.length : Int) - 1 - a < 0 then .inr (3, 0) else .inl (A1O s (s.env.getD ((s.env.length : Int) - 1 - a).toNat mv0)))
 else if k = 4 then .inl { A1O s (.mk 2 s.at' s.env []) with at' := s.at' + a }
 else if k = 5 then (if s.fr.length = 0 then .inr (3, 0) else .inl { s with at' := (s.fr.getD (s.fr.length - 1) (0, [])).1, env := (s.fr.getD (s.fr.length - 1) (0, [])).2, fr := s.fr.take (s.fr.length - 1) })
 else if k = 6 then .inl { s with at' := (v.getD 0 mv0).num, env := (v.getD 0 mv0).env ++ [v.getD 1 mv0], fr := s.fr ++ [(s.at', s.env)] }
 else if k = 7 then .inl (A1O s (.mk 0 (((v.getD 0 mv0).num + (v.getD 1 mv0).num) % 1000) [] []))
 else if k = 8 then .inl (A1O s (.mk 1 (if (v.getD 0 mv0).num < (v.getD 1 mv0).num then 1 else 0) [] []))
 else if k = 9 then .inl (if (v.getD 0 mv0).num = 0 then { s with at' := s.at' + a } else s)
 else if k = 10 then .inl { s with at' := s.at' + a }
 else if k = 11 then .inl (A1O s (.mk 3 0 [] v))
 else .inl (A1O s ((v.getD 0 mv0).parts.getD (k - 12).toNat mv0))
def B4A (k : Int) (v : List MV) : Bool := (v.take (A5X k).2.1).all fun u => decide (u.k = (A5X k).1)
def B4B (k a : Int) (s : MSt) : MSt ⊕ (Int × Int) :=
 if s.st.length < A4q k then .inr (3, 0)
 else if B4A k (s.st.drop (s.st.length - A4q k)) = true then mGo k a { s with at' := s.at' + 1, st := s.st.take (s.st.length - A4q k) } (s.st.drop (s.st.length - A4q k))
 else .inr (2, (A5X k).2.2)
def B4C (v : MV) : ByteArray := if v.k = 0 then ⟨(Lib.decDigits v.num.toNat).toArray⟩ else if v.k = 1 then (if v.num = 0 then ⟨#[70]⟩ else ⟨#[84]⟩) else if v.k = 2 then ⟨⟨[102, 117, 110, 99, 116, 105, 111, 110]⟩⟩ else ⟨⟨[112, 97, 105, 114]⟩⟩
def B4D (s : MSt) : ByteArray × Int × Int := if s.st.length ≠ 1 ∨ 0 < s.fr.length then (⟨#[]⟩, 3, 0) else (B4C (s.st.getD 0 mv0), 0, 0)
def A9u (ops : List (Int × Int)) : Nat → MSt → ByteArray × Int × Int
 | t, s => if (ops.length : Int) ≤ s.at' then B4D s else match t with
  | 0 => (⟨#[]⟩, 5, 0)
  | t + 1 => match B4B (ops.getD s.at'.toNat (0, 0)).1 (ops.getD s.at'.toNat (0, 0)).2 s with
   | .inl s' => A9u ops t s'
   | .inr (c, e) => (⟨#[]⟩, c, e)
def B4E (k behind : Int) : Int := if k = 1 then 999 else if k = 2 then 1 else if k = 3 then 11 else if k = 4 ∨ k = 9 ∨ k = 10 then behind else 0
def B4F (n : Nat) (i : Nat) (x : Int × Int) : Bool := decide (1 ≤ x.1 ∧ x.1 ≤ 13 ∧ 0 ≤ x.2 ∧ x.2 ≤ B4E x.1 ((n : Int) - 1 - i))
def B4G (ops : List (Int × Int)) : Bool := decide (1 ≤ ops.length ∧ ops.length ≤ 120) && (List.range ops.length).all fun i => B4F ops.length i (ops.getD i (0, 0))
def B5i (ops : List (Int × Int)) (ticks : Int) : ByteArray × Int × Int :=
 if B4G ops = true ∧ 0 ≤ ticks ∧ ticks ≤ 2000 then A9u ops ticks.toNat ⟨0, [], [], []⟩ else (⟨#[]⟩, 3, 0)
def B5j (e : Tm) (fuel : Int) : Option (List Int) := if R4 fuel 0 300 = true then (W5 e).map (List.map fun x => (A5H x fuel).2.1) else none
theorem A9v {l : List Int} {i : Nat} (h : i < l.length) : l.getD i 0 = l[i] := by
 rw [List.getD_eq_getElem?_getD, List.getElem?_eq_getElem h]; rfl
theorem B4H {e : Tm} {fuel : Int} (h : 0 ≤ fuel) (h2 : fuel ≤ 300) : A0R e fuel = ((R2 fuel.toNat e).2.2.2 : Int) := by
 unfold A0R; rw [if_pos ⟨h, h2⟩]
theorem B4I {e : Tm} {fuel : Int} (h : fuel < 0 ∨ 300 < fuel) : A0R e fuel = 0 := by
 unfold A0R; rw [if_neg (by omega)]
theorem B4J (e : Tm) (fuel : Int) (G : IM) (cells : List Value) (hcnt : D1 e ≤ 4294967296) (hr : A6 G e cells) : Fn Tryz.prog 64 [.agg ⟨cells⟩, .int .i64 fuel] [] G (J8 fun _ v => v = .int .i64 (A0R e fuel)) := by
 have hRl := hr.len
 have hRo := hr.one
 have hno := @B4I e fuel
 have hye := @B4H e fuel
 refine B4 Tryz.func64 rfl Tryz.ntmps64 Tryz.results64 rfl ?_
 intro w0
 refine tS (tR ?_)
 refine sE (C1 rfl rfl) rfl (fun b3 => ?_)
 refine C3 ?_
 refine sB (I2 rfl rfl) rfl rfl (fun h11 => ?_) (fun h11 => ?_)
 refine H3 ?_
 (exact ⟨rfl, by rw [hno (by omega)]⟩)
 refine sQ (qM rfl) rfl (sQ (qM rfl) rfl ?_)
 refine sB (A0W rfl rfl) rfl rfl (fun h30 => ?_) (fun h30 => ?_)
 refine J9 ?_
 (exact ⟨rfl, by rw [hno (by omega)]⟩)
 refine D3 ?_
 refine sL (A0 rfl rfl (A9 (by repeat first | exact mH | apply mT)) hRl) rfl rfl ?_
 refine sQ (qM rfl) rfl ?_
 (have hE := B4z e fuel.toNat (by omega) G cells hcnt hr; rw [Int.toNat_of_nonneg (by omega)] at hE; have hye2 := hye (by omega) (by omega); refine D2 rfl hE rfl rfl (fun v G1 hle1 hh => ?_); obtain ⟨wc, hv, hrw⟩ := hh; have hwl := hrw.len; have hwo := hrw.one; generalize R2 fuel.toNat e = r at hv hrw hye2; obtain ⟨w, c, l, i⟩ := r; simp only at hv hrw hye2; subst hv)
 refine O8 ?_
 refine sE (A5 rfl) rfl (fun b60 => ?_)
 refine sS rfl rfl rfl hwl hwo rfl ?_ (hu := by exact D4 hwl.symm)
 refine K1 ?_
 (exact ⟨rfl, by rw [hye2]⟩)
theorem A9w (t : Tm) (fuel : Int) (G : IM) (cells : List Value) (hts : t.small) (hcnt : D1 t ≤ 4000000) (hr : A6 G t cells) :
  Fn Tryz.prog 21 [.agg ⟨cells⟩, .int .i64 fuel] [] G (IsP ((S0 t fuel).getD []) (S0 t fuel).isSome G) := by
 have hl := hr.len
 have hone := hr.one
 have hvv := @B3X t
 have hno : ¬ ((Q8 t).isSome = true ∧ (V8 t).length ≤ 6 ∧ 0 ≤ fuel ∧ fuel ≤ 300) → S0 t fuel = none := fun h => by
  unfold S0
  split
  ·rename_i hw
   unfold W5
   rw [if_neg (fun hc => h ⟨hc.1, by rw [A2n (hvv hc.1)]; exact hc.2, A2G.1 hw⟩)]; rfl
  ·rfl
 have hyes : (Q8 t).isSome = true ∧ (V8 t).length ≤ 6 ∧ 0 ≤ fuel ∧ fuel ≤ 300 → S0 t fuel = some ((List.range (2 ^ (V8 t).length)).map fun m => A1N (X7 t m) fuel) := fun h => by
  unfold S0 W5
  rw [if_pos (A2G.2 h.2.2), if_pos ⟨h.1, by rw [← A2n (hvv h.1)]; exact h.2.1⟩, A2n (hvv h.1)]
  simp [A3v, Function.comp_def]
 have hF := B31 t fuel G cells hts hcnt hr
 obtain ⟨Q, hQ⟩ : ∃ Q, decide ((Q8 t).isSome = true ∧ (V8 t).length ≤ 6 ∧ 0 ≤ fuel ∧ fuel ≤ 300) = Q := ⟨_, rfl⟩
 rw [hQ] at hF
 have hBl : Q = true → ∀ (m : Nat) (G : IM) (cells : List Value), m < 2 ^ (V8 t).length → A6 G t cells → Fn Tryz.prog 62 [.agg ⟨cells⟩, .int .i64 (m : Int)] [] G (J8 fun G' v => ∃ cu, v = .tuple ⟨[.agg ⟨cu⟩, .bool true]⟩ ∧ A6 G' (X7 t m) cu) := fun h m G cells hm hr => by
  have hc := of_decide_eq_true (hQ.trans h)
  have hv := hvv hc.1
  have h6 := hc.2.1
  rw [A2n hv] at hm h6
  have : 2 ^ (I5 t).length ≤ 2 ^ 6 := Nat.pow_le_pow_right (by decide) h6
  exact B30 t m G cells hv (by omega) hm (by omega) hr
 have hbc : ∀ m, D1 (X7 t m) ≤ 4294967296 := fun m => by
  have h0 := (A9h t (R6 m 0 (I5 t)) hts (fun u hu => by rcases A3u m (I5 t) 0 u hu with rfl | hu; exact A5K; exact A4k t hts u hu)).2
  unfold X7; omega
 generalize S0 t fuel = R at *
 refine B4 Tryz.func21 rfl Tryz.ntmps21 Tryz.results21 rfl ?_
 intro w0
 refine tS (tR ?_)
 refine sE (C1 rfl rfl) rfl (fun b3 => ?_)
 refine sQ (qA rfl) rfl (sQ (qA rfl) rfl (sD (nS (tS (tR ?_)))))
 (refine K6 (D7 rfl rfl rfl (by omega) (by unfold maxLen; omega) rfl) rfl ?_; rintro _ ⟨b10, rfl⟩)
 refine sQ (qA rfl) rfl (sD (nS (tS (tS (tR ?_)))))
 refine sL (A0 rfl rfl (A9 (by repeat first | exact mH | apply mT)) hl) rfl rfl ?_
 refine sQ (qM rfl) rfl ?_
 (refine D2 rfl hF rfl rfl (fun v1 G1 hle1 hh => ?_); subst hh; replace hr := hr.mono hle1; cases Q)
 refine F8 ?_
 (have hno2 := hno (of_decide_eq_false hQ); refine H7 (by repeat (first | exact Pk.here | apply Pk.there)) (fun G5 hle5 hsl5 hno5 => ?_))
 refine tT (rS ?_)
 refine E5 (rT rfl) (rT rfl) ?_
 (exact IsP.mk (l := []) (by rw [hno2]; rfl) (by rw [hno2]; rfl) rfl ⟨by simpa [N3] using hsl5.dif (fun b hb => (hno5 b hb).1) hle1, fun b hb => A4Q hle1 (hno5 b hb)⟩)
 refine J9 ?_
 refine B3 ?_
 (have hc := of_decide_eq_true hQ; have hy2 := hyes hc; have hBt := hBl rfl; have hlen6 := hc.2.1; have hC := fun G cells hr => A9b t G cells hts hcnt hr; generalize (V8 t).length = N1 at *; have hp64 : 2 ^ N1 ≤ 2 ^ 6 := Nat.pow_le_pow_right (by decide) hlen6; refine I1 (fun (x : Nat × Option Addr × Nat × IM) => ⟨[(7, .int .i64 x.1), (6, .slice x.2.1 x.1 x.2.2.1), (1, .int .i64 fuel), (2, .pointer (some ⟨b3, 0, none⟩))], [.slc x.2.1 x.2.2.1 3 1 x.1 (N3 ((List.range x.1).map fun m => A1N (X7 t m) fuel)), .blk b3 cells], x.2.2.2⟩) (fun x => x.1 ≤ 2 ^ N1 ∧ B7 G1 x.2.2.2) (fun x => 2 ^ N1 - x.1) (0, some ⟨b10, 0, none⟩, 0, G1) ?_ ?_ ?_)
 (simp only [H5]; exact C9)
 (exact ⟨Nat.zero_le _, B7.refl _⟩)
 (rintro ⟨(i : Nat), pn, cn, Gi⟩ ⟨hi, hle⟩; simp only [] at hi hle ⊢; replace hr := hr.mono hle)
 refine tS (tS (tR (sQ (qM rfl) rfl ?_)))
 refine sL (A0 rfl rfl (A9 (by repeat first | exact mH | apply mT)) hl) rfl rfl ?_
 (refine D2 rfl (hC _ cells hr) rfl rfl (fun v2 G2 hle2 hh => ?_); subst hh; replace hr := hr.mono hle2)
 refine sP (A5J rfl rfl (by omega)) rfl rfl ?_
 refine sB (I2 rfl rfl) rfl rfl (fun h60 => ?_) (fun h60 => ?_)
 refine sD (nS (qT rfl (tK (nS (tS ?_)))))
 refine B3 ?_
 refine tS (tR ?_)
 refine sL (A0 rfl rfl (A9 (by repeat first | exact mH | apply mT)) hl) rfl rfl ?_
 refine sQ (qM rfl) rfl ?_
 (refine D2 rfl (hBt i _ cells (by omega) hr) rfl rfl (fun v3 G3 hle3 hh => ?_); obtain ⟨cu, rfl, hru⟩ := hh; have hul := hru.len; have huo := hru.one; have hI := B3S (X7 t i) G3 cu (hbc i) hru)
 refine J2 ?_
 refine sE (A5 rfl) rfl (fun b76 => ?_)
 refine sS rfl rfl rfl hul huo rfl ?_ (hu := by exact D4 hul.symm)
 refine sQ (qA rfl) rfl (sD (nS (tS (tR ?_))))
 refine sL (A0 rfl rfl (A9 (by repeat first | exact mH | apply mT)) hul) rfl rfl ?_
 (refine D2 rfl hI rfl rfl (fun v5 G5 hle5 hh => ?_); obtain ⟨cz, ct, rfl, hrz, hrt⟩ := hh; obtain ⟨qt, dt, et2, rfl, _⟩ := hrt.open; have hlz := hrz.len; have hoz := hrz.one; have hcz := B32 (X7 t i); have hCS := B4J _ fuel G5 cz (by omega) hrz)
 refine H8 ?_
 refine sE (A5 rfl) rfl (fun b89 => ?_)
 refine sE (A5 rfl) rfl (fun b90 => ?_)
 refine sS rfl rfl rfl hlz hoz rfl ?_ (hu := by exact D4 hlz.symm)
 refine J7 ?_
 refine sQ (qA rfl) rfl (sD (nS (tR (sQ (qM rfl) rfl ?_))))
 refine sL (A0 rfl rfl (A9 (by repeat first | exact mH | apply mT)) hlz) rfl rfl ?_
 refine sQ (qM rfl) rfl ?_
 (refine D2 rfl hCS rfl rfl (fun v4 G4 hle4 hh => ?_); subst hh)
 (refine K6 (D7 rfl rfl rfl (by omega) (by unfold maxLen; omega) rfl) rfl ?_; rintro _ ⟨b101, rfl⟩)
 (refine Z5 rfl rfl rfl rfl rfl (fun _ _ => by repeat (first | exact Sw.here | apply Sw.there)) (N8 (by repeat first | exact mH | apply mT)) rfl (by simp [Value.oneCell']) (by unfold maxLen; omega) (by omega) rfl (fun p8 c8 => ?_))
 refine E2 ?_
 refine sP (E8 rfl rfl (by omega) (by omega)) rfl rfl ?_
 refine sQ (qA rfl) rfl (sD ?_)
 (refine I4 (i + 1, p8, c8, G4) (by rw [A80, A6E]; exact (Q1 (by repeat (first | exact I7.nil | refine I7.cons rfl ?_)) (by repeat (first | exact A7.refl | exact A7.nil | refine A7.cons (by repeat (first | exact Pk.here | apply Pk.there)) ?_ | apply A7.drop)))) ?_ ?_)
 (dsimp only; exact ⟨by omega, hle.trans (hle2.trans (hle3.trans (hle5.trans hle4)))⟩)
 (show 2 ^ N1 - (i + 1) < 2 ^ N1 - i; omega)
 refine H3 ?_
 (obtain rfl : i = 2 ^ N1 := (by omega); refine H7 (cs := N3 ((List.range (2 ^ N1)).map fun m => A1N (X7 t m) fuel)) (by repeat (first | exact Pk.here | apply Pk.there)) (fun G9 hle9 hsl9 hno9 => ?_))
 refine tT ?_
 refine E5 (rT rfl) (rT rfl) ?_
 (exact IsP.mk (l := (List.range (2 ^ N1)).map fun m => A1N (X7 t m) fuel) (by rw [hy2]; rfl) (by rw [hy2]; rfl) (by simp) ⟨by rw [List.length_map, List.length_range]; exact hsl9.dif (fun b hb => (hno9 b hb).1) (hle1.trans (hle.trans hle2)), fun b hb => A4Q (hle1.trans (hle.trans hle2)) (hno9 b hb)⟩)
theorem B4K (e : Tm) (fuel : Int) (G : IM) (cells : List Value) (hts : e.small) (hcnt : D1 e ≤ 4000000) (hr : A6 G e cells) :
  Fn Tryz.prog 17 [.agg ⟨cells⟩, .int .i64 fuel] [] G (J8 fun _ v => v = .tuple ⟨[.int .i64 (A0w e fuel).1, .bool (A0w e fuel).2]⟩) := by
 have hl := hr.len
 have hone := hr.one
 have hC := A9w e fuel G cells hts hcnt hr
 have hno : S0 e fuel = none → A0w e fuel = (0, false) := fun h => by unfold A0w; rw [h]
 have hyes : ∀ l, S0 e fuel = some l → A0w e fuel = (Lib.idxOf l (Lib.maxOf l), true) := fun l h => by unfold A0w; rw [h]
 have hlen := @A5R e fuel
 generalize S0 e fuel = R at *
 refine B4 Tryz.func17 rfl Tryz.ntmps17 Tryz.results17 rfl ?_
 intro w0
 refine tS (tR ?_)
 refine sE (C1 rfl rfl) rfl (fun b3 => ?_)
 refine sQ (qA rfl) rfl (sQ (qA rfl) rfl (sD (nS (tS (tR ?_)))))
 refine sL (A0 rfl rfl (A9 (by repeat first | exact mH | apply mT)) hl) rfl rfl ?_
 refine sQ (qM rfl) rfl ?_
 focus (refine D2 rfl hC rfl rfl (fun v2 G2 hle2 hh => ?_); obtain ⟨p2, c2, rfl, hp2⟩ := hh; rcases R with _ | l; rotate_left; (obtain ⟨hl1, hl2⟩ := hlen rfl; have hsl : Sl G2 p2 l.length c2 1 (N3 l) := hp2.1.mono (B2.le _ _)); rotate_left)
 refine T2 ?_
 refine B3 ?_
 (refine I1 (fun (_ : Unit) => ⟨[(9, .int .i64 1), (8, .int .i64 0), (6, .slice p2 0 c2), (7, .bool false)], [], G2⟩) (fun _ => True) (fun _ => 0) () ?_ ?_ ?_)
 exact C9
 (trivial)
 (rintro ⟨⟩ _)
 refine E2 ?_
 refine sP (V1 rfl rfl (by omega)) rfl rfl ?_
 refine S1 ?_
 refine E5 (rT rfl) (rT rfl) ?_
 (exact ⟨rfl, by rw [hno rfl]⟩)
 refine T2 ?_
 refine B3 ?_
 (have hsl2 := hsl; refine I1 (fun (x : Nat × Nat) => ⟨[(9, .int .i64 (x.1 : Int)), (8, .int .i64 (x.2 : Int)), (6, .slice p2 l.length c2), (7, .bool true)], [], G2⟩) (fun x => 1 ≤ x.1 ∧ x.1 ≤ l.length ∧ x.2 < x.1 ∧ (∀ j, j < x.1 → l.getD j 0 ≤ l.getD x.2 0) ∧ ∀ j, j < x.2 → l.getD j 0 < l.getD x.2 0) (fun x => l.length - x.1) (1, 0) ?_ ?_ ?_)
 (simp only [H5]; exact C9)
 (exact ⟨by omega, by omega, by omega, fun j hj => (by obtain rfl : j = 0 := (by omega); exact Int.le_refl _), fun j hj => absurd hj (Nat.not_lt_zero j)⟩)
 (rintro ⟨(i : Nat), (b : Nat)⟩ ⟨hi1, hi, hbi, hle1, hlt1⟩; simp only [] at hi1 hi hbi hle1 hlt1 ⊢)
 refine E2 ?_
 refine sB (I2 rfl rfl) rfl rfl (fun h91 => ?_) (fun h91 => ?_)
 refine sD (nS (qT rfl (tK (nS (tS ?_)))))
 refine B3 ?_
 refine tS ?_
 (obtain ⟨bR, oR, vR, rfl, hvR, hatI, _⟩ := hsl.kid (i := i) (by omega); obtain ⟨bR2, oR2, vR2, hpq, hvR2, hatB, _⟩ := hsl.kid (i := b) (by omega); cases hpq; obtain rfl := A7w hvR (by omega); obtain rfl := A7w hvR2 (by omega); have hgi := A9v (show i < l.length by omega); have hgb := A9v (show b < l.length by omega); refine D5 D6 rfl ?_)
 refine J6 (i := 0) (l' := [tt,ff,ff,ff,ff,ff,ff,ff,ff]) rfl D0 (qM rfl) rfl (by kernel_rfl) rfl rfl ?_
 refine aP 1 rfl (qM rfl) rfl ?_
 refine aP 2 rfl (A8 (j := i) rfl rfl rfl (by omega)) rfl ?_
 refine aL 3 rfl (A0g rfl rfl (hatI _)) rfl ?_
 refine aP 4 rfl (qM rfl) rfl ?_
 refine aP 5 rfl (qM rfl) rfl ?_
 refine aP 6 rfl (A8 (j := b) rfl rfl rfl (by omega)) rfl ?_
 refine aL 7 rfl (A0g rfl rfl (hatB _)) rfl ?_
 refine A0n (i := 8) (l' := [tt,tt,tt,tt,tt,tt,tt,tt,tt]) rfl D0 (A0W rfl rfl) rfl (by kernel_rfl) rfl rfl (fun h109 => ?_) (fun h109 => ?_)
 refine F8 ?_
 refine sP (E8 rfl rfl (by omega) (by omega)) rfl rfl ?_
 refine sQ (qA rfl) rfl (sD ?_)
 (have hgt : l.getD b 0 < l.getD i 0 := (by omega); refine I4 (i + 1, i) ?_ ?_ ?_)
 (simp only [H5]; exact C9)
 (dsimp only; exact ⟨by omega, by omega, by omega, fun j hj => (by by_cases he : j = i; (subst he; exact Int.le_refl _); have := hle1 j (by omega); omega), fun j hj => (by have := hle1 j (by omega); omega)⟩)
 (show l.length - (i + 1) < l.length - i; omega)
 refine D3 ?_
 refine sP (E8 rfl rfl (by omega) (by omega)) rfl rfl ?_
 refine sQ (qA rfl) rfl (sD ?_)
 refine I4 (i + 1, b) ?_ ?_ ?_
 (simp only [H5]; exact C9)
 (dsimp only; exact ⟨by omega, by omega, by omega, fun j hj => (by by_cases he : j = i; (subst he; omega); exact hle1 j (by omega)), hlt1⟩)
 (show l.length - (i + 1) < l.length - i; omega)
 refine S1 ?_
 refine E5 (rT rfl) (rT rfl) ?_
 (exact ⟨rfl, by rw [hyes l rfl, B35 ⟨by omega, fun j hj => hle1 j (by omega), hlt1⟩]⟩)
theorem B4L (t : Tm) (fuel : Int) : ((S0 t fuel).getD []).length ≤ 64 := by
 cases h : S0 t fuel with
 | none => simp
 | some l => exact (A5R h).2
theorem B4M (t : Tm) (fuel : Int) (G : IM) (cells : List Value) (hno : t.nok) (hr : A6 G t cells) :
  Fn Tryz.prog 5 [.agg ⟨cells⟩, .int .i64 fuel] [] G (J8 fun _ v => v = .bool true) := by
 have hl := hr.len
 have hone := hr.one
 have hz := A6V t 1048576 G cells (by omega) (by omega) hno hr
 have hzn := A3U t
 have hcs := A43 t
 have hms := B1a t
 have hm1 := A0y t.ty.ks
 have hm2 := A0y t.fr.ks
 have hm3 := A12 t.ks
 have hmc := B4L t fuel
 obtain ⟨l, hL⟩ : ∃ l, (S0 t fuel).getD [] = l := ⟨_, rfl⟩
 obtain ⟨b, hB⟩ : ∃ b, (S0 t fuel).isSome = b := ⟨_, rfl⟩
 rw [hL] at hmc
 refine B4 Tryz.func5 rfl Tryz.ntmps5 Tryz.results5 rfl ?_
 intro w0
 refine tS (tR ?_)
 refine sE (C1 rfl rfl) rfl (fun b3 => ?_)
 refine I8 ?_
 refine sL (A0 rfl rfl (A9 (by repeat first | exact mH | apply mT)) (by assumption)) rfl rfl ?_
 refine sQ (qM rfl) rfl ?_
 (rcases A1A 1048576 (X2 t) with ⟨hc, hrs⟩ | ⟨hc, hrs⟩ <;> (rw [hrs] at hz; refine I3 rfl hz rfl rfl ?_))
 refine C3 ?_
 refine sP (V1 rfl rfl (by omega)) rfl rfl ?_
 refine sD (nS (cF rfl (tK (nS (tS (tR ?_))))))
 refine sL (A0 rfl rfl (A9 (by repeat first | exact mH | apply mT)) (by assumption)) rfl rfl ?_
 (refine D2 rfl (A15 t G cells (A0u t (by omega)) hr) rfl rfl (fun v1 G1 hle1 hh => ?_); obtain ⟨cells1, F1, rfl, hs1, hn1⟩ := hh; have hA := A9w t fuel G1 cells1 (A0u t (by omega)) (by omega) (hs1.R.mono (B2.le _ _)))
 refine sQ (qM rfl) rfl ?_
 (refine D2 rfl hA rfl rfl (fun v2 G2 hle2 hh => ?_); obtain ⟨p2, c2, rfl, hp2⟩ := A5L hL hB hh; have hle02 := hle1.trans hle2; have hr2 := hr.mono hle02)
 refine D8 ?_
 refine sL (A0 rfl rfl (A9 (by repeat first | exact mH | apply mT)) (by assumption)) rfl rfl ?_
 (refine D2 rfl (A15 t G2 cells (A0u t (by omega)) hr2) rfl rfl (fun v3 G3 hle3 hh => ?_); obtain ⟨cells3, F3, rfl, hs3, hn3⟩ := hh; have hl3 := hs3.R.len; have ho3 := hs3.R.one; have hI := A5S t fuel G3 cells3 (A0u t (by omega)) (by omega) (hs3.R.mono (B2.le _ _)))
 refine sE (A5 rfl) rfl (fun b47 => ?_)
 refine S6 rfl rfl rfl (by assumption) (by assumption) rfl (by repeat first | exact Sw.here | apply Sw.there) (by exact D4 (by symm; assumption)) ?_
 refine sD (nS (tS (tR ?_)))
 refine sL (A0 rfl rfl (A9 (by repeat first | exact mH | apply mT)) (by assumption)) rfl rfl ?_
 refine sQ (qM rfl) rfl ?_
 (refine D2 rfl hI rfl rfl (fun v4 G4 hle4 hh => ?_); obtain ⟨p4, c4, rfl, hp4⟩ := A5L hL hB hh; have hle24 := hle3.trans hle4; have m2 : B7 (B2 G2 G1) G4 := (B2.le G2 G1).trans hle24; have hr4 := hr2.mono hle24)
 refine J9 ?_
 refine I3 rfl (A4S l G4 p4 p2 c4 c2 (hp4.1.mono (B2.le _ _)) (hp2.1.mono m2)) rfl rfl ?_
 refine H8 ?_
 refine sQ (A1j rfl rfl rfl) rfl ?_
 refine D3 ?_
 refine D5 D6 rfl ?_
 refine L3 (i := 0) (l' := [tt,ff,ff,ff,ff]) rfl D0 (A0 rfl rfl (A9 (by repeat first | exact mH | apply mT)) (by assumption)) rfl (by kernel_rfl) rfl rfl ?_
 refine aL 1 rfl (A0 rfl rfl (A9 (by repeat first | exact mH | apply mT)) (by assumption)) rfl ?_
 refine A2 2 ?_
 (refine E9 rfl rfl (A15 t G4 cells (A0u t (by omega)) hr4) rfl rfl rfl (fun v5 G5 hle5 hh => ?_); obtain ⟨cells5, F5, rfl, hs5, hn5⟩ := hh)
 refine A2 3 ?_
 refine M6 rfl rfl (A6I t G5 cells3 cells5 (hs3.R.mono ((B2.le _ _).trans (hle4.trans hle5))) (hs5.R.mono (B2.le _ _))) rfl rfl rfl ?_
 refine aP 4 rfl (U0 rfl) rfl ?_
 refine J9 ?_
 refine sL (A0 rfl rfl (A9 (by repeat first | exact mH | apply mT)) (by assumption)) rfl rfl ?_
 refine sQ (qM rfl) rfl ?_
 (obtain ⟨bs3, ob3, ib3⟩ := hs3.blks; obtain ⟨nb3, gb3, kb3⟩ := A7v (Gc := G5) ib3 hn3 hle02 ((B2.le G3 G2).trans (hle4.trans hle5)); refine B1B nb3 gb3 rfl (B0T t 1 _ cells3 bs3 ob3 (by omega) (by omega)) rfl rfl ?_; have h46 : B7 (B2 G4 G3) (Wo G5 (bs3.map Prod.fst)) := Wo.keep ((B2.le G4 G3).trans hle5) (fun b hb => B1z (kb3 b hb).2); have h26 : B7 (B2 G2 G1) (Wo G5 (bs3.map Prod.fst)) := Wo.keep (m2.trans hle5) (fun b hb => A16 (B2.le G2 G1) (kb3 b hb).1); have h06 : B7 G (Wo G5 (bs3.map Prod.fst)) := Wo.keep (hle02.trans (hle24.trans hle5)) (fun b hb => A16 hle02 (kb3 b hb).1); generalize Wo G5 (bs3.map Prod.fst) = G6 at *)
 refine C3 ?_
 refine sP (V1 rfl rfl (by omega)) rfl rfl ?_
 refine sQ (qM rfl) rfl (sQ (qM rfl) rfl (sQ (qM rfl) rfl ?_))
 refine I3 rfl (A4S l G6 p4 p2 c4 c2 (hp4.1.mono h46) (hp2.1.mono h26)) rfl rfl ?_
 refine O8 ?_
 refine sQ (A1j rfl rfl rfl) rfl ?_
 refine H3 ?_
 (obtain ⟨bs4, ob4, ib4⟩ := hp4.blks; obtain ⟨nb4, gb4, kb4⟩ := A7v (Gc := G6) ib4 (A6D p4) (hle02.trans hle3) h46; refine B1C nb4 gb4 rfl (B0W l 1 _ p4 c4 bs4 ob4 (by omega) (by omega)) rfl rfl (fun bs5 G8 hb5 hle8 hg5 => ?_); have h28 : B7 (B2 G2 G1) G8 := (Wo.keep h26 (fun b hb => A16 (B2.le G2 G1) (A16 hle3 (kb4 b hb).1))).trans hle8; have h08 : B7 G G8 := (Wo.keep h06 (fun b hb => A16 hle02 (A16 hle3 (kb4 b hb).1))).trans hle8; have hq8 := hb5.sl hg5; rw [A27] at hq8; have hr8 := hr.mono h08)
 refine J9 ?_
 refine I3 rfl (A6T l.length 1 G8 p4 c4 hq8 (by omega) (by omega)) rfl rfl ?_
 refine C3 ?_
 refine sP (V1 rfl rfl (by omega)) rfl rfl ?_
 refine I8 ?_
 refine sP (X9 rfl rfl (by omega)) rfl rfl ?_
 refine sD (nS (cF rfl (tK (nS (tS (tR ?_))))))
 refine sL (A0 rfl rfl (A9 (by repeat first | exact mH | apply mT)) (by assumption)) rfl rfl ?_
 (refine D2 rfl (A15 t G8 cells (A0u t (by omega)) hr8) rfl rfl (fun v9 G9 hle9 hh => ?_); obtain ⟨A3V, F9, rfl, hs9, hn9⟩ := hh; have hI9 := A5S t fuel G9 A3V (A0u t (by omega)) (by omega) (hs9.R.mono (B2.le _ _)))
 refine sQ (qM rfl) rfl ?_
 (refine D2 rfl hI9 rfl rfl (fun v10 G10 hle10 hh => ?_); obtain ⟨p10, c10, rfl, hp10⟩ := A5L hL hB hh; have h210 := h28.trans (hle9.trans hle10))
 refine J9 ?_
 refine I3 rfl (A4S l G10 p10 p2 c10 c2 (hp10.1.mono (B2.le _ _)) (hp2.1.mono h210)) rfl rfl ?_
 refine H8 ?_
 refine sQ (A1j rfl rfl rfl) rfl ?_
 refine H3 ?_
 refine I3 rfl (A6T l.length 1 G10 p4 c4 (hq8.mono (hle9.trans hle10)) (by omega) (by omega)) rfl rfl ?_
 refine C3 ?_
 refine sP (V1 rfl rfl (by omega)) rfl rfl ?_
 refine I8 ?_
 refine sP (X9 rfl rfl (by omega)) rfl rfl ?_
 refine J9 ?_
 exact ⟨rfl, rfl⟩
 refine C3 ?_
 refine sP (A1t rfl rfl (by omega)) rfl rfl ?_
 refine F8 ?_
 exact ⟨rfl, rfl⟩
theorem B4N (t : Tm) (fuel : Int) (G : IM) (cells : List Value) (hno : t.nok) (hr : A6 G t cells) :
  Fn Tryz.prog 4 [.agg ⟨cells⟩, .int .i64 fuel] [] G (J8 fun _ v => v = .bool true) := by
 have hl := hr.len
 have hone := hr.one
 have hz := A6V t 1048576 G cells (by omega) (by omega) hno hr
 have hzn := A3U t
 have hcs := A43 t
 have hS := fun G cells => B4K t fuel G cells
 have hI := fun G cells => B4d t fuel G cells
 obtain ⟨⟨w1, w2⟩, hW⟩ : ∃ r, A0w t fuel = r := ⟨_, rfl⟩
 rw [hW] at hS hI
 refine B4 Tryz.func4 rfl Tryz.ntmps4 Tryz.results4 rfl ?_
 intro w0
 refine tS (tR ?_)
 refine sE (C1 rfl rfl) rfl (fun b3 => ?_)
 refine I8 ?_
 refine sL (A0 rfl rfl (A9 (by repeat first | exact mH | apply mT)) hl) rfl rfl ?_
 refine sQ (qM rfl) rfl ?_
 (rcases A1A 1048576 (X2 t) with ⟨hc, hrs⟩ | ⟨hc, hrs⟩ <;> (rw [hrs] at hz; refine I3 rfl hz rfl rfl ?_))
 refine C3 ?_
 refine sP (V1 rfl rfl (by omega)) rfl rfl ?_
 refine sD (nS (cF rfl (tK (nS (tS (tR ?_))))))
 refine sL (A0 rfl rfl (A9 (by repeat first | exact mH | apply mT)) hl) rfl rfl ?_
 (refine D2 rfl (A15 t G cells (A0u t (by omega)) hr) rfl rfl (fun v1 G1 hle1 hh => ?_); obtain ⟨cells1, F1, rfl, hs1, hn1⟩ := hh)
 refine sQ (qM rfl) rfl ?_
 (refine D2 rfl (hS G1 cells1 (A0u t (by omega)) (by omega) (hs1.R.mono (B2.le _ _))) rfl rfl (fun v2 G2 hle2 hh => ?_); replace hh : v2 = .tuple ⟨[.int .i64 w1, .bool w2]⟩ := hh; subst hh; have hr2 := hr.mono (hle1.trans hle2); clear hS)
 refine D8 ?_
 refine sL (A0 rfl rfl (A9 (by repeat first | exact mH | apply mT)) hl) rfl rfl ?_
 (have h9 := hr2; refine D2 rfl (A15 t G2 cells (A0u t (by omega)) hr2) rfl rfl (fun v3 G3 hle3 hh => ?_); obtain ⟨cells3, F3, rfl, hs3, hn3⟩ := hh; have hl3 := hs3.R.len; have ho3 := hs3.R.one)
 refine sE (A5 rfl) rfl (fun b47 => ?_)
 refine S6 rfl rfl rfl (by assumption) (by assumption) rfl (by repeat first | exact Sw.here | apply Sw.there) (by exact D4 (by symm; assumption)) ?_
 refine sD (nS (tS (tR ?_)))
 refine sL (A0 rfl rfl (A9 (by repeat first | exact mH | apply mT)) (by assumption)) rfl rfl ?_
 refine sQ (qM rfl) rfl ?_
 (refine D2 rfl (hI G3 cells3 (A0u t (by omega)) (by omega) (hs3.R.mono (B2.le _ _))) rfl rfl (fun v4 G4 hle4 hh => ?_); replace hh : v4 = .tuple ⟨[.int .i64 w1, .bool w2]⟩ := hh; subst hh; have hr4 := hr2.mono (hle3.trans hle4); clear hI)
 refine J9 ?_
 refine sP (X9 rfl rfl (by omega)) rfl rfl ?_
 refine sQ (qM rfl) rfl (sQ (qM rfl) rfl (sQ (qM rfl) rfl ?_))
 refine sQ (A1j rfl rfl rfl) rfl ?_
 refine D3 ?_
 refine D5 D6 rfl ?_
 refine L3 (i := 0) (l' := [tt,ff,ff,ff,ff]) rfl D0 (A0 rfl rfl (A9 (by repeat first | exact mH | apply mT)) hl3) rfl (by kernel_rfl) rfl rfl ?_
 refine aL 1 rfl (A0 rfl rfl (A9 (by repeat first | exact mH | apply mT)) hl) rfl ?_
 refine A2 2 ?_
 (have h9 := hr4; refine E9 rfl rfl (A15 t G4 cells (A0u t (by omega)) hr4) rfl rfl rfl (fun v5 G5 hle5 hh => ?_); obtain ⟨cells5, F5, rfl, hs5, hn5⟩ := hh)
 refine A2 3 ?_
 refine M6 rfl rfl (A6I t G5 cells3 cells5 (hs3.R.mono ((B2.le _ _).trans (hle4.trans hle5))) (hs5.R.mono (B2.le _ _))) rfl rfl rfl ?_
 refine aP 4 rfl (U0 rfl) rfl ?_
 refine J9 ?_
 exact ⟨rfl, rfl⟩
 refine C3 ?_
 refine sP (A1t rfl rfl (by omega)) rfl rfl ?_
 refine F8 ?_
 exact ⟨rfl, rfl⟩
end Gw
end Go.Proofs.YtfpgncjeejickaaGreat
