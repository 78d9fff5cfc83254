/-
  The reference's insertion of casts, exactly. Terms with other types: the program's. Shifts and masks of small numbers; writing into an own slice. Terms some of whose types become the unknown type: the program's. The types that a term's text holds: the reference's list. TermTypes and CountSlots of the reference. Terms with other types: the reference's. WithTypes of the reference. Drawn terms that are small, terms with blurred types, fuel. Static terms: the program's StaticTerm. A calculus of casts, with types as trees: what is more precise stays so (the gradual guarantee). The calculus of casts is that of the evaluation. Precision of types and terms, on both sides. Casts put into terms of which one is more precise: the results are so, too. Precision of terms, on both sides. Values of the stack machine: as trees, and as they lie in memory; what an instruction does, in plain words. The reference's decimal digits of a number. The program's RunTerm: texts of values. The program's RunTerm.
-/
import Derived.Test.YthpdjmbpbdbodaaGreatDoorKf6
import Derived.Test.YthpdjmbpbdbodaaGreatDoorKf3
import Derived.Test.YthpdjmbpbdbodaaGreatDoorKf1
import Derived.Test.YthpdjmbpbdbodaaGreatDoorKf2
import Derived.Test.YthpdjmbpbdbodaaGreatDoorKf4
import Init
import Derived.Lib.ItoaNum
import Derived.Test.YthpdjmbpbdbodaaGreatDoorKf5
set_option linter.unusedVariables false
set_option linter.unusedSimpArgs false
set_option maxHeartbeats 0
set_option maxRecDepth 100000
set_option synthInstance.maxSize 4000
set_option synthInstance.maxHeartbeats 0
namespace Go.Proofs.YthpdjmbpbdbodaaGreatDoor
open Go Go.RowKit
namespace Gw
theorem B3s {e : Tm} (h : P9 e = true) : A0h e = P6 [] e := by
 have hs := ((A04 e).1 h).1
 obtain ⟨h1, h2⟩ := A2b e 1 [] 0 hs A2F
 unfold A0h
 cases hE : M8 [] e 0 with
 | none => rw [A8W h hE, h2 hE]
 | some r =>
  obtain ⟨u, a, l⟩ := r
  rw [A8X h hE, (h1 u a l hE).1]
theorem B3t {e u : Tm} {t : Ty} (h : U3 e = some (u, t)) : P9 e = true ∧ ∃ l, M8 [] e 0 = some (u, t, l) := by
 unfold U3 at h
 split at h
 ·rename_i hv
  refine ⟨hv, ?_⟩
  split at h
  ·rename_i u' t' l' he; cases h; exact ⟨l', he⟩
  ·cases h
 ·cases h
def A55 (t : Ty) (x : Bool) (G : IM) : IM → Value → List A6 → Prop := L8 fun G' v => ∃ cells, v = .tuple ⟨[.agg ⟨cells⟩, .bool x]⟩ ∧ B7 G' (if x = true then t else B4) cells
theorem B3u (t : Ty) (G : IM) (cells : List Value) (hr : B7 G t cells) : Fn Tryz.prog 137 [.agg ⟨cells⟩, .bool true] [] G (A55 t true G) := by
 obtain ⟨p, c, e, rfl, _⟩ := hr.open
 refine C0 Tryz.func137 rfl Tryz.ntmps137 Tryz.results137 rfl ?_
 intro w0
 refine tS (tR ?_)
 refine sE (C5 rfl rfl) rfl (fun b3 => ?_)
 refine sE (A7 rfl) rfl (fun b4 => ?_)
 refine A0m ?_
 refine H7 (rC rfl (A2 rfl rfl)) (rT rfl) ?_
 (exact ⟨rfl, _, rfl, hr⟩)
theorem B3v (t : Ty) (G : IM) (cells : List Value) (hr : B7 G t cells) : Fn Tryz.prog 137 [.agg ⟨cells⟩, .bool false] [] G (A55 t false G) := by
 obtain ⟨p, c, e, rfl, _⟩ := hr.open
 refine C0 Tryz.func137 rfl Tryz.ntmps137 Tryz.results137 rfl ?_
 intro w0
 refine tS (tR ?_)
 refine sE (C5 rfl rfl) rfl (fun b3 => ?_)
 refine sE (A7 rfl) rfl (fun b4 => ?_)
 refine A0b ?_
 refine H7 (rC rfl (A2 rfl rfl)) (rT rfl) ?_
 (exact ⟨rfl, _, rfl, M1 _ ⟨by omega, by omega⟩⟩)
theorem B3w (t : Ty) (x : Bool) (G : IM) (cells : List Value) (hr : B7 G t cells) : Fn Tryz.prog 137 [.agg ⟨cells⟩, .bool x] [] G (A55 t x G) := by
 cases x
 ·exact B3v t G cells hr
 ·exact B3u t G cells hr
theorem A1v.sure {o : Option Ty} {t : Ty} {G G' : IM} {cells : List Value} (h : ∀ u, o = some u → u = t) (hr : B7 G' (if o.isSome = true then t else B4) cells) : A1v o G G' (.tuple ⟨[.agg ⟨cells⟩, .bool o.isSome]⟩) [] := by
 cases o with
 | none => exact ⟨rfl, cells, B4, rfl, hr, by simp⟩
 | some u => exact ⟨rfl, cells, t, rfl, hr, fun x hx => by cases hx; exact (h _ rfl).symm⟩
theorem B3x (e : Tm) (G : IM) (cells : List Value) (hcnt : D1 e ≤ 4294967296) (hr : B0 G e cells) :
  Fn Tryz.prog 94 [.slice none 0 0, .agg ⟨cells⟩] [] G (A1v (A0h e) G) := by
 have hl := hr.len
 have hone := hr.one
 have hw := A38 e G cells hcnt hr
 have hT := fun h : P9 e = true => A82 e 1 [] G none 0 0 cells ((A04 e).1 h).1 (by omega) A2F (R3.nil G) hr
 have hts := fun h => @B3s e h
 have hno := @B3g e
 refine C0 Tryz.func94 rfl Tryz.ntmps94 Tryz.results94 rfl ?_
 intro w0
 refine tS (tR ?_)
 refine sE (C5 rfl rfl) rfl (fun b3 => ?_)
 refine sE (A7 rfl) rfl (fun b4 => ?_)
 refine sQ (qA rfl) rfl (sD (nS (tS (tS (tR (sQ (qM rfl) rfl ?_))))))
 refine H0 rfl ((B1w _)) rfl rfl ?_
 refine sQ (K4 rfl) rfl (sQ (qM rfl) rfl ?_)
 refine sL (A5 rfl rfl (B2 (by repeat first | exact mH | apply mT)) (by assumption)) rfl rfl ?_
 refine E7 rfl (hw) rfl rfl (fun h16 => ?_) (fun h16 => ?_)
 refine sQ (K4 rfl) rfl (sQ (D7 rfl rfl) rfl (sD (nS (cF rfl (tK (nS (tS (tR (sQ (qM rfl) rfl ?_)))))))))
 refine sL (A5 rfl rfl (B2 (by repeat first | exact mH | apply mT)) (by assumption)) rfl rfl ?_
 (refine E5 rfl (hT (by assumption)) rfl rfl (fun v G1 hle1 hh => ?_); obtain ⟨mt, mc, rfl, hmr, hma, hmu⟩ := hh; obtain ⟨p1, c1, e1, rfl, _⟩ := hmr.open; have hmo := hts (by assumption))
 refine sQ (pX rfl rfl) rfl (sQ (pX rfl rfl) rfl ?_)
 (refine E5 rfl (B3w mt _ _ _ hmr) rfl rfl (fun v G2 hle2 hh => ?_); obtain ⟨mc2, rfl, hmr2⟩ := hh; obtain ⟨p2, c2, e2, rfl, _⟩ := hmr2.open)
 refine sQ (pX rfl rfl) rfl (sQ (pX rfl rfl) rfl (B1 ?_))
 refine sQ (qA rfl) rfl (sD (nS (tT ?_)))
 refine H7 (rC rfl (A2 rfl rfl)) (rT rfl) ?_
 (rw [hmo]; exact A1v.sure hmu hmr2)
 refine R2 ?_
 refine H7 (rC rfl (A2 rfl rfl)) (rT rfl) ?_
 (exact A1v.no (u := B4) (M1 _ ⟨by omega, by omega⟩) rfl (hno (by assumption)))
theorem A83 (e : Tm) (G : IM) (cells : List Value) (hcnt : D1 e ≤ 4294967296) (hr : B0 G e cells) :
  Fn Tryz.prog 53 [.agg ⟨cells⟩] [] G (A1v (A0h e) G) := by
 have hl := hr.len
 have hone := hr.one
 refine C0 Tryz.func53 rfl Tryz.ntmps53 Tryz.results53 rfl ?_
 intro w0
 refine tS (tR ?_)
 refine sE (C5 rfl rfl) rfl (fun b3 => ?_)
 refine sE (A7 rfl) rfl (fun b4 => ?_)
 refine sQ (qA rfl) rfl (sD (nS (tS (tR ?_))))
 refine sL (A5 rfl rfl (B2 (by repeat first | exact mH | apply mT)) (by assumption)) rfl rfl ?_
 (refine E5 rfl (B3x e G cells hcnt hr) rfl rfl (fun v G1 hle1 hh => ?_); obtain ⟨cu, u, rfl, hru, hu⟩ := hh; obtain ⟨p1, c1, e1, rfl, _⟩ := hru.open)
 refine sQ (pX rfl rfl) rfl (sQ (pX rfl rfl) rfl (B1 ?_))
 refine sQ (qA rfl) rfl (sD (nS (tT ?_)))
 refine H7 (rC rfl (A2 rfl rfl)) (rT rfl) ?_
 (exact ⟨rfl, _, u, rfl, hru, hu⟩)
def A1z (e : Tm) (a b : Ty) (l : Int) : IM → Value → List A6 → Prop := L8 fun G' v => ∃ cells, v = .tuple ⟨[.agg ⟨cells⟩, .int .i64 (if N1 a b = true then l else l + 1)]⟩ ∧ B0 G' (if N1 a b = true then e else J9 e a b l) cells
theorem A1z.yes {G : IM} {e : Tm} {a b : Ty} {l : Int} {cells : List Value} (h : N1 a b = true) (hr : B0 G e cells) : A1z e a b l G (.tuple ⟨[.agg ⟨cells⟩, .int .i64 l]⟩) [] := ⟨rfl, cells, by rw [if_pos h], by rw [if_pos h]; exact hr⟩
theorem A1z.no {G : IM} {e : Tm} {a b : Ty} {l : Int} {cells : List Value} (h : N1 a b = false) (hr : B0 G (J9 e a b l) cells) : A1z e a b l G (.tuple ⟨[.agg ⟨cells⟩, .int .i64 (l + 1)]⟩) [] := ⟨rfl, cells, by rw [if_neg (by rw [h]; decide)], by rw [if_neg (by rw [h]; decide)]; exact hr⟩
theorem B3y (e : Tm) (a b : Ty) (label : Int) (G : IM) (ce ca cb : List Value) (hlab : -1099511627776 ≤ label ∧ label ≤ 1099511627776) (hr : B0 G e ce) (hra : B7 G a ca) (hrb : B7 G b cb) (hsa : a.small) (hsb : b.small) :
  Fn Tryz.prog 61 [.agg ⟨ce⟩, .agg ⟨ca⟩, .agg ⟨cb⟩, .int .i64 label] [] G (A1z e a b label) := by
 have hl := hr.len
 have hone := hr.one
 obtain ⟨hlab1, hlab2⟩ := hlab
 have hSame := A8Y a b G ca cb hra hrb
 obtain ⟨ak, aks⟩ := a
 obtain ⟨bk, bks⟩ := b
 obtain ⟨pa, cca, ea, rfl, _⟩ := hra.open
 obtain ⟨pb, ccb, eb, rfl, _⟩ := hrb.open
 simp only [Ty.k, Ty.ks] at hra hrb hSame ⊢
 obtain ⟨v1, v2, v3, v4, v5, v6, v7, v8, v9, rfl⟩ := nine hl
 refine C0 Tryz.func61 rfl Tryz.ntmps61 Tryz.results61 rfl ?_
 intro w0
 refine tS (tR ?_)
 refine sE (C5 rfl rfl) rfl (fun b3 => ?_)
 refine sE (C5 rfl rfl) rfl (fun b4 => ?_)
 refine sE (C5 rfl rfl) rfl (fun b5 => ?_)
 refine sE (A7 rfl) rfl (fun b6 => ?_)
 refine sQ (qA rfl) rfl (sD (nS (tS (tS (tR (sL (A2 rfl rfl) rfl rfl (sL (A2 rfl rfl) rfl rfl ?_)))))))
 refine E7 rfl (hSame) rfl rfl (fun h15 => ?_) (fun h15 => ?_)
 refine sD (nS (qT rfl (tS (tR ?_))))
 refine sL (A5 rfl rfl (B2 (by repeat first | exact mH | apply mT)) hl) rfl rfl ?_
 refine sQ (qM rfl) rfl ?_
 refine sS rfl rfl rfl hl hone rfl ?_ (hu := by exact D5 hl.symm)
 refine sQ (qA rfl) rfl (sD (nS (tT (rS ?_))))
 refine H7 (rC rfl (A5 rfl rfl (B2 (by repeat first | exact mH | apply mT)) hl)) (rT rfl) ?_
 (exact A1z.yes (by assumption) hr)
 refine sD (nS (cF rfl (tK (nS (tS ?_)))))
 refine D4 D6 rfl ?_
 refine K2 (i := 5) (l' := [ff,ff,ff,ff,ff,tt,ff,ff,ff,ff,ff,ff]) rfl C9 (A5 rfl rfl (B2 (by repeat first | exact mH | apply mT)) hl) rfl (by kernel_rfl) rfl rfl ?_
 refine aL 0 rfl (A2 rfl rfl) rfl ?_
 refine aL 2 rfl (A2 rfl rfl) rfl ?_
 refine aP 4 rfl (qM rfl) rfl ?_
 refine aP 8 rfl (qM rfl) rfl ?_
 refine aP 9 rfl (I7 rfl rfl (by omega) (by omega)) rfl ?_
 refine Q1 (j := 1) (j' := 6) (by kernel_rfl) ?_ ?_
 (refine F0 rfl rfl (P0 _ _ _ hsa hra) rfl rfl rfl (fun v G1 hle1 hh => ?_); obtain ⟨cs1, F1, rfl, hs1, hn1⟩ := hh; obtain ⟨p1, c1, rfl, _⟩ := hs1.open; have hC2 := P0 _ G1 _ hsb (hrb.mono hle1))
 refine Q1 (j := 3) (j' := 6) (by kernel_rfl) ?_ ?_
 (refine F0 rfl rfl hC2 rfl rfl rfl (fun v G2 hle2 hh => ?_); obtain ⟨cs2, F2, rfl, hs2, hn2⟩ := hh; obtain ⟨p2, c2, rfl, _⟩ := hs2.open; have hr1 := hs1.R.mono ((C4.le G1 _).trans hle2); have hr2 := hs2.R.mono (C4.le G2 G1); have hre := hr.mono (hle1.trans hle2))
 refine A4 6 ?_
 (refine E0 rfl (C7 rfl rfl rfl (by omega) (by unfold maxLen; omega) rfl) rfl rfl ?_; rintro _ ⟨b49, rfl⟩)
 refine aP 7 rfl (H6 rfl rfl) rfl ?_
 refine A4 10 ?_
 refine F8 rfl ?_
 refine aP 11 rfl (qA rfl) rfl ?_
 refine B5 (nS ?_)
 (refine E9 (cs := [v1, v2, v3, v4, v5, v6, v7, v8, v9]) (by repeat (first | exact Pk.here | apply Pk.there)) (fun G5 hle5 hsl5 hno5 => ?_); obtain ⟨hone1, hone2⟩ := A17 (hre.mono hle5) hsl5)
 refine tT ?_
 refine H7 (rC rfl (A2 rfl rfl)) (rT rfl) ?_
 (exact A1z.no (by assumption) (B0.of9 (ks := [e]) ⟨by omega, by omega⟩ ⟨by omega, by omega⟩ ⟨by omega, by omega⟩ (hr2.mono hle5) (hr1.mono hle5) hone1 hone2))
 (refine E0 rfl (C7 rfl rfl rfl (by omega) (by unfold maxLen; omega) rfl) rfl rfl ?_; rintro _ ⟨b60, rfl⟩)
 refine A4 3 ?_
 (refine F0 rfl rfl hC2 rfl rfl rfl (fun v G2 hle2 hh => ?_); obtain ⟨cs2, F2, rfl, hs2, hn2⟩ := hh; obtain ⟨p2, c2, rfl, _⟩ := hs2.open; have hr1 := hs1.R.mono ((C4.le G1 _).trans hle2); have hr2 := hs2.R.mono (C4.le G2 G1); have hre := hr.mono (hle1.trans hle2))
 refine aP 7 rfl (H6 rfl rfl) rfl ?_
 refine A4 10 ?_
 refine F8 rfl ?_
 refine aP 11 rfl (qA rfl) rfl ?_
 refine B5 (nS ?_)
 (refine E9 (cs := [v1, v2, v3, v4, v5, v6, v7, v8, v9]) (by repeat (first | exact Pk.here | apply Pk.there)) (fun G5 hle5 hsl5 hno5 => ?_); obtain ⟨hone1, hone2⟩ := A17 (hre.mono hle5) hsl5)
 refine tT ?_
 refine H7 (rC rfl (A2 rfl rfl)) (rT rfl) ?_
 (exact A1z.no (by assumption) (B0.of9 (ks := [e]) ⟨by omega, by omega⟩ ⟨by omega, by omega⟩ ⟨by omega, by omega⟩ (hr2.mono hle5) (hr1.mono hle5) hone1 hone2))
 (refine E0 rfl (C7 rfl rfl rfl (by omega) (by unfold maxLen; omega) rfl) rfl rfl ?_; rintro _ ⟨b73, rfl⟩)
 refine A4 1 ?_
 (refine F0 rfl rfl (P0 _ _ _ hsa hra) rfl rfl rfl (fun v G1 hle1 hh => ?_); obtain ⟨cs1, F1, rfl, hs1, hn1⟩ := hh; obtain ⟨p1, c1, rfl, _⟩ := hs1.open; have hC2 := P0 _ G1 _ hsb (hrb.mono hle1))
 refine A4 3 ?_
 (refine F0 rfl rfl hC2 rfl rfl rfl (fun v G2 hle2 hh => ?_); obtain ⟨cs2, F2, rfl, hs2, hn2⟩ := hh; obtain ⟨p2, c2, rfl, _⟩ := hs2.open; have hr1 := hs1.R.mono ((C4.le G1 _).trans hle2); have hr2 := hs2.R.mono (C4.le G2 G1); have hre := hr.mono (hle1.trans hle2))
 refine aP 7 rfl (H6 rfl rfl) rfl ?_
 refine A4 10 ?_
 refine F8 rfl ?_
 refine aP 11 rfl (qA rfl) rfl ?_
 refine B5 (nS ?_)
 (refine E9 (cs := [v1, v2, v3, v4, v5, v6, v7, v8, v9]) (by repeat (first | exact Pk.here | apply Pk.there)) (fun G5 hle5 hsl5 hno5 => ?_); obtain ⟨hone1, hone2⟩ := A17 (hre.mono hle5) hsl5)
 refine tT ?_
 refine H7 (rC rfl (A2 rfl rfl)) (rT rfl) ?_
 (exact A1z.no (by assumption) (B0.of9 (ks := [e]) ⟨by omega, by omega⟩ ⟨by omega, by omega⟩ ⟨by omega, by omega⟩ (hr2.mono hle5) (hr1.mono hle5) hone1 hone2))
def R4 (w ts : List Ty) : List Ty := if w = [] then ts else w
theorem A3I {a : Ty} {w ts : List Ty} : R4 (a :: w) ts = a :: w := by unfold R4; rw [if_neg (by simp)]
def V4 (ws : List Ty) (n : Nat) (G : IM) : IM → Value → List A6 → Prop := L8 fun G' v => ∃ p c es, v = .slice p n c ∧ ws.length = n ∧ D2 G' p n c 2 es ∧ C6 G' ws es
theorem V4.mk {G G' : IM} {p : Option Addr} {n c : Nat} {ws ws' : List Ty} {es : List (List Value)} (he : ws = ws') (hl : ws'.length = n) (hs : Sl G' p n c 2 es.flatten) (hst : C6 G' ws' es) : V4 ws n G G' (.slice p n c) [] := by
 subst he
 exact ⟨rfl, p, c, es, rfl, hl, D2.of hs (by rw [hst.len, hl]) hst.all (fun e he => (hst.each e he).2), hst⟩
theorem V4.mk1 {G G' : IM} {p : Option Addr} {n c : Nat} {ws : List Ty} {a : Ty} {ca : List Value} (he : ws = [a]) (hn : n = 1) (hs : Sl G' p 1 c 2 ca) (ha : B7 G' a ca) : V4 ws n G G' (.slice p 1 c) [] := by
 subst hn
 exact V4.mk (ws' := [a]) (es := [ca]) he rfl (by simpa using hs) ⟨_, _, rfl, ha, rfl⟩
theorem V4.mk2 {G G' : IM} {p : Option Addr} {n c : Nat} {ws : List Ty} {a b : Ty} {ca cb : List Value} (he : ws = [a, b]) (hn : n = 2) (hs : Sl G' p 2 c 2 (ca ++ cb)) (ha : B7 G' a ca) (hb : B7 G' b cb) : V4 ws n G G' (.slice p 2 c) [] := by
 subst hn
 exact V4.mk (ws' := [a, b]) (es := [ca, cb]) he rfl (by simpa using hs) ⟨_, _, rfl, ha, _, _, rfl, hb, rfl⟩
theorem V4.mk3 {G G' : IM} {p : Option Addr} {n c : Nat} {ws : List Ty} {a b d : Ty} {ca cb cd : List Value} (he : ws = [a, b, d]) (hn : n = 3) (hs : Sl G' p 3 c 2 (ca ++ (cb ++ cd))) (ha : B7 G' a ca) (hb : B7 G' b cb) (hd : B7 G' d cd) : V4 ws n G G' (.slice p 3 c) [] := by
 subst hn
 exact V4.mk (ws' := [a, b, d]) (es := [ca, cb, cd]) he rfl (by simpa using hs) ⟨_, _, rfl, ha, _, _, rfl, hb, _, _, rfl, hd, rfl⟩
section
variable {cx : Cx} {k : Int} {nm : ByteArray} {ty : Ty} {ts w : List Ty} {t : Ty}
theorem wo6 (hk : k = 6) (h : K0 cx k nm ty ts = some (w, t)) (hl : 0 < ts.length) : ∃ a b, Q3 4 ts[0] = some (a, b) ∧ R4 w ts = [.mk 4 [a, b], a] := by
 subst hk
 rw [mW6, gD hl] at h
 split at h
 ·rename_i a b hm
  split at h
  ·cases h; exact ⟨a, _, hm, A3I⟩
  ·cases h
 ·cases h
theorem B3z (hk : k = 7 ∨ k = 8) (h : K0 cx k nm ty ts = some (w, t)) : R4 w ts = [P4, P4] := by
 rw [U7 hk] at h
 split at h
 ·cases h; exact A3I
 ·cases h
theorem wo9 (hk : k = 9) (h : K0 cx k nm ty ts = some (w, t)) : R4 w ts = [S6, t, t] := by
 subst hk
 rw [mW9] at h
 split at h
 ·cases h; exact A3I
 ·cases h
theorem B3A (hk : k = 11 ∨ k = 12) (h : K0 cx k nm ty ts = some (w, t)) (hl : 0 < ts.length) : ∃ a b, Q3 5 ts[0] = some (a, b) ∧ R4 w ts = [.mk 5 [a, b]] := by
 rw [A2K hk, gD hl] at h
 split at h
 ·rename_i a b hm; cases h; exact ⟨a, b, hm, A3I⟩
 ·cases h
theorem B3B (hk : k = 13) (h : K0 cx k nm ty ts = some (w, t)) : R4 w ts = [t] := by
 subst hk
 rw [A2d] at h
 split at h
 ·cases h; exact A3I
 ·cases h
theorem wo0 (hk : 1 ≤ k ∧ k ≤ 5 ∨ k = 10) (h : K0 cx k nm ty ts = some (w, t)) : R4 w ts = ts := by
 have : w = [] := by
  have hk' : k = 1 ∨ k = 2 ∨ (k = 3 ∨ k = 4) ∨ k = 5 ∨ k = 10 := by omega
  rcases hk' with rfl | rfl | hk | rfl | rfl
  ·rw [mW1] at h; split at h <;> cases h; rfl
  ·rw [mW2] at h; cases h; rfl
  ·rw [A3v hk] at h; cases h; rfl
  ·rw [mW5] at h; cases h; rfl
  ·rw [A4n] at h; cases h; rfl
 subst this; rfl
end
theorem B3C (cx : Cx) (k : Int) (nm : ByteArray) (num : Int) (ty fr : Ty) (lb : Int) (ks : List Tm) (ts w : List Ty) (t : Ty) (G : IM) (cells tcells : List Value) (p : Option Addr) (c : Nat) (es : List (List Value))
  (hw : K0 cx k nm ty ts = some (w, t)) (hk14 : k ≠ 14) (hops : D0 k = ts.length) (hr : B0 G (.mk k nm num ty fr lb ks) cells) (hsl : D2 G p ts.length c 2 es) (hkl : C6 G ts es) (har : ∀ t ∈ ts, E2 t) (hrt : B7 G t tcells) :
  Fn Tryz.prog 131 [.agg ⟨cells⟩, .slice p ts.length c, .agg ⟨tcells⟩] [] G (V4 (R4 w ts) ts.length G) := by
 have hone := hr.one
 have hop := A2C hops
 have hkr : 1 ≤ k ∧ k ≤ 14 := A3B (by rw [hops]; omega)
 have ha0 := fun h : 0 < ts.length => har _ (List.getElem_mem h)
 obtain ⟨tyk, tyks⟩ := ty
 obtain ⟨fk, fks⟩ := fr
 obtain ⟨tk, tks⟩ := t
 obtain ⟨q9, d9, e9, rfl, _⟩ := hrt.open
 obtain ⟨pt, ct, pf, cf, pk, ck, ek, rfl, hk, hnum, hlb, hrty, hrfr, _, _⟩ := hr.open9
 have o6 := fun h hl => wo6 h hw hl
 have o78 := fun h => B3z h hw
 have o9 := fun h => wo9 h hw
 have o11 := fun h hl => B3A h hw hl
 have o13 := fun h => B3B h hw
 have o0 := fun h => wo0 h hw
 refine C0 Tryz.func131 rfl Tryz.ntmps131 Tryz.results131 rfl ?_
 intro w0
 refine tS (tR ?_)
 refine sE (C5 rfl rfl) rfl (fun b3 => ?_)
 refine sE (C5 rfl rfl) rfl (fun b4 => ?_)
 refine sQ (qA rfl) rfl (sD (nS (tS (tS (tR (sQ (A0 rfl) rfl (sL (A3 rfl rfl) rfl rfl (sD (nS ?_)))))))))
 refine B9 (tS (tR (sB (qE rfl rfl) rfl rfl (fun h18 => ?_) (fun h18 => ?_))))
 refine sQ (qA rfl) rfl (sD (nS (qT rfl (tS (tR (sQ (qM rfl) rfl ?_))))))
 (have hl2 : ts.length = 2 := hop.1 (by omega); obtain ⟨b0, o0', q0, d0, hp0, hat0, hre0, hg0⟩ := hsl.kidTy hkl (i := 0) (by omega) (by omega); cases hp0; refine sP (B3 (j := 0) rfl rfl rfl (by omega)) rfl rfl ?_)
 refine sL (A5 rfl rfl (hat0 _) rfl) rfl rfl ?_
 (obtain ⟨ma', mb', hm, hwo⟩ := o6 (by omega) (by omega); refine E5 rfl (A2I 4 ts[0] G _ (.inl rfl) (ha0 (by omega)) hre0) rfl rfl (fun v G1 hle1 hh => ?_); obtain ⟨ma, mca, mb, mcb, rfl, hma, hmb, hma2, hmb2, hpp⟩ := hh; have hpe := hpp _ hm; simp only [Prod.mk.injEq] at hpe; obtain ⟨rfl, rfl⟩ := hpe; obtain ⟨p1, c1, e1, rfl, _⟩ := hma.open; obtain ⟨p2, c2, e2, rfl, _⟩ := hmb.open; have hTwo := A2c 4 _ _ G1 _ _ (.inl rfl) hma2 hmb2 hma hmb)
 refine sQ (qM rfl) rfl (sQ (pX rfl rfl) rfl (sQ (pX rfl rfl) rfl (sQ (pX rfl rfl) rfl ?_)))
 refine sE (A7 rfl) rfl (fun b33 => ?_)
 refine sE (A7 rfl) rfl (fun b34 => ?_)
 refine B1 ?_
 refine B1 ?_
 refine sQ (qA rfl) rfl (sD (nS (tS (tR (sL (A2 rfl rfl) rfl rfl (sL (A2 rfl rfl) rfl rfl ?_))))))
 (refine E5 rfl hTwo rfl rfl (fun v G2 hle2 hh => ?_); obtain ⟨mc, rfl, hmr⟩ := hh; obtain ⟨p3, c3, e3, rfl, _⟩ := hmr.open; have hma4 := hma.mono hle2)
 refine sQ (qM rfl) rfl (sQ (pX rfl rfl) rfl (sQ (pX rfl rfl) rfl ?_))
 refine sE (A7 rfl) rfl (fun b48 => ?_)
 refine B1 ?_
 refine sQ (qA rfl) rfl (sD (nS (tS (tR (sL (A2 rfl rfl) rfl rfl (sL (A2 rfl rfl) rfl rfl ?_))))))
 (refine I5 (C7 rfl rfl rfl (by omega) (by unfold maxLen; omega) rfl) rfl ?_; rintro _ ⟨b57, rfl⟩)
 refine sQ (qA rfl) rfl (sD (nS ?_))
 (refine E9 (by repeat (first | exact Pk.here | apply Pk.there)) (fun G5 hle5 hsl5 hno5 => ?_))
 refine tT (rB (rS (A9 (rT rfl) ?_)))
 (exact V4.mk2 hwo (hop.1 (by omega)) hsl5 (hmr.mono hle5) (hma4.mono hle5))
 refine sQ (qA rfl) rfl (sD (nS (cF rfl (tS (tS (tR ?_))))))
 refine sB (qE rfl rfl) rfl rfl (fun h74 => ?_) (fun h74 => ?_)
 refine sQ (qA rfl) rfl (sD (nS (qT rfl (tK (nS (qT rfl (tS (tR ?_))))))))
 refine H0 rfl ((A0e _)) rfl rfl ?_
 refine H0 rfl ((A0e _)) rfl rfl ?_
 (refine I5 (C7 rfl rfl rfl (by omega) (by unfold maxLen; omega) rfl) rfl ?_; rintro _ ⟨b86, rfl⟩)
 refine sQ (qA rfl) rfl (sD (nS ?_))
 (refine E9 (by repeat (first | exact Pk.here | apply Pk.there)) (fun G5 hle5 hsl5 hno5 => ?_))
 refine tT (rB (rS (A9 (rT rfl) ?_)))
 (exact V4.mk2 (o78 (by omega)) (hop.1 (by omega)) hsl5 (J7 _) (J7 _))
 refine sQ (qA rfl) rfl (sD (nS (cF rfl (tR ?_))))
 refine sB (qE rfl rfl) rfl rfl (fun h101 => ?_) (fun h101 => ?_)
 refine sQ (qA rfl) rfl (sD (nS (qT rfl (tS (tR ?_)))))
 refine H0 rfl ((A0e _)) rfl rfl ?_
 refine H0 rfl ((A0e _)) rfl rfl ?_
 (refine I5 (C7 rfl rfl rfl (by omega) (by unfold maxLen; omega) rfl) rfl ?_; rintro _ ⟨b110, rfl⟩)
 refine sQ (qA rfl) rfl (sD (nS ?_))
 (refine E9 (by repeat (first | exact Pk.here | apply Pk.there)) (fun G5 hle5 hsl5 hno5 => ?_))
 refine tT (rB (rS (A9 (rT rfl) ?_)))
 (exact V4.mk2 (o78 (by omega)) (hop.1 (by omega)) hsl5 (J7 _) (J7 _))
 refine sQ (qA rfl) rfl (sD (nS (cF rfl (tS (tR ?_)))))
 refine sB (qE rfl rfl) rfl rfl (fun h126 => ?_) (fun h126 => ?_)
 refine sQ (qA rfl) rfl (sD (nS (qT rfl (tS ?_))))
 refine D4 D6 rfl ?_
 refine K2 (i := 1) (l' := [ff,tt,ff,ff,ff]) rfl C9 (A2 rfl rfl) rfl (by kernel_rfl) rfl rfl ?_
 refine aL 2 rfl (A2 rfl rfl) rfl ?_
 refine A4 0 ?_
 refine M7 rfl rfl ((A2A _)) rfl rfl rfl ?_
 refine A4 3 ?_
 (refine E0 rfl (C7 rfl rfl rfl (by omega) (by unfold maxLen; omega) rfl) rfl rfl ?_; rintro _ ⟨b138, rfl⟩)
 refine aP 4 rfl (qA rfl) rfl ?_
 refine B5 (nS ?_)
 (refine E9 (by repeat (first | exact Pk.here | apply Pk.there)) (fun G5 hle5 hsl5 hno5 => ?_))
 refine tT (rB (rS (A9 (rT rfl) ?_)))
 (exact V4.mk3 (o9 (by omega)) (hop.2.1 (by omega)) hsl5 (X8 _) (hrt.mono hle5) (hrt.mono hle5))
 refine sQ (qA rfl) rfl (sD (nS (cF rfl (tS (tS (tR ?_))))))
 refine sB (qE rfl rfl) rfl rfl (fun h155 => ?_) (fun h155 => ?_)
 refine sQ (qA rfl) rfl (sD (nS (qT rfl (tK (nS (qT rfl (tS (tR (sQ (qM rfl) rfl ?_)))))))))
 (have hl1 : ts.length = 1 := hop.2.2 (by omega); obtain ⟨b0, o0', q0, d0, hp0, hat0, hre0, hg0⟩ := hsl.kidTy hkl (i := 0) (by omega) (by omega); cases hp0; refine sP (B3 (j := 0) rfl rfl rfl (by omega)) rfl rfl ?_)
 refine sL (A5 rfl rfl (hat0 _) rfl) rfl rfl ?_
 (obtain ⟨ma', mb', hm, hwo⟩ := o11 (by omega) (by omega); refine E5 rfl (A2I 5 ts[0] G _ (.inr rfl) (ha0 (by omega)) hre0) rfl rfl (fun v G1 hle1 hh => ?_); obtain ⟨ma, mca, mb, mcb, rfl, hma, hmb, hma2, hmb2, hpp⟩ := hh; have hpe := hpp _ hm; simp only [Prod.mk.injEq] at hpe; obtain ⟨rfl, rfl⟩ := hpe; obtain ⟨p1, c1, e1, rfl, _⟩ := hma.open; obtain ⟨p2, c2, e2, rfl, _⟩ := hmb.open; have hTwo := A2c 5 _ _ G1 _ _ (.inr rfl) hma2 hmb2 hma hmb)
 refine sQ (qM rfl) rfl (sQ (pX rfl rfl) rfl (sQ (pX rfl rfl) rfl (sQ (pX rfl rfl) rfl ?_)))
 refine sE (A7 rfl) rfl (fun b173 => ?_)
 refine sE (A7 rfl) rfl (fun b174 => ?_)
 refine B1 ?_
 refine B1 ?_
 refine sQ (qA rfl) rfl (sD (nS (tS (tR (sL (A2 rfl rfl) rfl rfl (sL (A2 rfl rfl) rfl rfl ?_))))))
 (refine E5 rfl hTwo rfl rfl (fun v G2 hle2 hh => ?_); obtain ⟨mc, rfl, hmr⟩ := hh; obtain ⟨p3, c3, e3, rfl, _⟩ := hmr.open; have hma4 := hma.mono hle2)
 refine sQ (qM rfl) rfl (sQ (pX rfl rfl) rfl (sQ (pX rfl rfl) rfl ?_))
 refine sE (A7 rfl) rfl (fun b188 => ?_)
 refine B1 ?_
 refine sQ (qA rfl) rfl (sD (nS (tS (tR (sL (A2 rfl rfl) rfl rfl ?_)))))
 (refine I5 (C7 rfl rfl rfl (by omega) (by unfold maxLen; omega) rfl) rfl ?_; rintro _ ⟨b196, rfl⟩)
 refine sQ (qA rfl) rfl (sD (nS ?_))
 (refine E9 (by repeat (first | exact Pk.here | apply Pk.there)) (fun G5 hle5 hsl5 hno5 => ?_))
 refine tT (rB (rS (A9 (rT rfl) ?_)))
 (exact V4.mk1 hwo (hop.2.2 (by omega)) hsl5 (hmr.mono hle5))
 refine sQ (qA rfl) rfl (sD (nS (cF rfl (tR ?_))))
 refine sB (qE rfl rfl) rfl rfl (fun h211 => ?_) (fun h211 => ?_)
 refine sQ (qA rfl) rfl (sD (nS (qT rfl (tS (tR (sQ (qM rfl) rfl ?_))))))
 (have hl1 : ts.length = 1 := hop.2.2 (by omega); obtain ⟨b0, o0', q0, d0, hp0, hat0, hre0, hg0⟩ := hsl.kidTy hkl (i := 0) (by omega) (by omega); cases hp0; refine sP (B3 (j := 0) rfl rfl rfl (by omega)) rfl rfl ?_)
 refine sL (A5 rfl rfl (hat0 _) rfl) rfl rfl ?_
 (obtain ⟨ma', mb', hm, hwo⟩ := o11 (by omega) (by omega); refine E5 rfl (A2I 5 ts[0] G _ (.inr rfl) (ha0 (by omega)) hre0) rfl rfl (fun v G1 hle1 hh => ?_); obtain ⟨ma, mca, mb, mcb, rfl, hma, hmb, hma2, hmb2, hpp⟩ := hh; have hpe := hpp _ hm; simp only [Prod.mk.injEq] at hpe; obtain ⟨rfl, rfl⟩ := hpe; obtain ⟨p1, c1, e1, rfl, _⟩ := hma.open; obtain ⟨p2, c2, e2, rfl, _⟩ := hmb.open; have hTwo := A2c 5 _ _ G1 _ _ (.inr rfl) hma2 hmb2 hma hmb)
 refine sQ (qM rfl) rfl (sQ (pX rfl rfl) rfl (sQ (pX rfl rfl) rfl (sQ (pX rfl rfl) rfl ?_)))
 refine sE (A7 rfl) rfl (fun b226 => ?_)
 refine sE (A7 rfl) rfl (fun b227 => ?_)
 refine B1 ?_
 refine B1 ?_
 refine sQ (qA rfl) rfl (sD (nS (tS (tR (sL (A2 rfl rfl) rfl rfl (sL (A2 rfl rfl) rfl rfl ?_))))))
 (refine E5 rfl hTwo rfl rfl (fun v G2 hle2 hh => ?_); obtain ⟨mc, rfl, hmr⟩ := hh; obtain ⟨p3, c3, e3, rfl, _⟩ := hmr.open; have hma4 := hma.mono hle2)
 refine sQ (qM rfl) rfl (sQ (pX rfl rfl) rfl (sQ (pX rfl rfl) rfl ?_))
 refine sE (A7 rfl) rfl (fun b241 => ?_)
 refine B1 ?_
 refine sQ (qA rfl) rfl (sD (nS (tS (tR (sL (A2 rfl rfl) rfl rfl ?_)))))
 (refine I5 (C7 rfl rfl rfl (by omega) (by unfold maxLen; omega) rfl) rfl ?_; rintro _ ⟨b249, rfl⟩)
 refine sQ (qA rfl) rfl (sD (nS ?_))
 (refine E9 (by repeat (first | exact Pk.here | apply Pk.there)) (fun G5 hle5 hsl5 hno5 => ?_))
 refine tT (rB (rS (A9 (rT rfl) ?_)))
 (exact V4.mk1 hwo (hop.2.2 (by omega)) hsl5 (hmr.mono hle5))
 refine sQ (qA rfl) rfl (sD (nS (cF rfl (tS (tR ?_)))))
 refine sB (qE rfl rfl) rfl rfl (fun h265 => ?_) (fun h265 => ?_)
 refine sQ (qA rfl) rfl (sD (nS (qT rfl (tS (tR (sL (A2 rfl rfl) rfl rfl ?_))))))
 (refine I5 (C7 rfl rfl rfl (by omega) (by unfold maxLen; omega) rfl) rfl ?_; rintro _ ⟨b273, rfl⟩)
 refine sQ (qA rfl) rfl (sD (nS ?_))
 (refine E9 (by repeat (first | exact Pk.here | apply Pk.there)) (fun G5 hle5 hsl5 hno5 => ?_))
 refine tT (rB (rS (A9 (rT rfl) ?_)))
 (exact V4.mk1 (o13 (by omega)) (hop.2.2 (by omega)) hsl5 (hrt.mono hle5))
 refine L9 ?_
 (exact V4.mk (o0 (by omega)) rfl hsl.sl hkl)
theorem A84 : ∀ (us : List Tm) (h : List Ty) (l : Int), F4 us h h l = (us, l)
 | [], h, l => by simp [F4]
 | u :: us, [], l => by simp [F4]
 | u :: us, a :: h, l => by simp only [F4, A37, if_true, A84 us h l]
theorem A4z {us : List Tm} {h w : List Ty} {l : Int} : F4 us h (R4 w h) l = F4 us h w l := by
 unfold R4
 split
 ·rename_i hw; subst hw; rw [A84, A0q]
 ·rfl
theorem B3D {cx : Cx} {k : Int} {nm : ByteArray} {ty : Ty} {h w : List Ty} {t : Ty} (hh : ∀ a ∈ h, E4 a = true) (hw : Wt cx k nm ty h w t) : ∀ a ∈ R4 w h, E4 a = true := by
 intro a ha
 unfold R4 at ha
 split at ha
 ·exact hh a ha
 ·rename_i hne
  obtain ⟨i, hi, rfl⟩ := List.mem_iff_getElem.1 ha
  exact (hw.ok i hi (by rcases hw.len with h1 | h1; exact absurd h1 hne; omega)).2
def B3E (u : Tm) (t : Ty) (l : Int) (G : IM) : IM → Value → List A6 → Prop := L8 fun G' v => ∃ cu ct, v = .tuple ⟨[.agg ⟨cu⟩, .agg ⟨ct⟩, .int .i64 (l + 1)]⟩ ∧ B0 G' u cu ∧ B7 G' t ct
theorem A85 {cx : Cx} : ∀ {ks : List Tm} {l : Int} {us : List Tm} {h : List Ty} {l' : Int}, M2 cx ks l = some (us, h, l') → us.length = ks.length ∧ h.length = ks.length
 | [], l, us, h, l', he => by simp only [M2, Option.some.injEq, Prod.mk.injEq] at he; obtain ⟨rfl, rfl, _⟩ := he; exact ⟨rfl, rfl⟩
 | t :: ts, l, us, h, l', he => by
  rw [M2] at he
  split at he
  ·cases he
  ·split at he
   ·cases he
   ·rename_i hz
    simp only [Option.some.injEq, Prod.mk.injEq] at he
    obtain ⟨rfl, rfl, _⟩ := he
    have := A85 hz
    simp [this.1, this.2]
theorem B3F : ∀ (e : Tm) (d : Int) (cx : Cx) (l0 : Int) (u0 : Tm) (t0 : Ty) (l1 : Int) (G : IM) (p : Option Addr) (n c : Nat) (cells : List Value), M8 cx e l0 = some (u0, t0, l1) → N5 12 14 e d = true → (n : Int) ≤ d → V0 cx → R3 G cx p n c → B0 G e cells → 0 ≤ l0 → l0 + (D1 e : Int) ≤ 1000000000 →
  Fn Tryz.prog 85 [.slice p n c, .agg ⟨cells⟩, .int .i64 (l0 + 1)] [] G (B3E u0 t0 l1 G) := by
 refine Tm.ind fun k nm num ty fr lb ks ih d cx l0 u0 t0 l1 G p n c cells hel hv hnd hcv hx hr hl0 hlc => ?_
 have hr0 := hr
 have hone := hr.one
 have hT := A82 _ d cx G p n c cells hv hnd hcv hx hr
 obtain ⟨hts1, hts2⟩ := (A2b _ d cx l0 hv hcv).1 u0 t0 l1 hel
 rw [hts1] at hT
 have hsm := A7L _ d hv
 obtain ⟨hv1, hv2, hv3, hv4⟩ := A0z hv
 have hvk := (A0T 12 14 ks _).1 hv4
 have har := (U0.1 hv3).1
 have hop := A2C har
 obtain ⟨hta, hts⟩ := A2E hv3
 have hcvX : V0 (J2 cx k nm ty) := A2G hcv fun hk => (U0.1 hv3).2.2.2.2.2.1 (.inl hk)
 have hck : D1 (.mk k nm num ty fr lb ks) = E1 ks + 1 := W6 ..
 rw [hck] at hlc
 rw [M8] at hel
 rcases hEL : M2 (J2 cx k nm ty) ks l0 with _ | ⟨usA, tsA, lA⟩
 ·rw [hEL] at hel; cases hel
 rw [hEL] at hel
 unfold A0V at hel
 rcases hNT : S1 cx k nm ty tsA with _ | ⟨w, t9⟩
 ·simp only [hNT] at hel; cases hel
 simp only [hNT, Option.some.injEq, Prod.mk.injEq] at hel
 obtain ⟨hu0, rfl, rfl⟩ := hel
 obtain ⟨hlA1, hlA2⟩ := A85 hEL
 have hmw := (A3w hNT).2
 obtain ⟨_, htv, _⟩ := (A5E ks (fun t ht d' cx' l' h1 h2 => A2b t d' cx' l' h1 h2) (d + 1) _ l0 hv4 hcvX).1 usA tsA lA hEL
 have hcAll := A09 usA tsA w lA
 have hWV : ∀ a ∈ R4 w tsA, E4 a = true := B3D htv (A51 htv (fun hk => (U0.1 hv3).2.2.2.2.2.1 (.inr (.inl hk))) (by rw [hlA2]; exact har) hv2 hmw)
 obtain ⟨tk, tks⟩ := ty
 obtain ⟨fk, fks⟩ := fr
 obtain ⟨pt, ct, pf, cf, q, cq, es, rfl, hk, hnum, hlb, hty, hfr, hsl, hkl⟩ := hr.open9
 have hlen : ks.length ≤ 3 := by have := A06 k; omega
 have hk13 : k = 13 → ks.length = 1 := fun h => hop.2.2 (by omega)
 refine C0 Tryz.func85 rfl Tryz.ntmps85 Tryz.results85 rfl ?_
 intro w0
 refine tS (tR ?_)
 refine sE (C5 rfl rfl) rfl (fun b3 => ?_)
 refine sE (A7 rfl) rfl (fun b4 => ?_)
 refine sE (A7 rfl) rfl (fun b5 => ?_)
 refine sQ (qA rfl) rfl (sD (nS (tS (tR (sQ (qM rfl) rfl (sL (A2 rfl rfl) rfl rfl ?_))))))
 (refine E5 rfl hT rfl rfl (fun v G1 hle1 hh => ?_); obtain ⟨mt, mc, rfl, hmr, hma, hmu⟩ := hh; obtain rfl := hmu _ rfl; obtain ⟨p1, d1, e1, rfl, _⟩ := hmr.open; have hC := A2y _ G1 _ hsm (hr0.mono hle1))
 refine sQ (qM rfl) rfl (sQ (pX rfl rfl) rfl (sQ (pX rfl rfl) rfl ?_))
 refine sE (A7 rfl) rfl (fun b17 => ?_)
 refine B1 ?_
 refine sQ (qA rfl) rfl (sD (nS (tS (tR (sL (A2 rfl rfl) rfl rfl ?_)))))
 (refine E5 rfl hC rfl rfl (fun v G2 hle2 hh => ?_); obtain ⟨cs1, F1, rfl, hs1, hn1⟩ := hh; have hr1 := hs1.R.mono (C4.le G2 G1); obtain ⟨q1, c1, q2, c2, q3, c3, es1, rfl, _, _, _, hty1, hfr1, _, _⟩ := hr1.open9; have hle02 := hle1.trans hle2; replace hx := hx.mono hle02; replace hty := hty.mono hle02; replace hsl := hsl.mono hle02; replace hkl := hkl.mono hle02; replace hmr := hmr.mono hle2; replace hr0 := hr0.mono hle02)
 refine sE (A7 rfl) rfl (fun b26 => ?_)
 refine B1 ?_
 refine sD (nS (tS (tR (sQ (A0 rfl) rfl (B1 ?_)))))
 refine sD (nS (tS (tS ?_)))
 (show H9 _ _ (.region 4 ..) _ _; refine Y4 (fun (x : Bool) => ⟨[(30, .bool x), (0, .slice p n c), (2, .int .i64 (l0 + 1)), (4, .pointer (some ⟨b3, 0, none⟩)), (6, .pointer (some ⟨b4, 0, none⟩)), (7, .pointer (some ⟨b5, 0, none⟩)), (9, .pointer (some ⟨b17, 0, none⟩)), (11, .pointer (some ⟨b26, 0, none⟩))], [.blk b26 [.int .i64 k, .string nm, .int .i64 num, .int .i64 tk, .slice q1 tks.length c1, .int .i64 fk, .slice q2 fks.length c2, .int .i64 lb, .slice none 0 0], .blk b17 [.int .i64 t9.k, .slice p1 t9.ks.length d1], .blk b5 [.int .i64 0, .slice none 0 0], .blk b4 [.int .i64 0, .string ⟨⟨[]⟩⟩, .int .i64 0, .int .i64 0, .slice none 0 0, .int .i64 0, .slice none 0 0, .int .i64 0, .slice none 0 0], .blk b3 [.int .i64 k, .string nm, .int .i64 num, .int .i64 tk, .slice pt tks.length ct, .int .i64 fk, .slice pf fks.length cf, .int .i64 lb, .slice q ks.length cq]], G2⟩) (fun x => x = true ↔ k = 5) ?_ ?_)
 ·refine tR (sQ (A0 rfl) rfl (sL (A3 rfl rfl) rfl rfl ?_))
  refine sB (qE rfl rfl) rfl rfl (fun h42 => ?_) (fun h42 => ?_)
  ·refine sD ?_
   refine P1 true (K6 (by repeat (first | exact D8.nil | refine D8.cons rfl ?_)) (by repeat (first | exact A1.refl | exact A1.nil | refine A1.cons (by repeat (first | exact Pk.here | apply Pk.there)) ?_ | apply A1.drop))) ⟨fun _ => (by omega), fun _ => rfl⟩
  ·refine sD ?_
   refine P1 false (K6 (by repeat (first | exact D8.nil | refine D8.cons rfl ?_)) (by repeat (first | exact A1.refl | exact A1.nil | refine A1.cons (by repeat (first | exact Pk.here | apply Pk.there)) ?_ | apply A1.drop))) ⟨fun h => (by cases h), fun _ => (by omega)⟩
 ·(rintro (x : Bool) hx5)
  (show H9 _ _ (.cond (.tmp 30) _ _) _ _; refine Y4 (fun (x : Option Addr × Nat × Nat × IM) => ⟨[(0, .slice x.1 x.2.1 x.2.2.1), (2, .int .i64 (l0 + 1)), (4, .pointer (some ⟨b3, 0, none⟩)), (6, .pointer (some ⟨b4, 0, none⟩)), (7, .pointer (some ⟨b5, 0, none⟩)), (9, .pointer (some ⟨b17, 0, none⟩)), (11, .pointer (some ⟨b26, 0, none⟩))], [.blk b26 [.int .i64 k, .string nm, .int .i64 num, .int .i64 tk, .slice q1 tks.length c1, .int .i64 fk, .slice q2 fks.length c2, .int .i64 lb, .slice none 0 0], .blk b17 [.int .i64 t9.k, .slice p1 t9.ks.length d1], .blk b5 [.int .i64 0, .slice none 0 0], .blk b4 [.int .i64 0, .string ⟨⟨[]⟩⟩, .int .i64 0, .int .i64 0, .slice none 0 0, .int .i64 0, .slice none 0 0, .int .i64 0, .slice none 0 0], .blk b3 [.int .i64 k, .string nm, .int .i64 num, .int .i64 tk, .slice pt tks.length ct, .int .i64 fk, .slice pf fks.length cf, .int .i64 lb, .slice q ks.length cq]], x.2.2.2⟩) (fun x => B8 G2 x.2.2.2 ∧ R3 x.2.2.2 (J2 cx k nm (.mk tk tks)) x.1 x.2.1 x.2.2.1 ∧ (x.2.1 : Int) ≤ d + 1) (A2V rfl (fun hxt => ?_) (fun hxf => ?_)) ?_)
  ·refine tR (sQ (qM rfl) rfl (sQ (A0 rfl) rfl (sL (A3 rfl rfl) rfl rfl (sQ (A0 rfl) rfl (sL (A2 rfl rfl) rfl rfl ?_)))))
   (refine E5 rfl (A8Z G2 cx p n c nm (.mk tk tks) _ hx (by omega) hty) rfl rfl (fun v G3 hle3 hh => ?_); obtain ⟨pm0, cm0, rfl, hxm⟩ := hh)
   refine sQ (qA rfl) rfl (sD ?_)
   refine P1 (pm0, n + 1, cm0, G3) (K6 (by repeat (first | exact D8.nil | refine D8.cons rfl ?_)) (by repeat (first | exact A1.refl | exact A1.nil | refine A1.cons (by repeat (first | exact Pk.here | apply Pk.there)) ?_ | apply A1.drop))) ?_
   (dsimp only; exact ⟨hle3, by rw [J2, if_pos (hx5.1 (by assumption))]; exact hxm, by omega⟩)
  ·refine tK ?_
   refine P1 (p, n, c, G2) (K6 (by repeat (first | exact D8.nil | refine D8.cons rfl ?_)) (by repeat (first | exact A1.refl | exact A1.nil | refine A1.cons (by repeat (first | exact Pk.here | apply Pk.there)) ?_ | apply A1.drop))) ?_
   (dsimp only; exact ⟨B8.refl _, by rw [J2, if_neg (fun h => by have := hx5.2 h; rw [this] at hxf; cases hxf)]; exact hx, by omega⟩)
  ·(rintro ⟨(px : Option Addr), nx, cxx, Gx⟩ ⟨hleX, hxX, hnX⟩; simp only [] at hleX hxX hnX ⊢; replace hty1 := hty1.mono hleX; replace hfr1 := hfr1.mono hleX; replace hsl := hsl.mono hleX; replace hkl := hkl.mono hleX; replace hmr := hmr.mono hleX; replace hr0 := hr0.mono hleX)
   refine tS (tR ?_)
   (refine I5 (C7 rfl rfl rfl (by omega) (by unfold maxLen; omega) rfl) rfl ?_; rintro _ ⟨b66, rfl⟩)
   refine sQ (qA rfl) rfl (sD (nS (tS (tS (tR (sQ (qA rfl) rfl (sD (nS ?_))))))))
   refine B9 ?_
   (refine S0 28 9 ?_; refine J4 (fun (x : Nat × (Option Addr × Nat × List Tm × List (List Value)) × (Option Addr × Nat × List Ty × List (List Value)) × Int × IM) => ⟨[(13, .int .i64 x.1), (12, .slice x.2.2.1.1 x.1 x.2.2.1.2.1), (0, .slice px nx cxx), (2, .int .i64 (x.2.2.2.1 + 1)), (4, .pointer (some ⟨b3, 0, none⟩)), (6, .pointer (some ⟨b4, 0, none⟩)), (7, .pointer (some ⟨b5, 0, none⟩)), (9, .pointer (some ⟨b17, 0, none⟩)), (11, .pointer (some ⟨b26, 0, none⟩))], [.blk b26 [.int .i64 k, .string nm, .int .i64 num, .int .i64 tk, .slice q1 tks.length c1, .int .i64 fk, .slice q2 fks.length c2, .int .i64 lb, .slice x.2.1.1 x.1 x.2.1.2.1], .slc x.2.1.1 x.2.1.2.1 28 9 x.1 x.2.1.2.2.2.flatten, .slc x.2.2.1.1 x.2.2.1.2.1 25 2 x.1 x.2.2.1.2.2.2.flatten, .blk b17 [.int .i64 t9.k, .slice p1 t9.ks.length d1], .blk b5 [.int .i64 0, .slice none 0 0], .blk b4 [.int .i64 0, .string ⟨⟨[]⟩⟩, .int .i64 0, .int .i64 0, .slice none 0 0, .int .i64 0, .slice none 0 0, .int .i64 0, .slice none 0 0], .blk b3 [.int .i64 k, .string nm, .int .i64 num, .int .i64 tk, .slice pt tks.length ct, .int .i64 fk, .slice pf fks.length cf, .int .i64 lb, .slice q ks.length cq]], x.2.2.2.2⟩) (fun x => x.1 ≤ ks.length ∧ B8 Gx x.2.2.2.2 ∧ x.2.1.2.2.1.length = x.1 ∧ D3 x.2.2.2.2 x.2.1.2.2.1 x.2.1.2.2.2 ∧ x.2.2.1.2.2.1.length = x.1 ∧ C6 x.2.2.2.2 x.2.2.1.2.2.1 x.2.2.1.2.2.2 ∧ M2 (J2 cx k nm (.mk tk tks)) (ks.take x.1) l0 = some (x.2.1.2.2.1, x.2.2.1.2.2.1, x.2.2.2.1) ∧ l0 ≤ x.2.2.2.1 ∧ x.2.2.2.1 + x.1 ≤ l0 + (E1 (ks.take x.1) : Int)) (fun x => ks.length - x.1) (0, (none, 0, [], []), (some ⟨b66, 0, none⟩, 0, [], []), l0, Gx) ?_ ?_ ?_)
   ·(simp only [List.take_zero, A0q]; exact (K6 (by repeat (first | exact D8.nil | refine D8.cons rfl ?_)) (by repeat (first | exact A1.refl | exact A1.nil | refine A1.cons (by repeat (first | exact Pk.here | apply Pk.there)) ?_ | apply A1.drop))))
   ·(exact ⟨by simp, B8.refl _, rfl, by simp [D3], rfl, by simp [C6], by simp [M2], Int.le_refl _, by simp [E1]⟩)
   ·(rintro ⟨i, ⟨pn, cn, us, es'⟩, ⟨pm, cm, ts, ess⟩, l, Gi⟩ ⟨hi, hle, hlu, hst, hlt, hstt, hml, hl1, hl2⟩; simp only [] at hi hle hlu hst hlt hstt hml hl1 hl2 ⊢; replace hty1 := hty1.mono hle; replace hfr1 := hfr1.mono hle; replace hsl := hsl.mono hle; replace hkl := hkl.mono hle; replace hmr := hmr.mono hle; replace hr0 := hr0.mono hle; replace hxX := hxX.mono hle)
    refine tS (tS (tR (sQ (qM rfl) rfl (sQ (A0 rfl) rfl (sL (A3 rfl rfl) rfl rfl (sQ (H8 rfl rfl) rfl ?_))))))
    refine sB (J1 rfl rfl) rfl rfl (fun h88 => ?_) (fun h88 => ?_)
    ·refine sD (nS (qT rfl (tK (nS (tS ?_)))))
     refine B9 ?_
     refine tS (tR (sQ (qM rfl) rfl (sQ (A0 rfl) rfl (sL (A3 rfl rfl) rfl rfl (sQ (qM rfl) rfl ?_)))))
     (obtain ⟨b, o, e, rfl, hl, hate, hre, hgb⟩ := hsl.kidTm hkl (i := i) (by omega) (by omega); have hsc := A0Q (ks := ks) (i := i) (by omega); have hsk := A0P (ks := ks) (i := i) (by omega); rcases hE : M8 (J2 cx k nm (Ty.mk tk tks)) ks[i] l with _ | ⟨u, t, l3⟩; (have hno := A5J (by omega) hml hE; rw [hEL] at hno; cases hno); have hlm := A53.el_mono _ _ _ _ _ _ hE; have hlx := A8U ks[i] (d + 1) _ l u t l3 (hvk i (by omega)) hE; refine sP (B3 rfl rfl rfl (by omega)) rfl rfl ?_)
     refine sL (A5 rfl rfl (hate _) hl) rfl rfl ?_
     refine sQ (qM rfl) rfl ?_
     (refine E5 rfl (ih ks[i] (List.getElem_mem (by omega)) (d + 1) _ l u t l3 Gi px nx cxx _ hE (hvk i (by omega)) (by omega) hcvX hxX hre (by omega) (by omega)) rfl rfl (fun v G3 hle3 hh => ?_); obtain ⟨uc, tc, rfl, hru, hrt⟩ := hh; obtain ⟨v1, v2, v3, v4, v5, v6, v7, v8, v9, rfl⟩ := nine hru.len; obtain ⟨p3, c3, e3, rfl, _⟩ := hrt.open; have hlu9 := hru.len; have hou9 := hru.one)
     refine sQ (qM rfl) rfl (sQ (pX rfl rfl) rfl (sQ (pX rfl rfl) rfl (sQ (pX rfl rfl) rfl ?_)))
     refine sE (A7 rfl) rfl (fun b110 => ?_)
     refine sE (A7 rfl) rfl (fun b111 => ?_)
     refine sS rfl rfl rfl hlu9 hou9 rfl ?_ (hu := by exact D5 hlu9.symm)
     refine B1 ?_
     refine sQ (qA rfl) rfl (sD (nS (tS (tR (sQ (A0 rfl) rfl (sL (A3 rfl rfl) rfl rfl (sL (A2 rfl rfl) rfl rfl ?_)))))))
     (refine I5 (C7 rfl rfl rfl (by omega) (by unfold maxLen; omega) rfl) rfl ?_; rintro _ ⟨b122, rfl⟩)
     refine A0M rfl rfl rfl rfl rfl (fun _ _ => by repeat (first | exact Sw.here | apply Sw.there)) (M9 (by repeat first | exact mH | apply mT)) rfl (fun u hu => List.all_eq_true.1 hou9 u hu) (by unfold maxLen; omega) (by omega) rfl (fun pn' cn' => ?_)
     refine sQ (A0 rfl) rfl (B1 ?_)
     refine sD (nS (tS (tR (sQ (qM rfl) rfl (sL (A2 rfl rfl) rfl rfl ?_)))))
     (refine I5 (C7 rfl rfl rfl (by omega) (by unfold maxLen; omega) rfl) rfl ?_; rintro _ ⟨b132, rfl⟩)
     refine A0M rfl rfl rfl rfl rfl (fun _ _ => by repeat (first | exact Sw.here | apply Sw.there)) (M9 (by repeat first | exact mH | apply mT)) rfl (by simp [Value.oneCell']) (by unfold maxLen; omega) (by omega) rfl (fun pm' cm' => ?_)
     refine sQ (qA rfl) rfl (sD (nS (tR (sQ (qM rfl) rfl (sQ (qA rfl) rfl (sD (E3 (nS (tR (sQ (qM rfl) rfl ?_))))))))))
     refine sP (I7 rfl rfl (by omega) (by omega)) rfl rfl ?_
     refine sQ (qA rfl) rfl (sD ?_)
     refine J3 (i + 1, (pn', cn', us ++ [u], es' ++ [[v1, v2, v3, v4, v5, v6, v7, v8, v9]]), (pm', cm', ts ++ [t], ess ++ [[.int .i64 t.k, .slice p3 t.ks.length c3]]), l3, G3) ?_ ?_ ?_
     ·(simp only [I3]; exact D9)
     ·(dsimp only; exact ⟨by omega, hle.trans hle3, by simp [hlu], D3.snoc (hst.mono hle3) hru, by simp [hlt], C6.snoc (hstt.mono hle3) hrt, A3t (by omega) hml hE, by omega, by omega⟩)
     ·(show ks.length - (i + 1) < ks.length - i; omega)
    ·refine T6 ?_
     (obtain rfl : i = ks.length := (by omega); rw [List.take_length] at hml hl2; rw [hEL] at hml; simp only [Option.some.injEq, Prod.mk.injEq] at hml; obtain ⟨rfl, rfl, rfl⟩ := hml; refine R8 (cs := ess.flatten) (by repeat (first | exact Pk.here | apply Pk.there)) (fun G4 hle4 hsl4 hno4 => ?_); have hstt4 := hstt.mono hle4; have hslT : D2 G4 pm ks.length cm 2 ess := D2.of hsl4 (by rw [hstt4.len, hlt]) hstt4.all (fun e he => (hstt4.each e he).2); have hW := B3C cx k nm num (.mk tk tks) (.mk fk fks) lb ks _ w _ G4 _ _ pm cm ess hmw hv2 (by rw [hlt]; exact har) (hr0.mono hle4) (by rw [hlt]; exact hslT) hstt4 (fun t ht => A2h (htv t ht)) (hmr.mono hle4); rw [hlt] at hW; refine E5 rfl hW rfl rfl (fun v G5 hle5 hh => ?_); obtain ⟨pw, cw, esw, rfl, hlw, hsw, hstw⟩ := hh; have hle45 := hle4.trans hle5; replace hty1 := hty1.mono hle45; replace hfr1 := hfr1.mono hle45; replace hmr := hmr.mono hle45; replace hst := hst.mono hle45; replace hslT := hslT.mono hle5; replace hstt := hstt.mono hle45; rcases Nat.eq_zero_or_pos ks.length with h0 | h0)
     ·refine sQ (qA rfl) rfl (sD (nS (tS (tS (tR (sQ (qA rfl) rfl (sD (nS ?_))))))))
      refine B9 ?_
      (have h0' : ks.length = 0 := h0; refine J4 (fun (_ : Nat) => ⟨[(18, .int .i64 0), (17, .slice pw ks.length cw), (12, .slice pm ks.length cm), (2, .int .i64 (lA + 1)), (4, .pointer (some ⟨b3, 0, none⟩)), (6, .pointer (some ⟨b4, 0, none⟩)), (7, .pointer (some ⟨b5, 0, none⟩)), (9, .pointer (some ⟨b17, 0, none⟩)), (11, .pointer (some ⟨b26, 0, none⟩))], [.blk b26 [.int .i64 k, .string nm, .int .i64 num, .int .i64 tk, .slice q1 tks.length c1, .int .i64 fk, .slice q2 fks.length c2, .int .i64 lb, .slice pn ks.length cn], .slc pn cn 28 9 ks.length es'.flatten, .blk b17 [.int .i64 t9.k, .slice p1 t9.ks.length d1], .blk b5 [.int .i64 0, .slice none 0 0], .blk b4 [.int .i64 0, .string ⟨⟨[]⟩⟩, .int .i64 0, .int .i64 0, .slice none 0 0, .int .i64 0, .slice none 0 0, .int .i64 0, .slice none 0 0], .blk b3 [.int .i64 k, .string nm, .int .i64 num, .int .i64 tk, .slice pt tks.length ct, .int .i64 fk, .slice pf fks.length cf, .int .i64 lb, .slice q ks.length cq]], G5⟩) (fun _ => True) (fun i => i) 0 ?_ ?_ ?_)
      ·exact D9
      ·trivial
      ·(rintro (i0 : Nat) _)
       refine tS (tS (tR (sQ (qM rfl) rfl (sQ (qM rfl) rfl (sQ (H8 rfl rfl) rfl ?_)))))
       refine sP (A2r rfl rfl (by omega)) rfl rfl ?_
       refine T6 ?_
       refine sP (I2 rfl rfl (by omega)) rfl rfl ?_
       refine sD (nS (cF rfl (tK (nS (tS ?_)))))
       refine D4 D6 rfl ?_
       refine K2 (i := 0) (l' := [tt,ff,ff,ff,ff,ff]) rfl C9 (A2 rfl rfl) rfl (by kernel_rfl) rfl rfl ?_
       refine aL 1 rfl (A2 rfl rfl) rfl ?_
       refine aP 2 rfl (qM rfl) rfl ?_
       refine A4 3 ?_
       refine oS rfl rfl rfl rfl rfl rfl rfl rfl ?_
       refine A4 4 ?_
       refine oS rfl rfl rfl rfl rfl rfl rfl rfl ?_
       refine aP 5 rfl (qA rfl) rfl ?_
       refine B5 (nS ?_)
       (refine E9 (cs := es'.flatten) (by repeat (first | exact Pk.here | apply Pk.there)) (fun G8 hle8 hsl8 hno8 => ?_); have hst8 := hst.mono hle8)
       refine tT ?_
       refine C8 (rC rfl (A2 rfl rfl)) (rC rfl (A2 rfl rfl)) (rT rfl) ?_
       (have hu9 : usA = [] := List.length_eq_zero_iff.1 (by omega); have hne : k ≠ 13 := (fun h => by have := hk13 h; omega); have hz : F4 usA tsA w lA = (usA, lA) := (by rw [hu9]; simp [F4]); rw [if_neg hne, hz] at hu0; subst hu0; rw [hz]; exact ⟨rfl, _, _, rfl, B0.put hk hnum hlb (hty1.mono hle8) (hfr1.mono hle8) hlA1.symm (D2.of hsl8 (by rw [hst8.len, hlA1]) hst8.all (fun e he => (hst8.each e he).2)) hst8, hmr.mono hle8⟩)
     ·(refine A3j (cs := es'.flatten) (by repeat (first | exact Pk.here | apply Pk.there)) h0 (fun bc C hpe hnc hcm => ?_); subst hpe; refine sQ (qA rfl) rfl ?_)
      refine sD (nS (tS (tS (tR (sQ (qA rfl) rfl (sD (nS ?_)))))))
      refine B9 ?_
      (have hLoop2 := hlw; refine J4 (fun (x : Nat × List (List Value) × IM) => ⟨[(18, .int .i64 x.1), (17, .slice pw ks.length cw), (12, .slice pm ks.length cm), (2, .int .i64 ((F4 usA tsA ((R4 w tsA).take x.1) lA).2 + 1)), (4, .pointer (some ⟨b3, 0, none⟩)), (6, .pointer (some ⟨b4, 0, none⟩)), (7, .pointer (some ⟨b5, 0, none⟩)), (9, .pointer (some ⟨b17, 0, none⟩)), (11, .pointer (some ⟨b26, 0, none⟩))], [.blk b26 [.int .i64 k, .string nm, .int .i64 num, .int .i64 tk, .slice q1 tks.length c1, .int .i64 fk, .slice q2 fks.length c2, .int .i64 lb, .slice (some ⟨bc, 0, none⟩) ks.length cn], .blk bc (x.2.1.flatten ++ C), .blk b17 [.int .i64 t9.k, .slice p1 t9.ks.length d1], .blk b5 [.int .i64 0, .slice none 0 0], .blk b4 [.int .i64 0, .string ⟨⟨[]⟩⟩, .int .i64 0, .int .i64 0, .slice none 0 0, .int .i64 0, .slice none 0 0, .int .i64 0, .slice none 0 0], .blk b3 [.int .i64 k, .string nm, .int .i64 num, .int .i64 tk, .slice pt tks.length ct, .int .i64 fk, .slice pf fks.length cf, .int .i64 lb, .slice q ks.length cq]], x.2.2⟩) (fun x => x.1 ≤ ks.length ∧ B8 G5 x.2.2 ∧ D3 x.2.2 (F4 usA tsA ((R4 w tsA).take x.1) lA).1 x.2.1) (fun x => ks.length - x.1) (0, es', G5) ?_ ?_ ?_)
      ·(simp only [List.take_zero, A0q]; exact (K6 (by repeat (first | exact D8.nil | refine D8.cons rfl ?_)) (by repeat (first | exact A1.refl | exact A1.nil | refine A1.cons (by repeat (first | exact Pk.here | apply Pk.there)) ?_ | apply A1.drop))))
      ·(exact ⟨Nat.zero_le _, B8.refl _, by simp only [List.take_zero, A0q]; exact hst⟩)
      ·(rintro ⟨j, es2, G6⟩ ⟨hj, hle6, hst2⟩; simp only [] at hj hle6 hst2 ⊢; replace hty1 := hty1.mono hle6; replace hfr1 := hfr1.mono hle6; replace hmr := hmr.mono hle6; replace hslT := hslT.mono hle6; replace hstt := hstt.mono hle6; replace hsw := hsw.mono hle6; replace hstw := hstw.mono hle6; have hle2s := hst2.len; rw [A1w] at hle2s; have hall2 := hst2.all)
       refine tS (tS (tR (sQ (qM rfl) rfl (sQ (qM rfl) rfl (sQ (H8 rfl rfl) rfl ?_)))))
       refine sB (J1 rfl rfl) rfl rfl (fun h242 => ?_) (fun h242 => ?_)
       ·refine sD (nS (qT rfl (tK (nS (tS ?_)))))
        refine B9 ?_
        (have hjw : j < (R4 w tsA).length := (by omega); obtain ⟨bt, ot, qt, dt, hpt, hatt, hrtt, hgt⟩ := hslT.kidTy hstt (i := j) (by omega) (by omega); obtain ⟨bw, ow, qw, dw, hpw, hatw, hrtw, hgw⟩ := (show D2 G6 pw (R4 w tsA).length cw 2 esw from by rw [hlw]; exact hsw).kidTy hstw (i := j) (by omega) (by omega); cases hpt; cases hpw; obtain ⟨m1, m2, _⟩ := A3u usA tsA (R4 w tsA) lA j hjw (by omega) (by omega); obtain ⟨m3, m4⟩ := A75 (us := usA) (h := tsA) (w := R4 w tsA) (l := lA) hjw (by omega) (by omega); obtain ⟨hE1, hE2⟩ := hst2.at2 (i := j) (by omega) (by omega); rw [m2] at hE2; have hE3 := hE2.len; have hcj := A09 usA tsA ((R4 w tsA).take j) lA; refine D4 D6 rfl ?_)
        refine I6 (i := 0) (l' := [tt,ff,ff,ff,ff,ff,ff,ff,ff,ff,ff,ff,ff,ff,ff,ff,ff,ff,ff,ff,ff,ff,ff,ff]) rfl C9 (A0 rfl) rfl (by kernel_rfl) rfl rfl ?_
        refine aL 1 rfl (A3 rfl rfl) rfl ?_
        refine aP 2 rfl (qM rfl) rfl ?_
        refine aP 3 rfl (A0 rfl) rfl ?_
        refine aL 4 rfl (A3 rfl rfl) rfl ?_
        refine aP 5 rfl (qM rfl) rfl ?_
        refine aP 6 rfl (B3 (j := j) rfl rfl rfl (by omega)) rfl ?_
        refine aL 7 rfl (A5 rfl rfl (A4e (es := es2) (by repeat first | exact mH | apply mT) (by omega) hall2) hE3) rfl ?_
        refine aP 8 rfl (qM rfl) rfl ?_
        refine aP 9 rfl (qM rfl) rfl ?_
        refine aP 10 rfl (B3 (j := j) rfl rfl rfl (by omega)) rfl ?_
        refine aL 11 rfl (A5 rfl rfl (hatt _) rfl) rfl ?_
        refine aP 12 rfl (qM rfl) rfl ?_
        refine aP 13 rfl (qM rfl) rfl ?_
        refine aP 14 rfl (B3 (j := j) rfl rfl rfl (by omega)) rfl ?_
        refine aL 15 rfl (A5 rfl rfl (hatw _) rfl) rfl ?_
        refine aP 16 rfl (qM rfl) rfl ?_
        refine A4 17 ?_
        (have hwsm := (A2h (hWV _ (List.getElem_mem (show j < (R4 w tsA).length by omega)))).small; refine F0 rfl rfl (B3y usA[j] tsA[j] (R4 w tsA)[j] _ _ _ _ _ (by omega) hE2 hrtt hrtw (A2h (htv _ (List.getElem_mem (by omega)))).small hwsm) rfl rfl rfl (fun v G7 hle7 hh => ?_); obtain ⟨uc, rfl, hru⟩ := hh; rw [show (if N1 tsA[j] (R4 w tsA)[j] = true then (F4 usA tsA ((R4 w tsA).take j) lA).2 + 1 else (F4 usA tsA ((R4 w tsA).take j) lA).2 + 1 + 1) = (F4 usA tsA ((R4 w tsA).take (j + 1)) lA).2 + 1 from by rw [m4]; split <;> rfl]; have hlu9 := hru.len; have hou9 := hru.one)
        refine aP 18 rfl (qM rfl) rfl ?_
        refine aP 19 rfl (pX rfl rfl) rfl ?_
        refine aP 21 rfl (B3 (j := j) rfl rfl rfl (by omega)) rfl ?_
        refine aP 20 rfl (pX rfl rfl) rfl ?_
        refine A4 22 ?_
        refine Q6 rfl rfl rfl rfl hlu9 hou9 rfl rfl (by kernel_rfl) (by repeat first | exact Sw.here | apply Sw.there) (by exact A3k (by omega) hall2 hlu9) ?_
        refine aP 23 rfl (qA rfl) rfl ?_
        refine B5 (E3 (nS (tR (sQ (qM rfl) rfl ?_))))
        refine sP (I7 rfl rfl (by omega) (by omega)) rfl rfl ?_
        refine sQ (qA rfl) rfl (sD ?_)
        refine J3 (j + 1, es2.set j uc, G7) ?_ ?_ ?_
        ·(simp only [List.take_zero, A0q]; exact (K6 (by repeat (first | exact D8.nil | refine D8.cons rfl ?_)) (by repeat (first | exact A1.refl | exact A1.nil | refine A1.cons (by repeat (first | exact Pk.here | apply Pk.there)) ?_ | apply A1.drop))))
        ·(dsimp only; exact ⟨by omega, hle6.trans hle7, by rw [m3]; exact D3.set (hst2.mono hle7) hru⟩)
        ·(show ks.length - (j + 1) < ks.length - j; omega)
       ·refine T6 ?_
        refine sB (qE rfl rfl) rfl rfl (fun h302 => ?_) (fun h302 => ?_)
        ·refine sD (nS (qT rfl (tS ?_)))
         (have hq13 : k = 13 := (by omega); have hl13 := hk13 hq13; have hjw : j = (R4 w tsA).length := (by omega); rw [hjw, List.take_length, A4z] at hst2; have hm0 := A1w usA tsA w lA; obtain ⟨hE1, hE2⟩ := hst2.at2 (i := 0) (by omega) (by omega); have hE3 := hE2.len; have hE4 := hE2.one; refine D4 D6 rfl ?_)
         refine I6 (i := 0) (l' := [tt,ff,ff,ff,ff,ff,ff,ff,ff]) rfl C9 (A0 rfl) rfl (by kernel_rfl) rfl rfl ?_
         refine aL 1 rfl (A3 rfl rfl) rfl ?_
         refine aP 2 rfl (B3 (j := 0) rfl rfl rfl (by omega)) rfl ?_
         refine aL 3 rfl (A5 rfl rfl (A4e (es := es2) (by repeat first | exact mH | apply mT) (by omega) hall2) hE3) rfl ?_
         refine aL 4 rfl (A2 rfl rfl) rfl ?_
         refine aP 5 rfl (qM rfl) rfl ?_
         refine A4 6 ?_
         refine oS rfl rfl rfl rfl hE3 hE4 rfl rfl ?_ (hu := by exact D5 hE3.symm)
         refine A4 7 ?_
         refine oS rfl rfl rfl rfl rfl rfl rfl rfl ?_
         refine aP 8 rfl (qA rfl) rfl ?_
         refine B5 (nS ?_)
         (refine A1Y (bs := [(bc, es2.flatten ++ C)]) (Pk.perm (by repeat (first | exact Pk.here | apply Pk.there))) (fun hn9 hd9 hle9 => ?_))
         refine tT (rS ?_)
         refine C8 (rC rfl (A5 rfl rfl (B2 (by repeat first | exact mH | apply mT)) hE3)) (rC rfl (A2 rfl rfl)) (rT rfl) ?_
         (rw [if_pos hq13, A8q (by omega)] at hu0; subst hu0; rw [hjw, List.take_length, A4z]; exact ⟨rfl, _, _, rfl, hE2.mono hle9, hmr.mono hle9⟩)
        ·refine sD (nS (cF rfl (tK (nS (tS ?_)))))
         refine D4 D6 rfl ?_
         refine K2 (i := 0) (l' := [tt,ff,ff,ff,ff,ff]) rfl C9 (A2 rfl rfl) rfl (by kernel_rfl) rfl rfl ?_
         refine aL 1 rfl (A2 rfl rfl) rfl ?_
         refine aP 2 rfl (qM rfl) rfl ?_
         refine A4 3 ?_
         refine oS rfl rfl rfl rfl rfl rfl rfl rfl ?_
         refine A4 4 ?_
         refine oS rfl rfl rfl rfl rfl rfl rfl rfl ?_
         refine aP 5 rfl (qA rfl) rfl ?_
         refine B5 (nS ?_)
         (refine A1Y (bs := [(bc, es2.flatten ++ C)]) (Pk.perm (by repeat (first | exact Pk.here | apply Pk.there))) (fun hn9 hd9 hle9 => ?_))
         refine tT ?_
         refine C8 (rC rfl (A2 rfl rfl)) (rC rfl (A2 rfl rfl)) (rT rfl) ?_
         (have hjw : j = (R4 w tsA).length := (by omega); rw [hjw, List.take_length, A4z] at hst2; have hst9 := hst2.mono hle9; have hm0 := A1w usA tsA w lA; rw [if_neg (by omega)] at hu0; subst hu0; rw [hjw, List.take_length, A4z]; exact ⟨rfl, _, _, rfl, B0.put hk hnum hlb (hty1.mono hle9) (hfr1.mono hle9) (by rw [hm0, hlA1]) (D2.of (Sl.of_blk (A := []) (by rw [A0v hst9.all, hst9.len, hm0, hlA1]) (by omega) hcm (Wi.in hn9 List.mem_cons_self)) (by rw [hst9.len, hm0, hlA1]) hst9.all (fun e he => (hst9.each e he).2)) hst9, hmr.mono hle9⟩)
theorem B3G (e : Tm) (G : IM) (cells : List Value) (hcnt : D1 e ≤ 4294967296) (hr : B0 G e cells) : Fn Tryz.prog 44 [.agg ⟨cells⟩] [] G (A0Y (U3 e)) := by
 have hl := hr.len
 have hone := hr.one
 refine C0 Tryz.func44 rfl Tryz.ntmps44 Tryz.results44 rfl ?_
 intro w0
 refine tS (tR ?_)
 refine sE (C5 rfl rfl) rfl (fun b3 => ?_)
 refine sE (A7 rfl) rfl (fun b4 => ?_)
 refine sE (A7 rfl) rfl (fun b5 => ?_)
 refine sQ (qA rfl) rfl (sD (nS (tS (tR ?_))))
 refine sL (A5 rfl rfl (B2 (by repeat first | exact mH | apply mT)) (by assumption)) rfl rfl ?_
 focus (refine E5 rfl (A83 e _ _ (by omega) hr) rfl rfl (fun v G1 hle1 hh => ?_); obtain ⟨mc, mt, rfl, hmr, hmu⟩ := hh; obtain ⟨pt, ct, et, rfl, _⟩ := hmr.open; obtain ⟨r, hI⟩ : ∃ r, U3 e = r := ⟨_, rfl⟩; rcases r with _ | ⟨u, t⟩; (have hto : A0h e = none := by unfold A0h; rw [hI]); rotate_left; (have hto : A0h e = some t := by unfold A0h; rw [hI]); obtain ⟨hv, l3, hE⟩ := B3t hI; obtain ⟨hv1, hv2⟩ := (A04 e).1 hv; rotate_left; all_goals rw [hto]; all_goals simp only [Option.isSome])
 refine sQ (qM rfl) rfl (sQ (pX rfl rfl) rfl (sQ (pX rfl rfl) rfl ?_))
 refine sE (A7 rfl) rfl (fun b16 => ?_)
 refine A0L ?_
 refine C8 (rC rfl (A2 rfl rfl)) (rC rfl (A2 rfl rfl)) (rT rfl) ?_
 (exact A0Y.no (by first | exact hI | rfl) (L3 _) (M1 _ ⟨by omega, by omega⟩))
 refine sQ (qM rfl) rfl (sQ (pX rfl rfl) rfl (sQ (pX rfl rfl) rfl ?_))
 refine sE (A7 rfl) rfl (fun b45 => ?_)
 refine B1 ?_
 refine sQ (qA rfl) rfl (sD (nS (tS (tS (tR (sQ (qM rfl) rfl (sQ (K4 rfl) rfl (sD (nS (cF rfl (tK (nS (tS (tR ?_))))))))))))))
 refine sL (A5 rfl rfl (B2 (by repeat first | exact mH | apply mT)) (by assumption)) rfl rfl ?_
 (have hIn := B3F e 1 [] 0 u t l3 G1 none 0 0 cells hE hv1 (by omega) A2F (R3.nil _) (hr.mono hle1) (by omega) (by omega); refine E5 rfl hIn rfl rfl (fun v G2 hle2 hh => ?_); obtain ⟨cu, tc, rfl, hru, hrt⟩ := hh; obtain ⟨qt, dt, et2, rfl, _⟩ := hrt.open; have hlu := hru.len; have hou := hru.one)
 refine sQ (qM rfl) rfl (sQ (pX rfl rfl) rfl (sQ (pX rfl rfl) rfl (sQ (pX rfl rfl) rfl ?_)))
 refine sE (A7 rfl) rfl (fun b68 => ?_)
 refine sE (A7 rfl) rfl (fun b69 => ?_)
 refine Y0 rfl rfl rfl hlu hou rfl (by repeat first | exact Sw.here | apply Sw.there) (by exact D5 (by first | exact hlu.symm | omega)) ?_
 refine B1 ?_
 refine sQ (qA rfl) rfl (sD (nS (tS ?_)))
 refine D4 D6 rfl ?_
 refine K2 (i := 0) (l' := [tt,ff,ff,ff,ff]) rfl C9 (A5 rfl rfl (B2 (by repeat first | exact mH | apply mT)) hlu) rfl (by kernel_rfl) rfl rfl ?_
 refine aL 1 rfl (A2 rfl rfl) rfl ?_
 refine A4 2 ?_
 refine oS rfl rfl rfl rfl hlu hou rfl rfl ?_ (hu := by exact D5 hlu.symm)
 refine A4 3 ?_
 refine oS rfl rfl rfl rfl rfl rfl rfl rfl ?_
 refine aP 4 rfl (qA rfl) rfl ?_
 refine B5 (nS (tT ?_))
 refine C8 (rC rfl (A5 rfl rfl (B2 (by repeat first | exact mH | apply mT)) hlu)) (rC rfl (A2 rfl rfl)) (rT rfl) ?_
 (exact A0Y.yes (by first | exact hI | rfl) hru hrt)
def RtP (u : Tm) (l : List Ty) : IM → Value → List A6 → Prop := fun G' v outs => outs = [] ∧ ∃ cu p c el, v = .tuple ⟨[.agg ⟨cu⟩, .slice p l.length c]⟩ ∧ B0 G' u cu ∧ D2 G' p l.length c 2 el ∧ C6 G' l el
section bits
variable {P : Program} {Γ : L4} {env : L7} {hp : List A6} {G : IM} {ty : TypeId}
end bits
theorem B3H {cs vs cs' C : List Value} {o : Nat} (h : R5 cs o vs = some cs') : cs' ++ C = (cs ++ C).take o ++ vs ++ (cs ++ C).drop (o + vs.length) := by
 obtain ⟨h1, h2⟩ := A2o h
 rw [h1, List.take_append_of_le_length (by omega), List.drop_append_of_le_length (by omega)]
 simp
section wr
variable {P : Program} {Γ : L4} {env : L7} {hp : List A6} {G : IM} {ty : TypeId} {K : Po} {ops : Array Oper} {rest : List Oper}
theorem B3I {d : Option Nat} {x y : Operand} {t : TypeId} {i : K3} [hI : H3 P t i] {b o c el sz n : Nat} {v : Value} {vs cs cs' : List Value} {hp' : List A6}
  (hx : evo env x = some (.pointer (some ⟨b, o, none⟩))) (hy : evo env y = some v) (hv : v.cells = ⟨vs⟩) (hsz : vs.length = i.size) (h1 : vs.all (·.oneCell') = true)
  (hu : R5 cs o vs = some cs') (hm : Sw hp (.slc (some ⟨b, 0, none⟩) c el sz n cs) (.slc (some ⟨b, 0, none⟩) c el sz n cs') hp') (hd : dok Γ.n d = true) :
  V1 P Γ ⟨env, hp, G⟩ d (.store t x y) ty [b] (fun σ' => σ' = ⟨dpu d undef env, hp', G⟩) := by
 refine ⟨fun a w hs pos af gd Q next hn => ?_⟩
 obtain ⟨rest, p1, p2⟩ := hm.perm
 have hown : R7 [.slc (some ⟨b, 0, none⟩) c el sz n cs] G w := hs.res.own.of_mem p1
 obtain ⟨hl, h⟩ := hown.ok _ List.mem_cons_self
 rcases h with ⟨hv', _⟩ | ⟨g, cap, cur, hv', hbg, hg, hnc, hcm, hcs, ht⟩
 ·cases hv'
 cases hv'
 obtain ⟨u1, u2⟩ := A2o hu
 have hcur : cur.toList = cs ++ cur.toList.drop (n * sz) := by
  conv => lhs; rw [← List.take_append_drop (n * sz) cur.toList, ht]
 have hlen : cs.length ≤ cur.size := by
  rw [hl, hcs]; exact Nat.mul_le_mul_right _ hnc
 have hst := run_storeCells_at P b o el vs 0 cur w hg (by omega) (by simpa using h1)
 obtain ⟨cur', hcur'⟩ : ∃ l : List Value, l = cs' ++ cur.toList.drop (n * sz) := ⟨_, rfl⟩
 have hcc : cur.toList.take (o + 0) ++ vs ++ cur.toList.drop (o + 0 + vs.length) = cur' := by
  rw [hcur', Nat.add_zero, B3H hu, ← hcur]
 rw [hcc] at hst
 have hl' : cs'.length = cs.length := by rw [u1]; simp; omega
 have hsz' : cur'.length = cur.size := by
  have := congrArg List.length hcur
  rw [hcur', List.length_append, hl']
  simpa using this.symm
 obtain ⟨inf, g1, g2, _⟩ := hI.info
 have hrun : (execOp a.eval ⟨d, .store t x y, ty, pos, af, gd⟩).run P w = .ok .skip (w.setRow b cur'.toArray) := by
  simp [execOp, Instr.storeAt, Instr.sureAddr, (hs.evo hx : a.eval x = _), (hs.evo hy : a.eval y = _), storeVar, sizeOf, typeInfo, g1, g2, hv, hsz, hst]
 simp only [Oper.wp, hrun, Oper.upon]
 have hr' : Q5 [.slc (some ⟨b, 0, none⟩) c el sz n cs] G w [.slc (some ⟨b, 0, none⟩) c el sz n cs'] G (w.setRow b cur'.toArray) := by
  refine ⟨⟨?_, ?_, by simp [Fp, A6.fp, I9], ?_⟩, ⟨rfl, rfl, rfl, by simp [World.setRow], fun k _ hk => setRow_other w b k _ (by rintro rfl; simp [Fp, A6.fp, I9] at hk)⟩, B8.refl _, fun _ _ h => .inl h, ?_, fun b l h h0 => absurd h (by rw [h0]; simp)⟩
  ·intro k l hg'
   obtain ⟨e', f', h'⟩ := hown.inn k l hg'
   refine ⟨e', f', ?_⟩
   rw [setRow_other w b k _ ?_]
   ·exact h'
   ·rintro rfl
    have := hown.disj k (by simp [Fp, A6.fp, I9])
    rw [this] at hg'; cases hg'
  ·intro x hx
   simp at hx; subst hx
   refine ⟨by rw [hl', hl], .inr ⟨b, _, cur'.toArray, rfl, hbg, setRow_heap w b cur cur'.toArray el (0, 0) hg, hnc, hcm, by rw [List.size_toArray, hsz', hcs], ?_⟩⟩
   rw [hcur', List.take_left' (by rw [hl', hl])]
  ·intro k hk
   exact hown.disj k (by simpa [Fp, A6.fp, I9] using hk)
  ·intro k hk
   exact .inr (by simpa [Fp, A6.fp, I9] using hk)
 exact hn _ _ _ (hs.step p1 hr' p2 hd) (by simpa [Fp, A6.fp, I9] using hr'.ext) rfl
variable {pos : String} {af : Array Edge} {gd : Option (Nat × Bool)}
theorem B3J {c el sz n : Nat} {cs vs : List Value} {x y : Operand} {t : TypeId} {i : K3} [hI : H3 P t i] {bb o : Nat} {v : Value} {cs' : List Value} {hp' : List A6}
  (hx : evo env x = some (.pointer (some ⟨bb, o, none⟩))) (hy : evo env y = some v) (hv : v.cells = ⟨vs⟩) (hsz : vs.length = i.size) (h1 : vs.all (·.oneCell') = true)
  (hw : K8 ops env gd = some true) (hsw : Sw hp (.slc (some ⟨bb, 0, none⟩) c el sz n cs) (.slc (some ⟨bb, 0, none⟩) c el sz n cs') hp') (hu : R5 cs o vs = some cs')
  (k : H2 P Γ ops rest K ⟨env, hp', G⟩) : H2 P Γ ops (⟨none, .store t x y, ty, pos, af, gd⟩ :: rest) K ⟨env, hp, G⟩ :=
 I5 (B3I hx hy hv hsz h1 hu hsw rfl) hw (by rintro _ rfl; exact k)
theorem St.slc_ptT {p : Option Addr} {c el sz n : Nat} {cs : List Value} {a : Act} {w : World} (hs : St Γ ⟨env, hp, G⟩ a w) (hm : A6.slc p c el sz n cs ∈ hp) :
  (p = none ∧ n = 0 ∧ c = 0) ∨ ∃ g, p = some ⟨g, 0, none⟩ ∧ n ≤ c := by
 obtain ⟨_, h⟩ := hs.res.own.ok _ hm
 rcases h with ⟨hv, hn⟩ | ⟨g, cap, cur, hv, _, _, hnc, _⟩
 ·cases hv; exact .inl ⟨rfl, hn, rfl⟩
 ·cases hv; exact .inr ⟨g, rfl, hnc⟩
end wr
theorem B3K {es : List (List Value)} {i sz : Nat} {vs : List Value} (hi : i < es.length) (ha : ∀ e ∈ es, e.length = sz) (hv : vs.length = sz) : R5 es.flatten (0 + i * sz) vs = some (es.set i vs).flatten := by
 have h1 : es.flatten = (es.take i).flatten ++ (es[i] ++ (es.drop (i + 1)).flatten) := by
  conv => lhs; rw [← List.take_append_drop i es, List.drop_eq_getElem_cons hi]
  rw [List.flatten_append, List.flatten_cons]
 have h2 : (es.set i vs).flatten = (es.take i).flatten ++ (vs ++ (es.drop (i + 1)).flatten) := by rw [List.set_eq_take_append_cons_drop, if_pos hi, List.flatten_append, List.flatten_cons]
 have hA : ((es.take i).flatten).length = 0 + i * sz := by rw [A0v (fun e he => ha e (List.mem_of_mem_take he)), List.length_take, Nat.min_eq_left (by omega)]; omega
 rw [h1, h2]
 exact A41 hA (by rw [ha _ (List.getElem_mem hi), hv])
theorem C6.set {G : IM} : ∀ {l : List Ty} {es : List (List Value)} (i : Nat) {u : Ty} {c : List Value}, C6 G l es → B7 G u c → C6 G (l.set i u) (es.set i c)
 | [], es, i, u, c, h, _ => by simp only [C6] at h; subst h; simp [C6]
 | t :: l, es, 0, u, c, h, h2 => by
  simp only [C6] at h
  obtain ⟨a, r, rfl, _, h3⟩ := h
  simp only [List.set_cons_zero, C6]
  exact ⟨c, r, rfl, h2, h3⟩
 | t :: l, es, i + 1, u, c, h, h2 => by
  simp only [C6] at h
  obtain ⟨a, r, rfl, h4, h3⟩ := h
  simp only [List.set_cons_succ, C6]
  exact ⟨a, _, rfl, h4, C6.set i h3 h2⟩
theorem W7.openA {a b : List Ty} {G' : IM} {v : Value} {outs : List A6} {m : Nat} (h : W7 (a ++ b) G' v outs) (hm : a.length = m) :
  ∃ p c es, v = .slice p (m + b.length) c ∧ outs = [.slc p c 25 2 (m + b.length) es.flatten] ∧ C6 G' (a ++ b) es := by
 subst hm
 rw [← List.length_append]
 exact h
theorem B3L : ∀ (t : Tm) (l : List Ty) (G : IM) (cells : List Value) (p : Option Addr) (c : Nat) (es : List (List Value)), t.small → l.length + D1 t ≤ 4000000 → B0 G t cells → C6 G l es →
  Fn Tryz.prog 124 [.slice p l.length c, .agg ⟨cells⟩] [.slc p c 25 2 l.length es.flatten] G (W7 (l ++ K9 t)) := by
 refine Tm.ind fun k nm num ty fr lb ks ih l G cells p c es0 hts hcnt hr hl0 => ?_
 have hone := hr.one
 simp only [Tm.small] at hts
 obtain ⟨_, hty', _, hsm, hks⟩ := hts
 have hcy : k = 5 ∨ k = 13 → K9 (.mk k nm num ty fr lb ks) = [ty] ++ I1 ks := fun h => by rw [K9, if_pos h]
 have hcn : ¬ (k = 5 ∨ k = 13) → K9 (.mk k nm num ty fr lb ks) = I1 ks := fun h => by rw [K9, if_neg h, List.nil_append]
 rw [D1] at hcnt
 obtain ⟨tk, tks⟩ := ty
 obtain ⟨fk, fks⟩ := fr
 obtain ⟨pt, ct, pf, cf, q, cq, ek, rfl, hk, hnum, hlb, hty, hfr, hsl, hkl⟩ := hr.open9
 have hn := hsl.le
 refine C0 Tryz.func124 rfl Tryz.ntmps124 Tryz.results124 rfl ?_
 intro w0
 refine tS (tR ?_)
 refine sE (C5 rfl rfl) rfl (fun b3 => ?_)
 refine sQ (qA rfl) rfl (sD (nS (tS (tS (tR (sQ (A0 rfl) rfl (sL (A3 rfl rfl) rfl rfl ?_)))))))
 refine sB (qE rfl rfl) rfl rfl (fun h12 => ?_) (fun h12 => ?_)
 refine U4 ?_
 (refine E5 rfl (P0 (.mk tk tks) G _ hty' hty) rfl rfl (fun v G1 hle1 hh => ?_); obtain ⟨cs1, F1, rfl, hs1, hn1⟩ := hh; have hr1 := hs1.R.mono (C4.le _ _); obtain ⟨p1, c1, rfl, _⟩ := hs1.open)
 (refine I5 (C7 rfl rfl rfl (by omega) (by unfold maxLen; omega) rfl) rfl ?_; rintro _ ⟨b26, rfl⟩)
 (refine A0M rfl rfl rfl rfl rfl (fun _ _ => by repeat (first | exact Sw.here | apply Sw.there)) (M9 (by repeat first | exact mH | apply mT)) rfl (by simp [Value.oneCell']) (by unfold maxLen; omega) (by omega) rfl (fun pn0 cn0 => ?_))
 refine sQ (qA rfl) rfl (sD (nS (tS (tS (tR (sQ (qA rfl) rfl (sD (nS ?_))))))))
 refine B9 ?_
 (have h14 := hcy (by omega); have hinit := C6.append (hl0.mono hle1) (C6.one1 hr1); refine J4 (fun (x : Nat × Nat × Option Addr × Nat × List (List Value) × IM) => ⟨[(5, .int .i64 x.1), (3, .pointer (some ⟨b3, 0, none⟩)), (0, .slice x.2.2.1 x.2.1 x.2.2.2.1)], [.slc x.2.2.1 x.2.2.2.1 25 2 x.2.1 x.2.2.2.2.1.flatten, .blk b3 [.int .i64 k, .string nm, .int .i64 num, .int .i64 tk, .slice pt tks.length ct, .int .i64 fk, .slice pf fks.length cf, .int .i64 lb, .slice q ks.length cq]], x.2.2.2.2.2⟩) (fun x => x.1 ≤ ks.length ∧ B8 G x.2.2.2.2.2 ∧ C6 x.2.2.2.2.2 ((l ++ [Ty.mk tk tks]) ++ I1 (ks.take x.1)) x.2.2.2.2.1 ∧ ((l ++ [Ty.mk tk tks]) ++ I1 (ks.take x.1)).length = x.2.1) (fun x => ks.length - x.1) (0, l.length + 1, pn0, cn0, es0 ++ [[.int .i64 tk, .slice p1 tks.length c1]], G1) (by simp only [List.flatten_append, List.flatten_cons, List.flatten_nil, List.append_nil]; exact (K6 (by repeat (first | exact D8.nil | refine D8.cons rfl ?_)) (by repeat (first | exact A1.refl | exact A1.nil | refine A1.cons (by repeat (first | exact Pk.here | apply Pk.there)) ?_ | apply A1.drop)))) ?_ ?_)
 (exact ⟨Nat.zero_le _, hle1, (by show C6 G1 ((l ++ [Ty.mk tk tks]) ++ I1 (ks.take 0)) _; rw [List.take_zero, I1, List.append_nil]; exact hinit), by simp [I1]⟩)
 (rintro ⟨(i : Nat), (m : Nat), pn, cn, es, Gi⟩ ⟨hi, hle, hst, hlen⟩; simp only [] at hi hle hst hlen ⊢; replace hsl := hsl.mono hle; replace hkl := hkl.mono hle; have hb1 := A0A (ks.take i); have hb2 := A0A ks; have hlen0 := hlen; simp only [List.length_append, List.length_singleton, List.length_nil] at hlen)
 refine tS (tS (tR (sQ (qM rfl) rfl (sQ (A0 rfl) rfl (sL (A3 rfl rfl) rfl rfl (sQ (H8 rfl rfl) rfl ?_))))))
 refine sB (J1 rfl rfl) rfl rfl (fun h48 => ?_) (fun h48 => ?_)
 refine sD (nS (qT rfl (tK (nS (tS ?_)))))
 refine B9 ?_
 refine tR (sQ (qM rfl) rfl (sQ (A0 rfl) rfl (sL (A3 rfl rfl) rfl rfl (sQ (qM rfl) rfl ?_))))
 (obtain ⟨b, o, e, rfl, hl, hat, hre, hgb⟩ := hsl.kidTm hkl (i := i) (by omega) (by omega); have hone9 := hre.one; have hsc := A0Q (ks := ks) (i := i) (by omega); have hsk := A0P (ks := ks) (i := i) (by omega); refine sP (B3 rfl rfl rfl (by omega)) rfl rfl ?_)
 refine sL (A5 rfl rfl (hat _) hl) rfl rfl ?_
 (have hih := ih ks[i] (List.getElem_mem (by omega)) _ Gi e pn cn es (Tm.smallL_mem hks _ (List.getElem_mem (by omega))) (by simp only [List.length_append, List.length_singleton]; omega) hre hst; rw [hlen0] at hih; refine I8 rfl hih (Pk.perm (by repeat (first | exact Pk.here | apply Pk.there))) rfl rfl (fun v3 G3 outs hle3 hh => ?_); obtain ⟨p3, c3, e3, rfl, rfl, hr3⟩ := W7.openA hh hlen0)
 refine sQ (qA rfl) rfl (sD (E3 (nS (tR (sQ (qM rfl) rfl ?_)))))
 refine sP (I7 rfl rfl (by omega) (by omega)) rfl rfl ?_
 refine sQ (qA rfl) rfl (sD ?_)
 (refine J3 (i + 1, m + (K9 ks[i]).length, p3, c3, e3, G3) ?_ ?_ ?_)
 (simp only [I3]; exact D9)
 (dsimp only; exact ⟨by omega, hle.trans hle3, by rw [A0g (by omega), ← List.append_assoc]; exact hr3, by rw [A0g (by omega), ← List.append_assoc, List.length_append, hlen0]⟩)
 (show ks.length - (i + 1) < ks.length - i; omega)
 refine sD (nS (cF rfl (M3 (M5 (N7 (M6 (nS (tS (tR (sQ (qM rfl) rfl (sQ (qA rfl) rfl (sD (nS ?_)))))))))))))
 (obtain rfl : i = ks.length := (by omega))
 refine tT ?_
 refine F9 (outs := [.slc pn cn 25 2 m es.flatten]) (rT rfl) (A1.cons (by repeat (first | exact Pk.here | apply Pk.there)) A1.nil) ?_
 (rw [h14]; rw [List.take_length] at hst hlen; first | exact W7.mk (by simp only [List.length_append, List.length_singleton, List.length_nil]; omega) hst | (rw [← List.append_assoc]; exact W7.mk (by simp only [List.length_append, List.length_singleton, List.length_nil]; omega) hst))
 refine sQ (qM rfl) rfl (sQ (A0 rfl) rfl (sL (A3 rfl rfl) rfl rfl ?_))
 refine sB (qE rfl rfl) rfl rfl (fun h98 => ?_) (fun h98 => ?_)
 refine sQ (D7 rfl rfl) rfl (sD (nS (qT rfl (tR (sQ (qM rfl) rfl (sQ (A0 rfl) rfl (sL (A2 rfl rfl) rfl rfl ?_)))))))
 (refine E5 rfl (P0 (.mk tk tks) G _ hty' hty) rfl rfl (fun v G1 hle1 hh => ?_); obtain ⟨cs1, F1, rfl, hs1, hn1⟩ := hh; have hr1 := hs1.R.mono (C4.le _ _); obtain ⟨p1, c1, rfl, _⟩ := hs1.open)
 (refine I5 (C7 rfl rfl rfl (by omega) (by unfold maxLen; omega) rfl) rfl ?_; rintro _ ⟨b108, rfl⟩)
 (refine A0M rfl rfl rfl rfl rfl (fun _ _ => by repeat (first | exact Sw.here | apply Sw.there)) (M9 (by repeat first | exact mH | apply mT)) rfl (by simp [Value.oneCell']) (by unfold maxLen; omega) (by omega) rfl (fun pn0 cn0 => ?_))
 refine sQ (qA rfl) rfl (sD (nS (tS (tS (tR (sQ (qA rfl) rfl (sD (nS ?_))))))))
 refine B9 ?_
 (have h14 := hcy (by omega); have hinit := C6.append (hl0.mono hle1) (C6.one1 hr1); refine J4 (fun (x : Nat × Nat × Option Addr × Nat × List (List Value) × IM) => ⟨[(5, .int .i64 x.1), (3, .pointer (some ⟨b3, 0, none⟩)), (0, .slice x.2.2.1 x.2.1 x.2.2.2.1)], [.slc x.2.2.1 x.2.2.2.1 25 2 x.2.1 x.2.2.2.2.1.flatten, .blk b3 [.int .i64 k, .string nm, .int .i64 num, .int .i64 tk, .slice pt tks.length ct, .int .i64 fk, .slice pf fks.length cf, .int .i64 lb, .slice q ks.length cq]], x.2.2.2.2.2⟩) (fun x => x.1 ≤ ks.length ∧ B8 G x.2.2.2.2.2 ∧ C6 x.2.2.2.2.2 ((l ++ [Ty.mk tk tks]) ++ I1 (ks.take x.1)) x.2.2.2.2.1 ∧ ((l ++ [Ty.mk tk tks]) ++ I1 (ks.take x.1)).length = x.2.1) (fun x => ks.length - x.1) (0, l.length + 1, pn0, cn0, es0 ++ [[.int .i64 tk, .slice p1 tks.length c1]], G1) (by simp only [List.flatten_append, List.flatten_cons, List.flatten_nil, List.append_nil]; exact (K6 (by repeat (first | exact D8.nil | refine D8.cons rfl ?_)) (by repeat (first | exact A1.refl | exact A1.nil | refine A1.cons (by repeat (first | exact Pk.here | apply Pk.there)) ?_ | apply A1.drop)))) ?_ ?_)
 (exact ⟨Nat.zero_le _, hle1, (by show C6 G1 ((l ++ [Ty.mk tk tks]) ++ I1 (ks.take 0)) _; rw [List.take_zero, I1, List.append_nil]; exact hinit), by simp [I1]⟩)
 (rintro ⟨(i : Nat), (m : Nat), pn, cn, es, Gi⟩ ⟨hi, hle, hst, hlen⟩; simp only [] at hi hle hst hlen ⊢; replace hsl := hsl.mono hle; replace hkl := hkl.mono hle; have hb1 := A0A (ks.take i); have hb2 := A0A ks; have hlen0 := hlen; simp only [List.length_append, List.length_singleton, List.length_nil] at hlen)
 refine tS (tS (tR (sQ (qM rfl) rfl (sQ (A0 rfl) rfl (sL (A3 rfl rfl) rfl rfl (sQ (H8 rfl rfl) rfl ?_))))))
 refine sB (J1 rfl rfl) rfl rfl (fun h130 => ?_) (fun h130 => ?_)
 refine sD (nS (qT rfl (tK (nS (tS ?_)))))
 refine B9 ?_
 refine tR (sQ (qM rfl) rfl (sQ (A0 rfl) rfl (sL (A3 rfl rfl) rfl rfl (sQ (qM rfl) rfl ?_))))
 (obtain ⟨b, o, e, rfl, hl, hat, hre, hgb⟩ := hsl.kidTm hkl (i := i) (by omega) (by omega); have hone9 := hre.one; have hsc := A0Q (ks := ks) (i := i) (by omega); have hsk := A0P (ks := ks) (i := i) (by omega); refine sP (B3 rfl rfl rfl (by omega)) rfl rfl ?_)
 refine sL (A5 rfl rfl (hat _) hl) rfl rfl ?_
 (have hih := ih ks[i] (List.getElem_mem (by omega)) _ Gi e pn cn es (Tm.smallL_mem hks _ (List.getElem_mem (by omega))) (by simp only [List.length_append, List.length_singleton]; omega) hre hst; rw [hlen0] at hih; refine I8 rfl hih (Pk.perm (by repeat (first | exact Pk.here | apply Pk.there))) rfl rfl (fun v3 G3 outs hle3 hh => ?_); obtain ⟨p3, c3, e3, rfl, rfl, hr3⟩ := W7.openA hh hlen0)
 refine sQ (qA rfl) rfl (sD (E3 (nS (tR (sQ (qM rfl) rfl ?_)))))
 refine sP (I7 rfl rfl (by omega) (by omega)) rfl rfl ?_
 refine sQ (qA rfl) rfl (sD ?_)
 (refine J3 (i + 1, m + (K9 ks[i]).length, p3, c3, e3, G3) ?_ ?_ ?_)
 (simp only [I3]; exact D9)
 (dsimp only; exact ⟨by omega, hle.trans hle3, by rw [A0g (by omega), ← List.append_assoc]; exact hr3, by rw [A0g (by omega), ← List.append_assoc, List.length_append, hlen0]⟩)
 (show ks.length - (i + 1) < ks.length - i; omega)
 refine sD (nS (cF rfl (M3 (M5 (N7 (M6 (nS (tS (tR (sQ (qM rfl) rfl (sQ (qA rfl) rfl (sD (nS ?_)))))))))))))
 (obtain rfl : i = ks.length := (by omega))
 refine tT ?_
 refine F9 (outs := [.slc pn cn 25 2 m es.flatten]) (rT rfl) (A1.cons (by repeat (first | exact Pk.here | apply Pk.there)) A1.nil) ?_
 (rw [h14]; rw [List.take_length] at hst hlen; first | exact W7.mk (by simp only [List.length_append, List.length_singleton, List.length_nil]; omega) hst | (rw [← List.append_assoc]; exact W7.mk (by simp only [List.length_append, List.length_singleton, List.length_nil]; omega) hst))
 refine sQ (D7 rfl rfl) rfl (sD (nS (cF rfl (tK (nS (tS (tS (tR (sQ (qA rfl) rfl (sD (nS ?_)))))))))))
 refine B9 ?_
 (have h14 := hcn (by omega); refine J4 (fun (x : Nat × Nat × Option Addr × Nat × List (List Value) × IM) => ⟨[(5, .int .i64 x.1), (3, .pointer (some ⟨b3, 0, none⟩)), (0, .slice x.2.2.1 x.2.1 x.2.2.2.1)], [.slc x.2.2.1 x.2.2.2.1 25 2 x.2.1 x.2.2.2.2.1.flatten, .blk b3 [.int .i64 k, .string nm, .int .i64 num, .int .i64 tk, .slice pt tks.length ct, .int .i64 fk, .slice pf fks.length cf, .int .i64 lb, .slice q ks.length cq]], x.2.2.2.2.2⟩) (fun x => x.1 ≤ ks.length ∧ B8 G x.2.2.2.2.2 ∧ C6 x.2.2.2.2.2 (l ++ I1 (ks.take x.1)) x.2.2.2.2.1 ∧ (l ++ I1 (ks.take x.1)).length = x.2.1) (fun x => ks.length - x.1) (0, l.length, p, c, es0, G) ?_ ?_ ?_)
 (simp only [I3]; exact D9)
 (exact ⟨Nat.zero_le _, B8.refl _, by simpa [I1] using hl0, by simp [I1]⟩)
 (rintro ⟨(i : Nat), (m : Nat), pn, cn, es, Gi⟩ ⟨hi, hle, hst, hlen⟩; simp only [] at hi hle hst hlen ⊢; replace hsl := hsl.mono hle; replace hkl := hkl.mono hle; have hb1 := A0A (ks.take i); have hb2 := A0A ks; have hlen0 := hlen; simp only [List.length_append, List.length_singleton, List.length_nil] at hlen)
 refine tS (tS (tR (sQ (qM rfl) rfl (sQ (A0 rfl) rfl (sL (A3 rfl rfl) rfl rfl (sQ (H8 rfl rfl) rfl ?_))))))
 refine sB (J1 rfl rfl) rfl rfl (fun h201 => ?_) (fun h201 => ?_)
 refine sD (nS (qT rfl (tK (nS (tS ?_)))))
 refine B9 ?_
 refine tR (sQ (qM rfl) rfl (sQ (A0 rfl) rfl (sL (A3 rfl rfl) rfl rfl (sQ (qM rfl) rfl ?_))))
 (obtain ⟨b, o, e, rfl, hl, hat, hre, hgb⟩ := hsl.kidTm hkl (i := i) (by omega) (by omega); have hone9 := hre.one; have hsc := A0Q (ks := ks) (i := i) (by omega); have hsk := A0P (ks := ks) (i := i) (by omega); refine sP (B3 rfl rfl rfl (by omega)) rfl rfl ?_)
 refine sL (A5 rfl rfl (hat _) hl) rfl rfl ?_
 (have hih := ih ks[i] (List.getElem_mem (by omega)) _ Gi e pn cn es (Tm.smallL_mem hks _ (List.getElem_mem (by omega))) (by simp only [List.length_append, List.length_singleton]; omega) hre hst; rw [hlen0] at hih; refine I8 rfl hih (Pk.perm (by repeat (first | exact Pk.here | apply Pk.there))) rfl rfl (fun v3 G3 outs hle3 hh => ?_); obtain ⟨p3, c3, e3, rfl, rfl, hr3⟩ := W7.openA hh hlen0)
 refine sQ (qA rfl) rfl (sD (E3 (nS (tR (sQ (qM rfl) rfl ?_)))))
 refine sP (I7 rfl rfl (by omega) (by omega)) rfl rfl ?_
 refine sQ (qA rfl) rfl (sD ?_)
 (refine J3 (i + 1, m + (K9 ks[i]).length, p3, c3, e3, G3) ?_ ?_ ?_)
 (simp only [I3]; exact D9)
 (dsimp only; exact ⟨by omega, hle.trans hle3, by rw [A0g (by omega), ← List.append_assoc]; exact hr3, by rw [A0g (by omega), ← List.append_assoc, List.length_append, hlen0]⟩)
 (show ks.length - (i + 1) < ks.length - i; omega)
 refine sD (nS (cF rfl (M3 (M5 (N7 (M6 (nS (tS (tR (sQ (qM rfl) rfl (sQ (qA rfl) rfl (sD (nS ?_)))))))))))))
 (obtain rfl : i = ks.length := (by omega))
 refine tT ?_
 refine F9 (outs := [.slc pn cn 25 2 m es.flatten]) (rT rfl) (A1.cons (by repeat (first | exact Pk.here | apply Pk.there)) A1.nil) ?_
 (rw [h14]; rw [List.take_length] at hst hlen; first | exact W7.mk (by simp only [List.length_append, List.length_singleton, List.length_nil]; omega) hst | (rw [← List.append_assoc]; exact W7.mk (by simp only [List.length_append, List.length_singleton, List.length_nil]; omega) hst))
def Z8 (t : Tm) : List Ty := if P9 t = true then K9 t else []
theorem A86 (t : Tm) (G : IM) (cells : List Value) (hts : t.small) (hcnt : D1 t ≤ 4000000) (hr : B0 G t cells) : Fn Tryz.prog 81 [.agg ⟨cells⟩] [] G (W7 (Z8 t)) := by
 have hl := hr.len
 have hone := hr.one
 have hv := A38 t G cells (by omega) hr
 have hno : P9 t = false → Z8 t = [] := fun h => by unfold Z8; rw [h]; rfl
 have hyes : P9 t = true → Z8 t = K9 t := fun h => by unfold Z8; rw [h]; rfl
 refine C0 Tryz.func81 rfl Tryz.ntmps81 Tryz.results81 rfl ?_
 intro w0
 refine tS (tR ?_)
 refine sE (C5 rfl rfl) rfl (fun b3 => ?_)
 refine sQ (qA rfl) rfl (sD (nS (tS (tS (tR ?_)))))
 refine sL (A5 rfl rfl (B2 (by repeat first | exact mH | apply mT)) (by assumption)) rfl rfl ?_
 refine E7 rfl (hv) rfl rfl (fun h11 => ?_) (fun h11 => ?_)
 refine sQ (K4 rfl) rfl (sD (nS (cF rfl (tK (nS (tS (tR ?_)))))))
 (refine I5 (C7 rfl rfl rfl (by omega) (by unfold maxLen; omega) rfl) rfl ?_; rintro _ ⟨b20, rfl⟩)
 refine sL (A5 rfl rfl (B2 (by repeat first | exact mH | apply mT)) (by assumption)) rfl rfl ?_
 (refine I8 rfl (B3L t [] G cells _ 0 [] hts (by simp; omega) hr (by simp [C6])) (Pk.perm (by repeat (first | exact Pk.here | apply Pk.there))) rfl rfl (fun v3 G3 outs hle3 hh => ?_); obtain ⟨p3, c3, e3, rfl, rfl, hr3⟩ := hh)
 refine sQ (qA rfl) rfl (sD (nS (tT ?_)))
 refine F9 (outs := [.slc p3 c3 25 2 ([] ++ K9 t).length e3.flatten]) (rT rfl) (A1.cons (by repeat (first | exact Pk.here | apply Pk.there)) A1.nil) ?_
 (rw [hyes (by assumption)]; exact ⟨p3, c3, e3, rfl, rfl, hr3⟩)
 refine sQ (N8 rfl) rfl (sD (nS (qT rfl (tS (tR ?_)))))
 (refine I5 (C7 rfl rfl rfl (by omega) (by unfold maxLen; omega) rfl) rfl ?_; rintro _ ⟨b35, rfl⟩)
 refine sQ (qA rfl) rfl (sD (nS (tT (rS ?_))))
 refine F9 (rT rfl) (A1.cons Pk.here A1.nil) ?_
 (rw [hno (by assumption)]; exact ⟨_, _, [], rfl, rfl, by simp [C6]⟩)
def A2Q (u : Tm) (n : Int) : IM → Value → List A6 → Prop := fun G' v outs => outs = [] ∧ ∃ cu, v = .tuple ⟨[.agg ⟨cu⟩, .int .i64 n]⟩ ∧ B0 G' u cu
theorem A2Q.mk {G' : IM} {k : Int} {nm : ByteArray} {num : Int} {ty fr : Ty} {lb : Int} {ks : List Tm} {tk fk : Int} {pt pf : Option Addr} {nt ct nf cf : Nat} {p : Option Addr} {m c : Nat} {es : List (List Value)} {a n : Int}
  (hk : E6 k) (hnum : E6 num) (hlb : E6 lb) (hty : B7 G' ty [.int .i64 tk, .slice pt nt ct]) (hfr : B7 G' fr [.int .i64 fk, .slice pf nf cf]) (hm : m = ks.length) (hs : Sl G' p m c 9 es.flatten) (hr : D3 G' ks es) (ha : a = n) :
  A2Q (.mk k nm num ty fr lb ks) n G' (.tuple ⟨[.agg ⟨[.int .i64 k, .string nm, .int .i64 num, .int .i64 tk, .slice pt nt ct, .int .i64 fk, .slice pf nf cf, .int .i64 lb, .slice p m c]⟩, .int .i64 a]⟩) [] := by
 subst hm ha
 refine ⟨rfl, _, rfl, ?_⟩
 simp only [B0]
 exact ⟨_, _, p, c, es, rfl, hk, hnum, hlb, hty, hfr, D2.of hs hr.len hr.all (fun e he => by obtain ⟨j, hj⟩ := List.getElem?_of_mem he; exact (hr.inv hj J6).2.one), hr⟩
theorem B3M (L : List Ty) (p : Option Addr) (c : Nat) (hsmL : ∀ u ∈ L, u.small) : ∀ (t : Tm) (a : Nat) (G : IM) (cells : List Value) (el : List (List Value)), a + (K9 t).length ≤ L.length → L.length ≤ 4000000 → t.small → D1 t ≤ 4000000 → B0 G t cells → D2 G p L.length c 2 el → C6 G L el →
  Fn Tryz.prog 125 [.agg ⟨cells⟩, .slice p L.length c, .int .i64 (a : Int)] [] G (A2Q (A0p t (L.drop a)) ((a + (K9 t).length : Nat) : Int)) := by
 refine Tm.ind fun k nm num ty fr lb ks ih a G cells el hlen hLb hts hcnt hr hse hel => ?_
 have hone := hr.one
 have hlen9 := hr.len
 simp only [Tm.small] at hts
 obtain ⟨_, hty', hfr', hsm, hks⟩ := hts
 have hcy : k = 5 ∨ k = 13 → K9 (.mk k nm num ty fr lb ks) = [ty] ++ I1 ks := fun h => by rw [K9, if_pos h]
 have hcn : ¬ (k = 5 ∨ k = 13) → K9 (.mk k nm num ty fr lb ks) = I1 ks := fun h => by rw [K9, if_neg h, List.nil_append]
 have hwy : k = 5 ∨ k = 13 → A0p (.mk k nm num ty fr lb ks) (L.drop a) = .mk k nm num ((L.drop a).getD 0 B4) fr lb (S7 ks (L.drop (a + 1))) := fun h => by rw [A0p, if_pos h, if_pos h, List.drop_drop]
 have hwn : ¬ (k = 5 ∨ k = 13) → A0p (.mk k nm num ty fr lb ks) (L.drop a) = .mk k nm num ty fr lb (S7 ks (L.drop a)) := fun h => by rw [A0p, if_neg h, if_neg h]
 rw [D1] at hcnt
 obtain ⟨tk, tks⟩ := ty
 obtain ⟨fk, fks⟩ := fr
 obtain ⟨pt, ct, pf, cf, q, cq, ek, rfl, hk, hnum, hlb, hty, hfr, hsl, hkl⟩ := hr.open9
 have hn := hsl.le
 have hkn := A46 ks
 have hT := P0 (.mk tk tks) G _ hty' hty
 refine C0 Tryz.func125 rfl Tryz.ntmps125 Tryz.results125 rfl ?_
 intro w0
 refine tS (tR ?_)
 refine sE (C5 rfl rfl) rfl (fun b3 => ?_)
 refine sE (A7 rfl) rfl (fun b4 => ?_)
 refine sQ (qA rfl) rfl (sD (nS (tS (tR (sL (A2 rfl rfl) rfl rfl ?_)))))
 refine sE (A7 rfl) rfl (fun b11 => ?_)
 refine B1 ?_
 refine sD (nS (tS (tR (sQ (A0 rfl) rfl (sL (A2 rfl rfl) rfl rfl ?_)))))
 (refine E5 rfl hT rfl rfl (fun v G1 hle1 hh => ?_); obtain ⟨cs1, F1, rfl, hs1, hn1⟩ := hh; have hr1 := hs1.R.mono (C4.le _ _); obtain ⟨p1, c1, rfl, _⟩ := hs1.open; have hF := P0 (.mk fk fks) G1 _ hfr' (hfr.mono hle1))
 refine sQ (A0 rfl) rfl (B1 ?_)
 refine sD (nS (tS (tR (sQ (A0 rfl) rfl (sL (A2 rfl rfl) rfl rfl ?_)))))
 (refine E5 rfl hF rfl rfl (fun v G2 hle2 hh => ?_); obtain ⟨cs2, F2, rfl, hs2, hn2⟩ := hh; have hr2 := hs2.R.mono (C4.le _ _); obtain ⟨p2, c2, rfl, _⟩ := hs2.open; have hle12 := hle1.trans hle2; replace hsl := hsl.mono hle12; replace hkl := hkl.mono hle12; replace hse := hse.mono hle12; replace hel := hel.mono hle12)
 refine L9 ?_
 refine sB (qE rfl rfl) rfl rfl (fun h44 => ?_) (fun h44 => ?_)
 refine U4 ?_
 (have hL1 := hcy (by omega); have h1 : a + (1 + (I1 ks).length) ≤ L.length := (by rw [hL1] at hlen; simp only [List.length_append, List.length_singleton] at hlen; omega); obtain ⟨b0, o0, p20, c20, rfl, hat0, hre0, hgb0⟩ := hse.kidTy hel (i := a) (by omega) (by omega); obtain ⟨T0, hT0⟩ : ∃ T, T = L[a]'(by omega) := ⟨_, rfl⟩; have hs0 := hsmL _ (List.getElem_mem (show a < L.length by omega)); rw [← hT0] at hre0 hat0 hs0; have hO := P0 T0 G2 _ hs0 hre0; refine sP (B3 rfl rfl rfl (by omega)) rfl rfl ?_)
 refine sL (A5 rfl rfl (hat0 _) rfl) rfl rfl ?_
 (refine E5 rfl hO rfl rfl (fun v G3 hle3 hh => ?_); obtain ⟨cs3, F3, rfl, hs3, hn3⟩ := hh; have hr3 := hs3.R.mono (C4.le _ _); obtain ⟨p3, c3, rfl, _⟩ := hs3.open)
 refine sQ (A0 rfl) rfl (B1 ?_)
 refine sD (nS (tR (sQ (qM rfl) rfl ?_)))
 refine sP (I7 rfl rfl (by omega) (by omega)) rfl rfl ?_
 refine sQ (qA rfl) rfl (sD (nS (tS (tS (tR (sQ (qA rfl) rfl (sD (nS ?_))))))))
 refine B9 ?_
 (have hL2 := hcy (by omega); have hW2 := hwy (by omega); refine S0 28 9 ?_; refine J4 (fun (x : Nat × Option Addr × Nat × List (List Value) × IM) => ⟨[(9, .int .i64 x.1), (2, .int .i64 ((a + 1 + (I1 (ks.take x.1)).length : Nat) : Int)), (1, .slice (some ⟨b0, o0, none⟩) L.length c), (3, .pointer (some ⟨b3, 0, none⟩)), (8, .pointer (some ⟨b11, 0, none⟩)), (6, .pointer (some ⟨b4, 0, none⟩))], [.blk b11 [.int .i64 k, .string nm, .int .i64 num, .int .i64 T0.k, .slice p3 T0.ks.length c3, .int .i64 fk, .slice p2 fks.length c2, .int .i64 lb, .slice x.2.1 x.1 x.2.2.1], .slc x.2.1 x.2.2.1 28 9 x.1 x.2.2.2.1.flatten, .blk b4 [.int .i64 0, .string ⟨⟨[]⟩⟩, .int .i64 0, .int .i64 0, .slice none 0 0, .int .i64 0, .slice none 0 0, .int .i64 0, .slice none 0 0], .blk b3 [.int .i64 k, .string nm, .int .i64 num, .int .i64 tk, .slice pt tks.length ct, .int .i64 fk, .slice pf fks.length cf, .int .i64 lb, .slice q ks.length cq]], x.2.2.2.2⟩) (fun x => x.1 ≤ ks.length ∧ B8 G3 x.2.2.2.2 ∧ D3 x.2.2.2.2 (S7 (ks.take x.1) (L.drop (a + 1))) x.2.2.2.1) (fun x => ks.length - x.1) (0, none, 0, [], G3) ?_ ?_ ?_)
 (simp only [I3]; exact D9)
 (exact ⟨Nat.zero_le _, B8.refl _, by simp [S7, D3]⟩)
 (rintro ⟨(i : Nat), pn, cn, es, Gi⟩ ⟨hi, hle, hst⟩; simp only [] at hi hle hst ⊢)
 refine tS (tS (tR (sQ (qM rfl) rfl (sQ (A0 rfl) rfl (sL (A3 rfl rfl) rfl rfl (sQ (H8 rfl rfl) rfl ?_))))))
 refine sB (J1 rfl rfl) rfl rfl (fun h88 => ?_) (fun h88 => ?_)
 refine sD (nS (qT rfl (tK (nS (tS ?_)))))
 refine B9 ?_
 refine tS (tR (sQ (H6 rfl rfl) rfl ?_))
 refine sE (A7 rfl) rfl (fun b99 => ?_)
 refine B1 ?_
 refine sD (nS (tS (tR (sQ (A0 rfl) rfl (sL (A3 rfl rfl) rfl rfl (sQ (qM rfl) rfl ?_))))))
 (obtain ⟨b, o, e, rfl, hl, hat, hre, hgb⟩ := (hsl.mono (by first | exact hle | exact hle3.trans hle)).kidTm (hkl.mono (by first | exact hle | exact hle3.trans hle)) (i := i) (by omega) (by omega); have hone9 := hre.one; have hsc := A0Q (ks := ks) (i := i) (by omega); have hsk := A0P (ks := ks) (i := i) (by omega); have hts1 := A5B (ks := ks) (i := i) (by omega); have e9 : (I1 (ks.take (i + 1))).length = (I1 (ks.take i)).length + (K9 ks[i]).length := (by rw [A0g (by omega), List.length_append]); refine sP (B3 rfl rfl rfl (by omega)) rfl rfl ?_)
 refine sL (A5 rfl rfl (hat _) hl) rfl rfl ?_
 refine sQ (qM rfl) rfl (sQ (qM rfl) rfl ?_)
 (have hih := ih ks[i] (List.getElem_mem (by omega)) _ Gi e el (by rw [hL2] at hlen; (try simp only [List.length_append, List.length_singleton] at hlen); first | exact (show a + 1 + (I1 (ks.take i)).length + (K9 ks[i]).length ≤ L.length by omega) | exact (show a + (I1 (ks.take i)).length + (K9 ks[i]).length ≤ L.length by omega)) hLb (Tm.smallL_mem hks _ (List.getElem_mem (by omega))) (by omega) hre (hse.mono (by first | exact hle | exact hle3.trans hle)) (hel.mono (by first | exact hle | exact hle3.trans hle)); refine A0u rfl hih rfl rfl (fun v G7 outs hle7 hh => ?_); obtain ⟨rfl, cu, rfl, hru⟩ := hh; rw [← List.drop_drop] at hru; have hsn := D3.snoc (hst.mono hle7) hru; obtain ⟨u1, u2, u3, u4, u5, u6, u7, u8, u9, rfl⟩ : ∃ u1 u2 u3 u4 u5 u6 u7 u8 u9, cu = [u1, u2, u3, u4, u5, u6, u7, u8, u9] := (by obtain ⟨_, _, _, _, _, _, _, _, _, rfl, _⟩ := hru.open; exact ⟨_, _, _, _, _, _, _, _, _, rfl⟩); have huo := hru.one)
 refine sQ (qM rfl) rfl (sQ (pX rfl rfl) rfl (sQ (pX rfl rfl) rfl ?_))
 refine sS rfl rfl rfl rfl huo rfl ?_
 refine sQ (qA rfl) rfl (sD (nS (tR (sQ (A0 rfl) rfl (sL (A3 rfl rfl) rfl rfl (sL (A2 rfl rfl) rfl rfl ?_))))))
 (refine I5 (C7 rfl rfl rfl (by omega) (by unfold maxLen; omega) rfl) rfl ?_; rintro _ ⟨b124, rfl⟩)
 (refine A0M rfl rfl rfl rfl rfl (fun _ _ => by repeat (first | exact Sw.here | apply Sw.there)) (M9 (by repeat first | exact mH | apply mT)) rfl (fun u hu => List.all_eq_true.1 huo u hu) (by unfold maxLen; omega) (by omega) rfl (fun p4 c4 => ?_))
 refine sQ (A0 rfl) rfl (B1 ?_)
 refine sD (E3 (nS (tR (sQ (qM rfl) rfl ?_))))
 refine sP (I7 rfl rfl (by omega) (by omega)) rfl rfl ?_
 refine sQ (qA rfl) rfl (sD ?_)
 (rw [← A5A (by omega)] at hsn; refine J3 (i + 1, p4, c4, es ++ [[u1, u2, u3, u4, u5, u6, u7, u8, u9]], G7) (by simp only [List.flatten_append, List.flatten_cons, List.flatten_nil, List.append_nil, e9, ← Nat.add_assoc]; exact (K6 (by repeat (first | exact D8.nil | refine D8.cons rfl ?_)) (by repeat (first | exact A1.refl | exact A1.nil | refine A1.cons (by repeat (first | exact Pk.here | apply Pk.there)) ?_ | apply A1.drop)))) ?_ ?_)
 (dsimp only; exact ⟨by omega, hle.trans hle7, hsn⟩)
 (show ks.length - (i + 1) < ks.length - i; omega)
 refine O9 ?_
 (refine E9 (cs := es.flatten) (by repeat (first | exact Pk.here | apply Pk.there)) (fun G9 hle9 hsl9 hno9 => ?_); obtain rfl : i = ks.length := (by omega); rw [List.take_length] at hst)
 refine tT ?_
 refine H7 (rC rfl (A2 rfl rfl)) (rT rfl) ?_
 (rw [hW2, hL2]; exact A2Q.mk hk hnum hlb (by first | (rw [List.getD_eq_getElem?_getD, List.getElem?_drop, Nat.add_zero, List.getElem?_eq_getElem (by omega), Option.getD_some, ← hT0]; exact hr3.mono (hle.trans hle9)) | exact hr1.mono (hle2.trans (hle.trans hle9))) (by first | exact hr2.mono (hle3.trans (hle.trans hle9)) | exact hr2.mono (hle.trans hle9)) (by rw [A3m]) hsl9 (hst.mono hle9) (by (simp only [List.take_length, List.length_append, List.length_singleton]) <;> omega))
 refine sQ (qM rfl) rfl (sQ (A0 rfl) rfl (sL (A3 rfl rfl) rfl rfl ?_))
 refine sB (qE rfl rfl) rfl rfl (fun h162 => ?_) (fun h162 => ?_)
 refine sQ (D7 rfl rfl) rfl (sD (nS (qT rfl (tS (tR (sQ (qM rfl) rfl (sQ (qM rfl) rfl ?_)))))))
 (have hL1 := hcy (by omega); have h1 : a + (1 + (I1 ks).length) ≤ L.length := (by rw [hL1] at hlen; simp only [List.length_append, List.length_singleton] at hlen; omega); obtain ⟨b0, o0, p20, c20, rfl, hat0, hre0, hgb0⟩ := hse.kidTy hel (i := a) (by omega) (by omega); obtain ⟨T0, hT0⟩ : ∃ T, T = L[a]'(by omega) := ⟨_, rfl⟩; have hs0 := hsmL _ (List.getElem_mem (show a < L.length by omega)); rw [← hT0] at hre0 hat0 hs0; have hO := P0 T0 G2 _ hs0 hre0; refine sP (B3 rfl rfl rfl (by omega)) rfl rfl ?_)
 refine sL (A5 rfl rfl (hat0 _) rfl) rfl rfl ?_
 (refine E5 rfl hO rfl rfl (fun v G3 hle3 hh => ?_); obtain ⟨cs3, F3, rfl, hs3, hn3⟩ := hh; have hr3 := hs3.R.mono (C4.le _ _); obtain ⟨p3, c3, rfl, _⟩ := hs3.open)
 refine sQ (A0 rfl) rfl (B1 ?_)
 refine sD (nS (tR (sQ (qM rfl) rfl ?_)))
 refine sP (I7 rfl rfl (by omega) (by omega)) rfl rfl ?_
 refine sQ (qA rfl) rfl (sD (nS (tS (tS (tR (sQ (qA rfl) rfl (sD (nS ?_))))))))
 refine B9 ?_
 (have hL2 := hcy (by omega); have hW2 := hwy (by omega); refine S0 28 9 ?_; refine J4 (fun (x : Nat × Option Addr × Nat × List (List Value) × IM) => ⟨[(9, .int .i64 x.1), (2, .int .i64 ((a + 1 + (I1 (ks.take x.1)).length : Nat) : Int)), (1, .slice (some ⟨b0, o0, none⟩) L.length c), (3, .pointer (some ⟨b3, 0, none⟩)), (8, .pointer (some ⟨b11, 0, none⟩)), (6, .pointer (some ⟨b4, 0, none⟩))], [.blk b11 [.int .i64 k, .string nm, .int .i64 num, .int .i64 T0.k, .slice p3 T0.ks.length c3, .int .i64 fk, .slice p2 fks.length c2, .int .i64 lb, .slice x.2.1 x.1 x.2.2.1], .slc x.2.1 x.2.2.1 28 9 x.1 x.2.2.2.1.flatten, .blk b4 [.int .i64 0, .string ⟨⟨[]⟩⟩, .int .i64 0, .int .i64 0, .slice none 0 0, .int .i64 0, .slice none 0 0, .int .i64 0, .slice none 0 0], .blk b3 [.int .i64 k, .string nm, .int .i64 num, .int .i64 tk, .slice pt tks.length ct, .int .i64 fk, .slice pf fks.length cf, .int .i64 lb, .slice q ks.length cq]], x.2.2.2.2⟩) (fun x => x.1 ≤ ks.length ∧ B8 G3 x.2.2.2.2 ∧ D3 x.2.2.2.2 (S7 (ks.take x.1) (L.drop (a + 1))) x.2.2.2.1) (fun x => ks.length - x.1) (0, none, 0, [], G3) ?_ ?_ ?_)
 (simp only [I3]; exact D9)
 (exact ⟨Nat.zero_le _, B8.refl _, by simp [S7, D3]⟩)
 (rintro ⟨(i : Nat), pn, cn, es, Gi⟩ ⟨hi, hle, hst⟩; simp only [] at hi hle hst ⊢)
 refine tS (tS (tR (sQ (qM rfl) rfl (sQ (A0 rfl) rfl (sL (A3 rfl rfl) rfl rfl (sQ (H8 rfl rfl) rfl ?_))))))
 refine sB (J1 rfl rfl) rfl rfl (fun h202 => ?_) (fun h202 => ?_)
 refine sD (nS (qT rfl (tK (nS (tS ?_)))))
 refine B9 ?_
 refine tS (tR (sQ (H6 rfl rfl) rfl ?_))
 refine sE (A7 rfl) rfl (fun b213 => ?_)
 refine B1 ?_
 refine sD (nS (tS (tR (sQ (A0 rfl) rfl (sL (A3 rfl rfl) rfl rfl (sQ (qM rfl) rfl ?_))))))
 (obtain ⟨b, o, e, rfl, hl, hat, hre, hgb⟩ := (hsl.mono (by first | exact hle | exact hle3.trans hle)).kidTm (hkl.mono (by first | exact hle | exact hle3.trans hle)) (i := i) (by omega) (by omega); have hone9 := hre.one; have hsc := A0Q (ks := ks) (i := i) (by omega); have hsk := A0P (ks := ks) (i := i) (by omega); have hts1 := A5B (ks := ks) (i := i) (by omega); have e9 : (I1 (ks.take (i + 1))).length = (I1 (ks.take i)).length + (K9 ks[i]).length := (by rw [A0g (by omega), List.length_append]); refine sP (B3 rfl rfl rfl (by omega)) rfl rfl ?_)
 refine sL (A5 rfl rfl (hat _) hl) rfl rfl ?_
 refine sQ (qM rfl) rfl (sQ (qM rfl) rfl ?_)
 (have hih := ih ks[i] (List.getElem_mem (by omega)) _ Gi e el (by rw [hL2] at hlen; (try simp only [List.length_append, List.length_singleton] at hlen); first | exact (show a + 1 + (I1 (ks.take i)).length + (K9 ks[i]).length ≤ L.length by omega) | exact (show a + (I1 (ks.take i)).length + (K9 ks[i]).length ≤ L.length by omega)) hLb (Tm.smallL_mem hks _ (List.getElem_mem (by omega))) (by omega) hre (hse.mono (by first | exact hle | exact hle3.trans hle)) (hel.mono (by first | exact hle | exact hle3.trans hle)); refine A0u rfl hih rfl rfl (fun v G7 outs hle7 hh => ?_); obtain ⟨rfl, cu, rfl, hru⟩ := hh; rw [← List.drop_drop] at hru; have hsn := D3.snoc (hst.mono hle7) hru; obtain ⟨u1, u2, u3, u4, u5, u6, u7, u8, u9, rfl⟩ : ∃ u1 u2 u3 u4 u5 u6 u7 u8 u9, cu = [u1, u2, u3, u4, u5, u6, u7, u8, u9] := (by obtain ⟨_, _, _, _, _, _, _, _, _, rfl, _⟩ := hru.open; exact ⟨_, _, _, _, _, _, _, _, _, rfl⟩); have huo := hru.one)
 refine sQ (qM rfl) rfl (sQ (pX rfl rfl) rfl (sQ (pX rfl rfl) rfl ?_))
 refine sS rfl rfl rfl rfl huo rfl ?_
 refine sQ (qA rfl) rfl (sD (nS (tR (sQ (A0 rfl) rfl (sL (A3 rfl rfl) rfl rfl (sL (A2 rfl rfl) rfl rfl ?_))))))
 (refine I5 (C7 rfl rfl rfl (by omega) (by unfold maxLen; omega) rfl) rfl ?_; rintro _ ⟨b238, rfl⟩)
 (refine A0M rfl rfl rfl rfl rfl (fun _ _ => by repeat (first | exact Sw.here | apply Sw.there)) (M9 (by repeat first | exact mH | apply mT)) rfl (fun u hu => List.all_eq_true.1 huo u hu) (by unfold maxLen; omega) (by omega) rfl (fun p4 c4 => ?_))
 refine sQ (A0 rfl) rfl (B1 ?_)
 refine sD (E3 (nS (tR (sQ (qM rfl) rfl ?_))))
 refine sP (I7 rfl rfl (by omega) (by omega)) rfl rfl ?_
 refine sQ (qA rfl) rfl (sD ?_)
 (rw [← A5A (by omega)] at hsn; refine J3 (i + 1, p4, c4, es ++ [[u1, u2, u3, u4, u5, u6, u7, u8, u9]], G7) (by simp only [List.flatten_append, List.flatten_cons, List.flatten_nil, List.append_nil, e9, ← Nat.add_assoc]; exact (K6 (by repeat (first | exact D8.nil | refine D8.cons rfl ?_)) (by repeat (first | exact A1.refl | exact A1.nil | refine A1.cons (by repeat (first | exact Pk.here | apply Pk.there)) ?_ | apply A1.drop)))) ?_ ?_)
 (dsimp only; exact ⟨by omega, hle.trans hle7, hsn⟩)
 (show ks.length - (i + 1) < ks.length - i; omega)
 refine O9 ?_
 (refine E9 (cs := es.flatten) (by repeat (first | exact Pk.here | apply Pk.there)) (fun G9 hle9 hsl9 hno9 => ?_); obtain rfl : i = ks.length := (by omega); rw [List.take_length] at hst)
 refine tT ?_
 refine H7 (rC rfl (A2 rfl rfl)) (rT rfl) ?_
 (rw [hW2, hL2]; exact A2Q.mk hk hnum hlb (by first | (rw [List.getD_eq_getElem?_getD, List.getElem?_drop, Nat.add_zero, List.getElem?_eq_getElem (by omega), Option.getD_some, ← hT0]; exact hr3.mono (hle.trans hle9)) | exact hr1.mono (hle2.trans (hle.trans hle9))) (by first | exact hr2.mono (hle3.trans (hle.trans hle9)) | exact hr2.mono (hle.trans hle9)) (by rw [A3m]) hsl9 (hst.mono hle9) (by (simp only [List.take_length, List.length_append, List.length_singleton]) <;> omega))
 refine sQ (D7 rfl rfl) rfl (sD (nS (cF rfl (tK (nS (tS (tS (tR (sQ (qA rfl) rfl (sD (nS ?_)))))))))))
 refine B9 ?_
 (have hL2 := hcn (by omega); have hW2 := hwn (by omega); refine S0 28 9 ?_; refine J4 (fun (x : Nat × Option Addr × Nat × List (List Value) × IM) => ⟨[(9, .int .i64 x.1), (2, .int .i64 ((a + (I1 (ks.take x.1)).length : Nat) : Int)), (1, .slice p L.length c), (3, .pointer (some ⟨b3, 0, none⟩)), (8, .pointer (some ⟨b11, 0, none⟩)), (6, .pointer (some ⟨b4, 0, none⟩))], [.blk b11 [.int .i64 k, .string nm, .int .i64 num, .int .i64 tk, .slice p1 tks.length c1, .int .i64 fk, .slice p2 fks.length c2, .int .i64 lb, .slice x.2.1 x.1 x.2.2.1], .slc x.2.1 x.2.2.1 28 9 x.1 x.2.2.2.1.flatten, .blk b4 [.int .i64 0, .string ⟨⟨[]⟩⟩, .int .i64 0, .int .i64 0, .slice none 0 0, .int .i64 0, .slice none 0 0, .int .i64 0, .slice none 0 0], .blk b3 [.int .i64 k, .string nm, .int .i64 num, .int .i64 tk, .slice pt tks.length ct, .int .i64 fk, .slice pf fks.length cf, .int .i64 lb, .slice q ks.length cq]], x.2.2.2.2⟩) (fun x => x.1 ≤ ks.length ∧ B8 G2 x.2.2.2.2 ∧ D3 x.2.2.2.2 (S7 (ks.take x.1) (L.drop a)) x.2.2.2.1) (fun x => ks.length - x.1) (0, none, 0, [], G2) ?_ ?_ ?_)
 (simp only [I3]; exact D9)
 (exact ⟨Nat.zero_le _, B8.refl _, by simp [S7, D3]⟩)
 (rintro ⟨(i : Nat), pn, cn, es, Gi⟩ ⟨hi, hle, hst⟩; simp only [] at hi hle hst ⊢)
 refine tS (tS (tR (sQ (qM rfl) rfl (sQ (A0 rfl) rfl (sL (A3 rfl rfl) rfl rfl (sQ (H8 rfl rfl) rfl ?_))))))
 refine sB (J1 rfl rfl) rfl rfl (fun h297 => ?_) (fun h297 => ?_)
 refine sD (nS (qT rfl (tK (nS (tS ?_)))))
 refine B9 ?_
 refine tS (tR (sQ (H6 rfl rfl) rfl ?_))
 refine sE (A7 rfl) rfl (fun b308 => ?_)
 refine B1 ?_
 refine sD (nS (tS (tR (sQ (A0 rfl) rfl (sL (A3 rfl rfl) rfl rfl (sQ (qM rfl) rfl ?_))))))
 (obtain ⟨b, o, e, rfl, hl, hat, hre, hgb⟩ := (hsl.mono (by first | exact hle | exact hle3.trans hle)).kidTm (hkl.mono (by first | exact hle | exact hle3.trans hle)) (i := i) (by omega) (by omega); have hone9 := hre.one; have hsc := A0Q (ks := ks) (i := i) (by omega); have hsk := A0P (ks := ks) (i := i) (by omega); have hts1 := A5B (ks := ks) (i := i) (by omega); have e9 : (I1 (ks.take (i + 1))).length = (I1 (ks.take i)).length + (K9 ks[i]).length := (by rw [A0g (by omega), List.length_append]); refine sP (B3 rfl rfl rfl (by omega)) rfl rfl ?_)
 refine sL (A5 rfl rfl (hat _) hl) rfl rfl ?_
 refine sQ (qM rfl) rfl (sQ (qM rfl) rfl ?_)
 (have hih := ih ks[i] (List.getElem_mem (by omega)) _ Gi e el (by rw [hL2] at hlen; (try simp only [List.length_append, List.length_singleton] at hlen); first | exact (show a + 1 + (I1 (ks.take i)).length + (K9 ks[i]).length ≤ L.length by omega) | exact (show a + (I1 (ks.take i)).length + (K9 ks[i]).length ≤ L.length by omega)) hLb (Tm.smallL_mem hks _ (List.getElem_mem (by omega))) (by omega) hre (hse.mono (by first | exact hle | exact hle3.trans hle)) (hel.mono (by first | exact hle | exact hle3.trans hle)); refine A0u rfl hih rfl rfl (fun v G7 outs hle7 hh => ?_); obtain ⟨rfl, cu, rfl, hru⟩ := hh; rw [← List.drop_drop] at hru; have hsn := D3.snoc (hst.mono hle7) hru; obtain ⟨u1, u2, u3, u4, u5, u6, u7, u8, u9, rfl⟩ : ∃ u1 u2 u3 u4 u5 u6 u7 u8 u9, cu = [u1, u2, u3, u4, u5, u6, u7, u8, u9] := (by obtain ⟨_, _, _, _, _, _, _, _, _, rfl, _⟩ := hru.open; exact ⟨_, _, _, _, _, _, _, _, _, rfl⟩); have huo := hru.one)
 refine sQ (qM rfl) rfl (sQ (pX rfl rfl) rfl (sQ (pX rfl rfl) rfl ?_))
 refine sS rfl rfl rfl rfl huo rfl ?_
 refine sQ (qA rfl) rfl (sD (nS (tR (sQ (A0 rfl) rfl (sL (A3 rfl rfl) rfl rfl (sL (A2 rfl rfl) rfl rfl ?_))))))
 (refine I5 (C7 rfl rfl rfl (by omega) (by unfold maxLen; omega) rfl) rfl ?_; rintro _ ⟨b333, rfl⟩)
 (refine A0M rfl rfl rfl rfl rfl (fun _ _ => by repeat (first | exact Sw.here | apply Sw.there)) (M9 (by repeat first | exact mH | apply mT)) rfl (fun u hu => List.all_eq_true.1 huo u hu) (by unfold maxLen; omega) (by omega) rfl (fun p4 c4 => ?_))
 refine sQ (A0 rfl) rfl (B1 ?_)
 refine sD (E3 (nS (tR (sQ (qM rfl) rfl ?_))))
 refine sP (I7 rfl rfl (by omega) (by omega)) rfl rfl ?_
 refine sQ (qA rfl) rfl (sD ?_)
 (rw [← A5A (by omega)] at hsn; refine J3 (i + 1, p4, c4, es ++ [[u1, u2, u3, u4, u5, u6, u7, u8, u9]], G7) (by simp only [List.flatten_append, List.flatten_cons, List.flatten_nil, List.append_nil, e9, ← Nat.add_assoc]; exact (K6 (by repeat (first | exact D8.nil | refine D8.cons rfl ?_)) (by repeat (first | exact A1.refl | exact A1.nil | refine A1.cons (by repeat (first | exact Pk.here | apply Pk.there)) ?_ | apply A1.drop)))) ?_ ?_)
 (dsimp only; exact ⟨by omega, hle.trans hle7, hsn⟩)
 (show ks.length - (i + 1) < ks.length - i; omega)
 refine O9 ?_
 (refine E9 (cs := es.flatten) (by repeat (first | exact Pk.here | apply Pk.there)) (fun G9 hle9 hsl9 hno9 => ?_); obtain rfl : i = ks.length := (by omega); rw [List.take_length] at hst)
 refine tT ?_
 refine H7 (rC rfl (A2 rfl rfl)) (rT rfl) ?_
 (rw [hW2, hL2]; exact A2Q.mk hk hnum hlb (by first | (rw [List.getD_eq_getElem?_getD, List.getElem?_drop, Nat.add_zero, List.getElem?_eq_getElem (by omega), Option.getD_some, ← hT0]; exact hr3.mono (hle.trans hle9)) | exact hr1.mono (hle2.trans (hle.trans hle9))) (by first | exact hr2.mono (hle3.trans (hle.trans hle9)) | exact hr2.mono (hle.trans hle9)) (by rw [A3m]) hsl9 (hst.mono hle9) (by (simp only [List.take_length, List.length_append, List.length_singleton]) <;> omega))
def A1e (t : Tm) (L : List Ty) : Option Tm := if P9 t = true ∧ (Z8 t).length = L.length ∧ ∀ u ∈ L, E4 u = true then some (A0p t L) else none
theorem B3N {t : Tm} {L : List Ty} (h : P9 t = true) (hl : (Z8 t).length = L.length) (ha : ∀ j, j < L.length → (h : j < L.length) → E4 L[j] = true) : A1e t L = some (A0p t L) := by
 unfold A1e
 rw [if_pos ⟨h, hl, fun u hu => by obtain ⟨i, hi, rfl⟩ := List.mem_iff_getElem.1 hu; exact ha i hi hi⟩]
theorem B3O {t : Tm} {L : List Ty} (h : ¬(P9 t = true ∧ (Z8 t).length = L.length ∧ ∀ u ∈ L, E4 u = true)) : A1e t L = none := by
 unfold A1e; rw [if_neg h]
def TmB (o : Option Tm) : IM → Value → List A6 → Prop := L8 fun G' v => ∃ cu, v = .tuple ⟨[.agg ⟨cu⟩, .bool o.isSome]⟩ ∧ B0 G' (o.getD J6) cu
theorem B3P {t : Tm} (h : P9 t = true) : Z8 t = K9 t := by unfold Z8; rw [if_pos h]
theorem B3Q (t : Tm) (L : List Ty) (G : IM) (cells : List Value) (p : Option Addr) (c : Nat) (es : List (List Value)) (hts : t.small) (hcnt : D1 t ≤ 4000000) (hLb : L.length ≤ 4000000) (hsm : ∀ u ∈ L, u.small) (hr : B0 G t cells) (hse : D2 G p L.length c 2 es) (hel : C6 G L es) :
  Fn Tryz.prog 82 [.agg ⟨cells⟩, .slice p L.length c] [] G (TmB (A1e t L)) := by
 have hl := hr.len
 have hone := hr.one
 have hyes := @B3N t L
 have hno := @B3O t L
 have htv := @B3P t
 have hT := A86 t G cells hts hcnt hr
 generalize A1e t L = R at hyes hno ⊢
 obtain ⟨TT, hTT⟩ : ∃ TT, Z8 t = TT := ⟨_, rfl⟩
 rw [hTT] at hyes hno htv hT
 refine C0 Tryz.func82 rfl Tryz.ntmps82 Tryz.results82 rfl ?_
 intro w0
 refine tS (tR ?_)
 refine sE (C5 rfl rfl) rfl (fun b3 => ?_)
 refine sE (A7 rfl) rfl (fun b4 => ?_)
 refine sQ (qA rfl) rfl (sD (nS (tS (tS (tR ?_)))))
 refine sL (A5 rfl rfl (B2 (by repeat first | exact mH | apply mT)) hl) rfl rfl ?_
 (refine A0u rfl hT rfl rfl (fun v G1 outs hle1 hh => ?_); obtain ⟨p1, c1, e1, rfl, rfl, hr1⟩ := hh; replace hr := hr.mono hle1; replace hse := hse.mono hle1; replace hel := hel.mono hle1; have hv := A38 t G1 cells (by omega) hr)
 refine sQ (H8 rfl rfl) rfl (sQ (qM rfl) rfl (sQ (H8 rfl rfl) rfl ?_))
 refine sB (N9 rfl rfl) rfl rfl (fun h16 => ?_) (fun h16 => ?_)
 refine S9 ?_
 refine H7 (rC rfl (A2 rfl rfl)) (rT rfl) ?_
 (rw [hno (fun hc => by first | omega | exact Bool.noConfusion (hc.1.symm.trans (show P9 t = false by assumption)) | exact Bool.noConfusion ((hc.2.2 _ (List.getElem_mem (show i < L.length by omega))).symm.trans (by assumption)))]; exact ⟨rfl, _, rfl, (P2.zero _).R⟩)
 refine sQ (qM rfl) rfl ?_
 refine sL (A5 rfl rfl (B2 (by repeat first | exact mH | apply mT)) hl) rfl rfl ?_
 refine E7 rfl (hv) rfl rfl (fun h38 => ?_) (fun h38 => ?_)
 refine sQ (K4 rfl) rfl (sQ (D7 rfl rfl) rfl (sD (nS (cF rfl (tK (nS (tS (tS (tR (sQ (qA rfl) rfl (sD (nS ?_))))))))))))
 refine B9 ?_
 (refine J4 (fun (x : Nat) => ⟨[(6, .int .i64 x), (1, .slice p L.length c), (2, .pointer (some ⟨b3, 0, none⟩)), (4, .pointer (some ⟨b4, 0, none⟩))], [.blk b4 [.int .i64 0, .string ⟨⟨[]⟩⟩, .int .i64 0, .int .i64 0, .slice none 0 0, .int .i64 0, .slice none 0 0, .int .i64 0, .slice none 0 0], .blk b3 cells], G1⟩) (fun x => x ≤ L.length ∧ ∀ j, j < x → (h : j < L.length) → E4 L[j] = true) (fun x => L.length - x) 0 ?_ ?_ ?_)
 exact D9
 (exact ⟨Nat.zero_le _, fun j hj => absurd hj (by omega)⟩)
 (rintro (i : Nat) ⟨hi, hval⟩)
 refine tS (tS (tR (sQ (qM rfl) rfl (sQ (qM rfl) rfl (sQ (H8 rfl rfl) rfl ?_)))))
 refine sB (J1 rfl rfl) rfl rfl (fun h63 => ?_) (fun h63 => ?_)
 refine sD (nS (qT rfl (tK (nS (tS ?_)))))
 refine B9 ?_
 refine tS (tR (sQ (qM rfl) rfl (sQ (qM rfl) rfl ?_)))
 (obtain ⟨b0, o0, p20, c20, rfl, hat0, hre0, hgb0⟩ := hse.kidTy hel (i := i) (by omega) (by omega); have hV := A1r _ G1 _ hre0; refine sP (B3 rfl rfl rfl (by omega)) rfl rfl ?_)
 refine sL (A5 rfl rfl (hat0 _) rfl) rfl rfl ?_
 refine E7 rfl (hV) rfl rfl (fun h77 => ?_) (fun h77 => ?_)
 refine sQ (K4 rfl) rfl (sD (nS (cF rfl (tK (E3 (nS (tR (sQ (qM rfl) rfl ?_))))))))
 refine sP (I7 rfl rfl (by omega) (by omega)) rfl rfl ?_
 refine sQ (qA rfl) rfl (sD ?_)
 refine J3 (i + 1) ?_ ?_ ?_
 exact D9
 (exact ⟨by omega, fun j hj hl => by rcases Nat.lt_succ_iff_lt_or_eq.1 hj with h | h; exact hval j h hl; subst h; assumption⟩)
 (show L.length - (i + 1) < L.length - i; omega)
 refine S9 ?_
 refine H7 (rC rfl (A2 rfl rfl)) (rT rfl) ?_
 (rw [hno (fun hc => by first | omega | exact Bool.noConfusion (hc.1.symm.trans (show P9 t = false by assumption)) | exact Bool.noConfusion ((hc.2.2 _ (List.getElem_mem (show i < L.length by omega))).symm.trans (by assumption)))]; exact ⟨rfl, _, rfl, (P2.zero _).R⟩)
 refine sD (nS (cF rfl (M3 (M5 (N7 (M6 (nS (tS (tR ?_)))))))))
 refine sL (A5 rfl rfl (B2 (by repeat first | exact mH | apply mT)) hl) rfl rfl ?_
 refine sQ (qM rfl) rfl ?_
 (have hTv := htv (by assumption); refine A0u rfl (B3M L p c hsm t 0 G1 cells es (by rw [← hTv]; omega) hLb hts hcnt hr hse hel) rfl rfl (fun v G3 outs hle3 hh => ?_); obtain ⟨rfl, cu, rfl, hru⟩ := hh; rw [List.drop_zero] at hru; have hul := hru.len; have huo := hru.one)
 refine sQ (qM rfl) rfl (sQ (pX rfl rfl) rfl (sQ (pX rfl rfl) rfl ?_))
 refine sE (A7 rfl) rfl (fun b129 => ?_)
 refine sS rfl rfl rfl hul huo rfl ?_ (hu := by exact D5 hul.symm)
 refine sQ (qA rfl) rfl (sD (nS (tS (tR ?_))))
 refine sL (A5 rfl rfl (B2 (by repeat first | exact mH | apply mT)) hul) rfl rfl ?_
 refine sS rfl rfl rfl hul huo rfl ?_ (hu := by exact D5 hul.symm)
 refine sQ (qA rfl) rfl (sD (nS (tT ?_)))
 refine H7 (rC rfl (A5 rfl rfl (B2 (by repeat first | exact mH | apply mT)) hul)) (rT rfl) ?_
 (rw [hyes (by assumption) (by omega) (fun j hj => hval j (by omega))]; exact ⟨rfl, _, rfl, hru⟩)
 refine R2 ?_
 refine H7 (rC rfl (A2 rfl rfl)) (rT rfl) ?_
 (rw [hno (fun hc => by first | omega | exact Bool.noConfusion (hc.1.symm.trans (show P9 t = false by assumption)) | exact Bool.noConfusion ((hc.2.2 _ (List.getElem_mem (show i < L.length by omega))).symm.trans (by assumption)))]; exact ⟨rfl, _, rfl, (P2.zero _).R⟩)
theorem B3R {e : Tm} (h : (A0h e).isSome = true) : P9 e = true := by
 unfold A0h U3 at h
 split at h
 ·rename_i u t hx
  split at hx
  ·assumption
  ·cases hx
 ·cases h
mutual
theorem A87 : ∀ (t : Tm) (d : Int), N5 12 14 t d = true → t.small
 | .mk k nm num ty fr lb ks, d, h => by
  obtain ⟨_, h2, h3, h4⟩ := A0z h
  obtain ⟨n1, n2, n3, n4, n5, n6, n7, n8, n9⟩ := U0.1 h3
  rw [Tm.small]
  refine ⟨by have := A7N h3; omega, (A2E h3).1.small, by rw [A1G (n9 h2).1]; exact A2a, ?_, A88 ks _ h4⟩
  have := A06 k; omega
theorem A88 : ∀ (ts : List Tm) (d : Int), N6 12 14 ts d = true → Tm.smallL ts
 | [], _, _ => by rw [Tm.smallL]; trivial
 | t :: ts, d, h => by
  rw [N6, Bool.and_eq_true] at h
  rw [Tm.smallL]
  exact ⟨A87 t d h.1, A88 ts d h.2⟩
end
theorem A89 {e : Tm} (h : P9 e = true) : e.fit 30 := by
 obtain ⟨h1, h2⟩ := (A04 e).1 h
 exact ⟨A87 e 1 h1, h2⟩
theorem Tm.fit.le {e : Tm} {n m : Nat} (h : e.fit n) (hm : n ≤ m) : e.fit m := ⟨h.1, Nat.le_trans h.2 hm⟩
mutual
theorem A56 : ∀ (t : Tm) (d : Int), N5 12 14 t d = true → ∀ u ∈ K9 t, E4 u = true
 | .mk k nm num ty fr lb ks, d, h => by
  obtain ⟨_, h2, h3, h4⟩ := A0z h
  obtain ⟨n1, n2, n3, n4, n5, n6, n7, n8, n9⟩ := U0.1 h3
  intro u hu
  rw [K9, List.mem_append] at hu
  rcases hu with hu | hu
  ·split at hu
   ·rename_i hk
    obtain rfl := List.mem_singleton.1 hu
    exact n6 (by omega)
   ·simp at hu
  ·exact A9a ks _ h4 u hu
theorem A9a : ∀ (ts : List Tm) (d : Int), N6 12 14 ts d = true → ∀ u ∈ I1 ts, E4 u = true
 | [], _, _ => by simp [I1]
 | t :: ts, d, h => by
  rw [N6, Bool.and_eq_true] at h
  intro u hu
  rw [I1, List.mem_append] at hu
  rcases hu with hu | hu
  ·exact A56 t d h.1 u hu
  ·exact A9a ts d h.2 u hu
end
theorem B3S (e : Tm) : (Z8 e).length ≤ 30 ∧ ∀ u ∈ Z8 e, E4 u = true := by
 unfold Z8
 split
 ·rename_i h
  obtain ⟨h1, h2⟩ := (A04 e).1 h
  exact ⟨by have := A4i e; omega, A56 e 1 h1⟩
 ·simp
mutual
theorem A9b : ∀ (t : Tm) (l : List Ty), t.small → (∀ u ∈ l, u.small) → (A0p t l).small ∧ D1 (A0p t l) = D1 t
 | .mk k nm num ty fr lb ks, l, h, hl => by
  obtain ⟨h1, h2, h3, h4, h5⟩ := Z5.1 h
  rw [A0p]
  have hd : ∀ u ∈ (if k = 5 ∨ k = 13 then l.drop 1 else l), u.small := by
   intro u hu
   split at hu
   ·exact hl u (List.mem_of_mem_drop hu)
   ·exact hl u hu
  obtain ⟨g1, g2⟩ := A9c ks _ h5 hd
  refine ⟨Z5.2 ⟨h1, ?_, h3, by rw [A3m]; exact h4, g1⟩, by rw [W6, W6, g2]⟩
  split
  ·rw [List.getD_eq_getElem?_getD]
   cases hx : l[0]? with
   | none => exact A2a
   | some t => exact hl t (List.mem_of_getElem? hx)
  ·exact h2
theorem A9c : ∀ (ts : List Tm) (l : List Ty), Tm.smallL ts → (∀ u ∈ l, u.small) → Tm.smallL (S7 ts l) ∧ E1 (S7 ts l) = E1 ts
 | [], l, _, _ => by simp [S7, Tm.smallL, E1]
 | t :: ts, l, h, hl => by
  simp only [Tm.smallL] at h
  obtain ⟨a1, a2⟩ := A9b t l h.1 hl
  obtain ⟨b1, b2⟩ := A9c ts (l.drop (K9 t).length) h.2 (fun u hu => hl u (List.mem_of_mem_drop hu))
  simp only [S7, Tm.smallL, E1, a2, b2]
  exact ⟨⟨a1, b1⟩, trivial⟩
end
theorem B3T {t : Tm} {l : List Ty} {N : Nat} (h : t.fit N) (hl : ∀ u ∈ l, u.small) : ((A1e t l).getD J6).fit N := by
 unfold A1e
 split
 ·obtain ⟨h1, h2⟩ := A9b t l h.1 hl
  exact ⟨h1, by rw [Option.getD_some, h2]; exact h.2⟩
 ·refine ⟨A3l, ?_⟩
  have h2 := h.2
  have : 1 ≤ D1 t := by cases t; rw [W6]; omega
  show D1 J6 ≤ N
  rw [A78]; omega
theorem B3U {es : List (List Value)} {i sz : Nat} (hi : i < es.length) (ha : ∀ e ∈ es, e.length = sz) : ∀ j v, es[i][j]? = some v → es.flatten[0 + i * sz + j]? = some v := by
 intro j v hj
 have h1 : es.flatten = (es.take i).flatten ++ (es[i] ++ (es.drop (i + 1)).flatten) := by
  conv => lhs; rw [← List.take_append_drop i es, List.drop_eq_getElem_cons hi]
  rw [List.flatten_append, List.flatten_cons]
 have hA : ((es.take i).flatten).length = 0 + i * sz := by rw [A0v (fun e he => ha e (List.mem_of_mem_take he)), List.length_take, Nat.min_eq_left (by omega)]; omega
 have hjl : j < es[i].length := by
  apply Classical.byContradiction
  intro hn
  rw [List.getElem?_eq_none (by omega)] at hj
  cases hj
 rw [h1, List.getElem?_append_right (by omega), hA, show 0 + i * sz + j - (0 + i * sz) = j by omega, List.getElem?_append_left hjl, hj]
theorem A9d (br : Nat) (pb : Option Addr) (nb cb : Nat) (bs : List UInt8) (hnb : nb ≤ 2000) (p : Nat) (G : IM) (hb : Sl G pb nb cb 1 (O0 bs)) (hp : p < 1099511627776) :
  Fn Tryz.prog 27 [.pointer (some ⟨br, 0, none⟩)] [rd br pb nb cb p] G
   (Z4 br pb nb cb p 1 (fun _ v => ∃ k, v = .int .i64 k ∧ E6 k)) := by
 refine C0 Tryz.func27 rfl Tryz.ntmps27 Tryz.results27 rfl ?_
 intro w0
 refine tS (tR (sQ (qA rfl) rfl (sD (nS (tS (tR (sQ (qM rfl) rfl ?_)))))))
 (refine I5 (C7 rfl rfl rfl (by omega) (by unfold maxLen; omega) rfl) rfl ?_; rintro _ ⟨b9, rfl⟩)
 (refine R8 (by repeat (first | exact Pk.here | apply Pk.there)) (fun Gf hlef hslf _ => ?_); refine I8 rfl (Y5 Gf br pb nb cb p bs _ _ _ _ (hb.mono hlef) hnb (by omega) hslf (by decide)) (Pk.perm (by repeat (first | exact Pk.here | apply Pk.there))) rfl rfl (fun v Gm outs hlen hh => ?_); obtain ⟨rfl, rfl, hv⟩ := hh; obtain ⟨kn, rfl, hkn⟩ : ∃ k, v = .int .i64 k ∧ E6 k := (by simp only [List.mem_cons, List.not_mem_nil, or_false] at hv; rcases hv with rfl | rfl | rfl | rfl | rfl | rfl | rfl | rfl <;> exact ⟨_, rfl, by unfold E6; omega⟩))
 refine sQ (qA rfl) rfl (sD (nS (tT ?_)))
 refine F9 (outs := [rd br pb nb cb (p + 1)]) (rT rfl) (by repeat (first | exact A1.nil | refine A1.cons Pk.here ?_ | refine A1.cons (Pk.there Pk.here) ?_ | refine A1.cons (Pk.there (Pk.there Pk.here)) ?_ | apply A1.drop)) ?_
 (exact ⟨p + 1, by omega, by omega, rfl, kn, rfl, hkn⟩)
theorem B3V (br : Nat) (pb : Option Addr) (nb cb : Nat) (bs : List UInt8) (hnb : nb ≤ 2000) (p : Nat) (G : IM) (hb : Sl G pb nb cb 1 (O0 bs)) (hp : p + 9000000 < 1099511627776) :
  Fn Tryz.prog 40 [.pointer (some ⟨br, 0, none⟩)] [rd br pb nb cb p] G
   (Z4 br pb nb cb p 9000000 (fun G' v => ∃ e cells, v = .agg ⟨cells⟩ ∧ B0 G' e cells ∧ e.fit 1100)) := by
 have hm8 : mB 8 = 1968200 := by decide
 refine C0 Tryz.func40 rfl Tryz.ntmps40 Tryz.results40 rfl ?_
 intro w0
 refine tS (tR ?_)
 refine sE (A7 rfl) rfl (fun b3 => ?_)
 refine sD (nS (tS (tS (tR (sQ (qA rfl) rfl (sD (nS ?_)))))))
 refine B9 ?_
 (refine J4 (fun (x : Nat × Nat × IM) => ⟨[(3, .int .i64 x.1), (0, .pointer (some ⟨br, 0, none⟩)), (2, .pointer (some ⟨b3, 0, none⟩))], [rd br pb nb cb x.2.1, .blk b3 [.int .i64 0, .string ⟨⟨[]⟩⟩, .int .i64 0, .int .i64 0, .slice none 0 0, .int .i64 0, .slice none 0 0, .int .i64 0, .slice none 0 0]], x.2.2⟩) (fun x => x.1 ≤ 4 ∧ B8 G x.2.2 ∧ p ≤ x.2.1 ∧ x.2.1 ≤ p + x.1 * 2000000) (fun x => 4 - x.1) (0, p, G) ?_ ?_ ?_)
 (simp only [I3]; exact D9)
 (exact ⟨by omega, B8.refl _, Nat.le_refl _, by dsimp only; omega⟩)
 (rintro ⟨(i : Nat), (p1 : Nat), G1⟩ ⟨hi, hleL, hpL, hpL2⟩; simp only [] at hi hleL hpL hpL2 ⊢; replace hb := hb.mono hleL)
 refine tS (tS (tR (sQ (qM rfl) rfl ?_)))
 refine sB (J1 rfl rfl) rfl rfl (fun h21 => ?_) (fun h21 => ?_)
 refine sD (nS (qT rfl (tK (nS (tS ?_)))))
 refine B9 ?_
 refine tS (tR (sQ (qM rfl) rfl (sQ (qM rfl) rfl (sQ (qM rfl) rfl ?_))))
 (refine I5 (C7 rfl rfl rfl (by omega) (by unfold maxLen; omega) rfl) rfl ?_; rintro _ ⟨b34, rfl⟩)
 (refine R8 (by repeat (first | exact Pk.here | apply Pk.there)) (fun Gf hlef hslf _ => ?_); refine I8 rfl (Y5 Gf br pb nb cb (p1) bs _ _ _ _ (hb.mono hlef) hnb (by omega) hslf (by decide)) (Pk.perm (by repeat (first | exact Pk.here | apply Pk.there))) rfl rfl (fun v Gm outs hlen hh => ?_); obtain ⟨rfl, rfl, hv⟩ := hh; replace hb := hb.mono hlef; obtain ⟨dd, rfl, hdd⟩ : ∃ d : Nat, v = .int .i64 ((d + 1 : Nat) : Int) ∧ d ≤ 2 := (by simp only [List.mem_cons, List.not_mem_nil, or_false] at hv; rcases hv with rfl | rfl | rfl | rfl <;> first | exact ⟨0, rfl, by decide⟩ | exact ⟨1, rfl, by decide⟩ | exact ⟨2, rfl, by decide⟩); have hdB := A5w hdd; replace hleL := hleL.trans hlef)
 (have hcall := A3h br pb nb cb bs hnb dd (p1 + 1) _ (by omega) hb (by omega); refine I8 rfl hcall (Pk.perm (by repeat (first | exact Pk.here | apply Pk.there))) rfl rfl (fun v Gn outs hleD hh => ?_); obtain ⟨pD, hpD1, hpD2, rfl, uD, cD, rfl, hrD, hsD, haD⟩ := hh; obtain ⟨qD, dD, eD, rfl, _⟩ := hrD.open; replace hb := hb.mono hleD; replace hleL := hleL.trans hleD)
 refine sQ (qM rfl) rfl ?_
 (refine I5 (C7 rfl rfl rfl (by omega) (by unfold maxLen; omega) rfl) rfl ?_; rintro _ ⟨b38, rfl⟩)
 (refine R8 (by repeat (first | exact Pk.here | apply Pk.there)) (fun Gf hlef hslf _ => ?_); refine I8 rfl (Y5 Gf br pb nb cb (pD) bs _ _ _ _ (hb.mono hlef) hnb (by omega) hslf (by decide)) (Pk.perm (by repeat (first | exact Pk.here | apply Pk.there))) rfl rfl (fun v Gm outs hlen hh => ?_); obtain ⟨rfl, rfl, hv⟩ := hh; replace hb := hb.mono hlef; replace hleL := hleL.trans hlef; replace hrD := hrD.mono hlef; obtain ⟨dp, rfl, hdp1, hdp2⟩ : ∃ d : Int, v = .int .i64 d ∧ 3 ≤ d ∧ d ≤ 5 := (by simp only [List.mem_cons, List.not_mem_nil, or_false] at hv; rcases hv with rfl | rfl | rfl | rfl <;> exact ⟨_, rfl, by decide, by decide⟩))
 (have hcall := B1I br pb nb cb bs hnb 8 dp uD (pD + 1) _ none 0 0 _ ⟨haD.le (by omega), by omega, by omega, .inr ⟨by omega, by omega⟩⟩ (by omega) (by omega) (by omega) (V2.nil _) hrD hb (by omega); refine I8 rfl hcall (Pk.perm (by repeat (first | exact Pk.here | apply Pk.there))) rfl rfl (fun v Gn outs hleM hh => ?_); obtain ⟨pM, hpM1, hpM2, rfl, eM, cM, rfl, hrM, hcM⟩ := hh; have hlM := hrM.len; have hoM := hrM.one; replace hb := hb.mono hleM; replace hleL := hleL.trans hleM)
 refine sE (A7 rfl) rfl (fun b41 => ?_)
 refine Y0 rfl rfl rfl hlM hoM rfl (by repeat first | exact Sw.here | apply Sw.there) (by exact D5 (by first | exact hlM.symm | omega)) ?_
 refine sD (nS (tS (tR ?_)))
 refine sL (A5 rfl rfl (B2 (by repeat first | exact mH | apply mT)) hlM) rfl rfl ?_
 (refine E5 rfl (A83 eM _ _ (by omega) hrM) rfl rfl (fun v G9 hle9 hh => ?_); have hmv := @B3R eM; obtain ⟨mc, mt, rfl, hmr, hmu⟩ := hh; obtain ⟨pt, ct, et, rfl, _⟩ := hmr.open; replace hb := hb.mono hle9; replace hleL := hleL.trans hle9; replace hrM := hrM.mono hle9; generalize (A0h eM).isSome = mx at *; cases mx)
 refine sQ (qM rfl) rfl (sQ (pX rfl rfl) rfl (sQ (pX rfl rfl) rfl ?_))
 refine sE (A7 rfl) rfl (fun b52 => ?_)
 refine B1 ?_
 refine sQ (qA rfl) rfl (sD (nS (tS (tR (sQ (qM rfl) rfl (sD (nS (cF rfl (tK (E3 (nS (tR (sQ (qM rfl) rfl ?_)))))))))))))
 refine sP (I7 rfl rfl (by omega) (by omega)) rfl rfl ?_
 refine sQ (qA rfl) rfl (sD ?_)
 refine J3 (i + 1, pM, G9) ?_ ?_ ?_
 (simp only [I3]; exact D9)
 (dsimp only; exact ⟨by omega, hleL, by omega, by omega⟩)
 (show 4 - (i + 1) < 4 - i; omega)
 refine sQ (qM rfl) rfl (sQ (pX rfl rfl) rfl (sQ (pX rfl rfl) rfl ?_))
 refine sE (A7 rfl) rfl (fun b78 => ?_)
 refine B1 ?_
 refine sQ (qA rfl) rfl (sD (nS (tS (tR (sQ (qM rfl) rfl (sD (nS (qT rfl (tS (tR ?_))))))))))
 refine sL (A5 rfl rfl (B2 (by repeat first | exact mH | apply mT)) hlM) rfl rfl ?_
 refine Y0 rfl rfl rfl hlM hoM rfl (by repeat first | exact Sw.here | apply Sw.there) (by exact D5 (by first | exact hlM.symm | omega)) ?_
 refine sD (nS (tT (rB (rS (T4 (rB (rS ?_)))))))
 refine F9 (outs := [rd br pb nb cb pM]) (rC rfl (A5 rfl rfl (B2 (by repeat first | exact mH | apply mT)) hlM)) (by repeat (first | exact A1.nil | refine A1.cons Pk.here ?_ | refine A1.cons (Pk.there Pk.here) ?_ | refine A1.cons (Pk.there (Pk.there Pk.here)) ?_ | apply A1.drop)) ?_
 (exact ⟨pM, by omega, by omega, rfl, eM, _, rfl, hrM, (A89 (hmv rfl)).le (by omega)⟩)
 refine sD (nS (cF rfl (M3 (M5 (N7 (M6 (nS (tS (tR (sQ (qM rfl) rfl ?_))))))))))
 (have hcall := B1s br pb nb cb bs hnb p1 _ hb (by omega); refine I8 rfl hcall (Pk.perm (by repeat (first | exact Pk.here | apply Pk.there))) rfl rfl (fun v Gn outs hleC hh => ?_); obtain ⟨pC, hpC1, hpC2, rfl, eC, cC, rfl, hrC, hcC⟩ := hh; have hlC := hrC.len; have hoC := hrC.one; have hcnt := A5h eC)
 refine Y0 rfl rfl rfl hlC hoC rfl (by repeat first | exact Sw.here | apply Sw.there) (by exact D5 (by first | exact hlC.symm | omega)) ?_
 refine sD (nS (tT ?_))
 refine F9 (outs := [rd br pb nb cb pC]) (rC rfl (A5 rfl rfl (B2 (by repeat first | exact mH | apply mT)) hlC)) (by repeat (first | exact A1.nil | refine A1.cons Pk.here ?_ | refine A1.cons (Pk.there Pk.here) ?_ | refine A1.cons (Pk.there (Pk.there Pk.here)) ?_ | apply A1.drop)) ?_
 (exact ⟨pC, by omega, by omega, rfl, eC, _, rfl, hrC, A7g _ (by omega), by omega⟩)
theorem B3W (br : Nat) (pb : Option Addr) (nb cb : Nat) (bs : List UInt8) (hnb : nb ≤ 2000) (p : Nat) (G : IM) (hb : Sl G pb nb cb 1 (O0 bs)) (hp : p + 1000 < 1099511627776) (e : Tm) (ce : List Value) (N : Nat) (hfit : e.fit N) (hN : N ≤ 4000000) (hr : B0 G e ce) :
  Fn Tryz.prog 42 [.pointer (some ⟨br, 0, none⟩), .agg ⟨ce⟩] [rd br pb nb cb p] G
   (Z4 br pb nb cb p 1000 (fun G' v => ∃ u cu, v = .agg ⟨cu⟩ ∧ B0 G' u cu ∧ u.fit N)) := by
 have hl := hr.len
 have hone := hr.one
 have hcnt := hfit.2
 obtain ⟨hTl, hTv⟩ := B3S e
 have hT := A86 e G ce hfit.1 (by omega) hr
 generalize Z8 e = L0 at hTl hTv hT
 refine C0 Tryz.func42 rfl Tryz.ntmps42 Tryz.results42 rfl ?_
 intro w0
 refine tS (tR ?_)
 refine sE (C5 rfl rfl) rfl (fun b3 => ?_)
 refine sE (A7 rfl) rfl (fun b4 => ?_)
 refine sD (nS (tS (tR ?_)))
 refine sL (A5 rfl rfl (B2 (by repeat first | exact mH | apply mT)) hl) rfl rfl ?_
 (refine A0u rfl hT rfl rfl (fun v G1 outs hle1 hh => ?_); obtain ⟨q, c, es0, rfl, rfl, hr1⟩ := hh; replace hb := hb.mono hle1; replace hr := hr.mono hle1)
 refine sQ (qA rfl) rfl (sD (nS (tS (tS (tR (sQ (qA rfl) rfl (sD (nS ?_))))))))
 refine B9 ?_
 (refine B0d (fun a w hs => hs.slc_ptT (p := q) (c := c) (el := 25) (sz := 2) (n := L0.length) (cs := es0.flatten) (by repeat first | exact mH | apply mT)) (fun hq => ?_); refine J4 (fun (x : Nat × Nat × List (List Value) × IM) => ⟨[(6, .int .i64 x.1), (5, .slice q L0.length c), (0, .pointer (some ⟨br, 0, none⟩)), (3, .pointer (some ⟨b3, 0, none⟩)), (4, .pointer (some ⟨b4, 0, none⟩))], [.slc q c 25 2 L0.length x.2.2.1.flatten, rd br pb nb cb x.2.1, .blk b4 [.int .i64 0, .string ⟨⟨[]⟩⟩, .int .i64 0, .int .i64 0, .slice none 0 0, .int .i64 0, .slice none 0 0, .int .i64 0, .slice none 0 0], .blk b3 ce], x.2.2.2⟩) (fun x => x.1 ≤ L0.length ∧ B8 G1 x.2.2.2 ∧ p ≤ x.2.1 ∧ x.2.1 ≤ p + x.1 * 31 ∧ ∃ L, L.length = L0.length ∧ C6 x.2.2.2 L x.2.2.1 ∧ ∀ u ∈ L, E2 u ∧ J0 u ≤ 30) (fun x => L0.length - x.1) (0, p, es0, G1) ?_ ?_ ?_)
 (simp only [I3]; exact D9)
 (exact ⟨Nat.zero_le _, B8.refl _, Nat.le_refl _, by dsimp only; omega, L0, rfl, hr1, fun u hu => A2D (hTv u hu)⟩)
 (rintro ⟨(i : Nat), (p1 : Nat), es, Gi⟩ ⟨hi, hle, hp1, hp2, L, hL, hst, hal⟩; simp only [] at hi hle hp1 hp2 hst ⊢; replace hb := hb.mono hle; have hesl : es.length = L0.length := (by have h0 := hst.len; omega))
 refine tS (tS (tR (sQ (qM rfl) rfl (sQ (qM rfl) rfl (sQ (H8 rfl rfl) rfl ?_)))))
 refine sB (J1 rfl rfl) rfl rfl (fun h31 => ?_) (fun h31 => ?_)
 refine sD (nS (qT rfl (tK (nS (tS ?_)))))
 refine B9 ?_
 refine tR (sQ (qM rfl) rfl (sQ (qM rfl) rfl (sQ (qM rfl) rfl (sQ (qM rfl) rfl (sQ (qM rfl) rfl ?_)))))
 (obtain ⟨g, rfl, hgc⟩ := hq.resolve_left (by omega); obtain ⟨hai, hsi⟩ := hal L[i] (List.getElem_mem (by omega)); have hri : B7 Gi L[i] (es[i]'(by omega)) := (by have h0 := (hst.inv (i := i) (List.getElem?_eq_getElem (by omega)) B4).2; rw [List.getD_eq_getElem?_getD, List.getElem?_eq_getElem (by omega), Option.getD_some] at h0; exact h0); have hei := hri.len; refine sP (B3 (j := i) rfl rfl rfl (by omega)) rfl rfl ?_)
 refine sL (A5 rfl rfl (A6o (by repeat first | exact mH | apply mT) (B3U (by omega) (fun e he => (hst.each e he).1))) hei) rfl rfl ?_
 (have hcall := A4d br pb nb cb bs hnb _ p1 _ _ hai hri hb (by omega); refine I8 rfl hcall (Pk.perm (by repeat (first | exact Pk.here | apply Pk.there))) rfl rfl (fun v Gn outs hleu hh => ?_); obtain ⟨p2, hp21, hp22, rfl, u, cu, rfl, hru, hua, hus, huh⟩ := hh; have hul := hru.len; have huo := hru.one; replace hb := hb.mono hleu; replace hle := hle.trans hleu; replace hst := hst.mono hleu)
 refine sP (B3 (j := i) rfl rfl rfl (by omega)) rfl rfl ?_
 refine B3J rfl rfl rfl hul huo rfl (by repeat first | exact Sw.here | apply Sw.there) (B3K (by omega) (fun e he => (hst.each e he).1) hul) ?_
 refine sD (E3 (nS (tR (sQ (qM rfl) rfl ?_))))
 refine sP (I7 rfl rfl (by omega) (by omega)) rfl rfl ?_
 refine sQ (qA rfl) rfl (sD ?_)
 (refine J3 (i + 1, p2, es.set i cu, Gn) ?_ ?_ ?_)
 (simp only [I3]; exact D9)
 (dsimp only; exact ⟨by omega, hle, by omega, by omega, L.set i u, by rw [List.length_set]; exact hL, hst.set i hru, fun w hw => by rcases List.mem_or_eq_of_mem_set hw with h | h; exact hal w h; rw [h]; exact ⟨hua, by omega⟩⟩)
 (show L0.length - (i + 1) < L0.length - i; omega)
 refine sD (nS (cF rfl (M3 (M5 (N7 (M6 (nS (tS (tR ?_)))))))))
 refine sL (A5 rfl rfl (B2 (by repeat first | exact mH | apply mT)) hl) rfl rfl ?_
 refine sQ (qM rfl) rfl ?_
 (refine R8 (cs := es.flatten) (by repeat (first | exact Pk.here | apply Pk.there)) (fun G2 hle2 hsl2 hno2 => ?_); have hw := B3Q e L G2 ce q c es hfit.1 (by omega) (by omega) (fun u hu => (hal u hu).1.small) ((hr.mono hle).mono hle2) (D2.of (by rw [hL]; exact hsl2) (by omega) hst.all (fun e he => (hst.each e he).2)) (hst.mono hle2); rw [hL] at hw; refine E5 rfl hw rfl rfl (fun v G3 hle3 hh => ?_); obtain ⟨cu, rfl, hru⟩ := hh; have hfu := B3T hfit (fun u hu => (hal u hu).1.small); generalize (A1e e L).isSome = bx; generalize (A1e e L).getD J6 = ux at *; have hul := hru.len; have huo := hru.one)
 refine sQ (qM rfl) rfl (sQ (pX rfl rfl) rfl (sQ (pX rfl rfl) rfl ?_))
 refine sE (A7 rfl) rfl (fun b78 => ?_)
 refine sS rfl rfl rfl hul huo rfl ?_ (hu := by exact D5 hul.symm)
 refine sQ (qA rfl) rfl (sD (nS (tS (tR ?_))))
 refine sL (A5 rfl rfl (B2 (by repeat first | exact mH | apply mT)) hul) rfl rfl ?_
 refine sS rfl rfl rfl hul huo rfl ?_ (hu := by exact D5 hul.symm)
 refine sD (nS (tT ?_))
 refine F9 (outs := [rd br pb nb cb p1]) (rC rfl (A5 rfl rfl (B2 (by repeat first | exact mH | apply mT)) hul)) (by repeat (first | exact A1.nil | refine A1.cons Pk.here ?_ | refine A1.cons (Pk.there Pk.here) ?_ | refine A1.cons (Pk.there (Pk.there Pk.here)) ?_ | apply A1.drop)) ?_
 (exact ⟨p1, by omega, by omega, rfl, ux, cu, rfl, hru, hfu⟩)
mutual
def L6 : Ty → Int
 | .mk k ks => if k = 1 then 1 else Q4 ks
def Q4 : List Ty → Int
 | [] => 0
 | t :: ts => L6 t + Q4 ts
end
theorem A9e {k : Int} {ks : List Ty} (h : k = 1) : L6 (.mk k ks) = 1 := by rw [L6, if_pos h]
theorem B3X {k : Int} {ks : List Ty} (h : ¬k = 1) : L6 (.mk k ks) = Q4 ks := by rw [L6, if_neg h]
mutual
theorem A2R : ∀ t : Ty, 0 ≤ L6 t ∧ L6 t ≤ J0 t + 1
 | .mk k ks => by
  have h := A1P ks
  rw [L6, J0]
  split
  ·have := A1n ks
   omega
  ·omega
theorem A1P : ∀ ts : List Ty, 0 ≤ Q4 ts ∧ Q4 ts ≤ N0 ts + ts.length
 | [] => by simp [Q4, N0]
 | t :: ts => by
  have h1 := A2R t
  have h2 := A1P ts
  rw [Q4, N0, List.length_cons]; omega
end
theorem A57 : ∀ (a b : List Ty), Q4 (a ++ b) = Q4 a + Q4 b
 | [], b => by simp [Q4]
 | t :: a, b => by rw [List.cons_append, Q4, Q4, A57 a b]; omega
theorem A9f {ks : List Ty} {i : Nat} (hi : i < ks.length) : Q4 (ks.take (i + 1)) = Q4 (ks.take i) + L6 ks[i] := by
 rw [List.take_succ_eq_append_getElem hi, A57, Q4, Q4]; omega
theorem B3Y {ks : List Ty} {i : Nat} (hi : i < ks.length) : Q4 (ks.take i) + L6 ks[i] ≤ Q4 ks := by
 have h : Q4 ks = Q4 (ks.take (i + 1)) + Q4 (ks.drop (i + 1)) := by rw [← A57, List.take_append_drop]
 have := (A1P (ks.drop (i + 1))).1
 rw [h, A9f hi]; omega
theorem B3Z : ∀ (t : Ty) (G : IM) (cells : List Value), J0 t ≤ 4294967296 → B7 G t cells →
  Fn Tryz.prog 50 [.agg ⟨cells⟩] [] G (H4 (.int .i64 (L6 t)) G) := by
 refine Ty.ind fun k ks ih G cells hsz hr => ?_
 have hb := A1P ks
 have hyes := @A9e k ks
 have hno := @B3X k ks
 rw [J0] at hsz
 obtain ⟨p, c, es, rfl, hk, hsl, hkl⟩ := hr.open
 simp only [Ty.k, Ty.ks] at hk hsl hkl ⊢
 have hn := hsl.le
 obtain ⟨R, hR⟩ : ∃ R, L6 (.mk k ks) = R := ⟨_, rfl⟩
 rw [hR] at hyes hno ⊢
 refine C0 Tryz.func50 rfl Tryz.ntmps50 Tryz.results50 rfl ?_
 intro w0
 refine tS (tR ?_)
 refine sE (C5 rfl rfl) rfl (fun b3 => ?_)
 refine sQ (qA rfl) rfl (sD (nS (tS (tS (tR (sQ (A0 rfl) rfl (sL (A3 rfl rfl) rfl rfl ?_)))))))
 refine sB (qE rfl rfl) rfl rfl (fun h12 => ?_) (fun h12 => ?_)
 refine sD (nS (qT rfl (tS (tR (sQ (qA rfl) rfl (sD (nS (tT (rS (A9 (rT rfl) ?_))))))))))
 (exact ⟨rfl, by rw [hyes (by omega)], rfl⟩)
 refine Z1 ?_
 refine B9 ?_
 (have hR2 := hno (by omega); refine J4 (fun (i : Nat) => ⟨[(12, .int .i64 i), (11, .int .i64 ks.length), (10, .slice p ks.length c), (3, .int .i64 (Q4 (ks.take i)))], [], G⟩) (fun i => i ≤ ks.length) (fun i => ks.length - i) 0 ?_ ?_ ?_)
 exact D9
 (exact Nat.zero_le _)
 (rintro (i : Nat) hi)
 refine tS (tR ?_)
 refine sB (J1 rfl rfl) rfl rfl (fun h51 => ?_) (fun h51 => ?_)
 refine sD (nS (tS (qT rfl (tK (nS (tS ?_))))))
 refine B9 ?_
 refine tS (tR ?_)
 (obtain ⟨b, o, p2, c2, rfl, hat, hre, hgb⟩ := hsl.kidTy hkl (i := i) (by omega) (by omega); have hsi : J0 ks[i] ≤ N0 ks := A5x (List.getElem_mem (by omega)); have hti := B3Y (ks := ks) (i := i) (by omega); have hs1 := A9f (ks := ks) (i := i) (by omega); have hb1 := A2R ks[i]; have hb2 := A1P (ks.take i); refine sP (B3 rfl rfl rfl (by omega)) rfl rfl ?_)
 refine sL (A5 rfl rfl (hat _) rfl) rfl rfl ?_
 refine sE (A7 rfl) rfl (fun b64 => ?_)
 refine B1 ?_
 refine sD (nS (tR (sQ (qM rfl) rfl (sL (A2 rfl rfl) rfl rfl ?_))))
 refine H0 rfl (ih ks[i] (List.getElem_mem (by omega)) G _ (by omega) hre) rfl rfl ?_
 refine sP (I7 rfl rfl (by omega) (by omega)) rfl rfl ?_
 refine sQ (qA rfl) rfl (sD (E3 (nS (tR ?_))))
 refine sP (I7 rfl rfl (by omega) (by omega)) rfl rfl ?_
 refine sQ (qM rfl) rfl (sD ?_)
 refine J3 (i + 1) (by rw [hs1]; exact (K6 (by repeat (first | exact D8.nil | refine D8.cons rfl ?_)) (by repeat (first | exact A1.refl | exact A1.nil | refine A1.cons (by repeat (first | exact Pk.here | apply Pk.there)) ?_ | apply A1.drop)))) ?_ ?_
 (show i + 1 ≤ ks.length; omega)
 (show ks.length - (i + 1) < ks.length - i; omega)
 refine S9 ?_
 (obtain rfl : i = ks.length := (by omega); exact ⟨rfl, by rw [hR2, List.take_length], rfl⟩)
def tSt (t : Ty) : Bool := decide (L6 t = 0)
theorem B30 (G : IM) (t : Ty) (e : List Value) (hs : J0 t ≤ 4294967296) (hr : B7 G t e) :
  Fn Tryz.prog 49 [.agg ⟨e⟩] [] G (S8 (.bool (!tSt t)) [] G) := by
 have hl := hr.len
 have hone := hr.one
 have hb := A2R t
 have hc := B3Z t G e hs hr
 unfold tSt
 refine C0 Tryz.func49 rfl Tryz.ntmps49 Tryz.results49 rfl ?_
 intro w0
 refine tS (tR ?_)
 refine sE (C5 rfl rfl) rfl (fun b3 => ?_)
 refine sQ (qA rfl) rfl (sD (nS (tS (tR ?_))))
 refine sL (A5 rfl rfl (B2 (by repeat first | exact mH | apply mT)) hl) rfl rfl ?_
 refine H0 rfl (hc) rfl rfl ?_
 refine sB (X4 rfl rfl) rfl rfl (fun h11 => ?_) (fun h11 => ?_)
 refine sQ (qA rfl) rfl (sD (nS (tT (A9 (rT rfl) ?_))))
 (exact ⟨rfl, by rw [decide_eq_false (by omega)]; rfl, rfl⟩)
 refine sQ (qA rfl) rfl (sD (nS (tT (A9 (rT rfl) ?_))))
 (exact ⟨rfl, by rw [decide_eq_true (by omega)]; rfl, rfl⟩)
def A1A (e : Tm) : Bool := P9 e && (K9 e).all tSt
theorem B31 (e : Tm) (G : IM) (cells : List Value) (hr : B0 G e cells) : Fn Tryz.prog 19 [.agg ⟨cells⟩] [] G (L8 fun _ v => v = .bool (A1A e)) := by
 have hl := hr.len
 have hone := hr.one
 have hv := A7c e G cells hr
 have hno : P9 e = false → A1A e = false := fun h => by unfold A1A; rw [h]; rfl
 have hyes : P9 e = true → A1A e = (K9 e).all tSt := fun h => by unfold A1A; rw [h]; rfl
 have hfit := @A89 e
 have htv : P9 e = true → ∀ u ∈ K9 e, E4 u = true := fun h => A56 e 1 ((A04 e).1 h).1
 refine C0 Tryz.func19 rfl Tryz.ntmps19 Tryz.results19 rfl ?_
 intro w0
 refine tS (tR ?_)
 refine sE (C5 rfl rfl) rfl (fun b3 => ?_)
 refine sQ (qA rfl) rfl (sD (nS (tS (tR ?_))))
 refine sL (A5 rfl rfl (B2 (by repeat first | exact mH | apply mT)) hl) rfl rfl ?_
 refine E7 rfl (hv) rfl rfl (fun h10 => ?_) (fun h10 => ?_)
 refine sQ (qM rfl) rfl ?_
 refine sL (A5 rfl rfl (B2 (by repeat first | exact mH | apply mT)) hl) rfl rfl ?_
 (have hf := hfit (by assumption); have htv2 := htv (by assumption); have hy2 := hyes (by assumption); refine A0u rfl (B1F e G cells hf.1 (by have := hf.2; omega) hr) rfl rfl (fun v G1 outs hle1 hh => ?_); obtain ⟨p, c, es, rfl, rfl, hr1⟩ := hh; generalize K9 e = L at *; refine R8 (cs := es.flatten) (by repeat (first | exact Pk.here | apply Pk.there)) (fun G2 hle2 hsl2 hno2 => ?_); have hse := D2.of hsl2 hr1.len hr1.all (fun e he => (hr1.each e he).2); replace hr1 := hr1.mono hle2; obtain ⟨A, hA⟩ : ∃ A, L.all tSt = A := ⟨_, rfl⟩)
 refine A2s rfl (A2v _ _ _ _ _ hse _ [] _ [] tSt L rfl hA (fun i e he => B30 _ _ _ (by have := (A2D (htv2 _ (hr1.inv he B4).1)).2; omega) (hr1.inv he B4).2)) Z0 rfl rfl (fun h14 => ?_) (fun h14 => ?_)
 simp only [Bool.not_eq_true', Bool.not_eq_false'] at h14
 refine sQ (K4 rfl) rfl (sQ (C2 rfl rfl) rfl (sQ (qA rfl) rfl (sD (nS (tT (A9 (rT rfl) ?_))))))
 (exact ⟨rfl, by rw [hy2, hA]; simp_all⟩)
 simp only [Bool.not_eq_true', Bool.not_eq_false'] at h14
 refine sQ (N8 rfl) rfl (sQ (C2 rfl rfl) rfl (sQ (qA rfl) rfl (sD (nS (tT (A9 (rT rfl) ?_))))))
 (exact ⟨rfl, by rw [hy2, hA]; simp_all⟩)
 refine A0l ?_
 (exact ⟨rfl, by rw [hno (by assumption)]⟩)
end Gw
end Go.Proofs.YthpdjmbpbdbodaaGreatDoor
namespace Go.Proofs.YthpdjmbpbdbodaaGreatDoor
namespace Gw
inductive GT where
 | any | int | bool
 | fn (a b : GT)
 | pr (a b : GT)
inductive GE where
 | var (x : ByteArray)
 | num (n : Int)
 | tru (b : Bool)
 | lam (x : ByteArray) (A : GT) (e : GE)
 | app (f a : GE)
 | ar (s : Bool) (a b : GE)
 | ite (c a b : GE)
 | pair (a b : GE)
 | part (s : Bool) (e : GE)
 | cast (A B : GT) (l : Int) (e : GE)
def GT.gr : GT → GT
 | .any => .any
 | .int => .int
 | .bool => .bool
 | .fn _ _ => .fn .any .any
 | .pr _ _ => .pr .any .any
def GT.Gd (t : GT) : Prop := t ≠ .any ∧ t.gr = t
inductive Co : GT → GT → Prop
 | l {b} : Co .any b
 | r {a} : Co a .any
 | int : Co .int .int
 | bool : Co .bool .bool
 | fn {a b a' b'} : Co a a' → Co b b' → Co (.fn a b) (.fn a' b')
 | pr {a b a' b'} : Co a a' → Co b b' → Co (.pr a b) (.pr a' b')
inductive Le : GT → GT → Prop
 | any {a} : Le a .any
 | int : Le .int .int
 | bool : Le .bool .bool
 | fn {a b a' b'} : Le a a' → Le b b' → Le (.fn a b) (.fn a' b')
 | pr {a b a' b'} : Le a a' → Le b b' → Le (.pr a b) (.pr a' b')
def GE.sub : GE → ByteArray → GE → GE
 | .var y, x, v => if y = x then v else .var y
 | .num n, _, _ => .num n
 | .tru b, _, _ => .tru b
 | .lam y A e, x, v => if y = x then .lam y A e else .lam y A (e.sub x v)
 | .app f a, x, v => .app (f.sub x v) (a.sub x v)
 | .ar s a b, x, v => .ar s (a.sub x v) (b.sub x v)
 | .ite c a b, x, v => .ite (c.sub x v) (a.sub x v) (b.sub x v)
 | .pair a b, x, v => .pair (a.sub x v) (b.sub x v)
 | .part s e, x, v => .part s (e.sub x v)
 | .cast A B l e, x, v => .cast A B l (e.sub x v)
inductive GV : GE → Prop
 | num {n} : GV (.num n)
 | tru {b} : GV (.tru b)
 | lam {x A e} : GV (.lam x A e)
 | pair {a b} : GV a → GV b → GV (.pair a b)
 | pf {a b c d l e} : GV e → GV (.cast (.fn a b) (.fn c d) l e)
 | pp {a b c d l e} : GV e → GV (.cast (.pr a b) (.pr c d) l e)
 | inj {A l e} : GV e → A.Gd → GV (.cast A .any l e)
def B32 (s : Bool) (m n : Int) : GE := if s = true then .tru (decide (m < n)) else .num ((m + n) % 1000)
inductive GS : GE → GE → Prop
 | app1 {f f' a} : GS f f' → GS (.app f a) (.app f' a)
 | app2 {f a a'} : GV f → GS a a' → GS (.app f a) (.app f a')
 | ar1 {s a a' b} : GS a a' → GS (.ar s a b) (.ar s a' b)
 | ar2 {s a b b'} : GV a → GS b b' → GS (.ar s a b) (.ar s a b')
 | ite1 {c c' a b} : GS c c' → GS (.ite c a b) (.ite c' a b)
 | pair1 {a a' b} : GS a a' → GS (.pair a b) (.pair a' b)
 | pair2 {a b b'} : GV a → GS b b' → GS (.pair a b) (.pair a b')
 | part1 {s e e'} : GS e e' → GS (.part s e) (.part s e')
 | cast1 {A B l e e'} : GS e e' → GS (.cast A B l e) (.cast A B l e')
 | beta {x A b v} : GV v → GS (.app (.lam x A b) v) (b.sub x v)
 | appx {a b c d l f v} : GV f → GV v → GS (.app (.cast (.fn a b) (.fn c d) l f) v) (.cast b d l (.app f (.cast c a (-l) v)))
 | ar {s m n} : GS (.ar s (.num m) (.num n)) (B32 s m n)
 | ite {b x y} : GS (.ite (.tru b) x y) (if b = true then x else y)
 | part {s a b} : GV a → GV b → GS (.part s (.pair a b)) (if s = true then b else a)
 | partx {s a b c d l e} : GV e → GS (.part s (.cast (.pr a b) (.pr c d) l e)) (.cast (if s = true then b else a) (if s = true then d else c) l (.part s e))
 | cid {A l v} : GV v → (A = .any ∨ A = .int ∨ A = .bool) → GS (.cast A A l v) v
 | up {A l v} : GV v → A ≠ .any → A.gr ≠ A → GS (.cast A .any l v) (.cast A.gr .any l (.cast A A.gr l v))
 | down {B l v} : GV v → B ≠ .any → B.gr ≠ B → GS (.cast .any B l v) (.cast B.gr B l (.cast .any B.gr l v))
 | hit {G l m w} : GV w → G.Gd → GS (.cast .any G l (.cast G .any m w)) w
inductive Ss : GE → GE → Prop
 | refl {e} : Ss e e
 | step {a b c} : GS a b → Ss b c → Ss a c
abbrev GC := ByteArray → Option (GT × GT)
def emp : GC := fun _ => none
def gup (Γ : GC) (x : ByteArray) (A A' : GT) : GC := fun y => if x = y then some (A, A') else Γ y
inductive GP : GC → GE → GE → GT → GT → Prop
 | var {Γ x A A'} : Γ x = some (A, A') → Le A A' → GP Γ (.var x) (.var x) A A'
 | num {Γ n} : GP Γ (.num n) (.num n) .int .int
 | tru {Γ b} : GP Γ (.tru b) (.tru b) .bool .bool
 | lam {Γ x A A' B B' e e'} : Le A A' → GP (gup Γ x A A') e e' B B' → GP Γ (.lam x A e) (.lam x A' e') (.fn A B) (.fn A' B')
 | app {Γ f f' a a' A A' B B'} : GP Γ f f' (.fn A B) (.fn A' B') → GP Γ a a' A A' → GP Γ (.app f a) (.app f' a') B B'
 | ar {Γ s a a' b b'} : GP Γ a a' .int .int → GP Γ b b' .int .int → GP Γ (.ar s a b) (.ar s a' b') (if s = true then .bool else .int) (if s = true then .bool else .int)
 | ite {Γ c c' a a' b b' A A'} : GP Γ c c' .bool .bool → GP Γ a a' A A' → GP Γ b b' A A' → GP Γ (.ite c a b) (.ite c' a' b') A A'
 | pair {Γ a a' b b' A A' B B'} : GP Γ a a' A A' → GP Γ b b' B B' → GP Γ (.pair a b) (.pair a' b') (.pr A B) (.pr A' B')
 | part {Γ s e e' A A' B B'} : GP Γ e e' (.pr A B) (.pr A' B') → GP Γ (.part s e) (.part s e') (if s = true then B else A) (if s = true then B' else A')
 | castL {Γ e e' A B A' l} : GP Γ e e' A A' → Co A B → Le B A' → GP Γ (.cast A B l e) e' B A'
 | castR {Γ e e' A A' B' l} : GP Γ e e' A A' → Co A' B' → Le A B' → GP Γ e (.cast A' B' l e') A B'
 | castB {Γ e e' A B A' B' l l'} : GP Γ e e' A A' → Co A B → Co A' B' → Le B B' → GP Γ (.cast A B l e) (.cast A' B' l' e') B B'
inductive GX where
 | n (n : Int) | b (b : Bool) | p | f
def GE.tx : GE → GX
 | .num n => .n n
 | .tru b => .b b
 | .pair _ _ => .p
 | .cast _ (.fn _ _) _ _ => .f
 | .cast _ (.pr _ _) _ _ => .p
 | .cast _ _ _ e => e.tx
 | _ => .f
def GT.ty : GT → Ty
 | .any => .mk 1 []
 | .int => .mk 2 []
 | .bool => .mk 3 []
 | .fn a b => .mk 4 [a.ty, b.ty]
 | .pr a b => .mk 5 [a.ty, b.ty]
def GE.tm : GE → Tm
 | .var x => .mk 1 x 0 B4 B4 0 []
 | .num n => .mk 2 ⟨#[]⟩ n B4 B4 0 []
 | .tru b => .mk (if b = true then 3 else 4) ⟨#[]⟩ 0 B4 B4 0 []
 | .lam x A e => .mk 5 x 0 A.ty B4 0 [e.tm]
 | .app f a => .mk 6 ⟨#[]⟩ 0 B4 B4 0 [f.tm, a.tm]
 | .ar s a b => .mk (if s = true then 8 else 7) ⟨#[]⟩ 0 B4 B4 0 [a.tm, b.tm]
 | .ite c a b => .mk 9 ⟨#[]⟩ 0 B4 B4 0 [c.tm, a.tm, b.tm]
 | .pair a b => .mk 10 ⟨#[]⟩ 0 B4 B4 0 [a.tm, b.tm]
 | .part s e => .mk (if s = true then 12 else 11) ⟨#[]⟩ 0 B4 B4 0 [e.tm]
 | .cast A B l e => .mk 14 ⟨#[]⟩ 0 B.ty A.ty l [e.tm]
section
variable {k : Int} {nm : ByteArray} {num : Int} {ty fr : Ty} {lb : Int} {a b c : Tm} {t : Tm} {l : Int}
end
def Bd (e : GE) : Prop := E8 e.tm = false ∧ (I0 e.tm).2.1 = 2
mutual
def A9g : Ty → Ty → Bool
 | .mk k ks, t => decide (t.k = 1) || (decide (k = t.k) && A9h ks t.ks)
def A9h : List Ty → List Ty → Bool
 | [], [] => true
 | a :: xs, b :: ys => A9g a b && A9h xs ys
 | _, _ => false
end
mutual
def A9i : Tm → Tm → Bool
 | .mk k nm num ty _ _ ks, u => decide (k = u.k ∧ nm = u.nm ∧ num = u.num) && (decide (k ≠ 5 ∧ k ≠ 13) || A9g ty u.ty) && A9j ks u.ks
def A9j : List Tm → List Tm → Bool
 | [], [] => true
 | a :: xs, b :: ys => A9i a b && A9j xs ys
 | _, _ => false
end
def B33 (a b : Tm) : Bool := P9 a && (P9 b && A9i a b)
def A4A : GT → GT → GT
 | .any, b => b
 | .fn a b, .fn c d => .fn (A4A a c) (A4A b d)
 | .pr a b, .pr c d => .pr (A4A a c) (A4A b d)
 | a, _ => a
def gmF : GT → Option (GT × GT)
 | .fn a b => some (a, b)
 | .any => some (.any, .any)
 | _ => none
def gmP : GT → Option (GT × GT)
 | .pr a b => some (a, b)
 | .any => some (.any, .any)
 | _ => none
def CxR (cx cx' : Cx) (Γ : GC) : Prop := ∀ x a, N2 cx x = some a → ∃ A A', a = A.ty ∧ N2 cx' x = some A'.ty ∧ Γ x = some (A, A') ∧ Le A A'
def B5d (A B : GT) (l : Int) (e : GE) : GE := if N1 A.ty B.ty = true then e else .cast A B l e
inductive GPL (Γ : GC) : List GE → List GE → List GT → List GT → Prop
 | nil : GPL Γ [] [] [] []
 | cons {e e' A A' es es' As As'} : GP Γ e e' A A' → GPL Γ es es' As As' → GPL Γ (e :: es) (e' :: es') (A :: As) (A' :: As')
theorem B34 {cx : Cx} {k : Int} {nm : ByteArray} {num : Int} {ty fr : Ty} {lb : Int} {us : List Tm} {h : List Ty} {l : Int} {u : Tm} {a : Ty} {l2 : Int} (he : A0V cx k nm num ty fr lb us h l = some (u, a, l2)) :
  ∃ w, K0 cx k nm ty h = some (w, a) ∧ E4 a = true ∧ u = if k = 13 then (F4 us h w l).1.getD 0 J6 else .mk k nm num ty fr lb (F4 us h w l).1 := by
 unfold A0V at he
 split at he
 ·cases he
 ·rename_i w t hn
  simp only [Option.some.injEq, Prod.mk.injEq] at he
  obtain ⟨rfl, rfl, rfl⟩ := he
  obtain ⟨h1, h2⟩ := A3w hn
  exact ⟨w, h2, h1, rfl⟩
theorem B35 {k : Int} {nm : ByteArray} {num : Int} {ty fr : Ty} {lb : Int} {ks : List Tm} {d : Int} (h : N5 12 14 (.mk k nm num ty fr lb ks) d = true) :
  D0 k = ks.length ∧ k ≠ 14 ∧ (¬(k = 1 ∨ k = 5) → nm = ⟨#[]⟩) ∧ (k ≠ 2 → num = 0) ∧ (k = 5 ∨ k = 13 → E4 ty = true) ∧ (¬(k = 5 ∨ k = 13) → ty = B4) ∧ fr = B4 ∧ lb = 0 ∧ N6 12 14 ks (d + 1) = true := by
 obtain ⟨_, h2, h3, h4⟩ := A0z h
 obtain ⟨n1, n2, n3, n4, n5, n6, n7, n8, n9⟩ := U0.1 h3
 exact ⟨n1, h2, n3, fun hk => by have := A18.1 (n5 hk); omega, fun hk => n6 (by omega), fun hk => A1G (n7 (by omega)), A1G (n9 h2).1, (n9 h2).2, h4⟩
abbrev ElR (Γ : GC) (u : Tm) (a : Ty) (r : Option (Tm × Ty × Int)) : Prop := ∃ e A e' A' l2, u = e.tm ∧ a = A.ty ∧ r = some (e'.tm, A'.ty, l2) ∧ GP Γ e e' A A'
section
variable {cx cx' : Cx} {Γ : GC} {es es' : List GE} {As As' : List GT} {l l' : Int} {u : Tm} {a : Ty} {l2 : Int} {nm : ByteArray} {num : Int}
end
inductive MV where
 | mk (k num : Int) (env parts : List MV)
def MV.k : MV → Int | .mk k _ _ _ => k
def MV.num : MV → Int | .mk _ n _ _ => n
def MV.env : MV → List MV | .mk _ _ e _ => e
def MV.parts : MV → List MV | .mk _ _ _ p => p
def mv0 : MV := .mk 0 0 [] []
mutual
def RMv (kc : Int → Int) (G : IM) : MV → List Value → Prop
 | .mk k num env parts, cells => ∃ p c es q d fs, cells = [.int .i64 (kc k), .int .i64 num, .slice p env.length c, .slice q parts.length d] ∧ E6 num ∧ E6 (kc k) ∧ D2 G p env.length c 4 es ∧ A2S kc G env es ∧ D2 G q parts.length d 4 fs ∧ A2S kc G parts fs
def A2S (kc : Int → Int) (G : IM) : List MV → List (List Value) → Prop
 | [], es => es = []
 | t :: ts, es => ∃ a r, es = a :: r ∧ RMv kc G t a ∧ A2S kc G ts r
end
section
variable {kc : Int → Int} {G : IM}
end

def RFr (kc : Int → Int) (G : IM) (f : Int × List MV) (cells : List Value) : Prop := ∃ p c es, cells = [.int .i64 f.1, .slice p f.2.length c] ∧ E6 f.1 ∧ D2 G p f.2.length c 4 es ∧ A2S kc G f.2 es
def A9k (kc : Int → Int) (G : IM) : List (Int × List MV) → List (List Value) → Prop
 | [], es => es = []
 | t :: ts, es => ∃ a r, es = a :: r ∧ RFr kc G t a ∧ A9k kc G ts r
section
variable {kc : Int → Int} {G : IM}
end

structure MSt where
 at' : Int
 st : List MV
 env : List MV
 fr : List (Int × List MV)
def RSs (kc : Int → Int) (G : IM) (s : MSt) (cells : List Value) : Prop := ∃ pe ce ps cs pf cf ee es ef, cells = [.int .i64 s.at', .slice pe s.env.length ce, .slice ps s.st.length cs, .slice pf s.fr.length cf] ∧ E6 s.at' ∧
 D2 G pe s.env.length ce 4 ee ∧ A2S kc G s.env ee ∧ D2 G ps s.st.length cs 4 es ∧ A2S kc G s.st es ∧ D2 G pf s.fr.length cf 2 ef ∧ A9k kc G s.fr ef
def A4B (k : Int) : Nat := if k = 6 ∨ k = 7 ∨ k = 8 ∨ k = 11 then 2 else if k = 9 ∨ k = 12 ∨ k = 13 then 1 else 0
def A58 (k : Int) : Int × Nat × Int := if k = 6 then (2, 1, 1) else if k = 7 ∨ k = 8 then (0, 2, 2) else if k = 9 then (1, 1, 3) else if k = 12 ∨ k = 13 then (3, 1, 4) else (0, 0, 0)
def A1Q (s : MSt) (v : MV) : MSt := { s with st := s.st ++ [v] }
def mGo (k a : Int) (s : MSt) (v : List MV) : MSt ⊕ (Int × Int) :=
 if k = 1 then .inl (A1Q s (.mk 0 a [] []))
 else if k = 2 then .inl (A1Q s (.mk 1 a [] []))
 else if k = 3 then (if (s.env.length : Int) - 1 - a < 0 then .inr (3, 0) else .inl (A1Q s (s.env.getD ((s.env.length : Int) - 1 - a).toNat mv0)))
 else if k = 4 then .inl { A1Q s (.mk 2 s.at' s.env []) with at' := s.at' + a }
 else if k = 5 then (if s.fr.length = 0 then .inr (3, 0) else .inl { s with at' := (s.fr.getD (s.fr.length - 1) (0, [])).1, env := (s.fr.getD (s.fr.length - 1) (0, [])).2, fr := s.fr.take (s.fr.length - 1) })
 else if k = 6 then .inl { s with at' := (v.getD 0 mv0).num, env := (v.getD 0 mv0).env ++ [v.getD 1 mv0], fr := s.fr ++ [(s.at', s.env)] }
 else if k = 7 then .inl (A1Q s (.mk 0 (((v.getD 0 mv0).num + (v.getD 1 mv0).num) % 1000) [] []))
 else if k = 8 then .inl (A1Q s (.mk 1 (if (v.getD 0 mv0).num < (v.getD 1 mv0).num then 1 else 0) [] []))
 else if k = 9 then .inl (if (v.getD 0 mv0).num = 0 then { s with at' := s.at' + a } else s)
 else if k = 10 then .inl { s with at' := s.at' + a }
 else if k = 11 then .inl (A1Q s (.mk 3 0 [] v))
 else .inl (A1Q s ((v.getD 0 mv0).parts.getD (k - 12).toNat mv0))
def B36 (k : Int) (v : List MV) : Bool := (v.take (A58 k).2.1).all fun u => decide (u.k = (A58 k).1)
def B37 (k a : Int) (s : MSt) : MSt ⊕ (Int × Int) :=
 if s.st.length < A4B k then .inr (3, 0)
 else if B36 k (s.st.drop (s.st.length - A4B k)) = true then mGo k a { s with at' := s.at' + 1, st := s.st.take (s.st.length - A4B k) } (s.st.drop (s.st.length - A4B k))
 else .inr (2, (A58 k).2.2)
def B38 (v : MV) : ByteArray := if v.k = 0 then ⟨(Lib.decDigits v.num.toNat).toArray⟩ else if v.k = 1 then (if v.num = 0 then ⟨#[70]⟩ else ⟨#[84]⟩) else if v.k = 2 then ⟨⟨[102, 117, 110, 99, 116, 105, 111, 110]⟩⟩ else ⟨⟨[112, 97, 105, 114]⟩⟩
def B39 (s : MSt) : ByteArray × Int × Int := if s.st.length ≠ 1 ∨ 0 < s.fr.length then (⟨#[]⟩, 3, 0) else (B38 (s.st.getD 0 mv0), 0, 0)
def A9l (ops : List (Int × Int)) : Nat → MSt → ByteArray × Int × Int
 | t, s => if (ops.length : Int) ≤ s.at' then B39 s else match t with
  | 0 => (⟨#[]⟩, 5, 0)
  | t + 1 => match B37 (ops.getD s.at'.toNat (0, 0)).1 (ops.getD s.at'.toNat (0, 0)).2 s with
   | .inl s' => A9l ops t s'
   | .inr (c, e) => (⟨#[]⟩, c, e)
def B4a (k behind : Int) : Int := if k = 1 then 999 else if k = 2 then 1 else if k = 3 then 11 else if k = 4 ∨ k = 9 ∨ k = 10 then behind else 0
def B4b (n : Nat) (i : Nat) (x : Int × Int) : Bool := decide (1 ≤ x.1 ∧ x.1 ≤ 13 ∧ 0 ≤ x.2 ∧ x.2 ≤ B4a x.1 ((n : Int) - 1 - i))
def B4c (ops : List (Int × Int)) : Bool := decide (1 ≤ ops.length ∧ ops.length ≤ 120) && (List.range ops.length).all fun i => B4b ops.length i (ops.getD i (0, 0))
def B5e (ops : List (Int × Int)) (ticks : Int) : ByteArray × Int × Int :=
 if B4c ops = true ∧ 0 ≤ ticks ∧ ticks ≤ 2000 then A9l ops ticks.toNat ⟨0, [], [], []⟩ else (⟨#[]⟩, 3, 0)
theorem A9m (k : Nat) : strOfNums [dgi k] = (⟨[UInt8.ofNat (48 + k % 10)].toArray⟩ : ByteArray) := by
 have : (dgi k).toNat = 48 + k % 10 := by unfold dgi; omega
 simp [strOfNums, this]
theorem B4d (a b : List UInt8) : (⟨a.toArray⟩ : ByteArray) ++ ⟨b.toArray⟩ = ⟨(a ++ b).toArray⟩ := by
 apply ByteArray.ext; simp
theorem B4e {k : Nat} {out : ByteArray} (h : 9 < k) : (⟨(Lib.decDigits (k / 10)).toArray⟩ : ByteArray) ++ (strOfNums [dgi k] ++ out) = ⟨(Lib.decDigits k).toArray⟩ ++ out := by
 have e : (⟨(Lib.decDigits k).toArray⟩ : ByteArray) = ⟨(Lib.decDigits (k / 10)).toArray⟩ ++ ⟨[UInt8.ofNat (48 + k % 10)].toArray⟩ := by
  rw [B4d (Lib.decDigits (k / 10))]
  congr 2
  rw [Lib.decDigits, dif_neg (by omega)]
 rw [e, A9m, ByteArray.append_assoc]
theorem B4f {k : Nat} {out : ByteArray} (h : ¬9 < k) : strOfNums [dgi k] ++ out = ⟨(Lib.decDigits k).toArray⟩ ++ out := by
 rw [A9m, Lib.decDigits, dif_pos (by omega), Nat.mod_eq_of_lt (by omega)]
theorem B4g {k : Nat} (h : ¬9 < k) : dgi k = 48 + (k : Int) := by unfold dgi; omega
theorem B4h (k : Nat) (hk : k < 10000) (G : IM) : Fn Tryz.prog 86 [.int .i64 (k : Int)] [] G (H4 (.string ⟨(Lib.decDigits k).toArray⟩) G) := by
 refine C0 Tryz.func86 rfl Tryz.ntmps86 Tryz.results86 rfl ?_
 intro w0
 refine tS (tR (sQ (qA rfl) rfl (sD (nS (tS (tS (tR (sQ (qM rfl) rfl ?_))))))))
 refine sP (A2r rfl rfl (by omega)) rfl rfl ?_
 refine sD (nS (cF rfl (tK (nS (tS (tS (tR (sQ (qM rfl) rfl ?_))))))))
 refine sP (A2r rfl rfl (by omega)) rfl rfl ?_
 refine sD (nS (cF rfl (tK (nS (tS (tR (sQ (qA rfl) rfl (sD (nS (tS ?_))))))))))
 refine B9 (J4 (fun (x : Nat × ByteArray) => ⟨[(0, .int .i64 (x.1 : Int)), (2, .string ⟨#[]⟩), (3, .string x.2)], [], G⟩) (fun x => x.1 < 10000 ∧ x.1 + x.2.size < 10020 ∧ (⟨(Lib.decDigits x.1).toArray⟩ : ByteArray) ++ x.2 = ⟨(Lib.decDigits k).toArray⟩) (fun x => x.1) (k, ⟨#[]⟩) ?_ ?_ ?_)
 (simp only [I3]; exact D9)
 (dsimp only; exact ⟨hk, by have : (⟨#[]⟩ : ByteArray).size = 0 := rfl; omega, ByteArray.append_empty⟩)
 (rintro ⟨j, out⟩ ⟨hj, hsz, hd⟩; simp only [] at hj hsz hd ⊢)
 refine tS (tS (tR (sQ (qM rfl) rfl ?_)))
 refine sB (X4 rfl rfl) rfl rfl (fun h41 => ?_) (fun h41 => ?_)
 refine sD (nS (qT rfl (tK (nS ?_))))
 refine B9 ?_
 refine tS (tR (sQ (qM rfl) rfl ?_))
 refine sP (A42 (n := 10) rfl rfl (by omega)) rfl rfl ?_
 refine sP (I7 rfl rfl (by omega) (by omega)) rfl rfl ?_
 refine sP (A6O rfl rfl rfl (by omega) (by omega)) rfl rfl ?_
 (refine I5 (C7 rfl rfl rfl (by omega) (by unfold maxLen; omega) rfl) rfl ?_; rintro _ ⟨b54, rfl⟩)
 refine sL (A6P (xs := [dgi j]) rfl rfl rfl rfl rfl (M9 (by repeat first | exact mH | apply mT))) rfl rfl ?_
 refine sQ (qM rfl) rfl ?_
 (have hs1 := strOfNums_size [dgi j]; have hs2 : [dgi j].length = 1 := rfl; refine sP (A2n rfl rfl (by omega)) rfl rfl ?_)
 refine sQ (qA rfl) rfl (sD (nS (tR (sQ (qM rfl) rfl ?_))))
 refine sP (A43 (n := 10) rfl rfl (by omega) (by omega)) rfl rfl ?_
 refine sQ (qA rfl) rfl (sD (E3 ?_))
 refine J3 (j / 10, strOfNums [dgi j] ++ out) ?_ ?_ ?_
 (simp only [I3]; exact D9)
 (dsimp only; exact ⟨by omega, by (rw [ByteArray.size_append]; omega), by rw [← hd]; exact B4e (by omega)⟩)
 (show j / 10 < j; omega)
 refine sD (nS (cF rfl (M3 (M5 (N7 (M6 (nS (tS (tR (sQ (qM rfl) rfl ?_))))))))))
 refine sP (I7 rfl rfl (by omega) (by omega)) rfl rfl ?_
 refine sP (A6O rfl rfl rfl (by omega) (by omega)) rfl rfl ?_
 (refine I5 (C7 rfl rfl rfl (by omega) (by unfold maxLen; omega) rfl) rfl ?_; rintro _ ⟨b84, rfl⟩)
 (have hs9 := B4g (k := j) (by omega); refine sL (A6P (xs := [48 + (j : Int)]) rfl rfl rfl rfl rfl (M9 (by repeat first | exact mH | apply mT))) rfl rfl ?_; rw [← hs9])
 refine sQ (qM rfl) rfl ?_
 (have hs1 := strOfNums_size [dgi j]; have hs2 : [dgi j].length = 1 := rfl; refine sP (A2n rfl rfl (by omega)) rfl rfl ?_)
 refine sQ (qA rfl) rfl (sD (nS (tT (A9 (rT rfl) ?_))))
 exact ⟨rfl, by rw [B4f (by omega), hd], rfl⟩
def A59 : ByteArray := ⟨⟨[112, 97, 105, 114]⟩⟩
def A6a : ByteArray := ⟨⟨[102, 117, 110, 99, 116, 105, 111, 110]⟩⟩
def txT : ByteArray := ⟨⟨[84]⟩⟩
def txF : ByteArray := ⟨⟨[70]⟩⟩
def A9n (n : Int) : ByteArray := ⟨(Lib.decDigits n.toNat).toArray⟩
def A1B (k num : Int) : ByteArray := if k = 2 then A9n num else if k = 3 then txT else txF
mutual
def A0i : Tm → ByteArray
 | .mk k nm num ty fr lb ks => if k = 10 ∨ (O4 (.mk k nm num ty fr lb []) = true ∧ ty.k = 5) then A59 else if k = 5 ∨ O4 (.mk k nm num ty fr lb []) = true then A6a else if k = 14 then B4i ks else A1B k num
def B4i : List Tm → ByteArray
 | [] => ⟨⟨[]⟩⟩
 | t :: _ => A0i t
end
theorem B4j (k : Int) (nm : ByteArray) (num : Int) (ty fr : Ty) (lb : Int) (ks : List Tm) (G : IM) (cells : List Value) (hT : A00 G) (hk3 : k = 2 ∨ k = 3 ∨ k = 4) (hn : 0 ≤ num ∧ num ≤ 999) (hr : B0 G (.mk k nm num ty fr lb ks) cells) : Fn Tryz.prog 74 [.agg ⟨cells⟩] [] G (H4 (.string (A1B k num)) G) := by
 obtain ⟨tk, tks⟩ := ty
 obtain ⟨fk, fks⟩ := fr
 obtain ⟨pt, ct, pf, cf, p, c, es, rfl, hk, hnum, hlb, hty, hfr, hsl, hkl⟩ := hr.open9
 have hI := B0G num G hT hn.1 hn.2
 refine C0 Tryz.func74 rfl Tryz.ntmps74 Tryz.results74 rfl ?_
 intro w0
 refine tS (tR ?_)
 refine sE (C5 rfl rfl) rfl (fun b3 => ?_)
 refine sQ (qA rfl) rfl (sD (nS (tS (tR ?_))))
 refine sQ (A2m rfl rfl) rfl ?_
 refine sQ (qA rfl) rfl (sD (nS (tS (tS (tR (sQ (A0 rfl) rfl (sL (A3 rfl rfl) rfl rfl (sD (nS ?_)))))))))
 refine B9 ?_
 refine tS (tR ?_)
 refine sP (I2 rfl rfl (by omega)) rfl rfl ?_
 refine sQ (qA rfl) rfl (sD (nS (cF rfl (tS (tR ?_)))))
 refine sB (qE rfl rfl) rfl rfl (fun h30 => ?_) (fun h30 => ?_)
 refine sQ (qA rfl) rfl (sD (nS (qT rfl (tS (tR (sQ (A0 rfl) rfl (sL (A3 rfl rfl) rfl rfl ?_)))))))
 refine H0 rfl (hI) rfl rfl ?_
 refine sQ (qA rfl) rfl (sD (nS (tT (rB (rS (A9 (rT rfl) ?_))))))
 (exact ⟨rfl, by unfold A1B; rw [if_pos (by omega)]; rfl, rfl⟩)
 refine sQ (qA rfl) rfl (sD (nS (cF rfl (tS (tR ?_)))))
 refine sB (qE rfl rfl) rfl rfl (fun h54 => ?_) (fun h54 => ?_)
 refine sQ (qA rfl) rfl (sD (nS (qT rfl (tS (tR (sQ (qA rfl) rfl (sD (nS (tT (rB (rS (A9 (rT rfl) ?_))))))))))))
 (exact ⟨rfl, by unfold A1B; rw [if_neg (by omega), if_pos (by omega)]; rfl, rfl⟩)
 refine sQ (qA rfl) rfl (sD (nS (cF rfl (tS (tR ?_)))))
 refine sP (V5 rfl rfl (by omega)) rfl rfl ?_
 refine sQ (qA rfl) rfl (sD (nS (qT rfl (tS (tR (sQ (qA rfl) rfl (sD (nS (tT (rB (rS (A9 (rT rfl) ?_))))))))))))
 (exact ⟨rfl, by unfold A1B; rw [if_neg (by omega), if_neg (by omega)]; rfl, rfl⟩)
section
variable {k : Int} {nm : ByteArray} {num : Int} {ty fr : Ty} {lb : Int} {ks : List Tm}
theorem A9o (h : k = 10 ∨ (O4 (.mk k nm num ty fr lb ks) = true ∧ ty.k = 5)) : A0i (.mk k nm num ty fr lb ks) = A59 := by
 rw [A0i]
 exact if_pos h
theorem A9p (h : ¬(k = 10 ∨ (O4 (.mk k nm num ty fr lb ks) = true ∧ ty.k = 5))) (h2 : k = 5 ∨ O4 (.mk k nm num ty fr lb ks) = true) : A0i (.mk k nm num ty fr lb ks) = A6a := by
 rw [A0i]
 exact (if_neg h).trans (if_pos h2)
theorem A9q (h : O4 (.mk k nm num ty fr lb ks) = false) (hk : k = 14) (h0 : 0 < ks.length) : A0i (.mk k nm num ty fr lb ks) = A0i ks[0] := by
 rw [A0i, if_neg (by rintro (h1 | h1); omega; exact Bool.noConfusion (h1.1.symm.trans h)), if_neg (by rintro (h1 | h1); omega; exact Bool.noConfusion (h1.symm.trans h)), if_pos hk]
 cases ks with
 | nil => simp at h0
 | cons t ts => rfl
theorem A9r (h : O4 (.mk k nm num ty fr lb ks) = false) (hk : k ≠ 14) (h10 : k ≠ 10) (h5 : k ≠ 5) : A0i (.mk k nm num ty fr lb ks) = A1B k num := by
 rw [A0i, if_neg (by rintro (h1 | h1); omega; exact Bool.noConfusion (h1.1.symm.trans h)), if_neg (by rintro (h1 | h1); omega; exact Bool.noConfusion (h1.symm.trans h)), if_neg hk]
end
theorem B4k : ∀ (t : Tm) (G : IM) (cells : List Value), A00 G → cv t → E8 t = true → B0 G t cells → Fn Tryz.prog 38 [.agg ⟨cells⟩] [] G (H4 (.string (A0i t)) G) := by
 refine Tm.ind fun k nm num ty fr lb ks ih G cells hT hc hv hr => ?_
 have hr0 := hr
 have hP := A2f _ G _ hr
 obtain ⟨hN, hkk⟩ := hc.node
 have hop := hN.ops
 have h14 : k = 14 → ks.length = 1 := fun h => by rw [h] at hop; have : D0 14 = 1 := rfl; omega
 have hL := fun h => B4j k nm num ty fr lb ks G cells hT h hN.num0 hr
 have hvp := @A9o k nm num ty fr lb ks
 have hvf := @A9p k nm num ty fr lb ks
 have hvc := @A9q k nm num ty fr lb ks
 have hvl := @A9r k nm num ty fr lb ks
 have hvn := @A4o k nm num ty fr lb ks
 have hvy := @A2M k nm num ty fr lb ks
 have hprx := A0D k nm num ty fr lb ks
 have hinj := A3z k nm num ty fr lb ks
 have hleaf : O4 (.mk k nm num ty fr lb ks) = false → k ≠ 14 → k ≠ 10 → k ≠ 5 → k = 2 ∨ k = 3 ∨ k = 4 := by
  intro h1 h2 h3 h4
  have := hvn h3 h1 (by rw [hinj, decide_eq_false (by omega)]; rfl)
  rw [this] at hv
  have := of_decide_eq_true hv
  omega
 have hkv : O4 (.mk k nm num ty fr lb ks) = false → k = 14 → ∀ t ∈ ks, E8 t = true := by
  intro h1 h2 t ht
  cases hi : inj (.mk k nm num ty fr lb ks) with
  | true => have := hvy (.inr (.inr hi)); rw [hv] at this; exact List.all_eq_true.1 this.symm t ht
  | false =>
   have := hvn (by omega) h1 hi
   rw [hv] at this
   have := of_decide_eq_true this.symm
   omega
 generalize hpx : O4 (.mk k nm num ty fr lb ks) = bp at *
 obtain ⟨tk, tks⟩ := ty
 obtain ⟨fk, fks⟩ := fr
 obtain ⟨pt, ct, pf, cf, p, c, es, rfl, hk, hnum, hlb, hty, hfr, hsl, hkl⟩ := hr.open9
 refine C0 Tryz.func38 rfl Tryz.ntmps38 Tryz.results38 rfl ?_
 intro w0
 refine tS (tR ?_)
 refine sE (C5 rfl rfl) rfl (fun b3 => ?_)
 refine sQ (qA rfl) rfl (sD (nS (tS ?_)))
 refine B9 ?_
 refine tS (tR (sQ (A0 rfl) rfl (sL (A3 rfl rfl) rfl rfl ?_)))
 refine sB (qE rfl rfl) rfl rfl (fun h13 => ?_) (fun h13 => ?_)
 refine A0L ?_
 (exact ⟨rfl, congrArg Value.string (hvp (by first | exact .inl (by omega) | exact .inr ⟨by assumption, by assumption⟩)).symm, rfl⟩)
 refine sQ (qM rfl) rfl (sL (A2 rfl rfl) rfl rfl ?_)
 refine E7 rfl (hP) rfl rfl (fun h40 => ?_) (fun h40 => ?_)
 refine sQ (qM rfl) rfl (sQ (A0 rfl) rfl (sQ (qF rfl) rfl (sL (A3 rfl rfl) rfl rfl ?_)))
 refine sB (qE rfl rfl) rfl rfl (fun h45 => ?_) (fun h45 => ?_)
 refine L9 ?_
 (exact ⟨rfl, congrArg Value.string (hvp (by first | exact .inl (by omega) | exact .inr ⟨by assumption, by assumption⟩)).symm, rfl⟩)
 refine A3U ?_
 refine sB (qE rfl rfl) rfl rfl (fun h72 => ?_) (fun h72 => ?_)
 refine S9 ?_
 (exact ⟨rfl, congrArg Value.string (hvf (by rintro (h | ⟨h1, h2⟩) <;> first | omega | exact Bool.noConfusion (h1.symm.trans (show bp = false by assumption)) | (simp only [Ty.k] at h2; omega)) (by first | exact .inl (by omega) | exact .inr (by assumption))).symm, rfl⟩)
 refine sQ (qM rfl) rfl (sL (A2 rfl rfl) rfl rfl ?_)
 refine E7 rfl (hP) rfl rfl (fun h93 => ?_) (fun h93 => ?_)
 refine sQ (D7 rfl rfl) rfl (sQ (qA rfl) rfl (sD (nS (qT rfl (tS (tR (sQ (qA rfl) rfl (sD (nS (tT (rB (rS (A9 (rT rfl) ?_)))))))))))))
 (exact ⟨rfl, congrArg Value.string (hvf (by rintro (h | ⟨h1, h2⟩) <;> first | omega | exact Bool.noConfusion (h1.symm.trans (show bp = false by assumption)) | (simp only [Ty.k] at h2; omega)) (by first | exact .inl (by omega) | exact .inr (by assumption))).symm, rfl⟩)
 refine sQ (D7 rfl rfl) rfl (sQ (qA rfl) rfl (sD (nS (cF rfl (tS (tR (sQ (A0 rfl) rfl (sL (A3 rfl rfl) rfl rfl ?_))))))))
 refine sB (qE rfl rfl) rfl rfl (fun h118 => ?_) (fun h118 => ?_)
 refine sQ (qA rfl) rfl (sD (nS (qT rfl (tS (tR (sQ (A0 rfl) rfl (sL (A3 rfl rfl) rfl rfl ?_)))))))
 (have hl1 := h14 (by omega); obtain ⟨bx, ox, e, rfl, hl, hat, hre, hgb⟩ := hsl.kidTm hkl (i := 0) (by omega) (by omega); have hih := ih ks[0] (List.getElem_mem (by omega)) G e hT (hkk _ (List.getElem_mem (by omega))) (hkv (by assumption) (by omega) _ (List.getElem_mem (by omega))) hre; refine sP (B3 (j := 0) rfl rfl rfl (by omega)) rfl rfl ?_)
 refine sL (A5 rfl rfl (hat _) hl) rfl rfl ?_
 refine H0 rfl (hih) rfl rfl ?_
 refine sQ (qA rfl) rfl (sD (nS (tT (rB (rS (A9 (rT rfl) ?_))))))
 (exfalso; have h1 : bp = true := (by assumption); have h2 : bp = false := (by assumption); rw [h1] at h2; cases h2)
 refine sQ (qA rfl) rfl (sD (nS (cF rfl (tK (E3 (nS (tS (tR (sL (A2 rfl rfl) rfl rfl ?_)))))))))
 refine H0 rfl ((hL (hleaf (by assumption) (by omega) (by omega) (by omega)))) rfl rfl ?_
 refine sQ (qA rfl) rfl (sD (nS (tT (A9 (rT rfl) ?_))))
 (exfalso; have h1 : bp = true := (by assumption); have h2 : bp = false := (by assumption); rw [h1] at h2; cases h2)
 refine L9 ?_
 refine sB (qE rfl rfl) rfl rfl (fun h170 => ?_) (fun h170 => ?_)
 refine S9 ?_
 (exact ⟨rfl, congrArg Value.string (hvf (by rintro (h | ⟨h1, h2⟩) <;> first | omega | exact Bool.noConfusion (h1.symm.trans (show bp = false by assumption)) | (simp only [Ty.k] at h2; omega)) (by first | exact .inl (by omega) | exact .inr (by assumption))).symm, rfl⟩)
 refine sQ (qM rfl) rfl (sL (A2 rfl rfl) rfl rfl ?_)
 refine E7 rfl (hP) rfl rfl (fun h191 => ?_) (fun h191 => ?_)
 refine sQ (D7 rfl rfl) rfl (sQ (qA rfl) rfl (sD (nS (qT rfl (tS (tR (sQ (qA rfl) rfl (sD (nS (tT (rB (rS (A9 (rT rfl) ?_)))))))))))))
 (exfalso; have h1 : bp = true := (by assumption); have h2 : bp = false := (by assumption); rw [h1] at h2; cases h2)
 refine sQ (D7 rfl rfl) rfl (sQ (qA rfl) rfl (sD (nS (cF rfl (tS (tR (sQ (A0 rfl) rfl (sL (A3 rfl rfl) rfl rfl ?_))))))))
 refine sB (qE rfl rfl) rfl rfl (fun h216 => ?_) (fun h216 => ?_)
 refine sQ (qA rfl) rfl (sD (nS (qT rfl (tS (tR (sQ (A0 rfl) rfl (sL (A3 rfl rfl) rfl rfl ?_)))))))
 (have hl1 := h14 (by omega); obtain ⟨bx, ox, e, rfl, hl, hat, hre, hgb⟩ := hsl.kidTm hkl (i := 0) (by omega) (by omega); have hih := ih ks[0] (List.getElem_mem (by omega)) G e hT (hkk _ (List.getElem_mem (by omega))) (hkv (by assumption) (by omega) _ (List.getElem_mem (by omega))) hre; refine sP (B3 (j := 0) rfl rfl rfl (by omega)) rfl rfl ?_)
 refine sL (A5 rfl rfl (hat _) hl) rfl rfl ?_
 refine H0 rfl (hih) rfl rfl ?_
 refine sQ (qA rfl) rfl (sD (nS (tT (rB (rS (A9 (rT rfl) ?_))))))
 (exact ⟨rfl, congrArg Value.string (hvc (by assumption) (by omega) (by omega)).symm, rfl⟩)
 refine sQ (qA rfl) rfl (sD (nS (cF rfl (tK (E3 (nS (tS (tR (sL (A2 rfl rfl) rfl rfl ?_)))))))))
 refine H0 rfl ((hL (hleaf (by assumption) (by omega) (by omega) (by omega)))) rfl rfl ?_
 refine sQ (qA rfl) rfl (sD (nS (tT (A9 (rT rfl) ?_))))
 (exact ⟨rfl, congrArg Value.string (hvl (by assumption) (by omega) (by omega) (by omega)).symm, rfl⟩)
def A0E (e : Tm) (fuel : Int) : ByteArray × Int × Int := match U3 e with
 | none => (⟨⟨[]⟩⟩, 3, 0)
 | some (u, _) => if (Q7 u fuel).2.1 = 0 then (A0i (Q7 u fuel).1, 0, 0) else (⟨⟨[]⟩⟩, (Q7 u fuel).2.1, (Q7 u fuel).2.2)
def A9s (r : ByteArray × Int × Int) (G : IM) : IM → Value → List A6 → Prop := L8 fun _ v => v = .tuple ⟨[.string r.1, .int .i64 r.2.1, .int .i64 r.2.2]⟩
theorem A6b {e : Tm} {fuel : Int} (h : U3 e = none) : A0E e fuel = (⟨⟨[]⟩⟩, 3, 0) := by unfold A0E; rw [h]
theorem A6c {e u : Tm} {t : Ty} {fuel : Int} (h : U3 e = some (u, t)) (h0 : (Q7 u fuel).2.1 = 0) : A0E e fuel = (A0i (Q7 u fuel).1, 0, 0) := by unfold A0E; rw [h]; simp only [h0, if_true]
theorem A4C {e u : Tm} {t : Ty} {fuel : Int} (h : U3 e = some (u, t)) (h0 : (Q7 u fuel).2.1 ≠ 0) : A0E e fuel = (⟨⟨[]⟩⟩, (Q7 u fuel).2.1, (Q7 u fuel).2.2) := by unfold A0E; rw [h]; simp only [if_neg h0]
theorem A9t : ∀ (n : Nat) (e : Tm), (O6 n e).2.1 = 0 → O1 (O6 n e).1 = true ∧ E8 (O6 n e).1 = true ∧ (O6 n e).2.2.1 = 0
 | 0, e, h => by rw [A5Q] at h ⊢; exact stepv e h
 | n + 1, e, h => by
  by_cases h1 : (H5 e).2.1 = 1
  ·rw [A5R h1] at h ⊢; exact A9t n _ h
  ·rw [A5S h1] at h ⊢; exact stepv e h
where
 stepv (e : Tm) (h : (H5 e).2.1 = 0) : O1 (H5 e).1 = true ∧ E8 (H5 e).1 = true ∧ (H5 e).2.2 = 0 := by
  cases h1 : O1 e with
  | false => rw [A4t h1] at h; simp at h
  | true =>
   cases h2 : E8 e with
   | true => rw [A3C h1 h2]; exact ⟨h1, h2, rfl⟩
   | false =>
    by_cases h3 : (I0 e).2.1 = 1
    ·cases h4 : O1 (I0 e).1 with
     | false => rw [A3E h1 h2 h3 h4] at h; simp at h
     | true => rw [A3F h1 h2 h3 h4] at h; simp at h
    ·rw [A3D h1 h2 h3] at h
     exact absurd h (stp_ne0 e)
 stp_ne0 : ∀ (e : Tm), (I0 e).2.1 ≠ 0 := by
  refine Tm.ind fun k nm num ty fr lb ks ih => ?_
  rw [I0]
  cases hL : Y6 (if k = 9 then 1 else ks.length) ks with
  | none => exact red_ne0 k ty fr lb ks
  | some p =>
   obtain ⟨us, c, l⟩ := p
   have := stpL_ne0 ks ih _ us c l hL
   simp only
   by_cases hc : c = 1
   ·rw [if_pos hc]; simp
   ·rw [if_neg hc]; exact this
 red_ne0 (k : Int) (ty fr : Ty) (lb : Int) (ks : List Tm) : (O2 k ty fr lb ks).2.1 ≠ 0 := by
  unfold O2 P5
  repeat' split
  all_goals simp
 stpL_ne0 (ks : List Tm) (ih : ∀ t ∈ ks, (I0 t).2.1 ≠ 0) : ∀ (n : Nat) us c l, Y6 n ks = some (us, c, l) → c ≠ 0 := by
  induction ks with
  | nil => intro n us c l h; cases n <;> simp [Y6] at h
  | cons t ts iht =>
   intro n us c l h
   cases n with
   | zero => simp [Y6] at h
   | succ n =>
    rw [A4q] at h
    by_cases hv : E8 t = true
    ·rw [if_pos hv] at h
     split at h
     ·rename_i us' c' l' h'
      simp only [Option.some.injEq, Prod.mk.injEq] at h
      obtain ⟨_, rfl, _⟩ := h
      exact iht (fun u hu => ih u (List.mem_cons_of_mem _ hu)) n _ _ _ h'
     ·cases h
    ·rw [if_neg hv] at h
     simp only [Option.some.injEq, Prod.mk.injEq] at h
     obtain ⟨_, rfl, _⟩ := h
     exact ih t List.mem_cons_self
theorem A9u {e : Tm} {fuel : Int} (h : (Q7 e fuel).2.1 = 0) : O1 (Q7 e fuel).1 = true ∧ E8 (Q7 e fuel).1 = true ∧ (Q7 e fuel).2.2 = 0 := by
 cases hf : P8 fuel 0 300 with
 | false => rw [A5T hf] at h; simp at h
 | true =>
  by_cases h1 : (O6 fuel.toNat e).2.1 = 1
  ·rw [A8n hf h1] at h; simp at h
  ·rw [A8o hf h1] at h ⊢; exact A9t _ _ h
theorem B4l (e : Tm) (fuel : Int) (G : IM) (cells : List Value) (hT : A00 G) (hr : B0 G e cells) : Fn Tryz.prog 17 [.agg ⟨cells⟩, .int .i64 fuel] [] G (A9s (A0E e fuel) G) := by
 have hRl := hr.len
 have hRo := hr.one
 have hno := @A6b e fuel
 have hyv := fun u t => @A6c e u t fuel
 have hyn := fun u t => @A4C e u t fuel
 refine C0 Tryz.func17 rfl Tryz.ntmps17 Tryz.results17 rfl ?_
 intro w0
 refine tS (tR ?_)
 refine sE (C5 rfl rfl) rfl (fun b3 => ?_)
 refine sQ (qA rfl) rfl (sQ (qA rfl) rfl (sQ (qA rfl) rfl (sD (nS (tS (tR ?_))))))
 refine sL (A5 rfl rfl (B2 (by repeat first | exact mH | apply mT)) hRl) rfl rfl ?_
 focus (refine E5 rfl (B3f e G cells hr) rfl rfl (fun v G1 hle1 hh => ?_); obtain ⟨cu, ct, rfl, hru, hrt⟩ := hh; rcases hI : U3 e with _ | ⟨u, t⟩; rotate_left; rw [hI] at hru hrt; simp only [Option.getD_some] at hru hrt; rotate_left; rw [hI] at hru hrt; simp only [Option.getD_none] at hru hrt; simp only [Option.isSome]; rotate_left; simp only [Option.isSome]; rotate_left; all_goals (have hul := hru.len; have huo := hru.one; obtain ⟨p3, c3, e3, rfl, _⟩ := hrt.open))
 refine sQ (qM rfl) rfl (sQ (pX rfl rfl) rfl (sQ (pX rfl rfl) rfl (sQ (pX rfl rfl) rfl ?_)))
 refine sE (A7 rfl) rfl (fun b17 => ?_)
 refine sE (A7 rfl) rfl (fun b18 => ?_)
 refine sS rfl rfl rfl hul huo rfl ?_ (hu := by exact D5 hul.symm)
 refine A0m ?_
 refine C8 (rT rfl) (rT rfl) (rT rfl) ?_
 (exact ⟨rfl, by rw [hno (by first | exact hI | rfl | assumption)]⟩)
 refine sQ (qM rfl) rfl (sQ (pX rfl rfl) rfl (sQ (pX rfl rfl) rfl (sQ (pX rfl rfl) rfl ?_)))
 refine sE (A7 rfl) rfl (fun b47 => ?_)
 refine sE (A7 rfl) rfl (fun b48 => ?_)
 refine sS rfl rfl rfl hul huo rfl ?_ (hu := by exact D5 hul.symm)
 refine B1 ?_
 refine sQ (qA rfl) rfl (sD (nS (tS (tS (tR (sQ (qM rfl) rfl (sQ (K4 rfl) rfl (sD (nS (cF rfl (tK (nS (tS (tR ?_))))))))))))))
 refine sL (A5 rfl rfl (B2 (by repeat first | exact mH | apply mT)) hul) rfl rfl ?_
 refine sQ (qM rfl) rfl ?_
 (have hyv := hyv u t hI; have hyn := hyn u t hI; have hev := @A9u u fuel; refine E5 rfl (B2J u fuel G1 cu hru) rfl rfl (fun v G2 hle2 hh => ?_); obtain ⟨wc, hvv, hrw⟩ := hh; have hwl := hrw.len; have hwo := hrw.one; generalize Q7 u fuel = r at hvv hrw hyv hyn hev; obtain ⟨w, c, l⟩ := r; simp only at hvv hrw hyv hyn hev; subst hvv)
 refine sQ (qM rfl) rfl (sQ (pX rfl rfl) rfl (sQ (pX rfl rfl) rfl (sQ (pX rfl rfl) rfl ?_)))
 refine sE (A7 rfl) rfl (fun b73 => ?_)
 refine sS rfl rfl rfl hwl hwo rfl ?_ (hu := by exact D5 hwl.symm)
 refine sQ (qA rfl) rfl (sQ (qA rfl) rfl (sD (nS (tS (tS (tR (sQ (qM rfl) rfl ?_)))))))
 refine sB (N9 rfl rfl) rfl rfl (fun h83 => ?_) (fun h83 => ?_)
 refine R2 ?_
 refine C8 (rT rfl) (rT rfl) (rT rfl) ?_
 (exact ⟨rfl, by rw [hyn (by omega)]⟩)
 refine sD (nS (cF rfl (tK (nS (tS (tR ?_))))))
 refine sL (A5 rfl rfl (B2 (by repeat first | exact mH | apply mT)) hwl) rfl rfl ?_
 (obtain ⟨he1, he2, he3⟩ := hev (by omega); refine H0 rfl (B4k w G2 wc (hT.mono (hle1.trans hle2)) (A1J he1).1 he2 hrw) rfl rfl ?_)
 refine sQ (qM rfl) rfl (sQ (qM rfl) rfl (sQ (qA rfl) rfl (sQ (qA rfl) rfl (sQ (qA rfl) rfl (sD (nS (tT ?_)))))))
 refine C8 (rT rfl) (rT rfl) (rT rfl) ?_
 (obtain rfl : c = 0 := (by omega); subst he3; exact ⟨rfl, by rw [hyv rfl]⟩)
end Gw
end Go.Proofs.YthpdjmbpbdbodaaGreatDoor
