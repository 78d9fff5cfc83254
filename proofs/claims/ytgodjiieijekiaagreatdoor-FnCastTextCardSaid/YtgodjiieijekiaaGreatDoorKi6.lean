/-
  The reference's insertion of casts, exactly.
-/
import Derived.Test.YtgodjiieijekiaaGreatDoorKi5
import Derived.Test.YtgodjiieijekiaaGreatDoorKi4
import Derived.Test.YtgodjiieijekiaaGreatDoorKi2
import Derived.Test.YtgodjiieijekiaaGreatDoorKi3
import Derived.Test.YtgodjiieijekiaaGreatDoorKi1
import Derived.Test.YtgodjiieijekiaaGreatDoorShelf
import Derived.Shelf.Sort.Plain
import Derived.Lib.SlicesCompact
import Derived.Lib.ItoaNum
import Derived.Lib.Bytealg
import Derived.Lib.AtoiAllCases
set_option linter.unusedVariables false
set_option linter.unusedSimpArgs false
set_option maxHeartbeats 0
set_option maxRecDepth 100000
set_option synthInstance.maxSize 4000
set_option synthInstance.maxHeartbeats 0
namespace Go.Proofs.YtgodjiieijekiaaGreatDoor
open Go Go.RowKit
namespace Gw
theorem B3S {e : Tm} (h : T7 e = true) : A0S e = Q8 [] e := by
 have hs := ((A1X e).1 h).1
 obtain ⟨h1, h2⟩ := A6j e 1 [] 0 hs A4M
 unfold A0S
 cases hE : R9 [] e 0 with
 | none => rw [B3n h hE, h2 hE]
 | some r =>
  obtain ⟨u, a, l⟩ := r
  rw [B3o h hE, (h1 u a l hE).1]
theorem B3T {e u : Tm} {t : Ty} (h : A0t e = some (u, t)) : T7 e = true ∧ ∃ l, R9 [] e 0 = some (u, t, l) := by
 unfold A0t at h
 split at h
 ·rename_i hv
  refine ⟨hv, ?_⟩
  split at h
  ·rename_i u' t' l' he; cases h; exact ⟨l', he⟩
  ·cases h
 ·cases h
def A6t (t : Ty) (x : Bool) (G : IM) : IM → Value → List A4 → Prop := L7 fun G' v => ∃ cells, v = .tuple ⟨[.agg ⟨cells⟩, .bool x]⟩ ∧ B3 G' (if x = true then t else A7) cells
theorem B3U (t : Ty) (G : IM) (cells : List Value) (hr : B3 G t cells) : Fn Tryz.prog 197 [.agg ⟨cells⟩, .bool true] [] G (A6t t true G) := by
 obtain ⟨p, c, e, rfl, _⟩ := hr.open
 refine B8 Tryz.func197 rfl Tryz.ntmps197 Tryz.results197 rfl ?_
 intro w0
 refine tS (tR ?_)
 refine sE (E7 rfl rfl) rfl (fun b3 => ?_)
 refine sE (A8 rfl) rfl (fun b4 => ?_)
 refine Y8 ?_
 refine B4 (rC rfl (A2 rfl rfl)) (rT rfl) ?_
 (exact ⟨rfl, _, rfl, hr⟩)
theorem B3V (t : Ty) (G : IM) (cells : List Value) (hr : B3 G t cells) : Fn Tryz.prog 197 [.agg ⟨cells⟩, .bool false] [] G (A6t t false G) := by
 obtain ⟨p, c, e, rfl, _⟩ := hr.open
 refine B8 Tryz.func197 rfl Tryz.ntmps197 Tryz.results197 rfl ?_
 intro w0
 refine tS (tR ?_)
 refine sE (E7 rfl rfl) rfl (fun b3 => ?_)
 refine sE (A8 rfl) rfl (fun b4 => ?_)
 refine A0j ?_
 refine B4 (rC rfl (A2 rfl rfl)) (rT rfl) ?_
 (exact ⟨rfl, _, rfl, J6 _ ⟨by omega, by omega⟩⟩)
theorem B3W (t : Ty) (x : Bool) (G : IM) (cells : List Value) (hr : B3 G t cells) : Fn Tryz.prog 197 [.agg ⟨cells⟩, .bool x] [] G (A6t t x G) := by
 cases x
 ·exact B3V t G cells hr
 ·exact B3U t G cells hr
theorem A14.sure {o : Option Ty} {t : Ty} {G G' : IM} {cells : List Value} (h : ∀ u, o = some u → u = t) (hr : B3 G' (if o.isSome = true then t else A7) cells) : A14 o G G' (.tuple ⟨[.agg ⟨cells⟩, .bool o.isSome]⟩) [] := by
 cases o with
 | none => exact ⟨rfl, cells, A7, rfl, hr, by simp⟩
 | some u => exact ⟨rfl, cells, t, rfl, hr, fun x hx => by cases hx; exact (h _ rfl).symm⟩
theorem B3X (e : Tm) (G : IM) (cells : List Value) (hcnt : C3 e ≤ 4294967296) (hr : B5 G e cells) :
  Fn Tryz.prog 176 [.slice none 0 0, .agg ⟨cells⟩] [] G (A14 (A0S e) G) := by
 have hl := hr.len
 have hone := hr.one
 have hw := A5T e G cells hcnt hr
 have hT := fun h : T7 e = true => A9G e 1 [] G none 0 0 cells ((A1X e).1 h).1 (by omega) A4M (V6.nil G) hr
 have hts := fun h => @B3S e h
 have hno := @B3p e
 refine B8 Tryz.func176 rfl Tryz.ntmps176 Tryz.results176 rfl ?_
 intro w0
 refine tS (tR ?_)
 refine sE (E7 rfl rfl) rfl (fun b3 => ?_)
 refine sE (A8 rfl) rfl (fun b4 => ?_)
 refine B7 ?_
 refine H7 rfl ((A8v _)) rfl rfl ?_
 refine sQ (Y7 rfl) rfl (sQ (qM rfl) rfl ?_)
 refine sL (A6 rfl rfl (C8 (by repeat first | exact mH | apply mT)) (by assumption)) rfl rfl ?_
 refine J4 rfl (hw) rfl rfl (fun h16 => ?_) (fun h16 => ?_)
 refine M2 ?_
 refine sL (A6 rfl rfl (C8 (by repeat first | exact mH | apply mT)) (by assumption)) rfl rfl ?_
 (refine D9 rfl (hT (by assumption)) rfl rfl (fun v G1 hle1 hh => ?_); obtain ⟨mt, mc, rfl, hmr, hma, hmu⟩ := hh; obtain ⟨p1, c1, e1, rfl, _⟩ := hmr.open; have hmo := hts (by assumption))
 refine sQ (pX rfl rfl) rfl (sQ (pX rfl rfl) rfl ?_)
 (refine D9 rfl (B3W mt _ _ _ hmr) rfl rfl (fun v G2 hle2 hh => ?_); obtain ⟨mc2, rfl, hmr2⟩ := hh; obtain ⟨p2, c2, e2, rfl, _⟩ := hmr2.open)
 refine B7 ?_
 refine B4 (rC rfl (A2 rfl rfl)) (rT rfl) ?_
 (rw [hmo]; exact A14.sure hmu hmr2)
 refine O8 ?_
 refine B4 (rC rfl (A2 rfl rfl)) (rT rfl) ?_
 (exact A14.no (u := A7) (J6 _ ⟨by omega, by omega⟩) rfl (hno (by assumption)))
theorem B3Y (e : Tm) (G : IM) (cells : List Value) (hcnt : C3 e ≤ 4294967296) (hr : B5 G e cells) :
  Fn Tryz.prog 112 [.agg ⟨cells⟩] [] G (A14 (A0S e) G) := by
 have hl := hr.len
 have hone := hr.one
 refine B8 Tryz.func112 rfl Tryz.ntmps112 Tryz.results112 rfl ?_
 intro w0
 refine tS (tR ?_)
 refine sE (E7 rfl rfl) rfl (fun b3 => ?_)
 refine sE (A8 rfl) rfl (fun b4 => ?_)
 refine sQ (qA rfl) rfl (sD (nS (tS (tR ?_))))
 refine sL (A6 rfl rfl (C8 (by repeat first | exact mH | apply mT)) (by assumption)) rfl rfl ?_
 (refine D9 rfl (B3X e G cells hcnt hr) rfl rfl (fun v G1 hle1 hh => ?_); obtain ⟨cu, u, rfl, hru, hu⟩ := hh; obtain ⟨p1, c1, e1, rfl, _⟩ := hru.open)
 refine B7 ?_
 refine B4 (rC rfl (A2 rfl rfl)) (rT rfl) ?_
 (exact ⟨rfl, _, u, rfl, hru, hu⟩)
def A1M (e : Tm) (a b : Ty) (l : Int) : IM → Value → List A4 → Prop := L7 fun G' v => ∃ cells, v = .tuple ⟨[.agg ⟨cells⟩, .int .i64 (if P4 a b = true then l else l + 1)]⟩ ∧ B5 G' (if P4 a b = true then e else R5 e a b l) cells
theorem A1M.yes {G : IM} {e : Tm} {a b : Ty} {l : Int} {cells : List Value} (h : P4 a b = true) (hr : B5 G e cells) : A1M e a b l G (.tuple ⟨[.agg ⟨cells⟩, .int .i64 l]⟩) [] := ⟨rfl, cells, by rw [if_pos h], by rw [if_pos h]; exact hr⟩
theorem A1M.no {G : IM} {e : Tm} {a b : Ty} {l : Int} {cells : List Value} (h : P4 a b = false) (hr : B5 G (R5 e a b l) cells) : A1M e a b l G (.tuple ⟨[.agg ⟨cells⟩, .int .i64 (l + 1)]⟩) [] := ⟨rfl, cells, by rw [if_neg (by rw [h]; decide)], by rw [if_neg (by rw [h]; decide)]; exact hr⟩
theorem A3W (e : Tm) (a b : Ty) (label : Int) (G : IM) (ce ca cb : List Value) (hlab : -1099511627776 ≤ label ∧ label ≤ 1099511627776) (hr : B5 G e ce) (hra : B3 G a ca) (hrb : B3 G b cb) (hsa : a.small) (hsb : b.small) :
  Fn Tryz.prog 146 [.agg ⟨ce⟩, .agg ⟨ca⟩, .agg ⟨cb⟩, .int .i64 label] [] G (A1M e a b label) := by
 have hl := hr.len
 have hone := hr.one
 obtain ⟨hlab1, hlab2⟩ := hlab
 have hSame := B3K a b G ca cb hra hrb
 obtain ⟨ak, aks⟩ := a
 obtain ⟨bk, bks⟩ := b
 obtain ⟨pa, cca, ea, rfl, _⟩ := hra.open
 obtain ⟨pb, ccb, eb, rfl, _⟩ := hrb.open
 simp only [Ty.k, Ty.ks] at hra hrb hSame ⊢
 obtain ⟨v1, v2, v3, v4, v5, v6, v7, v8, v9, rfl⟩ := nine hl
 refine B8 Tryz.func146 rfl Tryz.ntmps146 Tryz.results146 rfl ?_
 intro w0
 refine tS (tR ?_)
 refine sE (E7 rfl rfl) rfl (fun b3 => ?_)
 refine sE (E7 rfl rfl) rfl (fun b4 => ?_)
 refine sE (E7 rfl rfl) rfl (fun b5 => ?_)
 refine sE (A8 rfl) rfl (fun b6 => ?_)
 refine F8 ?_
 refine J4 rfl (hSame) rfl rfl (fun h15 => ?_) (fun h15 => ?_)
 refine sD (nS (qT rfl (tS (tR ?_))))
 refine sL (A6 rfl rfl (C8 (by repeat first | exact mH | apply mT)) hl) rfl rfl ?_
 refine sQ (qM rfl) rfl ?_
 refine sS rfl rfl rfl hl hone rfl ?_ (hu := by exact I4 hl.symm)
 refine sQ (qA rfl) rfl (sD (nS (tT (rS ?_))))
 refine B4 (rC rfl (A6 rfl rfl (C8 (by repeat first | exact mH | apply mT)) hl)) (rT rfl) ?_
 (exact A1M.yes (by assumption) hr)
 refine sD (nS (cF rfl (tK (nS (tS ?_)))))
 refine D3 D4 rfl ?_
 refine S3 (i := 5) (l' := [ff,ff,ff,ff,ff,tt,ff,ff,ff,ff,ff,ff]) rfl C5 (A6 rfl rfl (C8 (by repeat first | exact mH | apply mT)) hl) rfl (by kernel_rfl) rfl rfl ?_
 refine aL 0 rfl (A2 rfl rfl) rfl ?_
 refine aL 2 rfl (A2 rfl rfl) rfl ?_
 refine aP 4 rfl (qM rfl) rfl ?_
 refine aP 8 rfl (qM rfl) rfl ?_
 refine aP 9 rfl (N0 rfl rfl (by omega) (by omega)) rfl ?_
 refine Y5 (j := 1) (j' := 6) (by kernel_rfl) ?_ ?_
 (refine M6 rfl rfl (R4 _ _ _ hsa hra) rfl rfl rfl (fun v G1 hle1 hh => ?_); obtain ⟨Q0, F1, rfl, hs1, hn1⟩ := hh; obtain ⟨p1, c1, rfl, _⟩ := hs1.open; have hC2 := R4 _ G1 _ hsb (hrb.mono hle1))
 refine Y5 (j := 3) (j' := 6) (by kernel_rfl) ?_ ?_
 (refine M6 rfl rfl hC2 rfl rfl rfl (fun v G2 hle2 hh => ?_); obtain ⟨cs2, F2, rfl, hs2, hn2⟩ := hh; obtain ⟨p2, c2, rfl, _⟩ := hs2.open; have hr1 := hs1.R.mono ((B6.le G1 _).trans hle2); have hr2 := hs2.R.mono (B6.le G2 G1); have hre := hr.mono (hle1.trans hle2))
 refine A1 6 ?_
 (refine I7 rfl (D1 rfl rfl rfl (by omega) (by unfold maxLen; omega) rfl) rfl rfl ?_; rintro _ ⟨b49, rfl⟩)
 refine aP 7 rfl (P6 rfl rfl) rfl ?_
 refine A1 10 ?_
 refine J7 rfl ?_
 refine aP 11 rfl (qA rfl) rfl ?_
 refine D8 (nS ?_)
 (refine L4 (cs := [v1, v2, v3, v4, v5, v6, v7, v8, v9]) (by repeat (first | exact Pk.here | apply Pk.there)) (fun G5 hle5 hsl5 hno5 => ?_); obtain ⟨hone1, hone2⟩ := A2B (hre.mono hle5) hsl5)
 refine tT ?_
 refine B4 (rC rfl (A2 rfl rfl)) (rT rfl) ?_
 (exact A1M.no (by assumption) (B5.of9 (ks := [e]) ⟨by omega, by omega⟩ ⟨by omega, by omega⟩ ⟨by omega, by omega⟩ (hr2.mono hle5) (hr1.mono hle5) hone1 hone2))
 (refine I7 rfl (D1 rfl rfl rfl (by omega) (by unfold maxLen; omega) rfl) rfl rfl ?_; rintro _ ⟨b60, rfl⟩)
 refine A1 3 ?_
 (refine M6 rfl rfl hC2 rfl rfl rfl (fun v G2 hle2 hh => ?_); obtain ⟨cs2, F2, rfl, hs2, hn2⟩ := hh; obtain ⟨p2, c2, rfl, _⟩ := hs2.open; have hr1 := hs1.R.mono ((B6.le G1 _).trans hle2); have hr2 := hs2.R.mono (B6.le G2 G1); have hre := hr.mono (hle1.trans hle2))
 refine aP 7 rfl (P6 rfl rfl) rfl ?_
 refine A1 10 ?_
 refine J7 rfl ?_
 refine aP 11 rfl (qA rfl) rfl ?_
 refine D8 (nS ?_)
 (refine L4 (cs := [v1, v2, v3, v4, v5, v6, v7, v8, v9]) (by repeat (first | exact Pk.here | apply Pk.there)) (fun G5 hle5 hsl5 hno5 => ?_); obtain ⟨hone1, hone2⟩ := A2B (hre.mono hle5) hsl5)
 refine tT ?_
 refine B4 (rC rfl (A2 rfl rfl)) (rT rfl) ?_
 (exact A1M.no (by assumption) (B5.of9 (ks := [e]) ⟨by omega, by omega⟩ ⟨by omega, by omega⟩ ⟨by omega, by omega⟩ (hr2.mono hle5) (hr1.mono hle5) hone1 hone2))
 (refine I7 rfl (D1 rfl rfl rfl (by omega) (by unfold maxLen; omega) rfl) rfl rfl ?_; rintro _ ⟨b73, rfl⟩)
 refine A1 1 ?_
 (refine M6 rfl rfl (R4 _ _ _ hsa hra) rfl rfl rfl (fun v G1 hle1 hh => ?_); obtain ⟨Q0, F1, rfl, hs1, hn1⟩ := hh; obtain ⟨p1, c1, rfl, _⟩ := hs1.open; have hC2 := R4 _ G1 _ hsb (hrb.mono hle1))
 refine A1 3 ?_
 (refine M6 rfl rfl hC2 rfl rfl rfl (fun v G2 hle2 hh => ?_); obtain ⟨cs2, F2, rfl, hs2, hn2⟩ := hh; obtain ⟨p2, c2, rfl, _⟩ := hs2.open; have hr1 := hs1.R.mono ((B6.le G1 _).trans hle2); have hr2 := hs2.R.mono (B6.le G2 G1); have hre := hr.mono (hle1.trans hle2))
 refine aP 7 rfl (P6 rfl rfl) rfl ?_
 refine A1 10 ?_
 refine J7 rfl ?_
 refine aP 11 rfl (qA rfl) rfl ?_
 refine D8 (nS ?_)
 (refine L4 (cs := [v1, v2, v3, v4, v5, v6, v7, v8, v9]) (by repeat (first | exact Pk.here | apply Pk.there)) (fun G5 hle5 hsl5 hno5 => ?_); obtain ⟨hone1, hone2⟩ := A2B (hre.mono hle5) hsl5)
 refine tT ?_
 refine B4 (rC rfl (A2 rfl rfl)) (rT rfl) ?_
 (exact A1M.no (by assumption) (B5.of9 (ks := [e]) ⟨by omega, by omega⟩ ⟨by omega, by omega⟩ ⟨by omega, by omega⟩ (hr2.mono hle5) (hr1.mono hle5) hone1 hone2))
def S2 (w ts : List Ty) : List Ty := if w = [] then ts else w
theorem A3X {a : Ty} {w ts : List Ty} : S2 (a :: w) ts = a :: w := by unfold S2; rw [if_neg (by simp)]
def X7 (ws : List Ty) (n : Nat) (G : IM) : IM → Value → List A4 → Prop := L7 fun G' v => ∃ p c es, v = .slice p n c ∧ ws.length = n ∧ D5 G' p n c 2 es ∧ E1 G' ws es
theorem X7.mk {G G' : IM} {p : Option Addr} {n c : Nat} {ws ws' : List Ty} {es : List (List Value)} (he : ws = ws') (hl : ws'.length = n) (hs : Sl G' p n c 2 es.flatten) (hst : E1 G' ws' es) : X7 ws n G G' (.slice p n c) [] := by
 subst he
 exact ⟨rfl, p, c, es, rfl, hl, D5.of hs (by rw [hst.len, hl]) hst.all (fun e he => (hst.each e he).2), hst⟩
theorem X7.mk1 {G G' : IM} {p : Option Addr} {n c : Nat} {ws : List Ty} {a : Ty} {ca : List Value} (he : ws = [a]) (hn : n = 1) (hs : Sl G' p 1 c 2 ca) (ha : B3 G' a ca) : X7 ws n G G' (.slice p 1 c) [] := by
 subst hn
 exact X7.mk (ws' := [a]) (es := [ca]) he rfl (by simpa using hs) ⟨_, _, rfl, ha, rfl⟩
theorem X7.mk2 {G G' : IM} {p : Option Addr} {n c : Nat} {ws : List Ty} {a b : Ty} {ca cb : List Value} (he : ws = [a, b]) (hn : n = 2) (hs : Sl G' p 2 c 2 (ca ++ cb)) (ha : B3 G' a ca) (hb : B3 G' b cb) : X7 ws n G G' (.slice p 2 c) [] := by
 subst hn
 exact X7.mk (ws' := [a, b]) (es := [ca, cb]) he rfl (by simpa using hs) ⟨_, _, rfl, ha, _, _, rfl, hb, rfl⟩
theorem X7.mk3 {G G' : IM} {p : Option Addr} {n c : Nat} {ws : List Ty} {a b d : Ty} {ca cb cd : List Value} (he : ws = [a, b, d]) (hn : n = 3) (hs : Sl G' p 3 c 2 (ca ++ (cb ++ cd))) (ha : B3 G' a ca) (hb : B3 G' b cb) (hd : B3 G' d cd) : X7 ws n G G' (.slice p 3 c) [] := by
 subst hn
 exact X7.mk (ws' := [a, b, d]) (es := [ca, cb, cd]) he rfl (by simpa using hs) ⟨_, _, rfl, ha, _, _, rfl, hb, _, _, rfl, hd, rfl⟩
section
variable {cx : Cx} {k : Int} {nm : ByteArray} {ty : Ty} {ts w : List Ty} {t : Ty}
theorem wo6 (hk : k = 6) (h : R3 cx k nm ty ts = some (w, t)) (hl : 0 < ts.length) : ∃ a b, X3 4 ts[0] = some (a, b) ∧ S2 w ts = [.mk 4 [a, b], a] := by
 subst hk
 rw [mW6, gD hl] at h
 split at h
 ·rename_i a b hm
  split at h
  ·cases h; exact ⟨a, _, hm, A3X⟩
  ·cases h
 ·cases h
theorem B3Z (hk : k = 7 ∨ k = 8) (h : R3 cx k nm ty ts = some (w, t)) : S2 w ts = [T2, T2] := by
 rw [A6c hk] at h
 split at h
 ·cases h; exact A3X
 ·cases h
theorem wo9 (hk : k = 9) (h : R3 cx k nm ty ts = some (w, t)) : S2 w ts = [Z1, t, t] := by
 subst hk
 rw [mW9] at h
 split at h
 ·cases h; exact A3X
 ·cases h
theorem B30 (hk : k = 11 ∨ k = 12) (h : R3 cx k nm ty ts = some (w, t)) (hl : 0 < ts.length) : ∃ a b, X3 5 ts[0] = some (a, b) ∧ S2 w ts = [.mk 5 [a, b]] := by
 rw [A6d hk, gD hl] at h
 split at h
 ·rename_i a b hm; cases h; exact ⟨a, b, hm, A3X⟩
 ·cases h
theorem B31 (hk : k = 13) (h : R3 cx k nm ty ts = some (w, t)) : S2 w ts = [t] := by
 subst hk
 rw [A8W] at h
 split at h
 ·cases h; exact A3X
 ·cases h
theorem wo0 (hk : 1 ≤ k ∧ k ≤ 5 ∨ k = 10) (h : R3 cx k nm ty ts = some (w, t)) : S2 w ts = ts := by
 have : w = [] := by
  have hk' : k = 1 ∨ k = 2 ∨ (k = 3 ∨ k = 4) ∨ k = 5 ∨ k = 10 := by omega
  rcases hk' with rfl | rfl | hk | rfl | rfl
  ·rw [mW1] at h; split at h <;> cases h; rfl
  ·rw [mW2] at h; cases h; rfl
  ·rw [A8U hk] at h; cases h; rfl
  ·rw [mW5] at h; cases h; rfl
  ·rw [A8V] at h; cases h; rfl
 subst this; rfl
end
theorem B32 (cx : Cx) (k : Int) (nm : ByteArray) (num : Int) (ty fr : Ty) (lb : Int) (ks : List Tm) (ts w : List Ty) (t : Ty) (G : IM) (cells tcells : List Value) (p : Option Addr) (c : Nat) (es : List (List Value))
  (hw : R3 cx k nm ty ts = some (w, t)) (hk14 : k ≠ 14) (hops : H6 k = ts.length) (hr : B5 G (.mk k nm num ty fr lb ks) cells) (hsl : D5 G p ts.length c 2 es) (hkl : E1 G ts es) (har : ∀ t ∈ ts, E4 t) (hrt : B3 G t tcells) :
  Fn Tryz.prog 209 [.agg ⟨cells⟩, .slice p ts.length c, .agg ⟨tcells⟩] [] G (X7 (S2 w ts) ts.length G) := by
 have hone := hr.one
 have hop := A13 hops
 have hkr : 1 ≤ k ∧ k ≤ 14 := A6l (by rw [hops]; omega)
 have ha0 := fun h : 0 < ts.length => har _ (List.getElem_mem h)
 obtain ⟨tyk, tyks⟩ := ty
 obtain ⟨fk, fks⟩ := fr
 obtain ⟨tk, tks⟩ := t
 obtain ⟨q9, d9, e9, rfl, _⟩ := hrt.open
 obtain ⟨pt, ct, pf, cf, pk, ck, ek, rfl, hk, hnum, hlb, hrty, hrfr, _, _⟩ := hr.open9
 have o6 := fun h hl => wo6 h hw hl
 have o78 := fun h => B3Z h hw
 have o9 := fun h => wo9 h hw
 have o11 := fun h hl => B30 h hw hl
 have o13 := fun h => B31 h hw
 have o0 := fun h => wo0 h hw
 refine B8 Tryz.func209 rfl Tryz.ntmps209 Tryz.results209 rfl ?_
 intro w0
 refine tS (tR ?_)
 refine sE (E7 rfl rfl) rfl (fun b3 => ?_)
 refine sE (E7 rfl rfl) rfl (fun b4 => ?_)
 refine M2 ?_
 refine C6 (tS (tR (sB (qE rfl rfl) rfl rfl (fun h18 => ?_) (fun h18 => ?_))))
 refine B7 ?_
 (have hl2 : ts.length = 2 := hop.1 (by omega); obtain ⟨b0, o0', q0, d0, hp0, hat0, hre0, hg0⟩ := hsl.kidTy hkl (i := 0) (by omega) (by omega); cases hp0; refine sP (D0 (j := 0) rfl rfl rfl (by omega)) rfl rfl ?_)
 refine sL (A6 rfl rfl (hat0 _) rfl) rfl rfl ?_
 (obtain ⟨ma', mb', hm, hwo⟩ := o6 (by omega) (by omega); refine D9 rfl (A3a 4 ts[0] G _ (.inl rfl) (ha0 (by omega)) hre0) rfl rfl (fun v G1 hle1 hh => ?_); obtain ⟨ma, mca, mb, mcb, rfl, hma, hmb, hma2, hmb2, hpp⟩ := hh; have hpe := hpp _ hm; simp only [Prod.mk.injEq] at hpe; obtain ⟨rfl, rfl⟩ := hpe; obtain ⟨p1, c1, e1, rfl, _⟩ := hma.open; obtain ⟨p2, c2, e2, rfl, _⟩ := hmb.open; have hTwo := A2H 4 _ _ G1 _ _ (.inl rfl) hma2 hmb2 hma hmb)
 refine H9 ?_
 refine sE (A8 rfl) rfl (fun b33 => ?_)
 refine sE (A8 rfl) rfl (fun b34 => ?_)
 refine C7 ?_
 (refine D9 rfl hTwo rfl rfl (fun v G2 hle2 hh => ?_); obtain ⟨mc, rfl, hmr⟩ := hh; obtain ⟨p3, c3, e3, rfl, _⟩ := hmr.open; have hma4 := hma.mono hle2)
 refine H0 ?_
 refine sE (A8 rfl) rfl (fun b48 => ?_)
 refine F8 ?_
 (refine D7 (D1 rfl rfl rfl (by omega) (by unfold maxLen; omega) rfl) rfl ?_; rintro _ ⟨b57, rfl⟩)
 refine sQ (qA rfl) rfl (sD (nS ?_))
 (refine L4 (by repeat (first | exact Pk.here | apply Pk.there)) (fun G5 hle5 hsl5 hno5 => ?_))
 refine tT (rB (rS (E9 (rT rfl) ?_)))
 (exact X7.mk2 hwo (hop.1 (by omega)) hsl5 (hmr.mono hle5) (hma4.mono hle5))
 refine sQ (qA rfl) rfl (sD (nS (cF rfl (tS (tS (tR ?_))))))
 refine sB (qE rfl rfl) rfl rfl (fun h74 => ?_) (fun h74 => ?_)
 refine C7 ?_
 refine H7 rfl ((U6 _)) rfl rfl ?_
 refine H7 rfl ((U6 _)) rfl rfl ?_
 (refine D7 (D1 rfl rfl rfl (by omega) (by unfold maxLen; omega) rfl) rfl ?_; rintro _ ⟨b86, rfl⟩)
 refine sQ (qA rfl) rfl (sD (nS ?_))
 (refine L4 (by repeat (first | exact Pk.here | apply Pk.there)) (fun G5 hle5 hsl5 hno5 => ?_))
 refine tT (rB (rS (E9 (rT rfl) ?_)))
 (exact X7.mk2 (o78 (by omega)) (hop.1 (by omega)) hsl5 (A3N _) (A3N _))
 refine sQ (qA rfl) rfl (sD (nS (cF rfl (tR ?_))))
 refine sB (qE rfl rfl) rfl rfl (fun h101 => ?_) (fun h101 => ?_)
 refine sQ (qA rfl) rfl (sD (nS (qT rfl (tS (tR ?_)))))
 refine H7 rfl ((U6 _)) rfl rfl ?_
 refine H7 rfl ((U6 _)) rfl rfl ?_
 (refine D7 (D1 rfl rfl rfl (by omega) (by unfold maxLen; omega) rfl) rfl ?_; rintro _ ⟨b110, rfl⟩)
 refine sQ (qA rfl) rfl (sD (nS ?_))
 (refine L4 (by repeat (first | exact Pk.here | apply Pk.there)) (fun G5 hle5 hsl5 hno5 => ?_))
 refine tT (rB (rS (E9 (rT rfl) ?_)))
 (exact X7.mk2 (o78 (by omega)) (hop.1 (by omega)) hsl5 (A3N _) (A3N _))
 refine sQ (qA rfl) rfl (sD (nS (cF rfl (tS (tR ?_)))))
 refine sB (qE rfl rfl) rfl rfl (fun h126 => ?_) (fun h126 => ?_)
 refine sQ (qA rfl) rfl (sD (nS (qT rfl (tS ?_))))
 refine D3 D4 rfl ?_
 refine S3 (i := 1) (l' := [ff,tt,ff,ff,ff]) rfl C5 (A2 rfl rfl) rfl (by kernel_rfl) rfl rfl ?_
 refine aL 2 rfl (A2 rfl rfl) rfl ?_
 refine A1 0 ?_
 refine I1 rfl rfl ((A1c _)) rfl rfl rfl ?_
 refine A1 3 ?_
 (refine I7 rfl (D1 rfl rfl rfl (by omega) (by unfold maxLen; omega) rfl) rfl rfl ?_; rintro _ ⟨b138, rfl⟩)
 refine aP 4 rfl (qA rfl) rfl ?_
 refine D8 (nS ?_)
 (refine L4 (by repeat (first | exact Pk.here | apply Pk.there)) (fun G5 hle5 hsl5 hno5 => ?_))
 refine tT (rB (rS (E9 (rT rfl) ?_)))
 (exact X7.mk3 (o9 (by omega)) (hop.2.1 (by omega)) hsl5 (A6e _) (hrt.mono hle5) (hrt.mono hle5))
 refine sQ (qA rfl) rfl (sD (nS (cF rfl (tS (tS (tR ?_))))))
 refine sB (qE rfl rfl) rfl rfl (fun h155 => ?_) (fun h155 => ?_)
 refine M2 ?_
 (have hl1 : ts.length = 1 := hop.2.2 (by omega); obtain ⟨b0, o0', q0, d0, hp0, hat0, hre0, hg0⟩ := hsl.kidTy hkl (i := 0) (by omega) (by omega); cases hp0; refine sP (D0 (j := 0) rfl rfl rfl (by omega)) rfl rfl ?_)
 refine sL (A6 rfl rfl (hat0 _) rfl) rfl rfl ?_
 (obtain ⟨ma', mb', hm, hwo⟩ := o11 (by omega) (by omega); refine D9 rfl (A3a 5 ts[0] G _ (.inr rfl) (ha0 (by omega)) hre0) rfl rfl (fun v G1 hle1 hh => ?_); obtain ⟨ma, mca, mb, mcb, rfl, hma, hmb, hma2, hmb2, hpp⟩ := hh; have hpe := hpp _ hm; simp only [Prod.mk.injEq] at hpe; obtain ⟨rfl, rfl⟩ := hpe; obtain ⟨p1, c1, e1, rfl, _⟩ := hma.open; obtain ⟨p2, c2, e2, rfl, _⟩ := hmb.open; have hTwo := A2H 5 _ _ G1 _ _ (.inr rfl) hma2 hmb2 hma hmb)
 refine H9 ?_
 refine sE (A8 rfl) rfl (fun b173 => ?_)
 refine sE (A8 rfl) rfl (fun b174 => ?_)
 refine C7 ?_
 (refine D9 rfl hTwo rfl rfl (fun v G2 hle2 hh => ?_); obtain ⟨mc, rfl, hmr⟩ := hh; obtain ⟨p3, c3, e3, rfl, _⟩ := hmr.open; have hma4 := hma.mono hle2)
 refine H0 ?_
 refine sE (A8 rfl) rfl (fun b188 => ?_)
 refine B7 ?_
 (refine D7 (D1 rfl rfl rfl (by omega) (by unfold maxLen; omega) rfl) rfl ?_; rintro _ ⟨b196, rfl⟩)
 refine sQ (qA rfl) rfl (sD (nS ?_))
 (refine L4 (by repeat (first | exact Pk.here | apply Pk.there)) (fun G5 hle5 hsl5 hno5 => ?_))
 refine tT (rB (rS (E9 (rT rfl) ?_)))
 (exact X7.mk1 hwo (hop.2.2 (by omega)) hsl5 (hmr.mono hle5))
 refine sQ (qA rfl) rfl (sD (nS (cF rfl (tR ?_))))
 refine sB (qE rfl rfl) rfl rfl (fun h211 => ?_) (fun h211 => ?_)
 refine B7 ?_
 (have hl1 : ts.length = 1 := hop.2.2 (by omega); obtain ⟨b0, o0', q0, d0, hp0, hat0, hre0, hg0⟩ := hsl.kidTy hkl (i := 0) (by omega) (by omega); cases hp0; refine sP (D0 (j := 0) rfl rfl rfl (by omega)) rfl rfl ?_)
 refine sL (A6 rfl rfl (hat0 _) rfl) rfl rfl ?_
 (obtain ⟨ma', mb', hm, hwo⟩ := o11 (by omega) (by omega); refine D9 rfl (A3a 5 ts[0] G _ (.inr rfl) (ha0 (by omega)) hre0) rfl rfl (fun v G1 hle1 hh => ?_); obtain ⟨ma, mca, mb, mcb, rfl, hma, hmb, hma2, hmb2, hpp⟩ := hh; have hpe := hpp _ hm; simp only [Prod.mk.injEq] at hpe; obtain ⟨rfl, rfl⟩ := hpe; obtain ⟨p1, c1, e1, rfl, _⟩ := hma.open; obtain ⟨p2, c2, e2, rfl, _⟩ := hmb.open; have hTwo := A2H 5 _ _ G1 _ _ (.inr rfl) hma2 hmb2 hma hmb)
 refine H9 ?_
 refine sE (A8 rfl) rfl (fun b226 => ?_)
 refine sE (A8 rfl) rfl (fun b227 => ?_)
 refine C7 ?_
 (refine D9 rfl hTwo rfl rfl (fun v G2 hle2 hh => ?_); obtain ⟨mc, rfl, hmr⟩ := hh; obtain ⟨p3, c3, e3, rfl, _⟩ := hmr.open; have hma4 := hma.mono hle2)
 refine H0 ?_
 refine sE (A8 rfl) rfl (fun b241 => ?_)
 refine B7 ?_
 (refine D7 (D1 rfl rfl rfl (by omega) (by unfold maxLen; omega) rfl) rfl ?_; rintro _ ⟨b249, rfl⟩)
 refine sQ (qA rfl) rfl (sD (nS ?_))
 (refine L4 (by repeat (first | exact Pk.here | apply Pk.there)) (fun G5 hle5 hsl5 hno5 => ?_))
 refine tT (rB (rS (E9 (rT rfl) ?_)))
 (exact X7.mk1 hwo (hop.2.2 (by omega)) hsl5 (hmr.mono hle5))
 refine sQ (qA rfl) rfl (sD (nS (cF rfl (tS (tR ?_)))))
 refine sB (qE rfl rfl) rfl rfl (fun h265 => ?_) (fun h265 => ?_)
 refine B7 ?_
 (refine D7 (D1 rfl rfl rfl (by omega) (by unfold maxLen; omega) rfl) rfl ?_; rintro _ ⟨b273, rfl⟩)
 refine sQ (qA rfl) rfl (sD (nS ?_))
 (refine L4 (by repeat (first | exact Pk.here | apply Pk.there)) (fun G5 hle5 hsl5 hno5 => ?_))
 refine tT (rB (rS (E9 (rT rfl) ?_)))
 (exact X7.mk1 (o13 (by omega)) (hop.2.2 (by omega)) hsl5 (hrt.mono hle5))
 refine M3 ?_
 (exact X7.mk (o0 (by omega)) rfl hsl.sl hkl)
theorem A9H : ∀ (us : List Tm) (h : List Ty) (l : Int), J1 us h h l = (us, l)
 | [], h, l => by simp [J1]
 | u :: us, [], l => by simp [J1]
 | u :: us, a :: h, l => by simp only [J1, A5X, if_true, A9H us h l]
theorem A4W {us : List Tm} {h w : List Ty} {l : Int} : J1 us h (S2 w h) l = J1 us h w l := by
 unfold S2
 split
 ·rename_i hw; subst hw; rw [A9H, A15]
 ·rfl
theorem B33 {cx : Cx} {k : Int} {nm : ByteArray} {ty : Ty} {h w : List Ty} {t : Ty} (hh : ∀ a ∈ h, H3 a = true) (hw : Wt cx k nm ty h w t) : ∀ a ∈ S2 w h, H3 a = true := by
 intro a ha
 unfold S2 at ha
 split at ha
 ·exact hh a ha
 ·rename_i hne
  obtain ⟨i, hi, rfl⟩ := List.mem_iff_getElem.1 ha
  exact (hw.ok i hi (by rcases hw.len with h1 | h1; exact absurd h1 hne; omega)).2
def B34 (u : Tm) (t : Ty) (l : Int) (G : IM) : IM → Value → List A4 → Prop := L7 fun G' v => ∃ cu ct, v = .tuple ⟨[.agg ⟨cu⟩, .agg ⟨ct⟩, .int .i64 (l + 1)]⟩ ∧ B5 G' u cu ∧ B3 G' t ct
theorem A9I {cx : Cx} : ∀ {ks : List Tm} {l : Int} {us : List Tm} {h : List Ty} {l' : Int}, P7 cx ks l = some (us, h, l') → us.length = ks.length ∧ h.length = ks.length
 | [], l, us, h, l', he => by simp only [P7, Option.some.injEq, Prod.mk.injEq] at he; obtain ⟨rfl, rfl, _⟩ := he; exact ⟨rfl, rfl⟩
 | t :: ts, l, us, h, l', he => by
  rw [P7] at he
  split at he
  ·cases he
  ·split at he
   ·cases he
   ·rename_i hz
    simp only [Option.some.injEq, Prod.mk.injEq] at he
    obtain ⟨rfl, rfl, _⟩ := he
    have := A9I hz
    simp [this.1, this.2]
theorem B35 : ∀ (e : Tm) (d : Int) (cx : Cx) (l0 : Int) (u0 : Tm) (t0 : Ty) (l1 : Int) (G : IM) (p : Option Addr) (n c : Nat) (cells : List Value), R9 cx e l0 = some (u0, t0, l1) → L8 12 14 e d = true → (n : Int) ≤ d → cxV cx → V6 G cx p n c → B5 G e cells → 0 ≤ l0 → l0 + (C3 e : Int) ≤ 1000000000 →
  Fn Tryz.prog 186 [.slice p n c, .agg ⟨cells⟩, .int .i64 (l0 + 1)] [] G (B34 u0 t0 l1 G) := by
 refine Tm.ind fun k nm num ty fr lb ks ih d cx l0 u0 t0 l1 G p n c cells hel hv hnd hcv hx hr hl0 hlc => ?_
 have hr0 := hr
 have hone := hr.one
 have hT := A9G _ d cx G p n c cells hv hnd hcv hx hr
 obtain ⟨hts1, hts2⟩ := (A6j _ d cx l0 hv hcv).1 u0 t0 l1 hel
 rw [hts1] at hT
 have hsm := A6a _ d hv
 obtain ⟨hv1, hv2, hv3, hv4⟩ := Z4 hv
 have hvk := (A0m 12 14 ks _).1 hv4
 have har := (U8.1 hv3).1
 have hop := A13 har
 obtain ⟨hta, hts⟩ := A3K hv3
 have hcvX : cxV (U4 cx k nm ty) := A4N hcv fun hk => (U8.1 hv3).2.2.2.2.2.1 (.inl hk)
 have hck : C3 (.mk k nm num ty fr lb ks) = C9 ks + 1 := A3M ..
 rw [hck] at hlc
 rw [R9] at hel
 rcases hEL : P7 (U4 cx k nm ty) ks l0 with _ | ⟨usA, tsA, lA⟩
 ·rw [hEL] at hel; cases hel
 rw [hEL] at hel
 unfold A25 at hel
 rcases hNT : A1p cx k nm ty tsA with _ | ⟨w, t9⟩
 ·simp only [hNT] at hel; cases hel
 simp only [hNT, Option.some.injEq, Prod.mk.injEq] at hel
 obtain ⟨hu0, rfl, rfl⟩ := hel
 obtain ⟨hlA1, hlA2⟩ := A9I hEL
 have hmw := (A8X hNT).2
 obtain ⟨_, htv, _⟩ := (A81 ks (fun t ht d' cx' l' h1 h2 => A6j t d' cx' l' h1 h2) (d + 1) _ l0 hv4 hcvX).1 usA tsA lA hEL
 have hcAll := A16 usA tsA w lA
 have hWV : ∀ a ∈ S2 w tsA, H3 a = true := B33 htv (A9i htv (fun hk => (U8.1 hv3).2.2.2.2.2.1 (.inr (.inl hk))) (by rw [hlA2]; exact har) hv2 hmw)
 obtain ⟨tk, tks⟩ := ty
 obtain ⟨fk, fks⟩ := fr
 obtain ⟨pt, ct, pf, cf, q, cq, es, rfl, hk, hnum, hlb, hty, hfr, hsl, hkl⟩ := hr.open9
 have hlen : ks.length ≤ 3 := by have := A2y k; omega
 have hk13 : k = 13 → ks.length = 1 := fun h => hop.2.2 (by omega)
 refine B8 Tryz.func186 rfl Tryz.ntmps186 Tryz.results186 rfl ?_
 intro w0
 refine tS (tR ?_)
 refine sE (E7 rfl rfl) rfl (fun b3 => ?_)
 refine sE (A8 rfl) rfl (fun b4 => ?_)
 refine sE (A8 rfl) rfl (fun b5 => ?_)
 refine B7 ?_
 (refine D9 rfl hT rfl rfl (fun v G1 hle1 hh => ?_); obtain ⟨mt, mc, rfl, hmr, hma, hmu⟩ := hh; obtain rfl := hmu _ rfl; obtain ⟨p1, d1, e1, rfl, _⟩ := hmr.open; have hC := A5Y _ G1 _ hsm (hr0.mono hle1))
 refine H0 ?_
 refine sE (A8 rfl) rfl (fun b17 => ?_)
 refine B7 ?_
 (refine D9 rfl hC rfl rfl (fun v G2 hle2 hh => ?_); obtain ⟨Q0, F1, rfl, hs1, hn1⟩ := hh; have hr1 := hs1.R.mono (B6.le G2 G1); obtain ⟨q1, c1, q2, c2, q3, c3, es1, rfl, _, _, _, hty1, hfr1, _, _⟩ := hr1.open9; have hle02 := hle1.trans hle2; replace hx := hx.mono hle02; replace hty := hty.mono hle02; replace hsl := hsl.mono hle02; replace hkl := hkl.mono hle02; replace hmr := hmr.mono hle2; replace hr0 := hr0.mono hle02)
 refine sE (A8 rfl) rfl (fun b26 => ?_)
 refine I6 ?_
 (show I9 _ _ (.region 4 ..) _ _; refine A0b (fun (x : Bool) => ⟨[(30, .bool x), (0, .slice p n c), (2, .int .i64 (l0 + 1)), (4, .pointer (some ⟨b3, 0, none⟩)), (6, .pointer (some ⟨b4, 0, none⟩)), (7, .pointer (some ⟨b5, 0, none⟩)), (9, .pointer (some ⟨b17, 0, none⟩)), (11, .pointer (some ⟨b26, 0, none⟩))], [.blk b26 [.int .i64 k, .string nm, .int .i64 num, .int .i64 tk, .slice q1 tks.length c1, .int .i64 fk, .slice q2 fks.length c2, .int .i64 lb, .slice none 0 0], .blk b17 [.int .i64 t9.k, .slice p1 t9.ks.length d1], .blk b5 [.int .i64 0, .slice none 0 0], .blk b4 [.int .i64 0, .string ⟨⟨[]⟩⟩, .int .i64 0, .int .i64 0, .slice none 0 0, .int .i64 0, .slice none 0 0, .int .i64 0, .slice none 0 0], .blk b3 [.int .i64 k, .string nm, .int .i64 num, .int .i64 tk, .slice pt tks.length ct, .int .i64 fk, .slice pf fks.length cf, .int .i64 lb, .slice q ks.length cq]], G2⟩) (fun x => x = true ↔ k = 5) ?_ ?_)
 ·refine tR (sQ (A9 rfl) rfl (sL (C2 rfl rfl) rfl rfl ?_))
  refine sB (qE rfl rfl) rfl rfl (fun h42 => ?_) (fun h42 => ?_)
  ·refine sD ?_
   refine P1 true (N7 (by repeat (first | exact E6.nil | refine E6.cons rfl ?_)) (by repeat (first | exact A0.refl | exact A0.nil | refine A0.cons (by repeat (first | exact Pk.here | apply Pk.there)) ?_ | apply A0.drop))) ⟨fun _ => (by omega), fun _ => rfl⟩
  ·refine sD ?_
   refine P1 false (N7 (by repeat (first | exact E6.nil | refine E6.cons rfl ?_)) (by repeat (first | exact A0.refl | exact A0.nil | refine A0.cons (by repeat (first | exact Pk.here | apply Pk.there)) ?_ | apply A0.drop))) ⟨fun h => (by cases h), fun _ => (by omega)⟩
 ·(rintro (x : Bool) hx5)
  (show I9 _ _ (.cond (.tmp 30) _ _) _ _; refine A0b (fun (x : Option Addr × Nat × Nat × IM) => ⟨[(0, .slice x.1 x.2.1 x.2.2.1), (2, .int .i64 (l0 + 1)), (4, .pointer (some ⟨b3, 0, none⟩)), (6, .pointer (some ⟨b4, 0, none⟩)), (7, .pointer (some ⟨b5, 0, none⟩)), (9, .pointer (some ⟨b17, 0, none⟩)), (11, .pointer (some ⟨b26, 0, none⟩))], [.blk b26 [.int .i64 k, .string nm, .int .i64 num, .int .i64 tk, .slice q1 tks.length c1, .int .i64 fk, .slice q2 fks.length c2, .int .i64 lb, .slice none 0 0], .blk b17 [.int .i64 t9.k, .slice p1 t9.ks.length d1], .blk b5 [.int .i64 0, .slice none 0 0], .blk b4 [.int .i64 0, .string ⟨⟨[]⟩⟩, .int .i64 0, .int .i64 0, .slice none 0 0, .int .i64 0, .slice none 0 0, .int .i64 0, .slice none 0 0], .blk b3 [.int .i64 k, .string nm, .int .i64 num, .int .i64 tk, .slice pt tks.length ct, .int .i64 fk, .slice pf fks.length cf, .int .i64 lb, .slice q ks.length cq]], x.2.2.2⟩) (fun x => B2 G2 x.2.2.2 ∧ V6 x.2.2.2 (U4 cx k nm (.mk tk tks)) x.1 x.2.1 x.2.2.1 ∧ (x.2.1 : Int) ≤ d + 1) (A2m rfl (fun hxt => ?_) (fun hxf => ?_)) ?_)
  ·refine K4 ?_
   (refine D9 rfl (A9D G2 cx p n c nm (.mk tk tks) _ hx (by omega) hty) rfl rfl (fun v G3 hle3 hh => ?_); obtain ⟨pm0, cm0, rfl, hxm⟩ := hh)
   refine sQ (qA rfl) rfl (sD ?_)
   refine P1 (pm0, n + 1, cm0, G3) (N7 (by repeat (first | exact E6.nil | refine E6.cons rfl ?_)) (by repeat (first | exact A0.refl | exact A0.nil | refine A0.cons (by repeat (first | exact Pk.here | apply Pk.there)) ?_ | apply A0.drop))) ?_
   (dsimp only; exact ⟨hle3, by rw [U4, if_pos (hx5.1 (by assumption))]; exact hxm, by omega⟩)
  ·refine tK ?_
   refine P1 (p, n, c, G2) (N7 (by repeat (first | exact E6.nil | refine E6.cons rfl ?_)) (by repeat (first | exact A0.refl | exact A0.nil | refine A0.cons (by repeat (first | exact Pk.here | apply Pk.there)) ?_ | apply A0.drop))) ?_
   (dsimp only; exact ⟨B2.refl _, by rw [U4, if_neg (fun h => by have := hx5.2 h; rw [this] at hxf; cases hxf)]; exact hx, by omega⟩)
  ·(rintro ⟨(px : Option Addr), nx, cxx, Gx⟩ ⟨hleX, hxX, hnX⟩; simp only [] at hleX hxX hnX ⊢; replace hty1 := hty1.mono hleX; replace hfr1 := hfr1.mono hleX; replace hsl := hsl.mono hleX; replace hkl := hkl.mono hleX; replace hmr := hmr.mono hleX; replace hr0 := hr0.mono hleX)
   refine tS (tR ?_)
   (refine D7 (D1 rfl rfl rfl (by omega) (by unfold maxLen; omega) rfl) rfl ?_; rintro _ ⟨b66, rfl⟩)
   refine C7 ?_
   refine C6 ?_
   (refine A0B 28 9 ?_; refine N4 (fun (x : Nat × (Option Addr × Nat × List Tm × List (List Value)) × (Option Addr × Nat × List Ty × List (List Value)) × Int × IM) => ⟨[(13, .int .i64 x.1), (12, .slice x.2.2.1.1 x.1 x.2.2.1.2.1), (0, .slice px nx cxx), (2, .int .i64 (x.2.2.2.1 + 1)), (4, .pointer (some ⟨b3, 0, none⟩)), (6, .pointer (some ⟨b4, 0, none⟩)), (7, .pointer (some ⟨b5, 0, none⟩)), (9, .pointer (some ⟨b17, 0, none⟩)), (11, .pointer (some ⟨b26, 0, none⟩))], [.blk b26 [.int .i64 k, .string nm, .int .i64 num, .int .i64 tk, .slice q1 tks.length c1, .int .i64 fk, .slice q2 fks.length c2, .int .i64 lb, .slice x.2.1.1 x.1 x.2.1.2.1], .slc x.2.1.1 x.2.1.2.1 28 9 x.1 x.2.1.2.2.2.flatten, .slc x.2.2.1.1 x.2.2.1.2.1 25 2 x.1 x.2.2.1.2.2.2.flatten, .blk b17 [.int .i64 t9.k, .slice p1 t9.ks.length d1], .blk b5 [.int .i64 0, .slice none 0 0], .blk b4 [.int .i64 0, .string ⟨⟨[]⟩⟩, .int .i64 0, .int .i64 0, .slice none 0 0, .int .i64 0, .slice none 0 0, .int .i64 0, .slice none 0 0], .blk b3 [.int .i64 k, .string nm, .int .i64 num, .int .i64 tk, .slice pt tks.length ct, .int .i64 fk, .slice pf fks.length cf, .int .i64 lb, .slice q ks.length cq]], x.2.2.2.2⟩) (fun x => x.1 ≤ ks.length ∧ B2 Gx x.2.2.2.2 ∧ x.2.1.2.2.1.length = x.1 ∧ E5 x.2.2.2.2 x.2.1.2.2.1 x.2.1.2.2.2 ∧ x.2.2.1.2.2.1.length = x.1 ∧ E1 x.2.2.2.2 x.2.2.1.2.2.1 x.2.2.1.2.2.2 ∧ P7 (U4 cx k nm (.mk tk tks)) (ks.take x.1) l0 = some (x.2.1.2.2.1, x.2.2.1.2.2.1, x.2.2.2.1) ∧ l0 ≤ x.2.2.2.1 ∧ x.2.2.2.1 + x.1 ≤ l0 + (C9 (ks.take x.1) : Int)) (fun x => ks.length - x.1) (0, (none, 0, [], []), (some ⟨b66, 0, none⟩, 0, [], []), l0, Gx) ?_ ?_ ?_)
   ·(simp only [List.take_zero, A15]; exact (N7 (by repeat (first | exact E6.nil | refine E6.cons rfl ?_)) (by repeat (first | exact A0.refl | exact A0.nil | refine A0.cons (by repeat (first | exact Pk.here | apply Pk.there)) ?_ | apply A0.drop))))
   ·(exact ⟨by simp, B2.refl _, rfl, by simp [E5], rfl, by simp [E1], by simp [P7], Int.le_refl _, by simp [C9]⟩)
   ·(rintro ⟨i, ⟨pn, cn, us, es'⟩, ⟨pm, cm, ts, ess⟩, l, Gi⟩ ⟨hi, hle, hlu, hst, hlt, hstt, hml, hl1, hl2⟩; simp only [] at hi hle hlu hst hlt hstt hml hl1 hl2 ⊢; replace hty1 := hty1.mono hle; replace hfr1 := hfr1.mono hle; replace hsl := hsl.mono hle; replace hkl := hkl.mono hle; replace hmr := hmr.mono hle; replace hr0 := hr0.mono hle; replace hxX := hxX.mono hle)
    refine B7 ?_
    refine sB (L9 rfl rfl) rfl rfl (fun h88 => ?_) (fun h88 => ?_)
    ·refine sD (nS (qT rfl (tK (nS (tS ?_)))))
     refine C6 ?_
     refine K4 ?_
     (obtain ⟨b, o, e, rfl, hl, hate, hre, hgb⟩ := hsl.kidTm hkl (i := i) (by omega) (by omega); have hsc := A3z (ks := ks) (i := i) (by omega); have hsk := A4q (ks := ks) (i := i) (by omega); rcases hE : R9 (U4 cx k nm (Ty.mk tk tks)) ks[i] l with _ | ⟨u, t, l3⟩; (have hno := A88 (by omega) hml hE; rw [hEL] at hno; cases hno); have hlm := A6n.el_mono _ _ _ _ _ _ hE; have hlx := A9k ks[i] (d + 1) _ l u t l3 (hvk i (by omega)) hE; refine sP (D0 rfl rfl rfl (by omega)) rfl rfl ?_)
     refine sL (A6 rfl rfl (hate _) hl) rfl rfl ?_
     refine sQ (qM rfl) rfl ?_
     (refine D9 rfl (ih ks[i] (List.getElem_mem (by omega)) (d + 1) _ l u t l3 Gi px nx cxx _ hE (hvk i (by omega)) (by omega) hcvX hxX hre (by omega) (by omega)) rfl rfl (fun v G3 hle3 hh => ?_); obtain ⟨uc, tc, rfl, hru, hrt⟩ := hh; obtain ⟨v1, v2, v3, v4, v5, v6, v7, v8, v9, rfl⟩ := nine hru.len; obtain ⟨p3, c3, e3, rfl, _⟩ := hrt.open; have hlu9 := hru.len; have hou9 := hru.one)
     refine H9 ?_
     refine sE (A8 rfl) rfl (fun b110 => ?_)
     refine sE (A8 rfl) rfl (fun b111 => ?_)
     refine sS rfl rfl rfl hlu9 hou9 rfl ?_ (hu := by exact I4 hlu9.symm)
     refine C7 ?_
     (refine D7 (D1 rfl rfl rfl (by omega) (by unfold maxLen; omega) rfl) rfl ?_; rintro _ ⟨b122, rfl⟩)
     refine A1T rfl rfl rfl rfl rfl (fun _ _ => by repeat (first | exact Sw.here | apply Sw.there)) (R0 (by repeat first | exact mH | apply mT)) rfl (fun u hu => List.all_eq_true.1 hou9 u hu) (by unfold maxLen; omega) (by omega) rfl (fun pn' cn' => ?_)
     refine F8 ?_
     (refine D7 (D1 rfl rfl rfl (by omega) (by unfold maxLen; omega) rfl) rfl ?_; rintro _ ⟨b132, rfl⟩)
     refine A1T rfl rfl rfl rfl rfl (fun _ _ => by repeat (first | exact Sw.here | apply Sw.there)) (R0 (by repeat first | exact mH | apply mT)) rfl (by simp [Value.oneCell']) (by unfold maxLen; omega) (by omega) rfl (fun pm' cm' => ?_)
     refine I6 ?_
     refine sP (N0 rfl rfl (by omega) (by omega)) rfl rfl ?_
     refine sQ (qA rfl) rfl (sD ?_)
     refine K5 (i + 1, (pn', cn', us ++ [u], es' ++ [[v1, v2, v3, v4, v5, v6, v7, v8, v9]]), (pm', cm', ts ++ [t], ess ++ [[.int .i64 t.k, .slice p3 t.ks.length c3]]), l3, G3) ?_ ?_ ?_
     ·(simp only [J9]; exact E0)
     ·(dsimp only; exact ⟨by omega, hle.trans hle3, by simp [hlu], E5.snoc (hst.mono hle3) hru, by simp [hlt], E1.snoc (hstt.mono hle3) hrt, A87 (by omega) hml hE, by omega, by omega⟩)
     ·(show ks.length - (i + 1) < ks.length - i; omega)
    ·refine I5 ?_
     (obtain rfl : i = ks.length := (by omega); rw [List.take_length] at hml hl2; rw [hEL] at hml; simp only [Option.some.injEq, Prod.mk.injEq] at hml; obtain ⟨rfl, rfl, rfl⟩ := hml; refine P2 (cs := ess.flatten) (by repeat (first | exact Pk.here | apply Pk.there)) (fun G4 hle4 hsl4 hno4 => ?_); have hstt4 := hstt.mono hle4; have hslT : D5 G4 pm ks.length cm 2 ess := D5.of hsl4 (by rw [hstt4.len, hlt]) hstt4.all (fun e he => (hstt4.each e he).2); have hW := B32 cx k nm num (.mk tk tks) (.mk fk fks) lb ks _ w _ G4 _ _ pm cm ess hmw hv2 (by rw [hlt]; exact har) (hr0.mono hle4) (by rw [hlt]; exact hslT) hstt4 (fun t ht => A6o (htv t ht)) (hmr.mono hle4); rw [hlt] at hW; refine D9 rfl hW rfl rfl (fun v G5 hle5 hh => ?_); obtain ⟨pw, cw, esw, rfl, hlw, hsw, hstw⟩ := hh; have hle45 := hle4.trans hle5; replace hty1 := hty1.mono hle45; replace hfr1 := hfr1.mono hle45; replace hmr := hmr.mono hle45; replace hst := hst.mono hle45; replace hslT := hslT.mono hle5; replace hstt := hstt.mono hle45; rcases Nat.eq_zero_or_pos ks.length with h0 | h0)
     ·refine C7 ?_
      refine C6 ?_
      (have h0' : ks.length = 0 := h0; refine N4 (fun (_ : Nat) => ⟨[(18, .int .i64 0), (17, .slice pw ks.length cw), (12, .slice pm ks.length cm), (2, .int .i64 (lA + 1)), (4, .pointer (some ⟨b3, 0, none⟩)), (6, .pointer (some ⟨b4, 0, none⟩)), (7, .pointer (some ⟨b5, 0, none⟩)), (9, .pointer (some ⟨b17, 0, none⟩)), (11, .pointer (some ⟨b26, 0, none⟩))], [.blk b26 [.int .i64 k, .string nm, .int .i64 num, .int .i64 tk, .slice q1 tks.length c1, .int .i64 fk, .slice q2 fks.length c2, .int .i64 lb, .slice pn ks.length cn], .slc pn cn 28 9 ks.length es'.flatten, .blk b17 [.int .i64 t9.k, .slice p1 t9.ks.length d1], .blk b5 [.int .i64 0, .slice none 0 0], .blk b4 [.int .i64 0, .string ⟨⟨[]⟩⟩, .int .i64 0, .int .i64 0, .slice none 0 0, .int .i64 0, .slice none 0 0, .int .i64 0, .slice none 0 0], .blk b3 [.int .i64 k, .string nm, .int .i64 num, .int .i64 tk, .slice pt tks.length ct, .int .i64 fk, .slice pf fks.length cf, .int .i64 lb, .slice q ks.length cq]], G5⟩) (fun _ => True) (fun i => i) 0 ?_ ?_ ?_)
      ·exact E0
      ·trivial
      ·(rintro (i0 : Nat) _)
       refine K4 ?_
       refine sP (V4 rfl rfl (by omega)) rfl rfl ?_
       refine I5 ?_
       refine sP (M1 rfl rfl (by omega)) rfl rfl ?_
       refine sD (nS (cF rfl (tK (nS (tS ?_)))))
       refine D3 D4 rfl ?_
       refine S3 (i := 0) (l' := [tt,ff,ff,ff,ff,ff]) rfl C5 (A2 rfl rfl) rfl (by kernel_rfl) rfl rfl ?_
       refine aL 1 rfl (A2 rfl rfl) rfl ?_
       refine aP 2 rfl (qM rfl) rfl ?_
       refine A1 3 ?_
       refine oS rfl rfl rfl rfl rfl rfl rfl rfl ?_
       refine A1 4 ?_
       refine oS rfl rfl rfl rfl rfl rfl rfl rfl ?_
       refine aP 5 rfl (qA rfl) rfl ?_
       refine D8 (nS ?_)
       (refine L4 (cs := es'.flatten) (by repeat (first | exact Pk.here | apply Pk.there)) (fun G8 hle8 hsl8 hno8 => ?_); have hst8 := hst.mono hle8)
       refine tT ?_
       refine rF3 (rC rfl (A2 rfl rfl)) (rC rfl (A2 rfl rfl)) (rT rfl) ?_
       (have hu9 : usA = [] := List.length_eq_zero_iff.1 (by omega); have hne : k ≠ 13 := (fun h => by have := hk13 h; omega); have hz : J1 usA tsA w lA = (usA, lA) := (by rw [hu9]; simp [J1]); rw [if_neg hne, hz] at hu0; subst hu0; rw [hz]; exact ⟨rfl, _, _, rfl, B5.put hk hnum hlb (hty1.mono hle8) (hfr1.mono hle8) hlA1.symm (D5.of hsl8 (by rw [hst8.len, hlA1]) hst8.all (fun e he => (hst8.each e he).2)) hst8, hmr.mono hle8⟩)
     ·(refine A8A (cs := es'.flatten) (by repeat (first | exact Pk.here | apply Pk.there)) h0 (fun bc C hpe hnc hcm => ?_); subst hpe; refine sQ (qA rfl) rfl ?_)
      refine sD (nS (tS (tS (tR (sQ (qA rfl) rfl (sD (nS ?_)))))))
      refine C6 ?_
      (have hLoop2 := hlw; refine N4 (fun (x : Nat × List (List Value) × IM) => ⟨[(18, .int .i64 x.1), (17, .slice pw ks.length cw), (12, .slice pm ks.length cm), (2, .int .i64 ((J1 usA tsA ((S2 w tsA).take x.1) lA).2 + 1)), (4, .pointer (some ⟨b3, 0, none⟩)), (6, .pointer (some ⟨b4, 0, none⟩)), (7, .pointer (some ⟨b5, 0, none⟩)), (9, .pointer (some ⟨b17, 0, none⟩)), (11, .pointer (some ⟨b26, 0, none⟩))], [.blk b26 [.int .i64 k, .string nm, .int .i64 num, .int .i64 tk, .slice q1 tks.length c1, .int .i64 fk, .slice q2 fks.length c2, .int .i64 lb, .slice (some ⟨bc, 0, none⟩) ks.length cn], .blk bc (x.2.1.flatten ++ C), .blk b17 [.int .i64 t9.k, .slice p1 t9.ks.length d1], .blk b5 [.int .i64 0, .slice none 0 0], .blk b4 [.int .i64 0, .string ⟨⟨[]⟩⟩, .int .i64 0, .int .i64 0, .slice none 0 0, .int .i64 0, .slice none 0 0, .int .i64 0, .slice none 0 0], .blk b3 [.int .i64 k, .string nm, .int .i64 num, .int .i64 tk, .slice pt tks.length ct, .int .i64 fk, .slice pf fks.length cf, .int .i64 lb, .slice q ks.length cq]], x.2.2⟩) (fun x => x.1 ≤ ks.length ∧ B2 G5 x.2.2 ∧ E5 x.2.2 (J1 usA tsA ((S2 w tsA).take x.1) lA).1 x.2.1) (fun x => ks.length - x.1) (0, es', G5) ?_ ?_ ?_)
      ·(simp only [List.take_zero, A15]; exact (N7 (by repeat (first | exact E6.nil | refine E6.cons rfl ?_)) (by repeat (first | exact A0.refl | exact A0.nil | refine A0.cons (by repeat (first | exact Pk.here | apply Pk.there)) ?_ | apply A0.drop))))
      ·(exact ⟨Nat.zero_le _, B2.refl _, by simp only [List.take_zero, A15]; exact hst⟩)
      ·(rintro ⟨j, es2, G6⟩ ⟨hj, hle6, hst2⟩; simp only [] at hj hle6 hst2 ⊢; replace hty1 := hty1.mono hle6; replace hfr1 := hfr1.mono hle6; replace hmr := hmr.mono hle6; replace hslT := hslT.mono hle6; replace hstt := hstt.mono hle6; replace hsw := hsw.mono hle6; replace hstw := hstw.mono hle6; have hle2s := hst2.len; rw [A26] at hle2s; have hall2 := hst2.all)
       refine K4 ?_
       refine sB (L9 rfl rfl) rfl rfl (fun h242 => ?_) (fun h242 => ?_)
       ·refine sD (nS (qT rfl (tK (nS (tS ?_)))))
        refine C6 ?_
        (have hjw : j < (S2 w tsA).length := (by omega); obtain ⟨bt, ot, qt, dt, hpt, hatt, hrtt, hgt⟩ := hslT.kidTy hstt (i := j) (by omega) (by omega); obtain ⟨bw, ow, qw, dw, hpw, hatw, hrtw, hgw⟩ := (show D5 G6 pw (S2 w tsA).length cw 2 esw from by rw [hlw]; exact hsw).kidTy hstw (i := j) (by omega) (by omega); cases hpt; cases hpw; obtain ⟨m1, m2, _⟩ := A4O usA tsA (S2 w tsA) lA j hjw (by omega) (by omega); obtain ⟨m3, m4⟩ := B3a (us := usA) (h := tsA) (w := S2 w tsA) (l := lA) hjw (by omega) (by omega); obtain ⟨hE1, hE2⟩ := hst2.at2 (i := j) (by omega) (by omega); rw [m2] at hE2; have hE3 := hE2.len; have hcj := A16 usA tsA ((S2 w tsA).take j) lA; refine D3 D4 rfl ?_)
        refine E8 (i := 0) (l' := [tt,ff,ff,ff,ff,ff,ff,ff,ff,ff,ff,ff,ff,ff,ff,ff,ff,ff,ff,ff,ff,ff,ff,ff]) rfl C5 (A9 rfl) rfl (by kernel_rfl) rfl rfl ?_
        refine aL 1 rfl (C2 rfl rfl) rfl ?_
        refine aP 2 rfl (qM rfl) rfl ?_
        refine aP 3 rfl (A9 rfl) rfl ?_
        refine aL 4 rfl (C2 rfl rfl) rfl ?_
        refine aP 5 rfl (qM rfl) rfl ?_
        refine aP 6 rfl (D0 (j := j) rfl rfl rfl (by omega)) rfl ?_
        refine aL 7 rfl (A6 rfl rfl (A4I (es := es2) (by repeat first | exact mH | apply mT) (by omega) hall2) hE3) rfl ?_
        refine aP 8 rfl (qM rfl) rfl ?_
        refine aP 9 rfl (qM rfl) rfl ?_
        refine aP 10 rfl (D0 (j := j) rfl rfl rfl (by omega)) rfl ?_
        refine aL 11 rfl (A6 rfl rfl (hatt _) rfl) rfl ?_
        refine aP 12 rfl (qM rfl) rfl ?_
        refine aP 13 rfl (qM rfl) rfl ?_
        refine aP 14 rfl (D0 (j := j) rfl rfl rfl (by omega)) rfl ?_
        refine aL 15 rfl (A6 rfl rfl (hatw _) rfl) rfl ?_
        refine aP 16 rfl (qM rfl) rfl ?_
        refine A1 17 ?_
        (have hwsm := (A6o (hWV _ (List.getElem_mem (show j < (S2 w tsA).length by omega)))).small; refine M6 rfl rfl (A3W usA[j] tsA[j] (S2 w tsA)[j] _ _ _ _ _ (by omega) hE2 hrtt hrtw (A6o (htv _ (List.getElem_mem (by omega)))).small hwsm) rfl rfl rfl (fun v G7 hle7 hh => ?_); obtain ⟨uc, rfl, hru⟩ := hh; rw [show (if P4 tsA[j] (S2 w tsA)[j] = true then (J1 usA tsA ((S2 w tsA).take j) lA).2 + 1 else (J1 usA tsA ((S2 w tsA).take j) lA).2 + 1 + 1) = (J1 usA tsA ((S2 w tsA).take (j + 1)) lA).2 + 1 from by rw [m4]; split <;> rfl]; have hlu9 := hru.len; have hou9 := hru.one)
        refine aP 18 rfl (qM rfl) rfl ?_
        refine aP 19 rfl (pX rfl rfl) rfl ?_
        refine aP 21 rfl (D0 (j := j) rfl rfl rfl (by omega)) rfl ?_
        refine aP 20 rfl (pX rfl rfl) rfl ?_
        refine A1 22 ?_
        refine K6 rfl rfl rfl rfl hlu9 hou9 rfl rfl (by kernel_rfl) (by repeat first | exact Sw.here | apply Sw.there) (by exact A8C (by omega) hall2 hlu9) ?_
        refine aP 23 rfl (qA rfl) rfl ?_
        refine D8 (O3 (nS (tR (sQ (qM rfl) rfl ?_))))
        refine sP (N0 rfl rfl (by omega) (by omega)) rfl rfl ?_
        refine sQ (qA rfl) rfl (sD ?_)
        refine K5 (j + 1, es2.set j uc, G7) ?_ ?_ ?_
        ·(simp only [List.take_zero, A15]; exact (N7 (by repeat (first | exact E6.nil | refine E6.cons rfl ?_)) (by repeat (first | exact A0.refl | exact A0.nil | refine A0.cons (by repeat (first | exact Pk.here | apply Pk.there)) ?_ | apply A0.drop))))
        ·(dsimp only; exact ⟨by omega, hle6.trans hle7, by rw [m3]; exact E5.set (hst2.mono hle7) hru⟩)
        ·(show ks.length - (j + 1) < ks.length - j; omega)
       ·refine I5 ?_
        refine sB (qE rfl rfl) rfl rfl (fun h302 => ?_) (fun h302 => ?_)
        ·refine sD (nS (qT rfl (tS ?_)))
         (have hq13 : k = 13 := (by omega); have hl13 := hk13 hq13; have hjw : j = (S2 w tsA).length := (by omega); rw [hjw, List.take_length, A4W] at hst2; have hm0 := A26 usA tsA w lA; obtain ⟨hE1, hE2⟩ := hst2.at2 (i := 0) (by omega) (by omega); have hE3 := hE2.len; have hE4 := hE2.one; refine D3 D4 rfl ?_)
         refine E8 (i := 0) (l' := [tt,ff,ff,ff,ff,ff,ff,ff,ff]) rfl C5 (A9 rfl) rfl (by kernel_rfl) rfl rfl ?_
         refine aL 1 rfl (C2 rfl rfl) rfl ?_
         refine aP 2 rfl (D0 (j := 0) rfl rfl rfl (by omega)) rfl ?_
         refine aL 3 rfl (A6 rfl rfl (A4I (es := es2) (by repeat first | exact mH | apply mT) (by omega) hall2) hE3) rfl ?_
         refine aL 4 rfl (A2 rfl rfl) rfl ?_
         refine aP 5 rfl (qM rfl) rfl ?_
         refine A1 6 ?_
         refine oS rfl rfl rfl rfl hE3 hE4 rfl rfl ?_ (hu := by exact I4 hE3.symm)
         refine A1 7 ?_
         refine oS rfl rfl rfl rfl rfl rfl rfl rfl ?_
         refine aP 8 rfl (qA rfl) rfl ?_
         refine D8 (nS ?_)
         (refine A2T (bs := [(bc, es2.flatten ++ C)]) (Pk.perm (by repeat (first | exact Pk.here | apply Pk.there))) (fun hn9 hd9 hle9 => ?_))
         refine tT (rS ?_)
         refine rF3 (rC rfl (A6 rfl rfl (C8 (by repeat first | exact mH | apply mT)) hE3)) (rC rfl (A2 rfl rfl)) (rT rfl) ?_
         (rw [if_pos hq13, B3l (by omega)] at hu0; subst hu0; rw [hjw, List.take_length, A4W]; exact ⟨rfl, _, _, rfl, hE2.mono hle9, hmr.mono hle9⟩)
        ·refine sD (nS (cF rfl (tK (nS (tS ?_)))))
         refine D3 D4 rfl ?_
         refine S3 (i := 0) (l' := [tt,ff,ff,ff,ff,ff]) rfl C5 (A2 rfl rfl) rfl (by kernel_rfl) rfl rfl ?_
         refine aL 1 rfl (A2 rfl rfl) rfl ?_
         refine aP 2 rfl (qM rfl) rfl ?_
         refine A1 3 ?_
         refine oS rfl rfl rfl rfl rfl rfl rfl rfl ?_
         refine A1 4 ?_
         refine oS rfl rfl rfl rfl rfl rfl rfl rfl ?_
         refine aP 5 rfl (qA rfl) rfl ?_
         refine D8 (nS ?_)
         (refine A2T (bs := [(bc, es2.flatten ++ C)]) (Pk.perm (by repeat (first | exact Pk.here | apply Pk.there))) (fun hn9 hd9 hle9 => ?_))
         refine tT ?_
         refine rF3 (rC rfl (A2 rfl rfl)) (rC rfl (A2 rfl rfl)) (rT rfl) ?_
         (have hjw : j = (S2 w tsA).length := (by omega); rw [hjw, List.take_length, A4W] at hst2; have hst9 := hst2.mono hle9; have hm0 := A26 usA tsA w lA; rw [if_neg (by omega)] at hu0; subst hu0; rw [hjw, List.take_length, A4W]; exact ⟨rfl, _, _, rfl, B5.put hk hnum hlb (hty1.mono hle9) (hfr1.mono hle9) (by rw [hm0, hlA1]) (D5.of (Sl.of_blk (A := []) (by rw [A2v hst9.all, hst9.len, hm0, hlA1]) (by omega) hcm (Wi.in hn9 List.mem_cons_self)) (by rw [hst9.len, hm0, hlA1]) hst9.all (fun e he => (hst9.each e he).2)) hst9, hmr.mono hle9⟩)
theorem B36 (e : Tm) (G : IM) (cells : List Value) (hcnt : C3 e ≤ 4294967296) (hr : B5 G e cells) : Fn Tryz.prog 143 [.agg ⟨cells⟩] [] G (A2E (A0t e)) := by
 have hl := hr.len
 have hone := hr.one
 refine B8 Tryz.func143 rfl Tryz.ntmps143 Tryz.results143 rfl ?_
 intro w0
 refine tS (tR ?_)
 refine sE (E7 rfl rfl) rfl (fun b3 => ?_)
 refine sE (A8 rfl) rfl (fun b4 => ?_)
 refine sE (A8 rfl) rfl (fun b5 => ?_)
 refine sQ (qA rfl) rfl (sD (nS (tS (tR ?_))))
 refine sL (A6 rfl rfl (C8 (by repeat first | exact mH | apply mT)) (by assumption)) rfl rfl ?_
 focus (refine D9 rfl (B3Y e _ _ (by omega) hr) rfl rfl (fun v G1 hle1 hh => ?_); obtain ⟨mc, mt, rfl, hmr, hmu⟩ := hh; obtain ⟨pt, ct, et, rfl, _⟩ := hmr.open; obtain ⟨r, hI⟩ : ∃ r, A0t e = r := ⟨_, rfl⟩; rcases r with _ | ⟨u, t⟩; (have hto : A0S e = none := by unfold A0S; rw [hI]); rotate_left; (have hto : A0S e = some t := by unfold A0S; rw [hI]); obtain ⟨hv, l3, hE⟩ := B3T hI; obtain ⟨hv1, hv2⟩ := (A1X e).1 hv; rotate_left; all_goals rw [hto]; all_goals simp only [Option.isSome])
 refine H0 ?_
 refine sE (A8 rfl) rfl (fun b16 => ?_)
 refine A0I ?_
 refine rF3 (rC rfl (A2 rfl rfl)) (rC rfl (A2 rfl rfl)) (rT rfl) ?_
 (exact A2E.no (by first | exact hI | rfl) (B3d _) (J6 _ ⟨by omega, by omega⟩))
 refine H0 ?_
 refine sE (A8 rfl) rfl (fun b45 => ?_)
 refine N6 ?_
 refine sL (A6 rfl rfl (C8 (by repeat first | exact mH | apply mT)) (by assumption)) rfl rfl ?_
 (have hIn := B35 e 1 [] 0 u t l3 G1 none 0 0 cells hE hv1 (by omega) A4M (V6.nil _) (hr.mono hle1) (by omega) (by omega); refine D9 rfl hIn rfl rfl (fun v G2 hle2 hh => ?_); obtain ⟨cu, tc, rfl, hru, hrt⟩ := hh; obtain ⟨qt, dt, et2, rfl, _⟩ := hrt.open; have hlu := hru.len; have hou := hru.one)
 refine H9 ?_
 refine sE (A8 rfl) rfl (fun b68 => ?_)
 refine sE (A8 rfl) rfl (fun b69 => ?_)
 refine M0 rfl rfl rfl hlu hou rfl (by repeat first | exact Sw.here | apply Sw.there) (by exact I4 (by first | exact hlu.symm | omega)) ?_
 refine H2 ?_
 refine sQ (qA rfl) rfl (sD (nS (tS ?_)))
 refine D3 D4 rfl ?_
 refine S3 (i := 0) (l' := [tt,ff,ff,ff,ff]) rfl C5 (A6 rfl rfl (C8 (by repeat first | exact mH | apply mT)) hlu) rfl (by kernel_rfl) rfl rfl ?_
 refine aL 1 rfl (A2 rfl rfl) rfl ?_
 refine A1 2 ?_
 refine oS rfl rfl rfl rfl hlu hou rfl rfl ?_ (hu := by exact I4 hlu.symm)
 refine A1 3 ?_
 refine oS rfl rfl rfl rfl rfl rfl rfl rfl ?_
 refine aP 4 rfl (qA rfl) rfl ?_
 refine D8 (nS (tT ?_))
 refine rF3 (rC rfl (A6 rfl rfl (C8 (by repeat first | exact mH | apply mT)) hlu)) (rC rfl (A2 rfl rfl)) (rT rfl) ?_
 (exact A2E.yes (by first | exact hI | rfl) hru hrt)
def B37 (t : Tm) : List Ty := if T7 t = true then A2G t else []
def B68 (u : Tm) (n : Int) : IM → Value → List A4 → Prop := fun G' v outs => outs = [] ∧ ∃ cu, v = .tuple ⟨[.agg ⟨cu⟩, .int .i64 n]⟩ ∧ B5 G' u cu
def B69 (t : Tm) (L : List Ty) : Option Tm := if T7 t = true ∧ (B37 t).length = L.length ∧ ∀ u ∈ L, H3 u = true then some (A6r t L) else none
def TmB (o : Option Tm) : IM → Value → List A4 → Prop := L7 fun G' v => ∃ cu, v = .tuple ⟨[.agg ⟨cu⟩, .bool o.isSome]⟩ ∧ B5 G' (o.getD K7) cu
def PLe (l l' : List Ty) : Prop := ∀ i, A6k (l.getD i A7) (l'.getD i A7) = true
section masks
variable {P : Program} {Γ : K0} {env : K3} {hp : List A4} {G : IM} {ty : TypeId}
end masks
def mLb (t : Tm) : List Int := (A2F t).map Tm.lb
def B7a (ts : List Tm) : List Int := (A6q ts).map Tm.lb
structure Lbs (ls : List Int) (l l' : Int) : Prop where
 le : l ≤ l'
 nd : ls.Nodup
 len : (ls.length : Int) = l' - l
 mem : ∀ m ∈ ls, l < m ∧ m ≤ l'
def GE.lt : GE → Prop
 | .var _ => True
 | .num _ => True
 | .tru _ => True
 | .lam _ A e => H3 A.ty = true ∧ e.lt
 | .app f a => f.lt ∧ a.lt
 | .ar _ a b => a.lt ∧ b.lt
 | .ite c a b => c.lt ∧ a.lt ∧ b.lt
 | .pair a b => a.lt ∧ b.lt
 | .part _ e => e.lt
 | .cast _ _ _ _ => False
mutual
def A9J : Ty → Int
 | .mk k ks => if k = 1 then 1 else A9K ks
def A9K : List Ty → Int
 | [] => 0
 | t :: ts => A9J t + A9K ts
end
def tSt (t : Ty) : Bool := decide (A9J t = 0)
def B7b (e : Tm) : Bool := T7 e && (A2G e).all tSt
abbrev NoC (u : Tm) : Prop := A4R (fun _ => False) u
def B7c (e : Tm) (fuel : Int) : ByteArray × Int × Int := if (T7 e || R2 e) = true then (if (A3R (A2x e) fuel).2.1 = 0 then (A3Q (A3R (A2x e) fuel).1, 0, (A3R (A2x e) fuel).2.2) else (⟨⟨[]⟩⟩, (A3R (A2x e) fuel).2.1, (A3R (A2x e) fuel).2.2)) else (⟨⟨[]⟩⟩, 3, 0)
inductive Tg where
 | i | b | f | p
def Tg.ty : Tg → GT
 | .i => .int
 | .b => .bool
 | .f => .fn .any .any
 | .p => .pr .any .any
inductive DM where
 | a
 | r (t : Tg)
 | c (t : Tg)
def GE.dy : GE → DM → Prop
 | .var _, m => m = .a
 | .num _, m => m = .r .i ∨ m = .c .i
 | .tru _, m => m = .r .b ∨ m = .c .b
 | .lam _ A e, m => (m = .r .f ∨ m = .c .f) ∧ A = .any ∧ e.dy .a
 | .app f x, m => m = .a ∧ f.dy (.c .f) ∧ x.dy .a
 | .ar s x y, m => m = .r (if s = true then .b else .i) ∧ x.dy (.c .i) ∧ y.dy (.c .i)
 | .ite c x y, m => m = .a ∧ c.dy (.c .b) ∧ x.dy .a ∧ y.dy .a
 | .pair x y, m => (m = .r .p ∨ m = .c .p) ∧ x.dy .a ∧ y.dy .a
 | .part _ e, m => m = .a ∧ e.dy (.c .p)
 | .cast A B _ e, m => (m = .a ∧ B = .any ∧ ∃ t : Tg, A = t.ty ∧ e.dy (.r t)) ∨ ∃ t : Tg, m = .c t ∧ A = .any ∧ B = t.ty ∧ e.dy .a
def GE.evc : GE → Prop
 | .var _ => False
 | .num _ => True
 | .tru _ => True
 | .lam _ _ _ => True
 | .app f a => f.evc ∧ a.evc
 | .ar _ a b => a.evc ∧ b.evc
 | .ite c _ _ => c.evc
 | .pair a b => a.evc ∧ b.evc
 | .part _ e => e.evc
 | .cast _ _ _ e => e.evc
def GE.tg : GE → Option Tg
 | .num _ => some .i
 | .tru _ => some .b
 | .lam _ _ _ => some .f
 | .pair _ _ => some .p
 | _ => none
def Vl (e : GE) : Prop := ∃ w, Ss e w ∧ GV w
def Rs (t : Tg) (e : GE) : Prop := ∃ w, Ss e w ∧ GV w ∧ w.tg = some t
def Nv : DM → GE → Prop
 | .a, e => ¬Vl e.er
 | .r _, e => ¬Vl e.er
 | .c t, e => ¬Rs t e.er
def A9L (e : Tm) : Tm := .mk 13 ⟨#[]⟩ 0 Q1 A7 0 [e]
mutual
def A6u : Tm → Tm
 | .mk k nm num ty fr lb ks => if k = 13 then (A4X ks).headD K7 else if k = 1 ∨ k = 6 ∨ k = 9 ∨ k = 11 ∨ k = 12 then .mk k nm num A7 A7 0 (A4X ks)
  else A9L (.mk k nm num (if k = 5 then Q1 else A7) A7 0 (A4X ks))
def A4X : List Tm → List Tm
 | [] => []
 | t :: ts => A6u t :: A4X ts
end
mutual
def mCl : List ByteArray → Tm → Prop
 | b, .mk k nm _ _ _ _ ks => (k = 1 → nm ∈ b) ∧ A9M (if k = 5 then nm :: b else b) ks
def A9M : List ByteArray → List Tm → Prop
 | _, [] => True
 | b, t :: ts => mCl b t ∧ A9M b ts
end
def B7d (e : Tm) : Tm × Bool := if T7 e = true ∧ T7 (A6u e) = true then (A6u e, true) else (K7, false)
def B7e (cx : Cx) (t : Tm) : Prop := ∀ l, ∃ (g : GE) (l' : Int), R9 cx t l = some (g.tm, Q1, l') ∧ g.dy .a
def B7f (cx : Cx) (t : Tm) (s : Tg) : Prop := ∀ l, ∃ (g : GE) (l' : Int), R9 cx t l = some (g.tm, s.ty.ty, l') ∧ g.dy (.r s)
section
variable {cx : Cx} {k : Int} {nm : ByteArray} {num : Int} {ty fr : Ty} {lb : Int} {a b c u v w : Tm} {A B C : Ty} {l l1 l2 l3 : Int}
end
section
variable {cx : Cx} {a b c : Tm}
end
mutual
def A4Y (g : Int → Tm → Tm × Int) : Tm → Int → Tm × Int
 | .mk k nm num ty fr lb ks, n => g (A3b g ks n).2 (.mk k nm num ty fr lb (A3b g ks n).1)
def A3b (g : Int → Tm → Tm × Int) : List Tm → Int → List Tm × Int
 | [], n => ([], n)
 | t :: ts, n => ((A4Y g t n).1 :: (A3b g ts (A4Y g t n).2).1, (A3b g ts (A4Y g t n).2).2)
end
mutual
def B38 (Q : Int → Tm → Prop) (g : Int → Tm → Tm × Int) : Tm → Int → Prop
 | .mk k nm num ty fr lb ks, n => A9N Q g ks n ∧ Q (A3b g ks n).2 (.mk k nm num ty fr lb (A3b g ks n).1)
def A9N (Q : Int → Tm → Prop) (g : Int → Tm → Tm × Int) : List Tm → Int → Prop
 | [], _ => True
 | t :: ts, n => B38 Q g t n ∧ A9N Q g ts (A4Y g t n).2
end
def B7g (g : Int → Tm → Tm × Int) (Q : Int → Tm → Prop) (E : Int → A4) (fid : FuncId) (us cs : List Value) : Prop := ∀ (n : Int) (t : Tm) (G : IM) (cells : List Value), Q n t → B5 G t cells →
 Fn Tryz.prog fid (us ++ [.agg ⟨cells⟩] ++ cs) [E n] G (fun G' v outs => outs = [E (g n t).2] ∧ ∃ cells', v = .agg ⟨cells'⟩ ∧ B5 G' (g n t).1 cells')
def B7h (g : Tm → Tm) (Q : Tm → Prop) (fid : FuncId) (us cs : List Value) : Prop := ∀ (t : Tm) (G : IM) (cells : List Value), Q t → B5 G t cells → Fn Tryz.prog fid (us ++ [.agg ⟨cells⟩] ++ cs) [] G (TmP (g t))
inductive Sm : Nat → GE → GE → Prop
 | refl {e} : Sm 0 e e
 | step {n a b c} : GS a b → Sm n b c → Sm (n + 1) a c
inductive Bl : GE → Int → Prop
 | app1 {f a L} : Bl f L → Bl (.app f a) L
 | app2 {f a L} : GV f → Bl a L → Bl (.app f a) L
 | ar1 {s a b L} : Bl a L → Bl (.ar s a b) L
 | ar2 {s a b L} : GV a → Bl b L → Bl (.ar s a b) L
 | ite1 {c a b L} : Bl c L → Bl (.ite c a b) L
 | pair1 {a b L} : Bl a L → Bl (.pair a b) L
 | pair2 {a b L} : GV a → Bl b L → Bl (.pair a b) L
 | part1 {s e L} : Bl e L → Bl (.part s e) L
 | cast1 {A B l e L} : Bl e L → Bl (.cast A B l e) L
 | fail {G H l m w} : GV w → G.Gd → H.Gd → G ≠ H → Bl (.cast .any G l (.cast H .any m w)) l
section
variable {k : Int} {nm : ByteArray} {num : Int} {ty fr : Ty} {lb : Int} {a b : Tm} {l : Int}
end
def GT.cp : GT → Prop
 | .fn _ _ => True
 | .pr _ _ => True
 | _ => False
def A9O : List Int → GE → GE
 | [], y => y
 | k :: ks, y => .cast .any .any k (A9O ks y)
inductive HR : GC → GE → GE → GT → Prop
 | var {Γ x A} : Γ x = some (A, A) → HR Γ (.var x) (.var x) A
 | num {Γ n} : HR Γ (.num n) (.num n) .int
 | tru {Γ b} : HR Γ (.tru b) (.tru b) .bool
 | lam {Γ x A B e e'} : HR (gup Γ x A A) e e' B → HR Γ (.lam x A e) (.lam x A e') (.fn A B)
 | app {Γ f f' a a' A B} : HR Γ f f' (.fn A B) → HR Γ a a' A → HR Γ (.app f a) (.app f' a') B
 | ar {Γ s a a' b b'} : HR Γ a a' .int → HR Γ b b' .int → HR Γ (.ar s a b) (.ar s a' b') (if s = true then .bool else .int)
 | ite {Γ c c' a a' b b' A} : HR Γ c c' .bool → HR Γ a a' A → HR Γ b b' A → HR Γ (.ite c a b) (.ite c' a' b') A
 | pair {Γ a a' b b' A B} : HR Γ a a' A → HR Γ b b' B → HR Γ (.pair a b) (.pair a' b') (.pr A B)
 | part {Γ s e e' A B} : HR Γ e e' (.pr A B) → HR Γ (.part s e) (.part s e') (if s = true then B else A)
 | cast {Γ e x A B l} : HR Γ e x A → Co A B → HR Γ (.cast A B l e) (.cast A B l x) B
 | idR {Γ e x A l} : HR Γ e x A → HR Γ e (.cast A A l x) A
 | idL {Γ e x A l} : HR Γ e x A → HR Γ (.cast A A l e) x A
 | back {Γ e x B l m} (ks : List Int) : HR Γ e x B → HR Γ e (.cast .any B l (A9O ks (.cast B .any m x))) B
 | backG {Γ e x B l m} : HR Γ e x B → B.cp → HR Γ e (.cast B.gr B l (.cast B B.gr m x)) B
 | dyn {Γ e x A B l} : HR Γ e x A → Co A B → HR Γ (.cast A B l e) (.cast .any B l (.cast A .any l x)) B
 | dynG {Γ e x A B l} : HR Γ e x A → Co A B → A.cp → B.cp → HR Γ (.cast A B l e) (.cast B.gr B l (.cast A A.gr l x)) B
 | dynU {Γ e x A B l} : HR Γ e x A → Co A B → A.cp → HR Γ (.cast A B l e) (.cast .any B l (.cast A.gr .any l (.cast A A.gr l x))) B
inductive WT : GC → GE → GT → Prop
 | var {Γ x A} : Γ x = some (A, A) → WT Γ (.var x) A
 | num {Γ n} : WT Γ (.num n) .int
 | tru {Γ b} : WT Γ (.tru b) .bool
 | lam {Γ x A B e} : WT (gup Γ x A A) e B → WT Γ (.lam x A e) (.fn A B)
 | app {Γ f a A B} : WT Γ f (.fn A B) → WT Γ a A → WT Γ (.app f a) B
 | ar {Γ s a b} : WT Γ a .int → WT Γ b .int → WT Γ (.ar s a b) (if s = true then .bool else .int)
 | ite {Γ c a b A} : WT Γ c .bool → WT Γ a A → WT Γ b A → WT Γ (.ite c a b) A
 | pair {Γ a b A B} : WT Γ a A → WT Γ b B → WT Γ (.pair a b) (.pr A B)
 | part {Γ s e A B} : WT Γ e (.pr A B) → WT Γ (.part s e) (if s = true then B else A)
 | cast {Γ e A B l} : WT Γ e A → Co A B → WT Γ (.cast A B l e) B
def gbk (A B : GT) (l : Int) (a : GE) : GE := if P4 A.ty B.ty = true then a else match a with
 | .cast C D m x => if A.ty.k = 1 ∧ D.ty.k = 1 ∧ P4 B.ty C.ty = true then x else .cast A B l (.cast C D m x)
 | a => .cast A B l a
def GE.simp : GE → GE
 | .var x => .var x
 | .num n => .num n
 | .tru b => .tru b
 | .lam x A e => .lam x A e.simp
 | .app f a => .app f.simp a.simp
 | .ar s a b => .ar s a.simp b.simp
 | .ite c a b => .ite c.simp a.simp b.simp
 | .pair a b => .pair a.simp b.simp
 | .part s e => .part s e.simp
 | .cast A B l e => gbk A B l e.simp
def GE.dynm : GE → GE
 | .var x => .var x
 | .num n => .num n
 | .tru b => .tru b
 | .lam x A e => .lam x A e.dynm
 | .app f a => .app f.dynm a.dynm
 | .ar s a b => .ar s a.dynm b.dynm
 | .ite c a b => .ite c.dynm a.dynm b.dynm
 | .pair a b => .pair a.dynm b.dynm
 | .part s e => .part s e.dynm
 | .cast A B l e => if A.ty.k = 1 ∨ B.ty.k = 1 then .cast A B l e.dynm else .cast .any B l (.cast A .any l e.dynm)
def B39 (t : Tm) : Tm := if t.k ≠ 14 then t else if P4 t.fr t.ty = true then kd t.ks 0 else if t.fr.k = 1 ∧ (kd t.ks 0).k = 14 ∧ (kd t.ks 0).ty.k = 1 ∧ P4 t.ty (kd t.ks 0).fr = true then kd (kd t.ks 0).ks 0 else t
def B4a (t : Tm) : Tm := if t.k ≠ 14 ∨ t.fr.k = 1 ∨ t.ty.k = 1 then t else R5 (R5 (kd t.ks 0) t.fr Q1 t.lb) Q1 t.ty t.lb
section
variable {cx : Cx} {k : Int} {nm : ByteArray} {num : Int} {ty fr : Ty} {lb : Int} {a b c a' b' c' : Tm} {T : Ty}
end
section
variable {D N : Int} {k : Int} {nm : ByteArray} {num : Int} {ty fr : Ty} {lb : Int} {a b c a' b' c' : Tm} {d d' : Int}
end
def Agr (a b : Tm) (n m : Int) : Prop := (A0n a n).2.1 = 4 ∨ (A0n a n).2.1 = 5 ∨ (A0n b m).2.1 = 4 ∨ (A0n b m).2.1 = 5 ∨
 ((A0n a n).2.1 = 0 ∧ (A0n b m).2.1 = 0 ∧ A3Q (A0n a n).1 = A3Q (A0n b m).1) ∨
 ((A0n a n).2.1 = 2 ∧ (A0n b m).2.1 = 2 ∧ (A0n a n).2.2 = (A0n b m).2.2)
def B7i (e : Tm) : Tm × Bool := if R2 e = true then (A5Z B39 e, true) else (K7, false)
mutual
def lz : Tm → Tm
 | .mk k nm num ty fr lb ks => .mk k nm num ty fr (if k = 14 then 0 else lb) (lzL ks)
def lzL : List Tm → List Tm
 | [] => []
 | t :: ts => lz t :: lzL ts
end
def SL (r s : Stp) : Prop := r.2.1 = s.2.1 ∧ lz r.1 = lz s.1
abbrev LbV (t : Tm) : Prop := A4R (fun l => Z0 l = true) t
mutual
def mRl : Tm → Int → Tm × Int
 | .mk k nm num ty fr lb ks, n => (.mk k nm num ty fr (if k = 14 then (A3c ks n).2 + 1 else lb) (A3c ks n).1, if k = 14 then (A3c ks n).2 + 1 else (A3c ks n).2)
def A3c : List Tm → Int → List Tm × Int
 | [], n => ([], n)
 | t :: ts, n => ((mRl t n).1 :: (A3c ts (mRl t n).2).1, (A3c ts (mRl t n).2).2)
end
theorem mB8 : mB 8 = 1968200 := by decide
theorem A9P (br : Nat) (pb : Option Addr) (nb cb : Nat) (bs : List UInt8) (hnb : nb ≤ 2000) (p : Nat) (G : IM) (hb : Sl G pb nb cb 1 (N2 bs)) (hp : p + 9000000 < 1099511627776) :
  Fn Tryz.prog 58 [.pointer (some ⟨br, 0, none⟩)] [rd br pb nb cb p] G
   (X4 br pb nb cb p 9000000 (fun G' v => ∃ e cells, v = .agg ⟨cells⟩ ∧ B5 G' e cells ∧ C3 e ≤ 2000000)) := by
 have hm8 := mB8
 refine B8 Tryz.func58 rfl Tryz.ntmps58 Tryz.results58 rfl ?_
 intro w0
 refine tS (tR ?_)
 refine sE (A8 rfl) rfl (fun b3 => ?_)
 refine sD (nS (tS (tS (tR (sQ (qA rfl) rfl (sD (nS ?_)))))))
 refine C6 ?_
 (refine N4 (fun (x : Nat × Nat × IM) => ⟨[(3, .int .i64 x.1), (0, .pointer (some ⟨br, 0, none⟩)), (2, .pointer (some ⟨b3, 0, none⟩))], [rd br pb nb cb x.2.1, .blk b3 [.int .i64 0, .string ⟨⟨[]⟩⟩, .int .i64 0, .int .i64 0, .slice none 0 0, .int .i64 0, .slice none 0 0, .int .i64 0, .slice none 0 0]], x.2.2⟩) (fun x => x.1 ≤ 4 ∧ B2 G x.2.2 ∧ p ≤ x.2.1 ∧ x.2.1 ≤ p + x.1 * 2000000) (fun x => 4 - x.1) (0, p, G) ?_ ?_ ?_)
 (simp only [J9]; exact E0)
 (exact ⟨by omega, B2.refl _, Nat.le_refl _, by dsimp only; omega⟩)
 (rintro ⟨(i : Nat), (p1 : Nat), G1⟩ ⟨hi, hleL, hpL, hpL2⟩; simp only [] at hi hleL hpL hpL2 ⊢; replace hb := hb.mono hleL)
 refine tS (tS (tR (sQ (qM rfl) rfl ?_)))
 refine sB (L9 rfl rfl) rfl rfl (fun h21 => ?_) (fun h21 => ?_)
 refine sD (nS (qT rfl (tK (nS (tS ?_)))))
 refine C6 ?_
 refine S6 ?_
 (refine D7 (D1 rfl rfl rfl (by omega) (by unfold maxLen; omega) rfl) rfl ?_; rintro _ ⟨b34, rfl⟩)
 (refine P2 (by repeat (first | exact Pk.here | apply Pk.there)) (fun Gf hlef hslf _ => ?_); refine C0 rfl (Z3 Gf br pb nb cb (p1) bs _ _ _ _ (hb.mono hlef) hnb (by omega) hslf (by decide)) (Pk.perm (by repeat (first | exact Pk.here | apply Pk.there))) rfl rfl (fun v Gm outs hlen hh => ?_); obtain ⟨rfl, rfl, hv⟩ := hh; replace hb := hb.mono hlef; obtain ⟨dd, rfl, hdd⟩ : ∃ d : Nat, v = .int .i64 ((d + 1 : Nat) : Int) ∧ d ≤ 2 := (by simp only [List.mem_cons, List.not_mem_nil, or_false] at hv; rcases hv with rfl | rfl | rfl | rfl <;> first | exact ⟨0, rfl, by decide⟩ | exact ⟨1, rfl, by decide⟩ | exact ⟨2, rfl, by decide⟩); have hdB := A55 hdd; replace hleL := hleL.trans hlef)
 (have hcall := A3I br pb nb cb bs hnb dd (p1 + 1) _ (by omega) hb (by omega); refine C0 rfl hcall (Pk.perm (by repeat (first | exact Pk.here | apply Pk.there))) rfl rfl (fun v Gn outs hleD hh => ?_); obtain ⟨pD, hpD1, hpD2, rfl, uD, cD, rfl, hrD, hsD, haD⟩ := hh; obtain ⟨qD, dD, eD, rfl, _⟩ := hrD.open; replace hb := hb.mono hleD; replace hleL := hleL.trans hleD)
 refine sQ (qM rfl) rfl ?_
 (refine D7 (D1 rfl rfl rfl (by omega) (by unfold maxLen; omega) rfl) rfl ?_; rintro _ ⟨b38, rfl⟩)
 (refine P2 (by repeat (first | exact Pk.here | apply Pk.there)) (fun Gf hlef hslf _ => ?_); refine C0 rfl (Z3 Gf br pb nb cb (pD) bs _ _ _ _ (hb.mono hlef) hnb (by omega) hslf (by decide)) (Pk.perm (by repeat (first | exact Pk.here | apply Pk.there))) rfl rfl (fun v Gm outs hlen hh => ?_); obtain ⟨rfl, rfl, hv⟩ := hh; replace hb := hb.mono hlef; replace hleL := hleL.trans hlef; replace hrD := hrD.mono hlef; obtain ⟨dp, rfl, hdp1, hdp2⟩ : ∃ d : Int, v = .int .i64 d ∧ 3 ≤ d ∧ d ≤ 5 := (by simp only [List.mem_cons, List.not_mem_nil, or_false] at hv; rcases hv with rfl | rfl | rfl | rfl <;> exact ⟨_, rfl, by decide, by decide⟩))
 (have hcall := B3x br pb nb cb bs hnb 8 dp uD (pD + 1) _ none 0 0 _ ⟨haD.le (by omega), by omega, by omega, .inr ⟨by omega, by omega⟩⟩ (by omega) (by omega) (by omega) (T8.nil _) hrD hb (by omega); refine C0 rfl hcall (Pk.perm (by repeat (first | exact Pk.here | apply Pk.there))) rfl rfl (fun v Gn outs hleM hh => ?_); obtain ⟨pM, hpM1, hpM2, rfl, eM, cM, rfl, hrM, hsmM, hcM⟩ := hh; have hlM := hrM.len; have hoM := hrM.one; replace hb := hb.mono hleM; replace hleL := hleL.trans hleM)
 refine sE (A8 rfl) rfl (fun b41 => ?_)
 refine M0 rfl rfl rfl hlM hoM rfl (by repeat first | exact Sw.here | apply Sw.there) (by exact I4 (by first | exact hlM.symm | omega)) ?_
 refine sD (nS (tS (tR ?_)))
 refine sL (A6 rfl rfl (C8 (by repeat first | exact mH | apply mT)) hlM) rfl rfl ?_
 (refine D9 rfl (A8E eM _ _ (by omega) hrM) rfl rfl (fun v G9 hle9 hh => ?_); obtain ⟨mt, mc, mx, rfl, hmr, hma, hms, hmv⟩ := hh; obtain ⟨pt, ct, et, rfl, _⟩ := hmr.open; replace hb := hb.mono hle9; replace hleL := hleL.trans hle9; replace hrM := hrM.mono hle9; cases mx)
 refine H0 ?_
 refine sE (A8 rfl) rfl (fun b52 => ?_)
 refine M3 ?_
 refine sP (N0 rfl rfl (by omega) (by omega)) rfl rfl ?_
 refine sQ (qA rfl) rfl (sD ?_)
 refine K5 (i + 1, pM, G9) ?_ ?_ ?_
 (simp only [J9]; exact E0)
 (dsimp only; exact ⟨by omega, hleL, by omega, by omega⟩)
 (show 4 - (i + 1) < 4 - i; omega)
 refine H0 ?_
 refine sE (A8 rfl) rfl (fun b78 => ?_)
 refine Q4 ?_
 refine sL (A6 rfl rfl (C8 (by repeat first | exact mH | apply mT)) hlM) rfl rfl ?_
 refine M0 rfl rfl rfl hlM hoM rfl (by repeat first | exact Sw.here | apply Sw.there) (by exact I4 (by first | exact hlM.symm | omega)) ?_
 refine sD (nS (tT (rB (rS (A7a (rB (rS ?_)))))))
 refine C4 (outs := [rd br pb nb cb pM]) (rC rfl (A6 rfl rfl (C8 (by repeat first | exact mH | apply mT)) hlM)) (by repeat (first | exact A0.nil | refine A0.cons Pk.here ?_ | refine A0.cons (Pk.there Pk.here) ?_ | refine A0.cons (Pk.there (Pk.there Pk.here)) ?_ | apply A0.drop)) ?_
 (exact ⟨pM, by omega, by omega, rfl, eM, _, rfl, hrM, by omega⟩)
 refine I6 ?_
 (have hcall := B2I br pb nb cb bs hnb p1 _ hb (by omega); refine C0 rfl hcall (Pk.perm (by repeat (first | exact Pk.here | apply Pk.there))) rfl rfl (fun v Gn outs hleC hh => ?_); obtain ⟨pC, hpC1, hpC2, rfl, eC, cC, rfl, hrC, hcC⟩ := hh; have hlC := hrC.len; have hoC := hrC.one; have hcnt := A5U eC)
 refine M0 rfl rfl rfl hlC hoC rfl (by repeat first | exact Sw.here | apply Sw.there) (by exact I4 (by first | exact hlC.symm | omega)) ?_
 refine sD (nS (tT ?_))
 refine C4 (outs := [rd br pb nb cb pC]) (rC rfl (A6 rfl rfl (C8 (by repeat first | exact mH | apply mT)) hlC)) (by repeat (first | exact A0.nil | refine A0.cons Pk.here ?_ | refine A0.cons (Pk.there Pk.here) ?_ | refine A0.cons (Pk.there (Pk.there Pk.here)) ?_ | apply A0.drop)) ?_
 (exact ⟨pC, by omega, by omega, rfl, eC, _, rfl, hrC, by omega⟩)
def B4b (G : IM) : IM → Value → List A4 → Prop := L7 fun G' v => ∃ u cu t ct b, v = .tuple ⟨[.agg ⟨cu⟩, .agg ⟨ct⟩, .bool b]⟩ ∧ B5 G' u cu ∧ u.small ∧ C3 u ≤ 60 ∧ B3 G' t ct ∧ E4 t ∧ F4 t ≤ 960
theorem B4c (G : IM) : B5 G K7 [.int .i64 0, .string ⟨⟨[]⟩⟩, .int .i64 0, .int .i64 0, .slice none 0 0, .int .i64 0, .slice none 0 0, .int .i64 0, .slice none 0 0] := (P0.zero G).R
theorem B4d : K7.small := by simp [K7, Tm.small, Ty.small, Ty.smallL, Tm.smallL, ByteArray.size]
theorem B4e : C3 K7 = 1 := by simp [K7, C3, C9]
theorem B4f (e : Tm) (G : IM) (cells : List Value) (hcnt : C3 e ≤ 4294967296) (hr : B5 G e cells) :
  Fn Tryz.prog 143 [.agg ⟨cells⟩] [] G (B4b G) := by
 have hl := hr.len
 have hone := hr.one
 refine B8 Tryz.func143 rfl Tryz.ntmps143 Tryz.results143 rfl ?_
 intro w0
 refine tS (tR ?_)
 refine sE (E7 rfl rfl) rfl (fun b3 => ?_)
 refine sE (A8 rfl) rfl (fun b4 => ?_)
 refine sE (A8 rfl) rfl (fun b5 => ?_)
 refine sQ (qA rfl) rfl (sD (nS (tS (tR ?_))))
 refine sL (A6 rfl rfl (C8 (by repeat first | exact mH | apply mT)) (by assumption)) rfl rfl ?_
 (refine D9 rfl (A8E e _ _ (by omega) hr) rfl rfl (fun v G1 hle1 hh => ?_); obtain ⟨mt, mc, mx, rfl, hmr, hma, hms, hmv⟩ := hh; obtain ⟨pt, ct, et, rfl, _⟩ := hmr.open; cases mx)
 refine H0 ?_
 refine sE (A8 rfl) rfl (fun b16 => ?_)
 refine A0I ?_
 refine rF3 (rC rfl (A2 rfl rfl)) (rC rfl (A2 rfl rfl)) (rT rfl) ?_
 (exact ⟨rfl, K7, _, .mk 0 [], _, _, rfl, B4c _, B4d, by rw [B4e]; omega, J6 _ ⟨by omega, by omega⟩, M8 (by omega) (by omega), by rw [Z5]; omega⟩)
 refine H0 ?_
 refine sE (A8 rfl) rfl (fun b45 => ?_)
 refine N6 ?_
 refine sL (A6 rfl rfl (C8 (by repeat first | exact mH | apply mT)) (by assumption)) rfl rfl ?_
 (have hv := (A1X e).1 (hmv rfl); have hv2 := hv.2; have hI := B2Z e 1 G1 none 0 0 1 cells hv.1 (by omega) (T8.nil _) (hr.mono hle1) (by omega) (by omega); refine D9 rfl hI rfl rfl (fun v G2 hle2 hh => ?_); obtain ⟨u, cu, t, tc, l3, rfl, hru, hu1, hu2, hrt, ht1, ht2, _⟩ := hh; obtain ⟨qt, dt, et2, rfl, _⟩ := hrt.open; have hlu := hru.len; have hou := hru.one)
 refine H9 ?_
 refine sE (A8 rfl) rfl (fun b68 => ?_)
 refine sE (A8 rfl) rfl (fun b69 => ?_)
 refine M0 rfl rfl rfl hlu hou rfl (by repeat first | exact Sw.here | apply Sw.there) (by exact I4 (by first | exact hlu.symm | omega)) ?_
 refine H2 ?_
 refine sQ (qA rfl) rfl (sD (nS (tS ?_)))
 refine D3 D4 rfl ?_
 refine S3 (i := 0) (l' := [tt,ff,ff,ff,ff]) rfl C5 (A6 rfl rfl (C8 (by repeat first | exact mH | apply mT)) hlu) rfl (by kernel_rfl) rfl rfl ?_
 refine aL 1 rfl (A2 rfl rfl) rfl ?_
 refine A1 2 ?_
 refine A05 rfl rfl rfl rfl hlu hou rfl rfl (by repeat first | exact Sw.here | apply Sw.there) (by exact I4 hlu.symm) (by repeat (first | exact A5.nil | apply A5.dep (by decide +kernel) | apply A5.blk (by decide +kernel) (by repeat (first | exact Pk.here | apply Pk.there)) (by repeat first | exact mH | apply mT))) ?_
 refine A1 3 ?_
 refine A05 rfl rfl rfl rfl rfl rfl rfl rfl (by repeat first | exact Sw.here | apply Sw.there) (by rfl) (by repeat (first | exact A5.nil | apply A5.dep (by decide +kernel) | apply A5.blk (by decide +kernel) (by repeat (first | exact Pk.here | apply Pk.there)) (by repeat first | exact mH | apply mT))) ?_
 refine aP 4 rfl (qA rfl) rfl ?_
 refine D8 (nS (tT ?_))
 refine rF3 (rC rfl (A6 rfl rfl (C8 (by repeat first | exact mH | apply mT)) hlu)) (rC rfl (A2 rfl rfl)) (rT rfl) ?_
 (exact ⟨rfl, u, _, t, _, _, rfl, hru, hu1, by omega, hrt, ht1, by omega⟩)
theorem B4g (br : Nat) (pb : Option Addr) (nb cb : Nat) (bs : List UInt8) (hnb : nb ≤ 2000) (p : Nat) (G : IM) (hb : Sl G pb nb cb 1 (N2 bs)) (hp : p + 200 < 1099511627776) (t : Tm) (cells : List Value) (N : Nat) (hfit : t.fit N) (hr : B5 G t cells) :
  Fn Tryz.prog 141 [.pointer (some ⟨br, 0, none⟩), .agg ⟨cells⟩] [rd br pb nb cb p] G
   (X4 br pb nb cb p 100 (fun G' v => ∃ t cells, v = .agg ⟨cells⟩ ∧ B5 G' t cells ∧ t.fit N)) := by
 have hl := hr.len
 have hone := hr.one
 refine B8 Tryz.func141 rfl Tryz.ntmps141 Tryz.results141 rfl ?_
 intro w0
 refine tS (tR ?_)
 refine sE (E7 rfl rfl) rfl (fun b3 => ?_)
 refine sE (A8 rfl) rfl (fun b4 => ?_)
 refine sD (nS (tS (tR (sQ (qM rfl) rfl ?_))))
 refine sL (A6 rfl rfl (C8 (by repeat first | exact mH | apply mT)) (by assumption)) rfl rfl ?_
 (have hcall := B2Q br pb nb cb bs hnb p _ hb (by omega) t cells N hfit hr; refine C0 rfl hcall (Pk.perm (by repeat (first | exact Pk.here | apply Pk.there))) rfl rfl (fun v Gn outs hle1 hh => ?_); obtain ⟨p1, hp11, hp12, rfl, t1, c1, rfl, hr1, hf1, hc1⟩ := hh; obtain ⟨k, nm, num, ⟨tk, tks⟩, ⟨fk, fks⟩, lb, ks⟩ := t1; obtain ⟨q1, d1, q2, d2, q3, d3, es, rfl, hk, hnum, hlb, hty, hfr, hsl, hkl⟩ := hr1.open9; have hsm := hf1; simp only [Tm.small] at hsm; obtain ⟨hs1, hs2, hs3, _⟩ := hsm; replace hb := hb.mono hle1)
 refine sE (A8 rfl) rfl (fun b12 => ?_)
 refine H2 ?_
 refine sD (nS (tS (tS (tR (sQ (qM rfl) rfl ?_)))))
 (refine C0 rfl (S0 _ br pb nb cb (p1) bs 40 hb hnb (by omega)) (Pk.perm (by repeat (first | exact Pk.here | apply Pk.there))) rfl rfl (fun v Gp outs hle20 hh => ?_); obtain ⟨rfl, rfl, j20, rfl, hj20, hk20⟩ := hh; skip)
 replace hr1 := hr1.mono hle20
 replace hty := hty.mono hle20
 replace hfr := hfr.mono hle20
 replace hsl := hsl.mono hle20
 replace hkl := hkl.mono hle20
 replace hb := hb.mono hle20
 refine sD (nS ?_)
 refine C6 (tS (tR (sB (qE rfl rfl) rfl rfl (fun h26 => ?_) (fun h26 => ?_))))
 refine sQ (qA rfl) rfl (sD (nS (qT rfl (tR (sQ (qM rfl) rfl ?_)))))
 (refine D7 (D1 rfl rfl rfl (by omega) (by unfold maxLen; omega) rfl) rfl ?_; rintro _ ⟨b33, rfl⟩)
 (refine P2 (by repeat (first | exact Pk.here | apply Pk.there)) (fun Gf hlef hslf _ => ?_); refine C0 rfl (Z3 Gf br pb nb cb (p1 + 1) bs _ _ _ _ (hb.mono hlef) hnb (by omega) hslf (by decide)) (Pk.perm (by repeat (first | exact Pk.here | apply Pk.there))) rfl rfl (fun v Gm outs hlen hh => ?_); obtain ⟨rfl, rfl, hv⟩ := hh; replace hb := hb.mono hlef; obtain ⟨kn, rfl, hkn⟩ : ∃ k, v = .int .i64 k ∧ H4 k := (by simp only [List.mem_cons, List.not_mem_nil, or_false] at hv; rcases hv with rfl | rfl | rfl | rfl <;> exact ⟨_, rfl, by unfold H4; omega⟩); have hrN := B5.of9 (nm := nm) hk hnum hkn (hty.mono hlef) (hfr.mono hlef) (hsl.mono hlef) (hkl.mono hlef))
 refine Q4 ?_
 refine C4 (outs := [rd br pb nb cb (p1 + 1 + 1)]) (rC rfl (A2 rfl rfl)) (by repeat (first | exact A0.nil | refine A0.cons Pk.here ?_ | refine A0.cons (Pk.there Pk.here) ?_ | refine A0.cons (Pk.there (Pk.there Pk.here)) ?_ | apply A0.drop)) ?_
 (exact ⟨p1 + 1 + 1, by omega, by omega, rfl, _, _, rfl, hrN, A1J hf1 hs1 hs2 hs3, hc1⟩)
 refine sQ (qA rfl) rfl (sD (nS (cF rfl (tS (tR ?_)))))
 refine sB (qE rfl rfl) rfl rfl (fun h55 => ?_) (fun h55 => ?_)
 refine B7 ?_
 (have hcall := A8n br pb nb cb bs hnb (p1 + 1) _ hb (by omega); refine C0 rfl hcall (Pk.perm (by repeat (first | exact Pk.here | apply Pk.there))) rfl rfl (fun v Gn outs hle3 hh => ?_); obtain ⟨p3, hp31, hp32, rfl, t3, cells3, rfl, hr3, hs4⟩ := hh; replace hb := hb.mono hle3)
 (have hcall := A8o br pb nb cb bs hnb p3 _ hb (by omega) t3 cells3 hr3 hs4; refine C0 rfl hcall (Pk.perm (by repeat (first | exact Pk.here | apply Pk.there))) rfl rfl (fun v Gn outs hle4 hh => ?_); obtain ⟨p4, hp41, hp42, rfl, t4, cells4, rfl, hr4, hs5⟩ := hh; have hts4 := A2X t4 (by omega); obtain ⟨t4k, t4s⟩ := t4; obtain ⟨q4, c4, es4, rfl, _⟩ := hr4.open; have hle24 := hle3.trans hle4; have hrM := B5.of9 (nm := nm) hk hnum hlb (hty.mono hle24) hr4 (hsl.mono hle24) (hkl.mono hle24))
 refine Q4 ?_
 refine C4 (outs := [rd br pb nb cb p4]) (rC rfl (A2 rfl rfl)) (by repeat (first | exact A0.nil | refine A0.cons Pk.here ?_ | refine A0.cons (Pk.there Pk.here) ?_ | refine A0.cons (Pk.there (Pk.there Pk.here)) ?_ | apply A0.drop)) ?_
 (exact ⟨p4, by omega, by omega, rfl, _, _, rfl, hrM, A1J hf1 hs1 hs2 hts4, hc1⟩)
 refine O8 ?_
 refine C4 (outs := [rd br pb nb cb (p1 + 1)]) (rC rfl (A2 rfl rfl)) (by repeat (first | exact A0.nil | refine A0.cons Pk.here ?_ | refine A0.cons (Pk.there Pk.here) ?_ | refine A0.cons (Pk.there (Pk.there Pk.here)) ?_ | apply A0.drop)) ?_
 (exact ⟨p1 + 1, by omega, by omega, rfl, _, _, rfl, hr1, hf1, hc1⟩)
theorem B4h (br : Nat) (pb : Option Addr) (nb cb : Nat) (bs : List UInt8) (hnb : nb ≤ 2000) (p : Nat) (G : IM) (hb : Sl G pb nb cb 1 (N2 bs)) (hp : p + 9100000 < 1099511627776) :
  Fn Tryz.prog 83 [.pointer (some ⟨br, 0, none⟩)] [rd br pb nb cb p] G
   (X4 br pb nb cb p 9100000 (fun G' v => ∃ e cells, v = .agg ⟨cells⟩ ∧ B5 G' e cells ∧ e.fit 100)) := by
 refine B8 Tryz.func83 rfl Tryz.ntmps83 Tryz.results83 rfl ?_
 intro w0
 refine tS (tR ?_)
 refine sE (A8 rfl) rfl (fun b3 => ?_)
 refine sD (nS (tS (tR (sQ (qM rfl) rfl ?_))))
 (have hcall := A9P br pb nb cb bs hnb p _ hb (by omega); refine C0 rfl hcall (Pk.perm (by repeat (first | exact Pk.here | apply Pk.there))) rfl rfl (fun v Gn outs hleT hh => ?_); obtain ⟨pT, hpT1, hpT2, rfl, eT, cT, rfl, hrT, hcT⟩ := hh; replace hb := hb.mono hleT)
 (refine D9 rfl (B4f eT _ _ (by omega) hrT) rfl rfl (fun v G9 hle9 hh => ?_); obtain ⟨u0, cu0, t0, ct0, ok0, rfl, hru0, hsu0, hcu0, hrt0, hat0, hst0⟩ := hh; have hl0 := hru0.len; have ho0 := hru0.one; have hl1 := hrt0.len; have ho1 := hrt0.one; replace hb := hb.mono hle9; cases ok0)
 refine H9 ?_
 refine sE (A8 rfl) rfl (fun b15 => ?_)
 refine sE (A8 rfl) rfl (fun b16 => ?_)
 refine M0 rfl rfl rfl hl0 ho0 rfl (by repeat first | exact Sw.here | apply Sw.there) (by exact I4 (by first | exact hl0.symm | omega)) ?_
 refine M0 rfl rfl rfl hl1 ho1 rfl (by repeat first | exact Sw.here | apply Sw.there) (by exact I4 (by first | exact hl1.symm | omega)) ?_
 refine I5 ?_
 refine H7 rfl ((A10 _ _)) rfl rfl ?_
 refine H2 ?_
 refine sD (nS (tT (rS ?_)))
 refine C4 (outs := [rd br pb nb cb pT]) (rC rfl (A2 rfl rfl)) (by repeat (first | exact A0.nil | refine A0.cons Pk.here ?_ | refine A0.cons (Pk.there Pk.here) ?_ | refine A0.cons (Pk.there (Pk.there Pk.here)) ?_ | apply A0.drop)) ?_
 (exact ⟨pT, by omega, by omega, rfl, _, _, rfl, A1b ⟨by omega, by omega⟩ ⟨by omega, by omega⟩, A8a _ (by rw [A1I]; decide), by simp only [C3, C9]; omega⟩)
 refine H9 ?_
 refine sE (A8 rfl) rfl (fun b44 => ?_)
 refine sE (A8 rfl) rfl (fun b45 => ?_)
 refine M0 rfl rfl rfl hl0 ho0 rfl (by repeat first | exact Sw.here | apply Sw.there) (by exact I4 (by first | exact hl0.symm | omega)) ?_
 refine M0 rfl rfl rfl hl1 ho1 rfl (by repeat first | exact Sw.here | apply Sw.there) (by exact I4 (by first | exact hl1.symm | omega)) ?_
 refine T5 ?_
 (refine C0 rfl (S0 _ br pb nb cb (pT) bs 3 hb hnb (by omega)) (Pk.perm (by repeat (first | exact Pk.here | apply Pk.there))) rfl rfl (fun v Gp outs hle65 hh => ?_); obtain ⟨rfl, rfl, j65, rfl, hj65, hk65⟩ := hh; obtain ⟨i0, rfl⟩ := Int.eq_ofNat_of_zero_le hj65; have hi0 := hk65)
 replace hru0 := hru0.mono hle65
 replace hrt0 := hrt0.mono hle65
 replace hb := hb.mono hle65
 refine sQ (qA rfl) rfl (sD (nS ?_))
 refine C6 ?_
 (refine N4 (fun (x : Nat × List Value × List Value × Nat × IM) => ⟨[(6, .int .i64 x.1), (0, .pointer (some ⟨br, 0, none⟩)), (2, .pointer (some ⟨b3, 0, none⟩)), (3, .pointer (some ⟨b44, 0, none⟩)), (4, .pointer (some ⟨b45, 0, none⟩))], [.blk b44 x.2.1, .blk b45 x.2.2.1, rd br pb nb cb x.2.2.2.1, .blk b3 [.int .i64 0, .string ⟨⟨[]⟩⟩, .int .i64 0, .int .i64 0, .slice none 0 0, .int .i64 0, .slice none 0 0, .int .i64 0, .slice none 0 0]], x.2.2.2.2⟩) (fun x => x.1 ≤ 2 ∧ B2 Gp x.2.2.2.2 ∧ (∃ e, B5 x.2.2.2.2 e x.2.1 ∧ e.small ∧ C3 e + x.1 ≤ 62) ∧ (∃ t, B3 x.2.2.2.2 t x.2.2.1 ∧ E4 t ∧ F4 t ≤ 960) ∧ pT + 1 ≤ x.2.2.2.1 ∧ x.2.2.2.1 + x.1 * 2000 ≤ pT + 1 + 4000) (fun x => x.1) (i0, cu0, ct0, pT + 1, Gp) ?_ ?_ ?_)
 (simp only [J9]; exact E0)
 (exact ⟨by dsimp only; omega, B2.refl _, ⟨u0, hru0, hsu0, by dsimp only; omega⟩, ⟨t0, hrt0, hat0, hst0⟩, Nat.le_refl _, by dsimp only; omega⟩)
 (rintro ⟨(i : Nat), ce, ct, (p1 : Nat), G1⟩ ⟨hi, hleL, ⟨e, hre, hse, hce⟩, ⟨t, hrt, hat, hst⟩, hpL, hpL2⟩; simp only [] at hi hleL hre hse hce hrt hat hst hpL hpL2 ⊢; replace hb := hb.mono hleL; have hl2 := hre.len; have ho2 := hre.one; have hl3 := hrt.len; have ho3 := hrt.one; have hnt := A0a t)
 refine tS (tS (tR (sQ (qM rfl) rfl ?_)))
 refine sB (Y2 rfl rfl) rfl rfl (fun h78 => ?_) (fun h78 => ?_)
 refine sD (nS (qT rfl (tK (nS (tS ?_)))))
 (show I9 _ _ (.block 1 ..) _ _; obtain ⟨j, rfl⟩ : ∃ j, i = j + 1 := ⟨i - 1, by omega⟩; refine C6 ?_)
 refine tS (tR (sQ (qM rfl) rfl ?_))
 refine sL (A6 rfl rfl (C8 (by repeat first | exact mH | apply mT)) hl3) rfl rfl ?_
 (have hcall := A4G br pb nb cb bs hnb t p1 _ _ hat hrt hb (by omega); refine C0 rfl hcall (Pk.perm (by repeat (first | exact Pk.here | apply Pk.there))) rfl rfl (fun v Gn outs hleu hh => ?_); obtain ⟨p2, hp21, hp22, rfl, u, cu, rfl, hru, hua, hus, huh⟩ := hh; have hl4 := hru.len; have ho4 := hru.one; replace hb := hb.mono hleu; replace hrt := hrt.mono hleu; replace hre := hre.mono hleu; replace hleL := hleL.trans hleu)
 refine sE (A8 rfl) rfl (fun b91 => ?_)
 refine M0 rfl rfl rfl hl4 ho4 rfl (by repeat first | exact Sw.here | apply Sw.there) (by exact I4 (by first | exact hl4.symm | omega)) ?_
 refine sD (nS (tS (tS (tR (sQ (qM rfl) rfl ?_)))))
 (refine C0 rfl (S0 _ br pb nb cb (p2) bs 2 hb hnb (by omega)) (Pk.perm (by repeat (first | exact Pk.here | apply Pk.there))) rfl rfl (fun v Gp outs hle99 hh => ?_); obtain ⟨rfl, rfl, j99, rfl, hj99, hk99⟩ := hh; have hpickA := hj99)
 replace hru := hru.mono hle99
 replace hb := hb.mono hle99
 replace hrt := hrt.mono hle99
 replace hre := hre.mono hle99
 refine sB (qE rfl rfl) rfl rfl (fun h100 => ?_) (fun h100 => ?_)
 refine sD (nS (qT rfl (tR (sQ (qM rfl) rfl ?_))))
 (have hcall := A8m br pb nb cb bs hnb (p2 + 1) _ hb (by omega); refine C0 rfl hcall (Pk.perm (by repeat (first | exact Pk.here | apply Pk.there))) rfl rfl (fun v Gn outs hlew hh => ?_); obtain ⟨p3, hp31, hp32, rfl, w, cw, rfl, hrw, hws, hwh⟩ := hh; have hl5 := hrw.len; have ho5 := hrw.one; have hwa := hwh.ar; replace hb := hb.mono hlew; replace hrt := hrt.mono hlew; replace hre := hre.mono hlew; replace hleL := hleL.trans hlew)
 refine M0 rfl rfl rfl hl5 ho5 rfl (by repeat first | exact Sw.here | apply Sw.there) (by exact I4 (by first | exact hl5.symm | omega)) ?_
 refine sD (nS (tS (tR ?_)))
 refine sL (A6 rfl rfl (C8 (by repeat first | exact mH | apply mT)) hl3) rfl rfl ?_
 refine sL (A6 rfl rfl (C8 (by repeat first | exact mH | apply mT)) hl5) rfl rfl ?_
 refine J4 rfl ((W5 t w _ _ _ hat hwa hrt hrw)) rfl rfl (fun h114 => ?_) (fun h114 => ?_)
 refine sD (nS (qT rfl (tS (tR (sQ (qM rfl) rfl ?_)))))
 refine sP (N0 rfl rfl (by omega) (by omega)) rfl rfl ?_
 refine B7 ?_
 (refine C0 rfl (S0 _ br pb nb cb (p3) bs 3 hb hnb (by omega)) (Pk.perm (by repeat (first | exact Pk.here | apply Pk.there))) rfl rfl (fun v Gp outs hle129 hh => ?_); obtain ⟨rfl, rfl, j129, rfl, hj129, hk129⟩ := hh; have hpickB := hwa)
 replace hrw := hrw.mono hle129
 replace hb := hb.mono hle129
 replace hrt := hrt.mono hle129
 replace hre := hre.mono hle129
 refine sB (qE rfl rfl) rfl rfl (fun h130 => ?_) (fun h130 => ?_)
 refine sD (nS (qT rfl (tR (sQ (qM rfl) rfl ?_))))
 refine sP (A2O rfl (by omega) (by omega)) rfl rfl ?_
 refine sQ (qA rfl) rfl (sD (nS (tS (tR ?_))))
 refine sL (A6 rfl rfl (C8 (by repeat first | exact mH | apply mT)) hl2) rfl rfl ?_
 refine sL (A6 rfl rfl (C8 (by repeat first | exact mH | apply mT)) hl3) rfl rfl ?_
 refine sL (A6 rfl rfl (C8 (by repeat first | exact mH | apply mT)) hl5) rfl rfl ?_
 refine sQ (qM rfl) rfl ?_
 (refine D9 rfl (A3L e t w _ _ _ _ _ (by omega) hre hrt hrw hat hwa) rfl rfl (fun v G8 hle8 hh => ?_); obtain ⟨y, cy, ly, rfl, hry, hsy, hcy, _⟩ := hh; have hl6 := hry.len; have ho6 := hry.one; replace hb := hb.mono hle8; have hrN := hrw.mono hle8; replace hleL := hleL.trans hle8; have hNa := hwa; have hNs : F4 w ≤ 960 := (by omega))
 refine H0 ?_
 refine M0 rfl rfl rfl hl6 ho6 rfl (by repeat first | exact Sw.here | apply Sw.there) (by exact I4 (by first | exact hl6.symm | omega)) ?_
 refine sD (nS (tR ?_))
 refine sL (A6 rfl rfl (C8 (by repeat first | exact mH | apply mT)) hl5) rfl rfl ?_
 refine M0 rfl rfl rfl hl5 ho5 rfl (by repeat first | exact Sw.here | apply Sw.there) (by exact I4 (by first | exact hl5.symm | omega)) ?_
 refine sD (O3 (nS (tR (sQ (qM rfl) rfl ?_))))
 refine sP (T4 rfl rfl (by omega)) rfl rfl ?_
 refine sQ (qA rfl) rfl (sD ?_)
 refine K5 (j, cy, cw, p3 + 1, G8) ?_ ?_ ?_
 (simp only [J9]; exact E0)
 (dsimp only; exact ⟨by omega, hleL, ⟨y, hry, hsy hse, by omega⟩, ⟨_, hrN, hNa, hNs⟩, by omega, by omega⟩)
 (show _ < _ + 1; omega)
 refine sD (nS (cF rfl (tK (nS (tS (tR ?_))))))
 refine sL (A6 rfl rfl (C8 (by repeat first | exact mH | apply mT)) hl2) rfl rfl ?_
 refine sL (A6 rfl rfl (C8 (by repeat first | exact mH | apply mT)) hl3) rfl rfl ?_
 refine sL (A6 rfl rfl (C8 (by repeat first | exact mH | apply mT)) hl5) rfl rfl ?_
 refine sQ (qM rfl) rfl ?_
 (refine D9 rfl (A3L e t w _ _ _ _ _ (by omega) hre hrt hrw hat hwa) rfl rfl (fun v G8 hle8 hh => ?_); obtain ⟨y, cy, ly, rfl, hry, hsy, hcy, _⟩ := hh; have hl6 := hry.len; have ho6 := hry.one; replace hb := hb.mono hle8; have hrN := hrw.mono hle8; replace hleL := hleL.trans hle8; have hNa := hwa; have hNs : F4 w ≤ 960 := (by omega))
 refine H0 ?_
 refine M0 rfl rfl rfl hl6 ho6 rfl (by repeat first | exact Sw.here | apply Sw.there) (by exact I4 (by first | exact hl6.symm | omega)) ?_
 refine sD (nS (tR ?_))
 refine sL (A6 rfl rfl (C8 (by repeat first | exact mH | apply mT)) hl5) rfl rfl ?_
 refine M0 rfl rfl rfl hl5 ho5 rfl (by repeat first | exact Sw.here | apply Sw.there) (by exact I4 (by first | exact hl5.symm | omega)) ?_
 refine sD (O3 (nS (tR (sQ (qM rfl) rfl ?_))))
 refine sP (T4 rfl rfl (by omega)) rfl rfl ?_
 refine sQ (qA rfl) rfl (sD ?_)
 refine K5 (j, cy, cw, p3 + 1, G8) ?_ ?_ ?_
 (simp only [J9]; exact E0)
 (dsimp only; exact ⟨by omega, hleL, ⟨y, hry, hsy hse, by omega⟩, ⟨_, hrN, hNa, hNs⟩, by omega, by omega⟩)
 (show _ < _ + 1; omega)
 refine F8 ?_
 refine sP (T4 rfl rfl (by omega)) rfl rfl ?_
 refine sQ (qA rfl) rfl (sD ?_)
 refine K5 (j, ce, ct, p3, Gn) ?_ ?_ ?_
 (simp only [J9]; exact E0)
 (dsimp only; exact ⟨by omega, hleL, ⟨e, hre, hse, by omega⟩, ⟨t, hrt, hat, hst⟩, by omega, by omega⟩)
 (show _ < _ + 1; omega)
 refine sD (nS (cF rfl (tK (nS (tS (tR ?_))))))
 refine sL (A6 rfl rfl (C8 (by repeat first | exact mH | apply mT)) hl3) rfl rfl ?_
 refine sL (A6 rfl rfl (C8 (by repeat first | exact mH | apply mT)) hl4) rfl rfl ?_
 refine J4 rfl ((W5 t u _ _ _ hat hua hrt hru)) rfl rfl (fun h225 => ?_) (fun h225 => ?_)
 refine sD (nS (qT rfl (tS (tR (sQ (qM rfl) rfl ?_)))))
 refine sP (N0 rfl rfl (by omega) (by omega)) rfl rfl ?_
 refine B7 ?_
 (refine C0 rfl (S0 _ br pb nb cb (p2 + 1) bs 3 hb hnb (by omega)) (Pk.perm (by repeat (first | exact Pk.here | apply Pk.there))) rfl rfl (fun v Gp outs hle240 hh => ?_); obtain ⟨rfl, rfl, j240, rfl, hj240, hk240⟩ := hh; have hpickB := hua)
 replace hru := hru.mono hle240
 replace hb := hb.mono hle240
 replace hrt := hrt.mono hle240
 replace hre := hre.mono hle240
 refine sB (qE rfl rfl) rfl rfl (fun h241 => ?_) (fun h241 => ?_)
 refine sD (nS (qT rfl (tR (sQ (qM rfl) rfl ?_))))
 refine sP (A2O rfl (by omega) (by omega)) rfl rfl ?_
 refine sQ (qA rfl) rfl (sD (nS (tS (tR ?_))))
 refine sL (A6 rfl rfl (C8 (by repeat first | exact mH | apply mT)) hl2) rfl rfl ?_
 refine sL (A6 rfl rfl (C8 (by repeat first | exact mH | apply mT)) hl3) rfl rfl ?_
 refine sL (A6 rfl rfl (C8 (by repeat first | exact mH | apply mT)) hl4) rfl rfl ?_
 refine sQ (qM rfl) rfl ?_
 (refine D9 rfl (A3L e t u _ _ _ _ _ (by omega) hre hrt hru hat hua) rfl rfl (fun v G8 hle8 hh => ?_); obtain ⟨y, cy, ly, rfl, hry, hsy, hcy, _⟩ := hh; have hl6 := hry.len; have ho6 := hry.one; replace hb := hb.mono hle8; have hrN := hru.mono hle8; replace hleL := hleL.trans hle8; have hNa := hua; have hNs : F4 u ≤ 960 := (by omega))
 refine H0 ?_
 refine M0 rfl rfl rfl hl6 ho6 rfl (by repeat first | exact Sw.here | apply Sw.there) (by exact I4 (by first | exact hl6.symm | omega)) ?_
 refine sD (nS (tR ?_))
 refine sL (A6 rfl rfl (C8 (by repeat first | exact mH | apply mT)) hl4) rfl rfl ?_
 refine M0 rfl rfl rfl hl4 ho4 rfl (by repeat first | exact Sw.here | apply Sw.there) (by exact I4 (by first | exact hl4.symm | omega)) ?_
 refine sD (O3 (nS (tR (sQ (qM rfl) rfl ?_))))
 refine sP (T4 rfl rfl (by omega)) rfl rfl ?_
 refine sQ (qA rfl) rfl (sD ?_)
 refine K5 (j, cy, cu, p2 + 1 + 1, G8) ?_ ?_ ?_
 (simp only [J9]; exact E0)
 (dsimp only; exact ⟨by omega, hleL, ⟨y, hry, hsy hse, by omega⟩, ⟨_, hrN, hNa, hNs⟩, by omega, by omega⟩)
 (show _ < _ + 1; omega)
 refine sD (nS (cF rfl (tK (nS (tS (tR ?_))))))
 refine sL (A6 rfl rfl (C8 (by repeat first | exact mH | apply mT)) hl2) rfl rfl ?_
 refine sL (A6 rfl rfl (C8 (by repeat first | exact mH | apply mT)) hl3) rfl rfl ?_
 refine sL (A6 rfl rfl (C8 (by repeat first | exact mH | apply mT)) hl4) rfl rfl ?_
 refine sQ (qM rfl) rfl ?_
 (refine D9 rfl (A3L e t u _ _ _ _ _ (by omega) hre hrt hru hat hua) rfl rfl (fun v G8 hle8 hh => ?_); obtain ⟨y, cy, ly, rfl, hry, hsy, hcy, _⟩ := hh; have hl6 := hry.len; have ho6 := hry.one; replace hb := hb.mono hle8; have hrN := hru.mono hle8; replace hleL := hleL.trans hle8; have hNa := hua; have hNs : F4 u ≤ 960 := (by omega))
 refine H0 ?_
 refine M0 rfl rfl rfl hl6 ho6 rfl (by repeat first | exact Sw.here | apply Sw.there) (by exact I4 (by first | exact hl6.symm | omega)) ?_
 refine sD (nS (tR ?_))
 refine sL (A6 rfl rfl (C8 (by repeat first | exact mH | apply mT)) hl4) rfl rfl ?_
 refine M0 rfl rfl rfl hl4 ho4 rfl (by repeat first | exact Sw.here | apply Sw.there) (by exact I4 (by first | exact hl4.symm | omega)) ?_
 refine sD (O3 (nS (tR (sQ (qM rfl) rfl ?_))))
 refine sP (T4 rfl rfl (by omega)) rfl rfl ?_
 refine sQ (qA rfl) rfl (sD ?_)
 refine K5 (j, cy, cu, p2 + 1 + 1, G8) ?_ ?_ ?_
 (simp only [J9]; exact E0)
 (dsimp only; exact ⟨by omega, hleL, ⟨y, hry, hsy hse, by omega⟩, ⟨_, hrN, hNa, hNs⟩, by omega, by omega⟩)
 (show _ < _ + 1; omega)
 refine F8 ?_
 refine sP (T4 rfl rfl (by omega)) rfl rfl ?_
 refine sQ (qA rfl) rfl (sD ?_)
 refine K5 (j, ce, ct, p2 + 1, Gp) ?_ ?_ ?_
 (simp only [J9]; exact E0)
 (dsimp only; exact ⟨by omega, hleL, ⟨e, hre, hse, by omega⟩, ⟨t, hrt, hat, hst⟩, by omega, by omega⟩)
 (show _ < _ + 1; omega)
 refine M2 ?_
 refine sL (A6 rfl rfl (C8 (by repeat first | exact mH | apply mT)) hl2) rfl rfl ?_
 refine M0 rfl rfl rfl (by assumption) (by assumption) rfl (by repeat first | exact Sw.here | apply Sw.there) (by exact I4 (by symm; assumption)) ?_
 refine sD (nS (tT ?_))
 refine C4 (outs := [rd br pb nb cb p1]) (rC rfl (A6 rfl rfl (C8 (by repeat first | exact mH | apply mT)) hl2)) (by repeat (first | exact A0.nil | refine A0.cons Pk.here ?_ | refine A0.cons (Pk.there Pk.here) ?_ | refine A0.cons (Pk.there (Pk.there Pk.here)) ?_ | apply A0.drop)) ?_
 (exact ⟨p1, by omega, by omega, rfl, e, _, rfl, hre, hse, by omega⟩)
def B7j (G : IM) : IM → Value → List A4 → Prop := L7 fun G' v => ∃ t cells l q c, v = .tuple ⟨[.agg ⟨cells⟩, .slice q l.length c]⟩ ∧ B5 G' t cells ∧ t.fit 100 ∧ Sl G' q l.length c 1 (A3y l) ∧ l.length ≤ 100
def B7k (ts : List Tm) (G : IM) : IM → Value → List A4 → Prop := L7 fun G' v => ∃ p c es, v = .slice p ts.length c ∧ D5 G' p ts.length c 9 es ∧ E5 G' ts es
def B7l (ts : List Ty) (G : IM) : IM → Value → List A4 → Prop := L7 fun G' v => ∃ p c es, v = .slice p ts.length c ∧ D5 G' p ts.length c 2 es ∧ E1 G' ts es
def srt (zs : List Int) : List Int := zs.mergeSort fun x y => decide (x ≤ y)
def B7m (t : Tm) : List Int := if R2 t = true then Lib.compact (srt ((A2F t).map Tm.lb)) else []
def B7n (t : Tm) : Tm × Bool := if R2 t = true ∧ (A2F t).length ≤ 99 then ((mRl t 0).1, true) else (K7, false)
mutual
def Q0 : Tm → Prop
 | .mk k _ _ _ _ _ ks => (k = 14 → ks.length = 1) ∧ A9Q ks
def A9Q : List Tm → Prop
 | [] => True
 | t :: ts => Q0 t ∧ A9Q ts
end
def cq1 (t : Tm) : Prop := t.k = 14 → t.ks.length = 1
def TbR (r : Tm × Bool) : IM → Value → List A4 → Prop := L7 fun G' v => ∃ cells, v = .tuple ⟨[.agg ⟨cells⟩, .bool r.2]⟩ ∧ B5 G' r.1 cells
def B7o (e : Tm) : Tm × Bool := if R2 e = true then A6f (A5Z B4a e) else (K7, false)
def B7p (e : Tm) (l : Int) : Tm × Bool := match B2v e with
 | some T => if Z0 l = true then A6f (R5 (R5 e T Q1 l) Q1 T l) else (K7, false)
 | none => (K7, false)
inductive MV where
 | mk (k num : Int) (env parts : List MV)
def MV.k : MV → Int | .mk k _ _ _ => k
def MV.num : MV → Int | .mk _ n _ _ => n
def MV.env : MV → List MV | .mk _ _ e _ => e
def MV.parts : MV → List MV | .mk _ _ _ p => p
def mv0 : MV := .mk 0 0 [] []
mutual
def RMv (kc : Int → Int) (G : IM) : MV → List Value → Prop
 | .mk k num env parts, cells => ∃ p c es q d fs, cells = [.int .i64 (kc k), .int .i64 num, .slice p env.length c, .slice q parts.length d] ∧ H4 num ∧ H4 (kc k) ∧ D5 G p env.length c 4 es ∧ A3d kc G env es ∧ D5 G q parts.length d 4 fs ∧ A3d kc G parts fs
def A3d (kc : Int → Int) (G : IM) : List MV → List (List Value) → Prop
 | [], es => es = []
 | t :: ts, es => ∃ a r, es = a :: r ∧ RMv kc G t a ∧ A3d kc G ts r
end
section
variable {kc : Int → Int} {G : IM}
end

def RFr (kc : Int → Int) (G : IM) (f : Int × List MV) (cells : List Value) : Prop := ∃ p c es, cells = [.int .i64 f.1, .slice p f.2.length c] ∧ H4 f.1 ∧ D5 G p f.2.length c 4 es ∧ A3d kc G f.2 es
def A9R (kc : Int → Int) (G : IM) : List (Int × List MV) → List (List Value) → Prop
 | [], es => es = []
 | t :: ts, es => ∃ a r, es = a :: r ∧ RFr kc G t a ∧ A9R kc G ts r
section
variable {kc : Int → Int} {G : IM}
end

structure MSt where
 at' : Int
 st : List MV
 env : List MV
 fr : List (Int × List MV)
def RSs (kc : Int → Int) (G : IM) (s : MSt) (cells : List Value) : Prop := ∃ pe ce ps cs pf cf ee es ef, cells = [.int .i64 s.at', .slice pe s.env.length ce, .slice ps s.st.length cs, .slice pf s.fr.length cf] ∧ H4 s.at' ∧
 D5 G pe s.env.length ce 4 ee ∧ A3d kc G s.env ee ∧ D5 G ps s.st.length cs 4 es ∧ A3d kc G s.st es ∧ D5 G pf s.fr.length cf 2 ef ∧ A9R kc G s.fr ef
def A2I (k : Int) : Nat := if k = 6 ∨ k = 7 ∨ k = 8 ∨ k = 11 then 2 else if k = 9 ∨ k = 12 ∨ k = 13 then 1 else 0
def A4Z (k : Int) : Int × Nat × Int := if k = 6 then (2, 1, 1) else if k = 7 ∨ k = 8 then (0, 2, 2) else if k = 9 then (1, 1, 3) else if k = 12 ∨ k = 13 then (3, 1, 4) else (0, 0, 0)
def A2b (s : MSt) (v : MV) : MSt := { s with st := s.st ++ [v] }
def mGo (k a : Int) (s : MSt) (v : List MV) : MSt ⊕ (Int × Int) :=
 if k = 1 then .inl (A2b s (.mk 0 a [] []))
 else if k = 2 then .inl (A2b s (.mk 1 a [] []))
 else if k = 3 then (if (s.env.length : Int) - 1 - a < 0 then .inr (3, 0) else .inl (A2b s (s.env.getD ((s.env.length : Int) - 1 - a).toNat mv0)))
 else if k = 4 then .inl { A2b s (.mk 2 s.at' s.env []) with at' := s.at' + a }
 else if k = 5 then (if s.fr.length = 0 then .inr (3, 0) else .inl { s with at' := (s.fr.getD (s.fr.length - 1) (0, [])).1, env := (s.fr.getD (s.fr.length - 1) (0, [])).2, fr := s.fr.take (s.fr.length - 1) })
 else if k = 6 then .inl { s with at' := (v.getD 0 mv0).num, env := (v.getD 0 mv0).env ++ [v.getD 1 mv0], fr := s.fr ++ [(s.at', s.env)] }
 else if k = 7 then .inl (A2b s (.mk 0 (((v.getD 0 mv0).num + (v.getD 1 mv0).num) % 1000) [] []))
 else if k = 8 then .inl (A2b s (.mk 1 (if (v.getD 0 mv0).num < (v.getD 1 mv0).num then 1 else 0) [] []))
 else if k = 9 then .inl (if (v.getD 0 mv0).num = 0 then { s with at' := s.at' + a } else s)
 else if k = 10 then .inl { s with at' := s.at' + a }
 else if k = 11 then .inl (A2b s (.mk 3 0 [] v))
 else .inl (A2b s ((v.getD 0 mv0).parts.getD (k - 12).toNat mv0))
def A9S (k : Int) (v : List MV) : Bool := (v.take (A4Z k).2.1).all fun u => decide (u.k = (A4Z k).1)
def B4i (k a : Int) (s : MSt) : MSt ⊕ (Int × Int) :=
 if s.st.length < A2I k then .inr (3, 0)
 else if A9S k (s.st.drop (s.st.length - A2I k)) = true then mGo k a { s with at' := s.at' + 1, st := s.st.take (s.st.length - A2I k) } (s.st.drop (s.st.length - A2I k))
 else .inr (2, (A4Z k).2.2)
def B4j (v : MV) : ByteArray := if v.k = 0 then ⟨(Lib.decDigits v.num.toNat).toArray⟩ else if v.k = 1 then (if v.num = 0 then ⟨#[70]⟩ else ⟨#[84]⟩) else if v.k = 2 then ⟨⟨[102, 117, 110, 99, 116, 105, 111, 110]⟩⟩ else ⟨⟨[112, 97, 105, 114]⟩⟩
def B4k (s : MSt) : ByteArray × Int × Int := if s.st.length ≠ 1 ∨ 0 < s.fr.length then (⟨#[]⟩, 3, 0) else (B4j (s.st.getD 0 mv0), 0, 0)
def A9T (ops : List (Int × Int)) : Nat → MSt → ByteArray × Int × Int
 | t, s => if (ops.length : Int) ≤ s.at' then B4k s else match t with
  | 0 => (⟨#[]⟩, 5, 0)
  | t + 1 => match B4i (ops.getD s.at'.toNat (0, 0)).1 (ops.getD s.at'.toNat (0, 0)).2 s with
   | .inl s' => A9T ops t s'
   | .inr (c, e) => (⟨#[]⟩, c, e)
def B4l (k behind : Int) : Int := if k = 1 then 999 else if k = 2 then 1 else if k = 3 then 11 else if k = 4 ∨ k = 9 ∨ k = 10 then behind else 0
def B4m (n : Nat) (i : Nat) (x : Int × Int) : Bool := decide (1 ≤ x.1 ∧ x.1 ≤ 13 ∧ 0 ≤ x.2 ∧ x.2 ≤ B4l x.1 ((n : Int) - 1 - i))
def B4n (ops : List (Int × Int)) : Bool := decide (1 ≤ ops.length ∧ ops.length ≤ 120) && (List.range ops.length).all fun i => B4m ops.length i (ops.getD i (0, 0))
def B7q (ops : List (Int × Int)) (ticks : Int) : ByteArray × Int × Int :=
 if B4n ops = true ∧ 0 ≤ ticks ∧ ticks ≤ 2000 then A9T ops ticks.toNat ⟨0, [], [], []⟩ else (⟨#[]⟩, 3, 0)
def B7r (k a : Int) (s : MSt) : MSt ⊕ (Int × Int) :=
 if A9S k (s.st.drop (s.st.length - A2I k)) = true then mGo k a { s with at' := s.at' + 1, st := s.st.take (s.st.length - A2I k) } (s.st.drop (s.st.length - A2I k))
 else .inr (2, (A4Z k).2.2)
section
variable {a : Int} {s : MSt} {v0 v1 : MV}
end
mutual
def MV.ok (n : Int) (N : Nat) : MV → Prop
 | .mk k num env parts => 0 ≤ k ∧ k ≤ 3 ∧ 0 ≤ num ∧ num ≤ 999 ∧ (k = 1 → num ≤ 1) ∧ (k = 2 → num ≤ n) ∧ (k = 3 → parts.length = 2) ∧ env.length ≤ N ∧ MV.okL n N env ∧ MV.okL n N parts
def MV.okL (n : Int) (N : Nat) : List MV → Prop
 | [] => True
 | v :: vs => v.ok n N ∧ MV.okL n N vs
end
structure MSt.ok (n : Int) (N : Nat) (s : MSt) : Prop where
 lo : 0 ≤ s.at'
 hi : s.at' ≤ n
 st : s.st.length ≤ N
 env : s.env.length ≤ N
 fr : s.fr.length ≤ N
 sto : ∀ v ∈ s.st, v.ok n N
 envo : ∀ v ∈ s.env, v.ok n N
 fro : ∀ f ∈ s.fr, 0 ≤ f.1 ∧ f.1 ≤ n ∧ f.2.length ≤ N ∧ ∀ v ∈ f.2, v.ok n N
section
variable {ops : List (Int × Int)} {t : Nat} {s s' : MSt}
end
section own
variable {P : Program} {Γ : K0} {env : K3} {hp : List A4} {G : IM} {ty : TypeId} {K : Po} {ops : Array Oper} {rest : List Oper}
variable {pos : String} {af : Array Edge} {gd : Option (Nat × Bool)}
end own
abbrev kI (k : Int) : Int := k
section
variable {P : Program} {Γ : K0} {env : K3} {hp : List A4} {G : IM} {ty : TypeId}
end
theorem A9U {P : Program} {Γ : K0} {env : K3} {hp : List A4} {G : IM} {post : IM → Value → List A4 → Prop} {outs : List A4} (ho : A0 hp outs) (hk : post G (.tuple ⟨[]⟩) outs) : A03 P Γ [] post .normal ⟨env, hp, G⟩ :=
 ⟨⟨[], .nil, outs, ho.spec.choose, ho.spec.choose_spec, hk⟩⟩
def B7s (b : Nat) (A E F : Value) (p : Option Addr) (n c m : Nat) (cs : List Value) (es : List (List Value)) : IM → Value → List A4 → Prop := fun G' v outs =>
 if n < m then v = .tuple ⟨[.slice none 0 0, .bool false]⟩
 else ∃ q d, v = .tuple ⟨[.slice q m d, .bool true]⟩ ∧ outs = [.blk b [A, .slice p (n - m) c, E, F], .slc p c 82 4 (n - m) ((es.take (n - m)).flatten)] ∧ D5 G' q m d 4 (es.drop (n - m))
section
variable {P : Program} {Γ : K0} {env : K3} {hp : List A4} {G : IM} {ty : TypeId}
theorem A9V {x y : Operand} {t t' : TypeId} {m n : Int} (hx : evo env x = some (.int .u8 m)) (hy : evo env y = some (.int .u8 n)) (h0 : 0 ≤ m - n) (h1 : m - n ≤ 255) :
  H5 P Γ ⟨env, hp, G⟩ (.binOp .sub t x y t') ty (.int .u8 (m - n)) := by
 refine ⟨fun a _ hs _ _ _ _ w => ?_⟩
 have hw : IntKind.u8.wrap (m - n) = m - n := IntWalk.u8_in _ ⟨h0, h1⟩
 simp [execOp, eqGuard, binOp, Op.intArith, (hs.evo hx : a.eval x = _), (hs.evo hy : a.eval y = _), hw]
end
def nmB (nm : ByteArray) : UInt8 := nm.data.getD 0 0
mutual
def mFr : ByteArray → Tm → List Bool → List Bool
 | bnd, .mk k nm _ _ _ _ ks, f => A9W (if k = 5 then bnd ++ nm else bnd) ks (if k = 1 ∧ nmB nm ∉ bnd.data.toList then f.set ((nmB nm).toNat - 97) true else f)
def A9W : ByteArray → List Tm → List Bool → List Bool
 | _, [], f => f
 | bnd, t :: ts, f => A9W bnd ts (mFr bnd t f)
end
theorem A40 {nm : ByteArray} (h : V5 nm = true) : nm = ⟨#[nmB nm]⟩ ∧ 97 ≤ (nmB nm).toNat ∧ (nmB nm).toNat ≤ 122 := by
 unfold V5 at h
 rw [decide_eq_true_eq] at h
 obtain ⟨h1, h2, h3⟩ := h
 refine ⟨?_, h2, h3⟩
 obtain ⟨⟨l⟩⟩ := nm
 have hl : l.length = 1 := h1
 match l, hl with
 | [c], _ => rfl
def B7t : Tm → Tm
 | .mk k nm num ty fr lb ks => if k = 13 then ks.headD K7 else if k = 1 ∨ k = 6 ∨ k = 9 ∨ k = 11 ∨ k = 12 then .mk k nm num ty fr lb ks
  else A9L (.mk k nm num (if k = 5 then Q1 else ty) fr lb ks)
def B7u : Tm → Prop
 | .mk k _ _ _ _ _ ks => k = 13 → ks ≠ []
abbrev A3 := List UInt8
def sgB (k : Int) : UInt8 := if k = 1 then 63 else if k = 2 then 73 else if k = 3 then 66 else if k = 4 then 62 else 42
def S9 (b : UInt8) : Int := if b = 63 then 1 else if b = 73 then 2 else if b = 66 then 3 else if b = 62 then 4 else if b = 42 then 5 else 0
def tyN (k : Int) : List A3 → A3
 | [] => [sgB k]
 | [_] => []
 | a :: b :: _ => 40 :: (a ++ sgB k :: (b ++ [41]))
mutual
def O7 : Ty → A3
 | .mk k ks => tyN k (A2c ks)
def A2c : List Ty → List A3
 | [] => []
 | t :: ts => O7 t :: A2c ts
end
def L5 (k : Int) (nm : ByteArray) (num : Int) (ty fr : A3) (lb : Int) (ks : List A3) : A3 :=
 if k = 1 then nm.data.toList else if k = 2 then Lib.itoa num else if k = 3 then [84] else if k = 4 then [70]
 else if k = 5 then 33 :: (nm.data.toList ++ 58 :: (ty ++ 46 :: ks.getD 0 []))
 else if k = 6 then 40 :: (ks.getD 0 [] ++ 32 :: (ks.getD 1 [] ++ [41]))
 else if k = 7 then 40 :: (ks.getD 0 [] ++ 43 :: (ks.getD 1 [] ++ [41]))
 else if k = 8 then 40 :: (ks.getD 0 [] ++ 60 :: (ks.getD 1 [] ++ [41]))
 else if k = 9 then 123 :: (ks.getD 0 [] ++ 63 :: (ks.getD 1 [] ++ 58 :: (ks.getD 2 [] ++ [125])))
 else if k = 10 then 91 :: (ks.getD 0 [] ++ 44 :: (ks.getD 1 [] ++ [93]))
 else if k = 11 then 36 :: ks.getD 0 [] else if k = 12 then 37 :: ks.getD 0 []
 else if k = 13 then 40 :: (ks.getD 0 [] ++ 58 :: (ty ++ [41]))
 else 40 :: (ks.getD 0 [] ++ 58 :: (fr ++ 126 :: (ty ++ 35 :: (Lib.itoa lb ++ [41]))))
mutual
def B0 : Tm → A3
 | .mk k nm num ty fr lb ks => L5 k nm num (O7 ty) (O7 fr) lb (R6 ks)
def R6 : List Tm → List A3
 | [] => []
 | t :: ts => B0 t :: R6 ts
end
def nd (k : Int) (ks : List Tm) : Tm := .mk k ⟨#[]⟩ 0 A7 A7 0 ks
def T9 : A3 → Option (UInt8 × A3)
 | [] => none
 | b :: r => some (b, r)
def F9 (c : UInt8) : A3 → Option A3
 | [] => none
 | b :: r => if b = c then some r else none
def V8 (lo hi : Int) : A3 → Option (Int × A3)
 | [] => none
 | b :: r => if lo ≤ S9 b ∧ S9 b ≤ hi then some (S9 b, r) else none
def O2 : Nat → A3 → Option (Ty × A3)
 | 0, _ => none
 | n + 1, l => if l.headD 0 = 40 then (O2 n l.tail).bind fun x => (V8 4 5 x.2).bind fun y => (O2 n y.2).bind fun z => (F9 41 z.2).map fun w => (.mk y.1 [x.1, z.1], w)
  else (V8 1 3 l).map fun y => (.mk y.1 [], y.2)
def J0 (b : UInt8) : Prop := 48 ≤ b.toNat ∧ b.toNat ≤ 57
instance (b : UInt8) : Decidable (J0 b) := by unfold J0; infer_instance
def Q7 : A3 → Nat
 | [] => 0
 | c :: r => if J0 c then Q7 r + 1 else 0
def P3 : A3 → Nat
 | [] => 0
 | c :: r => if J0 c ∨ c = 45 then Q7 r + 1 else 0
def A0d (l : A3) : Option (Int × A3) :=
 match Lib.atoiAll (l.take (P3 l)) with
 | .ok v => some (v, l.drop (P3 l))
 | _ => none
def A3e (f : A3 → Option (Tm × A3)) (l : A3) : Option (Tm × A3) :=
 (T9 l).bind fun x => (F9 58 x.2).bind fun r2 => (O2 4 r2).bind fun y => (F9 46 y.2).bind fun r4 => (f r4).map fun z => (.mk 5 ⟨#[x.1]⟩ 0 y.1 A7 0 [z.1], z.2)
def pIf (f : A3 → Option (Tm × A3)) (l : A3) : Option (Tm × A3) :=
 (f l).bind fun a => (F9 63 a.2).bind fun r1 => (f r1).bind fun b => (F9 58 b.2).bind fun r2 => (f r2).bind fun c => (F9 125 c.2).map fun r3 => (nd 9 [a.1, b.1, c.1], r3)
def A3f (f : A3 → Option (Tm × A3)) (l : A3) : Option (Tm × A3) :=
 (f l).bind fun a => (F9 44 a.2).bind fun r1 => (f r1).bind fun b => (F9 93 b.2).map fun r3 => (nd 10 [a.1, b.1], r3)
def A1N (f : A3 → Option (Tm × A3)) (k : Int) (a : Tm) (l : A3) : Option (Tm × A3) :=
 (f l).bind fun b => (F9 41 b.2).map fun r3 => (nd k [a, b.1], r3)
def pAs (a : Tm) (l : A3) : Option (Tm × A3) :=
 (O2 4 l).bind fun t => if t.2.headD 0 = 126 then (O2 4 t.2.tail).bind fun u => (F9 35 u.2).bind fun r2 => (A0d r2).bind fun m => (F9 41 m.2).map fun r3 => (.mk 14 ⟨#[]⟩ 0 u.1 t.1 m.1 [a], r3)
  else (F9 41 t.2).map fun r2 => (.mk 13 ⟨#[]⟩ 0 t.1 A7 0 [a], r2)
def V9 (f : A3 → Option (Tm × A3)) (l : A3) : Option (Tm × A3) :=
 (f l).bind fun a => (T9 a.2).bind fun o => if o.1 = 32 then A1N f 6 a.1 o.2 else if o.1 = 43 then A1N f 7 a.1 o.2 else if o.1 = 60 then A1N f 8 a.1 o.2 else if o.1 = 58 then pAs a.1 o.2 else none
def V1 (f : A3 → Option (Tm × A3)) (k : Int) (l : A3) : Option (Tm × A3) := (f l).map fun x => (nd k [x.1], x.2)
def I2 : Nat → A3 → Option (Tm × A3)
 | 0, _ => none
 | _ + 1, [] => none
 | n + 1, b :: r =>
  if 97 ≤ b.toNat ∧ b.toNat ≤ 122 then some (.mk 1 ⟨#[b]⟩ 0 A7 A7 0 [], r)
  else if J0 b then (A0d (b :: r)).map fun x => (.mk 2 ⟨#[]⟩ x.1 A7 A7 0 [], x.2)
  else if b = 84 then some (nd 3 [], r)
  else if b = 70 then some (nd 4 [], r)
  else if b = 33 then A3e (I2 n) r
  else if b = 123 then pIf (I2 n) r
  else if b = 91 then A3f (I2 n) r
  else if b = 36 then V1 (I2 n) 11 r
  else if b = 37 then V1 (I2 n) 12 r
  else if b = 40 then V9 (I2 n) r
  else none
def O0 : Nat → A3 → Option (Ty × A3)
 | 0, _ => none
 | _ + 1, [] => none
 | n + 1, b :: r =>
  if b = 63 then some (.mk 1 [], r) else if b = 73 then some (.mk 2 [], r) else if b = 66 then some (.mk 3 [], r)
  else if b = 40 then (O0 n r).bind fun x => (T9 x.2).bind fun o => (O0 n o.2).bind fun z => if o.1 = 62 ∨ o.1 = 42 then (F9 41 z.2).map fun w => (.mk (if o.1 = 62 then 4 else 5) [x.1, z.1], w) else none
  else none
def W6 (acc : Nat) (l : A3) : Nat := l.foldl (fun a c => a * 10 + (c.toNat - 48)) acc
theorem A2d (acc : Nat) (c : UInt8) (r : A3) : W6 acc (c :: r) = W6 (acc * 10 + (c.toNat - 48)) r := by unfold W6; rw [List.foldl_cons]
theorem A41 (acc : Nat) : W6 acc [] = acc := rfl
def A0E (l : A3) : Option (Int × A3) :=
 let m := Q7 (l.take 4)
 if m = 0 ∨ (l.headD 0 = 48 ∧ 1 < m) then none else some ((W6 0 (l.take m) : Nat), l.drop m)
def U0 (f : A3 → Option (Tm × A3)) : List UInt8 → A3 → Option (List Tm × A3)
 | [], l => some ([], l)
 | c :: cs, l => (f l).bind fun x => (F9 c x.2).bind fun r => (U0 f cs r).map fun y => (x.1 :: y.1, y.2)
def A0o (f : A3 → Option (Tm × A3)) (l : A3) : Option (Tm × A3) :=
 (T9 l).bind fun x => (F9 58 x.2).bind fun r2 => (O0 4 r2).bind fun y => (F9 46 y.2).bind fun r4 => (f r4).map fun z => (.mk 5 ⟨#[x.1]⟩ 0 y.1 A7 0 [z.1], z.2)
def A0e (a : Tm) (t : Ty) (l : A3) : Option (Tm × A3) :=
 (O0 4 l).bind fun u => (F9 35 u.2).bind fun r2 => if r2 = [] then none else
  if r2.headD 0 = 45 then (A0E r2.tail).bind fun m => (F9 41 m.2).map fun r3 => (.mk 14 ⟨#[]⟩ 0 u.1 t (-m.1) [a], r3)
  else (A0E r2).bind fun m => (F9 41 m.2).map fun r3 => (.mk 14 ⟨#[]⟩ 0 u.1 t m.1 [a], r3)
def rAs (a : Tm) (l : A3) : Option (Tm × A3) :=
 (O0 4 l).bind fun t => if t.2.headD 0 = 41 then some (.mk 13 ⟨#[]⟩ 0 t.1 A7 0 [a], t.2.tail) else if t.2.headD 0 = 126 then A0e a t.1 t.2.tail else none
def A1O (f : A3 → Option (Tm × A3)) (k : Int) (a : Tm) (l : A3) : Option (Tm × A3) :=
 (U0 f [41] l).map fun x => (nd k (a :: x.1), x.2)
def X8 (f : A3 → Option (Tm × A3)) (l : A3) : Option (Tm × A3) :=
 (f l).bind fun a => (T9 a.2).bind fun o => if o.1 = 32 then A1O f 6 a.1 o.2 else if o.1 = 43 then A1O f 7 a.1 o.2 else if o.1 = 60 then A1O f 8 a.1 o.2 else if o.1 = 58 then rAs a.1 o.2 else none
def J2 : Nat → A3 → Option (Tm × A3)
 | 0, _ => none
 | _ + 1, [] => none
 | n + 1, b :: r =>
  if b = 84 then some (nd 3 [], r)
  else if b = 70 then some (nd 4 [], r)
  else if b = 33 then A0o (J2 n) r
  else if b = 40 then X8 (J2 n) r
  else if b = 123 then (U0 (J2 n) [63, 58, 125] r).map fun x => (nd 9 x.1, x.2)
  else if b = 91 then (U0 (J2 n) [44, 93] r).map fun x => (nd 10 x.1, x.2)
  else if b = 36 then V1 (J2 n) 11 r
  else if b = 37 then V1 (J2 n) 12 r
  else if 97 ≤ b.toNat ∧ b.toNat ≤ 122 then some (.mk 1 ⟨#[b]⟩ 0 A7 A7 0 [], r)
  else (A0E (b :: r)).map fun x => (.mk 2 ⟨#[]⟩ x.1 A7 A7 0 [], x.2)
theorem A9X {k : Int} (h : k = 1 ∨ k = 2 ∨ k = 3 ∨ k = 4 ∨ k = 5) : S9 (sgB k) = k := by rcases h with rfl | rfl | rfl | rfl | rfl <;> rfl
theorem B4o {k : Int} : sgB k ≠ 40 := by
 unfold sgB
 repeat' split
 all_goals decide
theorem A2e {t : Ty} {d : Int} (h : H8 t d = true) : d ≤ 4 ∧ ((∃ k, (k = 1 ∨ k = 2 ∨ k = 3) ∧ t = .mk k []) ∨ (∃ k a b, (k = 4 ∨ k = 5) ∧ t = .mk k [a, b] ∧ H8 a (d + 1) = true ∧ H8 b (d + 1) = true)) := by
 obtain ⟨k, ks⟩ := t
 rw [H8] at h
 simp only [Bool.and_eq_true, decide_eq_true_eq] at h
 obtain ⟨⟨h1, h2⟩, h3⟩ := h
 refine ⟨h1, ?_⟩
 unfold Q5 at h2
 split at h2
 ·rename_i hk
  left
  obtain rfl : ks = [] := List.length_eq_zero_iff.1 (by omega)
  exact ⟨k, hk, rfl⟩
 ·split at h2
  ·rename_i hk
   right
   match ks, (show ks.length = 2 by omega), h3 with
   | [a, b], _, h3 =>
    simp only [T1, Bool.and_eq_true, and_true] at h3
    exact ⟨k, a, b, hk, rfl, h3.1, h3.2⟩
  ·omega
theorem A42 : ∀ (n : Nat) (t : Ty) (d : Int) (rest : A3), H8 t d = true → 5 - d ≤ n → O2 n (O7 t ++ rest) = some (t, rest) := by
 intro n
 induction n with
 | zero => intro t d rest h hn; have := (A2e h).1; omega
 | succ m ih =>
  intro t d rest h hn
  obtain ⟨hd, hc⟩ := A2e h
  rcases hc with ⟨k, hk, rfl⟩ | ⟨k, a, b, hk, rfl, ha, hb⟩
  ·rw [O2, O7, A2c, tyN]
   rw [List.cons_append, List.headD_cons, if_neg B4o, V8, A9X (by omega), if_pos (by omega)]
   rfl
  ·have e : O7 (.mk k [a, b]) ++ rest = 40 :: (O7 a ++ (sgB k :: (O7 b ++ (41 :: rest)))) := by simp [O7, A2c, tyN]
   rw [O2, e, List.headD_cons, if_pos rfl, List.tail_cons, ih a (d + 1) _ ha (by omega)]
   simp only [Option.bind_some]
   rw [V8, A9X (by omega), if_pos (by omega)]
   simp only [Option.bind_some]
   rw [ih b (d + 1) _ hb (by omega)]
   simp [F9]
theorem A43 : ∀ (n : Nat) (t : Ty) (d : Int) (rest : A3), H8 t d = true → 5 - d ≤ n → O0 n (O7 t ++ rest) = some (t, rest) := by
 intro n
 induction n with
 | zero => intro t d rest h hn; have := (A2e h).1; omega
 | succ m ih =>
  intro t d rest h hn
  obtain ⟨hd, hc⟩ := A2e h
  rcases hc with ⟨k, hk, rfl⟩ | ⟨k, a, b, hk, rfl, ha, hb⟩
  ·rw [O7, A2c, tyN, List.cons_append, O0]
   rcases hk with rfl | rfl | rfl <;> rfl
  ·have e : O7 (.mk k [a, b]) ++ rest = 40 :: (O7 a ++ (sgB k :: (O7 b ++ (41 :: rest)))) := by simp [O7, A2c, tyN]
   rw [e, O0, if_neg (by decide), if_neg (by decide), if_neg (by decide), if_pos rfl, ih a (d + 1) _ ha (by omega)]
   simp only [Option.bind_some, T9]
   rw [ih b (d + 1) _ hb (by omega)]
   rcases hk with rfl | rfl <;> simp [F9, sgB]
def ndg (l : A3) : Prop := Q7 l = 0
theorem U1 {c : UInt8} {l : A3} (h : ¬J0 c) : ndg (c :: l) := by unfold ndg; rw [Q7, if_neg h]
theorem A44 : ∀ (ds rest : A3), (∀ c ∈ ds, J0 c) → ndg rest → Q7 (ds ++ rest) = ds.length
 | [], rest, _, hr => hr
 | c :: ds, rest, hd, hr => by
  rw [List.cons_append, Q7, if_pos (hd c List.mem_cons_self), A44 ds rest (fun x hx => hd x (List.mem_cons_of_mem _ hx)) hr, List.length_cons]
def W0 (u : Nat) : A3 := if u < 10 then [UInt8.ofNat (48 + u)] else if u < 100 then [UInt8.ofNat (48 + u / 10), UInt8.ofNat (48 + u % 10)] else [UInt8.ofNat (48 + u / 10 / 10), UInt8.ofNat (48 + u / 10 % 10), UInt8.ofNat (48 + u % 10)]
theorem A9Y {u : Nat} (h : u < 1000) : Lib.decDigits u = W0 u := by
 unfold W0
 by_cases h1 : u < 10
 ·rw [if_pos h1, Lib.decDigits, dif_pos h1]
 ·rw [if_neg h1, Lib.decDigits, dif_neg h1]
  by_cases h2 : u < 100
  ·rw [if_pos h2, Lib.decDigits, dif_pos (by omega)]; rfl
  ·rw [if_neg h2, Lib.decDigits, dif_neg (by omega), Lib.decDigits, dif_pos (by omega)]; rfl
theorem dgn {u : Nat} (h : u < 10) : (UInt8.ofNat (48 + u)).toNat = 48 + u := by
 rw [UInt8.toNat_ofNat']; omega
theorem A2f {u : Nat} (h : u < 1000) : (∀ c ∈ W0 u, J0 c) ∧ W0 u ≠ [] ∧ (W0 u).length ≤ 3 ∧ ((W0 u).headD 0 = 48 → (W0 u).length ≤ 1) ∧ W6 0 (W0 u) = u := by
 unfold W0
 by_cases h1 : u < 10
 ·rw [if_pos h1]
  have := dgn h1
  refine ⟨?_, by simp, by simp, by simp, ?_⟩
  ·intro c hc; simp only [List.mem_singleton] at hc; subst hc; unfold J0; rw [this]; omega
  ·rw [A2d, A41, this]; omega
 ·rw [if_neg h1]
  by_cases h2 : u < 100
  ·rw [if_pos h2]
   have g1 := dgn (u := u / 10) (by omega)
   have g2 := dgn (u := u % 10) (by omega)
   refine ⟨?_, by simp, by simp, ?_, ?_⟩
   ·intro c hc; simp only [List.mem_cons, List.not_mem_nil, or_false] at hc; unfold J0; rcases hc with rfl | rfl <;> first | (rw [g1]; omega) | (rw [g2]; omega)
   ·intro hh
    rw [List.headD_cons] at hh
    rw [hh] at g1
    have : (48 : UInt8).toNat = 48 := rfl
    rw [this] at g1
    omega
   ·rw [A2d, A2d, A41, g1, g2]; omega
  ·rw [if_neg h2]
   have g0 := dgn (u := u / 10 / 10) (by omega)
   have g1 := dgn (u := u / 10 % 10) (by omega)
   have g2 := dgn (u := u % 10) (by omega)
   refine ⟨?_, by simp, by simp, ?_, ?_⟩
   ·intro c hc; simp only [List.mem_cons, List.not_mem_nil, or_false] at hc; unfold J0; rcases hc with rfl | rfl | rfl <;> first | (rw [g0]; omega) | (rw [g1]; omega) | (rw [g2]; omega)
   ·intro hh
    rw [List.headD_cons] at hh
    rw [hh] at g0
    have : (48 : UInt8).toNat = 48 := rfl
    rw [this] at g0
    omega
   ·rw [A2d, A2d, A2d, A41, g0, g1, g2]; omega
theorem A9Z : ∀ (ds : A3) (acc : Nat), (∀ c ∈ ds, J0 c) → (acc + 1) * 10 ^ ds.length ≤ 1000000 → Lib.parseUint10 acc ds = .ok (W6 acc ds)
 | [], acc, _, _ => rfl
 | c :: r, acc, hd, hb => by
  have h1 := hd c List.mem_cons_self
  unfold J0 at h1
  rw [List.length_cons, Nat.pow_succ, Nat.mul_comm (10 ^ r.length) 10, ← Nat.mul_assoc] at hb
  have hp : 1 ≤ 10 ^ r.length := Nat.one_le_pow _ _ (by decide)
  have hacc : (acc + 1) * 10 ≤ 1000000 := Nat.le_trans (Nat.le_mul_of_pos_right _ hp) hb
  have hb2 : (acc * 10 + (c.toNat - 48) + 1) * 10 ^ r.length ≤ 1000000 := Nat.le_trans (Nat.mul_le_mul_right _ (by omega)) hb
  rw [Lib.parseUint10, if_pos h1, if_neg (by omega), if_neg (by omega), A2d]
  exact A9Z r _ (fun x hx => hd x (List.mem_cons_of_mem _ hx)) hb2
theorem A90 {u : Nat} (h : u < 1000) : Lib.parseMag (W0 u) = .ok u := by
 obtain ⟨h1, h2, h3, _, h5⟩ := A2f h
 unfold Lib.parseMag
 rw [if_neg h2, A9Z _ 0 h1, h5]
 have : 10 ^ (W0 u).length ≤ 10 ^ 3 := Nat.pow_le_pow_right (by decide) h3
 omega
theorem B4p {u : Nat} (h : u < 1000) : Lib.atoiAll (W0 u) = .ok (u : Int) := by
 obtain ⟨h1, h2, _⟩ := A2f h
 have hm := A90 h
 match hd : W0 u, h2 with
 | c :: r, _ =>
  rw [hd] at h1 hm
  have hc := h1 c List.mem_cons_self
  unfold J0 at hc
  rw [Lib.atoiAll_plain c r (by omega) (by omega), hm, Lib.signless, if_neg (by omega)]
theorem B4q {u : Nat} (h : u < 1000) : Lib.atoiAll (45 :: W0 u) = .ok (-(u : Int)) := by
 rw [Lib.atoiAll_minus, A90 h, Lib.signed, if_neg (by omega)]
theorem A3Y {n : Int} (h0 : 0 ≤ n) (h : n ≤ 999) : Lib.itoa n = W0 n.toNat := by
 unfold Lib.itoa; rw [if_neg (by omega), A9Y (by omega)]
theorem A6v {n : Int} (h0 : n < 0) (h : -999 ≤ n) : Lib.itoa n = 45 :: W0 n.natAbs := by
 unfold Lib.itoa; rw [if_pos h0, A9Y (by omega)]
theorem B4r {ds rest : A3} (h1 : ∀ c ∈ ds, J0 c) (h2 : ds ≠ []) (hr : ndg rest) : P3 (ds ++ rest) = ds.length := by
 match ds, h2 with
 | c :: r, _ =>
  rw [List.cons_append, P3, if_pos (.inl (h1 c List.mem_cons_self)), A44 r rest (fun x hx => h1 x (List.mem_cons_of_mem _ hx)) hr, List.length_cons]
theorem B4s {ds rest : A3} (h1 : ∀ c ∈ ds, J0 c) (hr : ndg rest) : P3 (45 :: ds ++ rest) = (45 :: ds).length := by
 rw [List.cons_append, P3, if_pos (.inr rfl), A44 ds rest h1 hr, List.length_cons]
theorem B4t {n : Int} (h0 : 0 ≤ n) (h : n ≤ 999) {rest : A3} (hr : ndg rest) : A0d (Lib.itoa n ++ rest) = some (n, rest) := by
 have hu : n.toNat < 1000 := by omega
 obtain ⟨h1, h2, _⟩ := A2f hu
 rw [A3Y h0 h]
 unfold A0d
 rw [B4r h1 h2 hr, List.take_left, List.drop_left, B4p hu, Int.toNat_of_nonneg h0]
theorem B4u {n : Int} (h0 : n < 0) (h : -999 ≤ n) {rest : A3} (hr : ndg rest) : A0d (Lib.itoa n ++ rest) = some (n, rest) := by
 have hu : n.natAbs < 1000 := by omega
 obtain ⟨h1, h2, _⟩ := A2f hu
 rw [A6v h0 h]
 unfold A0d
 rw [B4s h1 hr, List.take_left, List.drop_left, B4q hu, show -(n.natAbs : Int) = n by omega]
theorem A91 {n : Int} (h0 : -999 ≤ n) (h : n ≤ 999) {rest : A3} (hr : ndg rest) : A0d (Lib.itoa n ++ rest) = some (n, rest) := by
 by_cases hn : n < 0
 ·exact B4u hn h0 hr
 ·exact B4t (by omega) h hr
theorem B4v {ds rest : A3} (h1 : ∀ c ∈ ds, J0 c) (hl : ds.length ≤ 3) (hr : ndg rest) : Q7 ((ds ++ rest).take 4) = ds.length := by
 rw [List.take_append, List.take_of_length_le (by omega)]
 refine A44 ds _ h1 ?_
 unfold ndg at hr ⊢
 cases rest with
 | nil => simp [Q7]
 | cons c r =>
  rw [show 4 - ds.length = (3 - ds.length) + 1 by omega, List.take_succ_cons, Q7]
  rw [Q7] at hr
  split at hr
  ·omega
  ·rename_i hc; rw [if_neg hc]
theorem A6w {u : Nat} (hu : u < 1000) {rest : A3} (hr : ndg rest) : A0E (W0 u ++ rest) = some ((u : Int), rest) := by
 obtain ⟨h1, h2, h3, h4, h5⟩ := A2f hu
 unfold A0E
 simp only [B4v h1 h3 hr]
 have hh : (W0 u ++ rest).headD 0 = (W0 u).headD 0 := by
  match W0 u, h2 with
  | c :: r, _ => rfl
 have hl : (W0 u).length ≠ 0 := fun he => h2 (List.length_eq_zero_iff.1 he)
 rw [hh, if_neg (fun hc => hc.elim hl (fun hc => by have := h4 hc.1; omega)), List.take_left, List.drop_left, h5]
theorem A92 {t : Ty} (h : X1 t = true) : t = A7 := by
 obtain ⟨k, ks⟩ := t
 unfold X1 at h
 rw [decide_eq_true_eq] at h
 obtain ⟨h1, h2⟩ := h
 simp only [Ty.k, Ty.ks] at h1 h2
 rw [h1, List.length_eq_zero_iff.1 h2]; rfl
inductive A0U : Tm → Prop where
 | var (b : UInt8) : 97 ≤ b.toNat → b.toNat ≤ 122 → A0U (.mk 1 ⟨#[b]⟩ 0 A7 A7 0 [])
 | num (n : Int) : 0 ≤ n → n ≤ 999 → A0U (.mk 2 ⟨#[]⟩ n A7 A7 0 [])
 | tru : A0U (nd 3 [])
 | fls : A0U (nd 4 [])
 | lam (b : UInt8) (ty : Ty) (a : Tm) : 97 ≤ b.toNat → b.toNat ≤ 122 → H3 ty = true → A0U (.mk 5 ⟨#[b]⟩ 0 ty A7 0 [a])
 | bin (k : Int) (a b : Tm) : k = 6 ∨ k = 7 ∨ k = 8 → A0U (nd k [a, b])
 | ite (a b c : Tm) : A0U (nd 9 [a, b, c])
 | pair (a b : Tm) : A0U (nd 10 [a, b])
 | un (k : Int) (a : Tm) : k = 11 ∨ k = 12 → A0U (nd k [a])
 | asc (ty : Ty) (a : Tm) : H3 ty = true → A0U (.mk 13 ⟨#[]⟩ 0 ty A7 0 [a])
 | cast (ty fr : Ty) (lb : Int) (a : Tm) : H3 ty = true → H3 fr = true → -999 ≤ lb → lb ≤ 999 → A0U (.mk 14 ⟨#[]⟩ 0 ty fr lb [a])
theorem A6x {k : Int} {nm : ByteArray} {num : Int} {ty fr : Ty} {lb : Int} {ks : List Tm} (h : U3 k nm num ty fr lb ks.length = true) : A0U (.mk k nm num ty fr lb ks) := by
 obtain ⟨n1, n2, n3, n4, n5, n6, n7, n8, n9⟩ := U8.1 h
 have hkk : k = 1 ∨ k = 2 ∨ k = 3 ∨ k = 4 ∨ k = 5 ∨ k = 6 ∨ k = 7 ∨ k = 8 ∨ k = 9 ∨ k = 10 ∨ k = 11 ∨ k = 12 ∨ k = 13 ∨ k = 14 := by
  unfold H6 at n1
  repeat' split at n1
  all_goals omega
 have L0 : H6 k = 0 → ks = [] := fun h => List.length_eq_zero_iff.1 (by omega)
 have L1 : H6 k = 1 → ∃ a, ks = [a] := fun h => by
  match ks, (show ks.length = 1 by omega) with
  | [a], _ => exact ⟨a, rfl⟩
 have L2 : H6 k = 2 → ∃ a b, ks = [a, b] := fun h => by
  match ks, (show ks.length = 2 by omega) with
  | [a, b], _ => exact ⟨a, b, rfl⟩
 have L3 : H6 k = 3 → ∃ a b c, ks = [a, b, c] := fun h => by
  match ks, (show ks.length = 3 by omega) with
  | [a, b, c], _ => exact ⟨a, b, c, rfl⟩
 have E := fun (hk : ¬(k = 5 ∨ k = 13 ∨ k = 14)) => A92 (n7 hk)
 have E2 := fun (hk : k ≠ 14) => And.intro (A92 (n9 hk).1) (n9 hk).2
 have E3 := fun (hk : k ≠ 2) => show num = 0 by have := A1k (n5 hk); omega
 clear n1 n5 n7 n9 h
 rcases hkk with rfl | rfl | rfl | rfl | rfl | rfl | rfl | rfl | rfl | rfl | rfl | rfl | rfl | rfl
 ·obtain ⟨h1, h2, h3⟩ := A40 (n2 (.inl rfl))
  rw [L0 rfl, E (by decide), (E2 (by decide)).1, (E2 (by decide)).2, E3 (by decide), h1]
  exact .var _ h2 h3
 ·have h2 := A1k (n4 rfl)
  rw [L0 rfl, E (by decide), (E2 (by decide)).1, (E2 (by decide)).2, n3 (by decide)]
  exact .num _ h2.1 h2.2
 ·rw [L0 rfl, E (by decide), (E2 (by decide)).1, (E2 (by decide)).2, n3 (by decide), E3 (by decide)]; exact .tru
 ·rw [L0 rfl, E (by decide), (E2 (by decide)).1, (E2 (by decide)).2, n3 (by decide), E3 (by decide)]; exact .fls
 ·obtain ⟨a, rfl⟩ := L1 rfl
  obtain ⟨h1, h2, h3⟩ := A40 (n2 (.inr rfl))
  rw [(E2 (by decide)).1, (E2 (by decide)).2, E3 (by decide), h1]
  exact .lam _ _ _ h2 h3 (n6 (.inl rfl))
 ·obtain ⟨a, b, rfl⟩ := L2 rfl
  rw [E (by decide), (E2 (by decide)).1, (E2 (by decide)).2, n3 (by decide), E3 (by decide)]; exact .bin _ _ _ (by decide)
 ·obtain ⟨a, b, rfl⟩ := L2 rfl
  rw [E (by decide), (E2 (by decide)).1, (E2 (by decide)).2, n3 (by decide), E3 (by decide)]; exact .bin _ _ _ (by decide)
 ·obtain ⟨a, b, rfl⟩ := L2 rfl
  rw [E (by decide), (E2 (by decide)).1, (E2 (by decide)).2, n3 (by decide), E3 (by decide)]; exact .bin _ _ _ (by decide)
 ·obtain ⟨a, b, c, rfl⟩ := L3 rfl
  rw [E (by decide), (E2 (by decide)).1, (E2 (by decide)).2, n3 (by decide), E3 (by decide)]; exact .ite _ _ _
 ·obtain ⟨a, b, rfl⟩ := L2 rfl
  rw [E (by decide), (E2 (by decide)).1, (E2 (by decide)).2, n3 (by decide), E3 (by decide)]; exact .pair _ _
 ·obtain ⟨a, rfl⟩ := L1 rfl
  rw [E (by decide), (E2 (by decide)).1, (E2 (by decide)).2, n3 (by decide), E3 (by decide)]; exact .un _ _ (by decide)
 ·obtain ⟨a, rfl⟩ := L1 rfl
  rw [E (by decide), (E2 (by decide)).1, (E2 (by decide)).2, n3 (by decide), E3 (by decide)]; exact .un _ _ (by decide)
 ·obtain ⟨a, rfl⟩ := L1 rfl
  rw [(E2 (by decide)).1, (E2 (by decide)).2, n3 (by decide), E3 (by decide)]; exact .asc _ _ (n6 (by decide))
 ·obtain ⟨a, rfl⟩ := L1 rfl
  obtain ⟨h1, h2⟩ := n8 rfl
  unfold A0C at h1
  simp only [Bool.and_eq_true] at h1
  unfold Z0 at h2
  rw [Bool.or_eq_true] at h2
  rw [n3 (by decide), E3 (by decide)]
  exact .cast _ _ _ _ (n6 (by decide)) h1.1.1 (by rcases h2 with h | h <;> have := A1k h <;> omega) (by rcases h2 with h | h <;> have := A1k h <;> omega)
theorem A6y {n : Int} (h0 : 0 ≤ n) (h : n ≤ 999) (rest : A3) : ∃ c r, Lib.itoa n ++ rest = c :: r ∧ J0 c := by
 rw [A3Y h0 h]
 obtain ⟨h1, h2, _⟩ := A2f (u := n.toNat) (by omega)
 match hd : W0 n.toNat, h2 with
 | c :: r, _ => exact ⟨c, r ++ rest, rfl, h1 c (by rw [hd]; exact List.mem_cons_self)⟩
set_option maxRecDepth 4000 in
theorem B4w (D N : Int) : ∀ (n : Nat) (e : Tm) (d : Int) (rest : A3), L8 D N e d = true → D + 1 - d ≤ n → ndg rest → I2 n (B0 e ++ rest) = some (e, rest) := by
 intro n
 induction n with
 | zero =>
  intro e d rest h hn
  obtain ⟨k, nm, num, ty, fr, lb, ks⟩ := e
  have := (Z4 h).1
  omega
 | succ m ih =>
  intro e d rest h hn hr
  obtain ⟨k, nm, num, ty, fr, lb, ks⟩ := e
  obtain ⟨hd, _, h3, h4⟩ := Z4 h
  have I : ∀ x ∈ ks, ∀ rs, ndg rs → I2 m (B0 x ++ rs) = some (x, rs) := fun x hx rs hrs => by
   obtain ⟨i, hi, rfl⟩ := List.getElem_of_mem hx
   exact ih _ (d + 1) rs ((A0m D N ks _).1 h4 i hi) (by omega) hrs
  have hf := A6x h3
  have e0 : ∀ x : Tm, x = .mk k nm num ty fr lb ks → x.ks = ks := fun x hx => by rw [hx]; rfl
  generalize hX : Tm.mk k nm num ty fr lb ks = X at hf e0 ⊢
  have I : ∀ x ∈ X.ks, ∀ rs, ndg rs → I2 m (B0 x ++ rs) = some (x, rs) := by rw [e0 X rfl]; exact I
  clear h h3 h4 hd ih e0 hX
  cases hf with
  | var b h1 h2 =>
   have e : B0 (.mk 1 ⟨#[b]⟩ 0 A7 A7 0 []) ++ rest = b :: rest := by simp [B0, L5]
   rw [e, I2, if_pos ⟨h1, h2⟩]
  | num n h1 h2 =>
   have e : B0 (.mk 2 ⟨#[]⟩ n A7 A7 0 []) ++ rest = Lib.itoa n ++ rest := by simp [B0, L5]
   obtain ⟨c, r, e2, hc⟩ := A6y h1 h2 rest
   have hp := A91 (n := n) (by omega) h2 hr
   rw [e, e2]
   rw [e2] at hp
   have hc2 := hc
   unfold J0 at hc2
   rw [I2, if_neg (by omega), if_pos hc, hp]; rfl
  | tru => simp [B0, L5, nd, I2, J0]
  | fls => simp [B0, L5, nd, I2, J0]
  | lam b ty a h1 h2 ht =>
   have e : B0 (.mk 5 ⟨#[b]⟩ 0 ty A7 0 [a]) ++ rest = 33 :: b :: 58 :: (O7 ty ++ (46 :: (B0 a ++ rest))) := by simp [B0, R6, L5]
   rw [e, I2, if_neg (by decide), if_neg (by decide), if_neg (by decide), if_neg (by decide), if_pos rfl]
   have hT := A42 4 ty 1 (46 :: (B0 a ++ rest)) ht (by decide)
   simp [A3e, T9, F9, hT, I a (by simp [Tm.ks]) rest hr]
  | bin k a b hk =>
   have ha := I a (by simp [Tm.ks, nd])
   have hb := I b (by simp [Tm.ks, nd]) (41 :: rest) (U1 (by decide))
   rcases hk with rfl | rfl | rfl
   ·have e : B0 (nd 6 [a, b]) ++ rest = 40 :: (B0 a ++ (32 :: (B0 b ++ (41 :: rest)))) := by simp [B0, R6, L5, nd]
    rw [e, I2]
    simp [J0, V9, ha (32 :: _) (U1 (by decide)), T9, A1N, hb, F9]
   ·have e : B0 (nd 7 [a, b]) ++ rest = 40 :: (B0 a ++ (43 :: (B0 b ++ (41 :: rest)))) := by simp [B0, R6, L5, nd]
    rw [e, I2]
    simp [J0, V9, ha (43 :: _) (U1 (by decide)), T9, A1N, hb, F9]
   ·have e : B0 (nd 8 [a, b]) ++ rest = 40 :: (B0 a ++ (60 :: (B0 b ++ (41 :: rest)))) := by simp [B0, R6, L5, nd]
    rw [e, I2]
    simp [J0, V9, ha (60 :: _) (U1 (by decide)), T9, A1N, hb, F9]
  | ite a b c =>
   have e : B0 (nd 9 [a, b, c]) ++ rest = 123 :: (B0 a ++ (63 :: (B0 b ++ (58 :: (B0 c ++ (125 :: rest)))))) := by simp [B0, R6, L5, nd]
   rw [e, I2]
   simp [J0, pIf, I a (by simp [Tm.ks, nd]) (63 :: _) (U1 (by decide)), I b (by simp [Tm.ks, nd]) (58 :: _) (U1 (by decide)), I c (by simp [Tm.ks, nd]) (125 :: _) (U1 (by decide)), F9]
  | pair a b =>
   have e : B0 (nd 10 [a, b]) ++ rest = 91 :: (B0 a ++ (44 :: (B0 b ++ (93 :: rest)))) := by simp [B0, R6, L5, nd]
   rw [e, I2]
   simp [J0, A3f, I a (by simp [Tm.ks, nd]) (44 :: _) (U1 (by decide)), I b (by simp [Tm.ks, nd]) (93 :: _) (U1 (by decide)), F9]
  | un k a hk =>
   have ha := I a (by simp [Tm.ks, nd]) rest hr
   rcases hk with rfl | rfl
   ·have e : B0 (nd 11 [a]) ++ rest = 36 :: (B0 a ++ rest) := by simp [B0, R6, L5, nd]
    rw [e, I2]
    simp [J0, V1, ha]
   ·have e : B0 (nd 12 [a]) ++ rest = 37 :: (B0 a ++ rest) := by simp [B0, R6, L5, nd]
    rw [e, I2]
    simp [J0, V1, ha]
  | asc ty a ht =>
   have e : B0 (.mk 13 ⟨#[]⟩ 0 ty A7 0 [a]) ++ rest = 40 :: (B0 a ++ (58 :: (O7 ty ++ (41 :: rest)))) := by simp [B0, R6, L5]
   rw [e, I2]
   have hT := A42 4 ty 1 (41 :: rest) ht (by decide)
   simp [J0, V9, I a (by simp [Tm.ks]) (58 :: _) (U1 (by decide)), T9, pAs, hT, F9]
  | cast ty fr lb a ht hf hl1 hl2 =>
   have e : B0 (.mk 14 ⟨#[]⟩ 0 ty fr lb [a]) ++ rest = 40 :: (B0 a ++ (58 :: (O7 fr ++ (126 :: (O7 ty ++ (35 :: (Lib.itoa lb ++ (41 :: rest)))))))) := by simp [B0, R6, L5]
   rw [e, I2]
   have hF := fun rs => A42 4 fr 1 rs hf (by decide)
   have hT := fun rs => A42 4 ty 1 rs ht (by decide)
   simp [J0, V9, I a (by simp [Tm.ks]) (58 :: _) (U1 (by decide)), T9, pAs, hF, hT, F9, A91 hl1 hl2 (U1 (c := 41) (l := rest) (by decide))]
set_option maxRecDepth 4000 in
theorem B4x (D N : Int) : ∀ (n : Nat) (e : Tm) (d : Int) (rest : A3), L8 D N e d = true → D + 1 - d ≤ n → ndg rest → J2 n (B0 e ++ rest) = some (e, rest) := by
 intro n
 induction n with
 | zero =>
  intro e d rest h hn
  obtain ⟨k, nm, num, ty, fr, lb, ks⟩ := e
  have := (Z4 h).1
  omega
 | succ m ih =>
  intro e d rest h hn hr
  obtain ⟨k, nm, num, ty, fr, lb, ks⟩ := e
  obtain ⟨hd, _, h3, h4⟩ := Z4 h
  have I : ∀ x ∈ ks, ∀ rs, ndg rs → J2 m (B0 x ++ rs) = some (x, rs) := fun x hx rs hrs => by
   obtain ⟨i, hi, rfl⟩ := List.getElem_of_mem hx
   exact ih _ (d + 1) rs ((A0m D N ks _).1 h4 i hi) (by omega) hrs
  have hf := A6x h3
  have e0 : ∀ x : Tm, x = .mk k nm num ty fr lb ks → x.ks = ks := fun x hx => by rw [hx]; rfl
  generalize hX : Tm.mk k nm num ty fr lb ks = X at hf e0 ⊢
  have I : ∀ x ∈ X.ks, ∀ rs, ndg rs → J2 m (B0 x ++ rs) = some (x, rs) := by rw [e0 X rfl]; exact I
  clear h h3 h4 hd ih e0 hX
  cases hf with
  | var b h1 h2 =>
   have e : B0 (.mk 1 ⟨#[b]⟩ 0 A7 A7 0 []) ++ rest = b :: rest := by simp [B0, L5]
   have hne : ∀ c : UInt8, c.toNat < 97 ∨ 122 < c.toNat → b ≠ c := fun c hc he => by rw [he] at h1 h2; omega
   rw [e, J2, if_neg (hne _ (by decide)), if_neg (hne _ (by decide)), if_neg (hne _ (by decide)), if_neg (hne _ (by decide)), if_neg (hne _ (by decide)), if_neg (hne _ (by decide)), if_neg (hne _ (by decide)), if_neg (hne _ (by decide)), if_pos ⟨h1, h2⟩]
  | num n h1 h2 =>
   have e : B0 (.mk 2 ⟨#[]⟩ n A7 A7 0 []) ++ rest = Lib.itoa n ++ rest := by simp [B0, L5]
   obtain ⟨c, r, e2, hc⟩ := A6y h1 h2 rest
   have hp := A6w (u := n.toNat) (by omega) hr
   rw [← A3Y h1 h2] at hp
   rw [e, e2]
   rw [e2] at hp
   unfold J0 at hc
   have hne : ∀ x : UInt8, x.toNat < 48 ∨ 57 < x.toNat → c ≠ x := fun x hx he => by rw [he] at hc; omega
   rw [J2, if_neg (hne _ (by decide)), if_neg (hne _ (by decide)), if_neg (hne _ (by decide)), if_neg (hne _ (by decide)), if_neg (hne _ (by decide)), if_neg (hne _ (by decide)), if_neg (hne _ (by decide)), if_neg (hne _ (by decide)), if_neg (by omega), hp, Option.map_some, Int.toNat_of_nonneg h1]
  | tru => simp [B0, L5, nd, J2]
  | fls => simp [B0, L5, nd, J2]
  | lam b ty a h1 h2 ht =>
   have e : B0 (.mk 5 ⟨#[b]⟩ 0 ty A7 0 [a]) ++ rest = 33 :: b :: 58 :: (O7 ty ++ (46 :: (B0 a ++ rest))) := by simp [B0, R6, L5]
   rw [e, J2, if_neg (by decide), if_neg (by decide), if_pos rfl]
   have hT := A43 4 ty 1 (46 :: (B0 a ++ rest)) ht (by decide)
   simp [A0o, T9, F9, hT, I a (by simp [Tm.ks]) rest hr]
  | bin k a b hk =>
   have ha := I a (by simp [Tm.ks, nd])
   have hb := I b (by simp [Tm.ks, nd]) (41 :: rest) (U1 (by decide))
   rcases hk with rfl | rfl | rfl
   ·have e : B0 (nd 6 [a, b]) ++ rest = 40 :: (B0 a ++ (32 :: (B0 b ++ (41 :: rest)))) := by simp [B0, R6, L5, nd]
    rw [e, J2]
    simp [X8, ha (32 :: _) (U1 (by decide)), T9, A1O, U0, hb, F9]
   ·have e : B0 (nd 7 [a, b]) ++ rest = 40 :: (B0 a ++ (43 :: (B0 b ++ (41 :: rest)))) := by simp [B0, R6, L5, nd]
    rw [e, J2]
    simp [X8, ha (43 :: _) (U1 (by decide)), T9, A1O, U0, hb, F9]
   ·have e : B0 (nd 8 [a, b]) ++ rest = 40 :: (B0 a ++ (60 :: (B0 b ++ (41 :: rest)))) := by simp [B0, R6, L5, nd]
    rw [e, J2]
    simp [X8, ha (60 :: _) (U1 (by decide)), T9, A1O, U0, hb, F9]
  | ite a b c =>
   have e : B0 (nd 9 [a, b, c]) ++ rest = 123 :: (B0 a ++ (63 :: (B0 b ++ (58 :: (B0 c ++ (125 :: rest)))))) := by simp [B0, R6, L5, nd]
   rw [e, J2]
   simp [U0, I a (by simp [Tm.ks, nd]) (63 :: _) (U1 (by decide)), I b (by simp [Tm.ks, nd]) (58 :: _) (U1 (by decide)), I c (by simp [Tm.ks, nd]) (125 :: _) (U1 (by decide)), F9]
  | pair a b =>
   have e : B0 (nd 10 [a, b]) ++ rest = 91 :: (B0 a ++ (44 :: (B0 b ++ (93 :: rest)))) := by simp [B0, R6, L5, nd]
   rw [e, J2]
   simp [U0, I a (by simp [Tm.ks, nd]) (44 :: _) (U1 (by decide)), I b (by simp [Tm.ks, nd]) (93 :: _) (U1 (by decide)), F9]
  | un k a hk =>
   have ha := I a (by simp [Tm.ks, nd]) rest hr
   rcases hk with rfl | rfl
   ·have e : B0 (nd 11 [a]) ++ rest = 36 :: (B0 a ++ rest) := by simp [B0, R6, L5, nd]
    rw [e, J2]
    simp [V1, ha]
   ·have e : B0 (nd 12 [a]) ++ rest = 37 :: (B0 a ++ rest) := by simp [B0, R6, L5, nd]
    rw [e, J2]
    simp [V1, ha]
  | asc ty a ht =>
   have e : B0 (.mk 13 ⟨#[]⟩ 0 ty A7 0 [a]) ++ rest = 40 :: (B0 a ++ (58 :: (O7 ty ++ (41 :: rest)))) := by simp [B0, R6, L5]
   rw [e, J2]
   have hT := A43 4 ty 1 (41 :: rest) ht (by decide)
   simp [X8, I a (by simp [Tm.ks]) (58 :: _) (U1 (by decide)), T9, rAs, hT]
  | cast ty fr lb a ht hf hl1 hl2 =>
   have e : B0 (.mk 14 ⟨#[]⟩ 0 ty fr lb [a]) ++ rest = 40 :: (B0 a ++ (58 :: (O7 fr ++ (126 :: (O7 ty ++ (35 :: (Lib.itoa lb ++ (41 :: rest)))))))) := by simp [B0, R6, L5]
   rw [e, J2]
   have hF := fun rs => A43 4 fr 1 rs hf (by decide)
   have hT := fun rs => A43 4 ty 1 rs ht (by decide)
   have hL : A0e a fr (O7 ty ++ (35 :: (Lib.itoa lb ++ (41 :: rest)))) = some (.mk 14 ⟨#[]⟩ 0 ty fr lb [a], rest) := by
    unfold A0e
    rw [hT]
    simp only [Option.bind_some, F9, if_true]
    by_cases hl : lb < 0
    ·rw [A6v hl hl1]
     simp [A6w (u := lb.natAbs) (by omega) (U1 (c := 41) (l := rest) (by decide)), F9]
     omega
    ·have h0 : 0 ≤ lb := by omega
     obtain ⟨c, r, e2, hc⟩ := A6y h0 hl2 (41 :: rest)
     have hp := A6w (u := lb.toNat) (by omega) (U1 (c := 41) (l := rest) (by decide))
     rw [← A3Y h0 hl2, e2] at hp
     rw [e2]
     have hc45 : c ≠ 45 := fun he => by rw [he] at hc; exact absurd hc (by decide)
     simp [hc45, hp, F9]
     omega
   simp [X8, I a (by simp [Tm.ks]) (58 :: _) (U1 (by decide)), T9, rAs, hF, hL]
def B7v (V : Tm → Bool) (l : A3) (e : Tm) : Prop := V e = true ∧ B0 e = l
theorem A6z {D N : Int} {e : Tm} {n : Nat} (h : L8 D N e 1 = true) (hn : D ≤ n) : I2 n (B0 e) = some (e, []) := by
 have := B4w D N n e 1 [] h (by omega) rfl
 rwa [List.append_nil] at this
theorem B4y {D N : Int} {e : Tm} {n : Nat} (h : L8 D N e 1 = true) (hn : D ≤ n) : J2 n (B0 e) = some (e, []) := by
 have := B4x D N n e 1 [] h (by omega) rfl
 rwa [List.append_nil] at this
theorem B4z {e f : Tm} {D N : Int} (he : L8 D N e 1 = true) (hf : L8 D N f 1 = true) (hD : 0 ≤ D) (h : B0 e = B0 f) : e = f := by
 have h1 := A6z (n := D.toNat) he (by omega)
 have h2 := A6z (n := D.toNat) hf (by omega)
 rw [h, h2] at h1
 exact ((Prod.mk.inj (Option.some.inj h1)).1).symm
section slaws2
variable {P : Program} {Γ : K0} {env : K3} {hp : List A4} {G : IM} {ty : TypeId}
theorem A6A {x y : Operand} {t t' : TypeId} {r s : ByteArray} (h : r = s) (hx : evo env x = some (.string r)) (hy : evo env y = some (.string s)) :
  H5 P Γ ⟨env, hp, G⟩ (.binOp .eql t x y t') ty (.bool true) := by
 have h2 := A02 (P := P) (Γ := Γ) (hp := hp) (G := G) (t := t) (t' := t') (ty := ty) hx hy
 rwa [decide_eq_true h] at h2
theorem A6B {x y : Operand} {t t' : TypeId} {r s : ByteArray} (h : r ≠ s) (hx : evo env x = some (.string r)) (hy : evo env y = some (.string s)) :
  H5 P Γ ⟨env, hp, G⟩ (.binOp .eql t x y t') ty (.bool false) := by
 have h2 := A02 (P := P) (Γ := Γ) (hp := hp) (G := G) (t := t) (t' := t') (ty := ty) hx hy
 rwa [decide_eq_false h] at h2
end slaws2
def D6 (l : A3) : ByteArray := ⟨l.toArray⟩
theorem N3 (l : A3) : (D6 l).size = l.length := rfl
theorem A6C : D6 [] = ⟨⟨[]⟩⟩ := rfl
theorem A6D (b : UInt8) (l : A3) : D6 (b :: l) ≠ ⟨⟨[]⟩⟩ := fun h => by
 have := congrArg (fun x : ByteArray => x.size) h
 simp [D6, ByteArray.size] at this
theorem A45 {a b : A3} (h : D6 a = D6 b) : a = b := by
 have := congrArg (fun x : ByteArray => x.data.toList) h
 simpa [D6] using this
theorem A6E (s : ByteArray) : D6 s.data.toList = s := by obtain ⟨⟨l⟩⟩ := s; rfl
theorem A0V (l : A3) (i j : Nat) : (D6 l).extract i j = D6 ((l.drop i).take (j - i)) := by
 apply ByteArray.ext
 rw [ByteArray.data_extract]
 apply Array.ext'
 simp only [Array.toList_extract, D6]
theorem B4A (b : UInt8) (l : A3) : (D6 (b :: l)).extract 1 (D6 (b :: l)).size = D6 l := by
 rw [A0V, N3]
 simp
theorem A93 (b : UInt8) (l : A3) : (D6 (b :: l))[(0 : Int).toNat]? = some b := by
 show (D6 (b :: l))[0]? = some b
 rw [getElem?_pos (D6 (b :: l)) 0 (by rw [N3]; simp)]
 rfl
def T3 (S : Option A3) (cs : List Value) : Prop := (S = none ∧ ∃ s : ByteArray, s.size ≤ 4294967296 ∧ cs = [.string s, .bool true]) ∨ (∃ l : A3, S = some l ∧ l.length ≤ 4294967296 ∧ cs = [.string (D6 l), .bool false])
theorem T3.no {s : ByteArray} (h : s.size ≤ 4294967296) : T3 none [.string s, .bool true] := .inl ⟨rfl, s, h, rfl⟩
theorem T3.yes {l : A3} (h : l.length ≤ 4294967296) : T3 (some l) [.string (D6 l), .bool false] := .inr ⟨l, rfl, h, rfl⟩
theorem T3.open {S : Option A3} {cs : List Value} (h : T3 S cs) : ∃ s bad, cs = [.string s, .bool bad] ∧ s.size ≤ 4294967296 := by
 rcases h with ⟨_, s, h, rfl⟩ | ⟨l, _, h, rfl⟩
 ·exact ⟨s, _, rfl, h⟩
 ·exact ⟨_, _, rfl, h⟩
theorem T3.bad {S : Option A3} {s : ByteArray} {bad : Bool} (h : T3 S [.string s, .bool bad]) : T3 none [.string s, .bool true] := by
 obtain ⟨s', bad', h1, h2⟩ := h.open
 cases h1
 exact .no h2
def H1 : Option A3 → UInt8
 | some (b :: _) => b
 | _ => 0
def O9 : Option A3 → Option A3
 | some (_ :: l) => some l
 | _ => none
def RdP (b : Nat) (S' : Option A3) (Φ : IM → Value → Prop) : IM → Value → List A4 → Prop := fun G' v outs => ∃ cs', outs = [.blk b cs'] ∧ T3 S' cs' ∧ Φ G' v
theorem A1s (b : Nat) (S : Option A3) (cs : List Value) (G : IM) (h : T3 S cs) : Fn Tryz.prog 150 [.pointer (some ⟨b, 0, none⟩)] [.blk b cs] G (RdP b (O9 S) fun G' v => G' = G ∧ v = .int .u8 ((H1 S).toNat : Int)) := by
 rcases h with ⟨rfl, s, hs, rfl⟩ | ⟨l, rfl, hl, rfl⟩
 ·refine B8 Tryz.func150 rfl Tryz.ntmps150 Tryz.results150 rfl ?_
  intro w0
  refine C7 ?_
  refine sQ (C1 rfl) rfl ?_
  refine M3 ?_
  refine sQ (C1 rfl) rfl ?_
  refine I6 ?_
  refine C4 (rT rfl) (.cons (by repeat (first | exact Pk.here | apply Pk.there)) .nil) ?_
  (exact ⟨_, rfl, .no hs, rfl, rfl⟩)
 ·cases l with
  | nil =>
   refine B8 Tryz.func150 rfl Tryz.ntmps150 Tryz.results150 rfl ?_
   intro w0
   refine C7 ?_
   refine sQ (C1 rfl) rfl ?_
   refine H9 ?_
   refine sQ (C1 rfl) rfl ?_
   refine sQ (A9 rfl) rfl (sL (C2 rfl rfl) rfl rfl ?_)
   refine sP (A6A A6C rfl rfl) rfl rfl ?_
   refine B7 ?_
   refine sQ (C1 rfl) rfl ?_
   refine I6 ?_
   refine C4 (rT rfl) (.cons (by repeat (first | exact Pk.here | apply Pk.there)) .nil) ?_
   (exact ⟨_, rfl, .no (by simp [N3]), rfl, rfl⟩)
  | cons c r =>
   have hr : r.length ≤ 4294967296 := by rw [List.length_cons] at hl; omega
   refine B8 Tryz.func150 rfl Tryz.ntmps150 Tryz.results150 rfl ?_
   intro w0
   refine C7 ?_
   refine sQ (C1 rfl) rfl ?_
   refine H9 ?_
   refine sQ (C1 rfl) rfl ?_
   refine sQ (A9 rfl) rfl (sL (C2 rfl rfl) rfl rfl ?_)
   refine sP (A6B (A6D _ _) rfl rfl) rfl rfl ?_
   refine C7 ?_
   refine sQ (C1 rfl) rfl ?_
   refine sQ (A9 rfl) rfl (sL (C2 rfl rfl) rfl rfl ?_)
   refine sP (R8 rfl rfl rfl (by decide) (A93 _ _)) rfl rfl ?_
   refine B7 ?_
   refine sQ (C1 rfl) rfl ?_
   refine sQ (A9 rfl) rfl (sL (C2 rfl rfl) rfl rfl ?_)
   (refine sP (U5 (l := 1) rfl rfl rfl (by rw [N3]; simp)) rfl rfl ?_; rw [B4A])
   refine sQ (C1 rfl) rfl ?_
   refine I6 ?_
   refine C4 (rT rfl) (.cons (by repeat (first | exact Pk.here | apply Pk.there)) .nil) ?_
   (exact ⟨_, rfl, .yes hr, rfl, rfl⟩)
theorem A3Z (b : Nat) (S : Option A3) (cs : List Value) (G : IM) (h : T3 S cs) : Fn Tryz.prog 149 [.pointer (some ⟨b, 0, none⟩)] [.blk b cs] G (fun G' v outs => G' = G ∧ v = .int .u8 ((H1 S).toNat : Int) ∧ outs = [.blk b cs]) := by
 rcases h with ⟨rfl, s, hs, rfl⟩ | ⟨l, rfl, hl, rfl⟩
 ·refine B8 Tryz.func149 rfl Tryz.ntmps149 Tryz.results149 rfl ?_
  intro w0
  refine C7 ?_
  refine sQ (C1 rfl) rfl ?_
  refine A0v ?_
  refine C4 (rT rfl) (.cons (by repeat (first | exact Pk.here | apply Pk.there)) .nil) ?_
  (exact ⟨rfl, rfl, rfl⟩)
 ·cases l with
  | nil =>
   refine B8 Tryz.func149 rfl Tryz.ntmps149 Tryz.results149 rfl ?_
   intro w0
   refine C7 ?_
   refine sQ (C1 rfl) rfl ?_
   refine H9 ?_
   refine sQ (C1 rfl) rfl ?_
   refine sQ (A9 rfl) rfl (sL (C2 rfl rfl) rfl rfl ?_)
   refine sP (A6A A6C rfl rfl) rfl rfl ?_
   refine I6 ?_
   refine C4 (rT rfl) (.cons (by repeat (first | exact Pk.here | apply Pk.there)) .nil) ?_
   (exact ⟨rfl, rfl, rfl⟩)
  | cons c r =>
   refine B8 Tryz.func149 rfl Tryz.ntmps149 Tryz.results149 rfl ?_
   intro w0
   refine C7 ?_
   refine sQ (C1 rfl) rfl ?_
   refine H9 ?_
   refine sQ (C1 rfl) rfl ?_
   refine sQ (A9 rfl) rfl (sL (C2 rfl rfl) rfl rfl ?_)
   refine sP (A6B (A6D _ _) rfl rfl) rfl rfl ?_
   refine C7 ?_
   refine sQ (C1 rfl) rfl ?_
   refine sQ (A9 rfl) rfl (sL (C2 rfl rfl) rfl rfl ?_)
   refine sP (R8 rfl rfl rfl (by decide) (A93 _ _)) rfl rfl ?_
   refine sQ (qA rfl) rfl (sD (nS (tT ?_)))
   refine C4 (rT rfl) (.cons (by repeat (first | exact Pk.here | apply Pk.there)) .nil) ?_
   (exact ⟨rfl, rfl, rfl⟩)
theorem B4B {S : Option A3} {c : UInt8} (h : H1 S = c) : S.bind (F9 c) = O9 S := by
 rcases S with _ | _ | ⟨b, l⟩
 ·rfl
 ·rfl
 ·have h : b = c := h
  show F9 c (b :: l) = _
  rw [F9, if_pos h]; rfl
theorem B4C {S : Option A3} {c : UInt8} (h : H1 S ≠ c) : S.bind (F9 c) = none := by
 rcases S with _ | _ | ⟨b, l⟩
 ·rfl
 ·rfl
 ·have h : b ≠ c := h
  show F9 c (b :: l) = _
  rw [F9, if_neg h]
theorem B4D {S : Option A3} {lo hi : Int} (h : lo ≤ S9 (H1 S) ∧ S9 (H1 S) ≤ hi) : (S.bind (V8 lo hi)).map Prod.snd = O9 S := by
 rcases S with _ | _ | ⟨b, l⟩
 ·rfl
 ·rfl
 ·have h : lo ≤ S9 b ∧ S9 b ≤ hi := h
  show (V8 lo hi (b :: l)).map _ = _
  rw [V8, if_pos h]; rfl
theorem B4E {S : Option A3} {lo hi : Int} (h : ¬(lo ≤ S9 (H1 S) ∧ S9 (H1 S) ≤ hi)) : (S.bind (V8 lo hi)).map Prod.snd = none := by
 rcases S with _ | _ | ⟨b, l⟩
 ·rfl
 ·rfl
 ·have h : ¬(lo ≤ S9 b ∧ S9 b ≤ hi) := h
  show (V8 lo hi (b :: l)).map _ = _
  rw [V8, if_neg h]; rfl
theorem B4F {S : Option A3} {lo hi : Int} (h : O9 S = none) : (S.bind (V8 lo hi)).map Prod.snd = none := by
 rcases S with _ | _ | ⟨b, l⟩
 ·rfl
 ·rfl
 ·cases h
theorem A94 {S : Option A3} {lo hi : Int} : ∀ x, S.bind (V8 lo hi) = some x → S9 (H1 S) = x.1 := by
 rcases S with _ | _ | ⟨b, l⟩
 ·intro x h; cases h
 ·intro x h; cases h
 ·intro x h
  have h : V8 lo hi (b :: l) = some x := h
  rw [V8] at h
  split at h
  ·cases h; rfl
  ·cases h
theorem A6F (b : UInt8) : 0 ≤ S9 b ∧ S9 b ≤ 5 := by
 unfold S9; repeat' split
 all_goals omega
theorem B4G (b : UInt8) : Lib.indexByte [63, 73, 66, 62, 42] b = S9 b - 1 := by
 by_cases h1 : b = 63
 ·subst h1; rfl
 by_cases h2 : b = 73
 ·subst h2; rfl
 by_cases h3 : b = 66
 ·subst h3; rfl
 by_cases h4 : b = 62
 ·subst h4; rfl
 by_cases h5 : b = 42
 ·subst h5; rfl
 have e : ∀ x : UInt8, b ≠ x → (x == b) = false := fun x h => by rw [beq_eq_false_iff_ne]; exact fun he => h he.symm
 unfold S9
 rw [if_neg h1, if_neg h2, if_neg h3, if_neg h4, if_neg h5]
 simp [Lib.indexByte, e _ h1, e _ h2, e _ h3, e _ h4, e _ h5]
theorem B4H (b : UInt8) (G : IM) : Fn Tryz.prog 216 [.string ⟨⟨[63, 73, 66, 62, 42]⟩⟩, .int .u8 (b.toNat : Int)] [] G (L6 (.int .i64 (S9 b - 1)) G) := by
 refine ⟨fun w hw => ?_⟩
 refine (Tryz.strings_IndexByte ⟨⟨[63, 73, 66, 62, 42]⟩⟩ (b.toNat : Int) w).mono ?_
 rintro e w' ⟨rfl, rfl⟩
 refine ⟨_, G, [], rfl, R7.refl hw, rfl, ?_, rfl⟩
 have hb : (b.toNat : Int).toNat.toUInt8 = b := by simp
 rw [hb]
 exact congrArg (fun z => Value.int .i64 z) (B4G b)
theorem J3 {a b : UInt8} (h : (a.toNat : Int) ≠ (b.toNat : Int)) : a ≠ b := fun he => h (by rw [he])
theorem J5 {a b : UInt8} (h : (a.toNat : Int) = (b.toNat : Int)) : a = b := UInt8.toNat_inj.1 (by omega)
theorem A0u (b : Nat) (c : UInt8) (S : Option A3) (cs : List Value) (G : IM) (h : T3 S cs) : Fn Tryz.prog 154 [.pointer (some ⟨b, 0, none⟩), .int .u8 (c.toNat : Int)] [.blk b cs] G (RdP b (S.bind (F9 c)) fun G' v => G' = G ∧ v = .tuple ⟨[]⟩) := by
 have hO := A1s b S cs G h
 refine B8 Tryz.func154 rfl Tryz.ntmps154 Tryz.results154 rfl ?_
 intro w0
 refine tR (sQ (qM rfl) rfl (sQ (qM rfl) rfl ?_))
 (refine C0 rfl hO (Pk.perm (by repeat (first | exact Pk.here | apply Pk.there))) rfl rfl (fun v G1 outs hle1 hh => ?_); obtain ⟨Q0, rfl, hR1, hG, rfl⟩ := hh; replace hG := hG.symm; subst hG; obtain ⟨s1, bad1, rfl, hs1⟩ := hR1.open)
 refine sQ (qM rfl) rfl ?_
 refine sB (P5 rfl rfl) rfl rfl (fun h6 => ?_) (fun h6 => ?_)
 refine K4 ?_
 refine sQ (C1 rfl) rfl ?_
 refine sQ (A9 rfl) rfl (H2 ?_)
 refine sD ?_
 refine A9U (.cons (by repeat (first | exact Pk.here | apply Pk.there)) .nil) ?_
 (rw [B4C (J3 (by assumption))]; exact ⟨_, rfl, hR1.bad, rfl, rfl⟩)
 refine sQ (qM rfl) rfl (sQ (qM rfl) rfl ?_)
 refine sQ (C1 rfl) rfl ?_
 refine H0 ?_
 refine sQ (C1 rfl) rfl ?_
 refine sQ (A9 rfl) rfl (H2 ?_)
 refine sD ?_
 refine A9U (.cons (by repeat (first | exact Pk.here | apply Pk.there)) .nil) ?_
 (rw [B4B (J5 (by omega))]; exact ⟨_, rfl, hR1, rfl, rfl⟩)
theorem A6G (b : Nat) (lo hi : Int) (S : Option A3) (cs : List Value) (G : IM) (h : T3 S cs) : Fn Tryz.prog 190 [.pointer (some ⟨b, 0, none⟩), .int .i64 lo, .int .i64 hi] [.blk b cs] G (RdP b ((S.bind (V8 lo hi)).map Prod.snd) fun G' v => G' = G ∧ v = .int .i64 (S9 (H1 S))) := by
 have hO := A1s b S cs G h
 have hk := A6F (H1 S)
 have hki := @B4D S lo hi
 have hko := @B4E S lo hi
 have hkn := @B4F S lo hi
 refine B8 Tryz.func190 rfl Tryz.ntmps190 Tryz.results190 rfl ?_
 intro w0
 refine F8 ?_
 (refine C0 rfl hO (Pk.perm (by repeat (first | exact Pk.here | apply Pk.there))) rfl rfl (fun v G1 outs hle1 hh => ?_); obtain ⟨Q0, rfl, hR1, hG, rfl⟩ := hh; replace hG := hG.symm; subst hG)
 refine H7 rfl ((B4H (H1 S) _)) rfl rfl ?_
 (refine sP (N0 rfl rfl (by omega) (by omega)) rfl rfl ?_; rw [show (1 : Int) + (S9 (H1 S) - 1) = S9 (H1 S) by omega]; rcases hR1 with ⟨hS, s1, hs1, rfl⟩ | ⟨l1, hS, hl1, rfl⟩)
 refine B7 ?_
 refine sQ (C1 rfl) rfl ?_
 refine C7 ?_
 refine sQ (C1 rfl) rfl ?_
 refine I6 ?_
 refine C4 (rT rfl) (.cons (by repeat (first | exact Pk.here | apply Pk.there)) .nil) ?_
 (rw [hkn hS]; exact ⟨_, rfl, .no hs1, rfl, rfl⟩)
 refine B7 ?_
 refine sQ (C1 rfl) rfl ?_
 refine K4 ?_
 refine J4 rfl ((A1n (S9 (H1 S)) lo hi _)) rfl rfl (fun h57 => ?_) (fun h57 => ?_)
 refine sQ (Y7 rfl) rfl (sQ (M4 rfl rfl) rfl ?_)
 refine sQ (C1 rfl) rfl ?_
 refine I6 ?_
 refine C4 (rT rfl) (.cons (by repeat (first | exact Pk.here | apply Pk.there)) .nil) ?_
 (rw [hki (A1k (by assumption)), hS]; exact ⟨_, rfl, .yes hl1, rfl, rfl⟩)
 refine sQ (pNf rfl) rfl (sQ (M4 rfl rfl) rfl ?_)
 refine sQ (C1 rfl) rfl ?_
 refine I6 ?_
 refine C4 (rT rfl) (.cons (by repeat (first | exact Pk.here | apply Pk.there)) .nil) ?_
 (rw [hko (A7x (by assumption))]; exact ⟨_, rfl, .no (by rw [N3]; exact hl1), rfl, rfl⟩)
theorem A95 (G : IM) (k : Int) (hk : H4 k) : O4 G (.mk k []) [.int .i64 k, .slice none 0 0] [] := by
 simp only [O4]
 exact ⟨none, 0, [], [], rfl, hk, D5.nil G 2, ⟨rfl, rfl⟩, rfl, fun b hb => by simp [I8] at hb⟩
theorem B4I {G Ga Gb : IM} {a b : Ty} {ca cb : List Value} {Fa Fb : List Nat} (h1 : B2 G Ga) (h2 : B2 Ga Gb) (ha : O4 (B6 Ga G) a ca Fa) (na : Fa.Nodup) (hb : O4 (B6 Gb Ga) b cb Fb) (nb : Fb.Nodup) :
  N8 (B6 Gb G) [a, b] [ca, cb] (Fa ++ Fb) ∧ (Fa ++ Fb).Nodup := by
 have h0 : N8 (B6 G G) (([a, b] : List Ty).take 0) [] [] := by simp [N8]
 obtain ⟨s1, n1⟩ := N8.step (ks := [a, b]) (i := 0) h0 (by simp) (B2.refl _) h1 (by simp) ha na
 obtain ⟨s2, n2⟩ := N8.step (ks := [a, b]) (i := 1) s1 n1 h1 h2 (by simp) hb nb
 simpa using And.intro s2 n2
theorem B4J (k : Int) (a b : Ty) (G Ga Gb : IM) (ca cb : List Value) (Fa Fb : List Nat) (hk : H4 k) (h1 : B2 G Ga) (h2 : B2 Ga Gb) (ha : O4 (B6 Ga G) a ca Fa) (na : Fa.Nodup) (hb : O4 (B6 Gb Ga) b cb Fb) (nb : Fb.Nodup) :
  Fn Tryz.prog 191 [.int .i64 k, .agg ⟨ca⟩, .agg ⟨cb⟩] [] Gb (A8g (.mk k [a, b]) G) := by
 obtain ⟨sab, nab⟩ := B4I h1 h2 ha na hb nb
 obtain ⟨pa, cca, ea, rfl, _⟩ := ha.R.open
 obtain ⟨pb, ccb, eb, rfl, _⟩ := hb.R.open
 refine B8 Tryz.func191 rfl Tryz.ntmps191 Tryz.results191 rfl ?_
 intro w0
 refine tS (tR ?_)
 refine sE (E7 rfl rfl) rfl (fun b3 => ?_)
 refine sE (E7 rfl rfl) rfl (fun b4 => ?_)
 refine sE (A8 rfl) rfl (fun b5 => ?_)
 refine B7 ?_
 (refine D7 (D1 rfl rfl rfl (by omega) (by unfold maxLen; omega) rfl) rfl ?_; rintro _ ⟨b13, rfl⟩)
 refine sQ (P6 rfl rfl) rfl (H2 ?_)
 refine sD (nS ?_)
 (refine L4 (by repeat (first | exact Pk.here | apply Pk.there)) (fun G5 hle5 hsl5 hno5 => ?_))
 refine tT ?_
 refine E9 (rC rfl (A2 rfl rfl)) ?_
 (obtain ⟨F', f1, f2⟩ := O4.fin (k := k) sab nab (h1.trans h2) hle5 hsl5 hno5 hk; exact ⟨rfl, _, F', rfl, f1, f2⟩)
def B4K (b : Nat) (m : Option (Ty × A3)) (G : IM) : IM → Value → List A4 → Prop := fun G' v outs => ∃ cs' t cells F, outs = [.blk b cs'] ∧ T3 (m.map Prod.snd) cs' ∧ v = .agg ⟨cells⟩ ∧ O4 (B6 G' G) t cells F ∧ F.Nodup ∧ ∀ x, m = some x → t = x.1
theorem B4L {S : Option A3} {n : Nat} (h : H1 S ≠ 40) : S.bind (O2 (n + 1)) = (S.bind (V8 1 3)).map fun y => (.mk y.1 [], y.2) := by
 rcases S with _ | _ | ⟨b, l⟩
 ·rfl
 ·rfl
 ·have h : ¬b = 40 := h
  show O2 (n + 1) (b :: l) = _
  rw [O2, List.headD_cons, if_neg h]; rfl
theorem B4M {S : Option A3} {n : Nat} (h : H1 S = 40) : S.bind (O2 (n + 1)) = (S.bind (F9 40)).bind fun r => (O2 n r).bind fun x => (V8 4 5 x.2).bind fun y => (O2 n y.2).bind fun z => (F9 41 z.2).map fun w => (.mk y.1 [x.1, z.1], w) := by
 rcases S with _ | _ | ⟨b, l⟩
 ·rfl
 ·cases h
 ·have h : b = 40 := h
  subst h
  show O2 (n + 1) (40 :: l) = _
  rw [O2, List.headD_cons, if_pos rfl]
  rfl
theorem B4N {S : Option A3} {n : Nat} (h : H1 S ≠ 40) : (S.bind (O2 (n + 1))).map Prod.snd = (S.bind (V8 1 3)).map Prod.snd ∧ ∀ x, S.bind (O2 (n + 1)) = some x → Ty.mk (S9 (H1 S)) [] = x.1 := by
 rw [B4L h]
 have hv := @A94 S 1 3
 cases hK : S.bind (V8 1 3) with
 | none => exact ⟨rfl, fun x hx => by cases hx⟩
 | some y => exact ⟨rfl, fun x hx => by cases hx; rw [hv y hK]⟩
theorem B4O {S : Option A3} {n : Nat} {a b : Ty} (h : H1 S = 40) (ha : ∀ x, (S.bind (F9 40)).bind (O2 n) = some x → a = x.1)
  (hb : ∀ x, ((((((S.bind (F9 40)).bind (O2 n)).map Prod.snd).bind (V8 4 5)).map Prod.snd).bind (O2 n)) = some x → b = x.1) :
  (S.bind (O2 (n + 1))).map Prod.snd = (((((((S.bind (F9 40)).bind (O2 n)).map Prod.snd).bind (V8 4 5)).map Prod.snd).bind (O2 n)).map Prod.snd).bind (F9 41) ∧
  ∀ x, S.bind (O2 (n + 1)) = some x → Ty.mk (S9 (H1 (((S.bind (F9 40)).bind (O2 n)).map Prod.snd))) [a, b] = x.1 := by
 rw [B4M h]
 cases h1 : S.bind (F9 40) with
 | none => exact ⟨rfl, fun x hx => by cases hx⟩
 | some r =>
  rw [h1] at ha hb
  simp only [Option.bind_some] at ha hb ⊢
  cases h2 : O2 n r with
  | none => exact ⟨rfl, fun x hx => by cases hx⟩
  | some x =>
   rw [h2] at ha hb
   simp only [Option.bind_some, Option.map_some] at ha hb ⊢
   have hv := @A94 (some x.2) 4 5
   cases h3 : V8 4 5 x.2 with
   | none => exact ⟨rfl, fun x hx => by cases hx⟩
   | some y =>
    rw [h3] at hb
    have hv := hv y h3
    simp only [Option.bind_some, Option.map_some] at hb ⊢
    cases h4 : O2 n y.2 with
    | none => exact ⟨rfl, fun x hx => by cases hx⟩
    | some z =>
     simp only [Option.bind_some, Option.map_some]
     cases h5 : F9 41 z.2 with
     | none => exact ⟨rfl, fun x hx => by cases hx⟩
     | some w => exact ⟨rfl, fun q hq => by cases hq; rw [hv, ha x rfl, hb z h4]⟩
theorem A6H (b : Nat) : ∀ (n : Nat) (d : Int) (S : Option A3) (cs : List Value) (G : IM), d + n = 5 → 1 ≤ d → T3 S cs → Fn Tryz.prog 155 [.pointer (some ⟨b, 0, none⟩), .int .i64 d] [.blk b cs] G (B4K b (S.bind (O2 n)) G) := by
 intro n
 induction n with
 | zero =>
  intro d S cs G hd hd1 h
  obtain ⟨s, bad, rfl, hs⟩ := h.open
  have hB : T3 none [.string s, .bool true] := h.bad
  have hz : S.bind (O2 0) = none := by cases S <;> rfl
  rw [hz]
  refine B8 Tryz.func155 rfl Tryz.ntmps155 Tryz.results155 rfl ?_
  intro w0
  refine tS (tR ?_)
  refine sE (A8 rfl) rfl (fun b3 => ?_)
  refine sD (nS (tS (tS (tR (sQ (qM rfl) rfl ?_)))))
  refine sP (A5x rfl rfl (by omega)) rfl rfl ?_
  refine sD (nS (qT rfl (tR (sQ (qM rfl) rfl ?_))))
  refine sQ (C1 rfl) rfl ?_
  refine F8 ?_
  (refine C0 rfl (A3Z b none _ G hB) (Pk.perm (by repeat (first | exact Pk.here | apply Pk.there))) rfl rfl (fun v G1 outs hle1 hh => ?_); obtain ⟨hG, rfl, rfl⟩ := hh; replace hG := hG.symm; subst hG; have hz0 : ((H1 none).toNat : Int) = 0 := rfl)
  refine sP (A0h rfl rfl (by omega)) rfl rfl ?_
  refine sD (nS (qT rfl (tS (tR (sQ (qM rfl) rfl ?_)))))
  (refine C0 rfl (A6G b 1 3 none _ G hB) (Pk.perm (by repeat (first | exact Pk.here | apply Pk.there))) rfl rfl (fun v G1 outs hle1 hh => ?_); obtain ⟨cs2, rfl, hR2, hG, rfl⟩ := hh; replace hG := hG.symm; subst hG)
  refine H7 rfl (A7V _ _) rfl rfl ?_
  refine H2 ?_
  refine sD (nS (tT (rS ?_)))
  refine C4 (rC rfl (A2 rfl rfl)) (.cons (by repeat (first | exact Pk.here | apply Pk.there)) .nil) ?_
  (exact ⟨cs2, .mk (S9 (H1 none)) [], _, [], rfl, hR2, rfl, A95 _ _ ⟨by decide, by decide⟩, by simp, fun x hx => by cases hx⟩)
 | succ n ih =>
  intro d S cs G hd hd1 h
  have hk := A6F (H1 S)
  have hI1 : H4 (S9 (H1 S)) := ⟨by omega, by omega⟩
  refine B8 Tryz.func155 rfl Tryz.ntmps155 Tryz.results155 rfl ?_
  intro w0
  refine tS (tR ?_)
  refine sE (A8 rfl) rfl (fun b3 => ?_)
  refine sD (nS (tS (tS (tR (sQ (qM rfl) rfl ?_)))))
  refine sP (A3r rfl rfl (by omega)) rfl rfl ?_
  refine C7 ?_
  (refine C0 rfl (A3Z b S cs G h) (Pk.perm (by repeat (first | exact Pk.here | apply Pk.there))) rfl rfl (fun v G1 outs hle1 hh => ?_); obtain ⟨hG, rfl, rfl⟩ := hh; replace hG := hG.symm; subst hG)
  refine sB (P5 rfl rfl) rfl rfl (fun h21 => ?_) (fun h21 => ?_)
  refine sD (nS (qT rfl (tS (tR (sQ (qM rfl) rfl ?_)))))
  (have hne : H1 S ≠ 40 := (fun he => by have hx : ((H1 S).toNat : Int) = 40 := (by rw [he]; rfl); omega); obtain ⟨hd1, hd2⟩ := B4N (n := n) hne; refine C0 rfl (A6G b 1 3 S cs G h) (Pk.perm (by repeat (first | exact Pk.here | apply Pk.there))) rfl rfl (fun v G1 outs hle1 hh => ?_); obtain ⟨cs2, rfl, hR2, hG, rfl⟩ := hh; replace hG := hG.symm; subst hG; rw [← hd1] at hR2)
  refine H7 rfl (A7V _ _) rfl rfl ?_
  refine H2 ?_
  refine sD (nS (tT (rS ?_)))
  refine C4 (rC rfl (A2 rfl rfl)) (.cons (by repeat (first | exact Pk.here | apply Pk.there)) .nil) ?_
  (exact ⟨cs2, .mk (S9 (H1 S)) [], _, [], rfl, hR2, rfl, A95 _ _ hI1, by simp, hd2⟩)
  refine sD (nS (cF rfl (tK (nS (tS (tR (sQ (qM rfl) rfl ?_)))))))
  (have heq : H1 S = 40 := J5 (b := 40) (by show _ = (40 : Int); omega); refine C0 rfl (A0u b 40 S cs G h) (Pk.perm (by repeat (first | exact Pk.here | apply Pk.there))) rfl rfl (fun v G1 outs hle1 hh => ?_); obtain ⟨Q0, rfl, hR1, hG, rfl⟩ := hh; replace hG := hG.symm; subst hG)
  refine sD (nS (tS (tR (sQ (qM rfl) rfl (sQ (qM rfl) rfl ?_)))))
  refine sP (N0 rfl rfl (by omega) (by omega)) rfl rfl ?_
  (refine C0 rfl (ih (d + 1) _ Q0 G (by omega) (by omega) hR1) (Pk.perm (by repeat (first | exact Pk.here | apply Pk.there))) rfl rfl (fun v G2 outs hle2 hh => ?_); obtain ⟨cs2, ta, ca, Fa, rfl, hR2, rfl, hsa, hna, hva⟩ := hh; have hla := hsa.R.len; have hoa := hsa.R.one)
  refine sE (A8 rfl) rfl (fun b54 => ?_)
  refine sS rfl rfl rfl hla hoa rfl ?_ (hu := by exact I4 hla.symm)
  refine sD (nS (tS (tR (sQ (qM rfl) rfl ?_))))
  (refine C0 rfl (A6G b 4 5 _ cs2 G2 hR2) (Pk.perm (by repeat (first | exact Pk.here | apply Pk.there))) rfl rfl (fun v G3 outs hle3 hh => ?_); obtain ⟨cs3, rfl, hR3, hG, rfl⟩ := hh; replace hG := hG.symm; subst hG)
  refine B7 ?_
  refine sP (N0 rfl rfl (by omega) (by omega)) rfl rfl ?_
  (refine C0 rfl (ih (d + 1) _ cs3 G2 (by omega) (by omega) hR3) (Pk.perm (by repeat (first | exact Pk.here | apply Pk.there))) rfl rfl (fun v G4 outs hle4 hh => ?_); obtain ⟨cs4, tb, cb, Fb, rfl, hR4, rfl, hsb, hnb, hvb⟩ := hh; have hlb := hsb.R.len; have hob := hsb.R.one; obtain ⟨hd1, hd2⟩ := B4O heq hva hvb; obtain ⟨hk3, hk4⟩ := A6F (H1 (((S.bind (F9 40)).bind (O2 n)).map Prod.snd)))
  refine sE (A8 rfl) rfl (fun b71 => ?_)
  refine sS rfl rfl rfl hlb hob rfl ?_ (hu := by exact I4 hlb.symm)
  refine sD (nS (tS (tR (sQ (qM rfl) rfl ?_))))
  (refine C0 rfl (A0u b 41 _ cs4 G4 hR4) (Pk.perm (by repeat (first | exact Pk.here | apply Pk.there))) rfl rfl (fun v G5 outs hle5 hh => ?_); obtain ⟨cs5, rfl, hR5, hG, rfl⟩ := hh; replace hG := hG.symm; subst hG; rw [← hd1] at hR5)
  refine sD (nS (tS (tR (sQ (qM rfl) rfl ?_))))
  refine sL (A6 rfl rfl (C8 (by repeat first | exact mH | apply mT)) hla) rfl rfl ?_
  refine sL (A6 rfl rfl (C8 (by repeat first | exact mH | apply mT)) hlb) rfl rfl ?_
  (refine D9 rfl (B4J _ ta tb G G2 G4 ca cb Fa Fb ⟨by omega, by omega⟩ hle2 hle4 hsa hna hsb hnb) rfl rfl (fun v G6 hle6 hh => ?_); obtain ⟨c6, F6, rfl, hs6, hn6⟩ := hh; have hl6 := hs6.R.len; have ho6 := hs6.R.one)
  refine sS rfl rfl rfl hl6 ho6 rfl ?_ (hu := by exact I4 hl6.symm)
  refine sD (nS (tT ?_))
  refine C4 (rC rfl (A6 rfl rfl (C8 (by repeat first | exact mH | apply mT)) hl6)) (.cons (by repeat (first | exact Pk.here | apply Pk.there)) .nil) ?_
  (exact ⟨cs5, _, c6, F6, rfl, hR5, rfl, hs6, hn6, hd2⟩)
end Gw
end Go.Proofs.YtgodjiieijekiaaGreatDoor
