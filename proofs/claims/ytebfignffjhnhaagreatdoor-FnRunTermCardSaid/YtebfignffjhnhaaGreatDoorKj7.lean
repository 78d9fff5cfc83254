/-
  The reference's insertion of casts, exactly. The reference's evaluator: a step, runs of steps, RunTerm. The reference's StepCast, EvalCast, RunTerm. CompareRuns, on both sides. Runs of terms of which one is more precise. All paths of a term, in plain words: they are different, each has a node, none goes on to where no operand is. The first cast with a label. The casts of a term, in plain words: the first one with a label is the node at the first path to such a cast. What is blamed is unsafe: plain. The types that a term's text holds, and terms with other types: the plain words. Own slices and their capacity; data of terms one after the other. The types that a term's text holds: the program's list. Terms with other types: the program's. Shifts and masks of small numbers; writing into an own slice. Terms some of whose types become the unknown type: the program's. The configurations of a term: the program's. A number for each configuration: the program's. ConfigRuns of the program. Drawn terms that often have a type: one lambda, given the terms below.
-/
import Derived.Test.YtebfignffjhnhaaGreatDoorKj6
import Derived.Test.YtebfignffjhnhaaGreatDoorKj3
import Derived.Test.YtebfignffjhnhaaGreatDoorKj5
import Derived.Test.YtebfignffjhnhaaGreatDoorKj4
import Derived.Test.YtebfignffjhnhaaGreatDoorKj2
import Derived.Test.YtebfignffjhnhaaGreatDoorKj1
set_option linter.unusedVariables false
set_option linter.unusedSimpArgs false
set_option maxHeartbeats 0
set_option maxRecDepth 100000
set_option synthInstance.maxSize 4000
set_option synthInstance.maxHeartbeats 0
namespace Go.Proofs.YtebfignffjhnhaaGreatDoor
open Go Go.RowKit
namespace Gw
theorem B5m {e : Tm} (h : S1 e = true) : A0d e = P6 [] e := by
 have hs := ((A1z e).1 h).1
 obtain ⟨h1, h2⟩ := A2X e 1 [] 0 hs A3K
 unfold A0d
 cases hE : M9 [] e 0 with
 | none => rw [A94 h hE, h2 hE]
 | some r =>
  obtain ⟨u, a, l⟩ := r
  rw [A95 h hE, (h1 u a l hE).1]
theorem B5n {e u : Tm} {t : Ty} (h : R7 e = some (u, t)) : S1 e = true ∧ ∃ l, M9 [] e 0 = some (u, t, l) := by
 unfold R7 at h
 split at h
 ·rename_i hv
  refine ⟨hv, ?_⟩
  split at h
  ·rename_i u' t' l' he; cases h; exact ⟨l', he⟩
  ·cases h
 ·cases h
def A6O (t : Ty) (x : Bool) (G : IM) : IM → Value → List A5 → Prop := L8 fun G' v => ∃ cells, v = .tuple ⟨[.agg ⟨cells⟩, .bool x]⟩ ∧ B9 G' (if x = true then t else B7) cells
theorem B5o (t : Ty) (G : IM) (cells : List Value) (hr : B9 G t cells) : Fn Tryz.prog 184 [.agg ⟨cells⟩, .bool true] [] G (A6O t true G) := by
 obtain ⟨p, c, e, rfl, _⟩ := hr.open
 refine C3 Tryz.func184 rfl Tryz.ntmps184 Tryz.results184 rfl ?_
 intro w0
 refine A3 ?_
 refine sE (C8 rfl rfl) rfl (fun b3 => ?_)
 refine sE (A6 rfl) rfl (fun b4 => ?_)
 refine A0r ?_
 refine I1 (rC rfl (A4 rfl rfl)) (rT rfl) ?_
 (exact ⟨rfl, _, rfl, hr⟩)
theorem B5p (t : Ty) (G : IM) (cells : List Value) (hr : B9 G t cells) : Fn Tryz.prog 184 [.agg ⟨cells⟩, .bool false] [] G (A6O t false G) := by
 obtain ⟨p, c, e, rfl, _⟩ := hr.open
 refine C3 Tryz.func184 rfl Tryz.ntmps184 Tryz.results184 rfl ?_
 intro w0
 refine A3 ?_
 refine sE (C8 rfl rfl) rfl (fun b3 => ?_)
 refine sE (A6 rfl) rfl (fun b4 => ?_)
 refine Z5 ?_
 refine I1 (rC rfl (A4 rfl rfl)) (rT rfl) ?_
 (exact ⟨rfl, _, rfl, O0 _ ⟨by omega, by omega⟩⟩)
theorem B5q (t : Ty) (x : Bool) (G : IM) (cells : List Value) (hr : B9 G t cells) : Fn Tryz.prog 184 [.agg ⟨cells⟩, .bool x] [] G (A6O t x G) := by
 cases x
 ·exact B5p t G cells hr
 ·exact B5o t G cells hr
theorem A1E.sure {o : Option Ty} {t : Ty} {G G' : IM} {cells : List Value} (h : ∀ u, o = some u → u = t) (hr : B9 G' (if o.isSome = true then t else B7) cells) : A1E o G G' (.tuple ⟨[.agg ⟨cells⟩, .bool o.isSome]⟩) [] := by
 cases o with
 | none => exact ⟨rfl, cells, B7, rfl, hr, by simp⟩
 | some u => exact ⟨rfl, cells, t, rfl, hr, fun x hx => by cases hx; exact (h _ rfl).symm⟩
theorem B5r (e : Tm) (G : IM) (cells : List Value) (hcnt : D3 e ≤ 4294967296) (hr : B0 G e cells) :
  Fn Tryz.prog 134 [.slice none 0 0, .agg ⟨cells⟩] [] G (A1E (A0d e) G) := by
 have hl := hr.len
 have hone := hr.one
 have hw := A4x e G cells hcnt hr
 have hT := fun h : S1 e = true => B0m e 1 [] G none 0 0 cells ((A1z e).1 h).1 (by omega) A3K (S3.nil G) hr
 have hts := fun h => @B5m e h
 have hno := @B4S e
 refine C3 Tryz.func134 rfl Tryz.ntmps134 Tryz.results134 rfl ?_
 intro w0
 refine A3 ?_
 refine sE (C8 rfl rfl) rfl (fun b3 => ?_)
 refine sE (A6 rfl) rfl (fun b4 => ?_)
 refine B2 ?_
 refine H6 rfl ((B26 _)) rfl rfl ?_
 refine A3 ?_
 refine sL (A2 rfl rfl (B3 (by repeat first | exact mH | apply mT)) (by assumption)) rfl rfl ?_
 refine F8 rfl (hw) rfl rfl (fun h16 => ?_) (fun h16 => ?_)
 refine J2 ?_
 refine sL (A2 rfl rfl (B3 (by repeat first | exact mH | apply mT)) (by assumption)) rfl rfl ?_
 (refine E7 rfl (hT (by assumption)) rfl rfl (fun v G1 hle1 hh => ?_); obtain ⟨mt, mc, rfl, hmr, hma, hmu⟩ := hh; obtain ⟨p1, c1, e1, rfl, _⟩ := hmr.open; have hmo := hts (by assumption))
 refine A3 ?_
 (refine E7 rfl (B5q mt _ _ _ hmr) rfl rfl (fun v G2 hle2 hh => ?_); obtain ⟨mc2, rfl, hmr2⟩ := hh; obtain ⟨p2, c2, e2, rfl, _⟩ := hmr2.open)
 refine B2 ?_
 refine I1 (rC rfl (A4 rfl rfl)) (rT rfl) ?_
 (rw [hmo]; exact A1E.sure hmu hmr2)
 refine J3 ?_
 refine I1 (rC rfl (A4 rfl rfl)) (rT rfl) ?_
 (exact A1E.no (u := B7) (O0 _ ⟨by omega, by omega⟩) rfl (hno (by assumption)))
theorem B0s (e : Tm) (G : IM) (cells : List Value) (hcnt : D3 e ≤ 4294967296) (hr : B0 G e cells) :
  Fn Tryz.prog 92 [.agg ⟨cells⟩] [] G (A1E (A0d e) G) := by
 have hl := hr.len
 have hone := hr.one
 refine C3 Tryz.func92 rfl Tryz.ntmps92 Tryz.results92 rfl ?_
 intro w0
 refine A3 ?_
 refine sE (C8 rfl rfl) rfl (fun b3 => ?_)
 refine sE (A6 rfl) rfl (fun b4 => ?_)
 refine A9 ?_
 refine sL (A2 rfl rfl (B3 (by repeat first | exact mH | apply mT)) (by assumption)) rfl rfl ?_
 (refine E7 rfl (B5r e G cells hcnt hr) rfl rfl (fun v G1 hle1 hh => ?_); obtain ⟨cu, u, rfl, hru, hu⟩ := hh; obtain ⟨p1, c1, e1, rfl, _⟩ := hru.open)
 refine B2 ?_
 refine I1 (rC rfl (A4 rfl rfl)) (rT rfl) ?_
 (exact ⟨rfl, _, u, rfl, hru, hu⟩)
def A2u (e : Tm) (a b : Ty) (l : Int) : IM → Value → List A5 → Prop := L8 fun G' v => ∃ cells, v = .tuple ⟨[.agg ⟨cells⟩, .int .i64 (if N1 a b = true then l else l + 1)]⟩ ∧ B0 G' (if N1 a b = true then e else J7 e a b l) cells
theorem A2u.yes {G : IM} {e : Tm} {a b : Ty} {l : Int} {cells : List Value} (h : N1 a b = true) (hr : B0 G e cells) : A2u e a b l G (.tuple ⟨[.agg ⟨cells⟩, .int .i64 l]⟩) [] := ⟨rfl, cells, by rw [if_pos h], by rw [if_pos h]; exact hr⟩
theorem A2u.no {G : IM} {e : Tm} {a b : Ty} {l : Int} {cells : List Value} (h : N1 a b = false) (hr : B0 G (J7 e a b l) cells) : A2u e a b l G (.tuple ⟨[.agg ⟨cells⟩, .int .i64 (l + 1)]⟩) [] := ⟨rfl, cells, by rw [if_neg (by rw [h]; decide)], by rw [if_neg (by rw [h]; decide)]; exact hr⟩
theorem A6P {Q : Prop} (h : Q := by (exact A2u.no (by assumption) (B0.of9 (ks := [e]) ⟨by omega, by omega⟩ ⟨by omega, by omega⟩ ⟨by omega, by omega⟩ (hr2.mono hle5) (hr1.mono hle5) hone1 hone2))) : Q := h
theorem B5s (e : Tm) (a b : Ty) (label : Int) (G : IM) (ce ca cb : List Value) (hlab : -1099511627776 ≤ label ∧ label ≤ 1099511627776) (hr : B0 G e ce) (hra : B9 G a ca) (hrb : B9 G b cb) (hsa : a.small) (hsb : b.small) :
  Fn Tryz.prog 143 [.agg ⟨ce⟩, .agg ⟨ca⟩, .agg ⟨cb⟩, .int .i64 label] [] G (A2u e a b label) := by
 have hl := hr.len
 have hone := hr.one
 obtain ⟨hlab1, hlab2⟩ := hlab
 have hSame := B0h a b G ca cb hra hrb
 obtain ⟨ak, aks⟩ := a
 obtain ⟨bk, bks⟩ := b
 obtain ⟨pa, cca, ea, rfl, _⟩ := hra.open
 obtain ⟨pb, ccb, eb, rfl, _⟩ := hrb.open
 simp only [Ty.k, Ty.ks] at hra hrb hSame ⊢
 obtain ⟨v1, v2, v3, v4, v5, v6, v7, v8, v9, rfl⟩ := nine hl
 refine C3 Tryz.func143 rfl Tryz.ntmps143 Tryz.results143 rfl ?_
 intro w0
 refine A3 ?_
 refine sE (C8 rfl rfl) rfl (fun b3 => ?_)
 refine sE (C8 rfl rfl) rfl (fun b4 => ?_)
 refine sE (C8 rfl rfl) rfl (fun b5 => ?_)
 refine sE (A6 rfl) rfl (fun b6 => ?_)
 refine D4 ?_
 refine F8 rfl (hSame) rfl rfl (fun h15 => ?_) (fun h15 => ?_)
 refine A9 ?_
 refine sL (A2 rfl rfl (B3 (by repeat first | exact mH | apply mT)) hl) rfl rfl ?_
 refine E6 ?_
 refine sS rfl rfl rfl hl hone rfl ?_ (hu := by exact D6 hl.symm)
 refine A9 ?_
 refine I1 (rC rfl (A2 rfl rfl (B3 (by repeat first | exact mH | apply mT)) hl)) (rT rfl) ?_
 (exact A2u.yes (by assumption) hr)
 refine A8 ?_
 refine D7 D8 rfl ?_
 refine K7 (i := 5) (l' := [ff,ff,ff,ff,ff,tt,ff,ff,ff,ff,ff,ff]) rfl D1 (A2 rfl rfl (B3 (by repeat first | exact mH | apply mT)) hl) rfl (by kernel_rfl) rfl rfl ?_
 refine aL 0 rfl (A4 rfl rfl) rfl ?_
 refine aL 2 rfl (A4 rfl rfl) rfl ?_
 refine aP 4 rfl (qM rfl) rfl ?_
 refine aP 8 rfl (qM rfl) rfl ?_
 refine aP 9 rfl (J0 rfl rfl (by omega) (by omega)) rfl ?_
 refine Q2 (j := 1) (j' := 6) (by kernel_rfl) ?_ ?_
 (refine H0 rfl rfl (O9 _ _ _ hsa hra) rfl rfl rfl (fun v G1 hle1 hh => ?_); obtain ⟨cs1, F1, rfl, hs1, hn1⟩ := hh; obtain ⟨p1, c1, rfl, _⟩ := hs1.open; have hC2 := O9 _ G1 _ hsb (hrb.mono hle1))
 refine Q2 (j := 3) (j' := 6) (by kernel_rfl) ?_ ?_
 (refine H0 rfl rfl hC2 rfl rfl rfl (fun v G2 hle2 hh => ?_); obtain ⟨cs2, F2, rfl, hs2, hn2⟩ := hh; obtain ⟨p2, c2, rfl, _⟩ := hs2.open; have hr1 := hs1.R.mono ((C5.le G1 _).trans hle2); have hr2 := hs2.R.mono (C5.le G2 G1); have hre := hr.mono (hle1.trans hle2))
 refine A1 6 ?_
 (refine E3 rfl (C7 rfl rfl rfl (by omega) (by unfold maxLen; omega) rfl) rfl rfl ?_; rintro _ ⟨b49, rfl⟩)
 refine aP 7 rfl (V6 rfl rfl) rfl ?_
 refine A1 10 ?_
 refine H1 rfl ?_
 refine aP 11 rfl (qA rfl) rfl ?_
 refine A3 ?_
 (refine F9 (cs := [v1, v2, v3, v4, v5, v6, v7, v8, v9]) (by repeat (first | exact Pk.here | apply Pk.there)) (fun G5 hle5 hsl5 hno5 => ?_); obtain ⟨hone1, hone2⟩ := A2g (hre.mono hle5) hsl5)
 refine tT ?_
 refine I1 (rC rfl (A4 rfl rfl)) (rT rfl) ?_
 exact A6P
 (refine E3 rfl (C7 rfl rfl rfl (by omega) (by unfold maxLen; omega) rfl) rfl rfl ?_; rintro _ ⟨b60, rfl⟩)
 refine A1 3 ?_
 (refine H0 rfl rfl hC2 rfl rfl rfl (fun v G2 hle2 hh => ?_); obtain ⟨cs2, F2, rfl, hs2, hn2⟩ := hh; obtain ⟨p2, c2, rfl, _⟩ := hs2.open; have hr1 := hs1.R.mono ((C5.le G1 _).trans hle2); have hr2 := hs2.R.mono (C5.le G2 G1); have hre := hr.mono (hle1.trans hle2))
 refine aP 7 rfl (V6 rfl rfl) rfl ?_
 refine A1 10 ?_
 refine H1 rfl ?_
 refine aP 11 rfl (qA rfl) rfl ?_
 refine A3 ?_
 (refine F9 (cs := [v1, v2, v3, v4, v5, v6, v7, v8, v9]) (by repeat (first | exact Pk.here | apply Pk.there)) (fun G5 hle5 hsl5 hno5 => ?_); obtain ⟨hone1, hone2⟩ := A2g (hre.mono hle5) hsl5)
 refine tT ?_
 refine I1 (rC rfl (A4 rfl rfl)) (rT rfl) ?_
 exact A6P
 (refine E3 rfl (C7 rfl rfl rfl (by omega) (by unfold maxLen; omega) rfl) rfl rfl ?_; rintro _ ⟨b73, rfl⟩)
 refine A1 1 ?_
 (refine H0 rfl rfl (O9 _ _ _ hsa hra) rfl rfl rfl (fun v G1 hle1 hh => ?_); obtain ⟨cs1, F1, rfl, hs1, hn1⟩ := hh; obtain ⟨p1, c1, rfl, _⟩ := hs1.open; have hC2 := O9 _ G1 _ hsb (hrb.mono hle1))
 refine A1 3 ?_
 (refine H0 rfl rfl hC2 rfl rfl rfl (fun v G2 hle2 hh => ?_); obtain ⟨cs2, F2, rfl, hs2, hn2⟩ := hh; obtain ⟨p2, c2, rfl, _⟩ := hs2.open; have hr1 := hs1.R.mono ((C5.le G1 _).trans hle2); have hr2 := hs2.R.mono (C5.le G2 G1); have hre := hr.mono (hle1.trans hle2))
 refine aP 7 rfl (V6 rfl rfl) rfl ?_
 refine A1 10 ?_
 refine H1 rfl ?_
 refine aP 11 rfl (qA rfl) rfl ?_
 refine A3 ?_
 (refine F9 (cs := [v1, v2, v3, v4, v5, v6, v7, v8, v9]) (by repeat (first | exact Pk.here | apply Pk.there)) (fun G5 hle5 hsl5 hno5 => ?_); obtain ⟨hone1, hone2⟩ := A2g (hre.mono hle5) hsl5)
 refine tT ?_
 refine I1 (rC rfl (A4 rfl rfl)) (rT rfl) ?_
 exact A6P
def R1 (w ts : List Ty) : List Ty := if w = [] then ts else w
theorem A3Z {a : Ty} {w ts : List Ty} : R1 (a :: w) ts = a :: w := by unfold R1; rw [if_neg (by simp)]
def W3 (ws : List Ty) (n : Nat) (G : IM) : IM → Value → List A5 → Prop := L8 fun G' v => ∃ p c es, v = .slice p n c ∧ ws.length = n ∧ D5 G' p n c 2 es ∧ D2 G' ws es
theorem W3.mk {G G' : IM} {p : Option Addr} {n c : Nat} {ws ws' : List Ty} {es : List (List Value)} (he : ws = ws') (hl : ws'.length = n) (hs : Sl G' p n c 2 es.flatten) (hst : D2 G' ws' es) : W3 ws n G G' (.slice p n c) [] := by
 subst he
 exact ⟨rfl, p, c, es, rfl, hl, D5.of hs (by rw [hst.len, hl]) hst.all (fun e he => (hst.each e he).2), hst⟩
theorem W3.mk1 {G G' : IM} {p : Option Addr} {n c : Nat} {ws : List Ty} {a : Ty} {ca : List Value} (he : ws = [a]) (hn : n = 1) (hs : Sl G' p 1 c 2 ca) (ha : B9 G' a ca) : W3 ws n G G' (.slice p 1 c) [] := by
 subst hn
 exact W3.mk (ws' := [a]) (es := [ca]) he rfl (by simpa using hs) ⟨_, _, rfl, ha, rfl⟩
theorem W3.mk2 {G G' : IM} {p : Option Addr} {n c : Nat} {ws : List Ty} {a b : Ty} {ca cb : List Value} (he : ws = [a, b]) (hn : n = 2) (hs : Sl G' p 2 c 2 (ca ++ cb)) (ha : B9 G' a ca) (hb : B9 G' b cb) : W3 ws n G G' (.slice p 2 c) [] := by
 subst hn
 exact W3.mk (ws' := [a, b]) (es := [ca, cb]) he rfl (by simpa using hs) ⟨_, _, rfl, ha, _, _, rfl, hb, rfl⟩
theorem W3.mk3 {G G' : IM} {p : Option Addr} {n c : Nat} {ws : List Ty} {a b d : Ty} {ca cb cd : List Value} (he : ws = [a, b, d]) (hn : n = 3) (hs : Sl G' p 3 c 2 (ca ++ (cb ++ cd))) (ha : B9 G' a ca) (hb : B9 G' b cb) (hd : B9 G' d cd) : W3 ws n G G' (.slice p 3 c) [] := by
 subst hn
 exact W3.mk (ws' := [a, b, d]) (es := [ca, cb, cd]) he rfl (by simpa using hs) ⟨_, _, rfl, ha, _, _, rfl, hb, _, _, rfl, hd, rfl⟩
section
variable {cx : Cx} {k : Int} {nm : ByteArray} {ty : Ty} {ts w : List Ty} {t : Ty}
theorem wo6 (hk : k = 6) (h : K8 cx k nm ty ts = some (w, t)) (hl : 0 < ts.length) : ∃ a b, R0 4 ts[0] = some (a, b) ∧ R1 w ts = [.mk 4 [a, b], a] := by
 subst hk
 rw [mW6, gD hl] at h
 split at h
 ·rename_i a b hm
  split at h
  ·cases h; exact ⟨a, _, hm, A3Z⟩
  ·cases h
 ·cases h
theorem B5t (hk : k = 7 ∨ k = 8) (h : K8 cx k nm ty ts = some (w, t)) : R1 w ts = [Q1, Q1] := by
 rw [V0 hk] at h
 split at h
 ·cases h; exact A3Z
 ·cases h
theorem wo9 (hk : k = 9) (h : K8 cx k nm ty ts = some (w, t)) : R1 w ts = [T3, t, t] := by
 subst hk
 rw [mW9] at h
 split at h
 ·cases h; exact A3Z
 ·cases h
theorem B5u (hk : k = 11 ∨ k = 12) (h : K8 cx k nm ty ts = some (w, t)) (hl : 0 < ts.length) : ∃ a b, R0 5 ts[0] = some (a, b) ∧ R1 w ts = [.mk 5 [a, b]] := by
 rw [A2W hk, gD hl] at h
 split at h
 ·rename_i a b hm; cases h; exact ⟨a, b, hm, A3Z⟩
 ·cases h
theorem B5v (hk : k = 13) (h : K8 cx k nm ty ts = some (w, t)) : R1 w ts = [t] := by
 subst hk
 rw [A2k] at h
 split at h
 ·cases h; exact A3Z
 ·cases h
theorem wo0 (hk : 1 ≤ k ∧ k ≤ 5 ∨ k = 10) (h : K8 cx k nm ty ts = some (w, t)) : R1 w ts = ts := by
 have : w = [] := by
  have hk' : k = 1 ∨ k = 2 ∨ (k = 3 ∨ k = 4) ∨ k = 5 ∨ k = 10 := by omega
  rcases hk' with rfl | rfl | hk | rfl | rfl
  ·rw [mW1] at h; split at h <;> cases h; rfl
  ·rw [mW2] at h; cases h; rfl
  ·rw [A3H hk] at h; cases h; rfl
  ·rw [mW5] at h; cases h; rfl
  ·rw [A4G] at h; cases h; rfl
 subst this; rfl
end
theorem B0t {Q : Prop} (h : Q := by (exact W3.mk2 (o78 (by omega)) (hop.1 (by omega)) hsl5 (K3 _) (K3 _))) : Q := h
theorem B5w (cx : Cx) (k : Int) (nm : ByteArray) (num : Int) (ty fr : Ty) (lb : Int) (ks : List Tm) (ts w : List Ty) (t : Ty) (G : IM) (cells tcells : List Value) (p : Option Addr) (c : Nat) (es : List (List Value))
  (hw : K8 cx k nm ty ts = some (w, t)) (hk14 : k ≠ 14) (hops : D9 k = ts.length) (hr : B0 G (.mk k nm num ty fr lb ks) cells) (hsl : D5 G p ts.length c 2 es) (hkl : D2 G ts es) (har : ∀ t ∈ ts, E5 t) (hrt : B9 G t tcells) :
  Fn Tryz.prog 142 [.agg ⟨cells⟩, .slice p ts.length c, .agg ⟨tcells⟩] [] G (W3 (R1 w ts) ts.length G) := by
 have hone := hr.one
 have hop := A2Q hops
 have hkr : 1 ≤ k ∧ k ≤ 14 := A3U (by rw [hops]; omega)
 have ha0 := fun h : 0 < ts.length => har _ (List.getElem_mem h)
 obtain ⟨tyk, tyks⟩ := ty
 obtain ⟨fk, fks⟩ := fr
 obtain ⟨tk, tks⟩ := t
 obtain ⟨q9, d9, e9, rfl, _⟩ := hrt.open
 obtain ⟨pt, ct, pf, cf, pk, ck, ek, rfl, hk, hnum, hlb, hrty, hrfr, _, _⟩ := hr.open9
 have o6 := fun h hl => wo6 h hw hl
 have o78 := fun h => B5t h hw
 have o9 := fun h => wo9 h hw
 have o11 := fun h hl => B5u h hw hl
 have o13 := fun h => B5v h hw
 have o0 := fun h => wo0 h hw
 refine C3 Tryz.func142 rfl Tryz.ntmps142 Tryz.results142 rfl ?_
 intro w0
 refine A3 ?_
 refine sE (C8 rfl rfl) rfl (fun b3 => ?_)
 refine sE (C8 rfl rfl) rfl (fun b4 => ?_)
 refine J2 ?_
 refine C1 (tS (tR (sB (qE rfl rfl) rfl rfl (fun h18 => ?_) (fun h18 => ?_))))
 refine B2 ?_
 (have hl2 : ts.length = 2 := hop.1 (by omega); obtain ⟨b0, o0', q0, d0, hp0, hat0, hre0, hg0⟩ := hsl.kidTy hkl (i := 0) (by omega) (by omega); cases hp0; refine sP (B4 (j := 0) rfl rfl rfl (by omega)) rfl rfl ?_)
 refine sL (A2 rfl rfl (hat0 _) rfl) rfl rfl ?_
 (obtain ⟨ma', mb', hm, hwo⟩ := o6 (by omega) (by omega); refine E7 rfl (A23 4 ts[0] G _ (.inl rfl) (ha0 (by omega)) hre0) rfl rfl (fun v G1 hle1 hh => ?_); obtain ⟨ma, mca, mb, mcb, rfl, hma, hmb, hma2, hmb2, hpp⟩ := hh; have hpe := hpp _ hm; simp only [Prod.mk.injEq] at hpe; obtain ⟨rfl, rfl⟩ := hpe; obtain ⟨p1, c1, e1, rfl, _⟩ := hma.open; obtain ⟨p2, c2, e2, rfl, _⟩ := hmb.open; have hTwo := A2t 4 _ _ G1 _ _ (.inl rfl) hma2 hmb2 hma hmb)
 refine B1 ?_
 refine sE (A6 rfl) rfl (fun b33 => ?_)
 refine sE (A6 rfl) rfl (fun b34 => ?_)
 refine E0 ?_
 (refine E7 rfl hTwo rfl rfl (fun v G2 hle2 hh => ?_); obtain ⟨mc, rfl, hmr⟩ := hh; obtain ⟨p3, c3, e3, rfl, _⟩ := hmr.open; have hma4 := hma.mono hle2)
 refine B6 ?_
 refine sE (A6 rfl) rfl (fun b48 => ?_)
 refine D4 ?_
 (refine I7 (C7 rfl rfl rfl (by omega) (by unfold maxLen; omega) rfl) rfl ?_; rintro _ ⟨b57, rfl⟩)
 refine B6 ?_
 (refine F9 (by repeat (first | exact Pk.here | apply Pk.there)) (fun G5 hle5 hsl5 hno5 => ?_))
 refine B1 ?_
 (exact W3.mk2 hwo (hop.1 (by omega)) hsl5 (hmr.mono hle5) (hma4.mono hle5))
 refine B2 ?_
 refine sB (qE rfl rfl) rfl rfl (fun h74 => ?_) (fun h74 => ?_)
 refine E0 ?_
 refine H6 rfl ((A0k _)) rfl rfl ?_
 refine H6 rfl ((A0k _)) rfl rfl ?_
 (refine I7 (C7 rfl rfl rfl (by omega) (by unfold maxLen; omega) rfl) rfl ?_; rintro _ ⟨b86, rfl⟩)
 refine B6 ?_
 (refine F9 (by repeat (first | exact Pk.here | apply Pk.there)) (fun G5 hle5 hsl5 hno5 => ?_))
 refine B1 ?_
 exact B0t
 refine A9 ?_
 refine sB (qE rfl rfl) rfl rfl (fun h101 => ?_) (fun h101 => ?_)
 refine A8 ?_
 refine H6 rfl ((A0k _)) rfl rfl ?_
 refine H6 rfl ((A0k _)) rfl rfl ?_
 (refine I7 (C7 rfl rfl rfl (by omega) (by unfold maxLen; omega) rfl) rfl ?_; rintro _ ⟨b110, rfl⟩)
 refine B6 ?_
 (refine F9 (by repeat (first | exact Pk.here | apply Pk.there)) (fun G5 hle5 hsl5 hno5 => ?_))
 refine B1 ?_
 exact B0t
 refine A8 ?_
 refine sB (qE rfl rfl) rfl rfl (fun h126 => ?_) (fun h126 => ?_)
 refine A9 ?_
 refine D7 D8 rfl ?_
 refine K7 (i := 1) (l' := [ff,tt,ff,ff,ff]) rfl D1 (A4 rfl rfl) rfl (by kernel_rfl) rfl rfl ?_
 refine aL 2 rfl (A4 rfl rfl) rfl ?_
 refine A1 0 ?_
 refine M8 rfl rfl ((A2O _)) rfl rfl rfl ?_
 refine A1 3 ?_
 (refine E3 rfl (C7 rfl rfl rfl (by omega) (by unfold maxLen; omega) rfl) rfl rfl ?_; rintro _ ⟨b138, rfl⟩)
 refine aP 4 rfl (qA rfl) rfl ?_
 refine A3 ?_
 (refine F9 (by repeat (first | exact Pk.here | apply Pk.there)) (fun G5 hle5 hsl5 hno5 => ?_))
 refine B1 ?_
 (exact W3.mk3 (o9 (by omega)) (hop.2.1 (by omega)) hsl5 (A0b _) (hrt.mono hle5) (hrt.mono hle5))
 refine B2 ?_
 refine sB (qE rfl rfl) rfl rfl (fun h155 => ?_) (fun h155 => ?_)
 refine J2 ?_
 (have hl1 : ts.length = 1 := hop.2.2 (by omega); obtain ⟨b0, o0', q0, d0, hp0, hat0, hre0, hg0⟩ := hsl.kidTy hkl (i := 0) (by omega) (by omega); cases hp0; refine sP (B4 (j := 0) rfl rfl rfl (by omega)) rfl rfl ?_)
 refine sL (A2 rfl rfl (hat0 _) rfl) rfl rfl ?_
 (obtain ⟨ma', mb', hm, hwo⟩ := o11 (by omega) (by omega); refine E7 rfl (A23 5 ts[0] G _ (.inr rfl) (ha0 (by omega)) hre0) rfl rfl (fun v G1 hle1 hh => ?_); obtain ⟨ma, mca, mb, mcb, rfl, hma, hmb, hma2, hmb2, hpp⟩ := hh; have hpe := hpp _ hm; simp only [Prod.mk.injEq] at hpe; obtain ⟨rfl, rfl⟩ := hpe; obtain ⟨p1, c1, e1, rfl, _⟩ := hma.open; obtain ⟨p2, c2, e2, rfl, _⟩ := hmb.open; have hTwo := A2t 5 _ _ G1 _ _ (.inr rfl) hma2 hmb2 hma hmb)
 refine B1 ?_
 refine sE (A6 rfl) rfl (fun b173 => ?_)
 refine sE (A6 rfl) rfl (fun b174 => ?_)
 refine E0 ?_
 (refine E7 rfl hTwo rfl rfl (fun v G2 hle2 hh => ?_); obtain ⟨mc, rfl, hmr⟩ := hh; obtain ⟨p3, c3, e3, rfl, _⟩ := hmr.open; have hma4 := hma.mono hle2)
 refine B6 ?_
 refine sE (A6 rfl) rfl (fun b188 => ?_)
 refine B2 ?_
 (refine I7 (C7 rfl rfl rfl (by omega) (by unfold maxLen; omega) rfl) rfl ?_; rintro _ ⟨b196, rfl⟩)
 refine B6 ?_
 (refine F9 (by repeat (first | exact Pk.here | apply Pk.there)) (fun G5 hle5 hsl5 hno5 => ?_))
 refine B1 ?_
 (exact W3.mk1 hwo (hop.2.2 (by omega)) hsl5 (hmr.mono hle5))
 refine A9 ?_
 refine sB (qE rfl rfl) rfl rfl (fun h211 => ?_) (fun h211 => ?_)
 refine B2 ?_
 (have hl1 : ts.length = 1 := hop.2.2 (by omega); obtain ⟨b0, o0', q0, d0, hp0, hat0, hre0, hg0⟩ := hsl.kidTy hkl (i := 0) (by omega) (by omega); cases hp0; refine sP (B4 (j := 0) rfl rfl rfl (by omega)) rfl rfl ?_)
 refine sL (A2 rfl rfl (hat0 _) rfl) rfl rfl ?_
 (obtain ⟨ma', mb', hm, hwo⟩ := o11 (by omega) (by omega); refine E7 rfl (A23 5 ts[0] G _ (.inr rfl) (ha0 (by omega)) hre0) rfl rfl (fun v G1 hle1 hh => ?_); obtain ⟨ma, mca, mb, mcb, rfl, hma, hmb, hma2, hmb2, hpp⟩ := hh; have hpe := hpp _ hm; simp only [Prod.mk.injEq] at hpe; obtain ⟨rfl, rfl⟩ := hpe; obtain ⟨p1, c1, e1, rfl, _⟩ := hma.open; obtain ⟨p2, c2, e2, rfl, _⟩ := hmb.open; have hTwo := A2t 5 _ _ G1 _ _ (.inr rfl) hma2 hmb2 hma hmb)
 refine B1 ?_
 refine sE (A6 rfl) rfl (fun b226 => ?_)
 refine sE (A6 rfl) rfl (fun b227 => ?_)
 refine E0 ?_
 (refine E7 rfl hTwo rfl rfl (fun v G2 hle2 hh => ?_); obtain ⟨mc, rfl, hmr⟩ := hh; obtain ⟨p3, c3, e3, rfl, _⟩ := hmr.open; have hma4 := hma.mono hle2)
 refine B6 ?_
 refine sE (A6 rfl) rfl (fun b241 => ?_)
 refine B2 ?_
 (refine I7 (C7 rfl rfl rfl (by omega) (by unfold maxLen; omega) rfl) rfl ?_; rintro _ ⟨b249, rfl⟩)
 refine B6 ?_
 (refine F9 (by repeat (first | exact Pk.here | apply Pk.there)) (fun G5 hle5 hsl5 hno5 => ?_))
 refine B1 ?_
 (exact W3.mk1 hwo (hop.2.2 (by omega)) hsl5 (hmr.mono hle5))
 refine A8 ?_
 refine sB (qE rfl rfl) rfl rfl (fun h265 => ?_) (fun h265 => ?_)
 refine B2 ?_
 (refine I7 (C7 rfl rfl rfl (by omega) (by unfold maxLen; omega) rfl) rfl ?_; rintro _ ⟨b273, rfl⟩)
 refine B6 ?_
 (refine F9 (by repeat (first | exact Pk.here | apply Pk.there)) (fun G5 hle5 hsl5 hno5 => ?_))
 refine B1 ?_
 (exact W3.mk1 (o13 (by omega)) (hop.2.2 (by omega)) hsl5 (hrt.mono hle5))
 refine I0 ?_
 (exact W3.mk (o0 (by omega)) rfl hsl.sl hkl)
theorem B0u : ∀ (us : List Tm) (h : List Ty) (l : Int), F4 us h h l = (us, l)
 | [], h, l => by simp [F4]
 | u :: us, [], l => by simp [F4]
 | u :: us, a :: h, l => by simp only [F4, A5L, if_true, B0u us h l]
theorem A43 {us : List Tm} {h w : List Ty} {l : Int} : F4 us h (R1 w h) l = F4 us h w l := by
 unfold R1
 split
 ·rename_i hw; subst hw; rw [B0u, A0v]
 ·rfl
theorem B5x {cx : Cx} {k : Int} {nm : ByteArray} {ty : Ty} {h w : List Ty} {t : Ty} (hh : ∀ a ∈ h, E9 a = true) (hw : Wt cx k nm ty h w t) : ∀ a ∈ R1 w h, E9 a = true := by
 intro a ha
 unfold R1 at ha
 split at ha
 ·exact hh a ha
 ·rename_i hne
  obtain ⟨i, hi, rfl⟩ := List.mem_iff_getElem.1 ha
  exact (hw.ok i hi (by rcases hw.len with h1 | h1; exact absurd h1 hne; omega)).2
def B5y (u : Tm) (t : Ty) (l : Int) (G : IM) : IM → Value → List A5 → Prop := L8 fun G' v => ∃ cu ct, v = .tuple ⟨[.agg ⟨cu⟩, .agg ⟨ct⟩, .int .i64 (l + 1)]⟩ ∧ B0 G' u cu ∧ B9 G' t ct
theorem B0v {cx : Cx} : ∀ {ks : List Tm} {l : Int} {us : List Tm} {h : List Ty} {l' : Int}, M3 cx ks l = some (us, h, l') → us.length = ks.length ∧ h.length = ks.length
 | [], l, us, h, l', he => by simp only [M3, Option.some.injEq, Prod.mk.injEq] at he; obtain ⟨rfl, rfl, _⟩ := he; exact ⟨rfl, rfl⟩
 | t :: ts, l, us, h, l', he => by
  rw [M3] at he
  split at he
  ·cases he
  ·split at he
   ·cases he
   ·rename_i hz
    simp only [Option.some.injEq, Prod.mk.injEq] at he
    obtain ⟨rfl, rfl, _⟩ := he
    have := B0v hz
    simp [this.1, this.2]
theorem B5z : ∀ (e : Tm) (d : Int) (cx : Cx) (l0 : Int) (u0 : Tm) (t0 : Ty) (l1 : Int) (G : IM) (p : Option Addr) (n c : Nat) (cells : List Value), M9 cx e l0 = some (u0, t0, l1) → N7 12 14 e d = true → (n : Int) ≤ d → X9 cx → S3 G cx p n c → B0 G e cells → 0 ≤ l0 → l0 + (D3 e : Int) ≤ 1000000000 →
  Fn Tryz.prog 101 [.slice p n c, .agg ⟨cells⟩, .int .i64 (l0 + 1)] [] G (B5y u0 t0 l1 G) := by
 refine Tm.ind fun k nm num ty fr lb ks ih d cx l0 u0 t0 l1 G p n c cells hel hv hnd hcv hx hr hl0 hlc => ?_
 have hr0 := hr
 have hone := hr.one
 have hT := B0m _ d cx G p n c cells hv hnd hcv hx hr
 obtain ⟨hts1, hts2⟩ := (A2X _ d cx l0 hv hcv).1 u0 t0 l1 hel
 rw [hts1] at hT
 have hsm := A8K _ d hv
 obtain ⟨hv1, hv2, hv3, hv4⟩ := A0D hv
 have hvk := (A09 12 14 ks _).1 hv4
 have har := (U3.1 hv3).1
 have hop := A2Q har
 obtain ⟨hta, hts⟩ := A2R hv3
 have hcvX : X9 (K2 cx k nm ty) := A3L hcv fun hk => (U3.1 hv3).2.2.2.2.2.1 (.inl hk)
 have hck : D3 (.mk k nm num ty fr lb ks) = E4 ks + 1 := W9 ..
 rw [hck] at hlc
 rw [M9] at hel
 rcases hEL : M3 (K2 cx k nm ty) ks l0 with _ | ⟨usA, tsA, lA⟩
 ·rw [hEL] at hel; cases hel
 rw [hEL] at hel
 unfold A1b at hel
 rcases hNT : S4 cx k nm ty tsA with _ | ⟨w, t9⟩
 ·simp only [hNT] at hel; cases hel
 simp only [hNT, Option.some.injEq, Prod.mk.injEq] at hel
 obtain ⟨hu0, rfl, rfl⟩ := hel
 obtain ⟨hlA1, hlA2⟩ := B0v hEL
 have hmw := (A4H hNT).2
 obtain ⟨_, htv, _⟩ := (A85 ks (fun t ht d' cx' l' h1 h2 => A2X t d' cx' l' h1 h2) (d + 1) _ l0 hv4 hcvX).1 usA tsA lA hEL
 have hcAll := A1d usA tsA w lA
 have hWV : ∀ a ∈ R1 w tsA, E9 a = true := B5x htv (A9S htv (fun hk => (U3.1 hv3).2.2.2.2.2.1 (.inr (.inl hk))) (by rw [hlA2]; exact har) hv2 hmw)
 obtain ⟨tk, tks⟩ := ty
 obtain ⟨fk, fks⟩ := fr
 obtain ⟨pt, ct, pf, cf, q, cq, es, rfl, hk, hnum, hlb, hty, hfr, hsl, hkl⟩ := hr.open9
 have hlen : ks.length ≤ 3 := by have := A1a k; omega
 have hk13 : k = 13 → ks.length = 1 := fun h => hop.2.2 (by omega)
 refine C3 Tryz.func101 rfl Tryz.ntmps101 Tryz.results101 rfl ?_
 intro w0
 refine A3 ?_
 refine sE (C8 rfl rfl) rfl (fun b3 => ?_)
 refine sE (A6 rfl) rfl (fun b4 => ?_)
 refine sE (A6 rfl) rfl (fun b5 => ?_)
 refine B2 ?_
 (refine E7 rfl hT rfl rfl (fun v G1 hle1 hh => ?_); obtain ⟨mt, mc, rfl, hmr, hma, hmu⟩ := hh; obtain rfl := hmu _ rfl; obtain ⟨p1, d1, e1, rfl, _⟩ := hmr.open; have hC := A2L _ G1 _ hsm (hr0.mono hle1))
 refine B6 ?_
 refine sE (A6 rfl) rfl (fun b17 => ?_)
 refine B2 ?_
 (refine E7 rfl hC rfl rfl (fun v G2 hle2 hh => ?_); obtain ⟨cs1, F1, rfl, hs1, hn1⟩ := hh; have hr1 := hs1.R.mono (C5.le G2 G1); obtain ⟨q1, c1, q2, c2, q3, c3, es1, rfl, _, _, _, hty1, hfr1, _, _⟩ := hr1.open9; have hle02 := hle1.trans hle2; replace hx := hx.mono hle02; replace hty := hty.mono hle02; replace hsl := hsl.mono hle02; replace hkl := hkl.mono hle02; replace hmr := hmr.mono hle2; replace hr0 := hr0.mono hle02)
 refine sE (A6 rfl) rfl (fun b26 => ?_)
 refine J4 ?_
 (show I4 _ _ (.region 4 ..) _ _; refine Y7 (fun (x : Bool) => ⟨[(30, .bool x), (0, .slice p n c), (2, .int .i64 (l0 + 1)), (4, .pointer (some ⟨b3, 0, none⟩)), (6, .pointer (some ⟨b4, 0, none⟩)), (7, .pointer (some ⟨b5, 0, none⟩)), (9, .pointer (some ⟨b17, 0, none⟩)), (11, .pointer (some ⟨b26, 0, none⟩))], [.blk b26 [.int .i64 k, .string nm, .int .i64 num, .int .i64 tk, .slice q1 tks.length c1, .int .i64 fk, .slice q2 fks.length c2, .int .i64 lb, .slice none 0 0], .blk b17 [.int .i64 t9.k, .slice p1 t9.ks.length d1], .blk b5 [.int .i64 0, .slice none 0 0], .blk b4 [.int .i64 0, .string ⟨⟨[]⟩⟩, .int .i64 0, .int .i64 0, .slice none 0 0, .int .i64 0, .slice none 0 0, .int .i64 0, .slice none 0 0], .blk b3 [.int .i64 k, .string nm, .int .i64 num, .int .i64 tk, .slice pt tks.length ct, .int .i64 fk, .slice pf fks.length cf, .int .i64 lb, .slice q ks.length cq]], G2⟩) (fun x => x = true ↔ k = 5) ?_ ?_)
 ·refine B6 ?_
  refine sB (qE rfl rfl) rfl rfl (fun h42 => ?_) (fun h42 => ?_)
  ·refine sD ?_
   refine P0 true (L3 (by repeat (first | exact E1.nil | refine E1.cons rfl ?_)) (by repeat (first | exact A0.refl | exact A0.nil | refine A0.cons (by repeat (first | exact Pk.here | apply Pk.there)) ?_ | apply A0.drop))) ⟨fun _ => (by omega), fun _ => rfl⟩
  ·refine sD ?_
   refine P0 false (L3 (by repeat (first | exact E1.nil | refine E1.cons rfl ?_)) (by repeat (first | exact A0.refl | exact A0.nil | refine A0.cons (by repeat (first | exact Pk.here | apply Pk.there)) ?_ | apply A0.drop))) ⟨fun h => (by cases h), fun _ => (by omega)⟩
 ·(rintro (x : Bool) hx5)
  (show I4 _ _ (.cond (.tmp 30) _ _) _ _; refine Y7 (fun (x : Option Addr × Nat × Nat × IM) => ⟨[(0, .slice x.1 x.2.1 x.2.2.1), (2, .int .i64 (l0 + 1)), (4, .pointer (some ⟨b3, 0, none⟩)), (6, .pointer (some ⟨b4, 0, none⟩)), (7, .pointer (some ⟨b5, 0, none⟩)), (9, .pointer (some ⟨b17, 0, none⟩)), (11, .pointer (some ⟨b26, 0, none⟩))], [.blk b26 [.int .i64 k, .string nm, .int .i64 num, .int .i64 tk, .slice q1 tks.length c1, .int .i64 fk, .slice q2 fks.length c2, .int .i64 lb, .slice none 0 0], .blk b17 [.int .i64 t9.k, .slice p1 t9.ks.length d1], .blk b5 [.int .i64 0, .slice none 0 0], .blk b4 [.int .i64 0, .string ⟨⟨[]⟩⟩, .int .i64 0, .int .i64 0, .slice none 0 0, .int .i64 0, .slice none 0 0, .int .i64 0, .slice none 0 0], .blk b3 [.int .i64 k, .string nm, .int .i64 num, .int .i64 tk, .slice pt tks.length ct, .int .i64 fk, .slice pf fks.length cf, .int .i64 lb, .slice q ks.length cq]], x.2.2.2⟩) (fun x => C0 G2 x.2.2.2 ∧ S3 x.2.2.2 (K2 cx k nm (.mk tk tks)) x.1 x.2.1 x.2.2.1 ∧ (x.2.1 : Int) ≤ d + 1) (A3d rfl (fun hxt => ?_) (fun hxf => ?_)) ?_)
  ·refine A8 ?_
   (refine E7 rfl (B0i G2 cx p n c nm (.mk tk tks) _ hx (by omega) hty) rfl rfl (fun v G3 hle3 hh => ?_); obtain ⟨pm0, cm0, rfl, hxm⟩ := hh)
   refine A3 ?_
   refine P0 (pm0, n + 1, cm0, G3) (L3 (by repeat (first | exact E1.nil | refine E1.cons rfl ?_)) (by repeat (first | exact A0.refl | exact A0.nil | refine A0.cons (by repeat (first | exact Pk.here | apply Pk.there)) ?_ | apply A0.drop))) ?_
   (dsimp only; exact ⟨hle3, by rw [K2, if_pos (hx5.1 (by assumption))]; exact hxm, by omega⟩)
  ·refine tK ?_
   refine P0 (p, n, c, G2) (L3 (by repeat (first | exact E1.nil | refine E1.cons rfl ?_)) (by repeat (first | exact A0.refl | exact A0.nil | refine A0.cons (by repeat (first | exact Pk.here | apply Pk.there)) ?_ | apply A0.drop))) ?_
   (dsimp only; exact ⟨C0.refl _, by rw [K2, if_neg (fun h => by have := hx5.2 h; rw [this] at hxf; cases hxf)]; exact hx, by omega⟩)
  ·(rintro ⟨(px : Option Addr), nx, cxx, Gx⟩ ⟨hleX, hxX, hnX⟩; simp only [] at hleX hxX hnX ⊢; replace hty1 := hty1.mono hleX; replace hfr1 := hfr1.mono hleX; replace hsl := hsl.mono hleX; replace hkl := hkl.mono hleX; replace hmr := hmr.mono hleX; replace hr0 := hr0.mono hleX)
   refine A3 ?_
   (refine I7 (C7 rfl rfl rfl (by omega) (by unfold maxLen; omega) rfl) rfl ?_; rintro _ ⟨b66, rfl⟩)
   refine E0 ?_
   refine C1 ?_
   (refine S0 37 9 ?_; refine J8 (fun (x : Nat × (Option Addr × Nat × List Tm × List (List Value)) × (Option Addr × Nat × List Ty × List (List Value)) × Int × IM) => ⟨[(13, .int .i64 x.1), (12, .slice x.2.2.1.1 x.1 x.2.2.1.2.1), (0, .slice px nx cxx), (2, .int .i64 (x.2.2.2.1 + 1)), (4, .pointer (some ⟨b3, 0, none⟩)), (6, .pointer (some ⟨b4, 0, none⟩)), (7, .pointer (some ⟨b5, 0, none⟩)), (9, .pointer (some ⟨b17, 0, none⟩)), (11, .pointer (some ⟨b26, 0, none⟩))], [.blk b26 [.int .i64 k, .string nm, .int .i64 num, .int .i64 tk, .slice q1 tks.length c1, .int .i64 fk, .slice q2 fks.length c2, .int .i64 lb, .slice x.2.1.1 x.1 x.2.1.2.1], .slc x.2.1.1 x.2.1.2.1 37 9 x.1 x.2.1.2.2.2.flatten, .slc x.2.2.1.1 x.2.2.1.2.1 34 2 x.1 x.2.2.1.2.2.2.flatten, .blk b17 [.int .i64 t9.k, .slice p1 t9.ks.length d1], .blk b5 [.int .i64 0, .slice none 0 0], .blk b4 [.int .i64 0, .string ⟨⟨[]⟩⟩, .int .i64 0, .int .i64 0, .slice none 0 0, .int .i64 0, .slice none 0 0, .int .i64 0, .slice none 0 0], .blk b3 [.int .i64 k, .string nm, .int .i64 num, .int .i64 tk, .slice pt tks.length ct, .int .i64 fk, .slice pf fks.length cf, .int .i64 lb, .slice q ks.length cq]], x.2.2.2.2⟩) (fun x => x.1 ≤ ks.length ∧ C0 Gx x.2.2.2.2 ∧ x.2.1.2.2.1.length = x.1 ∧ D0 x.2.2.2.2 x.2.1.2.2.1 x.2.1.2.2.2 ∧ x.2.2.1.2.2.1.length = x.1 ∧ D2 x.2.2.2.2 x.2.2.1.2.2.1 x.2.2.1.2.2.2 ∧ M3 (K2 cx k nm (.mk tk tks)) (ks.take x.1) l0 = some (x.2.1.2.2.1, x.2.2.1.2.2.1, x.2.2.2.1) ∧ l0 ≤ x.2.2.2.1 ∧ x.2.2.2.1 + x.1 ≤ l0 + (E4 (ks.take x.1) : Int)) (fun x => ks.length - x.1) (0, (none, 0, [], []), (some ⟨b66, 0, none⟩, 0, [], []), l0, Gx) ?_ ?_ ?_)
   ·(simp only [List.take_zero, A0v]; exact (L3 (by repeat (first | exact E1.nil | refine E1.cons rfl ?_)) (by repeat (first | exact A0.refl | exact A0.nil | refine A0.cons (by repeat (first | exact Pk.here | apply Pk.there)) ?_ | apply A0.drop))))
   ·(exact ⟨by simp, C0.refl _, rfl, by simp [D0], rfl, by simp [D2], by simp [M3], Int.le_refl _, by simp [E4]⟩)
   ·(rintro ⟨i, ⟨pn, cn, us, es'⟩, ⟨pm, cm, ts, ess⟩, l, Gi⟩ ⟨hi, hle, hlu, hst, hlt, hstt, hml, hl1, hl2⟩; simp only [] at hi hle hlu hst hlt hstt hml hl1 hl2 ⊢; replace hty1 := hty1.mono hle; replace hfr1 := hfr1.mono hle; replace hsl := hsl.mono hle; replace hkl := hkl.mono hle; replace hmr := hmr.mono hle; replace hr0 := hr0.mono hle; replace hxX := hxX.mono hle)
    refine B2 ?_
    refine sB (J1 rfl rfl) rfl rfl (fun h88 => ?_) (fun h88 => ?_)
    ·refine A8 ?_
     refine C1 ?_
     refine A8 ?_
     (obtain ⟨b, o, e, rfl, hl, hate, hre, hgb⟩ := hsl.kidTm hkl (i := i) (by omega) (by omega); have hsc := A0S (ks := ks) (i := i) (by omega); have hsk := A0R (ks := ks) (i := i) (by omega); rcases hE : M9 (K2 cx k nm (Ty.mk tk tks)) ks[i] l with _ | ⟨u, t, l3⟩; (have hno := A59 (by omega) hml hE; rw [hEL] at hno; cases hno); have hlm := A6r.el_mono _ _ _ _ _ _ hE; have hlx := A9U ks[i] (d + 1) _ l u t l3 (hvk i (by omega)) hE; refine sP (B4 rfl rfl rfl (by omega)) rfl rfl ?_)
     refine sL (A2 rfl rfl (hate _) hl) rfl rfl ?_
     refine E6 ?_
     (refine E7 rfl (ih ks[i] (List.getElem_mem (by omega)) (d + 1) _ l u t l3 Gi px nx cxx _ hE (hvk i (by omega)) (by omega) hcvX hxX hre (by omega) (by omega)) rfl rfl (fun v G3 hle3 hh => ?_); obtain ⟨uc, tc, rfl, hru, hrt⟩ := hh; obtain ⟨v1, v2, v3, v4, v5, v6, v7, v8, v9, rfl⟩ := nine hru.len; obtain ⟨p3, c3, e3, rfl, _⟩ := hrt.open; have hlu9 := hru.len; have hou9 := hru.one)
     refine B1 ?_
     refine sE (A6 rfl) rfl (fun b110 => ?_)
     refine sE (A6 rfl) rfl (fun b111 => ?_)
     refine sS rfl rfl rfl hlu9 hou9 rfl ?_ (hu := by exact D6 hlu9.symm)
     refine E0 ?_
     (refine I7 (C7 rfl rfl rfl (by omega) (by unfold maxLen; omega) rfl) rfl ?_; rintro _ ⟨b122, rfl⟩)
     refine A0z rfl rfl rfl rfl rfl (fun _ _ => by repeat (first | exact Sw.here | apply Sw.there)) (M6 (by repeat first | exact mH | apply mT)) rfl (fun u hu => List.all_eq_true.1 hou9 u hu) (by unfold maxLen; omega) (by omega) rfl (fun pn' cn' => ?_)
     refine D4 ?_
     (refine I7 (C7 rfl rfl rfl (by omega) (by unfold maxLen; omega) rfl) rfl ?_; rintro _ ⟨b132, rfl⟩)
     refine A0z rfl rfl rfl rfl rfl (fun _ _ => by repeat (first | exact Sw.here | apply Sw.there)) (M6 (by repeat first | exact mH | apply mT)) rfl (by simp [Value.oneCell']) (by unfold maxLen; omega) (by omega) rfl (fun pm' cm' => ?_)
     refine J4 ?_
     refine sP (J0 rfl rfl (by omega) (by omega)) rfl rfl ?_
     refine A3 ?_
     refine J6 (i + 1, (pn', cn', us ++ [u], es' ++ [[v1, v2, v3, v4, v5, v6, v7, v8, v9]]), (pm', cm', ts ++ [t], ess ++ [[.int .i64 t.k, .slice p3 t.ks.length c3]]), l3, G3) ?_ ?_ ?_
     ·(simp only [I5]; exact E2)
     ·(dsimp only; exact ⟨by omega, hle.trans hle3, by simp [hlu], D0.snoc (hst.mono hle3) hru, by simp [hlt], D2.snoc (hstt.mono hle3) hrt, A3O (by omega) hml hE, by omega, by omega⟩)
     ·(show ks.length - (i + 1) < ks.length - i; omega)
    ·refine K5 ?_
     (obtain rfl : i = ks.length := (by omega); rw [List.take_length] at hml hl2; rw [hEL] at hml; simp only [Option.some.injEq, Prod.mk.injEq] at hml; obtain ⟨rfl, rfl, rfl⟩ := hml; refine S9 (cs := ess.flatten) (by repeat (first | exact Pk.here | apply Pk.there)) (fun G4 hle4 hsl4 hno4 => ?_); have hstt4 := hstt.mono hle4; have hslT : D5 G4 pm ks.length cm 2 ess := D5.of hsl4 (by rw [hstt4.len, hlt]) hstt4.all (fun e he => (hstt4.each e he).2); have hW := B5w cx k nm num (.mk tk tks) (.mk fk fks) lb ks _ w _ G4 _ _ pm cm ess hmw hv2 (by rw [hlt]; exact har) (hr0.mono hle4) (by rw [hlt]; exact hslT) hstt4 (fun t ht => A2s (htv t ht)) (hmr.mono hle4); rw [hlt] at hW; refine E7 rfl hW rfl rfl (fun v G5 hle5 hh => ?_); obtain ⟨pw, cw, esw, rfl, hlw, hsw, hstw⟩ := hh; have hle45 := hle4.trans hle5; replace hty1 := hty1.mono hle45; replace hfr1 := hfr1.mono hle45; replace hmr := hmr.mono hle45; replace hst := hst.mono hle45; replace hslT := hslT.mono hle5; replace hstt := hstt.mono hle45; rcases Nat.eq_zero_or_pos ks.length with h0 | h0)
     ·refine E0 ?_
      refine C1 ?_
      (have h0' : ks.length = 0 := h0; refine J8 (fun (_ : Nat) => ⟨[(18, .int .i64 0), (17, .slice pw ks.length cw), (12, .slice pm ks.length cm), (2, .int .i64 (lA + 1)), (4, .pointer (some ⟨b3, 0, none⟩)), (6, .pointer (some ⟨b4, 0, none⟩)), (7, .pointer (some ⟨b5, 0, none⟩)), (9, .pointer (some ⟨b17, 0, none⟩)), (11, .pointer (some ⟨b26, 0, none⟩))], [.blk b26 [.int .i64 k, .string nm, .int .i64 num, .int .i64 tk, .slice q1 tks.length c1, .int .i64 fk, .slice q2 fks.length c2, .int .i64 lb, .slice pn ks.length cn], .slc pn cn 37 9 ks.length es'.flatten, .blk b17 [.int .i64 t9.k, .slice p1 t9.ks.length d1], .blk b5 [.int .i64 0, .slice none 0 0], .blk b4 [.int .i64 0, .string ⟨⟨[]⟩⟩, .int .i64 0, .int .i64 0, .slice none 0 0, .int .i64 0, .slice none 0 0, .int .i64 0, .slice none 0 0], .blk b3 [.int .i64 k, .string nm, .int .i64 num, .int .i64 tk, .slice pt tks.length ct, .int .i64 fk, .slice pf fks.length cf, .int .i64 lb, .slice q ks.length cq]], G5⟩) (fun _ => True) (fun i => i) 0 ?_ ?_ ?_)
      ·exact E2
      ·trivial
      ·(rintro (i0 : Nat) _)
       refine A8 ?_
       refine sP (A2C rfl rfl (by omega)) rfl rfl ?_
       refine K5 ?_
       refine sP (H9 rfl rfl (by omega)) rfl rfl ?_
       refine A8 ?_
       refine D7 D8 rfl ?_
       refine K7 (i := 0) (l' := [tt,ff,ff,ff,ff,ff]) rfl D1 (A4 rfl rfl) rfl (by kernel_rfl) rfl rfl ?_
       refine aL 1 rfl (A4 rfl rfl) rfl ?_
       refine aP 2 rfl (qM rfl) rfl ?_
       refine A1 3 ?_
       refine oS rfl rfl rfl rfl rfl rfl rfl rfl ?_
       refine A1 4 ?_
       refine oS rfl rfl rfl rfl rfl rfl rfl rfl ?_
       refine aP 5 rfl (qA rfl) rfl ?_
       refine A3 ?_
       (refine F9 (cs := es'.flatten) (by repeat (first | exact Pk.here | apply Pk.there)) (fun G8 hle8 hsl8 hno8 => ?_); have hst8 := hst.mono hle8)
       refine tT ?_
       refine C9 (rC rfl (A4 rfl rfl)) (rC rfl (A4 rfl rfl)) (rT rfl) ?_
       (have hu9 : usA = [] := List.length_eq_zero_iff.1 (by omega); have hne : k ≠ 13 := (fun h => by have := hk13 h; omega); have hz : F4 usA tsA w lA = (usA, lA) := (by rw [hu9]; simp [F4]); rw [if_neg hne, hz] at hu0; subst hu0; rw [hz]; exact ⟨rfl, _, _, rfl, B0.put hk hnum hlb (hty1.mono hle8) (hfr1.mono hle8) hlA1.symm (D5.of hsl8 (by rw [hst8.len, hlA1]) hst8.all (fun e he => (hst8.each e he).2)) hst8, hmr.mono hle8⟩)
     ·(refine A3E (cs := es'.flatten) (by repeat (first | exact Pk.here | apply Pk.there)) h0 (fun bc C hpe hnc hcm => ?_); subst hpe; refine sQ (qA rfl) rfl ?_)
      refine D4 ?_
      refine C1 ?_
      (have hLoop2 := hlw; refine J8 (fun (x : Nat × List (List Value) × IM) => ⟨[(18, .int .i64 x.1), (17, .slice pw ks.length cw), (12, .slice pm ks.length cm), (2, .int .i64 ((F4 usA tsA ((R1 w tsA).take x.1) lA).2 + 1)), (4, .pointer (some ⟨b3, 0, none⟩)), (6, .pointer (some ⟨b4, 0, none⟩)), (7, .pointer (some ⟨b5, 0, none⟩)), (9, .pointer (some ⟨b17, 0, none⟩)), (11, .pointer (some ⟨b26, 0, none⟩))], [.blk b26 [.int .i64 k, .string nm, .int .i64 num, .int .i64 tk, .slice q1 tks.length c1, .int .i64 fk, .slice q2 fks.length c2, .int .i64 lb, .slice (some ⟨bc, 0, none⟩) ks.length cn], .blk bc (x.2.1.flatten ++ C), .blk b17 [.int .i64 t9.k, .slice p1 t9.ks.length d1], .blk b5 [.int .i64 0, .slice none 0 0], .blk b4 [.int .i64 0, .string ⟨⟨[]⟩⟩, .int .i64 0, .int .i64 0, .slice none 0 0, .int .i64 0, .slice none 0 0, .int .i64 0, .slice none 0 0], .blk b3 [.int .i64 k, .string nm, .int .i64 num, .int .i64 tk, .slice pt tks.length ct, .int .i64 fk, .slice pf fks.length cf, .int .i64 lb, .slice q ks.length cq]], x.2.2⟩) (fun x => x.1 ≤ ks.length ∧ C0 G5 x.2.2 ∧ D0 x.2.2 (F4 usA tsA ((R1 w tsA).take x.1) lA).1 x.2.1) (fun x => ks.length - x.1) (0, es', G5) ?_ ?_ ?_)
      ·(simp only [List.take_zero, A0v]; exact (L3 (by repeat (first | exact E1.nil | refine E1.cons rfl ?_)) (by repeat (first | exact A0.refl | exact A0.nil | refine A0.cons (by repeat (first | exact Pk.here | apply Pk.there)) ?_ | apply A0.drop))))
      ·(exact ⟨Nat.zero_le _, C0.refl _, by simp only [List.take_zero, A0v]; exact hst⟩)
      ·(rintro ⟨j, es2, G6⟩ ⟨hj, hle6, hst2⟩; simp only [] at hj hle6 hst2 ⊢; replace hty1 := hty1.mono hle6; replace hfr1 := hfr1.mono hle6; replace hmr := hmr.mono hle6; replace hslT := hslT.mono hle6; replace hstt := hstt.mono hle6; replace hsw := hsw.mono hle6; replace hstw := hstw.mono hle6; have hle2s := hst2.len; rw [A1H] at hle2s; have hall2 := hst2.all)
       refine A8 ?_
       refine sB (J1 rfl rfl) rfl rfl (fun h242 => ?_) (fun h242 => ?_)
       ·refine A8 ?_
        refine C1 ?_
        (have hjw : j < (R1 w tsA).length := (by omega); obtain ⟨bt, ot, qt, dt, hpt, hatt, hrtt, hgt⟩ := hslT.kidTy hstt (i := j) (by omega) (by omega); obtain ⟨bw, ow, qw, dw, hpw, hatw, hrtw, hgw⟩ := (show D5 G6 pw (R1 w tsA).length cw 2 esw from by rw [hlw]; exact hsw).kidTy hstw (i := j) (by omega) (by omega); cases hpt; cases hpw; obtain ⟨m1, m2, _⟩ := A3P usA tsA (R1 w tsA) lA j hjw (by omega) (by omega); obtain ⟨m3, m4⟩ := A9k (us := usA) (h := tsA) (w := R1 w tsA) (l := lA) hjw (by omega) (by omega); obtain ⟨hE1, hE2⟩ := hst2.at2 (i := j) (by omega) (by omega); rw [m2] at hE2; have hE3 := hE2.len; have hcj := A1d usA tsA ((R1 w tsA).take j) lA; refine D7 D8 rfl ?_)
        refine I9 (i := 0) (l' := [tt,ff,ff,ff,ff,ff,ff,ff,ff,ff,ff,ff,ff,ff,ff,ff,ff,ff,ff,ff,ff,ff,ff,ff]) rfl D1 (B5 rfl) rfl (by kernel_rfl) rfl rfl ?_
        refine aL 1 rfl (C4 rfl rfl) rfl ?_
        refine aP 2 rfl (qM rfl) rfl ?_
        refine aP 3 rfl (B5 rfl) rfl ?_
        refine aL 4 rfl (C4 rfl rfl) rfl ?_
        refine aP 5 rfl (qM rfl) rfl ?_
        refine aP 6 rfl (B4 (j := j) rfl rfl rfl (by omega)) rfl ?_
        refine aL 7 rfl (A2 rfl rfl (A4C (es := es2) (by repeat first | exact mH | apply mT) (by omega) hall2) hE3) rfl ?_
        refine aP 8 rfl (qM rfl) rfl ?_
        refine aP 9 rfl (qM rfl) rfl ?_
        refine aP 10 rfl (B4 (j := j) rfl rfl rfl (by omega)) rfl ?_
        refine aL 11 rfl (A2 rfl rfl (hatt _) rfl) rfl ?_
        refine aP 12 rfl (qM rfl) rfl ?_
        refine aP 13 rfl (qM rfl) rfl ?_
        refine aP 14 rfl (B4 (j := j) rfl rfl rfl (by omega)) rfl ?_
        refine aL 15 rfl (A2 rfl rfl (hatw _) rfl) rfl ?_
        refine aP 16 rfl (qM rfl) rfl ?_
        refine A1 17 ?_
        (have hwsm := (A2s (hWV _ (List.getElem_mem (show j < (R1 w tsA).length by omega)))).small; refine H0 rfl rfl (B5s usA[j] tsA[j] (R1 w tsA)[j] _ _ _ _ _ (by omega) hE2 hrtt hrtw (A2s (htv _ (List.getElem_mem (by omega)))).small hwsm) rfl rfl rfl (fun v G7 hle7 hh => ?_); obtain ⟨uc, rfl, hru⟩ := hh; rw [show (if N1 tsA[j] (R1 w tsA)[j] = true then (F4 usA tsA ((R1 w tsA).take j) lA).2 + 1 else (F4 usA tsA ((R1 w tsA).take j) lA).2 + 1 + 1) = (F4 usA tsA ((R1 w tsA).take (j + 1)) lA).2 + 1 from by rw [m4]; split <;> rfl]; have hlu9 := hru.len; have hou9 := hru.one)
        refine aP 18 rfl (qM rfl) rfl ?_
        refine aP 19 rfl (pX rfl rfl) rfl ?_
        refine aP 21 rfl (B4 (j := j) rfl rfl rfl (by omega)) rfl ?_
        refine aP 20 rfl (pX rfl rfl) rfl ?_
        refine A1 22 ?_
        refine Q8 rfl rfl rfl rfl hlu9 hou9 rfl rfl (by kernel_rfl) (by repeat first | exact Sw.here | apply Sw.there) (by exact A3F (by omega) hall2 hlu9) ?_
        refine aP 23 rfl (qA rfl) rfl ?_
        refine A9 ?_
        refine sP (J0 rfl rfl (by omega) (by omega)) rfl rfl ?_
        refine A3 ?_
        refine J6 (j + 1, es2.set j uc, G7) ?_ ?_ ?_
        ·(simp only [List.take_zero, A0v]; exact (L3 (by repeat (first | exact E1.nil | refine E1.cons rfl ?_)) (by repeat (first | exact A0.refl | exact A0.nil | refine A0.cons (by repeat (first | exact Pk.here | apply Pk.there)) ?_ | apply A0.drop))))
        ·(dsimp only; exact ⟨by omega, hle6.trans hle7, by rw [m3]; exact D0.set (hst2.mono hle7) hru⟩)
        ·(show ks.length - (j + 1) < ks.length - j; omega)
       ·refine K5 ?_
        refine sB (qE rfl rfl) rfl rfl (fun h302 => ?_) (fun h302 => ?_)
        ·refine B1 ?_
         (have hq13 : k = 13 := (by omega); have hl13 := hk13 hq13; have hjw : j = (R1 w tsA).length := (by omega); rw [hjw, List.take_length, A43] at hst2; have hm0 := A1H usA tsA w lA; obtain ⟨hE1, hE2⟩ := hst2.at2 (i := 0) (by omega) (by omega); have hE3 := hE2.len; have hE4 := hE2.one; refine D7 D8 rfl ?_)
         refine I9 (i := 0) (l' := [tt,ff,ff,ff,ff,ff,ff,ff,ff]) rfl D1 (B5 rfl) rfl (by kernel_rfl) rfl rfl ?_
         refine aL 1 rfl (C4 rfl rfl) rfl ?_
         refine aP 2 rfl (B4 (j := 0) rfl rfl rfl (by omega)) rfl ?_
         refine aL 3 rfl (A2 rfl rfl (A4C (es := es2) (by repeat first | exact mH | apply mT) (by omega) hall2) hE3) rfl ?_
         refine aL 4 rfl (A4 rfl rfl) rfl ?_
         refine aP 5 rfl (qM rfl) rfl ?_
         refine A1 6 ?_
         refine oS rfl rfl rfl rfl hE3 hE4 rfl rfl ?_ (hu := by exact D6 hE3.symm)
         refine A1 7 ?_
         refine oS rfl rfl rfl rfl rfl rfl rfl rfl ?_
         refine aP 8 rfl (qA rfl) rfl ?_
         refine A3 ?_
         (refine A16 (bs := [(bc, es2.flatten ++ C)]) (Pk.perm (by repeat (first | exact Pk.here | apply Pk.there))) (fun hn9 hd9 hle9 => ?_))
         refine A3 ?_
         refine C9 (rC rfl (A2 rfl rfl (B3 (by repeat first | exact mH | apply mT)) hE3)) (rC rfl (A4 rfl rfl)) (rT rfl) ?_
         (rw [if_pos hq13, A91 (by omega)] at hu0; subst hu0; rw [hjw, List.take_length, A43]; exact ⟨rfl, _, _, rfl, hE2.mono hle9, hmr.mono hle9⟩)
        ·refine A8 ?_
         refine D7 D8 rfl ?_
         refine K7 (i := 0) (l' := [tt,ff,ff,ff,ff,ff]) rfl D1 (A4 rfl rfl) rfl (by kernel_rfl) rfl rfl ?_
         refine aL 1 rfl (A4 rfl rfl) rfl ?_
         refine aP 2 rfl (qM rfl) rfl ?_
         refine A1 3 ?_
         refine oS rfl rfl rfl rfl rfl rfl rfl rfl ?_
         refine A1 4 ?_
         refine oS rfl rfl rfl rfl rfl rfl rfl rfl ?_
         refine aP 5 rfl (qA rfl) rfl ?_
         refine A3 ?_
         (refine A16 (bs := [(bc, es2.flatten ++ C)]) (Pk.perm (by repeat (first | exact Pk.here | apply Pk.there))) (fun hn9 hd9 hle9 => ?_))
         refine tT ?_
         refine C9 (rC rfl (A4 rfl rfl)) (rC rfl (A4 rfl rfl)) (rT rfl) ?_
         (have hjw : j = (R1 w tsA).length := (by omega); rw [hjw, List.take_length, A43] at hst2; have hst9 := hst2.mono hle9; have hm0 := A1H usA tsA w lA; rw [if_neg (by omega)] at hu0; subst hu0; rw [hjw, List.take_length, A43]; exact ⟨rfl, _, _, rfl, B0.put hk hnum hlb (hty1.mono hle9) (hfr1.mono hle9) (by rw [hm0, hlA1]) (D5.of (Sl.of_blk (A := []) (by rw [A0A hst9.all, hst9.len, hm0, hlA1]) (by omega) hcm (Wi.in hn9 List.mem_cons_self)) (by rw [hst9.len, hm0, hlA1]) hst9.all (fun e he => (hst9.each e he).2)) hst9, hmr.mono hle9⟩)
theorem B5A (e : Tm) (G : IM) (cells : List Value) (hcnt : D3 e ≤ 4294967296) (hr : B0 G e cells) : Fn Tryz.prog 55 [.agg ⟨cells⟩] [] G (A02 (R7 e)) := by
 have hl := hr.len
 have hone := hr.one
 refine C3 Tryz.func55 rfl Tryz.ntmps55 Tryz.results55 rfl ?_
 intro w0
 refine A3 ?_
 refine sE (C8 rfl rfl) rfl (fun b3 => ?_)
 refine sE (A6 rfl) rfl (fun b4 => ?_)
 refine sE (A6 rfl) rfl (fun b5 => ?_)
 refine A9 ?_
 refine sL (A2 rfl rfl (B3 (by repeat first | exact mH | apply mT)) (by assumption)) rfl rfl ?_
 focus (refine E7 rfl (B0s e _ _ (by omega) hr) rfl rfl (fun v G1 hle1 hh => ?_); obtain ⟨mc, mt, rfl, hmr, hmu⟩ := hh; obtain ⟨pt, ct, et, rfl, _⟩ := hmr.open; obtain ⟨r, hI⟩ : ∃ r, R7 e = r := ⟨_, rfl⟩; rcases r with _ | ⟨u, t⟩; (have hto : A0d e = none := by unfold A0d; rw [hI]); rotate_left; (have hto : A0d e = some t := by unfold A0d; rw [hI]); obtain ⟨hv, l3, hE⟩ := B5n hI; obtain ⟨hv1, hv2⟩ := (A1z e).1 hv; rotate_left; all_goals rw [hto]; all_goals simp only [Option.isSome])
 refine B6 ?_
 refine sE (A6 rfl) rfl (fun b16 => ?_)
 refine A0O ?_
 refine C9 (rC rfl (A4 rfl rfl)) (rC rfl (A4 rfl rfl)) (rT rfl) ?_
 (exact A02.no (by first | exact hI | rfl) (O6 _) (O0 _ ⟨by omega, by omega⟩))
 refine B6 ?_
 refine sE (A6 rfl) rfl (fun b45 => ?_)
 refine J9 ?_
 refine sL (A2 rfl rfl (B3 (by repeat first | exact mH | apply mT)) (by assumption)) rfl rfl ?_
 (have hIn := B5z e 1 [] 0 u t l3 G1 none 0 0 cells hE hv1 (by omega) A3K (S3.nil _) (hr.mono hle1) (by omega) (by omega); refine E7 rfl hIn rfl rfl (fun v G2 hle2 hh => ?_); obtain ⟨cu, tc, rfl, hru, hrt⟩ := hh; obtain ⟨qt, dt, et2, rfl, _⟩ := hrt.open; have hlu := hru.len; have hou := hru.one)
 refine B1 ?_
 refine sE (A6 rfl) rfl (fun b68 => ?_)
 refine sE (A6 rfl) rfl (fun b69 => ?_)
 refine Y2 rfl rfl rfl hlu hou rfl (by repeat first | exact Sw.here | apply Sw.there) (by exact D6 (by first | exact hlu.symm | omega)) ?_
 refine A9 ?_
 refine D7 D8 rfl ?_
 refine K7 (i := 0) (l' := [tt,ff,ff,ff,ff]) rfl D1 (A2 rfl rfl (B3 (by repeat first | exact mH | apply mT)) hlu) rfl (by kernel_rfl) rfl rfl ?_
 refine aL 1 rfl (A4 rfl rfl) rfl ?_
 refine A1 2 ?_
 refine oS rfl rfl rfl rfl hlu hou rfl rfl ?_ (hu := by exact D6 hlu.symm)
 refine A1 3 ?_
 refine oS rfl rfl rfl rfl rfl rfl rfl rfl ?_
 refine aP 4 rfl (qA rfl) rfl ?_
 refine B6 ?_
 refine C9 (rC rfl (A2 rfl rfl (B3 (by repeat first | exact mH | apply mT)) hlu)) (rC rfl (A4 rfl rfl)) (rT rfl) ?_
 (exact A02.yes (by first | exact hI | rfl) hru hrt)
theorem A6Q {k : Int} {ty fr ty' fr' : Ty} {lb lb' : Int} {ks : List Tm} (h : k ≠ 14) : O2 k ty fr lb ks = O2 k ty' fr' lb' ks := by
 unfold O2
 rw [if_neg h, if_neg h]
theorem B5B (k : Int) (nm : ByteArray) (num : Int) (ty fr : Ty) (lb : Int) (ks : List Tm) (G : IM) (cells : List Value) (h7 : k = 1 ∨ k = 6 ∨ k = 7 ∨ k = 8 ∨ k = 11 ∨ k = 12 ∨ k = 14) (hc : cv (.mk k nm num ty fr lb ks)) (hr : B0 G (.mk k nm num ty fr lb ks) cells) : Fn Tryz.prog 234 [.agg ⟨cells⟩] [] G (L5 (O2 k ty fr lb ks)) := by
 have hr0 := hr
 obtain ⟨hN, hkk⟩ := hc.node
 have hops := hN.ops
 have hL2 : k = 6 ∨ k = 7 ∨ k = 8 → ∃ a b, ks = [a, b] := fun h => ks2 (by
  rcases h with rfl | rfl | rfl
  ·have : D9 6 = 2 := rfl; omega
  ·have : D9 7 = 2 := rfl; omega
  ·have : D9 8 = 2 := rfl; omega)
 have hL1 : k = 11 ∨ k = 12 ∨ k = 14 → ∃ a, ks = [a] := fun h => X1 (by
  rcases h with rfl | rfl | rfl
  ·have : D9 11 = 1 := rfl; omega
  ·have : D9 12 = 1 := rfl; omega
  ·have : D9 14 = 1 := rfl; omega)
 have hC : k = 14 → Fn Tryz.prog 251 [.agg ⟨cells⟩] [] G (L5 (O2 k ty fr lb ks)) := by
  rintro rfl
  obtain ⟨a, rfl⟩ := hL1 (by omega)
  exact B5l a nm num ty fr lb G cells hc hr
 have hA : k = 6 → ∀ a b, ks = [a, b] → O2 k ty fr lb ks = O2 6 B7 B7 0 [a, b] := by rintro rfl a b rfl; exact A6Q (by decide)
 have hB : k = 7 ∨ k = 8 → ∀ a b, ks = [a, b] → O2 k ty fr lb ks = O2 k B7 B7 0 [a, b] := by rintro h a b rfl; exact A6Q (by omega)
 have hD : k = 11 ∨ k = 12 → ∀ a, ks = [a] → O2 k ty fr lb ks = O2 k B7 B7 0 [a] := by rintro h a rfl; exact A6Q (by omega)
 have hO : k = 1 → O2 k ty fr lb ks = P5 := by rintro rfl; rfl
 generalize O2 k ty fr lb ks = R at hC hA hB hD hO ⊢
 obtain ⟨tk, tks⟩ := ty
 obtain ⟨fk, fks⟩ := fr
 obtain ⟨pt, ct, pf, cf, p, c, es, rfl, hk, hnum, hlb, hty, hfr, hsl, hkl⟩ := hr.open9
 refine C3 Tryz.func234 rfl Tryz.ntmps234 Tryz.results234 rfl ?_
 intro w0
 refine A3 ?_
 refine sE (C8 rfl rfl) rfl (fun b3 => ?_)
 refine sE (A6 rfl) rfl (fun b4 => ?_)
 refine J4 ?_
 refine C1 (tS (tR (sB (qE rfl rfl) rfl rfl (fun h19 => ?_) (fun h19 => ?_))))
 refine A9 ?_
 (have hq : k = 6 := (by assumption); obtain ⟨x, y, hxy⟩ := hL2 (by omega); have hAq := hA hq x y hxy; subst hxy; obtain ⟨bx, ox, e0, rfl, hl0, hat0, hre0, hgb0⟩ := hsl.kidTm hkl (i := 0) (by simp) (by simp); obtain ⟨_, _, e1, hp1, hl1, hat1, hre1, hgb1⟩ := hsl.kidTm hkl (i := 1) (by simp) (by simp); cases hp1; have hF := B5k x y G e0 e1 (hkk x (by simp)) (A2h y (hkk y (by simp))) hre0 hre1; rw [← hAq] at hF; refine D7 D8 rfl ?_)
 refine I9 (i := 0) (l' := [tt,ff,ff,ff,ff,ff,ff,ff,ff,ff,ff,ff,ff,ff,ff]) rfl D1 (B5 rfl) rfl (by kernel_rfl) rfl rfl ?_
 refine aL 1 rfl (C4 rfl rfl) rfl ?_
 refine aP 2 rfl (B4 (j := 0) rfl rfl rfl (by simp)) rfl ?_
 refine aL 3 rfl (A2 rfl rfl (hat0 _) hl0) rfl ?_
 refine aP 4 rfl (B5 rfl) rfl ?_
 refine aL 5 rfl (C4 rfl rfl) rfl ?_
 refine aP 6 rfl (B4 (j := 1) rfl rfl rfl (by simp)) rfl ?_
 refine aL 7 rfl (A2 rfl rfl (hat1 _) hl1) rfl ?_
 refine A1 8 ?_
 (refine H0 rfl rfl hF rfl rfl rfl (fun v G1 hle1 hh => ?_); obtain ⟨wc, rfl, hrw⟩ := hh; have hwl := hrw.len; have hwo := hrw.one)
 refine aP 9 rfl (pX rfl rfl) rfl ?_
 refine aP 10 rfl (pX rfl rfl) rfl ?_
 refine aP 11 rfl (pX rfl rfl) rfl ?_
 refine A1 12 ?_
 (refine oS rfl rfl rfl rfl hwl hwo rfl rfl ?_ (hu := by exact D6 hwl.symm))
 refine aP 13 rfl (qA rfl) rfl ?_
 refine aP 14 rfl (qA rfl) rfl ?_
 refine A9 ?_
 refine C9 (rC rfl (A2 rfl rfl (B3 (by repeat first | exact mH | apply mT)) hwl)) (rT rfl) (rT rfl) ?_
 (exact ⟨rfl, _, rfl, hrw⟩)
 refine B2 ?_
 refine sB (qE rfl rfl) rfl rfl (fun h57 => ?_) (fun h57 => ?_)
 refine D4 ?_
 (have hq : k = 7 ∨ k = 8 := (by omega); obtain ⟨x, y, hxy⟩ := hL2 (by omega); have hBq := hB hq x y hxy; subst hxy; obtain ⟨bx, ox, e0, rfl, hl0, hat0, hre0, hgb0⟩ := hsl.kidTm hkl (i := 0) (by simp) (by simp); obtain ⟨_, _, e1, hp1, hl1, hat1, hre1, hgb1⟩ := hsl.kidTm hkl (i := 1) (by simp) (by simp); cases hp1; have hF := B0q k x y G e0 e1 hq (by have := (hkk x (by simp)); cases x; exact this.node.1.num0) (by have := (hkk y (by simp)); cases y; exact this.node.1.num0) hre0 hre1; rw [← hBq] at hF; refine D7 D8 rfl ?_)
 refine I9 (i := 0) (l' := [tt,ff,ff,ff,ff,ff,ff,ff,ff,ff,ff,ff,ff,ff,ff,ff,ff]) rfl D1 (B5 rfl) rfl (by kernel_rfl) rfl rfl ?_
 refine aL 1 rfl (C4 rfl rfl) rfl ?_
 refine aP 2 rfl (B5 rfl) rfl ?_
 refine aL 3 rfl (C4 rfl rfl) rfl ?_
 refine aP 4 rfl (B4 (j := 0) rfl rfl rfl (by simp)) rfl ?_
 refine aL 5 rfl (A2 rfl rfl (hat0 _) hl0) rfl ?_
 refine aP 6 rfl (B5 rfl) rfl ?_
 refine aL 7 rfl (C4 rfl rfl) rfl ?_
 refine aP 8 rfl (B4 (j := 1) rfl rfl rfl (by simp)) rfl ?_
 refine aL 9 rfl (A2 rfl rfl (hat1 _) hl1) rfl ?_
 refine A1 10 ?_
 (refine H0 rfl rfl hF rfl rfl rfl (fun v G1 hle1 hh => ?_); obtain ⟨wc, rfl, hrw⟩ := hh; have hwl := hrw.len; have hwo := hrw.one)
 refine aP 11 rfl (pX rfl rfl) rfl ?_
 refine aP 12 rfl (pX rfl rfl) rfl ?_
 refine aP 13 rfl (pX rfl rfl) rfl ?_
 refine A1 14 ?_
 (refine oS rfl rfl rfl rfl hwl hwo rfl rfl ?_ (hu := by exact D6 hwl.symm))
 refine aP 15 rfl (qA rfl) rfl ?_
 refine aP 16 rfl (qA rfl) rfl ?_
 refine A9 ?_
 refine C9 (rC rfl (A2 rfl rfl (B3 (by repeat first | exact mH | apply mT)) hwl)) (rT rfl) (rT rfl) ?_
 (exact ⟨rfl, _, rfl, hrw⟩)
 refine A9 ?_
 refine sB (qE rfl rfl) rfl rfl (fun h98 => ?_) (fun h98 => ?_)
 refine A9 ?_
 (have hq : k = 7 ∨ k = 8 := (by omega); obtain ⟨x, y, hxy⟩ := hL2 (by omega); have hBq := hB hq x y hxy; subst hxy; obtain ⟨bx, ox, e0, rfl, hl0, hat0, hre0, hgb0⟩ := hsl.kidTm hkl (i := 0) (by simp) (by simp); obtain ⟨_, _, e1, hp1, hl1, hat1, hre1, hgb1⟩ := hsl.kidTm hkl (i := 1) (by simp) (by simp); cases hp1; have hF := B0q k x y G e0 e1 hq (by have := (hkk x (by simp)); cases x; exact this.node.1.num0) (by have := (hkk y (by simp)); cases y; exact this.node.1.num0) hre0 hre1; rw [← hBq] at hF; refine D7 D8 rfl ?_)
 refine I9 (i := 0) (l' := [tt,ff,ff,ff,ff,ff,ff,ff,ff,ff,ff,ff,ff,ff,ff,ff,ff]) rfl D1 (B5 rfl) rfl (by kernel_rfl) rfl rfl ?_
 refine aL 1 rfl (C4 rfl rfl) rfl ?_
 refine aP 2 rfl (B5 rfl) rfl ?_
 refine aL 3 rfl (C4 rfl rfl) rfl ?_
 refine aP 4 rfl (B4 (j := 0) rfl rfl rfl (by simp)) rfl ?_
 refine aL 5 rfl (A2 rfl rfl (hat0 _) hl0) rfl ?_
 refine aP 6 rfl (B5 rfl) rfl ?_
 refine aL 7 rfl (C4 rfl rfl) rfl ?_
 refine aP 8 rfl (B4 (j := 1) rfl rfl rfl (by simp)) rfl ?_
 refine aL 9 rfl (A2 rfl rfl (hat1 _) hl1) rfl ?_
 refine A1 10 ?_
 (refine H0 rfl rfl hF rfl rfl rfl (fun v G1 hle1 hh => ?_); obtain ⟨wc, rfl, hrw⟩ := hh; have hwl := hrw.len; have hwo := hrw.one)
 refine aP 11 rfl (pX rfl rfl) rfl ?_
 refine aP 12 rfl (pX rfl rfl) rfl ?_
 refine aP 13 rfl (pX rfl rfl) rfl ?_
 refine A1 14 ?_
 (refine oS rfl rfl rfl rfl hwl hwo rfl rfl ?_ (hu := by exact D6 hwl.symm))
 refine aP 15 rfl (qA rfl) rfl ?_
 refine aP 16 rfl (qA rfl) rfl ?_
 refine A9 ?_
 refine C9 (rC rfl (A2 rfl rfl (B3 (by repeat first | exact mH | apply mT)) hwl)) (rT rfl) (rT rfl) ?_
 (exact ⟨rfl, _, rfl, hrw⟩)
 refine B2 ?_
 refine sB (qE rfl rfl) rfl rfl (fun h138 => ?_) (fun h138 => ?_)
 refine D4 ?_
 (have hq : k = 11 ∨ k = 12 := (by omega); obtain ⟨x, hxy⟩ := hL1 (by omega); have hDq := hD hq x hxy; subst hxy; obtain ⟨bx, ox, e0, rfl, hl0, hat0, hre0, hgb0⟩ := hsl.kidTm hkl (i := 0) (by simp) (by simp); have hF := B0r k x G e0 hq (hkk x (by simp)) hre0; rw [← hDq] at hF; refine D7 D8 rfl ?_)
 refine I9 (i := 0) (l' := [tt,ff,ff,ff,ff,ff,ff,ff,ff,ff,ff,ff,ff]) rfl D1 (B5 rfl) rfl (by kernel_rfl) rfl rfl ?_
 refine aL 1 rfl (C4 rfl rfl) rfl ?_
 refine aP 2 rfl (B5 rfl) rfl ?_
 refine aL 3 rfl (C4 rfl rfl) rfl ?_
 refine aP 4 rfl (B4 (j := 0) rfl rfl rfl (by simp)) rfl ?_
 refine aL 5 rfl (A2 rfl rfl (hat0 _) hl0) rfl ?_
 refine A1 6 ?_
 (refine H0 rfl rfl hF rfl rfl rfl (fun v G1 hle1 hh => ?_); obtain ⟨wc, rfl, hrw⟩ := hh; have hwl := hrw.len; have hwo := hrw.one)
 refine aP 7 rfl (pX rfl rfl) rfl ?_
 refine aP 8 rfl (pX rfl rfl) rfl ?_
 refine aP 9 rfl (pX rfl rfl) rfl ?_
 refine A1 10 ?_
 (refine oS rfl rfl rfl rfl hwl hwo rfl rfl ?_ (hu := by exact D6 hwl.symm))
 refine aP 11 rfl (qA rfl) rfl ?_
 refine aP 12 rfl (qA rfl) rfl ?_
 refine A9 ?_
 refine C9 (rC rfl (A2 rfl rfl (B3 (by repeat first | exact mH | apply mT)) hwl)) (rT rfl) (rT rfl) ?_
 (exact ⟨rfl, _, rfl, hrw⟩)
 refine A9 ?_
 refine sB (qE rfl rfl) rfl rfl (fun h175 => ?_) (fun h175 => ?_)
 refine A9 ?_
 (have hq : k = 11 ∨ k = 12 := (by omega); obtain ⟨x, hxy⟩ := hL1 (by omega); have hDq := hD hq x hxy; subst hxy; obtain ⟨bx, ox, e0, rfl, hl0, hat0, hre0, hgb0⟩ := hsl.kidTm hkl (i := 0) (by simp) (by simp); have hF := B0r k x G e0 hq (hkk x (by simp)) hre0; rw [← hDq] at hF; refine D7 D8 rfl ?_)
 refine I9 (i := 0) (l' := [tt,ff,ff,ff,ff,ff,ff,ff,ff,ff,ff,ff,ff]) rfl D1 (B5 rfl) rfl (by kernel_rfl) rfl rfl ?_
 refine aL 1 rfl (C4 rfl rfl) rfl ?_
 refine aP 2 rfl (B5 rfl) rfl ?_
 refine aL 3 rfl (C4 rfl rfl) rfl ?_
 refine aP 4 rfl (B4 (j := 0) rfl rfl rfl (by simp)) rfl ?_
 refine aL 5 rfl (A2 rfl rfl (hat0 _) hl0) rfl ?_
 refine A1 6 ?_
 (refine H0 rfl rfl hF rfl rfl rfl (fun v G1 hle1 hh => ?_); obtain ⟨wc, rfl, hrw⟩ := hh; have hwl := hrw.len; have hwo := hrw.one)
 refine aP 7 rfl (pX rfl rfl) rfl ?_
 refine aP 8 rfl (pX rfl rfl) rfl ?_
 refine aP 9 rfl (pX rfl rfl) rfl ?_
 refine A1 10 ?_
 (refine oS rfl rfl rfl rfl hwl hwo rfl rfl ?_ (hu := by exact D6 hwl.symm))
 refine aP 11 rfl (qA rfl) rfl ?_
 refine aP 12 rfl (qA rfl) rfl ?_
 refine A9 ?_
 refine C9 (rC rfl (A2 rfl rfl (B3 (by repeat first | exact mH | apply mT)) hwl)) (rT rfl) (rT rfl) ?_
 (exact ⟨rfl, _, rfl, hrw⟩)
 refine A8 ?_
 refine sB (qE rfl rfl) rfl rfl (fun h210 => ?_) (fun h210 => ?_)
 refine B2 ?_
 (refine E7 rfl (hC (by omega)) rfl rfl (fun v G1 hle1 hh => ?_); obtain ⟨wc, rfl, hrw⟩ := hh; have hwl := hrw.len; have hwo := hrw.one)
 refine B6 ?_
 refine sS rfl rfl rfl hwl hwo rfl ?_ (hu := by exact D6 hwl.symm)
 refine B2 ?_
 refine C9 (rC rfl (A2 rfl rfl (B3 (by repeat first | exact mH | apply mT)) hwl)) (rT rfl) (rT rfl) ?_
 (exact ⟨rfl, _, rfl, hrw⟩)
 refine J9 ?_
 refine C9 (rC rfl (A4 rfl rfl)) (rT rfl) (rT rfl) ?_
 (rw [hO (by omega)]; exact L5.mk rfl (O6 _))
theorem B5C {k : Int} {nm : ByteArray} {num : Int} {ty fr : Ty} {lb : Int} {ks : List Tm} {i : Nat} (hi : i < ks.length) (hn : i < (if k = 9 then 1 else ks.length)) (hj : ∀ j, j < i → (h : j < ks.length) → F0 ks[j] = true) (hv : F0 ks[i] = false) :
  I6 (.mk k nm num ty fr lb ks) = if (I6 ks[i]).2.1 = 1 then (.mk k nm num ty fr lb (ks.set i (I6 ks[i]).1), 1, 0) else (J5, (I6 ks[i]).2.1, (I6 ks[i]).2.2) := by
 rw [I6, A6g _ ks i hi hn hj hv]
theorem B5D {k : Int} {nm : ByteArray} {num : Int} {ty fr : Ty} {lb : Int} {ks : List Tm} (h : ∀ i, i < (if k = 9 then 1 else ks.length) → (hl : i < ks.length) → F0 ks[i] = true) : I6 (.mk k nm num ty fr lb ks) = O2 k ty fr lb ks := by
 rw [I6, A4R _ _ h]
theorem B5E {ty fr : Ty} {lb : Int} {a b c : Tm} : O2 9 ty fr lb [a, b, c] = (if a.k = 3 then (b, 1, 0) else if a.k = 4 then (c, 1, 0) else P5) := rfl
theorem B5F : ∀ (t : Tm) (G : IM) (cells : List Value), cv t → F0 t = false → B0 G t cells → Fn Tryz.prog 211 [.agg ⟨cells⟩] [] G (L5 (I6 t)) := by
 refine Tm.ind fun k nm num ty fr lb ks ih G cells hc hv hr => ?_
 have hr0 := hr
 have hRl := hr.len
 have hN := hc.node.1
 have hkk := hc.node.2
 have hops := hN.ops
 have hle3 := A1a k
 have hkd := @A6h k nm num ty fr lb ks hc hv
 have hkX := fun (i : Nat) => @B5C k nm num ty fr lb ks i
 have hrX := @B5D k nm num ty fr lb ks
 have hRd := fun h7 => B5B k nm num ty fr lb ks G cells h7 hc hr
 obtain ⟨C, hC⟩ : ∃ C : Nat, (if k = 9 then 1 else ks.length : Nat) = C := ⟨_, rfl⟩
 rw [hC] at hkd hrX
 have hkX' := fun (i : Nat) (hi : i < ks.length) (hn : i < C) => hkX i hi (by rw [hC]; exact hn)
 have h93 : k = 9 → ks.length = 3 := fun h => by rw [h] at hops; have : D9 9 = 3 := rfl; omega
 have hC1 : k = 9 → C = 1 := fun h => by rw [← hC, if_pos h]
 have hC2 : k ≠ 9 → C = ks.length := fun h => by rw [← hC, if_neg h]
 have hC9 : C ≤ ks.length := by by_cases h9 : k = 9; have := h93 h9; have := hC1 h9; omega; have := hC2 h9; omega
 generalize I6 (.mk k nm num ty fr lb ks) = R at hkX hkX' hrX ⊢
 obtain ⟨tk, tks⟩ := ty
 obtain ⟨fk, fks⟩ := fr
 obtain ⟨pt, ct, pf, cf, p, c, es, rfl, hk, hnum, hlb, hty, hfr, hsl, hkl⟩ := hr.open9
 have hn := hsl.le
 have hnc := hsl.sl.2.1
 have hes1 : ∀ u ∈ es.flatten, u.oneCell' = true := by
  intro u hu
  obtain ⟨e, he, hue⟩ := List.mem_flatten.1 hu
  exact List.all_eq_true.1 (hsl.one e he) u hue
 refine C3 Tryz.func211 rfl Tryz.ntmps211 Tryz.results211 rfl ?_
 intro w0
 refine A3 ?_
 refine sE (C8 rfl rfl) rfl (fun b3 => ?_)
 refine sE (A6 rfl) rfl (fun b4 => ?_)
 refine T1 ?_
 refine sB (qE rfl rfl) rfl rfl (fun h22 => ?_) (fun h22 => ?_)
 refine A3 ?_
 (show I4 _ _ (.cond (.tmp 16) _ _) _ _; refine Y7 (fun (_ : Unit) => ⟨[(5, .int .i64 (C : Int)), (1, .pointer (some ⟨b3, 0, none⟩)), (2, .pointer (some ⟨b4, 0, none⟩))], [.blk b4 [.int .i64 0, .string ⟨⟨[]⟩⟩, .int .i64 0, .int .i64 0, .slice none 0 0, .int .i64 0, .slice none 0 0, .int .i64 0, .slice none 0 0], .blk b3 [.int .i64 k, .string nm, .int .i64 num, .int .i64 tk, .slice pt tks.length ct, .int .i64 fk, .slice pf fks.length cf, .int .i64 lb, .slice p ks.length c]], G⟩) (fun _ => True) (qT rfl ?_) ?_)
 refine B6 ?_
 (have hCC := hC1 (by omega); subst hCC; refine P0 () (L3 (by repeat (first | exact E1.nil | refine E1.cons rfl ?_)) (by repeat (first | exact A0.refl | exact A0.nil | refine A0.cons (by repeat (first | exact Pk.here | apply Pk.there)) ?_ | apply A0.drop))) trivial)
 (rintro (_ : Unit) _)
 refine A8 ?_
 refine C1 ?_
 (refine J8 (fun (i : Nat) => ⟨[(6, .int .i64 (i : Int)), (5, .int .i64 (C : Int)), (1, .pointer (some ⟨b3, 0, none⟩)), (2, .pointer (some ⟨b4, 0, none⟩))], [.blk b4 [.int .i64 0, .string ⟨⟨[]⟩⟩, .int .i64 0, .int .i64 0, .slice none 0 0, .int .i64 0, .slice none 0 0, .int .i64 0, .slice none 0 0], .blk b3 [.int .i64 k, .string nm, .int .i64 num, .int .i64 tk, .slice pt tks.length ct, .int .i64 fk, .slice pf fks.length cf, .int .i64 lb, .slice p ks.length c]], G⟩) (fun i => i ≤ C ∧ ∀ j, j < i → (h : j < ks.length) → F0 ks[j] = true) (fun i => C - i) 0 ?_ ?_ ?_)
 exact E2
 exact A6i
 (rintro i ⟨hi, hj⟩)
 refine A9 ?_
 refine sB (J1 rfl rfl) rfl rfl (fun h47 => ?_) (fun h47 => ?_)
 refine A8 ?_
 refine C1 ?_
 refine A8 ?_
 (have hiC : i < C := (by omega); obtain ⟨bx, ox, e, rfl, hl, hat, hre, hgb⟩ := hsl.kidTm hkl (i := i) (by omega) (by omega); have heo := hre.one; have hVi := A6K ks[i] G e (hkk _ (List.getElem_mem (by omega))) hre; refine sP (B4 (j := i) rfl rfl rfl (by omega)) rfl rfl ?_)
 refine sL (A2 rfl rfl (hat _) hl) rfl rfl ?_
 refine F8 rfl (hVi) rfl rfl (fun h63 => ?_) (fun h63 => ?_)
 refine E0 ?_
 refine sP (J0 rfl rfl (by omega) (by omega)) rfl rfl ?_
 refine A3 ?_
 refine J6 (i + 1) ?_ ?_ ?_
 exact E2
 exact A6j
 (show C - (i + 1) < C - i; omega)
 refine J2 ?_
 refine sP (B4 (j := i) rfl rfl rfl (by omega)) rfl rfl ?_
 refine sL (A2 rfl rfl (hat _) hl) rfl rfl ?_
 (have hvF : F0 ks[i] = false := (by assumption); have hst := hkX' i (by omega) hiC (fun j hji hl2 => hj j hji hl2) hvF; refine E7 rfl (ih ks[i] (List.getElem_mem (by omega)) G e (hkk _ (List.getElem_mem (by omega))) hvF hre) rfl rfl (fun v G1 hle1 hh => ?_); obtain ⟨uc, hvv, hru⟩ := hh; have hul := hru.len; have huo := hru.one; generalize I6 ks[i] = r at hvv hru hst; obtain ⟨u, cc, ll⟩ := r; simp only at hvv hru hst; subst hvv)
 refine B1 ?_
 refine sE (A6 rfl) rfl (fun b97 => ?_)
 refine sS rfl rfl rfl hul huo rfl ?_ (hu := by exact D6 hul.symm)
 refine D4 ?_
 refine sB (N9 rfl rfl) rfl rfl (fun h107 => ?_) (fun h107 => ?_)
 refine Z5 ?_
 refine C9 (rC rfl (A4 rfl rfl)) (rT rfl) (rT rfl) ?_
 (rw [hst, if_neg (by omega)]; exact L5.mk rfl (O6 _))
 refine D4 ?_
 refine sE (A6 rfl) rfl (fun b138 => ?_)
 refine A9 ?_
 (refine I7 (C7 rfl rfl rfl (by omega) (by unfold maxLen; omega) rfl) rfl ?_; rintro _ ⟨b144, rfl⟩)
 refine A3 ?_
 (refine A3A rfl rfl rfl rfl rfl (fun _ _ => by repeat (first | exact Sw.here | apply Sw.there)) (hsl.mono hle1).sl hes1 (Nat.zero_le _) (by unfold maxLen; omega) (by omega) rfl (fun p4 c4 => ?_); simp only [Nat.zero_add, List.nil_append]; refine A3E (cs := es.flatten) (by repeat (first | exact Pk.here | apply Pk.there)) (by omega) (fun bc Cc hpe hnc1 hcm => ?_); subst hpe)
 refine E0 ?_
 refine sL (A2 rfl rfl (B3 (by repeat first | exact mH | apply mT)) hul) rfl rfl ?_
 refine sP (B4 (j := i) rfl rfl rfl (by omega)) rfl rfl ?_
 refine Y2 rfl rfl rfl hul huo rfl (by repeat first | exact Sw.here | apply Sw.there) (by exact A3F (by rw [hkl.len]; omega) (fun e he => (hsl.all e he)) hul) ?_
 refine J2 ?_
 (refine A16 (bs := [(bc, (es.set i uc).flatten ++ Cc)]) (Pk.perm (by repeat (first | exact Pk.here | apply Pk.there))) (fun hn2 hd2 hle2 => ?_))
 refine A8 ?_
 refine C9 (rC rfl (A4 rfl rfl)) (rT rfl) (rT rfl) ?_
 (have hks2 := D0.set (j := i) ((hkl.mono hle1).mono hle2) (hru.mono hle2); rw [hst, if_pos (by omega)]; exact L5.mk rfl (B0.put (us := ks.set i u) (es := es.set i uc) hk hnum hlb ((hty.mono hle1).mono hle2) ((hfr.mono hle1).mono hle2) (by rw [List.length_set]) (D5.of (Sl.of_blk (A := []) (by rw [A0A hks2.all, hks2.len, List.length_set]) (by omega) hcm (Wi.in hn2 List.mem_cons_self)) (by rw [hks2.len, List.length_set]) hks2.all (fun e he => by obtain ⟨q, hq⟩ := List.getElem?_of_mem he; exact (hks2.inv hq J5).2.one)) hks2))
 refine K5 ?_
 refine sP (A0N rfl rfl (by omega)) rfl rfl ?_
 refine J2 ?_
 (have hall : ∀ i, i < C → (hl : i < ks.length) → F0 ks[i] = true := (fun j hjc hl2 => hj j (by omega) hl2); have hrd' := hrX hall; have h9 : k = 9 := (by omega); subst h9; obtain ⟨xa, xb, xc, hxs⟩ := ks3 (h93 rfl); subst hxs; rw [B5E] at hrd'; obtain ⟨bx, ox, e0, rfl, hl0, hat0, hre0, hgb0⟩ := hsl.kidTm hkl (i := 0) (by simp) (by simp); obtain ⟨_, _, e1, hp1, hl1, hat1, hre1, hgb1⟩ := hsl.kidTm hkl (i := 1) (by simp) (by simp); cases hp1; obtain ⟨_, _, e2, hp2, hl2, hat2, hre2, hgb2⟩ := hsl.kidTm hkl (i := 2) (by simp) (by simp); cases hp2; replace hre0 : B0 G xa e0 := hre0; replace hre1 : B0 G xb e1 := hre1; replace hre2 : B0 G xc e2 := hre2; have ho1 := hre1.one; have ho2 := hre2.one; obtain ⟨ak, anm, anum, ⟨atk, atks⟩, ⟨afk, afks⟩, alb, aks⟩ := xa; obtain ⟨apt, act, apf, acf, ap, ac, aes, rfl, hak, hanum, halb, haty, hafr, hasl, hakl⟩ := hre0.open9; replace hrd' : R = (if ak = 3 then (xb, 1, 0) else if ak = 4 then (xc, 1, 0) else P5) := hrd'; refine sP (B4 (j := 0) rfl rfl rfl (by simp)) rfl rfl ?_)
 refine E6 ?_
 refine sL (A0p rfl rfl ((hat0 _).sub (j := 0) rfl)) rfl rfl ?_
 refine A3 ?_
 refine C1 (tS (tR (sB (qE rfl rfl) rfl rfl (fun h211 => ?_) (fun h211 => ?_))))
 refine D4 ?_
 refine sP (B4 (j := 1) rfl rfl rfl (by simp)) rfl rfl ?_
 refine sL (A2 rfl rfl (hat1 _) hl1) rfl rfl ?_
 refine sS rfl rfl rfl hl1 ho1 rfl ?_ (hu := by exact D6 hl1.symm)
 refine B2 ?_
 refine C9 (rC rfl (A2 rfl rfl (B3 (by repeat first | exact mH | apply mT)) hl1)) (rT rfl) (rT rfl) ?_
 (rw [hrd', if_pos (by omega)]; exact L5.mk rfl hre1)
 refine A8 ?_
 refine sB (qE rfl rfl) rfl rfl (fun h238 => ?_) (fun h238 => ?_)
 refine D4 ?_
 refine sP (B4 (j := 2) rfl rfl rfl (by simp)) rfl rfl ?_
 refine sL (A2 rfl rfl (hat2 _) hl2) rfl rfl ?_
 refine sS rfl rfl rfl hl2 ho2 rfl ?_ (hu := by exact D6 hl2.symm)
 refine B2 ?_
 refine C9 (rC rfl (A2 rfl rfl (B3 (by repeat first | exact mH | apply mT)) hl2)) (rT rfl) (rT rfl) ?_
 (rw [hrd', if_neg (by omega), if_pos (by omega)]; exact L5.mk rfl hre2)
 refine J9 ?_
 refine C9 (rC rfl (A4 rfl rfl)) (rT rfl) (rT rfl) ?_
 (rw [hrd', if_neg (by omega), if_neg (by omega)]; exact L5.mk rfl (O6 _))
 refine A3 ?_
 (show I4 _ _ (.cond (.tmp 16) _ _) _ _; refine Y7 (fun (_ : Unit) => ⟨[(5, .int .i64 (C : Int)), (1, .pointer (some ⟨b3, 0, none⟩)), (2, .pointer (some ⟨b4, 0, none⟩))], [.blk b4 [.int .i64 0, .string ⟨⟨[]⟩⟩, .int .i64 0, .int .i64 0, .slice none 0 0, .int .i64 0, .slice none 0 0, .int .i64 0, .slice none 0 0], .blk b3 [.int .i64 k, .string nm, .int .i64 num, .int .i64 tk, .slice pt tks.length ct, .int .i64 fk, .slice pf fks.length cf, .int .i64 lb, .slice p ks.length c]], G⟩) (fun _ => True) (cF rfl ?_) ?_)
 refine tK ?_
 (have hCC := hC2 (by omega); subst hCC; refine P0 () (L3 (by repeat (first | exact E1.nil | refine E1.cons rfl ?_)) (by repeat (first | exact A0.refl | exact A0.nil | refine A0.cons (by repeat (first | exact Pk.here | apply Pk.there)) ?_ | apply A0.drop))) trivial)
 (rintro (_ : Unit) _)
 refine A8 ?_
 refine C1 ?_
 (refine J8 (fun (i : Nat) => ⟨[(6, .int .i64 (i : Int)), (5, .int .i64 (C : Int)), (1, .pointer (some ⟨b3, 0, none⟩)), (2, .pointer (some ⟨b4, 0, none⟩))], [.blk b4 [.int .i64 0, .string ⟨⟨[]⟩⟩, .int .i64 0, .int .i64 0, .slice none 0 0, .int .i64 0, .slice none 0 0, .int .i64 0, .slice none 0 0], .blk b3 [.int .i64 k, .string nm, .int .i64 num, .int .i64 tk, .slice pt tks.length ct, .int .i64 fk, .slice pf fks.length cf, .int .i64 lb, .slice p ks.length c]], G⟩) (fun i => i ≤ C ∧ ∀ j, j < i → (h : j < ks.length) → F0 ks[j] = true) (fun i => C - i) 0 ?_ ?_ ?_)
 exact E2
 exact A6i
 (rintro i ⟨hi, hj⟩)
 refine A9 ?_
 refine sB (J1 rfl rfl) rfl rfl (fun h299 => ?_) (fun h299 => ?_)
 refine A8 ?_
 refine C1 ?_
 refine A8 ?_
 (have hiC : i < C := (by omega); obtain ⟨bx, ox, e, rfl, hl, hat, hre, hgb⟩ := hsl.kidTm hkl (i := i) (by omega) (by omega); have heo := hre.one; have hVi := A6K ks[i] G e (hkk _ (List.getElem_mem (by omega))) hre; refine sP (B4 (j := i) rfl rfl rfl (by omega)) rfl rfl ?_)
 refine sL (A2 rfl rfl (hat _) hl) rfl rfl ?_
 refine F8 rfl (hVi) rfl rfl (fun h315 => ?_) (fun h315 => ?_)
 refine E0 ?_
 refine sP (J0 rfl rfl (by omega) (by omega)) rfl rfl ?_
 refine A3 ?_
 refine J6 (i + 1) ?_ ?_ ?_
 exact E2
 exact A6j
 (show C - (i + 1) < C - i; omega)
 refine J2 ?_
 refine sP (B4 (j := i) rfl rfl rfl (by omega)) rfl rfl ?_
 refine sL (A2 rfl rfl (hat _) hl) rfl rfl ?_
 (have hvF : F0 ks[i] = false := (by assumption); have hst := hkX' i (by omega) hiC (fun j hji hl2 => hj j hji hl2) hvF; refine E7 rfl (ih ks[i] (List.getElem_mem (by omega)) G e (hkk _ (List.getElem_mem (by omega))) hvF hre) rfl rfl (fun v G1 hle1 hh => ?_); obtain ⟨uc, hvv, hru⟩ := hh; have hul := hru.len; have huo := hru.one; generalize I6 ks[i] = r at hvv hru hst; obtain ⟨u, cc, ll⟩ := r; simp only at hvv hru hst; subst hvv)
 refine B1 ?_
 refine sE (A6 rfl) rfl (fun b349 => ?_)
 refine sS rfl rfl rfl hul huo rfl ?_ (hu := by exact D6 hul.symm)
 refine D4 ?_
 refine sB (N9 rfl rfl) rfl rfl (fun h359 => ?_) (fun h359 => ?_)
 refine Z5 ?_
 refine C9 (rC rfl (A4 rfl rfl)) (rT rfl) (rT rfl) ?_
 (rw [hst, if_neg (by omega)]; exact L5.mk rfl (O6 _))
 refine D4 ?_
 refine sE (A6 rfl) rfl (fun b390 => ?_)
 refine A9 ?_
 (refine I7 (C7 rfl rfl rfl (by omega) (by unfold maxLen; omega) rfl) rfl ?_; rintro _ ⟨b396, rfl⟩)
 refine A3 ?_
 (refine A3A rfl rfl rfl rfl rfl (fun _ _ => by repeat (first | exact Sw.here | apply Sw.there)) (hsl.mono hle1).sl hes1 (Nat.zero_le _) (by unfold maxLen; omega) (by omega) rfl (fun p4 c4 => ?_); simp only [Nat.zero_add, List.nil_append]; refine A3E (cs := es.flatten) (by repeat (first | exact Pk.here | apply Pk.there)) (by omega) (fun bc Cc hpe hnc1 hcm => ?_); subst hpe)
 refine E0 ?_
 refine sL (A2 rfl rfl (B3 (by repeat first | exact mH | apply mT)) hul) rfl rfl ?_
 refine sP (B4 (j := i) rfl rfl rfl (by omega)) rfl rfl ?_
 refine Y2 rfl rfl rfl hul huo rfl (by repeat first | exact Sw.here | apply Sw.there) (by exact A3F (by rw [hkl.len]; omega) (fun e he => (hsl.all e he)) hul) ?_
 refine J2 ?_
 (refine A16 (bs := [(bc, (es.set i uc).flatten ++ Cc)]) (Pk.perm (by repeat (first | exact Pk.here | apply Pk.there))) (fun hn2 hd2 hle2 => ?_))
 refine A8 ?_
 refine C9 (rC rfl (A4 rfl rfl)) (rT rfl) (rT rfl) ?_
 (have hks2 := D0.set (j := i) ((hkl.mono hle1).mono hle2) (hru.mono hle2); rw [hst, if_pos (by omega)]; exact L5.mk rfl (B0.put (us := ks.set i u) (es := es.set i uc) hk hnum hlb ((hty.mono hle1).mono hle2) ((hfr.mono hle1).mono hle2) (by rw [List.length_set]) (D5.of (Sl.of_blk (A := []) (by rw [A0A hks2.all, hks2.len, List.length_set]) (by omega) hcm (Wi.in hn2 List.mem_cons_self)) (by rw [hks2.len, List.length_set]) hks2.all (fun e he => by obtain ⟨q, hq⟩ := List.getElem?_of_mem he; exact (hks2.inv hq J5).2.one)) hks2))
 refine K5 ?_
 refine sP (W6 rfl rfl (by omega)) rfl rfl ?_
 refine A8 ?_
 (have hall : ∀ i, i < C → (hl : i < ks.length) → F0 ks[i] = true := (fun j hjc hl2 => hj j (by omega) hl2); have hk8 := hkd hall; have hrd' := hrX hall; refine E7 rfl (hRd (by omega)) rfl rfl (fun v G1 hle1 hh => ?_); obtain ⟨uc, rfl, hru⟩ := hh; have hul := hru.len; have huo := hru.one)
 refine B6 ?_
 refine sS rfl rfl rfl hul huo rfl ?_ (hu := by exact D6 hul.symm)
 refine A8 ?_
 refine C9 (rC rfl (A2 rfl rfl (B3 (by repeat first | exact mH | apply mT)) hul)) (rT rfl) (rT rfl) ?_
 (rw [hrd']; exact ⟨rfl, _, rfl, hru⟩)
theorem B5G {t : Tm} (h : M2 t = true) : (I6 t).1.small ∧ D3 (I6 t).1 ≤ 40300 := by
 obtain ⟨h1, h2⟩ := A0X h
 have := B3i t (A2h t h1) h2
 exact ⟨this.1, by omega⟩
theorem B5H (t : Tm) (G : IM) (cells : List Value) (hcnt : D3 t ≤ 4294967296) (hr : B0 G t cells) : Fn Tryz.prog 170 [.agg ⟨cells⟩] [] G (L5 (H7 t)) := by
 have hRl := hr.len
 have hRo := hr.one
 have hV := A8t t G cells hcnt hr
 have e1 := @A4T t
 have e2 := @A3V t
 have e3 := @A3W t
 have e4 := @A3X t
 have e5 := @A3Y t
 have hsc := @B5G t
 refine C3 Tryz.func170 rfl Tryz.ntmps170 Tryz.results170 rfl ?_
 intro w0
 refine A3 ?_
 refine sE (C8 rfl rfl) rfl (fun b3 => ?_)
 refine sE (A6 rfl) rfl (fun b4 => ?_)
 refine B2 ?_
 refine sL (A2 rfl rfl (B3 (by repeat first | exact mH | apply mT)) hRl) rfl rfl ?_
 refine F8 rfl (hV) rfl rfl (fun h13 => ?_) (fun h13 => ?_)
 refine E0 ?_
 refine sL (A2 rfl rfl (B3 (by repeat first | exact mH | apply mT)) hRl) rfl rfl ?_
 refine F8 rfl ((A6K t G cells (A0X (by assumption)).1 hr)) rfl rfl (fun h24 => ?_) (fun h24 => ?_)
 refine A9 ?_
 refine sL (A2 rfl rfl (B3 (by repeat first | exact mH | apply mT)) hRl) rfl rfl ?_
 (refine E7 rfl (A2L t G cells (A4S (by assumption)) hr) rfl rfl (fun v G1 hle1 hh => ?_); obtain ⟨cs1, F1, rfl, hs1, hn1⟩ := hh; have hul := hs1.R.len; have huo := hs1.R.one)
 refine sS rfl rfl rfl hul huo rfl ?_ (hu := by exact D6 hul.symm)
 refine A8 ?_
 refine C9 (rC rfl (A2 rfl rfl (B3 (by repeat first | exact mH | apply mT)) hul)) (rT rfl) (rT rfl) ?_
 (exact L5.mk (e2 (by assumption) (by assumption)) (hs1.R.mono (C5.le _ _)))
 refine B2 ?_
 refine sL (A2 rfl rfl (B3 (by repeat first | exact mH | apply mT)) hRl) rfl rfl ?_
 (have hcv : M2 t = true := (by assumption); have hnv : F0 t = false := (by assumption); obtain ⟨hsc1, hsc2⟩ := hsc hcv; replace e3 := e3 hcv hnv; replace e4 := e4 hcv hnv; replace e5 := e5 hcv hnv; refine E7 rfl (B5F t G cells (A0X hcv).1 hnv hr) rfl rfl (fun v G1 hle1 hh => ?_); obtain ⟨uc, hvv, hru⟩ := hh; have hul := hru.len; have huo := hru.one; generalize I6 t = r at hvv hru hsc1 hsc2 e3 e4 e5; obtain ⟨u, cc, ll⟩ := r; simp only at hvv hru hsc1 hsc2 e3 e4 e5; subst hvv; have hVu := A8t u G1 uc (by omega) hru)
 refine B1 ?_
 refine sE (A6 rfl) rfl (fun b54 => ?_)
 refine sS rfl rfl rfl hul huo rfl ?_ (hu := by exact D6 hul.symm)
 refine D4 ?_
 refine sB (N9 rfl rfl) rfl rfl (fun h64 => ?_) (fun h64 => ?_)
 refine I0 ?_
 refine C9 (rC rfl (A4 rfl rfl)) (rT rfl) (rT rfl) ?_
 (exact L5.mk (e3 (by omega)) (O6 _))
 refine D4 ?_
 refine sL (A2 rfl rfl (B3 (by repeat first | exact mH | apply mT)) hul) rfl rfl ?_
 refine F8 rfl (hVu) rfl rfl (fun h91 => ?_) (fun h91 => ?_)
 refine D4 ?_
 refine sL (A2 rfl rfl (B3 (by repeat first | exact mH | apply mT)) hul) rfl rfl ?_
 (refine E7 rfl (A2L u G1 uc hsc1 hru) rfl rfl (fun v G2 hle2 hh => ?_); obtain ⟨cs2, F2, rfl, hs2, hn2⟩ := hh; have hwl := hs2.R.len; have hwo := hs2.R.one)
 refine sS rfl rfl rfl hwl hwo rfl ?_ (hu := by exact D6 hwl.symm)
 refine A9 ?_
 refine C9 (rC rfl (A2 rfl rfl (B3 (by repeat first | exact mH | apply mT)) hwl)) (rT rfl) (rT rfl) ?_
 (exact L5.mk (e5 (by omega) (by assumption)) (hs2.R.mono (C5.le _ _)))
 refine J3 ?_
 refine C9 (rC rfl (A4 rfl rfl)) (rT rfl) (rT rfl) ?_
 (exact L5.mk (e4 (by omega) (by assumption)) (O6 _))
 refine J3 ?_
 refine C9 (rC rfl (A4 rfl rfl)) (rT rfl) (rT rfl) ?_
 (exact L5.mk (e1 (by assumption)) (O6 _))
theorem B5I {m i : Nat} {e : Tm} (h : (H7 e).2.1 ≠ 1) : Z0 i (L9 m e) = ((H7 e).1, (H7 e).2.1, (H7 e).2.2, i) := by
 cases m with
 | zero => rw [L9, if_neg h]; simp [Z0]
 | succ m => rw [L9, if_neg h]; simp [Z0]
theorem B5J {m i : Nat} {e : Tm} (h : (H7 e).2.1 = 1) (hm : m = 0) : Z0 i (L9 m e) = (J5, 5, 0, i) := by
 subst hm; rw [L9, if_pos h]; simp [Z0]
theorem B5K {m i : Nat} {e : Tm} (h : (H7 e).2.1 = 1) (hm : 0 < m) : Z0 i (L9 m e) = Z0 (i + 1) (L9 (m - 1) (H7 e).1) := by
 obtain ⟨k, rfl⟩ : ∃ k, m = k + 1 := ⟨m - 1, by omega⟩
 rw [L9, if_pos h]; simp only [Z0, Nat.add_sub_cancel, Nat.add_assoc, Nat.add_comm 1 i]
theorem B5L (e : Tm) (n : Nat) (hn : n ≤ 300) (G : IM) (cells : List Value) (hcnt : D3 e ≤ 4294967296) (hr : B0 G e cells) : Fn Tryz.prog 128 [.agg ⟨cells⟩, .int .i64 (n : Int)] [] G (EvP (L9 n e)) := by
 have hRl := hr.len
 have hRo := hr.one
 refine C3 Tryz.func128 rfl Tryz.ntmps128 Tryz.results128 rfl ?_
 intro w0
 refine A3 ?_
 refine sE (C8 rfl rfl) rfl (fun b3 => ?_)
 refine sE (A6 rfl) rfl (fun b4 => ?_)
 refine J2 ?_
 refine C1 ?_
 (refine J8 (fun (x : Nat × Tm × List Value × IM) => ⟨[(8, .int .i64 (x.1 : Int)), (1, .int .i64 (n : Int)), (2, .pointer (some ⟨b3, 0, none⟩)), (4, .pointer (some ⟨b4, 0, none⟩))], [.blk b3 x.2.2.1, .blk b4 [.int .i64 0, .string ⟨⟨[]⟩⟩, .int .i64 0, .int .i64 0, .slice none 0 0, .int .i64 0, .slice none 0 0, .int .i64 0, .slice none 0 0]], x.2.2.2⟩) (fun x => x.1 ≤ n ∧ C0 G x.2.2.2 ∧ B0 x.2.2.2 x.2.1 x.2.2.1 ∧ D3 x.2.1 ≤ 4294967296 ∧ Z0 x.1 (L9 (n - x.1) x.2.1) = L9 n e) (fun x => n - x.1) (0, e, cells, G) ?_ ?_ ?_)
 (simp only [I5]; exact E2)
 (exact ⟨Nat.zero_le _, C0.refl _, hr, hcnt, rfl⟩)
 (rintro ⟨i, u, uc, Gi⟩ ⟨hi, hle, hru, hcu, hev⟩; simp only [] at hi hle hru hcu hev ⊢; have hul := hru.len; have huo := hru.one)
 refine tS ?_
 refine C1 ?_
 refine A3 ?_
 refine sL (A2 rfl rfl (B3 (by repeat first | exact mH | apply mT)) hul) rfl rfl ?_
 (refine E7 rfl (B5H u Gi uc hcu hru) rfl rfl (fun v G1 hle1 hh => ?_); obtain ⟨wc, hv, hrw⟩ := hh; have hwl := hrw.len; have hwo := hrw.one; have hend := @B5I (n - i) i u; have hmu := @B5J (n - i) i u; have hgo := @B5K (n - i) i u; have hval := @B4h u; generalize H7 u = r at hv hrw hend hmu hgo hval; obtain ⟨w, c, l⟩ := r; simp only at hv hrw hend hmu hgo hval; subst hv)
 refine B1 ?_
 refine sE (A6 rfl) rfl (fun b30 => ?_)
 refine sS rfl rfl rfl hwl hwo rfl ?_ (hu := by exact D6 hwl.symm)
 refine D4 ?_
 refine sB (N9 rfl rfl) rfl rfl (fun h40 => ?_) (fun h40 => ?_)
 refine A9 ?_
 refine sL (A2 rfl rfl (B3 (by repeat first | exact mH | apply mT)) hwl) rfl rfl ?_
 refine B6 ?_
 refine sS rfl rfl rfl hwl hwo rfl ?_ (hu := by exact D6 hwl.symm)
 refine J4 ?_
 refine A4U (rC rfl (A2 rfl rfl (B3 (by repeat first | exact mH | apply mT)) hwl)) (rT rfl) (rT rfl) (rT rfl) ?_
 exact A6n
 refine J2 ?_
 refine sB (qE rfl rfl) rfl rfl (fun h74 => ?_) (fun h74 => ?_)
 refine A0h ?_
 refine A4U (rC rfl (A4 rfl rfl)) (rT rfl) (rT rfl) (rT rfl) ?_
 (exact EvP.mk (by rw [← hev]; exact hmu (by omega) (by omega)) (O6 _))
 refine A8 ?_
 refine sL (A2 rfl rfl (B3 (by repeat first | exact mH | apply mT)) hwl) rfl rfl ?_
 refine Y2 rfl rfl rfl hwl hwo rfl (by repeat first | exact Sw.here | apply Sw.there) (by exact D6 (hul.trans hwl.symm)) ?_
 refine A9 ?_
 refine sP (J0 rfl rfl (by omega) (by omega)) rfl rfl ?_
 refine A3 ?_
 refine J6 (i + 1, w, wc, G1) ?_ ?_ ?_
 (simp only [I5]; exact E2)
 (dsimp only; exact ⟨by omega, hle.trans hle1, hrw, by have := A7H (hval (by omega)); omega, by rw [← hev, hgo (by omega) (by omega), show n - (i + 1) = n - i - 1 by omega]⟩)
 (show n - (i + 1) < n - i; omega)
theorem B5M {e : Tm} {fuel : Int} (h : P1 fuel 0 300 = true) : R6 e fuel = ((L9 fuel.toNat e).1, (L9 fuel.toNat e).2.1, (L9 fuel.toNat e).2.2.1) := by
 unfold R6; rw [if_pos (A3o h)]
theorem B0w {fuel : Int} (h : fuel < 0 ∨ 300 < fuel) : P1 fuel 0 300 = false := by unfold P1; rw [decide_eq_false (by omega)]
theorem B5N {fuel : Int} (h : 0 ≤ fuel) (h2 : fuel ≤ 300) : P1 fuel 0 300 = true := by unfold P1; rw [decide_eq_true ⟨h, h2⟩]
theorem B5O (e : Tm) (fuel : Int) (G : IM) (cells : List Value) (hcnt : D3 e ≤ 4294967296) (hr : B0 G e cells) : Fn Tryz.prog 86 [.agg ⟨cells⟩, .int .i64 fuel] [] G (L5 (R6 e fuel)) := by
 have hRl := hr.len
 have hRo := hr.one
 have hno := @A6o e fuel
 have hin := @B5M e fuel
 refine C3 Tryz.func86 rfl Tryz.ntmps86 Tryz.results86 rfl ?_
 intro w0
 refine A3 ?_
 refine sE (C8 rfl rfl) rfl (fun b3 => ?_)
 refine sE (A6 rfl) rfl (fun b4 => ?_)
 refine D4 ?_
 refine sB (J1 rfl rfl) rfl rfl (fun h13 => ?_) (fun h13 => ?_)
 refine T1 ?_
 refine C9 (rC rfl (A4 rfl rfl)) (rT rfl) (rT rfl) ?_
 (exact L5.mk (hno (B0w (by omega))) (O6 _))
 refine A3 ?_
 refine sB (X5 rfl rfl) rfl rfl (fun h35 => ?_) (fun h35 => ?_)
 refine J3 ?_
 refine C9 (rC rfl (A4 rfl rfl)) (rT rfl) (rT rfl) ?_
 (exact L5.mk (hno (B0w (by omega))) (O6 _))
 refine D4 ?_
 refine sL (A2 rfl rfl (B3 (by repeat first | exact mH | apply mT)) hRl) rfl rfl ?_
 refine E6 ?_
 (have hE := B5L e fuel.toNat (by omega) G cells hcnt hr; rw [Int.toNat_of_nonneg (by omega)] at hE; have hin := hin (B5N (by omega) (by omega)); refine E7 rfl hE rfl rfl (fun v G1 hle1 hh => ?_); obtain ⟨wc, hv, hrw⟩ := hh; have hwl := hrw.len; have hwo := hrw.one; generalize L9 fuel.toNat e = r at hv hrw hin; obtain ⟨w, c, l, i⟩ := r; simp only at hv hrw hin; subst hv)
 refine A9 ?_
 refine sE (A6 rfl) rfl (fun b68 => ?_)
 refine sS rfl rfl rfl hwl hwo rfl ?_ (hu := by exact D6 hwl.symm)
 refine B2 ?_
 refine sL (A2 rfl rfl (B3 (by repeat first | exact mH | apply mT)) hwl) rfl rfl ?_
 refine A3 ?_
 refine sS rfl rfl rfl hwl hwo rfl ?_ (hu := by exact D6 hwl.symm)
 refine A9 ?_
 refine C9 (rC rfl (A2 rfl rfl (B3 (by repeat first | exact mH | apply mT)) hwl)) (rT rfl) (rT rfl) ?_
 (exact L5.mk hin hrw)
theorem B5P : ∀ (t : Tm) (G : IM) (cells : List Value), cv t → F0 t = true → B0 G t cells → Fn Tryz.prog 87 [.agg ⟨cells⟩] [] G (I3 (.string (A0c t)) G) := by
 refine Tm.ind fun k nm num ty fr lb ks ih G cells hc hv hr => ?_
 have hr0 := hr
 have hP := A40 _ G _ hr
 obtain ⟨hN, hkk⟩ := hc.node
 have hI := A6I (.mk k nm num ty fr lb ks) G _ hN.frA hr
 have hop := hN.ops
 have hnum0 := hN.num0
 have h14 : k = 14 → ks.length = 1 := fun h => by rw [h] at hop; have : D9 14 = 1 := rfl; omega
 have hvp := @A6v k nm num ty fr lb ks
 have hvf := @A6w k nm num ty fr lb ks
 have hvc := @A6x k nm num ty fr lb ks
 have hvl := @A6y k nm num ty fr lb ks
 have hvn := @A3S k nm num ty fr lb ks
 have hvy := @B0o k nm num ty fr lb ks
 have hprx := A0F k nm num ty fr lb ks
 have hinj := A3R k nm num ty fr lb ks
 have h5 : k ≠ 10 → N2 (.mk k nm num ty fr lb ks) = false → inj (.mk k nm num ty fr lb ks) = false → k = 2 ∨ k = 3 ∨ k = 4 ∨ k = 5 := fun h1 h2 h3 => by
  have := hvn h1 h2 h3; rw [hv] at this; exact of_decide_eq_true this.symm
 have hdis : N2 (.mk k nm num ty fr lb ks) = true → inj (.mk k nm num ty fr lb ks) = false := fun h => by
  rw [hprx] at h; have := of_decide_eq_true h; rw [hinj, decide_eq_false (by omega)]; rfl
 have hik : inj (.mk k nm num ty fr lb ks) = true → k = 14 := fun h => A3T h
 have hpk : N2 (.mk k nm num ty fr lb ks) = true → k = 14 ∧ ty.k = fr.k := fun h => by rw [hprx] at h; have := of_decide_eq_true h; exact ⟨this.1, this.2.1.symm⟩
 have hkv := fun (h : inj (.mk k nm num ty fr lb ks) = true) => (hvy (.inr h) (h14 (hik h))).symm.trans hv
 obtain ⟨j, hj⟩ : ∃ j : Nat, num = j := ⟨num.toNat, by omega⟩
 have hdec := B4K j (by omega) G
 generalize hpx : N2 (.mk k nm num ty fr lb ks) = bp at *
 generalize hij : inj (.mk k nm num ty fr lb ks) = bi at *
 subst hj
 obtain ⟨tk, tks⟩ := ty
 obtain ⟨fk, fks⟩ := fr
 obtain ⟨pt, ct, pf, cf, p, c, es, rfl, hk, hnum, hlb, hty, hfr, hsl, hkl⟩ := hr.open9
 refine C3 Tryz.func87 rfl Tryz.ntmps87 Tryz.results87 rfl ?_
 intro w0
 refine A3 ?_
 refine sE (C8 rfl rfl) rfl (fun b3 => ?_)
 refine B1 ?_
 refine C1 ?_
 refine B1 ?_
 refine sB (qE rfl rfl) rfl rfl (fun h13 => ?_) (fun h13 => ?_)
 refine D4 ?_
 refine H6 rfl (hdec) rfl rfl ?_
 refine B2 ?_
 (have hbp : bp = false := (by cases hb : bp with | false => rfl | true => (have := (hpk hb).1; omega)); refine ⟨rfl, congrArg Value.string ?_, rfl⟩; rw [hvl hbp (by omega) (by omega) (by omega)]; unfold A1g; first | (rw [if_pos (by omega)]; rfl) | (rw [if_neg (by omega), if_pos (by omega)]; rfl) | (rw [if_neg (by omega), if_neg (by omega)]; rfl))
 refine D4 ?_
 refine sB (qE rfl rfl) rfl rfl (fun h39 => ?_) (fun h39 => ?_)
 refine K5 ?_
 (have hbp : bp = false := (by cases hb : bp with | false => rfl | true => (have := (hpk hb).1; omega)); refine ⟨rfl, congrArg Value.string ?_, rfl⟩; rw [hvl hbp (by omega) (by omega) (by omega)]; unfold A1g; first | (rw [if_pos (by omega)]; rfl) | (rw [if_neg (by omega), if_pos (by omega)]; rfl) | (rw [if_neg (by omega), if_neg (by omega)]; rfl))
 refine D4 ?_
 refine sB (qE rfl rfl) rfl rfl (fun h62 => ?_) (fun h62 => ?_)
 refine K5 ?_
 (have hbp : bp = false := (by cases hb : bp with | false => rfl | true => (have := (hpk hb).1; omega)); refine ⟨rfl, congrArg Value.string ?_, rfl⟩; rw [hvl hbp (by omega) (by omega) (by omega)]; unfold A1g; first | (rw [if_pos (by omega)]; rfl) | (rw [if_neg (by omega), if_pos (by omega)]; rfl) | (rw [if_neg (by omega), if_neg (by omega)]; rfl))
 refine D4 ?_
 refine sB (qE rfl rfl) rfl rfl (fun h85 => ?_) (fun h85 => ?_)
 refine A0O ?_
 (refine ⟨rfl, congrArg Value.string ?_, rfl⟩; rw [hvp (by first | exact .inl (by omega) | exact .inr ⟨by assumption, by have := (hpk (by assumption)).2; simp only [Ty.k] at this ⊢; omega⟩)]; rfl)
 refine A3 ?_
 refine F8 rfl (hP) rfl rfl (fun h112 => ?_) (fun h112 => ?_)
 refine B1 ?_
 refine sB (qE rfl rfl) rfl rfl (fun h117 => ?_) (fun h117 => ?_)
 refine I0 ?_
 (refine ⟨rfl, congrArg Value.string ?_, rfl⟩; rw [hvp (by first | exact .inl (by omega) | exact .inr ⟨by assumption, by have := (hpk (by assumption)).2; simp only [Ty.k] at this ⊢; omega⟩)]; rfl)
 refine E0 ?_
 refine F8 rfl (hI) rfl rfl (fun h143 => ?_) (fun h143 => ?_)
 refine D4 ?_
 (have hl1 := h14 (hik (by assumption)); obtain ⟨bx, ox, e, rfl, hl, hat, hre, hgb⟩ := hsl.kidTm hkl (i := 0) (by omega) (by omega); have hih := ih ks[0] (List.getElem_mem (by omega)) G e (hkk _ (List.getElem_mem (by omega))) (hkv (by assumption)) hre; refine sP (B4 (j := 0) rfl rfl rfl (by omega)) rfl rfl ?_)
 refine sL (A2 rfl rfl (hat _) hl) rfl rfl ?_
 refine H6 rfl (hih) rfl rfl ?_
 refine B2 ?_
 (have hbp : bp = false := (by cases hb : bp with | false => rfl | true => (have := hdis hb; have h9 : bi = true := (by assumption); rw [h9] at this; cases this)); refine ⟨rfl, congrArg Value.string ?_, rfl⟩; rw [hvc hbp (hik (by assumption)) (by omega)])
 refine J3 ?_
 (refine ⟨rfl, congrArg Value.string ?_, rfl⟩; rw [hvf (by rintro (h | ⟨h1, h2⟩) <;> first | omega | exact Bool.noConfusion (h1.symm.trans (show bp = false by assumption)) | (have := (hpk h1).2; simp only [Ty.k] at this h2; omega)) (by cases hb : bp with | true => exact .inr rfl | false => exact .inl (by have := h5 (by omega) hb (by assumption); omega))]; rfl)
 refine J3 ?_
 refine F8 rfl (hI) rfl rfl (fun h192 => ?_) (fun h192 => ?_)
 refine D4 ?_
 (have hl1 := h14 (hik (by assumption)); obtain ⟨bx, ox, e, rfl, hl, hat, hre, hgb⟩ := hsl.kidTm hkl (i := 0) (by omega) (by omega); have hih := ih ks[0] (List.getElem_mem (by omega)) G e (hkk _ (List.getElem_mem (by omega))) (hkv (by assumption)) hre; refine sP (B4 (j := 0) rfl rfl rfl (by omega)) rfl rfl ?_)
 refine sL (A2 rfl rfl (hat _) hl) rfl rfl ?_
 refine H6 rfl (hih) rfl rfl ?_
 refine B2 ?_
 (have hbp : bp = false := (by cases hb : bp with | false => rfl | true => (have := hdis hb; have h9 : bi = true := (by assumption); rw [h9] at this; cases this)); refine ⟨rfl, congrArg Value.string ?_, rfl⟩; rw [hvc hbp (hik (by assumption)) (by omega)])
 refine J3 ?_
 (refine ⟨rfl, congrArg Value.string ?_, rfl⟩; rw [hvf (by rintro (h | ⟨h1, h2⟩) <;> first | omega | exact Bool.noConfusion (h1.symm.trans (show bp = false by assumption)) | (have := (hpk h1).2; simp only [Ty.k] at this h2; omega)) (by cases hb : bp with | true => exact .inr rfl | false => exact .inl (by have := h5 (by omega) hb (by assumption); omega))]; rfl)
theorem B5Q (e : Tm) (fuel : Int) (G : IM) (cells : List Value) (hcnt : D3 e ≤ 4294967296) (hr : B0 G e cells) : Fn Tryz.prog 37 [.agg ⟨cells⟩, .int .i64 fuel] [] G (A97 (R8 e fuel) G) := by
 have hRl := hr.len
 have hRo := hr.one
 have hno := @A98 e fuel
 have hyv := fun u t => @A6A e u t fuel
 have hyn := fun u t => @A6B e u t fuel
 refine C3 Tryz.func37 rfl Tryz.ntmps37 Tryz.results37 rfl ?_
 intro w0
 refine A3 ?_
 refine sE (C8 rfl rfl) rfl (fun b3 => ?_)
 refine B2 ?_
 refine sL (A2 rfl rfl (B3 (by repeat first | exact mH | apply mT)) hRl) rfl rfl ?_
 focus (refine E7 rfl (B5A e G cells hcnt hr) rfl rfl (fun v G1 hle1 hh => ?_); obtain ⟨cu, ct, rfl, hru, hrt⟩ := hh; rcases hI : R7 e with _ | ⟨u, t⟩; rotate_left; rw [hI] at hru hrt; simp only [Option.getD_some] at hru hrt; have hgI := A4V hI; rotate_left; rw [hI] at hru hrt; simp only [Option.getD_none] at hru hrt; simp only [Option.isSome]; rotate_left; simp only [Option.isSome]; rotate_left; all_goals (have hul := hru.len; have huo := hru.one; obtain ⟨p3, c3, e3, rfl, _⟩ := hrt.open))
 refine B1 ?_
 refine sE (A6 rfl) rfl (fun b17 => ?_)
 refine sE (A6 rfl) rfl (fun b18 => ?_)
 refine sS rfl rfl rfl hul huo rfl ?_ (hu := by exact D6 hul.symm)
 refine A0r ?_
 refine C9 (rT rfl) (rT rfl) (rT rfl) ?_
 (exact ⟨rfl, by rw [hno (by first | exact hI | rfl | assumption)]⟩)
 refine B1 ?_
 refine sE (A6 rfl) rfl (fun b47 => ?_)
 refine sE (A6 rfl) rfl (fun b48 => ?_)
 refine sS rfl rfl rfl hul huo rfl ?_ (hu := by exact D6 hul.symm)
 refine J9 ?_
 refine sL (A2 rfl rfl (B3 (by repeat first | exact mH | apply mT)) hul) rfl rfl ?_
 refine E6 ?_
 (have hyv := hyv u t hI; have hyn := hyn u t hI; have hev := @B0a u fuel; refine E7 rfl (B5O u fuel G1 cu (by have := A7H hgI.1; omega) hru) rfl rfl (fun v G2 hle2 hh => ?_); obtain ⟨wc, hvv, hrw⟩ := hh; have hwl := hrw.len; have hwo := hrw.one; generalize R6 u fuel = r at hvv hrw hyv hyn hev; obtain ⟨w, c, l⟩ := r; simp only at hvv hrw hyv hyn hev; subst hvv)
 refine B1 ?_
 refine sE (A6 rfl) rfl (fun b73 => ?_)
 refine sS rfl rfl rfl hwl hwo rfl ?_ (hu := by exact D6 hwl.symm)
 refine D4 ?_
 refine sB (N9 rfl rfl) rfl rfl (fun h83 => ?_) (fun h83 => ?_)
 refine J3 ?_
 refine C9 (rT rfl) (rT rfl) (rT rfl) ?_
 (exact ⟨rfl, by rw [hyn (by omega)]⟩)
 refine B2 ?_
 refine sL (A2 rfl rfl (B3 (by repeat first | exact mH | apply mT)) hwl) rfl rfl ?_
 (obtain ⟨he1, he2, he3⟩ := hev (by omega); refine H6 rfl (B5P w G2 wc (A0X he1).1 he2 hrw) rfl rfl ?_)
 refine B2 ?_
 refine C9 (rT rfl) (rT rfl) (rT rfl) ?_
 exact B0b
def B5R (r s : ByteArray × Int × Int) : Int := if r.2.1 = 2 then 2 else if r.2.1 ≠ 0 ∨ s.2.1 = 4 ∨ s.2.1 = 5 then 3 else if s.2.1 = 0 ∧ r.1 = s.1 then 1 else 4
def B6R (a b : Tm) (fuel : Int) : Int := if (A0d a).isSome = true ∧ B3P a b = true ∧ P1 fuel 0 300 = true then B5R (R8 a fuel) (R8 b fuel) else 0
def gxT : GX → ByteArray
 | .n n => A4X n
 | .b b => if b = true then txT else txF
 | .p => A6t
 | .f => A6u
theorem B5S {fuel : Int} (hf : P1 fuel 0 300 = true) (u : Tm) : R6 u fuel = ((L9 fuel.toNat u).1, (L9 fuel.toNat u).2.1, (L9 fuel.toNat u).2.2.1) := by
 unfold R6
 rw [if_pos (A2S.1 hf)]
def pAt (t : Tm) (label : Int) (l : List Int) : Bool := match tAt t l with
 | some x => decide (x.k = 14 ∧ x.lb = label)
 | none => false
def A30 (t : Tm) (label : Int) : List Int × Bool := match (B1Y t).find? (pAt t label) with
 | some l => (l, true)
 | none => ([], false)
def SP1 (G : IM) (l : List Int) (p : Option Addr) (c : Nat) : Prop := Sl G p l.length c 1 (S8 l) ∧ ∀ b ∈ I2 p, G b ≠ none
def CpP (t : Tm) (label : Int) (G : IM) : IM → Value → List A5 → Prop := L8 fun G' v => ∃ p c, v = .tuple ⟨[.slice p (A30 t label).1.length c, .bool (A30 t label).2]⟩ ∧ SP1 (C5 G' G) (A30 t label).1 p c
mutual
def Q4 : Tm → List Tm
 | .mk k nm num ty fr lb ks => (if k = 14 then [.mk k nm num ty fr lb ks] else []) ++ Q5 ks
def Q5 : List Tm → List Tm
 | [] => []
 | t :: ts => Q4 t ++ Q5 ts
end
theorem B0x : ∀ (a b : List Tm), Q5 (a ++ b) = Q5 a ++ Q5 b
 | [], b => by rw [Q5, List.nil_append, List.nil_append]
 | t :: a, b => by rw [List.cons_append, Q5, Q5, B0x a b, List.append_assoc]
theorem B0y {ks : List Tm} {i : Nat} (hi : i < ks.length) : Q5 (ks.take (i + 1)) = Q5 (ks.take i) ++ Q4 ks[i] := by
 rw [List.take_succ_eq_append_getElem hi, B0x, Q5, Q5, List.append_nil]
mutual
theorem A31 : ∀ t : Tm, (Q4 t).length ≤ D3 t
 | .mk k nm num ty fr lb ks => by
  have := A25 ks
  rw [Q4, D3, List.length_append]
  split <;> simp <;> omega
theorem A25 : ∀ ts : List Tm, (Q5 ts).length ≤ E4 ts
 | [] => by rw [Q5, E4]; simp
 | t :: ts => by
  have := A31 t
  have := A25 ts
  rw [Q5, E4, List.length_append]; omega
end
def B0z (label : Int) (x : Tm) : Bool := decide (x.lb = label)
def B6S (t : Tm) (label : Int) : Prop := ((Q4 t).find? (B0z label) = none → (A4l t []).find? (pAt t label) = none) ∧ (∀ x, (Q4 t).find? (B0z label) = some x → ∃ l, (A4l t []).find? (pAt t label) = some l ∧ tAt t l = some x)
def B0A (label : Int) : List Tm → List Ty
 | [] => []
 | c :: cs => (if c.lb = label then [c.fr, c.ty] else []) ++ B0A label cs
def B6T (t : Tm) (label : Int) : List Ty := if M2 t = true then B0A label (Q4 t) else []
mutual
def A26 : GT → GT → Bool
 | _, .any => true
 | .fn a b, .fn c d => A1V c a && A26 b d
 | .pr a b, .pr c d => A26 a c && A26 b d
 | .int, .int => true
 | .bool, .bool => true
 | _, _ => false
termination_by a b => SizeOf.sizeOf a + SizeOf.sizeOf b
def A1V : GT → GT → Bool
 | .any, _ => true
 | .fn a b, .any => A26 .any a && A1V b .any
 | .pr a b, .any => A1V a .any && A1V b .any
 | .int, .any => true
 | .bool, .any => true
 | .fn a b, .fn c d => A26 c a && A1V b d
 | .pr a b, .pr c d => A1V a c && A1V b d
 | .int, .int => true
 | .bool, .bool => true
 | _, _ => false
termination_by a b => SizeOf.sizeOf a + SizeOf.sizeOf b
end
def GQ (Q : GT → GT → Int → Prop) : GE → Prop
 | .var _ => True
 | .num _ => True
 | .tru _ => True
 | .lam _ _ e => GQ Q e
 | .app f a => GQ Q f ∧ GQ Q a
 | .ar _ a b => GQ Q a ∧ GQ Q b
 | .ite c a b => GQ Q c ∧ GQ Q a ∧ GQ Q b
 | .pair a b => GQ Q a ∧ GQ Q b
 | .part _ e => GQ Q e
 | .cast A B l e => Q A B l ∧ GQ Q e
structure Clo (Q : GT → GT → Int → Prop) : Prop where
 fn : ∀ {a b c d l}, Q (.fn a b) (.fn c d) l → Q c a (-l) ∧ Q b d l
 pr : ∀ {a b c d l}, Q (.pr a b) (.pr c d) l → Q a c l ∧ Q b d l
 up : ∀ {A l}, A ≠ .any → Q A .any l → Q A.gr .any l ∧ Q A A.gr l
 down : ∀ {B l}, B ≠ .any → Q .any B l → Q B.gr B l ∧ Q .any B.gr l
def QL (m : Int) : GT → GT → Int → Prop := fun A B l => (l = m → A26 A B = true) ∧ (l = -m → A1V A B = true)
mutual
def O3 : Tm → List Ty
 | .mk k _ _ ty _ _ ks => (if k = 5 ∨ k = 13 then [ty] else []) ++ K9 ks
def K9 : List Tm → List Ty
 | [] => []
 | t :: ts => O3 t ++ K9 ts
end
theorem A6R : ∀ (a b : List Tm), K9 (a ++ b) = K9 a ++ K9 b
 | [], b => by simp [K9]
 | t :: a, b => by simp [K9, A6R a b]
theorem A27 {ks : List Tm} {i : Nat} (hi : i < ks.length) : K9 (ks.take (i + 1)) = K9 (ks.take i) ++ O3 ks[i] := by
 rw [List.take_succ_eq_append_getElem hi, A6R, K9, K9, List.append_nil]
mutual
theorem B0B : ∀ t : Tm, (O3 t).length ≤ D3 t
 | .mk k nm num ty fr lb ks => by
  have := A1W ks
  rw [O3, D3, List.length_append]
  split <;> simp <;> omega
theorem A1W : ∀ ts : List Tm, (K9 ts).length ≤ E4 ts
 | [] => by simp [K9]
 | t :: ts => by
  have := B0B t
  have := A1W ts
  rw [K9, E4, List.length_append]; omega
end
mutual
def A0x : Tm → List Ty → Tm
 | .mk k nm num ty fr lb ks, l => .mk k nm num (if k = 5 ∨ k = 13 then l.getD 0 B7 else ty) fr lb (U6 ks (if k = 5 ∨ k = 13 then l.drop 1 else l))
def U6 : List Tm → List Ty → List Tm
 | [], _ => []
 | t :: ts, l => A0x t l :: U6 ts (l.drop (O3 t).length)
end
theorem A32 : ∀ (ts : List Tm) (l : List Ty), (U6 ts l).length = ts.length
 | [], _ => rfl
 | t :: ts, l => by rw [U6, List.length_cons, A32 ts, List.length_cons]
theorem B0C : ∀ (a b : List Tm) (l : List Ty), U6 (a ++ b) l = U6 a l ++ U6 b (l.drop (K9 a).length)
 | [], b, l => by simp [U6, K9]
 | t :: a, b, l => by simp [U6, K9, B0C a b, List.drop_drop]
theorem A6S {ks : List Tm} {i : Nat} (hi : i < ks.length) (l : List Ty) : U6 (ks.take (i + 1)) l = U6 (ks.take i) l ++ [A0x ks[i] (l.drop (K9 (ks.take i)).length)] := by
 rw [List.take_succ_eq_append_getElem hi, B0C, U6, U6]
def B0D (mask : Nat) : Nat → List Ty → List Ty
 | _, [] => []
 | i, t :: ts => (if (mask / 2 ^ i) % 2 = 1 then .mk 1 [] else t) :: B0D mask (i + 1) ts
def B5T (e : Tm) (mask : Nat) : Tm := A0x e (B0D mask 0 (O3 e))
def B5U (e : Tm) : List Tm := (List.range (2 ^ (O3 e).length)).map (B5T e)
theorem A6T {ks : List Tm} {i : Nat} (hi : i < ks.length) : (K9 (ks.take i)).length + (O3 ks[i]).length ≤ (K9 ks).length := by
 have h : ks = ks.take (i + 1) ++ ks.drop (i + 1) := (List.take_append_drop _ _).symm
 conv => rhs; rw [h]
 rw [A6R, A27 hi]
 simp only [List.length_append]; omega
section cap
variable {P : Program} {Γ : L6} {env : M0} {hp : List A5} {G : IM} {K : Po} {ops : Array Oper} {rest : List Oper}
theorem St.slc_cap {a : Act} {w : World} {p : Option Addr} {c el sz n : Nat} {cs : List Value} {hp' : List A5} (hs : St Γ ⟨env, hp, G⟩ a w) (hk : Pk hp (.slc p c el sz n cs) hp') : n ≤ c := by
 have hown : R2 [.slc p c el sz n cs] G w := hs.res.own.of_mem hk.perm
 obtain ⟨hl, h⟩ := hown.ok _ List.mem_cons_self
 rcases h with ⟨hv, hn⟩ | ⟨g, cap, cur, hv, _, hg, hnc, hcm, hsz, ht⟩
 ·omega
 ·cases hv; exact hnc
theorem B0E {p : Option Addr} {c el sz n : Nat} {cs : List Value} {hp' : List A5} (hk : Pk hp (.slc p c el sz n cs) hp') (h : n ≤ c → H5 P Γ ops rest K ⟨env, hp, G⟩) : H5 P Γ ops rest K ⟨env, hp, G⟩ :=
 ⟨fun a w hs => (h (hs.slc_cap hk)).run a w hs⟩
end cap
theorem D0.append {G : IM} : ∀ {a b : List Tm} {es fs : List (List Value)}, D0 G a es → D0 G b fs → D0 G (a ++ b) (es ++ fs)
 | [], b, es, fs, h, h2 => by simp only [D0] at h; subst h; simpa using h2
 | t :: a, b, es, fs, h, h2 => by
  simp only [D0] at h
  obtain ⟨x, r, rfl, h3, h4⟩ := h
  simp only [List.cons_append, D0]
  exact ⟨x, r ++ fs, rfl, h3, D0.append h4 h2⟩
theorem D0.ones {G : IM} {ts : List Tm} {es : List (List Value)} (h : D0 G ts es) : ∀ u ∈ es.flatten, u.oneCell' = true := by
 intro u hu
 obtain ⟨e, he, hue⟩ := List.mem_flatten.1 hu
 obtain ⟨q, hq⟩ := List.getElem?_of_mem he
 exact List.all_eq_true.1 ((h.inv hq J5).2.one) u hue
theorem D0.one1 {G : IM} {t : Tm} {c : List Value} (h : B0 G t c) : D0 G [t] [c] := by
 simp only [D0]; exact ⟨c, [], rfl, h, rfl⟩
theorem D2.append {G : IM} : ∀ {a b : List Ty} {es fs : List (List Value)}, D2 G a es → D2 G b fs → D2 G (a ++ b) (es ++ fs)
 | [], b, es, fs, h, h2 => by simp only [D2] at h; subst h; simpa using h2
 | t :: a, b, es, fs, h, h2 => by
  simp only [D2] at h
  obtain ⟨x, r, rfl, h3, h4⟩ := h
  simp only [List.cons_append, D2]
  exact ⟨x, r ++ fs, rfl, h3, D2.append h4 h2⟩
theorem D2.one1 {G : IM} {t : Ty} {c : List Value} (h : B9 G t c) : D2 G [t] [c] := by
 simp only [D2]; exact ⟨c, [], rfl, h, rfl⟩
def A0e (ts : List Ty) : IM → Value → List A5 → Prop := fun G' v outs => ∃ p c es, v = .slice p ts.length c ∧ outs = [.slc p c 34 2 ts.length es.flatten] ∧ D2 G' ts es
theorem A0e.mk {ts : List Ty} {n : Nat} {G' : IM} {p : Option Addr} {c : Nat} {es : List (List Value)} (hn : ts.length = n) (hr : D2 G' ts es) : A0e ts G' (.slice p n c) [.slc p c 34 2 n es.flatten] := by
 subst hn
 exact ⟨p, c, es, rfl, rfl, hr⟩
def RtP (u : Tm) (l : List Ty) : IM → Value → List A5 → Prop := fun G' v outs => outs = [] ∧ ∃ cu p c el, v = .tuple ⟨[.agg ⟨cu⟩, .slice p l.length c]⟩ ∧ B0 G' u cu ∧ D5 G' p l.length c 2 el ∧ D2 G' l el
section bits
variable {P : Program} {Γ : L6} {env : M0} {hp : List A5} {G : IM} {ty : TypeId}
end bits
theorem B5V {cs vs cs' C : List Value} {o : Nat} (h : R3 cs o vs = some cs') : cs' ++ C = (cs ++ C).take o ++ vs ++ (cs ++ C).drop (o + vs.length) := by
 obtain ⟨h1, h2⟩ := A2z h
 rw [h1, List.take_append_of_le_length (by omega), List.drop_append_of_le_length (by omega)]
 simp
section wr
variable {P : Program} {Γ : L6} {env : M0} {hp : List A5} {G : IM} {ty : TypeId} {K : Po} {ops : Array Oper} {rest : List Oper}
theorem B5W {d : Option Nat} {x y : Operand} {t : TypeId} {i : K4} [hI : H3 P t i] {b o c el sz n : Nat} {v : Value} {vs cs cs' : List Value} {hp' : List A5}
  (hx : evo env x = some (.pointer (some ⟨b, o, none⟩))) (hy : evo env y = some v) (hv : v.cells = ⟨vs⟩) (hsz : vs.length = i.size) (h1 : vs.all (·.oneCell') = true)
  (hu : R3 cs o vs = some cs') (hm : Sw hp (.slc (some ⟨b, 0, none⟩) c el sz n cs) (.slc (some ⟨b, 0, none⟩) c el sz n cs') hp') (hd : dok Γ.n d = true) :
  V5 P Γ ⟨env, hp, G⟩ d (.store t x y) ty [b] (fun σ' => σ' = ⟨dpu d undef env, hp', G⟩) := by
 refine ⟨fun a w hs pos af gd Q next hn => ?_⟩
 obtain ⟨rest, p1, p2⟩ := hm.perm
 have hown : R2 [.slc (some ⟨b, 0, none⟩) c el sz n cs] G w := hs.res.own.of_mem p1
 obtain ⟨hl, h⟩ := hown.ok _ List.mem_cons_self
 rcases h with ⟨hv', _⟩ | ⟨g, cap, cur, hv', hbg, hg, hnc, hcm, hcs, ht⟩
 ·cases hv'
 cases hv'
 obtain ⟨u1, u2⟩ := A2z hu
 have hcur : cur.toList = cs ++ cur.toList.drop (n * sz) := by
  conv => lhs; rw [← List.take_append_drop (n * sz) cur.toList, ht]
 have hlen : cs.length ≤ cur.size := by
  rw [hl, hcs]; exact Nat.mul_le_mul_right _ hnc
 have hst := run_storeCells_at P b o el vs 0 cur w hg (by omega) (by simpa using h1)
 obtain ⟨cur', hcur'⟩ : ∃ l : List Value, l = cs' ++ cur.toList.drop (n * sz) := ⟨_, rfl⟩
 have hcc : cur.toList.take (o + 0) ++ vs ++ cur.toList.drop (o + 0 + vs.length) = cur' := by
  rw [hcur', Nat.add_zero, B5V hu, ← hcur]
 rw [hcc] at hst
 have hl' : cs'.length = cs.length := by rw [u1]; simp; omega
 have hsz' : cur'.length = cur.size := by
  have := congrArg List.length hcur
  rw [hcur', List.length_append, hl']
  simpa using this.symm
 obtain ⟨inf, g1, g2, _⟩ := hI.info
 have hrun : (execOp a.eval ⟨d, .store t x y, ty, pos, af, gd⟩).run P w = .ok .skip (w.setRow b cur'.toArray) := by
  simp [execOp, Instr.storeAt, Instr.sureAddr, (hs.evo hx : a.eval x = _), (hs.evo hy : a.eval y = _), storeVar, sizeOf, typeInfo, g1, g2, hv, hsz, hst]
 simp only [Oper.wp, hrun, Oper.upon]
 have hr' : P7 [.slc (some ⟨b, 0, none⟩) c el sz n cs] G w [.slc (some ⟨b, 0, none⟩) c el sz n cs'] G (w.setRow b cur'.toArray) := by
  refine ⟨⟨?_, ?_, by simp [Fp, A5.fp, I2], ?_⟩, ⟨rfl, rfl, rfl, by simp [World.setRow], fun k _ hk => setRow_other w b k _ (by rintro rfl; simp [Fp, A5.fp, I2] at hk)⟩, C0.refl _, fun _ _ h => .inl h, ?_, fun b l h h0 => absurd h (by rw [h0]; simp)⟩
  ·intro k l hg'
   obtain ⟨e', f', h'⟩ := hown.inn k l hg'
   refine ⟨e', f', ?_⟩
   rw [setRow_other w b k _ ?_]
   ·exact h'
   ·rintro rfl
    have := hown.disj k (by simp [Fp, A5.fp, I2])
    rw [this] at hg'; cases hg'
  ·intro x hx
   simp at hx; subst hx
   refine ⟨by rw [hl', hl], .inr ⟨b, _, cur'.toArray, rfl, hbg, setRow_heap w b cur cur'.toArray el (0, 0) hg, hnc, hcm, by rw [List.size_toArray, hsz', hcs], ?_⟩⟩
   rw [hcur', List.take_left' (by rw [hl', hl])]
  ·intro k hk
   exact hown.disj k (by simpa [Fp, A5.fp, I2] using hk)
  ·intro k hk
   exact .inr (by simpa [Fp, A5.fp, I2] using hk)
 exact hn _ _ _ (hs.step p1 hr' p2 hd) (by simpa [Fp, A5.fp, I2] using hr'.ext) rfl
variable {pos : String} {af : Array Edge} {gd : Option (Nat × Bool)}
theorem B5X {c el sz n : Nat} {cs vs : List Value} {x y : Operand} {t : TypeId} {i : K4} [hI : H3 P t i] {bb o : Nat} {v : Value} {cs' : List Value} {hp' : List A5}
  (hx : evo env x = some (.pointer (some ⟨bb, o, none⟩))) (hy : evo env y = some v) (hv : v.cells = ⟨vs⟩) (hsz : vs.length = i.size) (h1 : vs.all (·.oneCell') = true)
  (hw : L7 ops env gd = some true) (hsw : Sw hp (.slc (some ⟨bb, 0, none⟩) c el sz n cs) (.slc (some ⟨bb, 0, none⟩) c el sz n cs') hp') (hu : R3 cs o vs = some cs')
  (k : H5 P Γ ops rest K ⟨env, hp', G⟩) : H5 P Γ ops (⟨none, .store t x y, ty, pos, af, gd⟩ :: rest) K ⟨env, hp, G⟩ :=
 I7 (B5W hx hy hv hsz h1 hu hsw rfl) hw (by rintro _ rfl; exact k)
theorem St.slc_ptT {p : Option Addr} {c el sz n : Nat} {cs : List Value} {a : Act} {w : World} (hs : St Γ ⟨env, hp, G⟩ a w) (hm : A5.slc p c el sz n cs ∈ hp) :
  (p = none ∧ n = 0 ∧ c = 0) ∨ ∃ g, p = some ⟨g, 0, none⟩ ∧ n ≤ c := by
 obtain ⟨_, h⟩ := hs.res.own.ok _ hm
 rcases h with ⟨hv, hn⟩ | ⟨g, cap, cur, hv, _, _, hnc, _⟩
 ·cases hv; exact .inl ⟨rfl, hn, rfl⟩
 ·cases hv; exact .inr ⟨g, rfl, hnc⟩
end wr
theorem B5Y {es : List (List Value)} {i sz : Nat} {vs : List Value} (hi : i < es.length) (ha : ∀ e ∈ es, e.length = sz) (hv : vs.length = sz) : R3 es.flatten (0 + i * sz) vs = some (es.set i vs).flatten := by
 have h1 : es.flatten = (es.take i).flatten ++ (es[i] ++ (es.drop (i + 1)).flatten) := by
  conv => lhs; rw [← List.take_append_drop i es, List.drop_eq_getElem_cons hi]
  rw [List.flatten_append, List.flatten_cons]
 have h2 : (es.set i vs).flatten = (es.take i).flatten ++ (vs ++ (es.drop (i + 1)).flatten) := by rw [List.set_eq_take_append_cons_drop, if_pos hi, List.flatten_append, List.flatten_cons]
 have hA : ((es.take i).flatten).length = 0 + i * sz := by rw [A0A (fun e he => ha e (List.mem_of_mem_take he)), List.length_take, Nat.min_eq_left (by omega)]; omega
 rw [h1, h2]
 exact A5r hA (by rw [ha _ (List.getElem_mem hi), hv])
theorem D2.set {G : IM} : ∀ {l : List Ty} {es : List (List Value)} (i : Nat) {u : Ty} {c : List Value}, D2 G l es → B9 G u c → D2 G (l.set i u) (es.set i c)
 | [], es, i, u, c, h, _ => by simp only [D2] at h; subst h; simp [D2]
 | t :: l, es, 0, u, c, h, h2 => by
  simp only [D2] at h
  obtain ⟨a, r, rfl, _, h3⟩ := h
  simp only [List.set_cons_zero, D2]
  exact ⟨c, r, rfl, h2, h3⟩
 | t :: l, es, i + 1, u, c, h, h2 => by
  simp only [D2] at h
  obtain ⟨a, r, rfl, h4, h3⟩ := h
  simp only [List.set_cons_succ, D2]
  exact ⟨a, _, rfl, h4, D2.set i h3 h2⟩
def B5Z (e : Tm) : Option (List Tm) := if (A0d e).isSome = true ∧ (O3 e).length ≤ 6 then some (B5U e) else none
def CfP (r : Option (List Tm)) : IM → Value → List A5 → Prop := fun G' v outs => outs = [] ∧ ∃ p c es, v = .tuple ⟨[.slice p (r.getD []).length c, .bool r.isSome]⟩ ∧ D5 G' p (r.getD []).length c 9 es ∧ D0 G' (r.getD []) es
def MsP (r : Option (List Int)) (e : A5) (G : IM) : IM → Value → List A5 → Prop := fun G' v outs => outs = [e] ∧ ∃ p c, v = .tuple ⟨[.slice p (r.getD []).length c, .bool r.isSome]⟩ ∧ SP1 (C5 G' G) (r.getD []) p c
def B6U (e : Tm) (fuel : Int) : Option (List Int) := if P1 fuel 0 300 = true then (B5Z e).map (List.map fun x => (R8 x fuel).2.1) else none
def IsP (l : List Int) (b : Bool) (G : IM) : IM → Value → List A5 → Prop := L8 fun G' v => ∃ p c, v = .tuple ⟨[.slice p l.length c, .bool b]⟩ ∧ SP1 (C5 G' G) l p c
theorem B0.nine {G : IM} {t : Tm} {cells : List Value} (h : B0 G t cells) : ∃ v1 v2 v3 v4 v5 v6 v7 v8 v9, cells = [v1, v2, v3, v4, v5, v6, v7, v8, v9] := by
 obtain ⟨_, _, _, _, _, _, _, _, _, rfl, _⟩ := h.open
 exact ⟨_, _, _, _, _, _, _, _, _, rfl⟩
theorem A33 {G : IM} {e : Tm} {ce : List Value} {k : Int} {nm : ByteArray} {tk : Int} {tks : List Ty} {q p : Option Addr} {d c : Nat} (hk : E8 k) (ht : B9 G (.mk tk tks) [.int .i64 tk, .slice q tks.length d]) (h1 : B0 G e ce) (hs : Sl G p 1 c 9 ce) :
  B0 G (.mk k nm 0 (.mk tk tks) B7 0 [e]) [.int .i64 k, .string nm, .int .i64 0, .int .i64 tk, .slice q tks.length d, .int .i64 0, .slice none 0 0, .int .i64 0, .slice p 1 c] := by
 obtain ⟨a1, a2⟩ := A2g h1 hs
 exact B0.of9 (ks := [e]) hk ⟨by omega, by omega⟩ ⟨by omega, by omega⟩ ht (O0 _ ⟨by omega, by omega⟩) a1 a2
theorem A34 {G : IM} {e f : Tm} {ce cf : List Value} {k : Int} {nm : ByteArray} {p : Option Addr} {c : Nat} (hk : E8 k) (h1 : B0 G e ce) (h2 : B0 G f cf) (hs : Sl G p 2 c 9 (ce ++ cf)) :
  B0 G (.mk k nm 0 B7 B7 0 [e, f]) [.int .i64 k, .string nm, .int .i64 0, .int .i64 0, .slice none 0 0, .int .i64 0, .slice none 0 0, .int .i64 0, .slice p 2 c] := by
 have hL : D0 G [e, f] [ce, cf] := by simp only [D0]; exact ⟨ce, [cf], rfl, h1, cf, [], rfl, h2, rfl⟩
 exact B0.of9 (ks := [e, f]) hk ⟨by omega, by omega⟩ ⟨by omega, by omega⟩ (O0 _ ⟨by omega, by omega⟩) (O0 _ ⟨by omega, by omega⟩)
  (D5.of (by simpa using hs) rfl hL.all (fun x hx => by obtain ⟨q, hq⟩ := List.getElem?_of_mem hx; exact (hL.inv hq J5).2.one)) hL
theorem B50 {G : IM} {e f g : Tm} {ce cf cg : List Value} {k : Int} {nm : ByteArray} {p : Option Addr} {c : Nat} (hk : E8 k) (h1 : B0 G e ce) (h2 : B0 G f cf) (h3 : B0 G g cg) (hs : Sl G p 3 c 9 (ce ++ (cf ++ cg))) :
  B0 G (.mk k nm 0 B7 B7 0 [e, f, g]) [.int .i64 k, .string nm, .int .i64 0, .int .i64 0, .slice none 0 0, .int .i64 0, .slice none 0 0, .int .i64 0, .slice p 3 c] := by
 have hL : D0 G [e, f, g] [ce, cf, cg] := by simp only [D0]; exact ⟨ce, [cf, cg], rfl, h1, cf, [cg], rfl, h2, cg, [], rfl, h3, rfl⟩
 exact B0.of9 (ks := [e, f, g]) hk ⟨by omega, by omega⟩ ⟨by omega, by omega⟩ (O0 _ ⟨by omega, by omega⟩) (O0 _ ⟨by omega, by omega⟩)
  (D5.of (by simpa using hs) rfl hL.all (fun x hx => by obtain ⟨q, hq⟩ := List.getElem?_of_mem hx; exact (hL.inv hq J5).2.one)) hL
def mB : Nat → Nat
 | 0 => 200
 | n + 1 => 3 * mB n + 200
theorem A1h (n : Nat) : 200 ≤ mB n := by cases n <;> simp only [mB] <;> omega
def A1i (n : Nat) (depth : Int) (t : Ty) : Prop := Q0 4 t ∧ (n : Int) - 1000 ≤ depth ∧ depth ≤ 1000 ∧ ((depth ≤ 1 ∧ Q0 n t) ∨ (2 ≤ depth ∧ depth + 3 ≤ n))
theorem A1i.sub {n : Nat} {depth : Int} {t t' : Ty} (h : A1i (n + 1) depth t) (hd : 1 < depth) (h4 : Q0 4 t') : A1i n (depth - 1) t' := by
 obtain ⟨h1, h2, h3, h5⟩ := h
 refine ⟨h4, by omega, by omega, ?_⟩
 rcases h5 with ⟨h5, _⟩ | ⟨h5, h6⟩
 ·omega
 ·by_cases h7 : 3 ≤ depth
  ·exact .inr ⟨by omega, by omega⟩
  ·exact .inl ⟨by omega, h4.le (by omega)⟩
theorem A1i.kid {n : Nat} {depth : Int} {k : Int} {ks : List Ty} {t' : Ty} (h : A1i (n + 1) depth (.mk k ks)) (ht : t' ∈ ks) : A1i n (depth - 1) t' := by
 have h4 : Q0 4 t' := (A5I h.1 ht).up
 by_cases hd : 1 < depth
 ·exact h.sub hd h4
 ·obtain ⟨h1, h2, h3, h5⟩ := h
  refine ⟨h4, by omega, by omega, .inl ⟨by omega, ?_⟩⟩
  rcases h5 with ⟨_, h5⟩ | ⟨h5, _⟩
  ·exact A5I h5 ht
  ·omega
theorem A1i.pos {n : Nat} {depth : Int} {k : Int} {ks : List Ty} (h : A1i n depth (.mk k ks)) (hd : 1 < depth ∨ k = 4 ∨ k = 5) : ∃ m, n = m + 1 := by
 cases n with
 | succ m => exact ⟨m, rfl⟩
 | zero =>
  obtain ⟨h1, h2, h3, h5⟩ := h
  rcases h5 with ⟨h5, h6⟩ | ⟨h5, h6⟩
  ·have := h6.2
   omega
  ·omega
theorem P3 : B7.small := by simp [B7, Ty.small, Ty.smallL]
theorem N3 {k : Int} {nm : ByteArray} {num : Int} (h : nm.size ≤ 1) : (Tm.mk k nm num B7 B7 0 []).small := by
 simp only [Tm.small, Tm.smallL]; exact ⟨by omega, P3, P3, by simp, trivial⟩
theorem K6 {k : Int} {nm : ByteArray} {num : Int} {ty : Ty} {a : Tm} (h : nm.size ≤ 1) (ht : ty.small) (ha : a.small) : (Tm.mk k nm num ty B7 0 [a]).small := by
 simp only [Tm.small, Tm.smallL]; exact ⟨by omega, ht, P3, by simp, ha, trivial⟩
theorem R9 {k : Int} {nm : ByteArray} {num : Int} {a b : Tm} (h : nm.size ≤ 1) (ha : a.small) (hb : b.small) : (Tm.mk k nm num B7 B7 0 [a, b]).small := by
 simp only [Tm.small, Tm.smallL]; exact ⟨by omega, P3, P3, by simp, ha, hb, trivial⟩
theorem A0n {k : Int} {nm : ByteArray} {num : Int} {a b c : Tm} (h : nm.size ≤ 1) (ha : a.small) (hb : b.small) (hc : c.small) : (Tm.mk k nm num B7 B7 0 [a, b, c]).small := by
 simp only [Tm.small, Tm.smallL]; exact ⟨by omega, P3, P3, by simp, ha, hb, hc, trivial⟩
theorem A0o : (Ty.mk 1 []).small := by simp [Ty.small, Ty.smallL]
def B0F (br : Nat) (pb : Option Addr) (nb cb : Nat) (bs : List UInt8) (n : Nat) : Prop := ∀ (depth : Int) (t : Ty) (p : Nat) (G : IM) (pc : Option Addr) (nc cc : Nat) (cells : List Value), A1i n depth t → (n : Int) - 1000 ≤ depth → depth ≤ 1000 → nc + n ≤ 40 → W8 G pc nc cc → B9 G t cells → Sl G pb nb cb 1 (N6 bs) → p + mB n < 1099511627776 →
 Fn Tryz.prog 124 [.pointer (some ⟨br, 0, none⟩), .slice pc nc cc, .agg ⟨cells⟩, .int .i64 depth] [rd br pb nb cb p] G
  (Z8 br pb nb cb p (mB n) (fun G' v => ∃ e cells, v = .agg ⟨cells⟩ ∧ B0 G' e cells ∧ e.small ∧ D3 e ≤ mB n))
theorem B0G (br : Nat) (pb : Option Addr) (nb cb : Nat) (bs : List UInt8) (hnb : nb ≤ 2000) (m : Nat) (hM : B0F br pb nb cb bs m) (depth : Int) (a t : Ty) (p : Nat) (G : IM) (pc : Option Addr) (nc cc : Nat) (ca cells : List Value)
  (hfu : A1i m depth t) (hd0 : (m : Int) - 1000 ≤ depth) (hd1 : depth ≤ 1000) (hnc : nc + 1 + m ≤ 40) (hx : W8 G pc nc cc) (hra : B9 G a ca) (haa : E5 a ∧ K0 a ≤ 30) (hrt : B9 G t cells) (hb : Sl G pb nb cb 1 (N6 bs)) (hp : p + 1 + mB m < 1099511627776) :
  Fn Tryz.prog 166 [.pointer (some ⟨br, 0, none⟩), .slice pc nc cc, .agg ⟨ca⟩, .agg ⟨cells⟩, .int .i64 depth] [rd br pb nb cb p] G
   (Z8 br pb nb cb p (1 + mB m) (fun G' v => ∃ e cells, v = .agg ⟨cells⟩ ∧ B0 G' e cells ∧ e.small ∧ D3 e ≤ 1 + mB m)) := by
 obtain ⟨ak, aks⟩ := a
 obtain ⟨tk, tks⟩ := t
 obtain ⟨pa, cca, ea, rfl, _⟩ := hra.open
 obtain ⟨pt, cct, et, rfl, _⟩ := hrt.open
 simp only [Ty.k, Ty.ks] at hra hrt ⊢
 refine C3 Tryz.func166 rfl Tryz.ntmps166 Tryz.results166 rfl ?_
 intro w0
 refine A3 ?_
 refine sE (C8 rfl rfl) rfl (fun b3 => ?_)
 refine sE (C8 rfl rfl) rfl (fun b4 => ?_)
 refine sE (A6 rfl) rfl (fun b5 => ?_)
 refine A9 ?_
 (refine I7 (C7 rfl rfl rfl (by omega) (by unfold maxLen; omega) rfl) rfl ?_; rintro _ ⟨b11, rfl⟩)
 (refine S9 (by repeat (first | exact Pk.here | apply Pk.there)) (fun G4 hle4 hsl4 _ => ?_); refine I8 rfl (A5R G4 br pb nb cb p bs _ _ _ _ (hb.mono hle4) hnb (by omega) hsl4 (by decide)) (Pk.perm (by repeat (first | exact Pk.here | apply Pk.there))) rfl rfl (fun v G5 outs hle5 hh => ?_); obtain ⟨rfl, rfl, hv⟩ := hh; obtain ⟨nm, rfl, hnm⟩ : ∃ nm : ByteArray, v = .string nm ∧ nm.size ≤ 1 := (by simp only [List.mem_cons, List.not_mem_nil, or_false] at hv; rcases hv with rfl | rfl | rfl | rfl <;> exact ⟨_, rfl, by decide⟩); replace hra := hra.mono hle4; replace hx := hx.mono hle4; replace hb := hb.mono hle4; replace hrt := hrt.mono hle4;)
 refine B1 ?_
 refine D7 D8 rfl ?_
 refine I9 (i := 0) (l' := [tt,ff,ff,ff,ff,ff,ff,ff,ff,ff,ff,ff,ff,ff]) rfl D1 (qM rfl) rfl (by kernel_rfl) rfl rfl ?_
 refine aL 1 rfl (A4 rfl rfl) rfl ?_
 refine aP 3 rfl (qM rfl) rfl ?_
 refine aP 4 rfl (qM rfl) rfl ?_
 refine aP 5 rfl (qM rfl) rfl ?_
 refine aL 6 rfl (A4 rfl rfl) rfl ?_
 refine aL 8 rfl (A4 rfl rfl) rfl ?_
 refine aP 9 rfl (qM rfl) rfl ?_
 refine A1 2 ?_
 (refine H0 rfl rfl (O9 _ _ _ haa.1.small hra) rfl rfl rfl (fun v G6 hle6 hh => ?_); obtain ⟨cs1, F1, rfl, hs1, hn1⟩ := hh; obtain ⟨p1, c1, rfl, _⟩ := hs1.open; have hr1 := hs1.R.mono (C5.le G6 _); replace hra := hra.mono hle6; replace hx := hx.mono hle6; replace hb := hb.mono hle6; replace hrt := hrt.mono hle6;)
 refine A1 7 ?_
 (refine H0 rfl rfl (B25 _ pc nc cc nm (.mk ak aks) _ hx (by omega) hra haa.1 haa.2 hnm) rfl rfl rfl (fun v G7 hle7 hh => ?_); obtain ⟨pm, cm, rfl, hxm⟩ := hh; replace hr1 := hr1.mono hle7; replace hx := hx.mono hle7; replace hb := hb.mono hle7; replace hrt := hrt.mono hle7; have hcall := hM depth (.mk tk tks) (p + 1) _ pm (nc + 1) cm _ hfu hd0 hd1 (by omega) hxm hrt hb (by omega))
 refine A1 10 ?_
 (refine V9 (l' := [tt,tt,tt,tt,tt,tt,tt,tt,tt,tt,tt,ff,ff,ff]) rfl rfl hcall (Pk.perm (by repeat (first | exact Pk.here | apply Pk.there))) rfl rfl rfl (by repeat (first | exact A7.nil | apply A7.dep (by decide +kernel) | apply A7.blk (by decide +kernel) (by repeat (first | exact Pk.here | apply Pk.there)) (by repeat first | exact mH | apply mT))) (fun v G8 outs hle8 hh => ?_); obtain ⟨p8, hp81, hp82, rfl, e8, c8, rfl, hr8, hs8, hc8⟩ := hh; obtain ⟨a1, a2, a3, a4, a5, a6, a7, a8, a9, rfl⟩ := hr8.nine; replace hr1 := hr1.mono hle8)
 refine A1 11 ?_
 (refine E3 rfl (C7 rfl rfl rfl (by omega) (by unfold maxLen; omega) rfl) rfl rfl ?_; rintro _ ⟨b33, rfl⟩)
 refine aP 12 rfl (V6 rfl rfl) rfl ?_
 refine A1 13 ?_
 refine Q8 rfl rfl rfl rfl rfl rfl rfl rfl (by decide +kernel) (by repeat first | exact Sw.here | apply Sw.there) (by rfl) ?_
 refine A3 ?_
 (refine F9 (cs := [a1, a2, a3, a4, a5, a6, a7, a8, a9]) (by repeat (first | exact Pk.here | apply Pk.there)) (fun G9 hle9 hsl9 hno9 => ?_); have hN := A33 (k := 5) (nm := nm) ⟨by omega, by omega⟩ (hr1.mono hle9) (hr8.mono hle9) hsl9)
 refine tT ?_
 refine H2 (outs := [rd br pb nb cb p8]) (rC rfl (A4 rfl rfl)) (by repeat (first | exact A0.nil | refine A0.cons Pk.here ?_ | refine A0.cons (Pk.there Pk.here) ?_ | refine A0.cons (Pk.there (Pk.there Pk.here)) ?_ | apply A0.drop)) ?_
 (exact ⟨p8, by omega, by omega, rfl, _, _, rfl, hN, K6 hnm haa.1.small hs8, by simp only [D3, E4]; omega⟩)
end Gw
end Go.Proofs.YtebfignffjhnhaaGreatDoor
