/-
  The reference's insertion of casts, exactly. The reference's evaluator: a step, runs of steps, RunTerm. The reference's StepCast, EvalCast, RunTerm. CompareRuns, on both sides. Runs of terms of which one is more precise. Drawn terms that often have a type: one lambda, given the terms below.
-/
import Derived.Test.YthpdjmbpbdbodaaGreatDoorKl7
import Derived.Test.YthpdjmbpbdbodaaGreatDoorKl3
import Derived.Test.YthpdjmbpbdbodaaGreatDoorKl6
import Derived.Test.YthpdjmbpbdbodaaGreatDoorKl5
set_option linter.unusedVariables false
set_option linter.unusedSimpArgs false
set_option maxHeartbeats 0
set_option maxRecDepth 100000
set_option synthInstance.maxSize 4000
set_option synthInstance.maxHeartbeats 0
namespace Go.Proofs.YthpdjmbpbdbodaaGreatDoor
open Go Go.RowKit
namespace Gw
theorem B7h {e : Tm} (h : S9 e = true) : P1 e = Q3 [] e := by
 have hs := ((A0L e).1 h).1
 obtain ⟨h1, h2⟩ := A3u e 1 [] 0 hs A3t
 unfold P1
 cases hE : M6 [] e 0 with
 | none => rw [A7m h hE, h2 hE]
 | some r =>
  obtain ⟨u, a, l⟩ := r
  rw [A7n h hE, (h1 u a l hE).1]
theorem B7i {e u : Tm} {t : Ty} (h : T7 e = some (u, t)) : S9 e = true ∧ ∃ l, M6 [] e 0 = some (u, t, l) := by
 unfold T7 at h
 split at h
 ·rename_i hv
  refine ⟨hv, ?_⟩
  split at h
  ·rename_i u' t' l' he; cases h; exact ⟨l', he⟩
  ·cases h
 ·cases h
def A7B (t : Ty) (x : Bool) (G : IM) : IM → Value → List A7 → Prop := M3 fun G' v => ∃ cells, v = .tuple ⟨[.agg ⟨cells⟩, .bool x]⟩ ∧ C1 G' (if x = true then t else B4) cells
theorem B7j (t : Ty) (G : IM) (cells : List Value) (hr : C1 G t cells) : Fn Tryz.prog 137 [.agg ⟨cells⟩, .bool true] [] G (A7B t true G) := by
 obtain ⟨p, c, e, rfl, _⟩ := hr.open
 refine C2 Tryz.func137 rfl Tryz.ntmps137 Tryz.results137 rfl ?_
 intro w0
 refine A5 ?_
 refine sE (C7 rfl rfl) rfl (fun b3 => ?_)
 refine sE (A8 rfl) rfl (fun b4 => ?_)
 refine X6 ?_
 refine I5 (rC rfl (A6 rfl rfl)) (rT rfl) ?_
 (exact ⟨rfl, _, rfl, hr⟩)
theorem B7k (t : Ty) (G : IM) (cells : List Value) (hr : C1 G t cells) : Fn Tryz.prog 137 [.agg ⟨cells⟩, .bool false] [] G (A7B t false G) := by
 obtain ⟨p, c, e, rfl, _⟩ := hr.open
 refine C2 Tryz.func137 rfl Tryz.ntmps137 Tryz.results137 rfl ?_
 intro w0
 refine A5 ?_
 refine sE (C7 rfl rfl) rfl (fun b3 => ?_)
 refine sE (A8 rfl) rfl (fun b4 => ?_)
 refine A0o ?_
 refine I5 (rC rfl (A6 rfl rfl)) (rT rfl) ?_
 (exact ⟨rfl, _, rfl, O3 _ ⟨by omega, by omega⟩⟩)
theorem B7l (t : Ty) (x : Bool) (G : IM) (cells : List Value) (hr : C1 G t cells) : Fn Tryz.prog 137 [.agg ⟨cells⟩, .bool x] [] G (A7B t x G) := by
 cases x
 ·exact B7k t G cells hr
 ·exact B7j t G cells hr
theorem Y4.sure {o : Option Ty} {t : Ty} {G G' : IM} {cells : List Value} (h : ∀ u, o = some u → u = t) (hr : C1 G' (if o.isSome = true then t else B4) cells) : Y4 o G G' (.tuple ⟨[.agg ⟨cells⟩, .bool o.isSome]⟩) [] := by
 cases o with
 | none => exact ⟨rfl, cells, B4, rfl, hr, by simp⟩
 | some u => exact ⟨rfl, cells, t, rfl, hr, fun x hx => by cases hx; exact (h _ rfl).symm⟩
theorem B7m (e : Tm) (G : IM) (cells : List Value) (hcnt : D6 e ≤ 4294967296) (hr : B3 G e cells) :
  Fn Tryz.prog 94 [.slice none 0 0, .agg ⟨cells⟩] [] G (Y4 (P1 e) G) := by
 have hl := hr.len
 have hone := hr.one
 have hw := A3h e G cells hcnt hr
 have hT := fun h : S9 e = true => B1E e 1 [] G none 0 0 cells ((A0L e).1 h).1 (by omega) A3t (T4.nil G) hr
 have hts := fun h => @B7h e h
 have hno := @B1p e
 refine C2 Tryz.func94 rfl Tryz.ntmps94 Tryz.results94 rfl ?_
 intro w0
 refine A5 ?_
 refine sE (C7 rfl rfl) rfl (fun b3 => ?_)
 refine sE (A8 rfl) rfl (fun b4 => ?_)
 refine B5 ?_
 refine H9 rfl ((B4j _)) rfl rfl ?_
 refine A5 ?_
 refine sL (A3 rfl rfl (B1 (by repeat first | exact mH | apply mT)) (by assumption)) rfl rfl ?_
 refine E8 rfl (hw) rfl rfl (fun h16 => ?_) (fun h16 => ?_)
 refine J0 ?_
 refine sL (A3 rfl rfl (B1 (by repeat first | exact mH | apply mT)) (by assumption)) rfl rfl ?_
 (refine E5 rfl (hT (by assumption)) rfl rfl (fun v G1 hle1 hh => ?_); obtain ⟨mt, mc, rfl, hmr, hma, hmu⟩ := hh; obtain ⟨p1, c1, e1, rfl, _⟩ := hmr.open; have hmo := hts (by assumption))
 refine A5 ?_
 (refine E5 rfl (B7l mt _ _ _ hmr) rfl rfl (fun v G2 hle2 hh => ?_); obtain ⟨mc2, rfl, hmr2⟩ := hh; obtain ⟨p2, c2, e2, rfl, _⟩ := hmr2.open)
 refine B5 ?_
 refine I5 (rC rfl (A6 rfl rfl)) (rT rfl) ?_
 (rw [hmo]; exact Y4.sure hmu hmr2)
 refine J1 ?_
 refine I5 (rC rfl (A6 rfl rfl)) (rT rfl) ?_
 (exact Y4.no (u := B4) (O3 _ ⟨by omega, by omega⟩) rfl (hno (by assumption)))
theorem A7C (e : Tm) (G : IM) (cells : List Value) (hcnt : D6 e ≤ 4294967296) (hr : B3 G e cells) :
  Fn Tryz.prog 53 [.agg ⟨cells⟩] [] G (Y4 (P1 e) G) := by
 have hl := hr.len
 have hone := hr.one
 refine C2 Tryz.func53 rfl Tryz.ntmps53 Tryz.results53 rfl ?_
 intro w0
 refine A5 ?_
 refine sE (C7 rfl rfl) rfl (fun b3 => ?_)
 refine sE (A8 rfl) rfl (fun b4 => ?_)
 refine B2 ?_
 refine sL (A3 rfl rfl (B1 (by repeat first | exact mH | apply mT)) (by assumption)) rfl rfl ?_
 (refine E5 rfl (B7m e G cells hcnt hr) rfl rfl (fun v G1 hle1 hh => ?_); obtain ⟨cu, u, rfl, hru, hu⟩ := hh; obtain ⟨p1, c1, e1, rfl, _⟩ := hru.open)
 refine B5 ?_
 refine I5 (rC rfl (A6 rfl rfl)) (rT rfl) ?_
 (exact ⟨rfl, _, u, rfl, hru, hu⟩)
def A21 (e : Tm) (a b : Ty) (l : Int) : IM → Value → List A7 → Prop := M3 fun G' v => ∃ cells, v = .tuple ⟨[.agg ⟨cells⟩, .int .i64 (if M5 a b = true then l else l + 1)]⟩ ∧ B3 G' (if M5 a b = true then e else K7 e a b l) cells
theorem A21.yes {G : IM} {e : Tm} {a b : Ty} {l : Int} {cells : List Value} (h : M5 a b = true) (hr : B3 G e cells) : A21 e a b l G (.tuple ⟨[.agg ⟨cells⟩, .int .i64 l]⟩) [] := ⟨rfl, cells, by rw [if_pos h], by rw [if_pos h]; exact hr⟩
theorem A21.no {G : IM} {e : Tm} {a b : Ty} {l : Int} {cells : List Value} (h : M5 a b = false) (hr : B3 G (K7 e a b l) cells) : A21 e a b l G (.tuple ⟨[.agg ⟨cells⟩, .int .i64 (l + 1)]⟩) [] := ⟨rfl, cells, by rw [if_neg (by rw [h]; decide)], by rw [if_neg (by rw [h]; decide)]; exact hr⟩
theorem A7D {Q : Prop} (h : Q := by (exact A21.no (by assumption) (B3.of9 (ks := [e]) ⟨by omega, by omega⟩ ⟨by omega, by omega⟩ ⟨by omega, by omega⟩ (hr2.mono hle5) (hr1.mono hle5) hone1 hone2))) : Q := h
theorem B7n (e : Tm) (a b : Ty) (label : Int) (G : IM) (ce ca cb : List Value) (hlab : -1099511627776 ≤ label ∧ label ≤ 1099511627776) (hr : B3 G e ce) (hra : C1 G a ca) (hrb : C1 G b cb) (hsa : a.small) (hsb : b.small) :
  Fn Tryz.prog 61 [.agg ⟨ce⟩, .agg ⟨ca⟩, .agg ⟨cb⟩, .int .i64 label] [] G (A21 e a b label) := by
 have hl := hr.len
 have hone := hr.one
 obtain ⟨hlab1, hlab2⟩ := hlab
 have hSame := B1z a b G ca cb hra hrb
 obtain ⟨ak, aks⟩ := a
 obtain ⟨bk, bks⟩ := b
 obtain ⟨pa, cca, ea, rfl, _⟩ := hra.open
 obtain ⟨pb, ccb, eb, rfl, _⟩ := hrb.open
 simp only [Ty.k, Ty.ks] at hra hrb hSame ⊢
 obtain ⟨v1, v2, v3, v4, v5, v6, v7, v8, v9, rfl⟩ := nine hl
 refine C2 Tryz.func61 rfl Tryz.ntmps61 Tryz.results61 rfl ?_
 intro w0
 refine A5 ?_
 refine sE (C7 rfl rfl) rfl (fun b3 => ?_)
 refine sE (C7 rfl rfl) rfl (fun b4 => ?_)
 refine sE (C7 rfl rfl) rfl (fun b5 => ?_)
 refine sE (A8 rfl) rfl (fun b6 => ?_)
 refine D0 ?_
 refine E8 rfl (hSame) rfl rfl (fun h15 => ?_) (fun h15 => ?_)
 refine B2 ?_
 refine sL (A3 rfl rfl (B1 (by repeat first | exact mH | apply mT)) hl) rfl rfl ?_
 refine F0 ?_
 refine sS rfl rfl rfl hl hone rfl ?_ (hu := by exact D4 hl.symm)
 refine B2 ?_
 refine I5 (rC rfl (A3 rfl rfl (B1 (by repeat first | exact mH | apply mT)) hl)) (rT rfl) ?_
 (exact A21.yes (by assumption) hr)
 refine B0 ?_
 refine D8 D9 rfl ?_
 refine L3 (i := 5) (l' := [ff,ff,ff,ff,ff,tt,ff,ff,ff,ff,ff,ff]) rfl D3 (A3 rfl rfl (B1 (by repeat first | exact mH | apply mT)) hl) rfl (by kernel_rfl) rfl rfl ?_
 refine aL 0 rfl (A6 rfl rfl) rfl ?_
 refine aL 2 rfl (A6 rfl rfl) rfl ?_
 refine aP 4 rfl (qM rfl) rfl ?_
 refine aP 8 rfl (qM rfl) rfl ?_
 refine aP 9 rfl (J6 rfl rfl (by omega) (by omega)) rfl ?_
 refine Q8 (j := 1) (j' := 6) (by kernel_rfl) ?_ ?_
 (refine H4 rfl rfl (P7 _ _ _ hsa hra) rfl rfl rfl (fun v G1 hle1 hh => ?_); obtain ⟨cs1, F1, rfl, hs1, hn1⟩ := hh; obtain ⟨p1, c1, rfl, _⟩ := hs1.open; have hC2 := P7 _ G1 _ hsb (hrb.mono hle1))
 refine Q8 (j := 3) (j' := 6) (by kernel_rfl) ?_ ?_
 (refine H4 rfl rfl hC2 rfl rfl rfl (fun v G2 hle2 hh => ?_); obtain ⟨cs2, F2, rfl, hs2, hn2⟩ := hh; obtain ⟨p2, c2, rfl, _⟩ := hs2.open; have hr1 := hs1.R.mono ((C9.le G1 _).trans hle2); have hr2 := hs2.R.mono (C9.le G2 G1); have hre := hr.mono (hle1.trans hle2))
 refine A4 6 ?_
 (refine E6 rfl (D2 rfl rfl rfl (by omega) (by unfold maxLen; omega) rfl) rfl rfl ?_; rintro _ ⟨b49, rfl⟩)
 refine aP 7 rfl (X5 rfl rfl) rfl ?_
 refine A4 10 ?_
 refine H8 rfl ?_
 refine aP 11 rfl (qA rfl) rfl ?_
 refine A5 ?_
 (refine H3 (cs := [v1, v2, v3, v4, v5, v6, v7, v8, v9]) (by repeat (first | exact Pk.here | apply Pk.there)) (fun G5 hle5 hsl5 hno5 => ?_); obtain ⟨hone1, hone2⟩ := A2K (hre.mono hle5) hsl5)
 refine tT ?_
 refine I5 (rC rfl (A6 rfl rfl)) (rT rfl) ?_
 exact A7D
 (refine E6 rfl (D2 rfl rfl rfl (by omega) (by unfold maxLen; omega) rfl) rfl rfl ?_; rintro _ ⟨b60, rfl⟩)
 refine A4 3 ?_
 (refine H4 rfl rfl hC2 rfl rfl rfl (fun v G2 hle2 hh => ?_); obtain ⟨cs2, F2, rfl, hs2, hn2⟩ := hh; obtain ⟨p2, c2, rfl, _⟩ := hs2.open; have hr1 := hs1.R.mono ((C9.le G1 _).trans hle2); have hr2 := hs2.R.mono (C9.le G2 G1); have hre := hr.mono (hle1.trans hle2))
 refine aP 7 rfl (X5 rfl rfl) rfl ?_
 refine A4 10 ?_
 refine H8 rfl ?_
 refine aP 11 rfl (qA rfl) rfl ?_
 refine A5 ?_
 (refine H3 (cs := [v1, v2, v3, v4, v5, v6, v7, v8, v9]) (by repeat (first | exact Pk.here | apply Pk.there)) (fun G5 hle5 hsl5 hno5 => ?_); obtain ⟨hone1, hone2⟩ := A2K (hre.mono hle5) hsl5)
 refine tT ?_
 refine I5 (rC rfl (A6 rfl rfl)) (rT rfl) ?_
 exact A7D
 (refine E6 rfl (D2 rfl rfl rfl (by omega) (by unfold maxLen; omega) rfl) rfl rfl ?_; rintro _ ⟨b73, rfl⟩)
 refine A4 1 ?_
 (refine H4 rfl rfl (P7 _ _ _ hsa hra) rfl rfl rfl (fun v G1 hle1 hh => ?_); obtain ⟨cs1, F1, rfl, hs1, hn1⟩ := hh; obtain ⟨p1, c1, rfl, _⟩ := hs1.open; have hC2 := P7 _ G1 _ hsb (hrb.mono hle1))
 refine A4 3 ?_
 (refine H4 rfl rfl hC2 rfl rfl rfl (fun v G2 hle2 hh => ?_); obtain ⟨cs2, F2, rfl, hs2, hn2⟩ := hh; obtain ⟨p2, c2, rfl, _⟩ := hs2.open; have hr1 := hs1.R.mono ((C9.le G1 _).trans hle2); have hr2 := hs2.R.mono (C9.le G2 G1); have hre := hr.mono (hle1.trans hle2))
 refine aP 7 rfl (X5 rfl rfl) rfl ?_
 refine A4 10 ?_
 refine H8 rfl ?_
 refine aP 11 rfl (qA rfl) rfl ?_
 refine A5 ?_
 (refine H3 (cs := [v1, v2, v3, v4, v5, v6, v7, v8, v9]) (by repeat (first | exact Pk.here | apply Pk.there)) (fun G5 hle5 hsl5 hno5 => ?_); obtain ⟨hone1, hone2⟩ := A2K (hre.mono hle5) hsl5)
 refine tT ?_
 refine I5 (rC rfl (A6 rfl rfl)) (rT rfl) ?_
 exact A7D
def S6 (w ts : List Ty) : List Ty := if w = [] then ts else w
theorem A4w {a : Ty} {w ts : List Ty} : S6 (a :: w) ts = a :: w := by unfold S6; rw [if_neg (by simp)]
def Y6 (ws : List Ty) (n : Nat) (G : IM) : IM → Value → List A7 → Prop := M3 fun G' v => ∃ p c es, v = .slice p n c ∧ ws.length = n ∧ E0 G' p n c 2 es ∧ D5 G' ws es
theorem Y6.mk {G G' : IM} {p : Option Addr} {n c : Nat} {ws ws' : List Ty} {es : List (List Value)} (he : ws = ws') (hl : ws'.length = n) (hs : Sl G' p n c 2 es.flatten) (hst : D5 G' ws' es) : Y6 ws n G G' (.slice p n c) [] := by
 subst he
 exact ⟨rfl, p, c, es, rfl, hl, E0.of hs (by rw [hst.len, hl]) hst.all (fun e he => (hst.each e he).2), hst⟩
theorem Y6.mk1 {G G' : IM} {p : Option Addr} {n c : Nat} {ws : List Ty} {a : Ty} {ca : List Value} (he : ws = [a]) (hn : n = 1) (hs : Sl G' p 1 c 2 ca) (ha : C1 G' a ca) : Y6 ws n G G' (.slice p 1 c) [] := by
 subst hn
 exact Y6.mk (ws' := [a]) (es := [ca]) he rfl (by simpa using hs) ⟨_, _, rfl, ha, rfl⟩
theorem Y6.mk2 {G G' : IM} {p : Option Addr} {n c : Nat} {ws : List Ty} {a b : Ty} {ca cb : List Value} (he : ws = [a, b]) (hn : n = 2) (hs : Sl G' p 2 c 2 (ca ++ cb)) (ha : C1 G' a ca) (hb : C1 G' b cb) : Y6 ws n G G' (.slice p 2 c) [] := by
 subst hn
 exact Y6.mk (ws' := [a, b]) (es := [ca, cb]) he rfl (by simpa using hs) ⟨_, _, rfl, ha, _, _, rfl, hb, rfl⟩
theorem Y6.mk3 {G G' : IM} {p : Option Addr} {n c : Nat} {ws : List Ty} {a b d : Ty} {ca cb cd : List Value} (he : ws = [a, b, d]) (hn : n = 3) (hs : Sl G' p 3 c 2 (ca ++ (cb ++ cd))) (ha : C1 G' a ca) (hb : C1 G' b cb) (hd : C1 G' d cd) : Y6 ws n G G' (.slice p 3 c) [] := by
 subst hn
 exact Y6.mk (ws' := [a, b, d]) (es := [ca, cb, cd]) he rfl (by simpa using hs) ⟨_, _, rfl, ha, _, _, rfl, hb, _, _, rfl, hd, rfl⟩
section
variable {cx : Cx} {k : Int} {nm : ByteArray} {ty : Ty} {ts w : List Ty} {t : Ty}
theorem wo6 (hk : k = 6) (h : J7 cx k nm ty ts = some (w, t)) (hl : 0 < ts.length) : ∃ a b, R6 4 ts[0] = some (a, b) ∧ S6 w ts = [.mk 4 [a, b], a] := by
 subst hk
 rw [mW6, gD hl] at h
 split at h
 ·rename_i a b hm
  split at h
  ·cases h; exact ⟨a, _, hm, A4w⟩
  ·cases h
 ·cases h
theorem B7o (hk : k = 7 ∨ k = 8) (h : J7 cx k nm ty ts = some (w, t)) : S6 w ts = [P9, P9] := by
 rw [W5 hk] at h
 split at h
 ·cases h; exact A4w
 ·cases h
theorem wo9 (hk : k = 9) (h : J7 cx k nm ty ts = some (w, t)) : S6 w ts = [U4, t, t] := by
 subst hk
 rw [mW9] at h
 split at h
 ·cases h; exact A4w
 ·cases h
theorem B7p (hk : k = 11 ∨ k = 12) (h : J7 cx k nm ty ts = some (w, t)) (hl : 0 < ts.length) : ∃ a b, R6 5 ts[0] = some (a, b) ∧ S6 w ts = [.mk 5 [a, b]] := by
 rw [A3s hk, gD hl] at h
 split at h
 ·rename_i a b hm; cases h; exact ⟨a, b, hm, A4w⟩
 ·cases h
theorem B7q (hk : k = 13) (h : J7 cx k nm ty ts = some (w, t)) : S6 w ts = [t] := by
 subst hk
 rw [A2Q] at h
 split at h
 ·cases h; exact A4w
 ·cases h
theorem wo0 (hk : 1 ≤ k ∧ k ≤ 5 ∨ k = 10) (h : J7 cx k nm ty ts = some (w, t)) : S6 w ts = ts := by
 have : w = [] := by
  have hk' : k = 1 ∨ k = 2 ∨ (k = 3 ∨ k = 4) ∨ k = 5 ∨ k = 10 := by omega
  rcases hk' with rfl | rfl | hk | rfl | rfl
  ·rw [mW1] at h; split at h <;> cases h; rfl
  ·rw [mW2] at h; cases h; rfl
  ·rw [A4b hk] at h; cases h; rfl
  ·rw [mW5] at h; cases h; rfl
  ·rw [A5i] at h; cases h; rfl
 subst this; rfl
end
theorem B1K {Q : Prop} (h : Q := by (exact Y6.mk2 (o78 (by omega)) (hop.1 (by omega)) hsl5 (K8 _) (K8 _))) : Q := h
theorem B7r (cx : Cx) (k : Int) (nm : ByteArray) (num : Int) (ty fr : Ty) (lb : Int) (ks : List Tm) (ts w : List Ty) (t : Ty) (G : IM) (cells tcells : List Value) (p : Option Addr) (c : Nat) (es : List (List Value))
  (hw : J7 cx k nm ty ts = some (w, t)) (hk14 : k ≠ 14) (hops : D7 k = ts.length) (hr : B3 G (.mk k nm num ty fr lb ks) cells) (hsl : E0 G p ts.length c 2 es) (hkl : D5 G ts es) (har : ∀ t ∈ ts, F8 t) (hrt : C1 G t tcells) :
  Fn Tryz.prog 131 [.agg ⟨cells⟩, .slice p ts.length c, .agg ⟨tcells⟩] [] G (Y6 (S6 w ts) ts.length G) := by
 have hone := hr.one
 have hop := A3l hops
 have hkr : 1 ≤ k ∧ k ≤ 14 := A4p (by rw [hops]; omega)
 have ha0 := fun h : 0 < ts.length => har _ (List.getElem_mem h)
 obtain ⟨tyk, tyks⟩ := ty
 obtain ⟨fk, fks⟩ := fr
 obtain ⟨tk, tks⟩ := t
 obtain ⟨q9, d9, e9, rfl, _⟩ := hrt.open
 obtain ⟨pt, ct, pf, cf, pk, ck, ek, rfl, hk, hnum, hlb, hrty, hrfr, _, _⟩ := hr.open9
 have o6 := fun h hl => wo6 h hw hl
 have o78 := fun h => B7o h hw
 have o9 := fun h => wo9 h hw
 have o11 := fun h hl => B7p h hw hl
 have o13 := fun h => B7q h hw
 have o0 := fun h => wo0 h hw
 refine C2 Tryz.func131 rfl Tryz.ntmps131 Tryz.results131 rfl ?_
 intro w0
 refine A5 ?_
 refine sE (C7 rfl rfl) rfl (fun b3 => ?_)
 refine sE (C7 rfl rfl) rfl (fun b4 => ?_)
 refine J0 ?_
 refine C3 (tS (tR (sB (qE rfl rfl) rfl rfl (fun h18 => ?_) (fun h18 => ?_))))
 refine B5 ?_
 (have hl2 : ts.length = 2 := hop.1 (by omega); obtain ⟨b0, o0', q0, d0, hp0, hat0, hre0, hg0⟩ := hsl.kidTy hkl (i := 0) (by omega) (by omega); cases hp0; refine sP (B6 (j := 0) rfl rfl rfl (by omega)) rfl rfl ?_)
 refine sL (A3 rfl rfl (hat0 _) rfl) rfl rfl ?_
 (obtain ⟨ma', mb', hm, hwo⟩ := o6 (by omega) (by omega); refine E5 rfl (A3E 4 ts[0] G _ (.inl rfl) (ha0 (by omega)) hre0) rfl rfl (fun v G1 hle1 hh => ?_); obtain ⟨ma, mca, mb, mcb, rfl, hma, hmb, hma2, hmb2, hpp⟩ := hh; have hpe := hpp _ hm; simp only [Prod.mk.injEq] at hpe; obtain ⟨rfl, rfl⟩ := hpe; obtain ⟨p1, c1, e1, rfl, _⟩ := hma.open; obtain ⟨p2, c2, e2, rfl, _⟩ := hmb.open; have hTwo := A20 4 _ _ G1 _ _ (.inl rfl) hma2 hmb2 hma hmb)
 refine B7 ?_
 refine sE (A8 rfl) rfl (fun b33 => ?_)
 refine sE (A8 rfl) rfl (fun b34 => ?_)
 refine E1 ?_
 (refine E5 rfl hTwo rfl rfl (fun v G2 hle2 hh => ?_); obtain ⟨mc, rfl, hmr⟩ := hh; obtain ⟨p3, c3, e3, rfl, _⟩ := hmr.open; have hma4 := hma.mono hle2)
 refine B9 ?_
 refine sE (A8 rfl) rfl (fun b48 => ?_)
 refine D0 ?_
 (refine J5 (D2 rfl rfl rfl (by omega) (by unfold maxLen; omega) rfl) rfl ?_; rintro _ ⟨b57, rfl⟩)
 refine B9 ?_
 (refine H3 (by repeat (first | exact Pk.here | apply Pk.there)) (fun G5 hle5 hsl5 hno5 => ?_))
 refine B7 ?_
 (exact Y6.mk2 hwo (hop.1 (by omega)) hsl5 (hmr.mono hle5) (hma4.mono hle5))
 refine B5 ?_
 refine sB (qE rfl rfl) rfl rfl (fun h74 => ?_) (fun h74 => ?_)
 refine E1 ?_
 refine H9 rfl ((A0y _)) rfl rfl ?_
 refine H9 rfl ((A0y _)) rfl rfl ?_
 (refine J5 (D2 rfl rfl rfl (by omega) (by unfold maxLen; omega) rfl) rfl ?_; rintro _ ⟨b86, rfl⟩)
 refine B9 ?_
 (refine H3 (by repeat (first | exact Pk.here | apply Pk.there)) (fun G5 hle5 hsl5 hno5 => ?_))
 refine B7 ?_
 exact B1K
 refine B2 ?_
 refine sB (qE rfl rfl) rfl rfl (fun h101 => ?_) (fun h101 => ?_)
 refine B0 ?_
 refine H9 rfl ((A0y _)) rfl rfl ?_
 refine H9 rfl ((A0y _)) rfl rfl ?_
 (refine J5 (D2 rfl rfl rfl (by omega) (by unfold maxLen; omega) rfl) rfl ?_; rintro _ ⟨b110, rfl⟩)
 refine B9 ?_
 (refine H3 (by repeat (first | exact Pk.here | apply Pk.there)) (fun G5 hle5 hsl5 hno5 => ?_))
 refine B7 ?_
 exact B1K
 refine B0 ?_
 refine sB (qE rfl rfl) rfl rfl (fun h126 => ?_) (fun h126 => ?_)
 refine B2 ?_
 refine D8 D9 rfl ?_
 refine L3 (i := 1) (l' := [ff,tt,ff,ff,ff]) rfl D3 (A6 rfl rfl) rfl (by kernel_rfl) rfl rfl ?_
 refine aL 2 rfl (A6 rfl rfl) rfl ?_
 refine A4 0 ?_
 refine N6 rfl rfl ((A3j _)) rfl rfl rfl ?_
 refine A4 3 ?_
 (refine E6 rfl (D2 rfl rfl rfl (by omega) (by unfold maxLen; omega) rfl) rfl rfl ?_; rintro _ ⟨b138, rfl⟩)
 refine aP 4 rfl (qA rfl) rfl ?_
 refine A5 ?_
 (refine H3 (by repeat (first | exact Pk.here | apply Pk.there)) (fun G5 hle5 hsl5 hno5 => ?_))
 refine B7 ?_
 (exact Y6.mk3 (o9 (by omega)) (hop.2.1 (by omega)) hsl5 (A0u _) (hrt.mono hle5) (hrt.mono hle5))
 refine B5 ?_
 refine sB (qE rfl rfl) rfl rfl (fun h155 => ?_) (fun h155 => ?_)
 refine J0 ?_
 (have hl1 : ts.length = 1 := hop.2.2 (by omega); obtain ⟨b0, o0', q0, d0, hp0, hat0, hre0, hg0⟩ := hsl.kidTy hkl (i := 0) (by omega) (by omega); cases hp0; refine sP (B6 (j := 0) rfl rfl rfl (by omega)) rfl rfl ?_)
 refine sL (A3 rfl rfl (hat0 _) rfl) rfl rfl ?_
 (obtain ⟨ma', mb', hm, hwo⟩ := o11 (by omega) (by omega); refine E5 rfl (A3E 5 ts[0] G _ (.inr rfl) (ha0 (by omega)) hre0) rfl rfl (fun v G1 hle1 hh => ?_); obtain ⟨ma, mca, mb, mcb, rfl, hma, hmb, hma2, hmb2, hpp⟩ := hh; have hpe := hpp _ hm; simp only [Prod.mk.injEq] at hpe; obtain ⟨rfl, rfl⟩ := hpe; obtain ⟨p1, c1, e1, rfl, _⟩ := hma.open; obtain ⟨p2, c2, e2, rfl, _⟩ := hmb.open; have hTwo := A20 5 _ _ G1 _ _ (.inr rfl) hma2 hmb2 hma hmb)
 refine B7 ?_
 refine sE (A8 rfl) rfl (fun b173 => ?_)
 refine sE (A8 rfl) rfl (fun b174 => ?_)
 refine E1 ?_
 (refine E5 rfl hTwo rfl rfl (fun v G2 hle2 hh => ?_); obtain ⟨mc, rfl, hmr⟩ := hh; obtain ⟨p3, c3, e3, rfl, _⟩ := hmr.open; have hma4 := hma.mono hle2)
 refine B9 ?_
 refine sE (A8 rfl) rfl (fun b188 => ?_)
 refine B5 ?_
 (refine J5 (D2 rfl rfl rfl (by omega) (by unfold maxLen; omega) rfl) rfl ?_; rintro _ ⟨b196, rfl⟩)
 refine B9 ?_
 (refine H3 (by repeat (first | exact Pk.here | apply Pk.there)) (fun G5 hle5 hsl5 hno5 => ?_))
 refine B7 ?_
 (exact Y6.mk1 hwo (hop.2.2 (by omega)) hsl5 (hmr.mono hle5))
 refine B2 ?_
 refine sB (qE rfl rfl) rfl rfl (fun h211 => ?_) (fun h211 => ?_)
 refine B5 ?_
 (have hl1 : ts.length = 1 := hop.2.2 (by omega); obtain ⟨b0, o0', q0, d0, hp0, hat0, hre0, hg0⟩ := hsl.kidTy hkl (i := 0) (by omega) (by omega); cases hp0; refine sP (B6 (j := 0) rfl rfl rfl (by omega)) rfl rfl ?_)
 refine sL (A3 rfl rfl (hat0 _) rfl) rfl rfl ?_
 (obtain ⟨ma', mb', hm, hwo⟩ := o11 (by omega) (by omega); refine E5 rfl (A3E 5 ts[0] G _ (.inr rfl) (ha0 (by omega)) hre0) rfl rfl (fun v G1 hle1 hh => ?_); obtain ⟨ma, mca, mb, mcb, rfl, hma, hmb, hma2, hmb2, hpp⟩ := hh; have hpe := hpp _ hm; simp only [Prod.mk.injEq] at hpe; obtain ⟨rfl, rfl⟩ := hpe; obtain ⟨p1, c1, e1, rfl, _⟩ := hma.open; obtain ⟨p2, c2, e2, rfl, _⟩ := hmb.open; have hTwo := A20 5 _ _ G1 _ _ (.inr rfl) hma2 hmb2 hma hmb)
 refine B7 ?_
 refine sE (A8 rfl) rfl (fun b226 => ?_)
 refine sE (A8 rfl) rfl (fun b227 => ?_)
 refine E1 ?_
 (refine E5 rfl hTwo rfl rfl (fun v G2 hle2 hh => ?_); obtain ⟨mc, rfl, hmr⟩ := hh; obtain ⟨p3, c3, e3, rfl, _⟩ := hmr.open; have hma4 := hma.mono hle2)
 refine B9 ?_
 refine sE (A8 rfl) rfl (fun b241 => ?_)
 refine B5 ?_
 (refine J5 (D2 rfl rfl rfl (by omega) (by unfold maxLen; omega) rfl) rfl ?_; rintro _ ⟨b249, rfl⟩)
 refine B9 ?_
 (refine H3 (by repeat (first | exact Pk.here | apply Pk.there)) (fun G5 hle5 hsl5 hno5 => ?_))
 refine B7 ?_
 (exact Y6.mk1 hwo (hop.2.2 (by omega)) hsl5 (hmr.mono hle5))
 refine B0 ?_
 refine sB (qE rfl rfl) rfl rfl (fun h265 => ?_) (fun h265 => ?_)
 refine B5 ?_
 (refine J5 (D2 rfl rfl rfl (by omega) (by unfold maxLen; omega) rfl) rfl ?_; rintro _ ⟨b273, rfl⟩)
 refine B9 ?_
 (refine H3 (by repeat (first | exact Pk.here | apply Pk.there)) (fun G5 hle5 hsl5 hno5 => ?_))
 refine B7 ?_
 (exact Y6.mk1 (o13 (by omega)) (hop.2.2 (by omega)) hsl5 (hrt.mono hle5))
 refine H6 ?_
 (exact Y6.mk (o0 (by omega)) rfl hsl.sl hkl)
theorem B1L : ∀ (us : List Tm) (h : List Ty) (l : Int), H2 us h h l = (us, l)
 | [], h, l => by simp [H2]
 | u :: us, [], l => by simp [H2]
 | u :: us, a :: h, l => by simp only [H2, A6q, if_true, B1L us h l]
theorem A5G {us : List Tm} {h w : List Ty} {l : Int} : H2 us h (S6 w h) l = H2 us h w l := by
 unfold S6
 split
 ·rename_i hw; subst hw; rw [B1L, V4]
 ·rfl
theorem B7s {cx : Cx} {k : Int} {nm : ByteArray} {ty : Ty} {h w : List Ty} {t : Ty} (hh : ∀ a ∈ h, F4 a = true) (hw : Wt cx k nm ty h w t) : ∀ a ∈ S6 w h, F4 a = true := by
 intro a ha
 unfold S6 at ha
 split at ha
 ·exact hh a ha
 ·rename_i hne
  obtain ⟨i, hi, rfl⟩ := List.mem_iff_getElem.1 ha
  exact (hw.ok i hi (by rcases hw.len with h1 | h1; exact absurd h1 hne; omega)).2
def B7t (u : Tm) (t : Ty) (l : Int) (G : IM) : IM → Value → List A7 → Prop := M3 fun G' v => ∃ cu ct, v = .tuple ⟨[.agg ⟨cu⟩, .agg ⟨ct⟩, .int .i64 (l + 1)]⟩ ∧ B3 G' u cu ∧ C1 G' t ct
theorem B1M {cx : Cx} : ∀ {ks : List Tm} {l : Int} {us : List Tm} {h : List Ty} {l' : Int}, L9 cx ks l = some (us, h, l') → us.length = ks.length ∧ h.length = ks.length
 | [], l, us, h, l', he => by simp only [L9, Option.some.injEq, Prod.mk.injEq] at he; obtain ⟨rfl, rfl, _⟩ := he; exact ⟨rfl, rfl⟩
 | t :: ts, l, us, h, l', he => by
  rw [L9] at he
  split at he
  ·cases he
  ·split at he
   ·cases he
   ·rename_i hz
    simp only [Option.some.injEq, Prod.mk.injEq] at he
    obtain ⟨rfl, rfl, _⟩ := he
    have := B1M hz
    simp [this.1, this.2]
theorem B7u : ∀ (e : Tm) (d : Int) (cx : Cx) (l0 : Int) (u0 : Tm) (t0 : Ty) (l1 : Int) (G : IM) (p : Option Addr) (n c : Nat) (cells : List Value), M6 cx e l0 = some (u0, t0, l1) → M8 12 14 e d = true → (n : Int) ≤ d → cxV cx → T4 G cx p n c → B3 G e cells → 0 ≤ l0 → l0 + (D6 e : Int) ≤ 1000000000 →
  Fn Tryz.prog 85 [.slice p n c, .agg ⟨cells⟩, .int .i64 (l0 + 1)] [] G (B7t u0 t0 l1 G) := by
 refine Tm.ind fun k nm num ty fr lb ks ih d cx l0 u0 t0 l1 G p n c cells hel hv hnd hcv hx hr hl0 hlc => ?_
 have hr0 := hr
 have hone := hr.one
 have hT := B1E _ d cx G p n c cells hv hnd hcv hx hr
 obtain ⟨hts1, hts2⟩ := (A3u _ d cx l0 hv hcv).1 u0 t0 l1 hel
 rw [hts1] at hT
 have hsm := A9I _ d hv
 obtain ⟨hv1, hv2, hv3, hv4⟩ := A0s hv
 have hvk := (A0W 12 14 ks _).1 hv4
 have har := (U3.1 hv3).1
 have hop := A3l har
 obtain ⟨hta, hts⟩ := A3m hv3
 have hcvX : cxV (K1 cx k nm ty) := A4e hcv fun hk => (U3.1 hv3).2.2.2.2.2.1 (.inl hk)
 have hck : D6 (.mk k nm num ty fr lb ks) = E9 ks + 1 := Z4 ..
 rw [hck] at hlc
 rw [M6] at hel
 rcases hEL : L9 (K1 cx k nm ty) ks l0 with _ | ⟨usA, tsA, lA⟩
 ·rw [hEL] at hel; cases hel
 rw [hEL] at hel
 unfold Q7 at hel
 rcases hNT : T6 cx k nm ty tsA with _ | ⟨w, t9⟩
 ·simp only [hNT] at hel; cases hel
 simp only [hNT, Option.some.injEq, Prod.mk.injEq] at hel
 obtain ⟨hu0, rfl, rfl⟩ := hel
 obtain ⟨hlA1, hlA2⟩ := B1M hEL
 have hmw := (A4c hNT).2
 obtain ⟨_, htv, _⟩ := (A99 ks (fun t ht d' cx' l' h1 h2 => A3u t d' cx' l' h1 h2) (d + 1) _ l0 hv4 hcvX).1 usA tsA lA hEL
 have hcAll := A1p usA tsA w lA
 have hWV : ∀ a ∈ S6 w tsA, F4 a = true := B7s htv (B06 htv (fun hk => (U3.1 hv3).2.2.2.2.2.1 (.inr (.inl hk))) (by rw [hlA2]; exact har) hv2 hmw)
 obtain ⟨tk, tks⟩ := ty
 obtain ⟨fk, fks⟩ := fr
 obtain ⟨pt, ct, pf, cf, q, cq, es, rfl, hk, hnum, hlb, hty, hfr, hsl, hkl⟩ := hr.open9
 have hlen : ks.length ≤ 3 := by have := A1m k; omega
 have hk13 : k = 13 → ks.length = 1 := fun h => hop.2.2 (by omega)
 refine C2 Tryz.func85 rfl Tryz.ntmps85 Tryz.results85 rfl ?_
 intro w0
 refine A5 ?_
 refine sE (C7 rfl rfl) rfl (fun b3 => ?_)
 refine sE (A8 rfl) rfl (fun b4 => ?_)
 refine sE (A8 rfl) rfl (fun b5 => ?_)
 refine B5 ?_
 (refine E5 rfl hT rfl rfl (fun v G1 hle1 hh => ?_); obtain ⟨mt, mc, rfl, hmr, hma, hmu⟩ := hh; obtain rfl := hmu _ rfl; obtain ⟨p1, d1, e1, rfl, _⟩ := hmr.open; have hC := A3g _ G1 _ hsm (hr0.mono hle1))
 refine B9 ?_
 refine sE (A8 rfl) rfl (fun b17 => ?_)
 refine B5 ?_
 (refine E5 rfl hC rfl rfl (fun v G2 hle2 hh => ?_); obtain ⟨cs1, F1, rfl, hs1, hn1⟩ := hh; have hr1 := hs1.R.mono (C9.le G2 G1); obtain ⟨q1, c1, q2, c2, q3, c3, es1, rfl, _, _, _, hty1, hfr1, _, _⟩ := hr1.open9; have hle02 := hle1.trans hle2; replace hx := hx.mono hle02; replace hty := hty.mono hle02; replace hsl := hsl.mono hle02; replace hkl := hkl.mono hle02; replace hmr := hmr.mono hle2; replace hr0 := hr0.mono hle02)
 refine sE (A8 rfl) rfl (fun b26 => ?_)
 refine I8 ?_
 (show J2 _ _ (.region 4 ..) _ _; refine A0j (fun (x : Bool) => ⟨[(30, .bool x), (0, .slice p n c), (2, .int .i64 (l0 + 1)), (4, .pointer (some ⟨b3, 0, none⟩)), (6, .pointer (some ⟨b4, 0, none⟩)), (7, .pointer (some ⟨b5, 0, none⟩)), (9, .pointer (some ⟨b17, 0, none⟩)), (11, .pointer (some ⟨b26, 0, none⟩))], [.blk b26 [.int .i64 k, .string nm, .int .i64 num, .int .i64 tk, .slice q1 tks.length c1, .int .i64 fk, .slice q2 fks.length c2, .int .i64 lb, .slice none 0 0], .blk b17 [.int .i64 t9.k, .slice p1 t9.ks.length d1], .blk b5 [.int .i64 0, .slice none 0 0], .blk b4 [.int .i64 0, .string ⟨⟨[]⟩⟩, .int .i64 0, .int .i64 0, .slice none 0 0, .int .i64 0, .slice none 0 0, .int .i64 0, .slice none 0 0], .blk b3 [.int .i64 k, .string nm, .int .i64 num, .int .i64 tk, .slice pt tks.length ct, .int .i64 fk, .slice pf fks.length cf, .int .i64 lb, .slice q ks.length cq]], G2⟩) (fun x => x = true ↔ k = 5) ?_ ?_)
 ·refine B9 ?_
  refine sB (qE rfl rfl) rfl rfl (fun h42 => ?_) (fun h42 => ?_)
  ·refine sD ?_
   refine P8 true (M0 (by repeat (first | exact E7.nil | refine E7.cons rfl ?_)) (by repeat (first | exact A0.refl | exact A0.nil | refine A0.cons (by repeat (first | exact Pk.here | apply Pk.there)) ?_ | apply A0.drop))) ⟨fun _ => (by omega), fun _ => rfl⟩
  ·refine sD ?_
   refine P8 false (M0 (by repeat (first | exact E7.nil | refine E7.cons rfl ?_)) (by repeat (first | exact A0.refl | exact A0.nil | refine A0.cons (by repeat (first | exact Pk.here | apply Pk.there)) ?_ | apply A0.drop))) ⟨fun h => (by cases h), fun _ => (by omega)⟩
 ·(rintro (x : Bool) hx5)
  (show J2 _ _ (.cond (.tmp 30) _ _) _ _; refine A0j (fun (x : Option Addr × Nat × Nat × IM) => ⟨[(0, .slice x.1 x.2.1 x.2.2.1), (2, .int .i64 (l0 + 1)), (4, .pointer (some ⟨b3, 0, none⟩)), (6, .pointer (some ⟨b4, 0, none⟩)), (7, .pointer (some ⟨b5, 0, none⟩)), (9, .pointer (some ⟨b17, 0, none⟩)), (11, .pointer (some ⟨b26, 0, none⟩))], [.blk b26 [.int .i64 k, .string nm, .int .i64 num, .int .i64 tk, .slice q1 tks.length c1, .int .i64 fk, .slice q2 fks.length c2, .int .i64 lb, .slice none 0 0], .blk b17 [.int .i64 t9.k, .slice p1 t9.ks.length d1], .blk b5 [.int .i64 0, .slice none 0 0], .blk b4 [.int .i64 0, .string ⟨⟨[]⟩⟩, .int .i64 0, .int .i64 0, .slice none 0 0, .int .i64 0, .slice none 0 0, .int .i64 0, .slice none 0 0], .blk b3 [.int .i64 k, .string nm, .int .i64 num, .int .i64 tk, .slice pt tks.length ct, .int .i64 fk, .slice pf fks.length cf, .int .i64 lb, .slice q ks.length cq]], x.2.2.2⟩) (fun x => C6 G2 x.2.2.2 ∧ T4 x.2.2.2 (K1 cx k nm (.mk tk tks)) x.1 x.2.1 x.2.2.1 ∧ (x.2.1 : Int) ≤ d + 1) (A3K rfl (fun hxt => ?_) (fun hxf => ?_)) ?_)
  ·refine B0 ?_
   (refine E5 rfl (B1A G2 cx p n c nm (.mk tk tks) _ hx (by omega) hty) rfl rfl (fun v G3 hle3 hh => ?_); obtain ⟨pm0, cm0, rfl, hxm⟩ := hh)
   refine A5 ?_
   refine P8 (pm0, n + 1, cm0, G3) (M0 (by repeat (first | exact E7.nil | refine E7.cons rfl ?_)) (by repeat (first | exact A0.refl | exact A0.nil | refine A0.cons (by repeat (first | exact Pk.here | apply Pk.there)) ?_ | apply A0.drop))) ?_
   (dsimp only; exact ⟨hle3, by rw [K1, if_pos (hx5.1 (by assumption))]; exact hxm, by omega⟩)
  ·refine tK ?_
   refine P8 (p, n, c, G2) (M0 (by repeat (first | exact E7.nil | refine E7.cons rfl ?_)) (by repeat (first | exact A0.refl | exact A0.nil | refine A0.cons (by repeat (first | exact Pk.here | apply Pk.there)) ?_ | apply A0.drop))) ?_
   (dsimp only; exact ⟨C6.refl _, by rw [K1, if_neg (fun h => by have := hx5.2 h; rw [this] at hxf; cases hxf)]; exact hx, by omega⟩)
  ·(rintro ⟨(px : Option Addr), nx, cxx, Gx⟩ ⟨hleX, hxX, hnX⟩; simp only [] at hleX hxX hnX ⊢; replace hty1 := hty1.mono hleX; replace hfr1 := hfr1.mono hleX; replace hsl := hsl.mono hleX; replace hkl := hkl.mono hleX; replace hmr := hmr.mono hleX; replace hr0 := hr0.mono hleX)
   refine A5 ?_
   (refine J5 (D2 rfl rfl rfl (by omega) (by unfold maxLen; omega) rfl) rfl ?_; rintro _ ⟨b66, rfl⟩)
   refine E1 ?_
   refine C3 ?_
   (refine U9 28 9 ?_; refine K2 (fun (x : Nat × (Option Addr × Nat × List Tm × List (List Value)) × (Option Addr × Nat × List Ty × List (List Value)) × Int × IM) => ⟨[(13, .int .i64 x.1), (12, .slice x.2.2.1.1 x.1 x.2.2.1.2.1), (0, .slice px nx cxx), (2, .int .i64 (x.2.2.2.1 + 1)), (4, .pointer (some ⟨b3, 0, none⟩)), (6, .pointer (some ⟨b4, 0, none⟩)), (7, .pointer (some ⟨b5, 0, none⟩)), (9, .pointer (some ⟨b17, 0, none⟩)), (11, .pointer (some ⟨b26, 0, none⟩))], [.blk b26 [.int .i64 k, .string nm, .int .i64 num, .int .i64 tk, .slice q1 tks.length c1, .int .i64 fk, .slice q2 fks.length c2, .int .i64 lb, .slice x.2.1.1 x.1 x.2.1.2.1], .slc x.2.1.1 x.2.1.2.1 28 9 x.1 x.2.1.2.2.2.flatten, .slc x.2.2.1.1 x.2.2.1.2.1 25 2 x.1 x.2.2.1.2.2.2.flatten, .blk b17 [.int .i64 t9.k, .slice p1 t9.ks.length d1], .blk b5 [.int .i64 0, .slice none 0 0], .blk b4 [.int .i64 0, .string ⟨⟨[]⟩⟩, .int .i64 0, .int .i64 0, .slice none 0 0, .int .i64 0, .slice none 0 0, .int .i64 0, .slice none 0 0], .blk b3 [.int .i64 k, .string nm, .int .i64 num, .int .i64 tk, .slice pt tks.length ct, .int .i64 fk, .slice pf fks.length cf, .int .i64 lb, .slice q ks.length cq]], x.2.2.2.2⟩) (fun x => x.1 ≤ ks.length ∧ C6 Gx x.2.2.2.2 ∧ x.2.1.2.2.1.length = x.1 ∧ E4 x.2.2.2.2 x.2.1.2.2.1 x.2.1.2.2.2 ∧ x.2.2.1.2.2.1.length = x.1 ∧ D5 x.2.2.2.2 x.2.2.1.2.2.1 x.2.2.1.2.2.2 ∧ L9 (K1 cx k nm (.mk tk tks)) (ks.take x.1) l0 = some (x.2.1.2.2.1, x.2.2.1.2.2.1, x.2.2.2.1) ∧ l0 ≤ x.2.2.2.1 ∧ x.2.2.2.1 + x.1 ≤ l0 + (E9 (ks.take x.1) : Int)) (fun x => ks.length - x.1) (0, (none, 0, [], []), (some ⟨b66, 0, none⟩, 0, [], []), l0, Gx) ?_ ?_ ?_)
   ·(simp only [List.take_zero, V4]; exact (M0 (by repeat (first | exact E7.nil | refine E7.cons rfl ?_)) (by repeat (first | exact A0.refl | exact A0.nil | refine A0.cons (by repeat (first | exact Pk.here | apply Pk.there)) ?_ | apply A0.drop))))
   ·(exact ⟨by simp, C6.refl _, rfl, by simp [E4], rfl, by simp [D5], by simp [L9], Int.le_refl _, by simp [E9]⟩)
   ·(rintro ⟨i, ⟨pn, cn, us, es'⟩, ⟨pm, cm, ts, ess⟩, l, Gi⟩ ⟨hi, hle, hlu, hst, hlt, hstt, hml, hl1, hl2⟩; simp only [] at hi hle hlu hst hlt hstt hml hl1 hl2 ⊢; replace hty1 := hty1.mono hle; replace hfr1 := hfr1.mono hle; replace hsl := hsl.mono hle; replace hkl := hkl.mono hle; replace hmr := hmr.mono hle; replace hr0 := hr0.mono hle; replace hxX := hxX.mono hle)
    refine B5 ?_
    refine sB (J8 rfl rfl) rfl rfl (fun h88 => ?_) (fun h88 => ?_)
    ·refine B0 ?_
     refine C3 ?_
     refine B0 ?_
     (obtain ⟨b, o, e, rfl, hl, hate, hre, hgb⟩ := hsl.kidTm hkl (i := i) (by omega) (by omega); have hsc := A1J (ks := ks) (i := i) (by omega); have hsk := A1I (ks := ks) (i := i) (by omega); rcases hE : M6 (K1 cx k nm (Ty.mk tk tks)) ks[i] l with _ | ⟨u, t, l3⟩; (have hno := A6U (by omega) hml hE; rw [hEL] at hno; cases hno); have hlm := A7d.el_mono _ _ _ _ _ _ hE; have hlx := B08 ks[i] (d + 1) _ l u t l3 (hvk i (by omega)) hE; refine sP (B6 rfl rfl rfl (by omega)) rfl rfl ?_)
     refine sL (A3 rfl rfl (hate _) hl) rfl rfl ?_
     refine F0 ?_
     (refine E5 rfl (ih ks[i] (List.getElem_mem (by omega)) (d + 1) _ l u t l3 Gi px nx cxx _ hE (hvk i (by omega)) (by omega) hcvX hxX hre (by omega) (by omega)) rfl rfl (fun v G3 hle3 hh => ?_); obtain ⟨uc, tc, rfl, hru, hrt⟩ := hh; obtain ⟨v1, v2, v3, v4, v5, v6, v7, v8, v9, rfl⟩ := nine hru.len; obtain ⟨p3, c3, e3, rfl, _⟩ := hrt.open; have hlu9 := hru.len; have hou9 := hru.one)
     refine B7 ?_
     refine sE (A8 rfl) rfl (fun b110 => ?_)
     refine sE (A8 rfl) rfl (fun b111 => ?_)
     refine sS rfl rfl rfl hlu9 hou9 rfl ?_ (hu := by exact D4 hlu9.symm)
     refine E1 ?_
     (refine J5 (D2 rfl rfl rfl (by omega) (by unfold maxLen; omega) rfl) rfl ?_; rintro _ ⟨b122, rfl⟩)
     refine A1h rfl rfl rfl rfl rfl (fun _ _ => by repeat (first | exact Sw.here | apply Sw.there)) (O2 (by repeat first | exact mH | apply mT)) rfl (fun u hu => List.all_eq_true.1 hou9 u hu) (by unfold maxLen; omega) (by omega) rfl (fun pn' cn' => ?_)
     refine D0 ?_
     (refine J5 (D2 rfl rfl rfl (by omega) (by unfold maxLen; omega) rfl) rfl ?_; rintro _ ⟨b132, rfl⟩)
     refine A1h rfl rfl rfl rfl rfl (fun _ _ => by repeat (first | exact Sw.here | apply Sw.there)) (O2 (by repeat first | exact mH | apply mT)) rfl (by simp [Value.oneCell']) (by unfold maxLen; omega) (by omega) rfl (fun pm' cm' => ?_)
     refine I8 ?_
     refine sP (J6 rfl rfl (by omega) (by omega)) rfl rfl ?_
     refine A5 ?_
     refine K3 (i + 1, (pn', cn', us ++ [u], es' ++ [[v1, v2, v3, v4, v5, v6, v7, v8, v9]]), (pm', cm', ts ++ [t], ess ++ [[.int .i64 t.k, .slice p3 t.ks.length c3]]), l3, G3) ?_ ?_ ?_
     ·(simp only [J9]; exact E2)
     ·(dsimp only; exact ⟨by omega, hle.trans hle3, by simp [hlu], E4.snoc (hst.mono hle3) hru, by simp [hlt], D5.snoc (hstt.mono hle3) hrt, A4h (by omega) hml hE, by omega, by omega⟩)
     ·(show ks.length - (i + 1) < ks.length - i; omega)
    ·refine J4 ?_
     (obtain rfl : i = ks.length := (by omega); rw [List.take_length] at hml hl2; rw [hEL] at hml; simp only [Option.some.injEq, Prod.mk.injEq] at hml; obtain ⟨rfl, rfl, rfl⟩ := hml; refine V0 (cs := ess.flatten) (by repeat (first | exact Pk.here | apply Pk.there)) (fun G4 hle4 hsl4 hno4 => ?_); have hstt4 := hstt.mono hle4; have hslT : E0 G4 pm ks.length cm 2 ess := E0.of hsl4 (by rw [hstt4.len, hlt]) hstt4.all (fun e he => (hstt4.each e he).2); have hW := B7r cx k nm num (.mk tk tks) (.mk fk fks) lb ks _ w _ G4 _ _ pm cm ess hmw hv2 (by rw [hlt]; exact har) (hr0.mono hle4) (by rw [hlt]; exact hslT) hstt4 (fun t ht => A2n (htv t ht)) (hmr.mono hle4); rw [hlt] at hW; refine E5 rfl hW rfl rfl (fun v G5 hle5 hh => ?_); obtain ⟨pw, cw, esw, rfl, hlw, hsw, hstw⟩ := hh; have hle45 := hle4.trans hle5; replace hty1 := hty1.mono hle45; replace hfr1 := hfr1.mono hle45; replace hmr := hmr.mono hle45; replace hst := hst.mono hle45; replace hslT := hslT.mono hle5; replace hstt := hstt.mono hle45; rcases Nat.eq_zero_or_pos ks.length with h0 | h0)
     ·refine E1 ?_
      refine C3 ?_
      (have h0' : ks.length = 0 := h0; refine K2 (fun (_ : Nat) => ⟨[(18, .int .i64 0), (17, .slice pw ks.length cw), (12, .slice pm ks.length cm), (2, .int .i64 (lA + 1)), (4, .pointer (some ⟨b3, 0, none⟩)), (6, .pointer (some ⟨b4, 0, none⟩)), (7, .pointer (some ⟨b5, 0, none⟩)), (9, .pointer (some ⟨b17, 0, none⟩)), (11, .pointer (some ⟨b26, 0, none⟩))], [.blk b26 [.int .i64 k, .string nm, .int .i64 num, .int .i64 tk, .slice q1 tks.length c1, .int .i64 fk, .slice q2 fks.length c2, .int .i64 lb, .slice pn ks.length cn], .slc pn cn 28 9 ks.length es'.flatten, .blk b17 [.int .i64 t9.k, .slice p1 t9.ks.length d1], .blk b5 [.int .i64 0, .slice none 0 0], .blk b4 [.int .i64 0, .string ⟨⟨[]⟩⟩, .int .i64 0, .int .i64 0, .slice none 0 0, .int .i64 0, .slice none 0 0, .int .i64 0, .slice none 0 0], .blk b3 [.int .i64 k, .string nm, .int .i64 num, .int .i64 tk, .slice pt tks.length ct, .int .i64 fk, .slice pf fks.length cf, .int .i64 lb, .slice q ks.length cq]], G5⟩) (fun _ => True) (fun i => i) 0 ?_ ?_ ?_)
      ·exact E2
      ·trivial
      ·(rintro (i0 : Nat) _)
       refine B0 ?_
       refine sP (A2t rfl rfl (by omega)) rfl rfl ?_
       refine J4 ?_
       refine sP (I7 rfl rfl (by omega)) rfl rfl ?_
       refine B0 ?_
       refine D8 D9 rfl ?_
       refine L3 (i := 0) (l' := [tt,ff,ff,ff,ff,ff]) rfl D3 (A6 rfl rfl) rfl (by kernel_rfl) rfl rfl ?_
       refine aL 1 rfl (A6 rfl rfl) rfl ?_
       refine aP 2 rfl (qM rfl) rfl ?_
       refine A4 3 ?_
       refine oS rfl rfl rfl rfl rfl rfl rfl rfl ?_
       refine A4 4 ?_
       refine oS rfl rfl rfl rfl rfl rfl rfl rfl ?_
       refine aP 5 rfl (qA rfl) rfl ?_
       refine A5 ?_
       (refine H3 (cs := es'.flatten) (by repeat (first | exact Pk.here | apply Pk.there)) (fun G8 hle8 hsl8 hno8 => ?_); have hst8 := hst.mono hle8)
       refine tT ?_
       refine D1 (rC rfl (A6 rfl rfl)) (rC rfl (A6 rfl rfl)) (rT rfl) ?_
       (have hu9 : usA = [] := List.length_eq_zero_iff.1 (by omega); have hne : k ≠ 13 := (fun h => by have := hk13 h; omega); have hz : H2 usA tsA w lA = (usA, lA) := (by rw [hu9]; simp [H2]); rw [if_neg hne, hz] at hu0; subst hu0; rw [hz]; exact ⟨rfl, _, _, rfl, B3.put hk hnum hlb (hty1.mono hle8) (hfr1.mono hle8) hlA1.symm (E0.of hsl8 (by rw [hst8.len, hlA1]) hst8.all (fun e he => (hst8.each e he).2)) hst8, hmr.mono hle8⟩)
     ·(refine A38 (cs := es'.flatten) (by repeat (first | exact Pk.here | apply Pk.there)) h0 (fun bc C hpe hnc hcm => ?_); subst hpe; refine sQ (qA rfl) rfl ?_)
      refine D0 ?_
      refine C3 ?_
      (have hLoop2 := hlw; refine K2 (fun (x : Nat × List (List Value) × IM) => ⟨[(18, .int .i64 x.1), (17, .slice pw ks.length cw), (12, .slice pm ks.length cm), (2, .int .i64 ((H2 usA tsA ((S6 w tsA).take x.1) lA).2 + 1)), (4, .pointer (some ⟨b3, 0, none⟩)), (6, .pointer (some ⟨b4, 0, none⟩)), (7, .pointer (some ⟨b5, 0, none⟩)), (9, .pointer (some ⟨b17, 0, none⟩)), (11, .pointer (some ⟨b26, 0, none⟩))], [.blk b26 [.int .i64 k, .string nm, .int .i64 num, .int .i64 tk, .slice q1 tks.length c1, .int .i64 fk, .slice q2 fks.length c2, .int .i64 lb, .slice (some ⟨bc, 0, none⟩) ks.length cn], .blk bc (x.2.1.flatten ++ C), .blk b17 [.int .i64 t9.k, .slice p1 t9.ks.length d1], .blk b5 [.int .i64 0, .slice none 0 0], .blk b4 [.int .i64 0, .string ⟨⟨[]⟩⟩, .int .i64 0, .int .i64 0, .slice none 0 0, .int .i64 0, .slice none 0 0, .int .i64 0, .slice none 0 0], .blk b3 [.int .i64 k, .string nm, .int .i64 num, .int .i64 tk, .slice pt tks.length ct, .int .i64 fk, .slice pf fks.length cf, .int .i64 lb, .slice q ks.length cq]], x.2.2⟩) (fun x => x.1 ≤ ks.length ∧ C6 G5 x.2.2 ∧ E4 x.2.2 (H2 usA tsA ((S6 w tsA).take x.1) lA).1 x.2.1) (fun x => ks.length - x.1) (0, es', G5) ?_ ?_ ?_)
      ·(simp only [List.take_zero, V4]; exact (M0 (by repeat (first | exact E7.nil | refine E7.cons rfl ?_)) (by repeat (first | exact A0.refl | exact A0.nil | refine A0.cons (by repeat (first | exact Pk.here | apply Pk.there)) ?_ | apply A0.drop))))
      ·(exact ⟨Nat.zero_le _, C6.refl _, by simp only [List.take_zero, V4]; exact hst⟩)
      ·(rintro ⟨j, es2, G6⟩ ⟨hj, hle6, hst2⟩; simp only [] at hj hle6 hst2 ⊢; replace hty1 := hty1.mono hle6; replace hfr1 := hfr1.mono hle6; replace hmr := hmr.mono hle6; replace hslT := hslT.mono hle6; replace hstt := hstt.mono hle6; replace hsw := hsw.mono hle6; replace hstw := hstw.mono hle6; have hle2s := hst2.len; rw [A1W] at hle2s; have hall2 := hst2.all)
       refine B0 ?_
       refine sB (J8 rfl rfl) rfl rfl (fun h242 => ?_) (fun h242 => ?_)
       ·refine B0 ?_
        refine C3 ?_
        (have hjw : j < (S6 w tsA).length := (by omega); obtain ⟨bt, ot, qt, dt, hpt, hatt, hrtt, hgt⟩ := hslT.kidTy hstt (i := j) (by omega) (by omega); obtain ⟨bw, ow, qw, dw, hpw, hatw, hrtw, hgw⟩ := (show E0 G6 pw (S6 w tsA).length cw 2 esw from by rw [hlw]; exact hsw).kidTy hstw (i := j) (by omega) (by omega); cases hpt; cases hpw; obtain ⟨m1, m2, _⟩ := A4i usA tsA (S6 w tsA) lA j hjw (by omega) (by omega); obtain ⟨m3, m4⟩ := B0n (us := usA) (h := tsA) (w := S6 w tsA) (l := lA) hjw (by omega) (by omega); obtain ⟨hE1, hE2⟩ := hst2.at2 (i := j) (by omega) (by omega); rw [m2] at hE2; have hE3 := hE2.len; have hcj := A1p usA tsA ((S6 w tsA).take j) lA; refine D8 D9 rfl ?_)
        refine I6 (i := 0) (l' := [tt,ff,ff,ff,ff,ff,ff,ff,ff,ff,ff,ff,ff,ff,ff,ff,ff,ff,ff,ff,ff,ff,ff,ff]) rfl D3 (B8 rfl) rfl (by kernel_rfl) rfl rfl ?_
        refine aL 1 rfl (C4 rfl rfl) rfl ?_
        refine aP 2 rfl (qM rfl) rfl ?_
        refine aP 3 rfl (B8 rfl) rfl ?_
        refine aL 4 rfl (C4 rfl rfl) rfl ?_
        refine aP 5 rfl (qM rfl) rfl ?_
        refine aP 6 rfl (B6 (j := j) rfl rfl rfl (by omega)) rfl ?_
        refine aL 7 rfl (A3 rfl rfl (A5d (es := es2) (by repeat first | exact mH | apply mT) (by omega) hall2) hE3) rfl ?_
        refine aP 8 rfl (qM rfl) rfl ?_
        refine aP 9 rfl (qM rfl) rfl ?_
        refine aP 10 rfl (B6 (j := j) rfl rfl rfl (by omega)) rfl ?_
        refine aL 11 rfl (A3 rfl rfl (hatt _) rfl) rfl ?_
        refine aP 12 rfl (qM rfl) rfl ?_
        refine aP 13 rfl (qM rfl) rfl ?_
        refine aP 14 rfl (B6 (j := j) rfl rfl rfl (by omega)) rfl ?_
        refine aL 15 rfl (A3 rfl rfl (hatw _) rfl) rfl ?_
        refine aP 16 rfl (qM rfl) rfl ?_
        refine A4 17 ?_
        (have hwsm := (A2n (hWV _ (List.getElem_mem (show j < (S6 w tsA).length by omega)))).small; refine H4 rfl rfl (B7n usA[j] tsA[j] (S6 w tsA)[j] _ _ _ _ _ (by omega) hE2 hrtt hrtw (A2n (htv _ (List.getElem_mem (by omega)))).small hwsm) rfl rfl rfl (fun v G7 hle7 hh => ?_); obtain ⟨uc, rfl, hru⟩ := hh; rw [show (if M5 tsA[j] (S6 w tsA)[j] = true then (H2 usA tsA ((S6 w tsA).take j) lA).2 + 1 else (H2 usA tsA ((S6 w tsA).take j) lA).2 + 1 + 1) = (H2 usA tsA ((S6 w tsA).take (j + 1)) lA).2 + 1 from by rw [m4]; split <;> rfl]; have hlu9 := hru.len; have hou9 := hru.one)
        refine aP 18 rfl (qM rfl) rfl ?_
        refine aP 19 rfl (pX rfl rfl) rfl ?_
        refine aP 21 rfl (B6 (j := j) rfl rfl rfl (by omega)) rfl ?_
        refine aP 20 rfl (pX rfl rfl) rfl ?_
        refine A4 22 ?_
        refine R9 rfl rfl rfl rfl hlu9 hou9 rfl rfl (by kernel_rfl) (by repeat first | exact Sw.here | apply Sw.there) (by exact A39 (by omega) hall2 hlu9) ?_
        refine aP 23 rfl (qA rfl) rfl ?_
        refine B2 ?_
        refine sP (J6 rfl rfl (by omega) (by omega)) rfl rfl ?_
        refine A5 ?_
        refine K3 (j + 1, es2.set j uc, G7) ?_ ?_ ?_
        ·(simp only [List.take_zero, V4]; exact (M0 (by repeat (first | exact E7.nil | refine E7.cons rfl ?_)) (by repeat (first | exact A0.refl | exact A0.nil | refine A0.cons (by repeat (first | exact Pk.here | apply Pk.there)) ?_ | apply A0.drop))))
        ·(dsimp only; exact ⟨by omega, hle6.trans hle7, by rw [m3]; exact E4.set (hst2.mono hle7) hru⟩)
        ·(show ks.length - (j + 1) < ks.length - j; omega)
       ·refine J4 ?_
        refine sB (qE rfl rfl) rfl rfl (fun h302 => ?_) (fun h302 => ?_)
        ·refine B7 ?_
         (have hq13 : k = 13 := (by omega); have hl13 := hk13 hq13; have hjw : j = (S6 w tsA).length := (by omega); rw [hjw, List.take_length, A5G] at hst2; have hm0 := A1W usA tsA w lA; obtain ⟨hE1, hE2⟩ := hst2.at2 (i := 0) (by omega) (by omega); have hE3 := hE2.len; have hE4 := hE2.one; refine D8 D9 rfl ?_)
         refine I6 (i := 0) (l' := [tt,ff,ff,ff,ff,ff,ff,ff,ff]) rfl D3 (B8 rfl) rfl (by kernel_rfl) rfl rfl ?_
         refine aL 1 rfl (C4 rfl rfl) rfl ?_
         refine aP 2 rfl (B6 (j := 0) rfl rfl rfl (by omega)) rfl ?_
         refine aL 3 rfl (A3 rfl rfl (A5d (es := es2) (by repeat first | exact mH | apply mT) (by omega) hall2) hE3) rfl ?_
         refine aL 4 rfl (A6 rfl rfl) rfl ?_
         refine aP 5 rfl (qM rfl) rfl ?_
         refine A4 6 ?_
         refine oS rfl rfl rfl rfl hE3 hE4 rfl rfl ?_ (hu := by exact D4 hE3.symm)
         refine A4 7 ?_
         refine oS rfl rfl rfl rfl rfl rfl rfl rfl ?_
         refine aP 8 rfl (qA rfl) rfl ?_
         refine A5 ?_
         (refine A2y (bs := [(bc, es2.flatten ++ C)]) (Pk.perm (by repeat (first | exact Pk.here | apply Pk.there))) (fun hn9 hd9 hle9 => ?_))
         refine A5 ?_
         refine D1 (rC rfl (A3 rfl rfl (B1 (by repeat first | exact mH | apply mT)) hE3)) (rC rfl (A6 rfl rfl)) (rT rfl) ?_
         (rw [if_pos hq13, B1l (by omega)] at hu0; subst hu0; rw [hjw, List.take_length, A5G]; exact ⟨rfl, _, _, rfl, hE2.mono hle9, hmr.mono hle9⟩)
        ·refine B0 ?_
         refine D8 D9 rfl ?_
         refine L3 (i := 0) (l' := [tt,ff,ff,ff,ff,ff]) rfl D3 (A6 rfl rfl) rfl (by kernel_rfl) rfl rfl ?_
         refine aL 1 rfl (A6 rfl rfl) rfl ?_
         refine aP 2 rfl (qM rfl) rfl ?_
         refine A4 3 ?_
         refine oS rfl rfl rfl rfl rfl rfl rfl rfl ?_
         refine A4 4 ?_
         refine oS rfl rfl rfl rfl rfl rfl rfl rfl ?_
         refine aP 5 rfl (qA rfl) rfl ?_
         refine A5 ?_
         (refine A2y (bs := [(bc, es2.flatten ++ C)]) (Pk.perm (by repeat (first | exact Pk.here | apply Pk.there))) (fun hn9 hd9 hle9 => ?_))
         refine tT ?_
         refine D1 (rC rfl (A6 rfl rfl)) (rC rfl (A6 rfl rfl)) (rT rfl) ?_
         (have hjw : j = (S6 w tsA).length := (by omega); rw [hjw, List.take_length, A5G] at hst2; have hst9 := hst2.mono hle9; have hm0 := A1W usA tsA w lA; rw [if_neg (by omega)] at hu0; subst hu0; rw [hjw, List.take_length, A5G]; exact ⟨rfl, _, _, rfl, B3.put hk hnum hlb (hty1.mono hle9) (hfr1.mono hle9) (by rw [hm0, hlA1]) (E0.of (Sl.of_blk (A := []) (by rw [A0T hst9.all, hst9.len, hm0, hlA1]) (by omega) hcm (Wi.in hn9 List.mem_cons_self)) (by rw [hst9.len, hm0, hlA1]) hst9.all (fun e he => (hst9.each e he).2)) hst9, hmr.mono hle9⟩)
theorem B7v (e : Tm) (G : IM) (cells : List Value) (hcnt : D6 e ≤ 4294967296) (hr : B3 G e cells) : Fn Tryz.prog 44 [.agg ⟨cells⟩] [] G (A1f (T7 e)) := by
 have hl := hr.len
 have hone := hr.one
 refine C2 Tryz.func44 rfl Tryz.ntmps44 Tryz.results44 rfl ?_
 intro w0
 refine A5 ?_
 refine sE (C7 rfl rfl) rfl (fun b3 => ?_)
 refine sE (A8 rfl) rfl (fun b4 => ?_)
 refine sE (A8 rfl) rfl (fun b5 => ?_)
 refine B2 ?_
 refine sL (A3 rfl rfl (B1 (by repeat first | exact mH | apply mT)) (by assumption)) rfl rfl ?_
 focus (refine E5 rfl (A7C e _ _ (by omega) hr) rfl rfl (fun v G1 hle1 hh => ?_); obtain ⟨mc, mt, rfl, hmr, hmu⟩ := hh; obtain ⟨pt, ct, et, rfl, _⟩ := hmr.open; obtain ⟨r, hI⟩ : ∃ r, T7 e = r := ⟨_, rfl⟩; rcases r with _ | ⟨u, t⟩; (have hto : P1 e = none := by unfold P1; rw [hI]); rotate_left; (have hto : P1 e = some t := by unfold P1; rw [hI]); obtain ⟨hv, l3, hE⟩ := B7i hI; obtain ⟨hv1, hv2⟩ := (A0L e).1 hv; rotate_left; all_goals rw [hto]; all_goals simp only [Option.isSome])
 refine B9 ?_
 refine sE (A8 rfl) rfl (fun b16 => ?_)
 refine A06 ?_
 refine D1 (rC rfl (A6 rfl rfl)) (rC rfl (A6 rfl rfl)) (rT rfl) ?_
 (exact A1f.no (by first | exact hI | rfl) (P5 _) (O3 _ ⟨by omega, by omega⟩))
 refine B9 ?_
 refine sE (A8 rfl) rfl (fun b45 => ?_)
 refine K4 ?_
 refine sL (A3 rfl rfl (B1 (by repeat first | exact mH | apply mT)) (by assumption)) rfl rfl ?_
 (have hIn := B7u e 1 [] 0 u t l3 G1 none 0 0 cells hE hv1 (by omega) A3t (T4.nil _) (hr.mono hle1) (by omega) (by omega); refine E5 rfl hIn rfl rfl (fun v G2 hle2 hh => ?_); obtain ⟨cu, tc, rfl, hru, hrt⟩ := hh; obtain ⟨qt, dt, et2, rfl, _⟩ := hrt.open; have hlu := hru.len; have hou := hru.one)
 refine B7 ?_
 refine sE (A8 rfl) rfl (fun b68 => ?_)
 refine sE (A8 rfl) rfl (fun b69 => ?_)
 refine W7 rfl rfl rfl hlu hou rfl (by repeat first | exact Sw.here | apply Sw.there) (by exact D4 (by first | exact hlu.symm | omega)) ?_
 refine B2 ?_
 refine D8 D9 rfl ?_
 refine L3 (i := 0) (l' := [tt,ff,ff,ff,ff]) rfl D3 (A3 rfl rfl (B1 (by repeat first | exact mH | apply mT)) hlu) rfl (by kernel_rfl) rfl rfl ?_
 refine aL 1 rfl (A6 rfl rfl) rfl ?_
 refine A4 2 ?_
 refine oS rfl rfl rfl rfl hlu hou rfl rfl ?_ (hu := by exact D4 hlu.symm)
 refine A4 3 ?_
 refine oS rfl rfl rfl rfl rfl rfl rfl rfl ?_
 refine aP 4 rfl (qA rfl) rfl ?_
 refine B9 ?_
 refine D1 (rC rfl (A3 rfl rfl (B1 (by repeat first | exact mH | apply mT)) hlu)) (rC rfl (A6 rfl rfl)) (rT rfl) ?_
 (exact A1f.yes (by first | exact hI | rfl) hru hrt)
theorem A7E {k : Int} {ty fr ty' fr' : Ty} {lb lb' : Int} {ks : List Tm} (h : k ≠ 14) : N1 k ty fr lb ks = N1 k ty' fr' lb' ks := by
 unfold N1
 rw [if_neg h, if_neg h]
theorem B7w (k : Int) (nm : ByteArray) (num : Int) (ty fr : Ty) (lb : Int) (ks : List Tm) (G : IM) (cells : List Value) (h7 : k = 1 ∨ k = 6 ∨ k = 7 ∨ k = 8 ∨ k = 11 ∨ k = 12 ∨ k = 14) (hc : cv (.mk k nm num ty fr lb ks)) (hr : B3 G (.mk k nm num ty fr lb ks) cells) : Fn Tryz.prog 146 [.agg ⟨cells⟩] [] G (L8 (N1 k ty fr lb ks)) := by
 have hr0 := hr
 obtain ⟨hN, hkk⟩ := hc.node
 have hops := hN.ops
 have hL2 : k = 6 ∨ k = 7 ∨ k = 8 → ∃ a b, ks = [a, b] := fun h => ks2 (by
  rcases h with rfl | rfl | rfl
  ·have : D7 6 = 2 := rfl; omega
  ·have : D7 7 = 2 := rfl; omega
  ·have : D7 8 = 2 := rfl; omega)
 have hL1 : k = 11 ∨ k = 12 ∨ k = 14 → ∃ a, ks = [a] := fun h => Z6 (by
  rcases h with rfl | rfl | rfl
  ·have : D7 11 = 1 := rfl; omega
  ·have : D7 12 = 1 := rfl; omega
  ·have : D7 14 = 1 := rfl; omega)
 have hC : k = 14 → Fn Tryz.prog 176 [.agg ⟨cells⟩] [] G (L8 (N1 k ty fr lb ks)) := by
  rintro rfl
  obtain ⟨a, rfl⟩ := hL1 (by omega)
  exact B7g a nm num ty fr lb G cells hc hr
 have hA : k = 6 → ∀ a b, ks = [a, b] → N1 k ty fr lb ks = N1 6 B4 B4 0 [a, b] := by rintro rfl a b rfl; exact A7E (by decide)
 have hB : k = 7 ∨ k = 8 → ∀ a b, ks = [a, b] → N1 k ty fr lb ks = N1 k B4 B4 0 [a, b] := by rintro h a b rfl; exact A7E (by omega)
 have hD : k = 11 ∨ k = 12 → ∀ a, ks = [a] → N1 k ty fr lb ks = N1 k B4 B4 0 [a] := by rintro h a rfl; exact A7E (by omega)
 have hO : k = 1 → N1 k ty fr lb ks = Q2 := by rintro rfl; rfl
 generalize N1 k ty fr lb ks = R at hC hA hB hD hO ⊢
 obtain ⟨tk, tks⟩ := ty
 obtain ⟨fk, fks⟩ := fr
 obtain ⟨pt, ct, pf, cf, p, c, es, rfl, hk, hnum, hlb, hty, hfr, hsl, hkl⟩ := hr.open9
 refine C2 Tryz.func146 rfl Tryz.ntmps146 Tryz.results146 rfl ?_
 intro w0
 refine A5 ?_
 refine sE (C7 rfl rfl) rfl (fun b3 => ?_)
 refine sE (A8 rfl) rfl (fun b4 => ?_)
 refine I8 ?_
 refine C3 (tS (tR (sB (qE rfl rfl) rfl rfl (fun h19 => ?_) (fun h19 => ?_))))
 refine B2 ?_
 (have hq : k = 6 := (by assumption); obtain ⟨x, y, hxy⟩ := hL2 (by omega); have hAq := hA hq x y hxy; subst hxy; obtain ⟨bx, ox, e0, rfl, hl0, hat0, hre0, hgb0⟩ := hsl.kidTm hkl (i := 0) (by simp) (by simp); obtain ⟨_, _, e1, hp1, hl1, hat1, hre1, hgb1⟩ := hsl.kidTm hkl (i := 1) (by simp) (by simp); cases hp1; have hF := B7f x y G e0 e1 (hkk x (by simp)) (A2L y (hkk y (by simp))) hre0 hre1; rw [← hAq] at hF; refine D8 D9 rfl ?_)
 refine I6 (i := 0) (l' := [tt,ff,ff,ff,ff,ff,ff,ff,ff,ff,ff,ff,ff,ff,ff]) rfl D3 (B8 rfl) rfl (by kernel_rfl) rfl rfl ?_
 refine aL 1 rfl (C4 rfl rfl) rfl ?_
 refine aP 2 rfl (B6 (j := 0) rfl rfl rfl (by simp)) rfl ?_
 refine aL 3 rfl (A3 rfl rfl (hat0 _) hl0) rfl ?_
 refine aP 4 rfl (B8 rfl) rfl ?_
 refine aL 5 rfl (C4 rfl rfl) rfl ?_
 refine aP 6 rfl (B6 (j := 1) rfl rfl rfl (by simp)) rfl ?_
 refine aL 7 rfl (A3 rfl rfl (hat1 _) hl1) rfl ?_
 refine A4 8 ?_
 (refine H4 rfl rfl hF rfl rfl rfl (fun v G1 hle1 hh => ?_); obtain ⟨wc, rfl, hrw⟩ := hh; have hwl := hrw.len; have hwo := hrw.one)
 refine aP 9 rfl (pX rfl rfl) rfl ?_
 refine aP 10 rfl (pX rfl rfl) rfl ?_
 refine aP 11 rfl (pX rfl rfl) rfl ?_
 refine A4 12 ?_
 (refine oS rfl rfl rfl rfl hwl hwo rfl rfl ?_ (hu := by exact D4 hwl.symm))
 refine aP 13 rfl (qA rfl) rfl ?_
 refine aP 14 rfl (qA rfl) rfl ?_
 refine B2 ?_
 refine D1 (rC rfl (A3 rfl rfl (B1 (by repeat first | exact mH | apply mT)) hwl)) (rT rfl) (rT rfl) ?_
 (exact ⟨rfl, _, rfl, hrw⟩)
 refine B5 ?_
 refine sB (qE rfl rfl) rfl rfl (fun h57 => ?_) (fun h57 => ?_)
 refine D0 ?_
 (have hq : k = 7 ∨ k = 8 := (by omega); obtain ⟨x, y, hxy⟩ := hL2 (by omega); have hBq := hB hq x y hxy; subst hxy; obtain ⟨bx, ox, e0, rfl, hl0, hat0, hre0, hgb0⟩ := hsl.kidTm hkl (i := 0) (by simp) (by simp); obtain ⟨_, _, e1, hp1, hl1, hat1, hre1, hgb1⟩ := hsl.kidTm hkl (i := 1) (by simp) (by simp); cases hp1; have hF := B1I k x y G e0 e1 hq (by have := (hkk x (by simp)); cases x; exact this.node.1.num0) (by have := (hkk y (by simp)); cases y; exact this.node.1.num0) hre0 hre1; rw [← hBq] at hF; refine D8 D9 rfl ?_)
 refine I6 (i := 0) (l' := [tt,ff,ff,ff,ff,ff,ff,ff,ff,ff,ff,ff,ff,ff,ff,ff,ff]) rfl D3 (B8 rfl) rfl (by kernel_rfl) rfl rfl ?_
 refine aL 1 rfl (C4 rfl rfl) rfl ?_
 refine aP 2 rfl (B8 rfl) rfl ?_
 refine aL 3 rfl (C4 rfl rfl) rfl ?_
 refine aP 4 rfl (B6 (j := 0) rfl rfl rfl (by simp)) rfl ?_
 refine aL 5 rfl (A3 rfl rfl (hat0 _) hl0) rfl ?_
 refine aP 6 rfl (B8 rfl) rfl ?_
 refine aL 7 rfl (C4 rfl rfl) rfl ?_
 refine aP 8 rfl (B6 (j := 1) rfl rfl rfl (by simp)) rfl ?_
 refine aL 9 rfl (A3 rfl rfl (hat1 _) hl1) rfl ?_
 refine A4 10 ?_
 (refine H4 rfl rfl hF rfl rfl rfl (fun v G1 hle1 hh => ?_); obtain ⟨wc, rfl, hrw⟩ := hh; have hwl := hrw.len; have hwo := hrw.one)
 refine aP 11 rfl (pX rfl rfl) rfl ?_
 refine aP 12 rfl (pX rfl rfl) rfl ?_
 refine aP 13 rfl (pX rfl rfl) rfl ?_
 refine A4 14 ?_
 (refine oS rfl rfl rfl rfl hwl hwo rfl rfl ?_ (hu := by exact D4 hwl.symm))
 refine aP 15 rfl (qA rfl) rfl ?_
 refine aP 16 rfl (qA rfl) rfl ?_
 refine B2 ?_
 refine D1 (rC rfl (A3 rfl rfl (B1 (by repeat first | exact mH | apply mT)) hwl)) (rT rfl) (rT rfl) ?_
 (exact ⟨rfl, _, rfl, hrw⟩)
 refine B2 ?_
 refine sB (qE rfl rfl) rfl rfl (fun h98 => ?_) (fun h98 => ?_)
 refine B2 ?_
 (have hq : k = 7 ∨ k = 8 := (by omega); obtain ⟨x, y, hxy⟩ := hL2 (by omega); have hBq := hB hq x y hxy; subst hxy; obtain ⟨bx, ox, e0, rfl, hl0, hat0, hre0, hgb0⟩ := hsl.kidTm hkl (i := 0) (by simp) (by simp); obtain ⟨_, _, e1, hp1, hl1, hat1, hre1, hgb1⟩ := hsl.kidTm hkl (i := 1) (by simp) (by simp); cases hp1; have hF := B1I k x y G e0 e1 hq (by have := (hkk x (by simp)); cases x; exact this.node.1.num0) (by have := (hkk y (by simp)); cases y; exact this.node.1.num0) hre0 hre1; rw [← hBq] at hF; refine D8 D9 rfl ?_)
 refine I6 (i := 0) (l' := [tt,ff,ff,ff,ff,ff,ff,ff,ff,ff,ff,ff,ff,ff,ff,ff,ff]) rfl D3 (B8 rfl) rfl (by kernel_rfl) rfl rfl ?_
 refine aL 1 rfl (C4 rfl rfl) rfl ?_
 refine aP 2 rfl (B8 rfl) rfl ?_
 refine aL 3 rfl (C4 rfl rfl) rfl ?_
 refine aP 4 rfl (B6 (j := 0) rfl rfl rfl (by simp)) rfl ?_
 refine aL 5 rfl (A3 rfl rfl (hat0 _) hl0) rfl ?_
 refine aP 6 rfl (B8 rfl) rfl ?_
 refine aL 7 rfl (C4 rfl rfl) rfl ?_
 refine aP 8 rfl (B6 (j := 1) rfl rfl rfl (by simp)) rfl ?_
 refine aL 9 rfl (A3 rfl rfl (hat1 _) hl1) rfl ?_
 refine A4 10 ?_
 (refine H4 rfl rfl hF rfl rfl rfl (fun v G1 hle1 hh => ?_); obtain ⟨wc, rfl, hrw⟩ := hh; have hwl := hrw.len; have hwo := hrw.one)
 refine aP 11 rfl (pX rfl rfl) rfl ?_
 refine aP 12 rfl (pX rfl rfl) rfl ?_
 refine aP 13 rfl (pX rfl rfl) rfl ?_
 refine A4 14 ?_
 (refine oS rfl rfl rfl rfl hwl hwo rfl rfl ?_ (hu := by exact D4 hwl.symm))
 refine aP 15 rfl (qA rfl) rfl ?_
 refine aP 16 rfl (qA rfl) rfl ?_
 refine B2 ?_
 refine D1 (rC rfl (A3 rfl rfl (B1 (by repeat first | exact mH | apply mT)) hwl)) (rT rfl) (rT rfl) ?_
 (exact ⟨rfl, _, rfl, hrw⟩)
 refine B5 ?_
 refine sB (qE rfl rfl) rfl rfl (fun h138 => ?_) (fun h138 => ?_)
 refine D0 ?_
 (have hq : k = 11 ∨ k = 12 := (by omega); obtain ⟨x, hxy⟩ := hL1 (by omega); have hDq := hD hq x hxy; subst hxy; obtain ⟨bx, ox, e0, rfl, hl0, hat0, hre0, hgb0⟩ := hsl.kidTm hkl (i := 0) (by simp) (by simp); have hF := B1J k x G e0 hq (hkk x (by simp)) hre0; rw [← hDq] at hF; refine D8 D9 rfl ?_)
 refine I6 (i := 0) (l' := [tt,ff,ff,ff,ff,ff,ff,ff,ff,ff,ff,ff,ff]) rfl D3 (B8 rfl) rfl (by kernel_rfl) rfl rfl ?_
 refine aL 1 rfl (C4 rfl rfl) rfl ?_
 refine aP 2 rfl (B8 rfl) rfl ?_
 refine aL 3 rfl (C4 rfl rfl) rfl ?_
 refine aP 4 rfl (B6 (j := 0) rfl rfl rfl (by simp)) rfl ?_
 refine aL 5 rfl (A3 rfl rfl (hat0 _) hl0) rfl ?_
 refine A4 6 ?_
 (refine H4 rfl rfl hF rfl rfl rfl (fun v G1 hle1 hh => ?_); obtain ⟨wc, rfl, hrw⟩ := hh; have hwl := hrw.len; have hwo := hrw.one)
 refine aP 7 rfl (pX rfl rfl) rfl ?_
 refine aP 8 rfl (pX rfl rfl) rfl ?_
 refine aP 9 rfl (pX rfl rfl) rfl ?_
 refine A4 10 ?_
 (refine oS rfl rfl rfl rfl hwl hwo rfl rfl ?_ (hu := by exact D4 hwl.symm))
 refine aP 11 rfl (qA rfl) rfl ?_
 refine aP 12 rfl (qA rfl) rfl ?_
 refine B2 ?_
 refine D1 (rC rfl (A3 rfl rfl (B1 (by repeat first | exact mH | apply mT)) hwl)) (rT rfl) (rT rfl) ?_
 (exact ⟨rfl, _, rfl, hrw⟩)
 refine B2 ?_
 refine sB (qE rfl rfl) rfl rfl (fun h175 => ?_) (fun h175 => ?_)
 refine B2 ?_
 (have hq : k = 11 ∨ k = 12 := (by omega); obtain ⟨x, hxy⟩ := hL1 (by omega); have hDq := hD hq x hxy; subst hxy; obtain ⟨bx, ox, e0, rfl, hl0, hat0, hre0, hgb0⟩ := hsl.kidTm hkl (i := 0) (by simp) (by simp); have hF := B1J k x G e0 hq (hkk x (by simp)) hre0; rw [← hDq] at hF; refine D8 D9 rfl ?_)
 refine I6 (i := 0) (l' := [tt,ff,ff,ff,ff,ff,ff,ff,ff,ff,ff,ff,ff]) rfl D3 (B8 rfl) rfl (by kernel_rfl) rfl rfl ?_
 refine aL 1 rfl (C4 rfl rfl) rfl ?_
 refine aP 2 rfl (B8 rfl) rfl ?_
 refine aL 3 rfl (C4 rfl rfl) rfl ?_
 refine aP 4 rfl (B6 (j := 0) rfl rfl rfl (by simp)) rfl ?_
 refine aL 5 rfl (A3 rfl rfl (hat0 _) hl0) rfl ?_
 refine A4 6 ?_
 (refine H4 rfl rfl hF rfl rfl rfl (fun v G1 hle1 hh => ?_); obtain ⟨wc, rfl, hrw⟩ := hh; have hwl := hrw.len; have hwo := hrw.one)
 refine aP 7 rfl (pX rfl rfl) rfl ?_
 refine aP 8 rfl (pX rfl rfl) rfl ?_
 refine aP 9 rfl (pX rfl rfl) rfl ?_
 refine A4 10 ?_
 (refine oS rfl rfl rfl rfl hwl hwo rfl rfl ?_ (hu := by exact D4 hwl.symm))
 refine aP 11 rfl (qA rfl) rfl ?_
 refine aP 12 rfl (qA rfl) rfl ?_
 refine B2 ?_
 refine D1 (rC rfl (A3 rfl rfl (B1 (by repeat first | exact mH | apply mT)) hwl)) (rT rfl) (rT rfl) ?_
 (exact ⟨rfl, _, rfl, hrw⟩)
 refine B0 ?_
 refine sB (qE rfl rfl) rfl rfl (fun h210 => ?_) (fun h210 => ?_)
 refine B5 ?_
 (refine E5 rfl (hC (by omega)) rfl rfl (fun v G1 hle1 hh => ?_); obtain ⟨wc, rfl, hrw⟩ := hh; have hwl := hrw.len; have hwo := hrw.one)
 refine B9 ?_
 refine sS rfl rfl rfl hwl hwo rfl ?_ (hu := by exact D4 hwl.symm)
 refine B5 ?_
 refine D1 (rC rfl (A3 rfl rfl (B1 (by repeat first | exact mH | apply mT)) hwl)) (rT rfl) (rT rfl) ?_
 (exact ⟨rfl, _, rfl, hrw⟩)
 refine K4 ?_
 refine D1 (rC rfl (A6 rfl rfl)) (rT rfl) (rT rfl) ?_
 (rw [hO (by omega)]; exact L8.mk rfl (P5 _))
theorem B7x {k : Int} {nm : ByteArray} {num : Int} {ty fr : Ty} {lb : Int} {ks : List Tm} {i : Nat} (hi : i < ks.length) (hn : i < (if k = 9 then 1 else ks.length)) (hj : ∀ j, j < i → (h : j < ks.length) → E3 ks[j] = true) (hv : E3 ks[i] = false) :
  H0 (.mk k nm num ty fr lb ks) = if (H0 ks[i]).2.1 = 1 then (.mk k nm num ty fr lb (ks.set i (H0 ks[i]).1), 1, 0) else (I3, (H0 ks[i]).2.1, (H0 ks[i]).2.2) := by
 rw [H0, A62 _ ks i hi hn hj hv]
theorem B7y {k : Int} {nm : ByteArray} {num : Int} {ty fr : Ty} {lb : Int} {ks : List Tm} (h : ∀ i, i < (if k = 9 then 1 else ks.length) → (hl : i < ks.length) → E3 ks[i] = true) : H0 (.mk k nm num ty fr lb ks) = N1 k ty fr lb ks := by
 rw [H0, A5v _ _ h]
theorem B7z {ty fr : Ty} {lb : Int} {a b c : Tm} : N1 9 ty fr lb [a, b, c] = (if a.k = 3 then (b, 1, 0) else if a.k = 4 then (c, 1, 0) else Q2) := rfl
theorem B7A : ∀ (t : Tm) (G : IM) (cells : List Value), cv t → E3 t = false → B3 G t cells → Fn Tryz.prog 102 [.agg ⟨cells⟩] [] G (L8 (H0 t)) := by
 refine Tm.ind fun k nm num ty fr lb ks ih G cells hc hv hr => ?_
 have hr0 := hr
 have hRl := hr.len
 have hN := hc.node.1
 have hkk := hc.node.2
 have hops := hN.ops
 have hle3 := A1m k
 have hkd := @A63 k nm num ty fr lb ks hc hv
 have hkX := fun (i : Nat) => @B7x k nm num ty fr lb ks i
 have hrX := @B7y k nm num ty fr lb ks
 have hRd := fun h7 => B7w k nm num ty fr lb ks G cells h7 hc hr
 obtain ⟨C, hC⟩ : ∃ C : Nat, (if k = 9 then 1 else ks.length : Nat) = C := ⟨_, rfl⟩
 rw [hC] at hkd hrX
 have hkX' := fun (i : Nat) (hi : i < ks.length) (hn : i < C) => hkX i hi (by rw [hC]; exact hn)
 have h93 : k = 9 → ks.length = 3 := fun h => by rw [h] at hops; have : D7 9 = 3 := rfl; omega
 have hC1 : k = 9 → C = 1 := fun h => by rw [← hC, if_pos h]
 have hC2 : k ≠ 9 → C = ks.length := fun h => by rw [← hC, if_neg h]
 have hC9 : C ≤ ks.length := by by_cases h9 : k = 9; have := h93 h9; have := hC1 h9; omega; have := hC2 h9; omega
 generalize H0 (.mk k nm num ty fr lb ks) = R at hkX hkX' hrX ⊢
 obtain ⟨tk, tks⟩ := ty
 obtain ⟨fk, fks⟩ := fr
 obtain ⟨pt, ct, pf, cf, p, c, es, rfl, hk, hnum, hlb, hty, hfr, hsl, hkl⟩ := hr.open9
 have hn := hsl.le
 have hnc := hsl.sl.2.1
 have hes1 : ∀ u ∈ es.flatten, u.oneCell' = true := by
  intro u hu
  obtain ⟨e, he, hue⟩ := List.mem_flatten.1 hu
  exact List.all_eq_true.1 (hsl.one e he) u hue
 refine C2 Tryz.func102 rfl Tryz.ntmps102 Tryz.results102 rfl ?_
 intro w0
 refine A5 ?_
 refine sE (C7 rfl rfl) rfl (fun b3 => ?_)
 refine sE (A8 rfl) rfl (fun b4 => ?_)
 refine U5 ?_
 refine sB (qE rfl rfl) rfl rfl (fun h22 => ?_) (fun h22 => ?_)
 refine A5 ?_
 (show J2 _ _ (.cond (.tmp 16) _ _) _ _; refine A0j (fun (_ : Unit) => ⟨[(5, .int .i64 (C : Int)), (1, .pointer (some ⟨b3, 0, none⟩)), (2, .pointer (some ⟨b4, 0, none⟩))], [.blk b4 [.int .i64 0, .string ⟨⟨[]⟩⟩, .int .i64 0, .int .i64 0, .slice none 0 0, .int .i64 0, .slice none 0 0, .int .i64 0, .slice none 0 0], .blk b3 [.int .i64 k, .string nm, .int .i64 num, .int .i64 tk, .slice pt tks.length ct, .int .i64 fk, .slice pf fks.length cf, .int .i64 lb, .slice p ks.length c]], G⟩) (fun _ => True) (qT rfl ?_) ?_)
 refine B9 ?_
 (have hCC := hC1 (by omega); subst hCC; refine P8 () (M0 (by repeat (first | exact E7.nil | refine E7.cons rfl ?_)) (by repeat (first | exact A0.refl | exact A0.nil | refine A0.cons (by repeat (first | exact Pk.here | apply Pk.there)) ?_ | apply A0.drop))) trivial)
 (rintro (_ : Unit) _)
 refine B0 ?_
 refine C3 ?_
 (refine K2 (fun (i : Nat) => ⟨[(6, .int .i64 (i : Int)), (5, .int .i64 (C : Int)), (1, .pointer (some ⟨b3, 0, none⟩)), (2, .pointer (some ⟨b4, 0, none⟩))], [.blk b4 [.int .i64 0, .string ⟨⟨[]⟩⟩, .int .i64 0, .int .i64 0, .slice none 0 0, .int .i64 0, .slice none 0 0, .int .i64 0, .slice none 0 0], .blk b3 [.int .i64 k, .string nm, .int .i64 num, .int .i64 tk, .slice pt tks.length ct, .int .i64 fk, .slice pf fks.length cf, .int .i64 lb, .slice p ks.length c]], G⟩) (fun i => i ≤ C ∧ ∀ j, j < i → (h : j < ks.length) → E3 ks[j] = true) (fun i => C - i) 0 ?_ ?_ ?_)
 exact E2
 exact A64
 (rintro i ⟨hi, hj⟩)
 refine B2 ?_
 refine sB (J8 rfl rfl) rfl rfl (fun h47 => ?_) (fun h47 => ?_)
 refine B0 ?_
 refine C3 ?_
 refine B0 ?_
 (have hiC : i < C := (by omega); obtain ⟨bx, ox, e, rfl, hl, hat, hre, hgb⟩ := hsl.kidTm hkl (i := i) (by omega) (by omega); have heo := hre.one; have hVi := A7x ks[i] G e (hkk _ (List.getElem_mem (by omega))) hre; refine sP (B6 (j := i) rfl rfl rfl (by omega)) rfl rfl ?_)
 refine sL (A3 rfl rfl (hat _) hl) rfl rfl ?_
 refine E8 rfl (hVi) rfl rfl (fun h63 => ?_) (fun h63 => ?_)
 refine E1 ?_
 refine sP (J6 rfl rfl (by omega) (by omega)) rfl rfl ?_
 refine A5 ?_
 refine K3 (i + 1) ?_ ?_ ?_
 exact E2
 exact A65
 (show C - (i + 1) < C - i; omega)
 refine J0 ?_
 refine sP (B6 (j := i) rfl rfl rfl (by omega)) rfl rfl ?_
 refine sL (A3 rfl rfl (hat _) hl) rfl rfl ?_
 (have hvF : E3 ks[i] = false := (by assumption); have hst := hkX' i (by omega) hiC (fun j hji hl2 => hj j hji hl2) hvF; refine E5 rfl (ih ks[i] (List.getElem_mem (by omega)) G e (hkk _ (List.getElem_mem (by omega))) hvF hre) rfl rfl (fun v G1 hle1 hh => ?_); obtain ⟨uc, hvv, hru⟩ := hh; have hul := hru.len; have huo := hru.one; generalize H0 ks[i] = r at hvv hru hst; obtain ⟨u, cc, ll⟩ := r; simp only at hvv hru hst; subst hvv)
 refine B7 ?_
 refine sE (A8 rfl) rfl (fun b97 => ?_)
 refine sS rfl rfl rfl hul huo rfl ?_ (hu := by exact D4 hul.symm)
 refine D0 ?_
 refine sB (M1 rfl rfl) rfl rfl (fun h107 => ?_) (fun h107 => ?_)
 refine A0o ?_
 refine D1 (rC rfl (A6 rfl rfl)) (rT rfl) (rT rfl) ?_
 (rw [hst, if_neg (by omega)]; exact L8.mk rfl (P5 _))
 refine D0 ?_
 refine sE (A8 rfl) rfl (fun b138 => ?_)
 refine B2 ?_
 (refine J5 (D2 rfl rfl rfl (by omega) (by unfold maxLen; omega) rfl) rfl ?_; rintro _ ⟨b144, rfl⟩)
 refine A5 ?_
 (refine A6w rfl rfl rfl rfl rfl (fun _ _ => by repeat (first | exact Sw.here | apply Sw.there)) (hsl.mono hle1).sl hes1 (Nat.zero_le _) (by unfold maxLen; omega) (by omega) rfl (fun p4 c4 => ?_); simp only [Nat.zero_add, List.nil_append]; refine A38 (cs := es.flatten) (by repeat (first | exact Pk.here | apply Pk.there)) (by omega) (fun bc Cc hpe hnc1 hcm => ?_); subst hpe)
 refine E1 ?_
 refine sL (A3 rfl rfl (B1 (by repeat first | exact mH | apply mT)) hul) rfl rfl ?_
 refine sP (B6 (j := i) rfl rfl rfl (by omega)) rfl rfl ?_
 refine W7 rfl rfl rfl hul huo rfl (by repeat first | exact Sw.here | apply Sw.there) (by exact A39 (by rw [hkl.len]; omega) (fun e he => (hsl.all e he)) hul) ?_
 refine J0 ?_
 (refine A2y (bs := [(bc, (es.set i uc).flatten ++ Cc)]) (Pk.perm (by repeat (first | exact Pk.here | apply Pk.there))) (fun hn2 hd2 hle2 => ?_))
 refine B0 ?_
 refine D1 (rC rfl (A6 rfl rfl)) (rT rfl) (rT rfl) ?_
 (have hks2 := E4.set (j := i) ((hkl.mono hle1).mono hle2) (hru.mono hle2); rw [hst, if_pos (by omega)]; exact L8.mk rfl (B3.put (us := ks.set i u) (es := es.set i uc) hk hnum hlb ((hty.mono hle1).mono hle2) ((hfr.mono hle1).mono hle2) (by rw [List.length_set]) (E0.of (Sl.of_blk (A := []) (by rw [A0T hks2.all, hks2.len, List.length_set]) (by omega) hcm (Wi.in hn2 List.mem_cons_self)) (by rw [hks2.len, List.length_set]) hks2.all (fun e he => by obtain ⟨q, hq⟩ := List.getElem?_of_mem he; exact (hks2.inv hq I3).2.one)) hks2))
 refine J4 ?_
 refine sP (A28 rfl rfl (by omega)) rfl rfl ?_
 refine J0 ?_
 (have hall : ∀ i, i < C → (hl : i < ks.length) → E3 ks[i] = true := (fun j hjc hl2 => hj j (by omega) hl2); have hrd' := hrX hall; have h9 : k = 9 := (by omega); subst h9; obtain ⟨xa, xb, xc, hxs⟩ := ks3 (h93 rfl); subst hxs; rw [B7z] at hrd'; obtain ⟨bx, ox, e0, rfl, hl0, hat0, hre0, hgb0⟩ := hsl.kidTm hkl (i := 0) (by simp) (by simp); obtain ⟨_, _, e1, hp1, hl1, hat1, hre1, hgb1⟩ := hsl.kidTm hkl (i := 1) (by simp) (by simp); cases hp1; obtain ⟨_, _, e2, hp2, hl2, hat2, hre2, hgb2⟩ := hsl.kidTm hkl (i := 2) (by simp) (by simp); cases hp2; replace hre0 : B3 G xa e0 := hre0; replace hre1 : B3 G xb e1 := hre1; replace hre2 : B3 G xc e2 := hre2; have ho1 := hre1.one; have ho2 := hre2.one; obtain ⟨ak, anm, anum, ⟨atk, atks⟩, ⟨afk, afks⟩, alb, aks⟩ := xa; obtain ⟨apt, act, apf, acf, ap, ac, aes, rfl, hak, hanum, halb, haty, hafr, hasl, hakl⟩ := hre0.open9; replace hrd' : R = (if ak = 3 then (xb, 1, 0) else if ak = 4 then (xc, 1, 0) else Q2) := hrd'; refine sP (B6 (j := 0) rfl rfl rfl (by simp)) rfl rfl ?_)
 refine F0 ?_
 refine sL (A0E rfl rfl ((hat0 _).sub (j := 0) rfl)) rfl rfl ?_
 refine A5 ?_
 refine C3 (tS (tR (sB (qE rfl rfl) rfl rfl (fun h211 => ?_) (fun h211 => ?_))))
 refine D0 ?_
 refine sP (B6 (j := 1) rfl rfl rfl (by simp)) rfl rfl ?_
 refine sL (A3 rfl rfl (hat1 _) hl1) rfl rfl ?_
 refine sS rfl rfl rfl hl1 ho1 rfl ?_ (hu := by exact D4 hl1.symm)
 refine B5 ?_
 refine D1 (rC rfl (A3 rfl rfl (B1 (by repeat first | exact mH | apply mT)) hl1)) (rT rfl) (rT rfl) ?_
 (rw [hrd', if_pos (by omega)]; exact L8.mk rfl hre1)
 refine B0 ?_
 refine sB (qE rfl rfl) rfl rfl (fun h238 => ?_) (fun h238 => ?_)
 refine D0 ?_
 refine sP (B6 (j := 2) rfl rfl rfl (by simp)) rfl rfl ?_
 refine sL (A3 rfl rfl (hat2 _) hl2) rfl rfl ?_
 refine sS rfl rfl rfl hl2 ho2 rfl ?_ (hu := by exact D4 hl2.symm)
 refine B5 ?_
 refine D1 (rC rfl (A3 rfl rfl (B1 (by repeat first | exact mH | apply mT)) hl2)) (rT rfl) (rT rfl) ?_
 (rw [hrd', if_neg (by omega), if_pos (by omega)]; exact L8.mk rfl hre2)
 refine K4 ?_
 refine D1 (rC rfl (A6 rfl rfl)) (rT rfl) (rT rfl) ?_
 (rw [hrd', if_neg (by omega), if_neg (by omega)]; exact L8.mk rfl (P5 _))
 refine A5 ?_
 (show J2 _ _ (.cond (.tmp 16) _ _) _ _; refine A0j (fun (_ : Unit) => ⟨[(5, .int .i64 (C : Int)), (1, .pointer (some ⟨b3, 0, none⟩)), (2, .pointer (some ⟨b4, 0, none⟩))], [.blk b4 [.int .i64 0, .string ⟨⟨[]⟩⟩, .int .i64 0, .int .i64 0, .slice none 0 0, .int .i64 0, .slice none 0 0, .int .i64 0, .slice none 0 0], .blk b3 [.int .i64 k, .string nm, .int .i64 num, .int .i64 tk, .slice pt tks.length ct, .int .i64 fk, .slice pf fks.length cf, .int .i64 lb, .slice p ks.length c]], G⟩) (fun _ => True) (cF rfl ?_) ?_)
 refine tK ?_
 (have hCC := hC2 (by omega); subst hCC; refine P8 () (M0 (by repeat (first | exact E7.nil | refine E7.cons rfl ?_)) (by repeat (first | exact A0.refl | exact A0.nil | refine A0.cons (by repeat (first | exact Pk.here | apply Pk.there)) ?_ | apply A0.drop))) trivial)
 (rintro (_ : Unit) _)
 refine B0 ?_
 refine C3 ?_
 (refine K2 (fun (i : Nat) => ⟨[(6, .int .i64 (i : Int)), (5, .int .i64 (C : Int)), (1, .pointer (some ⟨b3, 0, none⟩)), (2, .pointer (some ⟨b4, 0, none⟩))], [.blk b4 [.int .i64 0, .string ⟨⟨[]⟩⟩, .int .i64 0, .int .i64 0, .slice none 0 0, .int .i64 0, .slice none 0 0, .int .i64 0, .slice none 0 0], .blk b3 [.int .i64 k, .string nm, .int .i64 num, .int .i64 tk, .slice pt tks.length ct, .int .i64 fk, .slice pf fks.length cf, .int .i64 lb, .slice p ks.length c]], G⟩) (fun i => i ≤ C ∧ ∀ j, j < i → (h : j < ks.length) → E3 ks[j] = true) (fun i => C - i) 0 ?_ ?_ ?_)
 exact E2
 exact A64
 (rintro i ⟨hi, hj⟩)
 refine B2 ?_
 refine sB (J8 rfl rfl) rfl rfl (fun h299 => ?_) (fun h299 => ?_)
 refine B0 ?_
 refine C3 ?_
 refine B0 ?_
 (have hiC : i < C := (by omega); obtain ⟨bx, ox, e, rfl, hl, hat, hre, hgb⟩ := hsl.kidTm hkl (i := i) (by omega) (by omega); have heo := hre.one; have hVi := A7x ks[i] G e (hkk _ (List.getElem_mem (by omega))) hre; refine sP (B6 (j := i) rfl rfl rfl (by omega)) rfl rfl ?_)
 refine sL (A3 rfl rfl (hat _) hl) rfl rfl ?_
 refine E8 rfl (hVi) rfl rfl (fun h315 => ?_) (fun h315 => ?_)
 refine E1 ?_
 refine sP (J6 rfl rfl (by omega) (by omega)) rfl rfl ?_
 refine A5 ?_
 refine K3 (i + 1) ?_ ?_ ?_
 exact E2
 exact A65
 (show C - (i + 1) < C - i; omega)
 refine J0 ?_
 refine sP (B6 (j := i) rfl rfl rfl (by omega)) rfl rfl ?_
 refine sL (A3 rfl rfl (hat _) hl) rfl rfl ?_
 (have hvF : E3 ks[i] = false := (by assumption); have hst := hkX' i (by omega) hiC (fun j hji hl2 => hj j hji hl2) hvF; refine E5 rfl (ih ks[i] (List.getElem_mem (by omega)) G e (hkk _ (List.getElem_mem (by omega))) hvF hre) rfl rfl (fun v G1 hle1 hh => ?_); obtain ⟨uc, hvv, hru⟩ := hh; have hul := hru.len; have huo := hru.one; generalize H0 ks[i] = r at hvv hru hst; obtain ⟨u, cc, ll⟩ := r; simp only at hvv hru hst; subst hvv)
 refine B7 ?_
 refine sE (A8 rfl) rfl (fun b349 => ?_)
 refine sS rfl rfl rfl hul huo rfl ?_ (hu := by exact D4 hul.symm)
 refine D0 ?_
 refine sB (M1 rfl rfl) rfl rfl (fun h359 => ?_) (fun h359 => ?_)
 refine A0o ?_
 refine D1 (rC rfl (A6 rfl rfl)) (rT rfl) (rT rfl) ?_
 (rw [hst, if_neg (by omega)]; exact L8.mk rfl (P5 _))
 refine D0 ?_
 refine sE (A8 rfl) rfl (fun b390 => ?_)
 refine B2 ?_
 (refine J5 (D2 rfl rfl rfl (by omega) (by unfold maxLen; omega) rfl) rfl ?_; rintro _ ⟨b396, rfl⟩)
 refine A5 ?_
 (refine A6w rfl rfl rfl rfl rfl (fun _ _ => by repeat (first | exact Sw.here | apply Sw.there)) (hsl.mono hle1).sl hes1 (Nat.zero_le _) (by unfold maxLen; omega) (by omega) rfl (fun p4 c4 => ?_); simp only [Nat.zero_add, List.nil_append]; refine A38 (cs := es.flatten) (by repeat (first | exact Pk.here | apply Pk.there)) (by omega) (fun bc Cc hpe hnc1 hcm => ?_); subst hpe)
 refine E1 ?_
 refine sL (A3 rfl rfl (B1 (by repeat first | exact mH | apply mT)) hul) rfl rfl ?_
 refine sP (B6 (j := i) rfl rfl rfl (by omega)) rfl rfl ?_
 refine W7 rfl rfl rfl hul huo rfl (by repeat first | exact Sw.here | apply Sw.there) (by exact A39 (by rw [hkl.len]; omega) (fun e he => (hsl.all e he)) hul) ?_
 refine J0 ?_
 (refine A2y (bs := [(bc, (es.set i uc).flatten ++ Cc)]) (Pk.perm (by repeat (first | exact Pk.here | apply Pk.there))) (fun hn2 hd2 hle2 => ?_))
 refine B0 ?_
 refine D1 (rC rfl (A6 rfl rfl)) (rT rfl) (rT rfl) ?_
 (have hks2 := E4.set (j := i) ((hkl.mono hle1).mono hle2) (hru.mono hle2); rw [hst, if_pos (by omega)]; exact L8.mk rfl (B3.put (us := ks.set i u) (es := es.set i uc) hk hnum hlb ((hty.mono hle1).mono hle2) ((hfr.mono hle1).mono hle2) (by rw [List.length_set]) (E0.of (Sl.of_blk (A := []) (by rw [A0T hks2.all, hks2.len, List.length_set]) (by omega) hcm (Wi.in hn2 List.mem_cons_self)) (by rw [hks2.len, List.length_set]) hks2.all (fun e he => by obtain ⟨q, hq⟩ := List.getElem?_of_mem he; exact (hks2.inv hq I3).2.one)) hks2))
 refine J4 ?_
 refine sP (W9 rfl rfl (by omega)) rfl rfl ?_
 refine B0 ?_
 (have hall : ∀ i, i < C → (hl : i < ks.length) → E3 ks[i] = true := (fun j hjc hl2 => hj j (by omega) hl2); have hk8 := hkd hall; have hrd' := hrX hall; refine E5 rfl (hRd (by omega)) rfl rfl (fun v G1 hle1 hh => ?_); obtain ⟨uc, rfl, hru⟩ := hh; have hul := hru.len; have huo := hru.one)
 refine B9 ?_
 refine sS rfl rfl rfl hul huo rfl ?_ (hu := by exact D4 hul.symm)
 refine B0 ?_
 refine D1 (rC rfl (A3 rfl rfl (B1 (by repeat first | exact mH | apply mT)) hul)) (rT rfl) (rT rfl) ?_
 (rw [hrd']; exact ⟨rfl, _, rfl, hru⟩)
theorem B7B {t : Tm} (h : M9 t = true) : (H0 t).1.small ∧ D6 (H0 t).1 ≤ 40300 := by
 obtain ⟨h1, h2⟩ := A1U h
 have := B4I t (A2L t h1) h2
 exact ⟨this.1, by omega⟩
theorem B7C (t : Tm) (G : IM) (cells : List Value) (hcnt : D6 t ≤ 4294967296) (hr : B3 G t cells) : Fn Tryz.prog 64 [.agg ⟨cells⟩] [] G (L8 (F9 t)) := by
 have hRl := hr.len
 have hRo := hr.one
 have hV := A9q t G cells hcnt hr
 have e1 := @A5x t
 have e2 := @A4q t
 have e3 := @A4r t
 have e4 := @A4s t
 have e5 := @A4t t
 have hsc := @B7B t
 refine C2 Tryz.func64 rfl Tryz.ntmps64 Tryz.results64 rfl ?_
 intro w0
 refine A5 ?_
 refine sE (C7 rfl rfl) rfl (fun b3 => ?_)
 refine sE (A8 rfl) rfl (fun b4 => ?_)
 refine B5 ?_
 refine sL (A3 rfl rfl (B1 (by repeat first | exact mH | apply mT)) hRl) rfl rfl ?_
 refine E8 rfl (hV) rfl rfl (fun h13 => ?_) (fun h13 => ?_)
 refine E1 ?_
 refine sL (A3 rfl rfl (B1 (by repeat first | exact mH | apply mT)) hRl) rfl rfl ?_
 refine E8 rfl ((A7x t G cells (A1U (by assumption)).1 hr)) rfl rfl (fun h24 => ?_) (fun h24 => ?_)
 refine B2 ?_
 refine sL (A3 rfl rfl (B1 (by repeat first | exact mH | apply mT)) hRl) rfl rfl ?_
 (refine E5 rfl (A3g t G cells (A5w (by assumption)) hr) rfl rfl (fun v G1 hle1 hh => ?_); obtain ⟨cs1, F1, rfl, hs1, hn1⟩ := hh; have hul := hs1.R.len; have huo := hs1.R.one)
 refine sS rfl rfl rfl hul huo rfl ?_ (hu := by exact D4 hul.symm)
 refine B0 ?_
 refine D1 (rC rfl (A3 rfl rfl (B1 (by repeat first | exact mH | apply mT)) hul)) (rT rfl) (rT rfl) ?_
 (exact L8.mk (e2 (by assumption) (by assumption)) (hs1.R.mono (C9.le _ _)))
 refine B5 ?_
 refine sL (A3 rfl rfl (B1 (by repeat first | exact mH | apply mT)) hRl) rfl rfl ?_
 (have hcv : M9 t = true := (by assumption); have hnv : E3 t = false := (by assumption); obtain ⟨hsc1, hsc2⟩ := hsc hcv; replace e3 := e3 hcv hnv; replace e4 := e4 hcv hnv; replace e5 := e5 hcv hnv; refine E5 rfl (B7A t G cells (A1U hcv).1 hnv hr) rfl rfl (fun v G1 hle1 hh => ?_); obtain ⟨uc, hvv, hru⟩ := hh; have hul := hru.len; have huo := hru.one; generalize H0 t = r at hvv hru hsc1 hsc2 e3 e4 e5; obtain ⟨u, cc, ll⟩ := r; simp only at hvv hru hsc1 hsc2 e3 e4 e5; subst hvv; have hVu := A9q u G1 uc (by omega) hru)
 refine B7 ?_
 refine sE (A8 rfl) rfl (fun b54 => ?_)
 refine sS rfl rfl rfl hul huo rfl ?_ (hu := by exact D4 hul.symm)
 refine D0 ?_
 refine sB (M1 rfl rfl) rfl rfl (fun h64 => ?_) (fun h64 => ?_)
 refine H6 ?_
 refine D1 (rC rfl (A6 rfl rfl)) (rT rfl) (rT rfl) ?_
 (exact L8.mk (e3 (by omega)) (P5 _))
 refine D0 ?_
 refine sL (A3 rfl rfl (B1 (by repeat first | exact mH | apply mT)) hul) rfl rfl ?_
 refine E8 rfl (hVu) rfl rfl (fun h91 => ?_) (fun h91 => ?_)
 refine D0 ?_
 refine sL (A3 rfl rfl (B1 (by repeat first | exact mH | apply mT)) hul) rfl rfl ?_
 (refine E5 rfl (A3g u G1 uc hsc1 hru) rfl rfl (fun v G2 hle2 hh => ?_); obtain ⟨cs2, F2, rfl, hs2, hn2⟩ := hh; have hwl := hs2.R.len; have hwo := hs2.R.one)
 refine sS rfl rfl rfl hwl hwo rfl ?_ (hu := by exact D4 hwl.symm)
 refine B2 ?_
 refine D1 (rC rfl (A3 rfl rfl (B1 (by repeat first | exact mH | apply mT)) hwl)) (rT rfl) (rT rfl) ?_
 (exact L8.mk (e5 (by omega) (by assumption)) (hs2.R.mono (C9.le _ _)))
 refine J1 ?_
 refine D1 (rC rfl (A6 rfl rfl)) (rT rfl) (rT rfl) ?_
 (exact L8.mk (e4 (by omega) (by assumption)) (P5 _))
 refine J1 ?_
 refine D1 (rC rfl (A6 rfl rfl)) (rT rfl) (rT rfl) ?_
 (exact L8.mk (e1 (by assumption)) (P5 _))
theorem B7D {m i : Nat} {e : Tm} (h : (F9 e).2.1 ≠ 1) : A0l i (I0 m e) = ((F9 e).1, (F9 e).2.1, (F9 e).2.2, i) := by
 cases m with
 | zero => rw [I0, if_neg h]; simp [A0l]
 | succ m => rw [I0, if_neg h]; simp [A0l]
theorem B7E {m i : Nat} {e : Tm} (h : (F9 e).2.1 = 1) (hm : m = 0) : A0l i (I0 m e) = (I3, 5, 0, i) := by
 subst hm; rw [I0, if_pos h]; simp [A0l]
theorem B7F {m i : Nat} {e : Tm} (h : (F9 e).2.1 = 1) (hm : 0 < m) : A0l i (I0 m e) = A0l (i + 1) (I0 (m - 1) (F9 e).1) := by
 obtain ⟨k, rfl⟩ : ∃ k, m = k + 1 := ⟨m - 1, by omega⟩
 rw [I0, if_pos h]; simp only [A0l, Nat.add_sub_cancel, Nat.add_assoc, Nat.add_comm 1 i]
theorem B7G (e : Tm) (n : Nat) (hn : n ≤ 300) (G : IM) (cells : List Value) (hcnt : D6 e ≤ 4294967296) (hr : B3 G e cells) : Fn Tryz.prog 31 [.agg ⟨cells⟩, .int .i64 (n : Int)] [] G (EvP (I0 n e)) := by
 have hRl := hr.len
 have hRo := hr.one
 refine C2 Tryz.func31 rfl Tryz.ntmps31 Tryz.results31 rfl ?_
 intro w0
 refine A5 ?_
 refine sE (C7 rfl rfl) rfl (fun b3 => ?_)
 refine sE (A8 rfl) rfl (fun b4 => ?_)
 refine J0 ?_
 refine C3 ?_
 (refine K2 (fun (x : Nat × Tm × List Value × IM) => ⟨[(8, .int .i64 (x.1 : Int)), (1, .int .i64 (n : Int)), (2, .pointer (some ⟨b3, 0, none⟩)), (4, .pointer (some ⟨b4, 0, none⟩))], [.blk b3 x.2.2.1, .blk b4 [.int .i64 0, .string ⟨⟨[]⟩⟩, .int .i64 0, .int .i64 0, .slice none 0 0, .int .i64 0, .slice none 0 0, .int .i64 0, .slice none 0 0]], x.2.2.2⟩) (fun x => x.1 ≤ n ∧ C6 G x.2.2.2 ∧ B3 x.2.2.2 x.2.1 x.2.2.1 ∧ D6 x.2.1 ≤ 4294967296 ∧ A0l x.1 (I0 (n - x.1) x.2.1) = I0 n e) (fun x => n - x.1) (0, e, cells, G) ?_ ?_ ?_)
 (simp only [J9]; exact E2)
 (exact ⟨Nat.zero_le _, C6.refl _, hr, hcnt, rfl⟩)
 (rintro ⟨i, u, uc, Gi⟩ ⟨hi, hle, hru, hcu, hev⟩; simp only [] at hi hle hru hcu hev ⊢; have hul := hru.len; have huo := hru.one)
 refine tS ?_
 refine C3 ?_
 refine A5 ?_
 refine sL (A3 rfl rfl (B1 (by repeat first | exact mH | apply mT)) hul) rfl rfl ?_
 (refine E5 rfl (B7C u Gi uc hcu hru) rfl rfl (fun v G1 hle1 hh => ?_); obtain ⟨wc, hv, hrw⟩ := hh; have hwl := hrw.len; have hwo := hrw.one; have hend := @B7D (n - i) i u; have hmu := @B7E (n - i) i u; have hgo := @B7F (n - i) i u; have hval := @B52 u; generalize F9 u = r at hv hrw hend hmu hgo hval; obtain ⟨w, c, l⟩ := r; simp only at hv hrw hend hmu hgo hval; subst hv)
 refine B7 ?_
 refine sE (A8 rfl) rfl (fun b30 => ?_)
 refine sS rfl rfl rfl hwl hwo rfl ?_ (hu := by exact D4 hwl.symm)
 refine D0 ?_
 refine sB (M1 rfl rfl) rfl rfl (fun h40 => ?_) (fun h40 => ?_)
 refine B2 ?_
 refine sL (A3 rfl rfl (B1 (by repeat first | exact mH | apply mT)) hwl) rfl rfl ?_
 refine B9 ?_
 refine sS rfl rfl rfl hwl hwo rfl ?_ (hu := by exact D4 hwl.symm)
 refine I8 ?_
 refine A5y (rC rfl (A3 rfl rfl (B1 (by repeat first | exact mH | apply mT)) hwl)) (rT rfl) (rT rfl) (rT rfl) ?_
 exact A69
 refine J0 ?_
 refine sB (qE rfl rfl) rfl rfl (fun h74 => ?_) (fun h74 => ?_)
 refine A0b ?_
 refine A5y (rC rfl (A6 rfl rfl)) (rT rfl) (rT rfl) (rT rfl) ?_
 (exact EvP.mk (by rw [← hev]; exact hmu (by omega) (by omega)) (P5 _))
 refine B0 ?_
 refine sL (A3 rfl rfl (B1 (by repeat first | exact mH | apply mT)) hwl) rfl rfl ?_
 refine W7 rfl rfl rfl hwl hwo rfl (by repeat first | exact Sw.here | apply Sw.there) (by exact D4 (hul.trans hwl.symm)) ?_
 refine B2 ?_
 refine sP (J6 rfl rfl (by omega) (by omega)) rfl rfl ?_
 refine A5 ?_
 refine K3 (i + 1, w, wc, G1) ?_ ?_ ?_
 (simp only [J9]; exact E2)
 (dsimp only; exact ⟨by omega, hle.trans hle1, hrw, by have := A8v (hval (by omega)); omega, by rw [← hev, hgo (by omega) (by omega), show n - (i + 1) = n - i - 1 by omega]⟩)
 (show n - (i + 1) < n - i; omega)
theorem B7H {e : Tm} {fuel : Int} (h : N7 fuel 0 300 = true) : S3 e fuel = ((I0 fuel.toNat e).1, (I0 fuel.toNat e).2.1, (I0 fuel.toNat e).2.2.1) := by
 unfold S3; rw [if_pos (A3U h)]
theorem B1N {fuel : Int} (h : fuel < 0 ∨ 300 < fuel) : N7 fuel 0 300 = false := by unfold N7; rw [decide_eq_false (by omega)]
theorem B7I {fuel : Int} (h : 0 ≤ fuel) (h2 : fuel ≤ 300) : N7 fuel 0 300 = true := by unfold N7; rw [decide_eq_true ⟨h, h2⟩]
theorem B7J (e : Tm) (fuel : Int) (G : IM) (cells : List Value) (hcnt : D6 e ≤ 4294967296) (hr : B3 G e cells) : Fn Tryz.prog 10 [.agg ⟨cells⟩, .int .i64 fuel] [] G (L8 (S3 e fuel)) := by
 have hRl := hr.len
 have hRo := hr.one
 have hno := @A7a e fuel
 have hin := @B7H e fuel
 refine C2 Tryz.func10 rfl Tryz.ntmps10 Tryz.results10 rfl ?_
 intro w0
 refine A5 ?_
 refine sE (C7 rfl rfl) rfl (fun b3 => ?_)
 refine sE (A8 rfl) rfl (fun b4 => ?_)
 refine D0 ?_
 refine sB (J8 rfl rfl) rfl rfl (fun h13 => ?_) (fun h13 => ?_)
 refine U5 ?_
 refine D1 (rC rfl (A6 rfl rfl)) (rT rfl) (rT rfl) ?_
 (exact L8.mk (hno (B1N (by omega))) (P5 _))
 refine A5 ?_
 refine sB (Y9 rfl rfl) rfl rfl (fun h35 => ?_) (fun h35 => ?_)
 refine J1 ?_
 refine D1 (rC rfl (A6 rfl rfl)) (rT rfl) (rT rfl) ?_
 (exact L8.mk (hno (B1N (by omega))) (P5 _))
 refine D0 ?_
 refine sL (A3 rfl rfl (B1 (by repeat first | exact mH | apply mT)) hRl) rfl rfl ?_
 refine F0 ?_
 (have hE := B7G e fuel.toNat (by omega) G cells hcnt hr; rw [Int.toNat_of_nonneg (by omega)] at hE; have hin := hin (B7I (by omega) (by omega)); refine E5 rfl hE rfl rfl (fun v G1 hle1 hh => ?_); obtain ⟨wc, hv, hrw⟩ := hh; have hwl := hrw.len; have hwo := hrw.one; generalize I0 fuel.toNat e = r at hv hrw hin; obtain ⟨w, c, l, i⟩ := r; simp only at hv hrw hin; subst hv)
 refine B2 ?_
 refine sE (A8 rfl) rfl (fun b68 => ?_)
 refine sS rfl rfl rfl hwl hwo rfl ?_ (hu := by exact D4 hwl.symm)
 refine B5 ?_
 refine sL (A3 rfl rfl (B1 (by repeat first | exact mH | apply mT)) hwl) rfl rfl ?_
 refine A5 ?_
 refine sS rfl rfl rfl hwl hwo rfl ?_ (hu := by exact D4 hwl.symm)
 refine B2 ?_
 refine D1 (rC rfl (A3 rfl rfl (B1 (by repeat first | exact mH | apply mT)) hwl)) (rT rfl) (rT rfl) ?_
 (exact L8.mk hin hrw)
theorem B7K : ∀ (t : Tm) (G : IM) (cells : List Value), cv t → E3 t = true → B3 G t cells → Fn Tryz.prog 45 [.agg ⟨cells⟩] [] G (H5 (.string (A0d t)) G) := by
 refine Tm.ind fun k nm num ty fr lb ks ih G cells hc hv hr => ?_
 have hr0 := hr
 have hP := A5D _ G _ hr
 obtain ⟨hN, hkk⟩ := hc.node
 have hI := A7v (.mk k nm num ty fr lb ks) G _ hN.frA hr
 have hop := hN.ops
 have hnum0 := hN.num0
 have h14 : k = 14 → ks.length = 1 := fun h => by rw [h] at hop; have : D7 14 = 1 := rfl; omega
 have hvp := @B1f k nm num ty fr lb ks
 have hvf := @B1g k nm num ty fr lb ks
 have hvc := @A7k k nm num ty fr lb ks
 have hvl := @B1h k nm num ty fr lb ks
 have hvn := @A5s k nm num ty fr lb ks
 have hvy := @B1G k nm num ty fr lb ks
 have hprx := A0N k nm num ty fr lb ks
 have hinj := A4n k nm num ty fr lb ks
 have h5 : k ≠ 10 → O9 (.mk k nm num ty fr lb ks) = false → inj (.mk k nm num ty fr lb ks) = false → k = 2 ∨ k = 3 ∨ k = 4 ∨ k = 5 := fun h1 h2 h3 => by
  have := hvn h1 h2 h3; rw [hv] at this; exact of_decide_eq_true this.symm
 have hdis : O9 (.mk k nm num ty fr lb ks) = true → inj (.mk k nm num ty fr lb ks) = false := fun h => by
  rw [hprx] at h; have := of_decide_eq_true h; rw [hinj, decide_eq_false (by omega)]; rfl
 have hik : inj (.mk k nm num ty fr lb ks) = true → k = 14 := fun h => A4o h
 have hpk : O9 (.mk k nm num ty fr lb ks) = true → k = 14 ∧ ty.k = fr.k := fun h => by rw [hprx] at h; have := of_decide_eq_true h; exact ⟨this.1, this.2.1.symm⟩
 have hkv := fun (h : inj (.mk k nm num ty fr lb ks) = true) => (hvy (.inr h) (h14 (hik h))).symm.trans hv
 obtain ⟨j, hj⟩ : ∃ j : Nat, num = j := ⟨num.toNat, by omega⟩
 have hdec := B6A j (by omega) G
 generalize hpx : O9 (.mk k nm num ty fr lb ks) = bp at *
 generalize hij : inj (.mk k nm num ty fr lb ks) = bi at *
 subst hj
 obtain ⟨tk, tks⟩ := ty
 obtain ⟨fk, fks⟩ := fr
 obtain ⟨pt, ct, pf, cf, p, c, es, rfl, hk, hnum, hlb, hty, hfr, hsl, hkl⟩ := hr.open9
 refine C2 Tryz.func45 rfl Tryz.ntmps45 Tryz.results45 rfl ?_
 intro w0
 refine A5 ?_
 refine sE (C7 rfl rfl) rfl (fun b3 => ?_)
 refine B7 ?_
 refine C3 ?_
 refine B7 ?_
 refine sB (qE rfl rfl) rfl rfl (fun h13 => ?_) (fun h13 => ?_)
 refine D0 ?_
 refine H9 rfl (hdec) rfl rfl ?_
 refine B5 ?_
 (have hbp : bp = false := (by cases hb : bp with | false => rfl | true => (have := (hpk hb).1; omega)); refine ⟨rfl, congrArg Value.string ?_, rfl⟩; rw [hvl hbp (by omega) (by omega) (by omega)]; unfold A11; first | (rw [if_pos (by omega)]; rfl) | (rw [if_neg (by omega), if_pos (by omega)]; rfl) | (rw [if_neg (by omega), if_neg (by omega)]; rfl))
 refine D0 ?_
 refine sB (qE rfl rfl) rfl rfl (fun h39 => ?_) (fun h39 => ?_)
 refine J4 ?_
 (have hbp : bp = false := (by cases hb : bp with | false => rfl | true => (have := (hpk hb).1; omega)); refine ⟨rfl, congrArg Value.string ?_, rfl⟩; rw [hvl hbp (by omega) (by omega) (by omega)]; unfold A11; first | (rw [if_pos (by omega)]; rfl) | (rw [if_neg (by omega), if_pos (by omega)]; rfl) | (rw [if_neg (by omega), if_neg (by omega)]; rfl))
 refine D0 ?_
 refine sB (qE rfl rfl) rfl rfl (fun h62 => ?_) (fun h62 => ?_)
 refine J4 ?_
 (have hbp : bp = false := (by cases hb : bp with | false => rfl | true => (have := (hpk hb).1; omega)); refine ⟨rfl, congrArg Value.string ?_, rfl⟩; rw [hvl hbp (by omega) (by omega) (by omega)]; unfold A11; first | (rw [if_pos (by omega)]; rfl) | (rw [if_neg (by omega), if_pos (by omega)]; rfl) | (rw [if_neg (by omega), if_neg (by omega)]; rfl))
 refine D0 ?_
 refine sB (qE rfl rfl) rfl rfl (fun h85 => ?_) (fun h85 => ?_)
 refine A06 ?_
 (refine ⟨rfl, congrArg Value.string ?_, rfl⟩; rw [hvp (by first | exact .inl (by omega) | exact .inr ⟨by assumption, by have := (hpk (by assumption)).2; simp only [Ty.k] at this ⊢; omega⟩)]; rfl)
 refine A5 ?_
 refine E8 rfl (hP) rfl rfl (fun h112 => ?_) (fun h112 => ?_)
 refine B7 ?_
 refine sB (qE rfl rfl) rfl rfl (fun h117 => ?_) (fun h117 => ?_)
 refine H6 ?_
 (refine ⟨rfl, congrArg Value.string ?_, rfl⟩; rw [hvp (by first | exact .inl (by omega) | exact .inr ⟨by assumption, by have := (hpk (by assumption)).2; simp only [Ty.k] at this ⊢; omega⟩)]; rfl)
 refine E1 ?_
 refine E8 rfl (hI) rfl rfl (fun h143 => ?_) (fun h143 => ?_)
 refine D0 ?_
 (have hl1 := h14 (hik (by assumption)); obtain ⟨bx, ox, e, rfl, hl, hat, hre, hgb⟩ := hsl.kidTm hkl (i := 0) (by omega) (by omega); have hih := ih ks[0] (List.getElem_mem (by omega)) G e (hkk _ (List.getElem_mem (by omega))) (hkv (by assumption)) hre; refine sP (B6 (j := 0) rfl rfl rfl (by omega)) rfl rfl ?_)
 refine sL (A3 rfl rfl (hat _) hl) rfl rfl ?_
 refine H9 rfl (hih) rfl rfl ?_
 refine B5 ?_
 (have hbp : bp = false := (by cases hb : bp with | false => rfl | true => (have := hdis hb; have h9 : bi = true := (by assumption); rw [h9] at this; cases this)); refine ⟨rfl, congrArg Value.string ?_, rfl⟩; rw [hvc hbp (hik (by assumption)) (by omega)])
 refine J1 ?_
 (refine ⟨rfl, congrArg Value.string ?_, rfl⟩; rw [hvf (by rintro (h | ⟨h1, h2⟩) <;> first | omega | exact Bool.noConfusion (h1.symm.trans (show bp = false by assumption)) | (have := (hpk h1).2; simp only [Ty.k] at this h2; omega)) (by cases hb : bp with | true => exact .inr rfl | false => exact .inl (by have := h5 (by omega) hb (by assumption); omega))]; rfl)
 refine J1 ?_
 refine E8 rfl (hI) rfl rfl (fun h192 => ?_) (fun h192 => ?_)
 refine D0 ?_
 (have hl1 := h14 (hik (by assumption)); obtain ⟨bx, ox, e, rfl, hl, hat, hre, hgb⟩ := hsl.kidTm hkl (i := 0) (by omega) (by omega); have hih := ih ks[0] (List.getElem_mem (by omega)) G e (hkk _ (List.getElem_mem (by omega))) (hkv (by assumption)) hre; refine sP (B6 (j := 0) rfl rfl rfl (by omega)) rfl rfl ?_)
 refine sL (A3 rfl rfl (hat _) hl) rfl rfl ?_
 refine H9 rfl (hih) rfl rfl ?_
 refine B5 ?_
 (have hbp : bp = false := (by cases hb : bp with | false => rfl | true => (have := hdis hb; have h9 : bi = true := (by assumption); rw [h9] at this; cases this)); refine ⟨rfl, congrArg Value.string ?_, rfl⟩; rw [hvc hbp (hik (by assumption)) (by omega)])
 refine J1 ?_
 (refine ⟨rfl, congrArg Value.string ?_, rfl⟩; rw [hvf (by rintro (h | ⟨h1, h2⟩) <;> first | omega | exact Bool.noConfusion (h1.symm.trans (show bp = false by assumption)) | (have := (hpk h1).2; simp only [Ty.k] at this h2; omega)) (by cases hb : bp with | true => exact .inr rfl | false => exact .inl (by have := h5 (by omega) hb (by assumption); omega))]; rfl)
theorem B1O (e : Tm) (fuel : Int) (G : IM) (cells : List Value) (hcnt : D6 e ≤ 4294967296) (hr : B3 G e cells) : Fn Tryz.prog 18 [.agg ⟨cells⟩, .int .i64 fuel] [] G (B1q (O1 e fuel) G) := by
 have hRl := hr.len
 have hRo := hr.one
 have hno := @A7o e fuel
 have hyv := fun u t => @A4v e u t fuel
 have hyn := fun u t => @A3D e u t fuel
 refine C2 Tryz.func18 rfl Tryz.ntmps18 Tryz.results18 rfl ?_
 intro w0
 refine A5 ?_
 refine sE (C7 rfl rfl) rfl (fun b3 => ?_)
 refine B5 ?_
 refine sL (A3 rfl rfl (B1 (by repeat first | exact mH | apply mT)) hRl) rfl rfl ?_
 focus (refine E5 rfl (B7v e G cells hcnt hr) rfl rfl (fun v G1 hle1 hh => ?_); obtain ⟨cu, ct, rfl, hru, hrt⟩ := hh; rcases hI : T7 e with _ | ⟨u, t⟩; rotate_left; rw [hI] at hru hrt; simp only [Option.getD_some] at hru hrt; have hgI := A4u hI; rotate_left; rw [hI] at hru hrt; simp only [Option.getD_none] at hru hrt; simp only [Option.isSome]; rotate_left; simp only [Option.isSome]; rotate_left; all_goals (have hul := hru.len; have huo := hru.one; obtain ⟨p3, c3, e3, rfl, _⟩ := hrt.open))
 refine B7 ?_
 refine sE (A8 rfl) rfl (fun b17 => ?_)
 refine sE (A8 rfl) rfl (fun b18 => ?_)
 refine sS rfl rfl rfl hul huo rfl ?_ (hu := by exact D4 hul.symm)
 refine X6 ?_
 refine D1 (rT rfl) (rT rfl) (rT rfl) ?_
 (exact ⟨rfl, by rw [hno (by first | exact hI | rfl | assumption)]⟩)
 refine B7 ?_
 refine sE (A8 rfl) rfl (fun b47 => ?_)
 refine sE (A8 rfl) rfl (fun b48 => ?_)
 refine sS rfl rfl rfl hul huo rfl ?_ (hu := by exact D4 hul.symm)
 refine K4 ?_
 refine sL (A3 rfl rfl (B1 (by repeat first | exact mH | apply mT)) hul) rfl rfl ?_
 refine F0 ?_
 (have hyv := hyv u t hI; have hyn := hyn u t hI; have hev := @B1s u fuel; refine E5 rfl (B7J u fuel G1 cu (by have := A8v hgI.1; omega) hru) rfl rfl (fun v G2 hle2 hh => ?_); obtain ⟨wc, hvv, hrw⟩ := hh; have hwl := hrw.len; have hwo := hrw.one; generalize S3 u fuel = r at hvv hrw hyv hyn hev; obtain ⟨w, c, l⟩ := r; simp only at hvv hrw hyv hyn hev; subst hvv)
 refine B7 ?_
 refine sE (A8 rfl) rfl (fun b73 => ?_)
 refine sS rfl rfl rfl hwl hwo rfl ?_ (hu := by exact D4 hwl.symm)
 refine D0 ?_
 refine sB (M1 rfl rfl) rfl rfl (fun h83 => ?_) (fun h83 => ?_)
 refine J1 ?_
 refine D1 (rT rfl) (rT rfl) (rT rfl) ?_
 (exact ⟨rfl, by rw [hyn (by omega)]⟩)
 refine B5 ?_
 refine sL (A3 rfl rfl (B1 (by repeat first | exact mH | apply mT)) hwl) rfl rfl ?_
 (obtain ⟨he1, he2, he3⟩ := hev (by omega); refine H9 rfl (B7K w G2 wc (A1U he1).1 he2 hrw) rfl rfl ?_)
 refine B5 ?_
 refine D1 (rT rfl) (rT rfl) (rT rfl) ?_
 exact B1t
def A4x (r s : ByteArray × Int × Int) : Int := if r.2.1 = 2 then 2 else if r.2.1 ≠ 0 ∨ s.2.1 = 4 ∨ s.2.1 = 5 then 3 else if s.2.1 = 0 ∧ r.1 = s.1 then 1 else 4
def Y0 (a b : Tm) (fuel : Int) : Int := if (P1 a).isSome = true ∧ X2 a b = true ∧ N7 fuel 0 300 = true then A4x (O1 a fuel) (O1 b fuel) else 0
theorem A4y {a b : Tm} {fuel : Int} (h : ¬ ((P1 a).isSome = true ∧ X2 a b = true ∧ N7 fuel 0 300 = true)) : Y0 a b fuel = 0 := by unfold Y0; rw [if_neg h]
theorem B1P {a b : Tm} {fuel : Int} {s s' : ByteArray} {c c' l l' : Int} (h : (P1 a).isSome = true ∧ X2 a b = true ∧ N7 fuel 0 300 = true) (h1 : O1 a fuel = (s, c, l)) (h2 : O1 b fuel = (s', c', l')) :
  Y0 a b fuel = if c = 2 then 2 else if c ≠ 0 ∨ c' = 4 ∨ c' = 5 then 3 else if c' = 0 ∧ s = s' then 1 else 4 := by unfold Y0; rw [if_pos h, h1, h2]; rfl
theorem A7F {Q : Prop} (h : Q := by (rw [hno (fun hc => by first | exact Bool.noConfusion hc.1 | exact Bool.noConfusion (hc.2.1.symm.trans (show A2 = false by assumption)) | exact Bool.noConfusion (hc.2.2.symm.trans (show N7 fuel 0 300 = false by assumption)))]; exact ⟨rfl, rfl⟩)) : Q := h
theorem A5H (a b : Tm) (fuel : Int) (G : IM) (ca cb : List Value) (hT : A0K G) (ha : B3 G a ca) (hb : B3 G b cb) : Fn Tryz.prog 21 [.agg ⟨ca⟩, .agg ⟨cb⟩, .int .i64 fuel] [] G (M3 fun _ v => v = .int .i64 (Y0 a b fuel)) := by
 have hal := ha.len
 have hbl := hb.len
 have hao := ha.one
 have hbo := hb.one
 have hno := @A4y a b fuel
 have hyes := @B1P a b fuel
 obtain ⟨R, hR⟩ : ∃ R, Y0 a b fuel = R := ⟨_, rfl⟩
 rw [hR] at hno
 simp only [hR] at hyes
 rw [hR]
 refine C2 Tryz.func21 rfl Tryz.ntmps21 Tryz.results21 rfl ?_
 intro w0
 refine A5 ?_
 refine sE (C7 rfl rfl) rfl (fun b3 => ?_)
 refine sE (C7 rfl rfl) rfl (fun b4 => ?_)
 refine B0 ?_
 refine sL (A3 rfl rfl (B1 (by repeat first | exact mH | apply mT)) hal) rfl rfl ?_
 (refine E5 rfl (B6O a G ca ha) rfl rfl (fun v1 G1 hle1 hh => ?_); obtain ⟨ct, u, rfl, hru, _⟩ := hh; obtain ⟨qt, dt, et2, rfl, _⟩ := hru.open; have ha1 := ha.mono hle1; have hb1 := hb.mono hle1; have hP := B6m a b G1 ca cb ha1 hb1; generalize (P1 a).isSome = A1 at *; generalize X2 a b = A2 at *; cases A1)
 refine B9 ?_
 refine sE (A8 rfl) rfl (fun b16 => ?_)
 refine Z0 ?_
 exact A7F
 refine B9 ?_
 refine sE (A8 rfl) rfl (fun b51 => ?_)
 refine E1 ?_
 refine sL (A3 rfl rfl (B1 (by repeat first | exact mH | apply mT)) hal) rfl rfl ?_
 refine sL (A3 rfl rfl (B1 (by repeat first | exact mH | apply mT)) hbl) rfl rfl ?_
 refine E8 rfl (hP) rfl rfl (fun h63 => ?_) (fun h63 => ?_)
 refine B7 ?_
 refine E8 rfl (B0Q fuel _) rfl rfl (fun h68 => ?_) (fun h68 => ?_)
 refine E1 ?_
 refine sL (A3 rfl rfl (B1 (by repeat first | exact mH | apply mT)) hal) rfl rfl ?_
 refine F0 ?_
 (refine E5 rfl (A5A a fuel G1 ca (hT.mono hle1) ha1) rfl rfl (fun v2 G2 hle2 hh => ?_); obtain ⟨s, c, l, hRa⟩ : ∃ s c l, O1 a fuel = (s, c, l) := ⟨_, _, _, rfl⟩; rw [hRa] at hh; replace hh : v2 = .tuple ⟨[.string s, .int .i64 c, .int .i64 l]⟩ := hh; subst hh; have hb2 := hb1.mono hle2)
 refine I8 ?_
 refine sL (A3 rfl rfl (B1 (by repeat first | exact mH | apply mT)) hbl) rfl rfl ?_
 refine F0 ?_
 (refine E5 rfl (A5A b fuel G2 cb ((hT.mono hle1).mono hle2) hb2) rfl rfl (fun v3 G3 hle3 hh => ?_); obtain ⟨s', c', l', hRb⟩ : ∃ s c l, O1 b fuel = (s, c, l) := ⟨_, _, _, rfl⟩; rw [hRb] at hh; replace hh : v3 = .tuple ⟨[.string s', .int .i64 c', .int .i64 l']⟩ := hh; subst hh; have hy := fun h => hyes h hRa hRb)
 refine J0 ?_
 refine C3 ?_
 refine B9 ?_
 refine sB (qE rfl rfl) rfl rfl (fun h109 => ?_) (fun h109 => ?_)
 refine J4 ?_
 (rw [hy ⟨rfl, by assumption, by assumption⟩]; first | (rw [if_pos (by omega)]; exact ⟨rfl, rfl⟩) | (rw [if_neg (by omega), if_pos (by omega)]; exact ⟨rfl, rfl⟩) | (rw [if_neg (by omega), if_neg (by omega), if_pos ⟨by omega, by assumption⟩]; exact ⟨rfl, rfl⟩) | (rw [if_neg (by omega), if_neg (by omega), if_neg (fun hc => by first | omega | exact absurd hc.2 (by assumption))]; exact ⟨rfl, rfl⟩))
 refine B5 ?_
 refine sB (M1 rfl rfl) rfl rfl (fun h131 => ?_) (fun h131 => ?_)
 refine X6 ?_
 (rw [hy ⟨rfl, by assumption, by assumption⟩]; first | (rw [if_pos (by omega)]; exact ⟨rfl, rfl⟩) | (rw [if_neg (by omega), if_pos (by omega)]; exact ⟨rfl, rfl⟩) | (rw [if_neg (by omega), if_neg (by omega), if_pos ⟨by omega, by assumption⟩]; exact ⟨rfl, rfl⟩) | (rw [if_neg (by omega), if_neg (by omega), if_neg (fun hc => by first | omega | exact absurd hc.2 (by assumption))]; exact ⟨rfl, rfl⟩))
 refine A5 ?_
 refine sB (qE rfl rfl) rfl rfl (fun h156 => ?_) (fun h156 => ?_)
 refine U1 ?_
 (rw [hy ⟨rfl, by assumption, by assumption⟩]; first | (rw [if_pos (by omega)]; exact ⟨rfl, rfl⟩) | (rw [if_neg (by omega), if_pos (by omega)]; exact ⟨rfl, rfl⟩) | (rw [if_neg (by omega), if_neg (by omega), if_pos ⟨by omega, by assumption⟩]; exact ⟨rfl, rfl⟩) | (rw [if_neg (by omega), if_neg (by omega), if_neg (fun hc => by first | omega | exact absurd hc.2 (by assumption))]; exact ⟨rfl, rfl⟩))
 refine B9 ?_
 refine sB (qE rfl rfl) rfl rfl (fun h179 => ?_) (fun h179 => ?_)
 refine J1 ?_
 (rw [hy ⟨rfl, by assumption, by assumption⟩]; first | (rw [if_pos (by omega)]; exact ⟨rfl, rfl⟩) | (rw [if_neg (by omega), if_pos (by omega)]; exact ⟨rfl, rfl⟩) | (rw [if_neg (by omega), if_neg (by omega), if_pos ⟨by omega, by assumption⟩]; exact ⟨rfl, rfl⟩) | (rw [if_neg (by omega), if_neg (by omega), if_neg (fun hc => by first | omega | exact absurd hc.2 (by assumption))]; exact ⟨rfl, rfl⟩))
 refine D0 ?_
 refine sB (qE rfl rfl) rfl rfl (fun h203 => ?_) (fun h203 => ?_)
 refine B9 ?_
 refine sB (A0F rfl rfl) rfl rfl (fun h207 => ?_) (fun h207 => ?_)
 refine J1 ?_
 (rw [hy ⟨rfl, by assumption, by assumption⟩]; first | (rw [if_pos (by omega)]; exact ⟨rfl, rfl⟩) | (rw [if_neg (by omega), if_pos (by omega)]; exact ⟨rfl, rfl⟩) | (rw [if_neg (by omega), if_neg (by omega), if_pos ⟨by omega, by assumption⟩]; exact ⟨rfl, rfl⟩) | (rw [if_neg (by omega), if_neg (by omega), if_neg (fun hc => by first | omega | exact absurd hc.2 (by assumption))]; exact ⟨rfl, rfl⟩))
 refine H6 ?_
 (rw [hy ⟨rfl, by assumption, by assumption⟩]; first | (rw [if_pos (by omega)]; exact ⟨rfl, rfl⟩) | (rw [if_neg (by omega), if_pos (by omega)]; exact ⟨rfl, rfl⟩) | (rw [if_neg (by omega), if_neg (by omega), if_pos ⟨by omega, by assumption⟩]; exact ⟨rfl, rfl⟩) | (rw [if_neg (by omega), if_neg (by omega), if_neg (fun hc => by first | omega | exact absurd hc.2 (by assumption))]; exact ⟨rfl, rfl⟩))
 refine A0b ?_
 (rw [hy ⟨rfl, by assumption, by assumption⟩]; first | (rw [if_pos (by omega)]; exact ⟨rfl, rfl⟩) | (rw [if_neg (by omega), if_pos (by omega)]; exact ⟨rfl, rfl⟩) | (rw [if_neg (by omega), if_neg (by omega), if_pos ⟨by omega, by assumption⟩]; exact ⟨rfl, rfl⟩) | (rw [if_neg (by omega), if_neg (by omega), if_neg (fun hc => by first | omega | exact absurd hc.2 (by assumption))]; exact ⟨rfl, rfl⟩))
 refine J4 ?_
 exact A7F
 refine U1 ?_
 exact A7F
theorem A4z {Q : Prop} (h : Q := by (rw [hno (fun hc => by first | (have := hw.1 hc.2.2; omega) | exact Bool.noConfusion hc.1 | exact Bool.noConfusion (hc.2.1.symm.trans (show A2 = false by assumption)))]; exact ⟨rfl, rfl⟩)) : Q := h
theorem B1Q (a b : Tm) (fuel : Int) (G : IM) (ca cb : List Value) (hc1 : D6 a ≤ 4294967296) (hc2 : D6 b ≤ 4294967296) (ha : B3 G a ca) (hb : B3 G b cb) : Fn Tryz.prog 22 [.agg ⟨ca⟩, .agg ⟨cb⟩, .int .i64 fuel] [] G (M3 fun _ v => v = .int .i64 (Y0 a b fuel)) := by
 have hal := ha.len
 have hbl := hb.len
 have hao := ha.one
 have hbo := hb.one
 have hno := @A4y a b fuel
 have hyes := @B1P a b fuel
 have hw : N7 fuel 0 300 = true ↔ 0 ≤ fuel ∧ fuel ≤ 300 := A2b
 obtain ⟨R, hR⟩ : ∃ R, Y0 a b fuel = R := ⟨_, rfl⟩
 rw [hR] at hno
 simp only [hR] at hyes
 rw [hR]
 refine C2 Tryz.func22 rfl Tryz.ntmps22 Tryz.results22 rfl ?_
 intro w0
 refine A5 ?_
 refine sE (C7 rfl rfl) rfl (fun b3 => ?_)
 refine sE (C7 rfl rfl) rfl (fun b4 => ?_)
 refine B2 ?_
 refine sL (A3 rfl rfl (B1 (by repeat first | exact mH | apply mT)) hal) rfl rfl ?_
 (refine E5 rfl (A7C a G ca hc1 ha) rfl rfl (fun v1 G1 hle1 hh => ?_); obtain ⟨mc, mt, rfl, hmr, hmu⟩ := hh; obtain ⟨qt, dt, et2, rfl, _⟩ := hmr.open; have ha1 := ha.mono hle1; have hb1 := hb.mono hle1; have hP := B6o a b G1 ca cb hc1 hc2 ha1 hb1; generalize (P1 a).isSome = A1 at *; generalize X2 a b = A2 at *; cases A1)
 refine B9 ?_
 refine sE (A8 rfl) rfl (fun b15 => ?_)
 refine B5 ?_
 refine sL (A3 rfl rfl (B1 (by repeat first | exact mH | apply mT)) hal) rfl rfl ?_
 refine sL (A3 rfl rfl (B1 (by repeat first | exact mH | apply mT)) hbl) rfl rfl ?_
 refine E8 rfl (hP) rfl rfl (fun h25 => ?_) (fun h25 => ?_)
 refine A1G ?_
 exact A4z
 refine A1G ?_
 exact A4z
 refine B9 ?_
 refine sE (A8 rfl) rfl (fun b79 => ?_)
 refine B5 ?_
 refine sL (A3 rfl rfl (B1 (by repeat first | exact mH | apply mT)) hal) rfl rfl ?_
 refine sL (A3 rfl rfl (B1 (by repeat first | exact mH | apply mT)) hbl) rfl rfl ?_
 refine E8 rfl (hP) rfl rfl (fun h89 => ?_) (fun h89 => ?_)
 refine B5 ?_
 refine sB (J8 rfl rfl) rfl rfl (fun h97 => ?_) (fun h97 => ?_)
 refine K4 ?_
 exact A4z
 refine B9 ?_
 refine sB (Y9 rfl rfl) rfl rfl (fun h118 => ?_) (fun h118 => ?_)
 refine N5 ?_
 exact A4z
 refine D0 ?_
 refine sL (A3 rfl rfl (B1 (by repeat first | exact mH | apply mT)) hal) rfl rfl ?_
 refine F0 ?_
 (refine E5 rfl (B1O a fuel G1 ca hc1 ha1) rfl rfl (fun v2 G2 hle2 hh => ?_); obtain ⟨s, c, l, hRa⟩ : ∃ s c l, O1 a fuel = (s, c, l) := ⟨_, _, _, rfl⟩; rw [hRa] at hh; replace hh : v2 = .tuple ⟨[.string s, .int .i64 c, .int .i64 l]⟩ := hh; subst hh; have hb2 := hb1.mono hle2)
 refine I8 ?_
 refine sL (A3 rfl rfl (B1 (by repeat first | exact mH | apply mT)) hbl) rfl rfl ?_
 refine F0 ?_
 (refine E5 rfl (B1O b fuel G2 cb hc2 hb2) rfl rfl (fun v3 G3 hle3 hh => ?_); obtain ⟨s', c', l', hRb⟩ : ∃ s c l, O1 b fuel = (s, c, l) := ⟨_, _, _, rfl⟩; rw [hRb] at hh; replace hh : v3 = .tuple ⟨[.string s', .int .i64 c', .int .i64 l']⟩ := hh; subst hh; have hy := fun h => hyes h hRa hRb)
 refine J0 ?_
 refine C3 ?_
 refine B9 ?_
 refine sB (qE rfl rfl) rfl rfl (fun h171 => ?_) (fun h171 => ?_)
 refine J4 ?_
 (rw [hy ⟨rfl, by assumption, hw.2 ⟨by omega, by omega⟩⟩]; first | (rw [if_pos (by omega)]; exact ⟨rfl, rfl⟩) | (rw [if_neg (by omega), if_pos (by omega)]; exact ⟨rfl, rfl⟩) | (rw [if_neg (by omega), if_neg (by omega), if_pos ⟨by omega, by assumption⟩]; exact ⟨rfl, rfl⟩) | (rw [if_neg (by omega), if_neg (by omega), if_neg (fun hc => by first | omega | exact absurd hc.2 (by assumption))]; exact ⟨rfl, rfl⟩))
 refine B5 ?_
 refine sB (M1 rfl rfl) rfl rfl (fun h193 => ?_) (fun h193 => ?_)
 refine X6 ?_
 (rw [hy ⟨rfl, by assumption, hw.2 ⟨by omega, by omega⟩⟩]; first | (rw [if_pos (by omega)]; exact ⟨rfl, rfl⟩) | (rw [if_neg (by omega), if_pos (by omega)]; exact ⟨rfl, rfl⟩) | (rw [if_neg (by omega), if_neg (by omega), if_pos ⟨by omega, by assumption⟩]; exact ⟨rfl, rfl⟩) | (rw [if_neg (by omega), if_neg (by omega), if_neg (fun hc => by first | omega | exact absurd hc.2 (by assumption))]; exact ⟨rfl, rfl⟩))
 refine A5 ?_
 refine sB (qE rfl rfl) rfl rfl (fun h218 => ?_) (fun h218 => ?_)
 refine U1 ?_
 (rw [hy ⟨rfl, by assumption, hw.2 ⟨by omega, by omega⟩⟩]; first | (rw [if_pos (by omega)]; exact ⟨rfl, rfl⟩) | (rw [if_neg (by omega), if_pos (by omega)]; exact ⟨rfl, rfl⟩) | (rw [if_neg (by omega), if_neg (by omega), if_pos ⟨by omega, by assumption⟩]; exact ⟨rfl, rfl⟩) | (rw [if_neg (by omega), if_neg (by omega), if_neg (fun hc => by first | omega | exact absurd hc.2 (by assumption))]; exact ⟨rfl, rfl⟩))
 refine B9 ?_
 refine sB (qE rfl rfl) rfl rfl (fun h241 => ?_) (fun h241 => ?_)
 refine J1 ?_
 (rw [hy ⟨rfl, by assumption, hw.2 ⟨by omega, by omega⟩⟩]; first | (rw [if_pos (by omega)]; exact ⟨rfl, rfl⟩) | (rw [if_neg (by omega), if_pos (by omega)]; exact ⟨rfl, rfl⟩) | (rw [if_neg (by omega), if_neg (by omega), if_pos ⟨by omega, by assumption⟩]; exact ⟨rfl, rfl⟩) | (rw [if_neg (by omega), if_neg (by omega), if_neg (fun hc => by first | omega | exact absurd hc.2 (by assumption))]; exact ⟨rfl, rfl⟩))
 refine D0 ?_
 refine sB (qE rfl rfl) rfl rfl (fun h265 => ?_) (fun h265 => ?_)
 refine B9 ?_
 refine sB (A0F rfl rfl) rfl rfl (fun h269 => ?_) (fun h269 => ?_)
 refine J1 ?_
 (rw [hy ⟨rfl, by assumption, hw.2 ⟨by omega, by omega⟩⟩]; first | (rw [if_pos (by omega)]; exact ⟨rfl, rfl⟩) | (rw [if_neg (by omega), if_pos (by omega)]; exact ⟨rfl, rfl⟩) | (rw [if_neg (by omega), if_neg (by omega), if_pos ⟨by omega, by assumption⟩]; exact ⟨rfl, rfl⟩) | (rw [if_neg (by omega), if_neg (by omega), if_neg (fun hc => by first | omega | exact absurd hc.2 (by assumption))]; exact ⟨rfl, rfl⟩))
 refine H6 ?_
 (rw [hy ⟨rfl, by assumption, hw.2 ⟨by omega, by omega⟩⟩]; first | (rw [if_pos (by omega)]; exact ⟨rfl, rfl⟩) | (rw [if_neg (by omega), if_pos (by omega)]; exact ⟨rfl, rfl⟩) | (rw [if_neg (by omega), if_neg (by omega), if_pos ⟨by omega, by assumption⟩]; exact ⟨rfl, rfl⟩) | (rw [if_neg (by omega), if_neg (by omega), if_neg (fun hc => by first | omega | exact absurd hc.2 (by assumption))]; exact ⟨rfl, rfl⟩))
 refine A0b ?_
 (rw [hy ⟨rfl, by assumption, hw.2 ⟨by omega, by omega⟩⟩]; first | (rw [if_pos (by omega)]; exact ⟨rfl, rfl⟩) | (rw [if_neg (by omega), if_pos (by omega)]; exact ⟨rfl, rfl⟩) | (rw [if_neg (by omega), if_neg (by omega), if_pos ⟨by omega, by assumption⟩]; exact ⟨rfl, rfl⟩) | (rw [if_neg (by omega), if_neg (by omega), if_neg (fun hc => by first | omega | exact absurd hc.2 (by assumption))]; exact ⟨rfl, rfl⟩))
 refine A1G ?_
 exact A4z
def gxT : GX → ByteArray
 | .n n => B1e n
 | .b b => if b = true then txT else txF
 | .p => A7i
 | .f => A7j
theorem B1R {v : GE} (h : GV v) : A0d v.tm = gxT v.tx := by
 induction h with
 | num => rfl
 | @tru b => cases b <;> rfl
 | lam => rfl
 | pair _ _ _ _ => rfl
 | pf _ _ => rfl
 | pp _ _ => rfl
 | @inj A l e hv hg i =>
  rw [GE.tm, A7k (h0 := by simp)]
  ·exact i
  ·rw [A0N]
   refine decide_eq_false ?_
   rintro ⟨_, _, h | h⟩ <;> simp [GT.ty, Ty.k] at h
  ·rfl
theorem A7G {fuel : Int} (hf : N7 fuel 0 300 = true) (u : Tm) : S3 u fuel = ((I0 fuel.toNat u).1, (I0 fuel.toNat u).2.1, (I0 fuel.toNat u).2.2.1) := by
 unfold S3
 rw [if_pos (A2b.1 hf)]
theorem B1S {a : Tm} (h : (P1 a).isSome = true) : ∃ u t, T7 a = some (u, t) := by
 unfold P1 at h
 split at h
 ·exact ⟨_, _, by assumption⟩
 ·cases h
theorem B7L {a u : Tm} {t : Ty} (h : T7 a = some (u, t)) : P1 a = some t := by unfold P1; rw [h]
theorem B1T {a : Tm} {fuel : Int} (h : (P1 a).isSome = true) (hf : N7 fuel 0 300 = true) : (O1 a fuel).2.1 = 0 ∨ (O1 a fuel).2.1 = 2 ∨ (O1 a fuel).2.1 = 4 ∨ (O1 a fuel).2.1 = 5 := by
 obtain ⟨u, t, hu⟩ := B1S h
 obtain ⟨h1, h2, _⟩ := A4u hu
 have hg := B00 (fun l => l ≠ 0) (fun l h => by omega) fuel.toNat u t h1 h2 (B0X u (A1U h1).1)
 have he := A7G hf u
 by_cases h0 : (S3 u fuel).2.1 = 0
 ·rw [A4v hu h0]; exact .inl rfl
 ·rw [A3D hu h0, he]
  rcases hg with ⟨g, _⟩ | ⟨g, _⟩ | ⟨g, _⟩ | ⟨g, _⟩
  ·exact .inl g
  ·exact .inr (.inl g)
  ·exact .inr (.inr (.inl g))
  ·exact .inr (.inr (.inr g))
theorem B7M {a b : Tm} (h : (P1 a).isSome = true) (hp : X2 a b = true) : (P1 b).isSome = true := by
 obtain ⟨u, t, hu⟩ := B1S h
 obtain ⟨e, e', A, A', _, _, h3, _⟩ := B0y hu hp
 rw [B7L h3]; rfl
theorem B1U {a b : Tm} {fuel : Int} (hp : X2 a b = true) (hf : N7 fuel 0 300 = true) (h0 : (O1 a fuel).2.1 = 0) :
  ((O1 b fuel).2.1 = 0 ∧ (O1 b fuel).1 = (O1 a fuel).1) ∨ (O1 b fuel).2.1 = 4 ∨ (O1 b fuel).2.1 = 5 := by
 cases hu : T7 a with
 | none => rw [A7o hu] at h0; cases h0
 | some p =>
  obtain ⟨u, t⟩ := p
  obtain ⟨e, e', A, A', rfl, rfl, h3, hP⟩ := B0y hu hp
  have hv := (A4u h3).1
  by_cases he : (S3 e.tm fuel).2.1 = 0
  ·have hE := A7G hf e.tm
   have hE' := A7G hf e'.tm
   rw [A4v hu he, hE]
   rw [hE] at he
   obtain ⟨w, h1, h2, h4⟩ := B4B hP he fuel.toNat hv
   rcases h4 with ⟨g, w', g1, g2, g3⟩ | g | g
   ·refine .inl ?_
    rw [A4v h3 (by rw [hE']; exact g), hE']
    refine ⟨rfl, ?_⟩
    show A0d (I0 fuel.toNat e'.tm).1 = A0d (I0 fuel.toNat e.tm).1
    rw [g1, h1, B1R g2, B1R h2, g3]
   ·exact .inr (.inl (by rw [A3D h3 (by rw [hE']; show (I0 fuel.toNat e'.tm).2.1 ≠ 0; omega), hE']; exact g))
   ·exact .inr (.inr (by rw [A3D h3 (by rw [hE']; show (I0 fuel.toNat e'.tm).2.1 ≠ 0; omega), hE']; exact g))
  ·rw [A3D hu he] at h0; exact absurd h0 he
theorem A7H {a b : Tm} {fuel : Int} (h : (P1 a).isSome = true ∧ X2 a b = true ∧ N7 fuel 0 300 = true) : Y0 a b fuel = A4x (O1 a fuel) (O1 b fuel) := by unfold Y0; rw [if_pos h]
theorem B7N (a b : Tm) (fuel : Int) : Y0 a b fuel ≠ 4 := by
 by_cases h : (P1 a).isSome = true ∧ X2 a b = true ∧ N7 fuel 0 300 = true
 ·have hd := B1U h.2.1 h.2.2
  rw [A7H h]
  generalize O1 a fuel = r at hd ⊢
  generalize O1 b fuel = q at hd ⊢
  unfold A4x
  by_cases h1 : r.2.1 = 2
  ·rw [if_pos h1]; decide
  ·rw [if_neg h1]
   by_cases h2 : r.2.1 ≠ 0 ∨ q.2.1 = 4 ∨ q.2.1 = 5
   ·rw [if_pos h2]; decide
   ·rw [if_neg h2]
    rcases hd (by omega) with ⟨g1, g2⟩ | g | g
    ·rw [if_pos ⟨g1, g2.symm⟩]; decide
    ·omega
    ·omega
 ·rw [A4y h]; decide
theorem B7O {a b : Tm} {fuel : Int} (h : Y0 a b fuel ≠ 0) : ((O1 b fuel).2.1 ≠ 2 ∨ (O1 a fuel).2.1 ≠ 0) ∧ (O1 a fuel).2.1 ≠ 3 ∧ (O1 b fuel).2.1 ≠ 3 := by
 have hc : (P1 a).isSome = true ∧ X2 a b = true ∧ N7 fuel 0 300 = true := Classical.byContradiction fun hn => h (A4y hn)
 have ha := B1T hc.1 hc.2.2
 have hb := B1T (B7M hc.1 hc.2.1) hc.2.2
 refine ⟨?_, by omega, by omega⟩
 by_cases h0 : (O1 a fuel).2.1 = 0
 ·rcases B1U hc.2.1 hc.2.2 h0 with ⟨g1, _⟩ | g | g <;> exact .inl (by omega)
 ·exact .inr h0
mutual
theorem B1V : ∀ (a b c : Ty), V9 a b = true → V9 b c = true → V9 a c = true
 | .mk k ks, .mk k' ks', .mk k2 ks2, h1, h2 => by
  rw [A0A] at h1 h2 ⊢
  simp only [Bool.or_eq_true, Bool.and_eq_true, decide_eq_true_eq] at h1 h2 ⊢
  rcases h2 with h2 | ⟨rfl, h2⟩
  ·exact .inl h2
  ·rcases h1 with h1 | ⟨rfl, h1⟩
   ·exact .inl h1
   ·exact .inr ⟨rfl, B1W ks ks' ks2 h1 h2⟩
theorem B1W : ∀ (xs ys zs : List Ty), S4 xs ys = true → S4 ys zs = true → S4 xs zs = true
 | [], [], [], _, _ => rfl
 | [], [], _ :: _, _, h => by simp [S4] at h
 | [], _ :: _, _, h, _ => by simp [S4] at h
 | _ :: _, [], _, h, _ => by simp [S4] at h
 | _ :: _, _ :: _, [], _, h => by simp [S4] at h
 | a :: xs, b :: ys, c :: zs, h1, h2 => by
  rw [S4, Bool.and_eq_true] at h1 h2 ⊢
  exact ⟨B1V a b c h1.1 h2.1, B1W xs ys zs h1.2 h2.2⟩
end
mutual
theorem B1X : ∀ (a b c : Tm), W0 a b = true → W0 b c = true → W0 a c = true
 | .mk k nm num ty fr lb ks, .mk k' nm' num' ty' fr' lb' ks', .mk k2 nm2 num2 ty2 fr2 lb2 ks2, h1, h2 => by
  obtain ⟨rfl, rfl, rfl, t1, g1⟩ := A2R.1 h1
  obtain ⟨rfl, rfl, rfl, t2, g2⟩ := A2R.1 h2
  exact A2R.2 ⟨rfl, rfl, rfl, fun h => B1V _ _ _ (t1 h) (t2 h), B1Y ks ks' ks2 g1 g2⟩
theorem B1Y : ∀ (xs ys zs : List Tm), X1 xs ys = true → X1 ys zs = true → X1 xs zs = true
 | [], [], [], _, _ => rfl
 | [], [], _ :: _, _, h => by simp [X1] at h
 | [], _ :: _, _, h, _ => by simp [X1] at h
 | _ :: _, [], _, h, _ => by simp [X1] at h
 | _ :: _, _ :: _, [], _, h => by simp [X1] at h
 | a :: xs, b :: ys, c :: zs, h1, h2 => by
  rw [X1, Bool.and_eq_true] at h1 h2 ⊢
  exact ⟨B1X a b c h1.1 h2.1, B1Y xs ys zs h1.2 h2.2⟩
end
theorem B7P {a b c : Tm} (h1 : X2 a b = true) (h2 : X2 b c = true) : X2 a c = true := by
 unfold X2 at *
 rw [Bool.and_eq_true, Bool.and_eq_true] at *
 exact ⟨h1.1, h2.2.1, B1X a b c h1.2.2 h2.2.2⟩
theorem B1Z {a b : Tm} {fuel : Int} (h : Y0 a b fuel = 1) : ((P1 a).isSome = true ∧ X2 a b = true ∧ N7 fuel 0 300 = true) ∧ (O1 a fuel).2.1 = 0 ∧ (O1 b fuel).2.1 = 0 ∧ (O1 a fuel).1 = (O1 b fuel).1 := by
 have hc : (P1 a).isSome = true ∧ X2 a b = true ∧ N7 fuel 0 300 = true := Classical.byContradiction fun hn => by rw [A4y hn] at h; cases h
 rw [A7H hc] at h
 refine ⟨hc, ?_⟩
 generalize O1 a fuel = r at h ⊢
 generalize O1 b fuel = q at h ⊢
 unfold A4x at h
 by_cases h1 : r.2.1 = 2
 ·rw [if_pos h1] at h; cases h
 ·rw [if_neg h1] at h
  by_cases h2 : r.2.1 ≠ 0 ∨ q.2.1 = 4 ∨ q.2.1 = 5
  ·rw [if_pos h2] at h; cases h
  ·rw [if_neg h2] at h
   by_cases h3 : q.2.1 = 0 ∧ r.1 = q.1
   ·exact ⟨by omega, h3.1, h3.2⟩
   ·rw [if_neg h3] at h; cases h
theorem B7Q {a b c : Tm} {fuel : Int} (h1 : Y0 a b fuel = 1) (h2 : Y0 b c fuel = 1) : Y0 a c fuel = 1 := by
 obtain ⟨c1, r1, _, t1⟩ := B1Z h1
 obtain ⟨c2, r2, r3, t2⟩ := B1Z h2
 rw [A7H ⟨c1.1, B7P c1.2.1 c2.2.1, c1.2.2⟩]
 unfold A4x
 rw [if_neg (by omega), if_neg (by omega), if_pos ⟨r3, t1.trans t2⟩]
theorem B3.nine {G : IM} {t : Tm} {cells : List Value} (h : B3 G t cells) : ∃ v1 v2 v3 v4 v5 v6 v7 v8 v9, cells = [v1, v2, v3, v4, v5, v6, v7, v8, v9] := by
 obtain ⟨_, _, _, _, _, _, _, _, _, rfl, _⟩ := h.open
 exact ⟨_, _, _, _, _, _, _, _, _, rfl⟩
theorem A4A {G : IM} {e : Tm} {ce : List Value} {k : Int} {nm : ByteArray} {tk : Int} {tks : List Ty} {q p : Option Addr} {d c : Nat} (hk : H1 k) (ht : C1 G (.mk tk tks) [.int .i64 tk, .slice q tks.length d]) (h1 : B3 G e ce) (hs : Sl G p 1 c 9 ce) :
  B3 G (.mk k nm 0 (.mk tk tks) B4 0 [e]) [.int .i64 k, .string nm, .int .i64 0, .int .i64 tk, .slice q tks.length d, .int .i64 0, .slice none 0 0, .int .i64 0, .slice p 1 c] := by
 obtain ⟨a1, a2⟩ := A2K h1 hs
 exact B3.of9 (ks := [e]) hk ⟨by omega, by omega⟩ ⟨by omega, by omega⟩ ht (O3 _ ⟨by omega, by omega⟩) a1 a2
theorem A4B {G : IM} {e f : Tm} {ce cf : List Value} {k : Int} {nm : ByteArray} {p : Option Addr} {c : Nat} (hk : H1 k) (h1 : B3 G e ce) (h2 : B3 G f cf) (hs : Sl G p 2 c 9 (ce ++ cf)) :
  B3 G (.mk k nm 0 B4 B4 0 [e, f]) [.int .i64 k, .string nm, .int .i64 0, .int .i64 0, .slice none 0 0, .int .i64 0, .slice none 0 0, .int .i64 0, .slice p 2 c] := by
 have hL : E4 G [e, f] [ce, cf] := by simp only [E4]; exact ⟨ce, [cf], rfl, h1, cf, [], rfl, h2, rfl⟩
 exact B3.of9 (ks := [e, f]) hk ⟨by omega, by omega⟩ ⟨by omega, by omega⟩ (O3 _ ⟨by omega, by omega⟩) (O3 _ ⟨by omega, by omega⟩)
  (E0.of (by simpa using hs) rfl hL.all (fun x hx => by obtain ⟨q, hq⟩ := List.getElem?_of_mem hx; exact (hL.inv hq I3).2.one)) hL
theorem B7R {G : IM} {e f g : Tm} {ce cf cg : List Value} {k : Int} {nm : ByteArray} {p : Option Addr} {c : Nat} (hk : H1 k) (h1 : B3 G e ce) (h2 : B3 G f cf) (h3 : B3 G g cg) (hs : Sl G p 3 c 9 (ce ++ (cf ++ cg))) :
  B3 G (.mk k nm 0 B4 B4 0 [e, f, g]) [.int .i64 k, .string nm, .int .i64 0, .int .i64 0, .slice none 0 0, .int .i64 0, .slice none 0 0, .int .i64 0, .slice p 3 c] := by
 have hL : E4 G [e, f, g] [ce, cf, cg] := by simp only [E4]; exact ⟨ce, [cf, cg], rfl, h1, cf, [cg], rfl, h2, cg, [], rfl, h3, rfl⟩
 exact B3.of9 (ks := [e, f, g]) hk ⟨by omega, by omega⟩ ⟨by omega, by omega⟩ (O3 _ ⟨by omega, by omega⟩) (O3 _ ⟨by omega, by omega⟩)
  (E0.of (by simpa using hs) rfl hL.all (fun x hx => by obtain ⟨q, hq⟩ := List.getElem?_of_mem hx; exact (hL.inv hq I3).2.one)) hL
def mB : Nat → Nat
 | 0 => 200
 | n + 1 => 3 * mB n + 200
theorem A1v (n : Nat) : 200 ≤ mB n := by cases n <;> simp only [mB] <;> omega
def A1w (n : Nat) (depth : Int) (t : Ty) : Prop := Q6 4 t ∧ (n : Int) - 1000 ≤ depth ∧ depth ≤ 1000 ∧ ((depth ≤ 1 ∧ Q6 n t) ∨ (2 ≤ depth ∧ depth + 3 ≤ n))
theorem A1w.sub {n : Nat} {depth : Int} {t t' : Ty} (h : A1w (n + 1) depth t) (hd : 1 < depth) (h4 : Q6 4 t') : A1w n (depth - 1) t' := by
 obtain ⟨h1, h2, h3, h5⟩ := h
 refine ⟨h4, by omega, by omega, ?_⟩
 rcases h5 with ⟨h5, _⟩ | ⟨h5, h6⟩
 ·omega
 ·by_cases h7 : 3 ≤ depth
  ·exact .inr ⟨by omega, by omega⟩
  ·exact .inl ⟨by omega, h4.le (by omega)⟩
theorem A1w.kid {n : Nat} {depth : Int} {k : Int} {ks : List Ty} {t' : Ty} (h : A1w (n + 1) depth (.mk k ks)) (ht : t' ∈ ks) : A1w n (depth - 1) t' := by
 have h4 : Q6 4 t' := (A6m h.1 ht).up
 by_cases hd : 1 < depth
 ·exact h.sub hd h4
 ·obtain ⟨h1, h2, h3, h5⟩ := h
  refine ⟨h4, by omega, by omega, .inl ⟨by omega, ?_⟩⟩
  rcases h5 with ⟨_, h5⟩ | ⟨h5, _⟩
  ·exact A6m h5 ht
  ·omega
theorem A1w.pos {n : Nat} {depth : Int} {k : Int} {ks : List Ty} (h : A1w n depth (.mk k ks)) (hd : 1 < depth ∨ k = 4 ∨ k = 5) : ∃ m, n = m + 1 := by
 cases n with
 | succ m => exact ⟨m, rfl⟩
 | zero =>
  obtain ⟨h1, h2, h3, h5⟩ := h
  rcases h5 with ⟨h5, h6⟩ | ⟨h5, h6⟩
  ·have := h6.2
   omega
  ·omega
theorem Q1 : B4.small := by simp [B4, Ty.small, Ty.smallL]
theorem O4 {k : Int} {nm : ByteArray} {num : Int} (h : nm.size ≤ 1) : (Tm.mk k nm num B4 B4 0 []).small := by
 simp only [Tm.small, Tm.smallL]; exact ⟨by omega, Q1, Q1, by simp, trivial⟩
theorem K9 {k : Int} {nm : ByteArray} {num : Int} {ty : Ty} {a : Tm} (h : nm.size ≤ 1) (ht : ty.small) (ha : a.small) : (Tm.mk k nm num ty B4 0 [a]).small := by
 simp only [Tm.small, Tm.smallL]; exact ⟨by omega, ht, Q1, by simp, ha, trivial⟩
theorem T5 {k : Int} {nm : ByteArray} {num : Int} {a b : Tm} (h : nm.size ≤ 1) (ha : a.small) (hb : b.small) : (Tm.mk k nm num B4 B4 0 [a, b]).small := by
 simp only [Tm.small, Tm.smallL]; exact ⟨by omega, Q1, Q1, by simp, ha, hb, trivial⟩
theorem A0C {k : Int} {nm : ByteArray} {num : Int} {a b c : Tm} (h : nm.size ≤ 1) (ha : a.small) (hb : b.small) (hc : c.small) : (Tm.mk k nm num B4 B4 0 [a, b, c]).small := by
 simp only [Tm.small, Tm.smallL]; exact ⟨by omega, Q1, Q1, by simp, ha, hb, hc, trivial⟩
theorem A0D : (Ty.mk 1 []).small := by simp [Ty.small, Ty.smallL]
def B10 (br : Nat) (pb : Option Addr) (nb cb : Nat) (bs : List UInt8) (n : Nat) : Prop := ∀ (depth : Int) (t : Ty) (p : Nat) (G : IM) (pc : Option Addr) (nc cc : Nat) (cells : List Value), A1w n depth t → (n : Int) - 1000 ≤ depth → depth ≤ 1000 → nc + n ≤ 40 → Z3 G pc nc cc → C1 G t cells → Sl G pb nb cb 1 (N9 bs) → p + mB n < 1099511627776 →
 Fn Tryz.prog 78 [.pointer (some ⟨br, 0, none⟩), .slice pc nc cc, .agg ⟨cells⟩, .int .i64 depth] [rd br pb nb cb p] G
  (A0q br pb nb cb p (mB n) (fun G' v => ∃ e cells, v = .agg ⟨cells⟩ ∧ B3 G' e cells ∧ e.small ∧ D6 e ≤ mB n))
theorem B11 (br : Nat) (pb : Option Addr) (nb cb : Nat) (bs : List UInt8) (hnb : nb ≤ 2000) (m : Nat) (hM : B10 br pb nb cb bs m) (depth : Int) (a t : Ty) (p : Nat) (G : IM) (pc : Option Addr) (nc cc : Nat) (ca cells : List Value)
  (hfu : A1w m depth t) (hd0 : (m : Int) - 1000 ≤ depth) (hd1 : depth ≤ 1000) (hnc : nc + 1 + m ≤ 40) (hx : Z3 G pc nc cc) (hra : C1 G a ca) (haa : F8 a ∧ K6 a ≤ 30) (hrt : C1 G t cells) (hb : Sl G pb nb cb 1 (N9 bs)) (hp : p + 1 + mB m < 1099511627776) :
  Fn Tryz.prog 120 [.pointer (some ⟨br, 0, none⟩), .slice pc nc cc, .agg ⟨ca⟩, .agg ⟨cells⟩, .int .i64 depth] [rd br pb nb cb p] G
   (A0q br pb nb cb p (1 + mB m) (fun G' v => ∃ e cells, v = .agg ⟨cells⟩ ∧ B3 G' e cells ∧ e.small ∧ D6 e ≤ 1 + mB m)) := by
 obtain ⟨ak, aks⟩ := a
 obtain ⟨tk, tks⟩ := t
 obtain ⟨pa, cca, ea, rfl, _⟩ := hra.open
 obtain ⟨pt, cct, et, rfl, _⟩ := hrt.open
 simp only [Ty.k, Ty.ks] at hra hrt ⊢
 refine C2 Tryz.func120 rfl Tryz.ntmps120 Tryz.results120 rfl ?_
 intro w0
 refine A5 ?_
 refine sE (C7 rfl rfl) rfl (fun b3 => ?_)
 refine sE (C7 rfl rfl) rfl (fun b4 => ?_)
 refine sE (A8 rfl) rfl (fun b5 => ?_)
 refine B2 ?_
 (refine J5 (D2 rfl rfl rfl (by omega) (by unfold maxLen; omega) rfl) rfl ?_; rintro _ ⟨b11, rfl⟩)
 (refine V0 (by repeat (first | exact Pk.here | apply Pk.there)) (fun G4 hle4 hsl4 _ => ?_); refine I9 rfl (A6x G4 br pb nb cb p bs _ _ _ _ (hb.mono hle4) hnb (by omega) hsl4 (by decide)) (Pk.perm (by repeat (first | exact Pk.here | apply Pk.there))) rfl rfl (fun v G5 outs hle5 hh => ?_); obtain ⟨rfl, rfl, hv⟩ := hh; obtain ⟨nm, rfl, hnm⟩ : ∃ nm : ByteArray, v = .string nm ∧ nm.size ≤ 1 := (by simp only [List.mem_cons, List.not_mem_nil, or_false] at hv; rcases hv with rfl | rfl | rfl | rfl <;> exact ⟨_, rfl, by decide⟩); replace hra := hra.mono hle4; replace hx := hx.mono hle4; replace hb := hb.mono hle4; replace hrt := hrt.mono hle4;)
 refine B7 ?_
 refine D8 D9 rfl ?_
 refine I6 (i := 0) (l' := [tt,ff,ff,ff,ff,ff,ff,ff,ff,ff,ff,ff,ff,ff]) rfl D3 (qM rfl) rfl (by kernel_rfl) rfl rfl ?_
 refine aL 1 rfl (A6 rfl rfl) rfl ?_
 refine aP 3 rfl (qM rfl) rfl ?_
 refine aP 4 rfl (qM rfl) rfl ?_
 refine aP 5 rfl (qM rfl) rfl ?_
 refine aL 6 rfl (A6 rfl rfl) rfl ?_
 refine aL 8 rfl (A6 rfl rfl) rfl ?_
 refine aP 9 rfl (qM rfl) rfl ?_
 refine A4 2 ?_
 (refine H4 rfl rfl (P7 _ _ _ haa.1.small hra) rfl rfl rfl (fun v G6 hle6 hh => ?_); obtain ⟨cs1, F1, rfl, hs1, hn1⟩ := hh; obtain ⟨p1, c1, rfl, _⟩ := hs1.open; have hr1 := hs1.R.mono (C9.le G6 _); replace hra := hra.mono hle6; replace hx := hx.mono hle6; replace hb := hb.mono hle6; replace hrt := hrt.mono hle6;)
 refine A4 7 ?_
 (refine H4 rfl rfl (B4i _ pc nc cc nm (.mk ak aks) _ hx (by omega) hra haa.1 haa.2 hnm) rfl rfl rfl (fun v G7 hle7 hh => ?_); obtain ⟨pm, cm, rfl, hxm⟩ := hh; replace hr1 := hr1.mono hle7; replace hx := hx.mono hle7; replace hb := hb.mono hle7; replace hrt := hrt.mono hle7; have hcall := hM depth (.mk tk tks) (p + 1) _ pm (nc + 1) cm _ hfu hd0 hd1 (by omega) hxm hrt hb (by omega))
 refine A4 10 ?_
 (refine X8 (l' := [tt,tt,tt,tt,tt,tt,tt,tt,tt,tt,tt,ff,ff,ff]) rfl rfl hcall (Pk.perm (by repeat (first | exact Pk.here | apply Pk.there))) rfl rfl rfl (by repeat (first | exact A9.nil | apply A9.dep (by decide +kernel) | apply A9.blk (by decide +kernel) (by repeat (first | exact Pk.here | apply Pk.there)) (by repeat first | exact mH | apply mT))) (fun v G8 outs hle8 hh => ?_); obtain ⟨p8, hp81, hp82, rfl, e8, c8, rfl, hr8, hs8, hc8⟩ := hh; obtain ⟨a1, a2, a3, a4, a5, a6, a7, a8, a9, rfl⟩ := hr8.nine; replace hr1 := hr1.mono hle8)
 refine A4 11 ?_
 (refine E6 rfl (D2 rfl rfl rfl (by omega) (by unfold maxLen; omega) rfl) rfl rfl ?_; rintro _ ⟨b33, rfl⟩)
 refine aP 12 rfl (X5 rfl rfl) rfl ?_
 refine A4 13 ?_
 refine R9 rfl rfl rfl rfl rfl rfl rfl rfl (by decide +kernel) (by repeat first | exact Sw.here | apply Sw.there) (by rfl) ?_
 refine A5 ?_
 (refine H3 (cs := [a1, a2, a3, a4, a5, a6, a7, a8, a9]) (by repeat (first | exact Pk.here | apply Pk.there)) (fun G9 hle9 hsl9 hno9 => ?_); have hN := A4A (k := 5) (nm := nm) ⟨by omega, by omega⟩ (hr1.mono hle9) (hr8.mono hle9) hsl9)
 refine tT ?_
 refine H7 (outs := [rd br pb nb cb p8]) (rC rfl (A6 rfl rfl)) (by repeat (first | exact A0.nil | refine A0.cons Pk.here ?_ | refine A0.cons (Pk.there Pk.here) ?_ | refine A0.cons (Pk.there (Pk.there Pk.here)) ?_ | apply A0.drop)) ?_
 (exact ⟨p8, by omega, by omega, rfl, _, _, rfl, hN, K9 hnm haa.1.small hs8, by simp only [D6, E9]; omega⟩)
end Gw
end Go.Proofs.YthpdjmbpbdbodaaGreatDoor
