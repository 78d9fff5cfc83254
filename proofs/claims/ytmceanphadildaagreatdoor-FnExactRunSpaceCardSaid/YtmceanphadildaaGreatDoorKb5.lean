/-
  The reference's insertion of casts, exactly.
-/
import Derived.Test.YtmceanphadildaaGreatDoorKb4
import Derived.Test.YtmceanphadildaaGreatDoorKb3
import Derived.Lib.ItoaNum
import Derived.Test.YtmceanphadildaaGreatDoorKb1
import Derived.Test.YtmceanphadildaaGreatDoorKb2
set_option linter.unusedVariables false
set_option linter.unusedSimpArgs false
set_option maxHeartbeats 0
set_option maxRecDepth 100000
set_option synthInstance.maxSize 4000
set_option synthInstance.maxHeartbeats 0
namespace Go.Proofs.YtmceanphadildaaGreatDoor
open Go Go.RowKit
namespace Gw
theorem B3r {e : Tm} (h : V7 e = true) : A0F e = O0 [] e := by
 have hs := ((A2p e).1 h).1
 obtain ⟨h1, h2⟩ := A2A e 1 [] 0 hs A3f
 unfold A0F
 cases hE : N0 [] e 0 with
 | none => rw [A8F h hE, h2 hE]
 | some r =>
  obtain ⟨u, a, l⟩ := r
  rw [A8G h hE, (h1 u a l hE).1]
theorem B3s {e u : Tm} {t : Ty} (h : S4 e = some (u, t)) : V7 e = true ∧ ∃ l, N0 [] e 0 = some (u, t, l) := by
 unfold S4 at h
 split at h
 ·rename_i hv
  refine ⟨hv, ?_⟩
  split at h
  ·rename_i u' t' l' he; cases h; exact ⟨l', he⟩
  ·cases h
 ·cases h
def A5J (t : Ty) (x : Bool) (G : IM) : IM → Value → List A5 → Prop := K9 fun G' v => ∃ cells, v = .tuple ⟨[.agg ⟨cells⟩, .bool x]⟩ ∧ C7 G' (if x = true then t else C6) cells
theorem B3t (t : Ty) (G : IM) (cells : List Value) (hr : C7 G t cells) : Fn Tryz.prog 103 [.agg ⟨cells⟩, .bool true] [] G (A5J t true G) := by
 obtain ⟨p, c, e, rfl, _⟩ := hr.open
 refine D5 Tryz.func103 rfl Tryz.ntmps103 Tryz.results103 rfl ?_
 intro w0
 refine A3 ?_
 refine sE (D8 rfl rfl) rfl (fun b3 => ?_)
 refine sE (A4 rfl) rfl (fun b4 => ?_)
 refine Z1 ?_
 refine C5 (rC rfl (A1 rfl rfl)) (rT rfl) ?_
 (exact ⟨rfl, _, rfl, hr⟩)
theorem B3u (t : Ty) (G : IM) (cells : List Value) (hr : C7 G t cells) : Fn Tryz.prog 103 [.agg ⟨cells⟩, .bool false] [] G (A5J t false G) := by
 obtain ⟨p, c, e, rfl, _⟩ := hr.open
 refine D5 Tryz.func103 rfl Tryz.ntmps103 Tryz.results103 rfl ?_
 intro w0
 refine A3 ?_
 refine sE (D8 rfl rfl) rfl (fun b3 => ?_)
 refine sE (A4 rfl) rfl (fun b4 => ?_)
 refine Z0 ?_
 refine C5 (rC rfl (A1 rfl rfl)) (rT rfl) ?_
 (exact ⟨rfl, _, rfl, N9 _ ⟨by omega, by omega⟩⟩)
theorem B3v (t : Ty) (x : Bool) (G : IM) (cells : List Value) (hr : C7 G t cells) : Fn Tryz.prog 103 [.agg ⟨cells⟩, .bool x] [] G (A5J t x G) := by
 cases x
 ·exact B3u t G cells hr
 ·exact B3t t G cells hr
theorem A1h.sure {o : Option Ty} {t : Ty} {G G' : IM} {cells : List Value} (h : ∀ u, o = some u → u = t) (hr : C7 G' (if o.isSome = true then t else C6) cells) : A1h o G G' (.tuple ⟨[.agg ⟨cells⟩, .bool o.isSome]⟩) [] := by
 cases o with
 | none => exact ⟨rfl, cells, C6, rfl, hr, by simp⟩
 | some u => exact ⟨rfl, cells, t, rfl, hr, fun x hx => by cases hx; exact (h _ rfl).symm⟩
theorem B3w (e : Tm) (G : IM) (cells : List Value) (hcnt : J1 e ≤ 4294967296) (hr : D1 G e cells) :
  Fn Tryz.prog 130 [.slice none 0 0, .agg ⟨cells⟩] [] G (A1h (A0F e) G) := by
 have hl := hr.len
 have hone := hr.one
 have hw := B12 e G cells hcnt hr
 have hT := fun h : V7 e = true => A8K e 1 [] G none 0 0 cells ((A2p e).1 h).1 zV A3f (O9.nil G) hr
 have hts := fun h => @B3r e h
 have hno := @B3b e
 refine D5 Tryz.func130 rfl Tryz.ntmps130 Tryz.results130 rfl ?_
 intro w0
 refine A3 ?_
 refine sE (D8 rfl rfl) rfl (fun b3 => ?_)
 refine sE (A4 rfl) rfl (fun b4 => ?_)
 refine A8 ?_
 refine E5 rfl ((B2d _)) rfl rfl ?_
 refine A3 ?_
 refine sL (A2 rfl rfl (C9 zO) zS) rfl rfl ?_
 refine I5 rfl (hw) rfl rfl (fun h16 => ?_) (fun h16 => ?_)
 refine H3 ?_
 refine sL (A2 rfl rfl (C9 zO) zS) rfl rfl ?_
 (refine E7 rfl (hT zS) rfl rfl (fun v G1 hle1 hh => ?_); obtain ⟨mt, mc, rfl, hmr, hma, hmu⟩ := hh; obtain ⟨p1, c1, e1, rfl, _⟩ := hmr.open; have hmo := hts zS)
 refine A3 ?_
 (refine E7 rfl (B3v mt _ _ _ hmr) rfl rfl (fun v G2 hle2 hh => ?_); obtain ⟨mc2, rfl, hmr2⟩ := hh; obtain ⟨p2, c2, e2, rfl, _⟩ := hmr2.open)
 refine A8 ?_
 refine C5 (rC rfl (A1 rfl rfl)) (rT rfl) ?_
 (rw [hmo]; exact A1h.sure hmu hmr2)
 refine J5 ?_
 refine C5 (rC rfl (A1 rfl rfl)) (rT rfl) ?_
 (exact A1h.no (u := C6) (N9 _ ⟨by omega, by omega⟩) rfl (hno zS))
theorem B3x (e : Tm) (G : IM) (cells : List Value) (hcnt : J1 e ≤ 4294967296) (hr : D1 G e cells) :
  Fn Tryz.prog 78 [.agg ⟨cells⟩] [] G (A1h (A0F e) G) := by
 have hl := hr.len
 have hone := hr.one
 refine D5 Tryz.func78 rfl Tryz.ntmps78 Tryz.results78 rfl ?_
 intro w0
 refine A3 ?_
 refine sE (D8 rfl rfl) rfl (fun b3 => ?_)
 refine sE (A4 rfl) rfl (fun b4 => ?_)
 refine A9 ?_
 refine sL (A2 rfl rfl (C9 zO) zS) rfl rfl ?_
 (refine E7 rfl (B3w e G cells hcnt hr) rfl rfl (fun v G1 hle1 hh => ?_); obtain ⟨cu, u, rfl, hru, hu⟩ := hh; obtain ⟨p1, c1, e1, rfl, _⟩ := hru.open)
 refine A8 ?_
 refine C5 (rC rfl (A1 rfl rfl)) (rT rfl) ?_
 (exact ⟨rfl, _, u, rfl, hru, hu⟩)
def A1m (e : Tm) (a b : Ty) (l : Int) : IM → Value → List A5 → Prop := K9 fun G' v => ∃ cells, v = .tuple ⟨[.agg ⟨cells⟩, .int .i64 (if M5 a b = true then l else l + 1)]⟩ ∧ D1 G' (if M5 a b = true then e else P3 e a b l) cells
theorem A1m.yes {G : IM} {e : Tm} {a b : Ty} {l : Int} {cells : List Value} (h : M5 a b = true) (hr : D1 G e cells) : A1m e a b l G (.tuple ⟨[.agg ⟨cells⟩, .int .i64 l]⟩) [] := ⟨rfl, cells, by rw [if_pos h], by rw [if_pos h]; exact hr⟩
theorem A1m.no {G : IM} {e : Tm} {a b : Ty} {l : Int} {cells : List Value} (h : M5 a b = false) (hr : D1 G (P3 e a b l) cells) : A1m e a b l G (.tuple ⟨[.agg ⟨cells⟩, .int .i64 (l + 1)]⟩) [] := ⟨rfl, cells, by rw [if_neg (by rw [h]; decide)], by rw [if_neg (by rw [h]; decide)]; exact hr⟩
theorem B3y (e : Tm) (a b : Ty) (label : Int) (G : IM) (ce ca cb : List Value) (hlab : -1099511627776 ≤ label ∧ label ≤ 1099511627776) (hr : D1 G e ce) (hra : C7 G a ca) (hrb : C7 G b cb) (hsa : a.small) (hsb : b.small) :
  Fn Tryz.prog 102 [.agg ⟨ce⟩, .agg ⟨ca⟩, .agg ⟨cb⟩, .int .i64 label] [] G (A1m e a b label) := by
 have hl := hr.len
 have hone := hr.one
 obtain ⟨hlab1, hlab2⟩ := hlab
 have hSame := B3g a b G ca cb hra hrb
 obtain ⟨ak, aks⟩ := a
 obtain ⟨bk, bks⟩ := b
 obtain ⟨pa, cca, ea, rfl, _⟩ := hra.open
 obtain ⟨pb, ccb, eb, rfl, _⟩ := hrb.open
 simp only [Ty.k, Ty.ks] at hra hrb hSame ⊢
 obtain ⟨v1, v2, v3, v4, v5, v6, v7, v8, v9, rfl⟩ := A3Z hl
 refine D5 Tryz.func102 rfl Tryz.ntmps102 Tryz.results102 rfl ?_
 intro w0
 refine A3 ?_
 refine sE (D8 rfl rfl) rfl (fun b3 => ?_)
 refine sE (D8 rfl rfl) rfl (fun b4 => ?_)
 refine sE (D8 rfl rfl) rfl (fun b5 => ?_)
 refine sE (A4 rfl) rfl (fun b6 => ?_)
 refine B4 ?_
 refine I5 rfl (hSame) rfl rfl (fun h15 => ?_) (fun h15 => ?_)
 refine A9 ?_
 refine sL (A2 rfl rfl (C9 zO) hl) rfl rfl ?_
 refine I0 ?_
 refine sS rfl rfl rfl hl hone rfl ?_ (hu := by exact D7 hl.symm)
 refine A9 ?_
 refine C5 (rC rfl (A2 rfl rfl (C9 zO) hl)) (rT rfl) ?_
 (exact A1m.yes zS hr)
 refine A7 ?_
 refine D3 D4 rfl ?_
 refine K3 (i := 5) (l' := [ff,ff,ff,ff,ff,tt,ff,ff,ff,ff,ff,ff]) rfl C1 (A2 rfl rfl (C9 zO) hl) rfl zT rfl rfl ?_
 refine aL 0 rfl (A1 rfl rfl) rfl ?_
 refine aL 2 rfl (A1 rfl rfl) rfl ?_
 refine aP 4 rfl (qM rfl) rfl ?_
 refine aP 8 rfl (qM rfl) rfl ?_
 refine aP 9 rfl (H9 rfl rfl zV zV) rfl ?_
 refine J8 (j := 1) (j' := 6) zT ?_ ?_
 (refine D6 rfl rfl (X1 _ _ _ hsa hra) rfl rfl rfl (fun v G1 hle1 hh => ?_); obtain ⟨cs1, F1, rfl, hs1, hn1⟩ := hh; obtain ⟨p1, c1, rfl, _⟩ := hs1.open; have hC2 := X1 _ G1 _ hsb (hrb.mono hle1))
 refine J8 (j := 3) (j' := 6) zT ?_ ?_
 (refine D6 rfl rfl hC2 rfl rfl rfl (fun v G2 hle2 hh => ?_); obtain ⟨cs2, F2, rfl, hs2, hn2⟩ := hh; obtain ⟨p2, c2, rfl, _⟩ := hs2.open; have hr1 := hs1.R.mono ((E2.le G1 _).trans hle2); have hr2 := hs2.R.mono (E2.le G2 G1); have hre := hr.mono (hle1.trans hle2))
 refine A0 6 ?_
 (refine B6 rfl (C0 rfl rfl rfl zV zQ rfl) rfl rfl ?_; rintro _ ⟨b49, rfl⟩)
 refine aP 7 rfl (K8 rfl rfl) rfl ?_
 refine A0 10 ?_
 refine B8 rfl ?_
 refine aP 11 rfl (qA rfl) rfl ?_
 refine A3 ?_
 (refine E0 (cs := [v1, v2, v3, v4, v5, v6, v7, v8, v9]) zM (fun G5 hle5 hsl5 hno5 => ?_); obtain ⟨hone1, hone2⟩ := A5t (hre.mono hle5) hsl5)
 refine tT ?_
 refine C5 (rC rfl (A1 rfl rfl)) (rT rfl) ?_
 (exact A1m.no zS (D1.of9 (ks := [e]) ⟨by omega, by omega⟩ ⟨by omega, by omega⟩ ⟨by omega, by omega⟩ (hr2.mono hle5) (hr1.mono hle5) hone1 hone2))
 (refine B6 rfl (C0 rfl rfl rfl zV zQ rfl) rfl rfl ?_; rintro _ ⟨b60, rfl⟩)
 refine A0 3 ?_
 (refine D6 rfl rfl hC2 rfl rfl rfl (fun v G2 hle2 hh => ?_); obtain ⟨cs2, F2, rfl, hs2, hn2⟩ := hh; obtain ⟨p2, c2, rfl, _⟩ := hs2.open; have hr1 := hs1.R.mono ((E2.le G1 _).trans hle2); have hr2 := hs2.R.mono (E2.le G2 G1); have hre := hr.mono (hle1.trans hle2))
 refine aP 7 rfl (K8 rfl rfl) rfl ?_
 refine A0 10 ?_
 refine B8 rfl ?_
 refine aP 11 rfl (qA rfl) rfl ?_
 refine A3 ?_
 (refine E0 (cs := [v1, v2, v3, v4, v5, v6, v7, v8, v9]) zM (fun G5 hle5 hsl5 hno5 => ?_); obtain ⟨hone1, hone2⟩ := A5t (hre.mono hle5) hsl5)
 refine tT ?_
 refine C5 (rC rfl (A1 rfl rfl)) (rT rfl) ?_
 (exact A1m.no zS (D1.of9 (ks := [e]) ⟨by omega, by omega⟩ ⟨by omega, by omega⟩ ⟨by omega, by omega⟩ (hr2.mono hle5) (hr1.mono hle5) hone1 hone2))
 (refine B6 rfl (C0 rfl rfl rfl zV zQ rfl) rfl rfl ?_; rintro _ ⟨b73, rfl⟩)
 refine A0 1 ?_
 (refine D6 rfl rfl (X1 _ _ _ hsa hra) rfl rfl rfl (fun v G1 hle1 hh => ?_); obtain ⟨cs1, F1, rfl, hs1, hn1⟩ := hh; obtain ⟨p1, c1, rfl, _⟩ := hs1.open; have hC2 := X1 _ G1 _ hsb (hrb.mono hle1))
 refine A0 3 ?_
 (refine D6 rfl rfl hC2 rfl rfl rfl (fun v G2 hle2 hh => ?_); obtain ⟨cs2, F2, rfl, hs2, hn2⟩ := hh; obtain ⟨p2, c2, rfl, _⟩ := hs2.open; have hr1 := hs1.R.mono ((E2.le G1 _).trans hle2); have hr2 := hs2.R.mono (E2.le G2 G1); have hre := hr.mono (hle1.trans hle2))
 refine aP 7 rfl (K8 rfl rfl) rfl ?_
 refine A0 10 ?_
 refine B8 rfl ?_
 refine aP 11 rfl (qA rfl) rfl ?_
 refine A3 ?_
 (refine E0 (cs := [v1, v2, v3, v4, v5, v6, v7, v8, v9]) zM (fun G5 hle5 hsl5 hno5 => ?_); obtain ⟨hone1, hone2⟩ := A5t (hre.mono hle5) hsl5)
 refine tT ?_
 refine C5 (rC rfl (A1 rfl rfl)) (rT rfl) ?_
 (exact A1m.no zS (D1.of9 (ks := [e]) ⟨by omega, by omega⟩ ⟨by omega, by omega⟩ ⟨by omega, by omega⟩ (hr2.mono hle5) (hr1.mono hle5) hone1 hone2))
def P0 (w ts : List Ty) : List Ty := if w = [] then ts else w
theorem A3k {a : Ty} {w ts : List Ty} : P0 (a :: w) ts = a :: w := by unfold P0; rw [if_neg zW]
def T9 (ws : List Ty) (n : Nat) (G : IM) : IM → Value → List A5 → Prop := K9 fun G' v => ∃ p c es, v = .slice p n c ∧ ws.length = n ∧ C8 G' p n c 2 es ∧ F4 G' ws es
theorem T9.mk {G G' : IM} {p : Option Addr} {n c : Nat} {ws ws' : List Ty} {es : List (List Value)} (he : ws = ws') (hl : ws'.length = n) (hs : Sl G' p n c 2 es.flatten) (hst : F4 G' ws' es) : T9 ws n G G' (.slice p n c) [] := by
 subst he
 exact ⟨rfl, p, c, es, rfl, hl, C8.of hs (by rw [hst.len, hl]) hst.all (fun e he => (hst.each e he).2), hst⟩
theorem T9.mk1 {G G' : IM} {p : Option Addr} {n c : Nat} {ws : List Ty} {a : Ty} {ca : List Value} (he : ws = [a]) (hn : n = 1) (hs : Sl G' p 1 c 2 ca) (ha : C7 G' a ca) : T9 ws n G G' (.slice p 1 c) [] := by
 subst hn
 exact T9.mk (ws' := [a]) (es := [ca]) he rfl (by simpa using hs) ⟨_, _, rfl, ha, rfl⟩
theorem T9.mk2 {G G' : IM} {p : Option Addr} {n c : Nat} {ws : List Ty} {a b : Ty} {ca cb : List Value} (he : ws = [a, b]) (hn : n = 2) (hs : Sl G' p 2 c 2 (ca ++ cb)) (ha : C7 G' a ca) (hb : C7 G' b cb) : T9 ws n G G' (.slice p 2 c) [] := by
 subst hn
 exact T9.mk (ws' := [a, b]) (es := [ca, cb]) he rfl (by simpa using hs) ⟨_, _, rfl, ha, _, _, rfl, hb, rfl⟩
theorem T9.mk3 {G G' : IM} {p : Option Addr} {n c : Nat} {ws : List Ty} {a b d : Ty} {ca cb cd : List Value} (he : ws = [a, b, d]) (hn : n = 3) (hs : Sl G' p 3 c 2 (ca ++ (cb ++ cd))) (ha : C7 G' a ca) (hb : C7 G' b cb) (hd : C7 G' d cd) : T9 ws n G G' (.slice p 3 c) [] := by
 subst hn
 exact T9.mk (ws' := [a, b, d]) (es := [ca, cb, cd]) he rfl (by simpa using hs) ⟨_, _, rfl, ha, _, _, rfl, hb, _, _, rfl, hd, rfl⟩
section
variable {cx : Cx} {k : Int} {nm : ByteArray} {ty : Ty} {ts w : List Ty} {t : Ty}
theorem wo6 (hk : k = 6) (h : L6 cx k nm ty ts = some (w, t)) (hl : 0 < ts.length) : ∃ a b, O8 4 ts[0] = some (a, b) ∧ P0 w ts = [.mk 4 [a, b], a] := by
 subst hk
 rw [mW6, gD hl] at h
 split at h
 ·rename_i a b hm
  split at h
  ·cases h; exact ⟨a, _, hm, A3k⟩
  ·cases h
 ·cases h
theorem B3z (hk : k = 7 ∨ k = 8) (h : L6 cx k nm ty ts = some (w, t)) : P0 w ts = [O4, O4] := by
 rw [S3 hk] at h
 split at h
 ·cases h; exact A3k
 ·cases h
theorem wo9 (hk : k = 9) (h : L6 cx k nm ty ts = some (w, t)) : P0 w ts = [T0, t, t] := by
 subst hk
 rw [mW9] at h
 split at h
 ·cases h; exact A3k
 ·cases h
theorem B3A (hk : k = 11 ∨ k = 12) (h : L6 cx k nm ty ts = some (w, t)) (hl : 0 < ts.length) : ∃ a b, O8 5 ts[0] = some (a, b) ∧ P0 w ts = [.mk 5 [a, b]] := by
 rw [A2z hk, gD hl] at h
 split at h
 ·rename_i a b hm; cases h; exact ⟨a, b, hm, A3k⟩
 ·cases h
theorem B3B (hk : k = 13) (h : L6 cx k nm ty ts = some (w, t)) : P0 w ts = [t] := by
 subst hk
 rw [A12] at h
 split at h
 ·cases h; exact A3k
 ·cases h
theorem wo0 (hk : 1 ≤ k ∧ k ≤ 5 ∨ k = 10) (h : L6 cx k nm ty ts = some (w, t)) : P0 w ts = ts := by
 have : w = [] := by
  have hk' : k = 1 ∨ k = 2 ∨ (k = 3 ∨ k = 4) ∨ k = 5 ∨ k = 10 := by omega
  rcases hk' with rfl | rfl | hk | rfl | rfl
  ·rw [mW1] at h; split at h <;> cases h; rfl
  ·rw [mW2] at h; cases h; rfl
  ·rw [A3b hk] at h; cases h; rfl
  ·rw [mW5] at h; cases h; rfl
  ·rw [A33] at h; cases h; rfl
 subst this; rfl
end
theorem B3C (cx : Cx) (k : Int) (nm : ByteArray) (num : Int) (ty fr : Ty) (lb : Int) (ks : List Tm) (ts w : List Ty) (t : Ty) (G : IM) (cells tcells : List Value) (p : Option Addr) (c : Nat) (es : List (List Value))
  (hw : L6 cx k nm ty ts = some (w, t)) (hk14 : k ≠ 14) (hops : H8 k = ts.length) (hr : D1 G (.mk k nm num ty fr lb ks) cells) (hsl : C8 G p ts.length c 2 es) (hkl : F4 G ts es) (har : ∀ t ∈ ts, H1 t) (hrt : C7 G t tcells) :
  Fn Tryz.prog 133 [.agg ⟨cells⟩, .slice p ts.length c, .agg ⟨tcells⟩] [] G (T9 (P0 w ts) ts.length G) := by
 have hone := hr.one
 have hop := A2r hops
 have hkr : 1 ≤ k ∧ k ≤ 14 := A37 (by rw [hops]; omega)
 have ha0 := fun h : 0 < ts.length => har _ (List.getElem_mem h)
 obtain ⟨tyk, tyks⟩ := ty
 obtain ⟨fk, fks⟩ := fr
 obtain ⟨tk, tks⟩ := t
 obtain ⟨q9, d9, e9, rfl, _⟩ := hrt.open
 obtain ⟨pt, ct, pf, cf, pk, ck, ek, rfl, hk, hnum, hlb, hrty, hrfr, _, _⟩ := hr.open9
 have o6 := fun h hl => wo6 h hw hl
 have o78 := fun h => B3z h hw
 have o9 := fun h => wo9 h hw
 have o11 := fun h hl => B3A h hw hl
 have o13 := fun h => B3B h hw
 have o0 := fun h => wo0 h hw
 refine D5 Tryz.func133 rfl Tryz.ntmps133 Tryz.results133 rfl ?_
 intro w0
 refine A3 ?_
 refine sE (D8 rfl rfl) rfl (fun b3 => ?_)
 refine sE (D8 rfl rfl) rfl (fun b4 => ?_)
 refine H3 ?_
 refine B7 (tS (tR (sB (qE rfl rfl) rfl rfl (fun h18 => ?_) (fun h18 => ?_))))
 refine A8 ?_
 (have hl2 : ts.length = 2 := hop.1 zV; obtain ⟨b0, o0', q0, d0, hp0, hat0, hre0, hg0⟩ := hsl.kidTy hkl (i := 0) zV zV; cases hp0; refine sP (A6 (j := 0) rfl rfl rfl zV) rfl rfl ?_)
 refine sL (A2 rfl rfl (hat0 _) rfl) rfl rfl ?_
 (obtain ⟨ma', mb', hm, hwo⟩ := o6 zV zV; refine E7 rfl (A2B 4 ts[0] G _ (.inl rfl) (ha0 zV) hre0) rfl rfl (fun v G1 hle1 hh => ?_); obtain ⟨ma, mca, mb, mcb, rfl, hma, hmb, hma2, hmb2, hpp⟩ := hh; have hpe := hpp _ hm; simp only [Prod.mk.injEq] at hpe; obtain ⟨rfl, rfl⟩ := hpe; obtain ⟨p1, c1, e1, rfl, _⟩ := hma.open; obtain ⟨p2, c2, e2, rfl, _⟩ := hmb.open; have hTwo := A14 4 _ _ G1 _ _ (.inl rfl) hma2 hmb2 hma hmb)
 refine C3 ?_
 refine sE (A4 rfl) rfl (fun b33 => ?_)
 refine sE (A4 rfl) rfl (fun b34 => ?_)
 refine C2 ?_
 (refine E7 rfl hTwo rfl rfl (fun v G2 hle2 hh => ?_); obtain ⟨mc, rfl, hmr⟩ := hh; obtain ⟨p3, c3, e3, rfl, _⟩ := hmr.open; have hma4 := hma.mono hle2)
 refine B2 ?_
 refine sE (A4 rfl) rfl (fun b48 => ?_)
 refine B4 ?_
 (refine F0 (C0 rfl rfl rfl zV zQ rfl) rfl ?_; rintro _ ⟨b57, rfl⟩)
 refine B2 ?_
 (refine E0 zM (fun G5 hle5 hsl5 hno5 => ?_))
 refine C3 ?_
 (exact T9.mk2 hwo (hop.1 zV) hsl5 (hmr.mono hle5) (hma4.mono hle5))
 refine A8 ?_
 refine sB (qE rfl rfl) rfl rfl (fun h74 => ?_) (fun h74 => ?_)
 refine C2 ?_
 refine E5 rfl ((A0R _)) rfl rfl ?_
 refine E5 rfl ((A0R _)) rfl rfl ?_
 (refine F0 (C0 rfl rfl rfl zV zQ rfl) rfl ?_; rintro _ ⟨b86, rfl⟩)
 refine B2 ?_
 (refine E0 zM (fun G5 hle5 hsl5 hno5 => ?_))
 refine C3 ?_
 (exact T9.mk2 (o78 zV) (hop.1 zV) hsl5 (J2 _) (J2 _))
 refine A9 ?_
 refine sB (qE rfl rfl) rfl rfl (fun h101 => ?_) (fun h101 => ?_)
 refine A7 ?_
 refine E5 rfl ((A0R _)) rfl rfl ?_
 refine E5 rfl ((A0R _)) rfl rfl ?_
 (refine F0 (C0 rfl rfl rfl zV zQ rfl) rfl ?_; rintro _ ⟨b110, rfl⟩)
 refine B2 ?_
 (refine E0 zM (fun G5 hle5 hsl5 hno5 => ?_))
 refine C3 ?_
 (exact T9.mk2 (o78 zV) (hop.1 zV) hsl5 (J2 _) (J2 _))
 refine A7 ?_
 refine sB (qE rfl rfl) rfl rfl (fun h126 => ?_) (fun h126 => ?_)
 refine A9 ?_
 refine D3 D4 rfl ?_
 refine K3 (i := 1) (l' := [ff,tt,ff,ff,ff]) rfl C1 (A1 rfl rfl) rfl zT rfl rfl ?_
 refine aL 2 rfl (A1 rfl rfl) rfl ?_
 refine A0 0 ?_
 refine M8 rfl rfl ((A26 _)) rfl rfl rfl ?_
 refine A0 3 ?_
 (refine B6 rfl (C0 rfl rfl rfl zV zQ rfl) rfl rfl ?_; rintro _ ⟨b138, rfl⟩)
 refine aP 4 rfl (qA rfl) rfl ?_
 refine A3 ?_
 (refine E0 zM (fun G5 hle5 hsl5 hno5 => ?_))
 refine C3 ?_
 (exact T9.mk3 (o9 zV) (hop.2.1 zV) hsl5 (W4 _) (hrt.mono hle5) (hrt.mono hle5))
 refine A8 ?_
 refine sB (qE rfl rfl) rfl rfl (fun h155 => ?_) (fun h155 => ?_)
 refine H3 ?_
 (have hl1 : ts.length = 1 := hop.2.2 zV; obtain ⟨b0, o0', q0, d0, hp0, hat0, hre0, hg0⟩ := hsl.kidTy hkl (i := 0) zV zV; cases hp0; refine sP (A6 (j := 0) rfl rfl rfl zV) rfl rfl ?_)
 refine sL (A2 rfl rfl (hat0 _) rfl) rfl rfl ?_
 (obtain ⟨ma', mb', hm, hwo⟩ := o11 zV zV; refine E7 rfl (A2B 5 ts[0] G _ (.inr rfl) (ha0 zV) hre0) rfl rfl (fun v G1 hle1 hh => ?_); obtain ⟨ma, mca, mb, mcb, rfl, hma, hmb, hma2, hmb2, hpp⟩ := hh; have hpe := hpp _ hm; simp only [Prod.mk.injEq] at hpe; obtain ⟨rfl, rfl⟩ := hpe; obtain ⟨p1, c1, e1, rfl, _⟩ := hma.open; obtain ⟨p2, c2, e2, rfl, _⟩ := hmb.open; have hTwo := A14 5 _ _ G1 _ _ (.inr rfl) hma2 hmb2 hma hmb)
 refine C3 ?_
 refine sE (A4 rfl) rfl (fun b173 => ?_)
 refine sE (A4 rfl) rfl (fun b174 => ?_)
 refine C2 ?_
 (refine E7 rfl hTwo rfl rfl (fun v G2 hle2 hh => ?_); obtain ⟨mc, rfl, hmr⟩ := hh; obtain ⟨p3, c3, e3, rfl, _⟩ := hmr.open; have hma4 := hma.mono hle2)
 refine B2 ?_
 refine sE (A4 rfl) rfl (fun b188 => ?_)
 refine A8 ?_
 (refine F0 (C0 rfl rfl rfl zV zQ rfl) rfl ?_; rintro _ ⟨b196, rfl⟩)
 refine B2 ?_
 (refine E0 zM (fun G5 hle5 hsl5 hno5 => ?_))
 refine C3 ?_
 (exact T9.mk1 hwo (hop.2.2 zV) hsl5 (hmr.mono hle5))
 refine A9 ?_
 refine sB (qE rfl rfl) rfl rfl (fun h211 => ?_) (fun h211 => ?_)
 refine A8 ?_
 (have hl1 : ts.length = 1 := hop.2.2 zV; obtain ⟨b0, o0', q0, d0, hp0, hat0, hre0, hg0⟩ := hsl.kidTy hkl (i := 0) zV zV; cases hp0; refine sP (A6 (j := 0) rfl rfl rfl zV) rfl rfl ?_)
 refine sL (A2 rfl rfl (hat0 _) rfl) rfl rfl ?_
 (obtain ⟨ma', mb', hm, hwo⟩ := o11 zV zV; refine E7 rfl (A2B 5 ts[0] G _ (.inr rfl) (ha0 zV) hre0) rfl rfl (fun v G1 hle1 hh => ?_); obtain ⟨ma, mca, mb, mcb, rfl, hma, hmb, hma2, hmb2, hpp⟩ := hh; have hpe := hpp _ hm; simp only [Prod.mk.injEq] at hpe; obtain ⟨rfl, rfl⟩ := hpe; obtain ⟨p1, c1, e1, rfl, _⟩ := hma.open; obtain ⟨p2, c2, e2, rfl, _⟩ := hmb.open; have hTwo := A14 5 _ _ G1 _ _ (.inr rfl) hma2 hmb2 hma hmb)
 refine C3 ?_
 refine sE (A4 rfl) rfl (fun b226 => ?_)
 refine sE (A4 rfl) rfl (fun b227 => ?_)
 refine C2 ?_
 (refine E7 rfl hTwo rfl rfl (fun v G2 hle2 hh => ?_); obtain ⟨mc, rfl, hmr⟩ := hh; obtain ⟨p3, c3, e3, rfl, _⟩ := hmr.open; have hma4 := hma.mono hle2)
 refine B2 ?_
 refine sE (A4 rfl) rfl (fun b241 => ?_)
 refine A8 ?_
 (refine F0 (C0 rfl rfl rfl zV zQ rfl) rfl ?_; rintro _ ⟨b249, rfl⟩)
 refine B2 ?_
 (refine E0 zM (fun G5 hle5 hsl5 hno5 => ?_))
 refine C3 ?_
 (exact T9.mk1 hwo (hop.2.2 zV) hsl5 (hmr.mono hle5))
 refine A7 ?_
 refine sB (qE rfl rfl) rfl rfl (fun h265 => ?_) (fun h265 => ?_)
 refine A8 ?_
 (refine F0 (C0 rfl rfl rfl zV zQ rfl) rfl ?_; rintro _ ⟨b273, rfl⟩)
 refine B2 ?_
 (refine E0 zM (fun G5 hle5 hsl5 hno5 => ?_))
 refine C3 ?_
 (exact T9.mk1 (o13 zV) (hop.2.2 zV) hsl5 (hrt.mono hle5))
 refine I9 ?_
 (exact T9.mk (o0 zV) rfl hsl.sl hkl)
theorem A8N : ∀ (us : List Tm) (h : List Ty) (l : Int), H7 us h h l = (us, l)
 | [], h, l => by simp [H7]
 | u :: us, [], l => by simp [H7]
 | u :: us, a :: h, l => by simp only [H7, A5k, if_true, A8N us h l]
theorem A4d {us : List Tm} {h w : List Ty} {l : Int} : H7 us h (P0 w h) l = H7 us h w l := by
 unfold P0
 split
 ·rename_i hw; subst hw; rw [A8N, A0e]
 ·rfl
theorem B3D {cx : Cx} {k : Int} {nm : ByteArray} {ty : Ty} {h w : List Ty} {t : Ty} (hh : ∀ a ∈ h, H0 a = true) (hw : Wt cx k nm ty h w t) : ∀ a ∈ P0 w h, H0 a = true := by
 intro a ha
 unfold P0 at ha
 split at ha
 ·exact hh a ha
 ·rename_i hne
  obtain ⟨i, hi, rfl⟩ := List.mem_iff_getElem.1 ha
  exact (hw.ok i hi (by rcases hw.len with h1 | h1; exact absurd h1 hne; omega)).2
def B3E (u : Tm) (t : Ty) (l : Int) (G : IM) : IM → Value → List A5 → Prop := K9 fun G' v => ∃ cu ct, v = .tuple ⟨[.agg ⟨cu⟩, .agg ⟨ct⟩, .int .i64 (l + 1)]⟩ ∧ D1 G' u cu ∧ C7 G' t ct
theorem A8O {cx : Cx} : ∀ {ks : List Tm} {l : Int} {us : List Tm} {h : List Ty} {l' : Int}, M4 cx ks l = some (us, h, l') → us.length = ks.length ∧ h.length = ks.length
 | [], l, us, h, l', he => by simp only [M4, Option.some.injEq, Prod.mk.injEq] at he; obtain ⟨rfl, rfl, _⟩ := he; exact ⟨rfl, rfl⟩
 | t :: ts, l, us, h, l', he => by
  rw [M4] at he
  split at he
  ·cases he
  ·split at he
   ·cases he
   ·rename_i hz
    simp only [Option.some.injEq, Prod.mk.injEq] at he
    obtain ⟨rfl, rfl, _⟩ := he
    have := A8O hz
    simp [this.1, this.2]
theorem B3F : ∀ (e : Tm) (d : Int) (cx : Cx) (l0 : Int) (u0 : Tm) (t0 : Ty) (l1 : Int) (G : IM) (p : Option Addr) (n c : Nat) (cells : List Value), N0 cx e l0 = some (u0, t0, l1) → N1 12 14 e d = true → (n : Int) ≤ d → W5 cx → O9 G cx p n c → D1 G e cells → 0 ≤ l0 → l0 + (J1 e : Int) ≤ 1000000000 →
  Fn Tryz.prog 79 [.slice p n c, .agg ⟨cells⟩, .int .i64 (l0 + 1)] [] G (B3E u0 t0 l1 G) := by
 refine Tm.ind fun k nm num ty fr lb ks ih d cx l0 u0 t0 l1 G p n c cells hel hv hnd hcv hx hr hl0 hlc => ?_
 have hr0 := hr
 have hone := hr.one
 have hT := A8K _ d cx G p n c cells hv hnd hcv hx hr
 obtain ⟨hts1, hts2⟩ := (A2A _ d cx l0 hv hcv).1 u0 t0 l1 hel
 rw [hts1] at hT
 have hsm := A7Q _ d hv
 obtain ⟨hv1, hv2, hv3, hv4⟩ := A0Q hv
 have hvk := (A0A 12 14 ks _).1 hv4
 have har := (S8.1 hv3).1
 have hop := A2r har
 obtain ⟨hta, hts⟩ := A27 hv3
 have hcvX : W5 (M6 cx k nm ty) := A3g hcv fun hk => (S8.1 hv3).2.2.2.2.2.1 (.inl hk)
 have hck : J1 (.mk k nm num ty fr lb ks) = I4 ks + 1 := A2u ..
 rw [hck] at hlc
 rw [N0] at hel
 rcases hEL : M4 (M6 cx k nm ty) ks l0 with _ | ⟨usA, tsA, lA⟩
 ·rw [hEL] at hel; cases hel
 rw [hEL] at hel
 unfold A1k at hel
 rcases hNT : W2 cx k nm ty tsA with _ | ⟨w, t9⟩
 ·simp only [hNT] at hel; cases hel
 simp only [hNT, Option.some.injEq, Prod.mk.injEq] at hel
 obtain ⟨hu0, rfl, rfl⟩ := hel
 obtain ⟨hlA1, hlA2⟩ := A8O hEL
 have hmw := (A5z hNT).2
 obtain ⟨_, htv, _⟩ := (A8i ks (fun t ht d' cx' l' h1 h2 => A2A t d' cx' l' h1 h2) (d + 1) _ l0 hv4 hcvX).1 usA tsA lA hEL
 have hcAll := A0T usA tsA w lA
 have hWV : ∀ a ∈ P0 w tsA, H0 a = true := B3D htv (A8x htv (fun hk => (S8.1 hv3).2.2.2.2.2.1 (.inr (.inl hk))) (by rw [hlA2]; exact har) hv2 hmw)
 obtain ⟨tk, tks⟩ := ty
 obtain ⟨fk, fks⟩ := fr
 obtain ⟨pt, ct, pf, cf, q, cq, es, rfl, hk, hnum, hlb, hty, hfr, hsl, hkl⟩ := hr.open9
 have hlen : ks.length ≤ 3 := by have := A10 k; omega
 have hk13 : k = 13 → ks.length = 1 := fun h => hop.2.2 zV
 refine D5 Tryz.func79 rfl Tryz.ntmps79 Tryz.results79 rfl ?_
 intro w0
 refine A3 ?_
 refine sE (D8 rfl rfl) rfl (fun b3 => ?_)
 refine sE (A4 rfl) rfl (fun b4 => ?_)
 refine sE (A4 rfl) rfl (fun b5 => ?_)
 refine A8 ?_
 (refine E7 rfl hT rfl rfl (fun v G1 hle1 hh => ?_); obtain ⟨mt, mc, rfl, hmr, hma, hmu⟩ := hh; obtain rfl := hmu _ rfl; obtain ⟨p1, d1, e1, rfl, _⟩ := hmr.open; have hC := B1U _ G1 _ hsm (hr0.mono hle1))
 refine B2 ?_
 refine sE (A4 rfl) rfl (fun b17 => ?_)
 refine A8 ?_
 (refine E7 rfl hC rfl rfl (fun v G2 hle2 hh => ?_); obtain ⟨cs1, F1, rfl, hs1, hn1⟩ := hh; have hr1 := hs1.R.mono (E2.le G2 G1); obtain ⟨q1, c1, q2, c2, q3, c3, es1, rfl, _, _, _, hty1, hfr1, _, _⟩ := hr1.open9; have hle02 := hle1.trans hle2; replace hx := hx.mono hle02; replace hty := hty.mono hle02; replace hsl := hsl.mono hle02; replace hkl := hkl.mono hle02; replace hmr := hmr.mono hle2; replace hr0 := hr0.mono hle02)
 refine sE (A4 rfl) rfl (fun b26 => ?_)
 refine E8 ?_
 (show J7 _ _ (.region 4 ..) _ _; refine A1X (fun (x : Bool) => ⟨[(30, .bool x), (0, .slice p n c), (2, .int .i64 (l0 + 1)), (4, .pointer (some ⟨b3, 0, none⟩)), (6, .pointer (some ⟨b4, 0, none⟩)), (7, .pointer (some ⟨b5, 0, none⟩)), (9, .pointer (some ⟨b17, 0, none⟩)), (11, .pointer (some ⟨b26, 0, none⟩))], [.blk b26 [.int .i64 k, .string nm, .int .i64 num, .int .i64 tk, .slice q1 tks.length c1, .int .i64 fk, .slice q2 fks.length c2, .int .i64 lb, .slice none 0 0], .blk b17 [.int .i64 t9.k, .slice p1 t9.ks.length d1], .blk b5 [.int .i64 0, .slice none 0 0], .blk b4 [.int .i64 0, .string ⟨⟨[]⟩⟩, .int .i64 0, .int .i64 0, .slice none 0 0, .int .i64 0, .slice none 0 0, .int .i64 0, .slice none 0 0], .blk b3 [.int .i64 k, .string nm, .int .i64 num, .int .i64 tk, .slice pt tks.length ct, .int .i64 fk, .slice pf fks.length cf, .int .i64 lb, .slice q ks.length cq]], G2⟩) (fun x => x = true ↔ k = 5) ?_ ?_)
 ·refine B2 ?_
  refine sB (qE rfl rfl) rfl rfl (fun h42 => ?_) (fun h42 => ?_)
  ·refine sD ?_
   refine A0C true (T4 zL zI) ⟨fun _ => zV, fun _ => rfl⟩
  ·refine sD ?_
   refine A0C false (T4 zL zI) ⟨fun h => (by cases h), fun _ => zV⟩
 ·(rintro (x : Bool) hx5)
  (show J7 _ _ (.cond (.tmp 30) _ _) _ _; refine A1X (fun (x : Option Addr × Nat × Nat × IM) => ⟨[(0, .slice x.1 x.2.1 x.2.2.1), (2, .int .i64 (l0 + 1)), (4, .pointer (some ⟨b3, 0, none⟩)), (6, .pointer (some ⟨b4, 0, none⟩)), (7, .pointer (some ⟨b5, 0, none⟩)), (9, .pointer (some ⟨b17, 0, none⟩)), (11, .pointer (some ⟨b26, 0, none⟩))], [.blk b26 [.int .i64 k, .string nm, .int .i64 num, .int .i64 tk, .slice q1 tks.length c1, .int .i64 fk, .slice q2 fks.length c2, .int .i64 lb, .slice none 0 0], .blk b17 [.int .i64 t9.k, .slice p1 t9.ks.length d1], .blk b5 [.int .i64 0, .slice none 0 0], .blk b4 [.int .i64 0, .string ⟨⟨[]⟩⟩, .int .i64 0, .int .i64 0, .slice none 0 0, .int .i64 0, .slice none 0 0, .int .i64 0, .slice none 0 0], .blk b3 [.int .i64 k, .string nm, .int .i64 num, .int .i64 tk, .slice pt tks.length ct, .int .i64 fk, .slice pf fks.length cf, .int .i64 lb, .slice q ks.length cq]], x.2.2.2⟩) (fun x => D2 G2 x.2.2.2 ∧ O9 x.2.2.2 (M6 cx k nm (.mk tk tks)) x.1 x.2.1 x.2.2.1 ∧ (x.2.1 : Int) ≤ d + 1) (A9U rfl (fun hxt => ?_) (fun hxf => ?_)) ?_)
  ·refine A7 ?_
   (refine E7 rfl (A8H G2 cx p n c nm (.mk tk tks) _ hx zV hty) rfl rfl (fun v G3 hle3 hh => ?_); obtain ⟨pm0, cm0, rfl, hxm⟩ := hh)
   refine A3 ?_
   refine A0C (pm0, n + 1, cm0, G3) (T4 zL zI) ?_
   (dsimp only; exact ⟨hle3, by rw [M6, if_pos (hx5.1 zS)]; exact hxm, by omega⟩)
  ·refine tK ?_
   refine A0C (p, n, c, G2) (T4 zL zI) ?_
   (dsimp only; exact ⟨D2.refl _, by rw [M6, if_neg (fun h => by have := hx5.2 h; rw [this] at hxf; cases hxf)]; exact hx, by omega⟩)
  ·(rintro ⟨(px : Option Addr), nx, cxx, Gx⟩ ⟨hleX, hxX, hnX⟩; simp only [] at hleX hxX hnX ⊢; replace hty1 := hty1.mono hleX; replace hfr1 := hfr1.mono hleX; replace hsl := hsl.mono hleX; replace hkl := hkl.mono hleX; replace hmr := hmr.mono hleX; replace hr0 := hr0.mono hleX)
   refine A3 ?_
   (refine F0 (C0 rfl rfl rfl zV zQ rfl) rfl ?_; rintro _ ⟨b66, rfl⟩)
   refine C2 ?_
   refine B7 ?_
   (refine S7 28 9 ?_; refine J3 (fun (x : Nat × (Option Addr × Nat × List Tm × List (List Value)) × (Option Addr × Nat × List Ty × List (List Value)) × Int × IM) => ⟨[(13, .int .i64 x.1), (12, .slice x.2.2.1.1 x.1 x.2.2.1.2.1), (0, .slice px nx cxx), (2, .int .i64 (x.2.2.2.1 + 1)), (4, .pointer (some ⟨b3, 0, none⟩)), (6, .pointer (some ⟨b4, 0, none⟩)), (7, .pointer (some ⟨b5, 0, none⟩)), (9, .pointer (some ⟨b17, 0, none⟩)), (11, .pointer (some ⟨b26, 0, none⟩))], [.blk b26 [.int .i64 k, .string nm, .int .i64 num, .int .i64 tk, .slice q1 tks.length c1, .int .i64 fk, .slice q2 fks.length c2, .int .i64 lb, .slice x.2.1.1 x.1 x.2.1.2.1], .slc x.2.1.1 x.2.1.2.1 28 9 x.1 x.2.1.2.2.2.flatten, .slc x.2.2.1.1 x.2.2.1.2.1 25 2 x.1 x.2.2.1.2.2.2.flatten, .blk b17 [.int .i64 t9.k, .slice p1 t9.ks.length d1], .blk b5 [.int .i64 0, .slice none 0 0], .blk b4 [.int .i64 0, .string ⟨⟨[]⟩⟩, .int .i64 0, .int .i64 0, .slice none 0 0, .int .i64 0, .slice none 0 0, .int .i64 0, .slice none 0 0], .blk b3 [.int .i64 k, .string nm, .int .i64 num, .int .i64 tk, .slice pt tks.length ct, .int .i64 fk, .slice pf fks.length cf, .int .i64 lb, .slice q ks.length cq]], x.2.2.2.2⟩) (fun x => x.1 ≤ ks.length ∧ D2 Gx x.2.2.2.2 ∧ x.2.1.2.2.1.length = x.1 ∧ H4 x.2.2.2.2 x.2.1.2.2.1 x.2.1.2.2.2 ∧ x.2.2.1.2.2.1.length = x.1 ∧ F4 x.2.2.2.2 x.2.2.1.2.2.1 x.2.2.1.2.2.2 ∧ M4 (M6 cx k nm (.mk tk tks)) (ks.take x.1) l0 = some (x.2.1.2.2.1, x.2.2.1.2.2.1, x.2.2.2.1) ∧ l0 ≤ x.2.2.2.1 ∧ x.2.2.2.1 + x.1 ≤ l0 + (I4 (ks.take x.1) : Int)) (fun x => ks.length - x.1) (0, (none, 0, [], []), (some ⟨b66, 0, none⟩, 0, [], []), l0, Gx) ?_ ?_ ?_)
   ·(simp only [List.take_zero, A0e]; exact (T4 zL zI))
   ·(exact ⟨by simp, D2.refl _, rfl, by simp [H4], rfl, by simp [F4], by simp [M4], Int.le_refl _, by simp [I4]⟩)
   ·(rintro ⟨i, ⟨pn, cn, us, es'⟩, ⟨pm, cm, ts, ess⟩, l, Gi⟩ ⟨hi, hle, hlu, hst, hlt, hstt, hml, hl1, hl2⟩; simp only [] at hi hle hlu hst hlt hstt hml hl1 hl2 ⊢; replace hty1 := hty1.mono hle; replace hfr1 := hfr1.mono hle; replace hsl := hsl.mono hle; replace hkl := hkl.mono hle; replace hmr := hmr.mono hle; replace hr0 := hr0.mono hle; replace hxX := hxX.mono hle)
    refine A8 ?_
    refine sB (I3 rfl rfl) rfl rfl (fun h88 => ?_) (fun h88 => ?_)
    ·refine A7 ?_
     refine B7 ?_
     refine A7 ?_
     (obtain ⟨b, o, e, rfl, hl, hate, hre, hgb⟩ := hsl.kidTm hkl (i := i) zV zV; have hsc := A43 (ks := ks) (i := i) zV; have hsk := A42 (ks := ks) (i := i) zV; rcases hE : N0 (M6 cx k nm (Ty.mk tk tks)) ks[i] l with _ | ⟨u, t, l3⟩; (have hno := A5D zV hml hE; rw [hEL] at hno; cases hno); have hlm := A5F.el_mono _ _ _ _ _ _ hE; have hlx := A8z ks[i] (d + 1) _ l u t l3 (hvk i zV) hE; refine sP (A6 rfl rfl rfl zV) rfl rfl ?_)
     refine sL (A2 rfl rfl (hate _) hl) rfl rfl ?_
     refine I0 ?_
     (refine E7 rfl (ih ks[i] (List.getElem_mem zV) (d + 1) _ l u t l3 Gi px nx cxx _ hE (hvk i zV) zV hcvX hxX hre zV zV) rfl rfl (fun v G3 hle3 hh => ?_); obtain ⟨uc, tc, rfl, hru, hrt⟩ := hh; obtain ⟨v1, v2, v3, v4, v5, v6, v7, v8, v9, rfl⟩ := A3Z hru.len; obtain ⟨p3, c3, e3, rfl, _⟩ := hrt.open; have hlu9 := hru.len; have hou9 := hru.one)
     refine C3 ?_
     refine sE (A4 rfl) rfl (fun b110 => ?_)
     refine sE (A4 rfl) rfl (fun b111 => ?_)
     refine sS rfl rfl rfl hlu9 hou9 rfl ?_ (hu := by exact D7 hlu9.symm)
     refine C2 ?_
     (refine F0 (C0 rfl rfl rfl zV zQ rfl) rfl ?_; rintro _ ⟨b122, rfl⟩)
     refine A2T rfl rfl rfl rfl rfl (fun _ _ => by repeat (first | exact Sw.here | apply Sw.there)) (O1 zO) rfl (fun u hu => List.all_eq_true.1 hou9 u hu) zQ zV rfl (fun pn' cn' => ?_)
     refine B4 ?_
     (refine F0 (C0 rfl rfl rfl zV zQ rfl) rfl ?_; rintro _ ⟨b132, rfl⟩)
     refine A2T rfl rfl rfl rfl rfl (fun _ _ => by repeat (first | exact Sw.here | apply Sw.there)) (O1 zO) rfl zP zQ zV rfl (fun pm' cm' => ?_)
     refine E8 ?_
     refine sP (H9 rfl rfl zV zV) rfl rfl ?_
     refine A3 ?_
     refine I6 (i + 1, (pn', cn', us ++ [u], es' ++ [[v1, v2, v3, v4, v5, v6, v7, v8, v9]]), (pm', cm', ts ++ [t], ess ++ [[.int .i64 t.k, .slice p3 t.ks.length c3]]), l3, G3) ?_ ?_ ?_
     ·(simp only [J4]; exact E3)
     ·(dsimp only; exact ⟨by omega, hle.trans hle3, by simp [hlu], H4.snoc (hst.mono hle3) hru, by simp [hlt], F4.snoc (hstt.mono hle3) hrt, A3i zV hml hE, by omega, by omega⟩)
     ·(show ks.length - (i + 1) < ks.length - i; omega)
    ·refine G9 ?_
     (obtain rfl : i = ks.length := zV; rw [List.take_length] at hml hl2; rw [hEL] at hml; simp only [Option.some.injEq, Prod.mk.injEq] at hml; obtain ⟨rfl, rfl, rfl⟩ := hml; refine A4U (cs := ess.flatten) zM (fun G4 hle4 hsl4 hno4 => ?_); have hstt4 := hstt.mono hle4; have hslT : C8 G4 pm ks.length cm 2 ess := C8.of hsl4 (by rw [hstt4.len, hlt]) hstt4.all (fun e he => (hstt4.each e he).2); have hW := B3C cx k nm num (.mk tk tks) (.mk fk fks) lb ks _ w _ G4 _ _ pm cm ess hmw hv2 (by rw [hlt]; exact har) (hr0.mono hle4) (by rw [hlt]; exact hslT) hstt4 (fun t ht => A16 (htv t ht)) (hmr.mono hle4); rw [hlt] at hW; refine E7 rfl hW rfl rfl (fun v G5 hle5 hh => ?_); obtain ⟨pw, cw, esw, rfl, hlw, hsw, hstw⟩ := hh; have hle45 := hle4.trans hle5; replace hty1 := hty1.mono hle45; replace hfr1 := hfr1.mono hle45; replace hmr := hmr.mono hle45; replace hst := hst.mono hle45; replace hslT := hslT.mono hle5; replace hstt := hstt.mono hle45; rcases Nat.eq_zero_or_pos ks.length with h0 | h0)
     ·refine C2 ?_
      refine B7 ?_
      (have h0' : ks.length = 0 := h0; refine J3 (fun (_ : Nat) => ⟨[(18, .int .i64 0), (17, .slice pw ks.length cw), (12, .slice pm ks.length cm), (2, .int .i64 (lA + 1)), (4, .pointer (some ⟨b3, 0, none⟩)), (6, .pointer (some ⟨b4, 0, none⟩)), (7, .pointer (some ⟨b5, 0, none⟩)), (9, .pointer (some ⟨b17, 0, none⟩)), (11, .pointer (some ⟨b26, 0, none⟩))], [.blk b26 [.int .i64 k, .string nm, .int .i64 num, .int .i64 tk, .slice q1 tks.length c1, .int .i64 fk, .slice q2 fks.length c2, .int .i64 lb, .slice pn ks.length cn], .slc pn cn 28 9 ks.length es'.flatten, .blk b17 [.int .i64 t9.k, .slice p1 t9.ks.length d1], .blk b5 [.int .i64 0, .slice none 0 0], .blk b4 [.int .i64 0, .string ⟨⟨[]⟩⟩, .int .i64 0, .int .i64 0, .slice none 0 0, .int .i64 0, .slice none 0 0, .int .i64 0, .slice none 0 0], .blk b3 [.int .i64 k, .string nm, .int .i64 num, .int .i64 tk, .slice pt tks.length ct, .int .i64 fk, .slice pf fks.length cf, .int .i64 lb, .slice q ks.length cq]], G5⟩) (fun _ => True) (fun i => i) 0 ?_ ?_ ?_)
      ·exact E3
      ·trivial
      ·(rintro (i0 : Nat) _)
       refine A7 ?_
       refine sP (A0j rfl rfl zV) rfl rfl ?_
       refine G9 ?_
       refine sP (E1 rfl rfl zV) rfl rfl ?_
       refine A7 ?_
       refine D3 D4 rfl ?_
       refine K3 (i := 0) (l' := [tt,ff,ff,ff,ff,ff]) rfl C1 (A1 rfl rfl) rfl zT rfl rfl ?_
       refine aL 1 rfl (A1 rfl rfl) rfl ?_
       refine aP 2 rfl (qM rfl) rfl ?_
       refine A0 3 ?_
       refine oS rfl rfl rfl rfl rfl rfl rfl rfl ?_
       refine A0 4 ?_
       refine oS rfl rfl rfl rfl rfl rfl rfl rfl ?_
       refine aP 5 rfl (qA rfl) rfl ?_
       refine A3 ?_
       (refine E0 (cs := es'.flatten) zM (fun G8 hle8 hsl8 hno8 => ?_); have hst8 := hst.mono hle8)
       refine tT ?_
       refine E4 (rC rfl (A1 rfl rfl)) (rC rfl (A1 rfl rfl)) (rT rfl) ?_
       (have hu9 : usA = [] := List.length_eq_zero_iff.1 zV; have hne : k ≠ 13 := (fun h => by have := hk13 h; omega); have hz : H7 usA tsA w lA = (usA, lA) := (by rw [hu9]; simp [H7]); rw [if_neg hne, hz] at hu0; subst hu0; rw [hz]; exact ⟨rfl, _, _, rfl, D1.put hk hnum hlb (hty1.mono hle8) (hfr1.mono hle8) hlA1.symm (C8.of hsl8 (by rw [hst8.len, hlA1]) hst8.all (fun e he => (hst8.each e he).2)) hst8, hmr.mono hle8⟩)
     ·(refine A1e (cs := es'.flatten) zM h0 (fun bc C hpe hnc hcm => ?_); subst hpe; refine sQ (qA rfl) rfl ?_)
      refine B4 ?_
      refine B7 ?_
      (have hLoop2 := hlw; refine J3 (fun (x : Nat × List (List Value) × IM) => ⟨[(18, .int .i64 x.1), (17, .slice pw ks.length cw), (12, .slice pm ks.length cm), (2, .int .i64 ((H7 usA tsA ((P0 w tsA).take x.1) lA).2 + 1)), (4, .pointer (some ⟨b3, 0, none⟩)), (6, .pointer (some ⟨b4, 0, none⟩)), (7, .pointer (some ⟨b5, 0, none⟩)), (9, .pointer (some ⟨b17, 0, none⟩)), (11, .pointer (some ⟨b26, 0, none⟩))], [.blk b26 [.int .i64 k, .string nm, .int .i64 num, .int .i64 tk, .slice q1 tks.length c1, .int .i64 fk, .slice q2 fks.length c2, .int .i64 lb, .slice (some ⟨bc, 0, none⟩) ks.length cn], .blk bc (x.2.1.flatten ++ C), .blk b17 [.int .i64 t9.k, .slice p1 t9.ks.length d1], .blk b5 [.int .i64 0, .slice none 0 0], .blk b4 [.int .i64 0, .string ⟨⟨[]⟩⟩, .int .i64 0, .int .i64 0, .slice none 0 0, .int .i64 0, .slice none 0 0, .int .i64 0, .slice none 0 0], .blk b3 [.int .i64 k, .string nm, .int .i64 num, .int .i64 tk, .slice pt tks.length ct, .int .i64 fk, .slice pf fks.length cf, .int .i64 lb, .slice q ks.length cq]], x.2.2⟩) (fun x => x.1 ≤ ks.length ∧ D2 G5 x.2.2 ∧ H4 x.2.2 (H7 usA tsA ((P0 w tsA).take x.1) lA).1 x.2.1) (fun x => ks.length - x.1) (0, es', G5) ?_ ?_ ?_)
      ·(simp only [List.take_zero, A0e]; exact (T4 zL zI))
      ·(exact ⟨Nat.zero_le _, D2.refl _, by simp only [List.take_zero, A0e]; exact hst⟩)
      ·(rintro ⟨j, es2, G6⟩ ⟨hj, hle6, hst2⟩; simp only [] at hj hle6 hst2 ⊢; replace hty1 := hty1.mono hle6; replace hfr1 := hfr1.mono hle6; replace hmr := hmr.mono hle6; replace hslT := hslT.mono hle6; replace hstt := hstt.mono hle6; replace hsw := hsw.mono hle6; replace hstw := hstw.mono hle6; have hle2s := hst2.len; rw [A1l] at hle2s; have hall2 := hst2.all)
       refine A7 ?_
       refine sB (I3 rfl rfl) rfl rfl (fun h242 => ?_) (fun h242 => ?_)
       ·refine A7 ?_
        refine B7 ?_
        (have hjw : j < (P0 w tsA).length := zV; obtain ⟨bt, ot, qt, dt, hpt, hatt, hrtt, hgt⟩ := hslT.kidTy hstt (i := j) zV zV; obtain ⟨bw, ow, qw, dw, hpw, hatw, hrtw, hgw⟩ := (show C8 G6 pw (P0 w tsA).length cw 2 esw from by rw [hlw]; exact hsw).kidTy hstw (i := j) zV zV; cases hpt; cases hpw; obtain ⟨m1, m2, _⟩ := A3j usA tsA (P0 w tsA) lA j hjw zV zV; obtain ⟨m3, m4⟩ := A8r (us := usA) (h := tsA) (w := P0 w tsA) (l := lA) hjw zV zV; obtain ⟨hE1, hE2⟩ := hst2.at2 (i := j) zV zV; rw [m2] at hE2; have hE3 := hE2.len; have hcj := A0T usA tsA ((P0 w tsA).take j) lA; refine D3 D4 rfl ?_)
        refine E9 (i := 0) (l' := [tt,ff,ff,ff,ff,ff,ff,ff,ff,ff,ff,ff,ff,ff,ff,ff,ff,ff,ff,ff,ff,ff,ff,ff]) rfl C1 (B0 rfl) rfl zT rfl rfl ?_
        refine aL 1 rfl (B3 rfl rfl) rfl ?_
        refine aP 2 rfl (qM rfl) rfl ?_
        refine aP 3 rfl (B0 rfl) rfl ?_
        refine aL 4 rfl (B3 rfl rfl) rfl ?_
        refine aP 5 rfl (qM rfl) rfl ?_
        refine aP 6 rfl (A6 (j := j) rfl rfl rfl zV) rfl ?_
        refine aL 7 rfl (A2 rfl rfl (A3W (es := es2) zO zV hall2) hE3) rfl ?_
        refine aP 8 rfl (qM rfl) rfl ?_
        refine aP 9 rfl (qM rfl) rfl ?_
        refine aP 10 rfl (A6 (j := j) rfl rfl rfl zV) rfl ?_
        refine aL 11 rfl (A2 rfl rfl (hatt _) rfl) rfl ?_
        refine aP 12 rfl (qM rfl) rfl ?_
        refine aP 13 rfl (qM rfl) rfl ?_
        refine aP 14 rfl (A6 (j := j) rfl rfl rfl zV) rfl ?_
        refine aL 15 rfl (A2 rfl rfl (hatw _) rfl) rfl ?_
        refine aP 16 rfl (qM rfl) rfl ?_
        refine A0 17 ?_
        (have hwsm := (A16 (hWV _ (List.getElem_mem (show j < (P0 w tsA).length by omega)))).small; refine D6 rfl rfl (B3y usA[j] tsA[j] (P0 w tsA)[j] _ _ _ _ _ zV hE2 hrtt hrtw (A16 (htv _ (List.getElem_mem zV))).small hwsm) rfl rfl rfl (fun v G7 hle7 hh => ?_); obtain ⟨uc, rfl, hru⟩ := hh; rw [show (if M5 tsA[j] (P0 w tsA)[j] = true then (H7 usA tsA ((P0 w tsA).take j) lA).2 + 1 else (H7 usA tsA ((P0 w tsA).take j) lA).2 + 1 + 1) = (H7 usA tsA ((P0 w tsA).take (j + 1)) lA).2 + 1 from by rw [m4]; split <;> rfl]; have hlu9 := hru.len; have hou9 := hru.one)
        refine aP 18 rfl (qM rfl) rfl ?_
        refine aP 19 rfl (pX rfl rfl) rfl ?_
        refine aP 21 rfl (A6 (j := j) rfl rfl rfl zV) rfl ?_
        refine aP 20 rfl (pX rfl rfl) rfl ?_
        refine A0 22 ?_
        refine S2 rfl rfl rfl rfl hlu9 hou9 rfl rfl zT zN (by exact A1f zV hall2 hlu9) ?_
        refine aP 23 rfl (qA rfl) rfl ?_
        refine A9 ?_
        refine sP (H9 rfl rfl zV zV) rfl rfl ?_
        refine A3 ?_
        refine I6 (j + 1, es2.set j uc, G7) ?_ ?_ ?_
        ·(simp only [List.take_zero, A0e]; exact (T4 zL zI))
        ·(dsimp only; exact ⟨by omega, hle6.trans hle7, by rw [m3]; exact H4.set (hst2.mono hle7) hru⟩)
        ·(show ks.length - (j + 1) < ks.length - j; omega)
       ·refine G9 ?_
        refine sB (qE rfl rfl) rfl rfl (fun h302 => ?_) (fun h302 => ?_)
        ·refine C3 ?_
         (have hq13 : k = 13 := zV; have hl13 := hk13 hq13; have hjw : j = (P0 w tsA).length := zV; rw [hjw, List.take_length, A4d] at hst2; have hm0 := A1l usA tsA w lA; obtain ⟨hE1, hE2⟩ := hst2.at2 (i := 0) zV zV; have hE3 := hE2.len; have hE4 := hE2.one; refine D3 D4 rfl ?_)
         refine E9 (i := 0) (l' := [tt,ff,ff,ff,ff,ff,ff,ff,ff]) rfl C1 (B0 rfl) rfl zT rfl rfl ?_
         refine aL 1 rfl (B3 rfl rfl) rfl ?_
         refine aP 2 rfl (A6 (j := 0) rfl rfl rfl zV) rfl ?_
         refine aL 3 rfl (A2 rfl rfl (A3W (es := es2) zO zV hall2) hE3) rfl ?_
         refine aL 4 rfl (A1 rfl rfl) rfl ?_
         refine aP 5 rfl (qM rfl) rfl ?_
         refine A0 6 ?_
         refine oS rfl rfl rfl rfl hE3 hE4 rfl rfl ?_ (hu := by exact D7 hE3.symm)
         refine A0 7 ?_
         refine oS rfl rfl rfl rfl rfl rfl rfl rfl ?_
         refine aP 8 rfl (qA rfl) rfl ?_
         refine A3 ?_
         (refine Z8 (bs := [(bc, es2.flatten ++ C)]) (Pk.perm zM) (fun hn9 hd9 hle9 => ?_))
         refine A3 ?_
         refine E4 (rC rfl (A2 rfl rfl (C9 zO) hE3)) (rC rfl (A1 rfl rfl)) (rT rfl) ?_
         (rw [if_pos hq13, A8D zV] at hu0; subst hu0; rw [hjw, List.take_length, A4d]; exact ⟨rfl, _, _, rfl, hE2.mono hle9, hmr.mono hle9⟩)
        ·refine A7 ?_
         refine D3 D4 rfl ?_
         refine K3 (i := 0) (l' := [tt,ff,ff,ff,ff,ff]) rfl C1 (A1 rfl rfl) rfl zT rfl rfl ?_
         refine aL 1 rfl (A1 rfl rfl) rfl ?_
         refine aP 2 rfl (qM rfl) rfl ?_
         refine A0 3 ?_
         refine oS rfl rfl rfl rfl rfl rfl rfl rfl ?_
         refine A0 4 ?_
         refine oS rfl rfl rfl rfl rfl rfl rfl rfl ?_
         refine aP 5 rfl (qA rfl) rfl ?_
         refine A3 ?_
         (refine Z8 (bs := [(bc, es2.flatten ++ C)]) (Pk.perm zM) (fun hn9 hd9 hle9 => ?_))
         refine tT ?_
         refine E4 (rC rfl (A1 rfl rfl)) (rC rfl (A1 rfl rfl)) (rT rfl) ?_
         (have hjw : j = (P0 w tsA).length := zV; rw [hjw, List.take_length, A4d] at hst2; have hst9 := hst2.mono hle9; have hm0 := A1l usA tsA w lA; rw [if_neg zV] at hu0; subst hu0; rw [hjw, List.take_length, A4d]; exact ⟨rfl, _, _, rfl, D1.put hk hnum hlb (hty1.mono hle9) (hfr1.mono hle9) (by rw [hm0, hlA1]) (C8.of (Sl.of_blk (A := []) (by rw [V8 hst9.all, hst9.len, hm0, hlA1]) zV hcm (Wi.in hn9 List.mem_cons_self)) (by rw [hst9.len, hm0, hlA1]) hst9.all (fun e he => (hst9.each e he).2)) hst9, hmr.mono hle9⟩)
theorem B3G (e : Tm) (G : IM) (cells : List Value) (hcnt : J1 e ≤ 4294967296) (hr : D1 G e cells) : Fn Tryz.prog 40 [.agg ⟨cells⟩] [] G (A0E (S4 e)) := by
 have hl := hr.len
 have hone := hr.one
 refine D5 Tryz.func40 rfl Tryz.ntmps40 Tryz.results40 rfl ?_
 intro w0
 refine A3 ?_
 refine sE (D8 rfl rfl) rfl (fun b3 => ?_)
 refine sE (A4 rfl) rfl (fun b4 => ?_)
 refine sE (A4 rfl) rfl (fun b5 => ?_)
 refine A9 ?_
 refine sL (A2 rfl rfl (C9 zO) zS) rfl rfl ?_
 focus (refine E7 rfl (B3x e _ _ zV hr) rfl rfl (fun v G1 hle1 hh => ?_); obtain ⟨mc, mt, rfl, hmr, hmu⟩ := hh; obtain ⟨pt, ct, et, rfl, _⟩ := hmr.open; obtain ⟨r, hI⟩ : ∃ r, S4 e = r := ⟨_, rfl⟩; rcases r with _ | ⟨u, t⟩; (have hto : A0F e = none := by unfold A0F; rw [hI]); rotate_left; (have hto : A0F e = some t := by unfold A0F; rw [hI]); obtain ⟨hv, l3, hE⟩ := B3s hI; obtain ⟨hv1, hv2⟩ := (A2p e).1 hv; rotate_left; all_goals rw [hto]; all_goals simp only [Option.isSome])
 refine B2 ?_
 refine sE (A4 rfl) rfl (fun b16 => ?_)
 refine A07 ?_
 refine E4 (rC rfl (A1 rfl rfl)) (rC rfl (A1 rfl rfl)) (rT rfl) ?_
 (exact A0E.no (by first | exact hI | rfl) (A1j _) (N9 _ ⟨by omega, by omega⟩))
 refine B2 ?_
 refine sE (A4 rfl) rfl (fun b45 => ?_)
 refine K0 ?_
 refine sL (A2 rfl rfl (C9 zO) zS) rfl rfl ?_
 (have hIn := B3F e 1 [] 0 u t l3 G1 none 0 0 cells hE hv1 zV A3f (O9.nil _) (hr.mono hle1) zV zV; refine E7 rfl hIn rfl rfl (fun v G2 hle2 hh => ?_); obtain ⟨cu, tc, rfl, hru, hrt⟩ := hh; obtain ⟨qt, dt, et2, rfl, _⟩ := hrt.open; have hlu := hru.len; have hou := hru.one)
 refine C3 ?_
 refine sE (A4 rfl) rfl (fun b68 => ?_)
 refine sE (A4 rfl) rfl (fun b69 => ?_)
 refine U8 rfl rfl rfl hlu hou rfl zN (by exact D7 (by first | exact hlu.symm | omega)) ?_
 refine A9 ?_
 refine D3 D4 rfl ?_
 refine K3 (i := 0) (l' := [tt,ff,ff,ff,ff]) rfl C1 (A2 rfl rfl (C9 zO) hlu) rfl zT rfl rfl ?_
 refine aL 1 rfl (A1 rfl rfl) rfl ?_
 refine A0 2 ?_
 refine oS rfl rfl rfl rfl hlu hou rfl rfl ?_ (hu := by exact D7 hlu.symm)
 refine A0 3 ?_
 refine oS rfl rfl rfl rfl rfl rfl rfl rfl ?_
 refine aP 4 rfl (qA rfl) rfl ?_
 refine B2 ?_
 refine E4 (rC rfl (A2 rfl rfl (C9 zO) hlu)) (rC rfl (A1 rfl rfl)) (rT rfl) ?_
 (exact A0E.yes (by first | exact hI | rfl) hru hrt)
def A4e : ByteArray := ⟨⟨[112, 97, 105, 114]⟩⟩
def A4f : ByteArray := ⟨⟨[102, 117, 110, 99, 116, 105, 111, 110]⟩⟩
def txT : ByteArray := ⟨⟨[84]⟩⟩
def txF : ByteArray := ⟨⟨[70]⟩⟩
def A5K (n : Int) : ByteArray := ⟨(Lib.decDigits n.toNat).toArray⟩
def A0G (k num : Int) : ByteArray := if k = 2 then A5K num else if k = 3 then txT else txF
mutual
def A4g : Tm → ByteArray
 | .mk k nm num ty fr lb ks => if k = 10 ∨ (prx (.mk k nm num ty fr lb []) = true ∧ ty.k = 5) then A4e else if k = 5 ∨ prx (.mk k nm num ty fr lb []) = true then A4f else if k = 14 then B3H ks else A0G k num
def B3H : List Tm → ByteArray
 | [] => ⟨⟨[]⟩⟩
 | t :: _ => A4g t
end
section
variable {k : Int} {nm : ByteArray} {num : Int} {ty fr : Ty} {lb : Int} {ks : List Tm}
end
def A2C (e : Tm) (fuel : Int) : ByteArray × Int × Int := match S4 e with
 | none => (⟨⟨[]⟩⟩, 3, 0)
 | some (u, _) => if (X2 u fuel).2.1 = 0 then (A4g (X2 u fuel).1, 0, 0) else (⟨⟨[]⟩⟩, (X2 u fuel).2.1, (X2 u fuel).2.2)
def A8P (r : ByteArray × Int × Int) (G : IM) : IM → Value → List A5 → Prop := K9 fun _ v => v = .tuple ⟨[.string r.1, .int .i64 r.2.1, .int .i64 r.2.2]⟩
inductive MV where
 | mk (k num : Int) (env parts : List MV)
def MV.k : MV → Int | .mk k _ _ _ => k
def MV.num : MV → Int | .mk _ n _ _ => n
def MV.env : MV → List MV | .mk _ _ e _ => e
def MV.parts : MV → List MV | .mk _ _ _ p => p
def mv0 : MV := .mk 0 0 [] []
mutual
def RMv (kc : Int → Int) (G : IM) : MV → List Value → Prop
 | .mk k num env parts, cells => ∃ p c es q d fs, cells = [.int .i64 (kc k), .int .i64 num, .slice p env.length c, .slice q parts.length d] ∧ F9 num ∧ F9 (kc k) ∧ C8 G p env.length c 4 es ∧ A2D kc G env es ∧ C8 G q parts.length d 4 fs ∧ A2D kc G parts fs
def A2D (kc : Int → Int) (G : IM) : List MV → List (List Value) → Prop
 | [], es => es = []
 | t :: ts, es => ∃ a r, es = a :: r ∧ RMv kc G t a ∧ A2D kc G ts r
end
section
variable {kc : Int → Int} {G : IM}
end

def RFr (kc : Int → Int) (G : IM) (f : Int × List MV) (cells : List Value) : Prop := ∃ p c es, cells = [.int .i64 f.1, .slice p f.2.length c] ∧ F9 f.1 ∧ C8 G p f.2.length c 4 es ∧ A2D kc G f.2 es
def A8Q (kc : Int → Int) (G : IM) : List (Int × List MV) → List (List Value) → Prop
 | [], es => es = []
 | t :: ts, es => ∃ a r, es = a :: r ∧ RFr kc G t a ∧ A8Q kc G ts r
section
variable {kc : Int → Int} {G : IM}
end

structure MSt where
 at' : Int
 st : List MV
 env : List MV
 fr : List (Int × List MV)
def RSs (kc : Int → Int) (G : IM) (s : MSt) (cells : List Value) : Prop := ∃ pe ce ps cs pf cf ee es ef, cells = [.int .i64 s.at', .slice pe s.env.length ce, .slice ps s.st.length cs, .slice pf s.fr.length cf] ∧ F9 s.at' ∧
 C8 G pe s.env.length ce 4 ee ∧ A2D kc G s.env ee ∧ C8 G ps s.st.length cs 4 es ∧ A2D kc G s.st es ∧ C8 G pf s.fr.length cf 2 ef ∧ A8Q kc G s.fr ef
def A4h (k : Int) : Nat := if k = 6 ∨ k = 7 ∨ k = 8 ∨ k = 11 then 2 else if k = 9 ∨ k = 12 ∨ k = 13 then 1 else 0
def A5L (k : Int) : Int × Nat × Int := if k = 6 then (2, 1, 1) else if k = 7 ∨ k = 8 then (0, 2, 2) else if k = 9 then (1, 1, 3) else if k = 12 ∨ k = 13 then (3, 1, 4) else (0, 0, 0)
def A1A (s : MSt) (v : MV) : MSt := { s with st := s.st ++ [v] }
def mGo (k a : Int) (s : MSt) (v : List MV) : MSt ⊕ (Int × Int) :=
 if k = 1 then .inl (A1A s (.mk 0 a [] []))
 else if k = 2 then .inl (A1A s (.mk 1 a [] []))
 else if k = 3 then (if (s.env.length : Int) - 1 - a < 0 then .inr (3, 0) else .inl (A1A s (s.env.getD ((s.env.length : Int) - 1 - a).toNat mv0)))
 else if k = 4 then .inl { A1A s (.mk 2 s.at' s.env []) with at' := s.at' + a }
 else if k = 5 then (if s.fr.length = 0 then .inr (3, 0) else .inl { s with at' := (s.fr.getD (s.fr.length - 1) (0, [])).1, env := (s.fr.getD (s.fr.length - 1) (0, [])).2, fr := s.fr.take (s.fr.length - 1) })
 else if k = 6 then .inl { s with at' := (v.getD 0 mv0).num, env := (v.getD 0 mv0).env ++ [v.getD 1 mv0], fr := s.fr ++ [(s.at', s.env)] }
 else if k = 7 then .inl (A1A s (.mk 0 (((v.getD 0 mv0).num + (v.getD 1 mv0).num) % 1000) [] []))
 else if k = 8 then .inl (A1A s (.mk 1 (if (v.getD 0 mv0).num < (v.getD 1 mv0).num then 1 else 0) [] []))
 else if k = 9 then .inl (if (v.getD 0 mv0).num = 0 then { s with at' := s.at' + a } else s)
 else if k = 10 then .inl { s with at' := s.at' + a }
 else if k = 11 then .inl (A1A s (.mk 3 0 [] v))
 else .inl (A1A s ((v.getD 0 mv0).parts.getD (k - 12).toNat mv0))
def B3I (k : Int) (v : List MV) : Bool := (v.take (A5L k).2.1).all fun u => decide (u.k = (A5L k).1)
def B3J (k a : Int) (s : MSt) : MSt ⊕ (Int × Int) :=
 if s.st.length < A4h k then .inr (3, 0)
 else if B3I k (s.st.drop (s.st.length - A4h k)) = true then mGo k a { s with at' := s.at' + 1, st := s.st.take (s.st.length - A4h k) } (s.st.drop (s.st.length - A4h k))
 else .inr (2, (A5L k).2.2)
def B3K (v : MV) : ByteArray := if v.k = 0 then ⟨(Lib.decDigits v.num.toNat).toArray⟩ else if v.k = 1 then (if v.num = 0 then ⟨#[70]⟩ else ⟨#[84]⟩) else if v.k = 2 then ⟨⟨[102, 117, 110, 99, 116, 105, 111, 110]⟩⟩ else ⟨⟨[112, 97, 105, 114]⟩⟩
def B3L (s : MSt) : ByteArray × Int × Int := if s.st.length ≠ 1 ∨ 0 < s.fr.length then (⟨#[]⟩, 3, 0) else (B3K (s.st.getD 0 mv0), 0, 0)
def A8R (ops : List (Int × Int)) : Nat → MSt → ByteArray × Int × Int
 | t, s => if (ops.length : Int) ≤ s.at' then B3L s else match t with
  | 0 => (⟨#[]⟩, 5, 0)
  | t + 1 => match B3J (ops.getD s.at'.toNat (0, 0)).1 (ops.getD s.at'.toNat (0, 0)).2 s with
   | .inl s' => A8R ops t s'
   | .inr (c, e) => (⟨#[]⟩, c, e)
def B3M (k behind : Int) : Int := if k = 1 then 999 else if k = 2 then 1 else if k = 3 then 11 else if k = 4 ∨ k = 9 ∨ k = 10 then behind else 0
def B3N (n : Nat) (i : Nat) (x : Int × Int) : Bool := decide (1 ≤ x.1 ∧ x.1 ≤ 13 ∧ 0 ≤ x.2 ∧ x.2 ≤ B3M x.1 ((n : Int) - 1 - i))
def B3O (ops : List (Int × Int)) : Bool := decide (1 ≤ ops.length ∧ ops.length ≤ 120) && (List.range ops.length).all fun i => B3N ops.length i (ops.getD i (0, 0))
def B5e (ops : List (Int × Int)) (ticks : Int) : ByteArray × Int × Int :=
 if B3O ops = true ∧ 0 ≤ ticks ∧ ticks ≤ 2000 then A8R ops ticks.toNat ⟨0, [], [], []⟩ else (⟨#[]⟩, 3, 0)
theorem A8S (k : Nat) : strOfNums [Z2 k] = (⟨[UInt8.ofNat (48 + k % 10)].toArray⟩ : ByteArray) := by
 have : (Z2 k).toNat = 48 + k % 10 := by unfold Z2; omega
 simp [strOfNums, this]
theorem B3P (a b : List UInt8) : (⟨a.toArray⟩ : ByteArray) ++ ⟨b.toArray⟩ = ⟨(a ++ b).toArray⟩ := by
 apply ByteArray.ext; simp
theorem B3Q {k : Nat} {out : ByteArray} (h : 9 < k) : (⟨(Lib.decDigits (k / 10)).toArray⟩ : ByteArray) ++ (strOfNums [Z2 k] ++ out) = ⟨(Lib.decDigits k).toArray⟩ ++ out := by
 have e : (⟨(Lib.decDigits k).toArray⟩ : ByteArray) = ⟨(Lib.decDigits (k / 10)).toArray⟩ ++ ⟨[UInt8.ofNat (48 + k % 10)].toArray⟩ := by
  rw [B3P (Lib.decDigits (k / 10))]
  congr 2
  rw [Lib.decDigits, dif_neg zV]
 rw [e, A8S, ByteArray.append_assoc]
theorem B3R {k : Nat} {out : ByteArray} (h : ¬9 < k) : strOfNums [Z2 k] ++ out = ⟨(Lib.decDigits k).toArray⟩ ++ out := by
 rw [A8S, Lib.decDigits, dif_pos zV, Nat.mod_eq_of_lt zV]
theorem B3S {k : Nat} (h : ¬9 < k) : Z2 k = 48 + (k : Int) := by unfold Z2; omega
theorem B3T (k : Nat) (hk : k < 10000) (G : IM) : Fn Tryz.prog 137 [.int .i64 (k : Int)] [] G (F8 (.string ⟨(Lib.decDigits k).toArray⟩) G) := by
 refine D5 Tryz.func137 rfl Tryz.ntmps137 Tryz.results137 rfl ?_
 intro w0
 refine C2 ?_
 refine sP (A0j rfl rfl zV) rfl rfl ?_
 refine C2 ?_
 refine sP (A0j rfl rfl zV) rfl rfl ?_
 refine E8 ?_
 refine B7 (J3 (fun (x : Nat × ByteArray) => ⟨[(0, .int .i64 (x.1 : Int)), (2, .string ⟨#[]⟩), (3, .string x.2)], [], G⟩) (fun x => x.1 < 10000 ∧ x.1 + x.2.size < 10020 ∧ (⟨(Lib.decDigits x.1).toArray⟩ : ByteArray) ++ x.2 = ⟨(Lib.decDigits k).toArray⟩) (fun x => x.1) (k, ⟨#[]⟩) ?_ ?_ ?_)
 (simp only [J4]; exact E3)
 (dsimp only; exact ⟨hk, by have : (⟨#[]⟩ : ByteArray).size = 0 := rfl; omega, ByteArray.append_empty⟩)
 (rintro ⟨j, out⟩ ⟨hj, hsz, hd⟩; simp only [] at hj hsz hd ⊢)
 refine C3 ?_
 refine sB (A0h rfl rfl) rfl rfl (fun h41 => ?_) (fun h41 => ?_)
 refine A9 ?_
 refine B7 ?_
 refine B2 ?_
 refine sP (B0O (n := 10) rfl rfl zV) rfl rfl ?_
 refine sP (H9 rfl rfl zV zV) rfl rfl ?_
 refine sP (A6G rfl rfl rfl zV zV) rfl rfl ?_
 (refine F0 (C0 rfl rfl rfl zV zQ rfl) rfl ?_; rintro _ ⟨b54, rfl⟩)
 refine sL (A6H (xs := [Z2 j]) rfl rfl rfl rfl rfl (O1 zO)) rfl rfl ?_
 refine I0 ?_
 (have hs1 := strOfNums_size [Z2 j]; have hs2 : [Z2 j].length = 1 := rfl; refine sP (A58 rfl rfl zV) rfl rfl ?_)
 refine A9 ?_
 refine sP (B0P (n := 10) rfl rfl zV zV) rfl rfl ?_
 refine B2 ?_
 refine I6 (j / 10, strOfNums [Z2 j] ++ out) ?_ ?_ ?_
 (simp only [J4]; exact E3)
 (dsimp only; exact ⟨by omega, by (rw [ByteArray.size_append]; omega), by rw [← hd]; exact B3Q zV⟩)
 (show j / 10 < j; omega)
 refine E8 ?_
 refine sP (H9 rfl rfl zV zV) rfl rfl ?_
 refine sP (A6G rfl rfl rfl zV zV) rfl rfl ?_
 (refine F0 (C0 rfl rfl rfl zV zQ rfl) rfl ?_; rintro _ ⟨b84, rfl⟩)
 (have hs9 := B3S (k := j) zV; refine sL (A6H (xs := [48 + (j : Int)]) rfl rfl rfl rfl rfl (O1 zO)) rfl rfl ?_; rw [← hs9])
 refine I0 ?_
 (have hs1 := strOfNums_size [Z2 j]; have hs2 : [Z2 j].length = 1 := rfl; refine sP (A58 rfl rfl zV) rfl rfl ?_)
 refine A9 ?_
 exact ⟨rfl, by rw [B3R zV, hd], rfl⟩
theorem B3U (k : Int) (nm : ByteArray) (num : Int) (ty fr : Ty) (lb : Int) (ks : List Tm) (G : IM) (cells : List Value) (hT : A0z G) (hk3 : k = 2 ∨ k = 3 ∨ k = 4) (hn : 0 ≤ num ∧ num ≤ 999) (hr : D1 G (.mk k nm num ty fr lb ks) cells) : Fn Tryz.prog 71 [.agg ⟨cells⟩] [] G (F8 (.string (A0G k num)) G) := by
 obtain ⟨tk, tks⟩ := ty
 obtain ⟨fk, fks⟩ := fr
 obtain ⟨pt, ct, pf, cf, p, c, es, rfl, hk, hnum, hlb, hty, hfr, hsl, hkl⟩ := hr.open9
 have hI := B1g num G hT hn.1 hn.2
 refine D5 Tryz.func71 rfl Tryz.ntmps71 Tryz.results71 rfl ?_
 intro w0
 refine A3 ?_
 refine sE (D8 rfl rfl) rfl (fun b3 => ?_)
 refine A9 ?_
 refine sQ (A2d rfl rfl) rfl ?_
 refine H3 ?_
 refine B7 ?_
 refine A3 ?_
 refine sP (E1 rfl rfl zV) rfl rfl ?_
 refine A7 ?_
 refine sB (qE rfl rfl) rfl rfl (fun h30 => ?_) (fun h30 => ?_)
 refine B4 ?_
 refine E5 rfl (hI) rfl rfl ?_
 refine A8 ?_
 (exact ⟨rfl, by unfold A0G; rw [if_pos zV]; rfl, rfl⟩)
 refine A7 ?_
 refine sB (qE rfl rfl) rfl rfl (fun h54 => ?_) (fun h54 => ?_)
 refine G9 ?_
 (exact ⟨rfl, by unfold A0G; rw [if_neg zV, if_pos zV]; rfl, rfl⟩)
 refine A7 ?_
 refine sP (I1 rfl rfl zV) rfl rfl ?_
 refine G9 ?_
 (exact ⟨rfl, by unfold A0G; rw [if_neg zV, if_neg zV]; rfl, rfl⟩)
def A4i (e : Tm) (fuel : Int) : List Int × Int × Bool :=
 if (A2C e fuel).2.1 = 2 then ((A3a ((S4 e).getD (P2, C6)).1 (Z4 (A2C e fuel).2.2)).1, (A2C e fuel).2.2, (A3a ((S4 e).getD (P2, C6)).1 (Z4 (A2C e fuel).2.2)).2) else ([], 0, false)
def B5f (e : Tm) (fuel : Int) (G : IM) : IM → Value → List A5 → Prop := K9 fun G' v => ∃ p c, v = .tuple ⟨[.slice p (A4i e fuel).1.length c, .int .i64 (A4i e fuel).2.1, .bool (A4i e fuel).2.2]⟩ ∧ SP1 (E2 G' G) (A4i e fuel).1 p c
theorem A4j {P : Program} {Γ : K7} {env : L4} {hp : List A5} {G : IM} {ty t1 t2 : TypeId} {x y : Operand} {k k' : IntKind} {m n : Int} (hx : evo env x = some (.int k m)) (hy : evo env y = some (.int k' n)) :
  I8 P Γ ⟨env, hp, G⟩ (.call ⟨.builtin .max, ⟨[x, y]⟩, ⟨[t1, t2]⟩⟩) ty (.int k (if m < n then n else m)) := by
 refine ⟨fun a _ hs _ _ _ _ w => ?_⟩
 simp [execOp, resolve, invoke, builtin, Builtin.max_, Builtin.max2, (hs.evo hx : a.eval x = _), (hs.evo hy : a.eval y = _)]
def GT.ty : GT → Ty
 | .any => .mk 1 []
 | .int => .mk 2 []
 | .bool => .mk 3 []
 | .fn a b => .mk 4 [a.ty, b.ty]
 | .pr a b => .mk 5 [a.ty, b.ty]
def GE.tm : GE → Tm
 | .var x => .mk 1 x 0 C6 C6 0 []
 | .num n => .mk 2 ⟨#[]⟩ n C6 C6 0 []
 | .tru b => .mk (if b = true then 3 else 4) ⟨#[]⟩ 0 C6 C6 0 []
 | .lam x A e => .mk 5 x 0 A.ty C6 0 [e.tm]
 | .app f a => .mk 6 ⟨#[]⟩ 0 C6 C6 0 [f.tm, a.tm]
 | .ar s a b => .mk (if s = true then 8 else 7) ⟨#[]⟩ 0 C6 C6 0 [a.tm, b.tm]
 | .ite c a b => .mk 9 ⟨#[]⟩ 0 C6 C6 0 [c.tm, a.tm, b.tm]
 | .pair a b => .mk 10 ⟨#[]⟩ 0 C6 C6 0 [a.tm, b.tm]
 | .part s e => .mk (if s = true then 12 else 11) ⟨#[]⟩ 0 C6 C6 0 [e.tm]
 | .cast A B l e => .mk 14 ⟨#[]⟩ 0 B.ty A.ty l [e.tm]
theorem GT.inj : ∀ {a b : GT}, a.ty = b.ty → a = b := by
 intro a
 induction a with
 | any => intro b h; cases b <;> first | rfl | (simp [GT.ty] at h)
 | int => intro b h; cases b <;> first | rfl | (simp [GT.ty] at h)
 | bool => intro b h; cases b <;> first | rfl | (simp [GT.ty] at h)
 | fn a1 a2 i j =>
  intro b h
  cases b with
  | fn b1 b2 => simp only [GT.ty, Ty.mk.injEq, List.cons.injEq, true_and, and_true] at h; rw [i h.1, j h.2]
  | _ => simp [GT.ty] at h
 | pr a1 a2 i j =>
  intro b h
  cases b with
  | pr b1 b2 => simp only [GT.ty, Ty.mk.injEq, List.cons.injEq, true_and, and_true] at h; rw [i h.1, j h.2]
  | _ => simp [GT.ty] at h
theorem A5M (a : GT) : A0m a.ty = a.gr.ty := by cases a <;> rfl
section
variable {k : Int} {nm : ByteArray} {num : Int} {ty fr : Ty} {lb : Int} {a b c : Tm} {t : Tm} {l : Int}
end
def Bd (e : GE) : Prop := A3Y e.tm = false ∧ (A1g e.tm).2.1 = 2
section
variable {P : Program} {Γ : K7} {env : L4} {hp : List A5} {G : IM} {ty : TypeId}
theorem A4k {x y : Operand} {t t' : TypeId} {m n : Int} (hx : evo env x = some (.int .i64 m)) (hy : evo env y = some (.int .i64 n)) : I8 P Γ ⟨env, hp, G⟩ (.binOp .add t x y t') ty (.int .i64 (IntKind.i64.wrap (m + n))) :=
 by refine ⟨?_⟩; exact fun a _ hs _ _ _ _ w => by simp [execOp, eqGuard, binOp, Op.intArith, (hs.evo hx : a.eval x = _), (hs.evo hy : a.eval y = _)]
end
theorem B3V {k tg lb : Int} {ks : List Cn} (h : k = 4 ∨ k = 5) : (Cn.mk k tg lb ks).ht = Cn.htL 0 ks := by rw [Cn.ht, if_pos h]
theorem B3W {k tg lb : Int} {ks : List Cn} (h : ¬(k = 4 ∨ k = 5)) : (Cn.mk k tg lb ks).ht = IntKind.i64.wrap (Cn.htL 0 ks + 1) := by rw [Cn.ht, if_neg h]
theorem B3X : ∀ (t : Cn) (G : IM) (cells : List Value), E6 G t cells → Fn Tryz.prog 68 [.agg ⟨cells⟩] [] G (F8 (.int .i64 t.ht) G) := by
 refine Cn.ind fun k tg lb ks ih G cells hr => ?_
 obtain ⟨p, c, es, rfl, hk, htg, hlb, hn2, _, _, hsl, hkl⟩ := hr.open4
 have hy := @B3V k tg lb ks
 have hn' := @B3W k tg lb ks
 generalize (Cn.mk k tg lb ks).ht = R at hy hn' ⊢
 clear hr
 have hn := hsl.le
 refine D5 Tryz.func68 rfl Tryz.ntmps68 Tryz.results68 rfl ?_
 intro w0
 refine A3 ?_
 refine sE (D8 rfl rfl) rfl (fun b3 => ?_)
 refine R0 ?_
 refine B7 ?_
 (refine J3 (fun (i : Nat) => ⟨[(9, .int .i64 (i : Int)), (8, .int .i64 (ks.length : Int)), (7, .slice p ks.length c), (3, .int .i64 (Cn.htL 0 (ks.take i))), (1, .pointer (some ⟨b3, 0, none⟩))], [.blk b3 [.int .i64 k, .int .i64 tg, .int .i64 lb, .slice p ks.length c]], G⟩) (fun i => i ≤ ks.length) (fun i => ks.length - i) 0 ?_ ?_ ?_)
 exact E3
 exact Nat.zero_le _
 (rintro i hi)
 refine A3 ?_
 refine sB (I3 rfl rfl) rfl rfl (fun h28 => ?_) (fun h28 => ?_)
 refine A8 ?_
 refine B7 ?_
 refine A3 ?_
 (obtain ⟨b, o, e, rfl, hl, ho, hat, hre, _, hgb⟩ := hsl.kidR hkl (i := i) zV zV; refine sP (A6 (j := i) rfl rfl rfl zV) rfl rfl ?_)
 refine sL (A2 rfl rfl (hat _) hl) rfl rfl ?_
 refine sE (A4 rfl) rfl (fun b41 => ?_)
 refine sS rfl rfl rfl hl ho rfl ?_ (hu := by exact D7 hl.symm)
 refine C3 ?_
 refine sL (A2 rfl rfl (C9 zO) hl) rfl rfl ?_
 (refine E5 rfl (ih ks[i] (List.getElem_mem zV) G _ hre) rfl rfl ?_)
 refine sQ (A4j rfl rfl) rfl ?_
 refine A9 ?_
 refine sP (H9 rfl rfl zV zV) rfl rfl ?_
 refine A3 ?_
 (refine I6 (i + 1) ?_ ?_ ?_; rw [show Cn.htL 0 (ks.take (i + 1)) = (if Cn.htL 0 (ks.take i) < ks[i].ht then ks[i].ht else Cn.htL 0 (ks.take i)) from B2r zV])
 exact E3
 omega
 omega
 refine J5 ?_
 refine sB (qE rfl rfl) rfl rfl (fun h76 => ?_) (fun h76 => ?_)
 refine R0 ?_
 (obtain rfl : i = ks.length := zV; rw [List.take_length]; exact ⟨rfl, by rw [hy zV], rfl⟩)
 refine B2 ?_
 refine sB (qE rfl rfl) rfl rfl (fun h98 => ?_) (fun h98 => ?_)
 refine G9 ?_
 (obtain rfl : i = ks.length := zV; rw [List.take_length]; exact ⟨rfl, by rw [hy zV], rfl⟩)
 refine C2 ?_
 refine sP (A4k (m := Cn.htL 0 (ks.take i)) rfl rfl) rfl rfl ?_
 refine A9 ?_
 (obtain rfl : i = ks.length := zV; rw [List.take_length]; exact ⟨rfl, by rw [hn' zV], rfl⟩)
theorem A8T {c : GK} {k tg lb : Int} {ks : List Cn} (h : c.cn = .mk k tg lb ks) : (k = 2 → c.tg = 4) ∧ (k = 3 → c.tg = 5) ∧ (k = 1 ∨ k = 6 → c.tg = tg) ∧ (k = 5 → c.tg = 0) ∧ (k = 4 → ∃ d, c = .inj d ∧ ks = [d.cn]) ∧ (k = 5 → ∃ d, c = .prj lb d ∧ ks = [d.cn]) ∧ (k = 1 ∨ k = 2 ∨ k = 3 ∨ k = 4 ∨ k = 5 ∨ k = 6) := by
 cases c <;> simp only [GK.cn, Cn.mk.injEq] at h <;> obtain ⟨rfl, rfl, rfl, rfl⟩ := h <;> simp [GK.tg]
theorem A0U (c : GK) : ∃ k tg lb ks, c.cn = Cn.mk k tg lb ks := by cases c.cn; exact ⟨_, _, _, _, rfl⟩
theorem A8U (c : GK) (ih : ∀ d, c = .inj d → ∀ (G : IM) (cells : List Value), E6 G d.cn cells → Fn Tryz.prog 167 [.agg ⟨cells⟩] [] G (F8 (.int .i64 d.tg) G)) (G : IM) (cells : List Value) (hr : E6 G c.cn cells) : Fn Tryz.prog 167 [.agg ⟨cells⟩] [] G (F8 (.int .i64 c.tg) G) := by
 obtain ⟨k, tg, lb, ks, hc⟩ := A0U c
 obtain ⟨t2, t3, t1, t5, t4, _, t0⟩ := A8T hc
 rw [hc] at hr
 obtain ⟨p, cp, es, rfl, hk, htg, hlb, hn2, har2, har4, hsl, hkl⟩ := hr.open4
 refine D5 Tryz.func167 rfl Tryz.ntmps167 Tryz.results167 rfl ?_
 intro w0
 refine A3 ?_
 refine sE (D8 rfl rfl) rfl (fun b3 => ?_)
 refine H3 ?_
 refine B7 (tS (tR (sB (qE rfl rfl) rfl rfl (fun h17 => ?_) (fun h17 => ?_))))
 refine G9 ?_
 (exact ⟨rfl, by rw [t2 zV], rfl⟩)
 refine A7 ?_
 refine sB (qE rfl rfl) rfl rfl (fun h38 => ?_) (fun h38 => ?_)
 refine G9 ?_
 (exact ⟨rfl, by rw [t3 zV], rfl⟩)
 refine A7 ?_
 refine sB (qE rfl rfl) rfl rfl (fun h59 => ?_) (fun h59 => ?_)
 refine B4 ?_
 (obtain ⟨d, rfl, hks⟩ := t4 zV; subst hks; obtain ⟨b, o, e, rfl, hl, ho, hat, hre, _, hgb⟩ := hsl.kidR hkl (i := 0) zW zW; replace hre : E6 G d.cn e := hre; refine sP (A6 (j := 0) rfl rfl rfl zW) rfl rfl ?_)
 refine sL (A2 rfl rfl (hat _) hl) rfl rfl ?_
 (refine E5 rfl (ih d rfl G _ hre) rfl rfl ?_)
 refine A8 ?_
 (exact ⟨rfl, rfl, rfl⟩)
 refine A8 ?_
 refine sB (qE rfl rfl) rfl rfl (fun h86 => ?_) (fun h86 => ?_)
 refine U9 ?_
 (exact ⟨rfl, by rw [t1 zV], rfl⟩)
 refine A9 ?_
 refine sB (qE rfl rfl) rfl rfl (fun h111 => ?_) (fun h111 => ?_)
 refine I9 ?_
 (exact ⟨rfl, by rw [t1 zV], rfl⟩)
 refine J5 ?_
 (exact ⟨rfl, by rw [t5 zV], rfl⟩)
theorem A5N : ∀ (c : GK) (G : IM) (cells : List Value), E6 G c.cn cells → Fn Tryz.prog 167 [.agg ⟨cells⟩] [] G (F8 (.int .i64 c.tg) G) := by
 intro c
 induction c with
 | inj d ih => exact A8U _ fun d' h => by cases h; exact ih
 | _ => exact A8U _ fun d' h => by cases h
def Cn.any : Cn → Bool
 | .mk k tg _ _ => decide (k = 1 ∧ tg = 1)
theorem A8V (c : Cn) (G : IM) (cells : List Value) (hr : E6 G c cells) : Fn Tryz.prog 165 [.agg ⟨cells⟩] [] G (F8 (.bool c.any) G) := by
 obtain ⟨k, tg, lb, ks⟩ := c
 obtain ⟨p, cp, es, rfl, hk, htg, hlb, hn2, har2, har4, hsl, hkl⟩ := hr.open4
 rw [Cn.any]
 refine D5 Tryz.func165 rfl Tryz.ntmps165 Tryz.results165 rfl ?_
 intro w0
 refine A3 ?_
 refine sE (D8 rfl rfl) rfl (fun b3 => ?_)
 refine A8 ?_
 refine sB (qE rfl rfl) rfl rfl (fun h11 => ?_) (fun h11 => ?_)
 refine B2 ?_
 refine sB (qE rfl rfl) rfl rfl (fun h15 => ?_) (fun h15 => ?_)
 refine A7 ?_
 (exact ⟨rfl, by rw [decide_eq_true zV], rfl⟩)
 refine A7 ?_
 (exact ⟨rfl, by rw [decide_eq_false zV], rfl⟩)
 refine H3 ?_
 (exact ⟨rfl, by rw [decide_eq_false zV], rfl⟩)
theorem A0n (k tg lb : Int) (p0 : Option Addr) (n0 c0 : Nat) (ok : Bool) (p : Option Addr) (n c : Nat) (G : IM) : Fn Tryz.prog 166 [.agg ⟨[.int .i64 k, .int .i64 tg, .int .i64 lb, .slice p0 n0 c0]⟩, .bool ok, .slice p n c] [] G (F8 (.tuple ⟨[.agg ⟨[.int .i64 k, .int .i64 tg, .int .i64 lb, .slice p n c]⟩, .bool ok]⟩) G) := by
 refine D5 Tryz.func166 rfl Tryz.ntmps166 Tryz.results166 rfl ?_
 intro w0
 refine A3 ?_
 refine sE (D8 rfl rfl) rfl (fun b3 => ?_)
 refine sE (A4 rfl) rfl (fun b4 => ?_)
 refine Z7 ?_
 refine C5 (rC rfl (A1 rfl rfl)) (rT rfl) ?_
 (exact ⟨rfl, rfl, rfl⟩)
def GT.m : GT → Nat
 | .any => 0
 | .int => 1
 | .bool => 1
 | .fn a b => a.m + b.m + 1
 | .pr a b => a.m + b.m + 1
def GT.isA : GT → Bool
 | .any => true
 | _ => false
def U0 (A B : GT) : Nat := 2 * (A.m + B.m) + (if A.isA = B.isA then 0 else 3)
def U5 (c : Cn) : IM → Value → List A5 → Prop := K9 fun G' v => ∃ cells, v = .agg ⟨cells⟩ ∧ E6 G' c cells
theorem U5.mk {G : IM} {c : Cn} {cells : List Value} (h : E6 G c cells) : U5 c G (.agg ⟨cells⟩) [] := ⟨rfl, cells, rfl, h⟩
theorem A4l {A : GT} {k : Int} {ks : List Ty} (h : A.ty = .mk k ks) : (k = 1 ∨ k = 2 ∨ k = 3 → ks.length = 0) ∧ (k = 4 ∨ k = 5 → ks.length = 2) ∧ (k = 1 ↔ A.isA = true) ∧ (k = 1 ∨ k = 2 ∨ k = 3 ∨ k = 4 ∨ k = 5) := by
 cases A <;> simp only [GT.ty, Ty.mk.injEq] at h <;> obtain ⟨rfl, rfl⟩ := h <;> simp [GT.isA]
theorem B3Y {A : GT} {ks : List Ty} (h : A.ty = .mk 4 ks) : ∃ a b : GT, A = .fn a b ∧ ks = [a.ty, b.ty] := by
 cases A <;> simp only [GT.ty, Ty.mk.injEq] at h <;> first | exact ⟨_, _, rfl, h.2.symm⟩ | (exfalso; omega)
theorem B3Z {A : GT} {ks : List Ty} (h : A.ty = .mk 5 ks) : ∃ a b : GT, A = .pr a b ∧ ks = [a.ty, b.ty] := by
 cases A <;> simp only [GT.ty, Ty.mk.injEq] at h <;> first | exact ⟨_, _, rfl, h.2.symm⟩ | (exfalso; omega)
theorem A1B {A : GT} : A.isA = true ↔ A = .any := by cases A <;> simp [GT.isA]
theorem A8W {A : GT} (h : A ≠ .any) : A.gr.m = 1 ∧ A.gr.isA = false := by cases A <;> first | exact absurd rfl h | exact ⟨rfl, rfl⟩
theorem A4m (A B : GT) : U0 A B ≤ 2 * (A.m + B.m) + 3 := by unfold U0; split <;> omega
theorem A8X {A : GT} (h : A ≠ .any) : U0 A A.gr < U0 A .any := by
 have h1 := A8W h
 have h2 : A.isA = false := by cases A <;> first | rfl | exact absurd rfl h
 unfold U0
 rw [h1.2, h2, h1.1]
 simp [GT.m, GT.isA]
 omega
theorem A8Y {B : GT} (h : B ≠ .any) : U0 B.gr B < U0 .any B := by
 have h1 := A8W h
 have h2 : B.isA = false := by cases B <;> first | rfl | exact absurd rfl h
 unfold U0
 rw [h1.2, h2, h1.1]
 simp [GT.m, GT.isA]
 omega
theorem A5O (a b c d : GT) : U0 c a < U0 (.fn a b) (.fn c d) ∧ U0 b d < U0 (.fn a b) (.fn c d) := by
 have h1 := A4m c a
 have h2 := A4m b d
 have e : U0 (.fn a b) (.fn c d) = 2 * (a.m + b.m + 1 + (c.m + d.m + 1)) := rfl
 omega
theorem A5P (a b c d : GT) : U0 a c < U0 (.pr a b) (.pr c d) ∧ U0 b d < U0 (.pr a b) (.pr c d) := by
 have h1 := A4m a c
 have h2 := A4m b d
 have e : U0 (.pr a b) (.pr c d) = 2 * (a.m + b.m + 1 + (c.m + d.m + 1)) := rfl
 omega
theorem A8Z {A B : GT} {k : Int} {ks bks : List Ty} (hA : A.ty = .mk k ks) (hB : B.ty = .mk k bks) (hn : ks.length = 0) (l : Int) : (kc A B l).cn = .mk 1 k 0 [] := by
 cases A <;> cases B <;> simp only [GT.ty, Ty.mk.injEq] at hA hB <;> obtain ⟨rfl, rfl⟩ := hA <;> first | (exfalso; omega) | (exfalso; simp at hn; done) | skip
 ·rw [A1b, U2]; rfl
 ·rw [A3I]; rfl
 ·rw [A3J]; rfl
theorem A80 {A : GT} (hA : A ≠ .any) (l : Int) : kc A .any l = .inj (kc A A.gr l) := by
 rw [A1Q]
 cases A with
 | any => exact absurd rfl hA
 | int => rw [V9, GT.gr, A3I]
 | bool => rw [V9, GT.gr, A3J]
 | fn a b => rw [V9, GT.gr, A1R, A1b, A1Q]
 | pr a b => rw [V9, GT.gr, A1S, A1Q, A1Q]
theorem A81 {B : GT} (hB : B ≠ .any) (l : Int) : kc .any B l = .prj l (kc B.gr B l) := by
 rw [A1b]
 cases B with
 | any => exact absurd rfl hB
 | int => rw [U2, GT.gr, A3I]
 | bool => rw [U2, GT.gr, A3J]
 | fn a b => rw [U2, GT.gr, A1R, A1Q, A1b]
 | pr a b => rw [U2, GT.gr, A1S, A1b, A1b]
theorem U1 {G : IM} {c : Cn} {k tg lb : Int} {x1 x2 x3 x4 : Value} {p : Option Addr} {cp : Nat} (h : E6 G c [x1, x2, x3, x4]) (hs : Sl G p 1 cp 4 [x1, x2, x3, x4]) (hk : F9 k) (ht : F9 tg) (hl : F9 lb) (h5 : ¬(k = 2 ∨ k = 3)) : E6 G (.mk k tg lb [c]) [.int .i64 k, .int .i64 tg, .int .i64 lb, .slice p 1 cp] :=
 E6.put (ks := [c]) (es := [[x1, x2, x3, x4]]) hk ht hl zW (fun h => absurd h h5) (fun _ => rfl) rfl (C8.of hs rfl (by intro x hx; obtain rfl := List.mem_singleton.1 hx; rfl) (by intro x hx; obtain rfl := List.mem_singleton.1 hx; exact h.one)) (KR.cons h KR.nil)
theorem L7 {G : IM} {c d : Cn} {k tg lb : Int} {x1 x2 x3 x4 y1 y2 y3 y4 : Value} {p : Option Addr} {cp : Nat} (h : E6 G c [x1, x2, x3, x4]) (h' : E6 G d [y1, y2, y3, y4]) (hs : Sl G p 2 cp 4 [x1, x2, x3, x4, y1, y2, y3, y4]) (hk : F9 k) (ht : F9 tg) (hl : F9 lb) (h5 : ¬(k = 4 ∨ k = 5)) : E6 G (.mk k tg lb [c, d]) [.int .i64 k, .int .i64 tg, .int .i64 lb, .slice p 2 cp] :=
 E6.put (ks := [c, d]) (es := [[x1, x2, x3, x4], [y1, y2, y3, y4]]) hk ht hl zW (fun _ => rfl) (fun h => absurd h h5) rfl (C8.of hs rfl (by intro x hx; simp only [List.mem_cons, List.not_mem_nil, or_false] at hx; rcases hx with rfl | rfl <;> rfl) (by intro x hx; simp only [List.mem_cons, List.not_mem_nil, or_false] at hx; rcases hx with rfl | rfl; exact h.one; exact h'.one)) (KR.cons h (KR.cons h' KR.nil))
theorem A82 {A B : GT} (h : Co A B) {ks bks : List Ty} {bk : Int} (hA : A.ty = .mk 4 ks) (hB : B.ty = .mk bk bks) (hb : bk ≠ 1) : ∃ a b c d : GT, A = .fn a b ∧ B = .fn c d ∧ ks = [a.ty, b.ty] ∧ bks = [c.ty, d.ty] ∧ Co c a ∧ Co b d := by
 obtain ⟨a, b, rfl, rfl⟩ := B3Y hA
 cases h with
 | r => simp only [GT.ty, Ty.mk.injEq] at hB; exact absurd hB.1.symm hb
 | fn h1 h2 => simp only [GT.ty, Ty.mk.injEq] at hB; exact ⟨_, _, _, _, rfl, rfl, rfl, hB.2.symm, h1.symm, h2⟩
theorem A83 {A B : GT} (h : Co A B) {ks bks : List Ty} {bk : Int} (hA : A.ty = .mk 5 ks) (hB : B.ty = .mk bk bks) (hb : bk ≠ 1) : ∃ a b c d : GT, A = .pr a b ∧ B = .pr c d ∧ ks = [a.ty, b.ty] ∧ bks = [c.ty, d.ty] ∧ Co a c ∧ Co b d := by
 obtain ⟨a, b, rfl, rfl⟩ := B3Z hA
 cases h with
 | r => simp only [GT.ty, Ty.mk.injEq] at hB; exact absurd hB.1.symm hb
 | pr h1 h2 => simp only [GT.ty, Ty.mk.injEq] at hB; exact ⟨_, _, _, _, rfl, rfl, rfl, hB.2.symm, h1, h2⟩
theorem A84 {A : GT} {k : Int} {ks : List Ty} (h : A.ty = .mk k ks) : mGk k = A.gr.ty := by
 rw [← A5M, h]; rfl
theorem A85 {A B : GT} (h : Co A B) {k bk : Int} {ks bks : List Ty} (hA : A.ty = .mk k ks) (hB : B.ty = .mk bk bks) (h1 : ¬(k = bk ∧ ks.length = 0)) (h2 : bk ≠ 1) (h3 : k ≠ 1) (h4 : k ≠ 4) : k = 5 := by
 cases h with
 | l => simp only [GT.ty, Ty.mk.injEq] at hA; exact absurd hA.1.symm h3
 | r => simp only [GT.ty, Ty.mk.injEq] at hB; exact absurd hB.1.symm h2
 | int => simp only [GT.ty, Ty.mk.injEq] at hA hB; exact absurd ⟨hA.1.symm.trans hB.1, by rw [← hA.2]; rfl⟩ h1
 | bool => simp only [GT.ty, Ty.mk.injEq] at hA hB; exact absurd ⟨hA.1.symm.trans hB.1, by rw [← hA.2]; rfl⟩ h1
 | fn _ _ => simp only [GT.ty, Ty.mk.injEq] at hA; exact absurd hA.1.symm h4
 | pr _ _ => simp only [GT.ty, Ty.mk.injEq] at hA; exact hA.1.symm
theorem B30 : ∀ (n : Nat) (A B : GT) (l : Int) (G : IM) (ac bc : List Value), U0 A B < n → Co A B → -99 ≤ l ∧ l ≤ 99 → C7 G A.ty ac → C7 G B.ty bc → Fn Tryz.prog 67 [.agg ⟨ac⟩, .agg ⟨bc⟩, .int .i64 l] [] G (U5 (kc A B l).cn) := by
 intro n
 induction n with
 | zero => intro A B l G ac bc h; omega
 | succ n ih =>
  intro A B l G ac bc hmu hco hl hra hrb
  obtain ⟨ak, aks, hA⟩ : ∃ ak aks, A.ty = .mk ak aks := by cases A.ty; exact ⟨_, _, rfl⟩
  obtain ⟨bk, bks, hB⟩ : ∃ ak aks, B.ty = .mk ak aks := by cases B.ty; exact ⟨_, _, rfl⟩
  have fA := A4l hA
  have fB := A4l hB
  have hAa : ak ≠ 1 → A ≠ .any := fun h e => h (fA.2.2.1.2 (A1B.2 e))
  have hBa : bk ≠ 1 → B ≠ .any := fun h e => h (fB.2.2.1.2 (A1B.2 e))
  have hAb : ak = 1 → A = .any := fun h => A1B.1 (fA.2.2.1.1 h)
  have hBb : bk = 1 → B = .any := fun h => A1B.1 (fB.2.2.1.1 h)
  have hF := fun (h : ak = 4) (hb : bk ≠ 1) => A82 hco (by rw [hA, h]) hB hb
  have hP := fun (h : ak = 5) (hb : bk ≠ 1) => A83 hco (by rw [hA, h]) hB hb
  have h55 := A85 hco hA hB
  have hsm := fun (h : bk = ak) (hn : aks.length = 0) => A8Z hA (by rw [hB, h]) hn l
  have hgA := A84 hA
  have hgB := A84 hB
  have hra0 := hra
  have hrb0 := hrb
  rw [hA] at hra
  rw [hB] at hrb
  obtain ⟨pa, ca, ea, rfl, hak, hsa, hla⟩ := hra.open
  obtain ⟨pb, cb, eb, rfl, hbk, hsb, hlb⟩ := hrb.open
  simp only [Ty.k, Ty.ks] at hak hsa hla hbk hsb hlb hra0 hrb0 ⊢
  have h0 : F9 0 := ⟨by decide, by decide⟩
  have hl64 : F9 l := ⟨by omega, by omega⟩
  refine D5 Tryz.func67 rfl Tryz.ntmps67 Tryz.results67 rfl ?_
  intro w0
  refine A3 ?_
  refine sE (D8 rfl rfl) rfl (fun b3 => ?_)
  refine sE (D8 rfl rfl) rfl (fun b4 => ?_)
  refine sE (A4 rfl) rfl (fun b5 => ?_)
  refine B2 ?_
  refine B7 ?_
  refine A7 ?_
  refine sB (qE rfl rfl) rfl rfl (fun h16 => ?_) (fun h16 => ?_)
  refine C3 ?_
  refine sB (qE rfl rfl) rfl rfl (fun h21 => ?_) (fun h21 => ?_)
  refine K0 ?_
  refine I7 (rC rfl (A1 rfl rfl)) ?_
  (exact U5.mk (by rw [hsm zV zV]; exact E6.put (ks := []) (es := []) ⟨by decide, by decide⟩ hak h0 zU zU zU rfl (C8.nil _ _) KR.nil))
  refine C2 ?_
  refine sP (E1 rfl rfl zV) rfl rfl ?_
  refine B4 ?_
  refine sP (E1 rfl rfl zV) rfl rfl ?_
  refine B4 ?_
  refine sB (qE rfl rfl) rfl rfl (fun h67 => ?_) (fun h67 => ?_)
  refine A9 ?_
  (have hg : aks.length = 2 := fA.2.1 zV; obtain ⟨a, b, c, d, rfl, rfl, rfl, rfl, hc1, hc2⟩ := hF zV zV; have hm := A5O a b c d; obtain ⟨b1, o1, q1, d1, rfl, hat1, hre1, hgb1⟩ := hsa.kidTy hla (i := 0) zW zW; obtain ⟨b2, o2, q2, d2, hE2, hat2, hre2, hgb2⟩ := hsa.kidTy hla (i := 1) zW zW; cases hE2; obtain ⟨b3, o3, q3, d3, rfl, hat3, hre3, hgb3⟩ := hsb.kidTy hlb (i := 0) zW zW; obtain ⟨b4, o4, q4, d4, hE4, hat4, hre4, hgb4⟩ := hsb.kidTy hlb (i := 1) zW zW; cases hE4; refine D3 D4 rfl ?_)
  refine E9 (i := 0) (l' := [tt,ff,ff,ff,ff,ff,ff,ff,ff,ff,ff,ff,ff,ff,ff,ff,ff,ff,ff,ff,ff,ff,ff,ff]) rfl C1 (B0 rfl) rfl zT rfl rfl ?_
  refine aL 1 rfl (B3 rfl rfl) rfl ?_
  refine aP 2 rfl (A6 (j := 0) rfl rfl rfl zW) rfl ?_
  refine aL 3 rfl (A2 rfl rfl (hat3 _) rfl) rfl ?_
  refine aP 4 rfl (B0 rfl) rfl ?_
  refine aL 5 rfl (B3 rfl rfl) rfl ?_
  refine aP 6 rfl (A6 (j := 0) rfl rfl rfl zW) rfl ?_
  refine aL 7 rfl (A2 rfl rfl (hat1 _) rfl) rfl ?_
  refine aP 8 rfl (qM rfl) rfl ?_
  refine aP 9 rfl (A3u rfl zV zV) rfl ?_
  refine aP 11 rfl (B0 rfl) rfl ?_
  refine aL 12 rfl (B3 rfl rfl) rfl ?_
  refine aP 13 rfl (A6 (j := 1) rfl rfl rfl zW) rfl ?_
  refine aL 14 rfl (A2 rfl rfl (hat2 _) rfl) rfl ?_
  refine aP 15 rfl (B0 rfl) rfl ?_
  refine aL 16 rfl (B3 rfl rfl) rfl ?_
  refine aP 17 rfl (A6 (j := 1) rfl rfl rfl zW) rfl ?_
  refine aL 18 rfl (A2 rfl rfl (hat4 _) rfl) rfl ?_
  refine aP 19 rfl (qM rfl) rfl ?_
  refine A0 10 ?_
  (refine D6 rfl rfl (ih c a (-l) G _ _ zV hc1 ⟨by omega, by omega⟩ hre3 hre1) rfl rfl rfl (fun u G1 hle1 hh => ?_); obtain ⟨uc, rfl, hru⟩ := hh; obtain ⟨x1, x2, x3, x4, rfl⟩ := W3 hru.len)
  refine A0 20 ?_
  (refine D6 rfl rfl (ih b d l G1 _ _ zV hc2 hl (hre2.mono hle1) (hre4.mono hle1)) rfl rfl rfl (fun u G2 hle2 hh => ?_); obtain ⟨vc, rfl, hrv⟩ := hh; obtain ⟨y1, y2, y3, y4, rfl⟩ := W3 hrv.len)
  refine A0 21 ?_
  (refine B6 rfl (C0 rfl rfl rfl zV zQ rfl) rfl rfl ?_; rintro _ ⟨b98, rfl⟩)
  refine aP 22 rfl (K8 rfl rfl) rfl ?_
  refine A0 23 ?_
  refine B8 rfl ?_
  refine A3 ?_
  (refine E0 (cs := [x1, x2, x3, x4, y1, y2, y3, y4]) zM (fun G5 hle5 hsl5 hno5 => ?_))
  refine B2 ?_
  refine I7 (rC rfl (A1 rfl rfl)) ?_
  (exact U5.mk (by rw [A1R, GK.cn]; exact L7 (hru.mono (hle2.trans hle5)) (hrv.mono hle5) hsl5 ⟨by decide, by decide⟩ h0 h0 zU))
  refine B4 ?_
  (have hg : aks.length = 2 := fA.2.1 zV; obtain ⟨a, b, c, d, rfl, rfl, rfl, rfl, hc1, hc2⟩ := hP (h55 zV zV zV zV) zV; have hm := A5P a b c d; obtain ⟨b1, o1, q1, d1, rfl, hat1, hre1, hgb1⟩ := hsa.kidTy hla (i := 0) zW zW; obtain ⟨b2, o2, q2, d2, hE2, hat2, hre2, hgb2⟩ := hsa.kidTy hla (i := 1) zW zW; cases hE2; obtain ⟨b3, o3, q3, d3, rfl, hat3, hre3, hgb3⟩ := hsb.kidTy hlb (i := 0) zW zW; obtain ⟨b4, o4, q4, d4, hE4, hat4, hre4, hgb4⟩ := hsb.kidTy hlb (i := 1) zW zW; cases hE4; refine D3 D4 rfl ?_)
  refine E9 (i := 0) (l' := [tt,ff,ff,ff,ff,ff,ff,ff,ff,ff,ff,ff,ff,ff,ff,ff,ff,ff,ff,ff,ff,ff,ff]) rfl C1 (B0 rfl) rfl zT rfl rfl ?_
  refine aL 1 rfl (B3 rfl rfl) rfl ?_
  refine aP 2 rfl (A6 (j := 0) rfl rfl rfl zW) rfl ?_
  refine aL 3 rfl (A2 rfl rfl (hat1 _) rfl) rfl ?_
  refine aP 4 rfl (B0 rfl) rfl ?_
  refine aL 5 rfl (B3 rfl rfl) rfl ?_
  refine aP 6 rfl (A6 (j := 0) rfl rfl rfl zW) rfl ?_
  refine aL 7 rfl (A2 rfl rfl (hat3 _) rfl) rfl ?_
  refine aP 8 rfl (qM rfl) rfl ?_
  refine aP 10 rfl (B0 rfl) rfl ?_
  refine aL 11 rfl (B3 rfl rfl) rfl ?_
  refine aP 12 rfl (A6 (j := 1) rfl rfl rfl zW) rfl ?_
  refine aL 13 rfl (A2 rfl rfl (hat2 _) rfl) rfl ?_
  refine aP 14 rfl (B0 rfl) rfl ?_
  refine aL 15 rfl (B3 rfl rfl) rfl ?_
  refine aP 16 rfl (A6 (j := 1) rfl rfl rfl zW) rfl ?_
  refine aL 17 rfl (A2 rfl rfl (hat4 _) rfl) rfl ?_
  refine aP 18 rfl (qM rfl) rfl ?_
  refine A0 9 ?_
  (refine D6 rfl rfl (ih a c l G _ _ zV hc1 hl hre1 hre3) rfl rfl rfl (fun u G1 hle1 hh => ?_); obtain ⟨uc, rfl, hru⟩ := hh; obtain ⟨x1, x2, x3, x4, rfl⟩ := W3 hru.len)
  refine A0 19 ?_
  (refine D6 rfl rfl (ih b d l G1 _ _ zV hc2 hl (hre2.mono hle1) (hre4.mono hle1)) rfl rfl rfl (fun u G2 hle2 hh => ?_); obtain ⟨vc, rfl, hrv⟩ := hh; obtain ⟨y1, y2, y3, y4, rfl⟩ := W3 hrv.len)
  refine A0 20 ?_
  (refine B6 rfl (C0 rfl rfl rfl zV zQ rfl) rfl rfl ?_; rintro _ ⟨b142, rfl⟩)
  refine aP 21 rfl (K8 rfl rfl) rfl ?_
  refine A0 22 ?_
  refine B8 rfl ?_
  refine A3 ?_
  (refine E0 (cs := [x1, x2, x3, x4, y1, y2, y3, y4]) zM (fun G5 hle5 hsl5 hno5 => ?_))
  refine tT ?_
  refine I7 (rC rfl (A1 rfl rfl)) ?_
  (exact U5.mk (by rw [A1S, GK.cn]; exact L7 (hru.mono (hle2.trans hle5)) (hrv.mono hle5) hsl5 ⟨by decide, by decide⟩ h0 h0 zU))
  refine J5 ?_
  refine sB (qE rfl rfl) rfl rfl (fun h166 => ?_) (fun h166 => ?_)
  refine A9 ?_
  refine D3 D4 rfl ?_
  refine K3 (i := 0) (l' := [tt,ff,ff,ff,ff,ff,ff,ff,ff]) rfl C1 (A1 rfl rfl) rfl zT rfl rfl ?_
  refine aP 1 rfl (B0 rfl) rfl ?_
  refine aL 2 rfl (B3 rfl rfl) rfl ?_
  refine aP 4 rfl (qM rfl) rfl ?_
  refine A0 3 ?_
  (refine D6 rfl rfl (A71 ak G hak) rfl rfl rfl (fun u G1 hle1 hh => ?_); obtain ⟨gc, rfl, hrg⟩ := hh; rw [hgA] at hrg; have hAn := hAa zV; obtain rfl := hBb zV)
  refine A0 5 ?_
  (refine D6 rfl rfl (ih A A.gr l G1 _ _ (by have := A8X hAn; omega) Co.gr hl (hra0.mono hle1) hrg) rfl rfl rfl (fun u G2 hle2 hh => ?_); obtain ⟨uc, rfl, hru⟩ := hh; obtain ⟨x1, x2, x3, x4, rfl⟩ := W3 hru.len)
  refine A0 6 ?_
  (refine B6 rfl (C0 rfl rfl rfl zV zQ rfl) rfl rfl ?_; rintro _ ⟨b182, rfl⟩)
  refine aP 7 rfl (K8 rfl rfl) rfl ?_
  refine A0 8 ?_
  refine B8 rfl ?_
  refine A3 ?_
  (refine E0 (cs := [x1, x2, x3, x4]) zM (fun G5 hle5 hsl5 hno5 => ?_))
  refine B2 ?_
  refine I7 (rC rfl (A1 rfl rfl)) ?_
  (exact U5.mk (by rw [A80 hAn, GK.cn]; exact U1 (hru.mono hle5) hsl5 ⟨by decide, by decide⟩ h0 h0 zU))
  refine B4 ?_
  refine sB (qE rfl rfl) rfl rfl (fun h202 => ?_) (fun h202 => ?_)
  refine A9 ?_
  refine D3 D4 rfl ?_
  refine E9 (i := 0) (l' := [tt,ff,ff,ff,ff,ff,ff,ff,ff,ff]) rfl C1 (qM rfl) rfl zT rfl rfl ?_
  refine aP 1 rfl (B0 rfl) rfl ?_
  refine aL 2 rfl (B3 rfl rfl) rfl ?_
  refine aL 4 rfl (A1 rfl rfl) rfl ?_
  refine aP 5 rfl (qM rfl) rfl ?_
  refine A0 3 ?_
  (refine D6 rfl rfl (A71 bk G hbk) rfl rfl rfl (fun u G1 hle1 hh => ?_); obtain ⟨gc, rfl, hrg⟩ := hh; rw [hgB] at hrg; have hBn := hBa zV; obtain rfl := hAb zV)
  refine A0 6 ?_
  (refine D6 rfl rfl (ih B.gr B l G1 _ _ (by have := A8Y hBn; omega) Co.gr.symm hl hrg (hrb0.mono hle1)) rfl rfl rfl (fun u G2 hle2 hh => ?_); obtain ⟨uc, rfl, hru⟩ := hh; obtain ⟨x1, x2, x3, x4, rfl⟩ := W3 hru.len)
  refine A0 7 ?_
  (refine B6 rfl (C0 rfl rfl rfl zV zQ rfl) rfl rfl ?_; rintro _ ⟨b219, rfl⟩)
  refine aP 8 rfl (K8 rfl rfl) rfl ?_
  refine A0 9 ?_
  refine B8 rfl ?_
  refine A3 ?_
  (refine E0 (cs := [x1, x2, x3, x4]) zM (fun G5 hle5 hsl5 hno5 => ?_))
  refine B2 ?_
  refine I7 (rC rfl (A1 rfl rfl)) ?_
  (exact U5.mk (by rw [A81 hBn, GK.cn]; exact U1 (hru.mono hle5) hsl5 ⟨by decide, by decide⟩ h0 hl64 zU))
  refine B4 ?_
  refine sB (qE rfl rfl) rfl rfl (fun h239 => ?_) (fun h239 => ?_)
  refine A9 ?_
  (have hg : aks.length = 2 := fA.2.1 zV; obtain ⟨a, b, c, d, rfl, rfl, rfl, rfl, hc1, hc2⟩ := hF zV zV; have hm := A5O a b c d; obtain ⟨b1, o1, q1, d1, rfl, hat1, hre1, hgb1⟩ := hsa.kidTy hla (i := 0) zW zW; obtain ⟨b2, o2, q2, d2, hE2, hat2, hre2, hgb2⟩ := hsa.kidTy hla (i := 1) zW zW; cases hE2; obtain ⟨b3, o3, q3, d3, rfl, hat3, hre3, hgb3⟩ := hsb.kidTy hlb (i := 0) zW zW; obtain ⟨b4, o4, q4, d4, hE4, hat4, hre4, hgb4⟩ := hsb.kidTy hlb (i := 1) zW zW; cases hE4; refine D3 D4 rfl ?_)
  refine E9 (i := 0) (l' := [tt,ff,ff,ff,ff,ff,ff,ff,ff,ff,ff,ff,ff,ff,ff,ff,ff,ff,ff,ff,ff,ff,ff,ff]) rfl C1 (B0 rfl) rfl zT rfl rfl ?_
  refine aL 1 rfl (B3 rfl rfl) rfl ?_
  refine aP 2 rfl (A6 (j := 0) rfl rfl rfl zW) rfl ?_
  refine aL 3 rfl (A2 rfl rfl (hat3 _) rfl) rfl ?_
  refine aP 4 rfl (B0 rfl) rfl ?_
  refine aL 5 rfl (B3 rfl rfl) rfl ?_
  refine aP 6 rfl (A6 (j := 0) rfl rfl rfl zW) rfl ?_
  refine aL 7 rfl (A2 rfl rfl (hat1 _) rfl) rfl ?_
  refine aP 8 rfl (qM rfl) rfl ?_
  refine aP 9 rfl (A3u rfl zV zV) rfl ?_
  refine aP 11 rfl (B0 rfl) rfl ?_
  refine aL 12 rfl (B3 rfl rfl) rfl ?_
  refine aP 13 rfl (A6 (j := 1) rfl rfl rfl zW) rfl ?_
  refine aL 14 rfl (A2 rfl rfl (hat2 _) rfl) rfl ?_
  refine aP 15 rfl (B0 rfl) rfl ?_
  refine aL 16 rfl (B3 rfl rfl) rfl ?_
  refine aP 17 rfl (A6 (j := 1) rfl rfl rfl zW) rfl ?_
  refine aL 18 rfl (A2 rfl rfl (hat4 _) rfl) rfl ?_
  refine aP 19 rfl (qM rfl) rfl ?_
  refine A0 10 ?_
  (refine D6 rfl rfl (ih c a (-l) G _ _ zV hc1 ⟨by omega, by omega⟩ hre3 hre1) rfl rfl rfl (fun u G1 hle1 hh => ?_); obtain ⟨uc, rfl, hru⟩ := hh; obtain ⟨x1, x2, x3, x4, rfl⟩ := W3 hru.len)
  refine A0 20 ?_
  (refine D6 rfl rfl (ih b d l G1 _ _ zV hc2 hl (hre2.mono hle1) (hre4.mono hle1)) rfl rfl rfl (fun u G2 hle2 hh => ?_); obtain ⟨vc, rfl, hrv⟩ := hh; obtain ⟨y1, y2, y3, y4, rfl⟩ := W3 hrv.len)
  refine A0 21 ?_
  (refine B6 rfl (C0 rfl rfl rfl zV zQ rfl) rfl rfl ?_; rintro _ ⟨b270, rfl⟩)
  refine aP 22 rfl (K8 rfl rfl) rfl ?_
  refine A0 23 ?_
  refine B8 rfl ?_
  refine A3 ?_
  (refine E0 (cs := [x1, x2, x3, x4, y1, y2, y3, y4]) zM (fun G5 hle5 hsl5 hno5 => ?_))
  refine B2 ?_
  refine I7 (rC rfl (A1 rfl rfl)) ?_
  (exact U5.mk (by rw [A1R, GK.cn]; exact L7 (hru.mono (hle2.trans hle5)) (hrv.mono hle5) hsl5 ⟨by decide, by decide⟩ h0 h0 zU))
  refine B4 ?_
  (have hg : aks.length = 2 := fA.2.1 zV; obtain ⟨a, b, c, d, rfl, rfl, rfl, rfl, hc1, hc2⟩ := hP (h55 zV zV zV zV) zV; have hm := A5P a b c d; obtain ⟨b1, o1, q1, d1, rfl, hat1, hre1, hgb1⟩ := hsa.kidTy hla (i := 0) zW zW; obtain ⟨b2, o2, q2, d2, hE2, hat2, hre2, hgb2⟩ := hsa.kidTy hla (i := 1) zW zW; cases hE2; obtain ⟨b3, o3, q3, d3, rfl, hat3, hre3, hgb3⟩ := hsb.kidTy hlb (i := 0) zW zW; obtain ⟨b4, o4, q4, d4, hE4, hat4, hre4, hgb4⟩ := hsb.kidTy hlb (i := 1) zW zW; cases hE4; refine D3 D4 rfl ?_)
  refine E9 (i := 0) (l' := [tt,ff,ff,ff,ff,ff,ff,ff,ff,ff,ff,ff,ff,ff,ff,ff,ff,ff,ff,ff,ff,ff,ff]) rfl C1 (B0 rfl) rfl zT rfl rfl ?_
  refine aL 1 rfl (B3 rfl rfl) rfl ?_
  refine aP 2 rfl (A6 (j := 0) rfl rfl rfl zW) rfl ?_
  refine aL 3 rfl (A2 rfl rfl (hat1 _) rfl) rfl ?_
  refine aP 4 rfl (B0 rfl) rfl ?_
  refine aL 5 rfl (B3 rfl rfl) rfl ?_
  refine aP 6 rfl (A6 (j := 0) rfl rfl rfl zW) rfl ?_
  refine aL 7 rfl (A2 rfl rfl (hat3 _) rfl) rfl ?_
  refine aP 8 rfl (qM rfl) rfl ?_
  refine aP 10 rfl (B0 rfl) rfl ?_
  refine aL 11 rfl (B3 rfl rfl) rfl ?_
  refine aP 12 rfl (A6 (j := 1) rfl rfl rfl zW) rfl ?_
  refine aL 13 rfl (A2 rfl rfl (hat2 _) rfl) rfl ?_
  refine aP 14 rfl (B0 rfl) rfl ?_
  refine aL 15 rfl (B3 rfl rfl) rfl ?_
  refine aP 16 rfl (A6 (j := 1) rfl rfl rfl zW) rfl ?_
  refine aL 17 rfl (A2 rfl rfl (hat4 _) rfl) rfl ?_
  refine aP 18 rfl (qM rfl) rfl ?_
  refine A0 9 ?_
  (refine D6 rfl rfl (ih a c l G _ _ zV hc1 hl hre1 hre3) rfl rfl rfl (fun u G1 hle1 hh => ?_); obtain ⟨uc, rfl, hru⟩ := hh; obtain ⟨x1, x2, x3, x4, rfl⟩ := W3 hru.len)
  refine A0 19 ?_
  (refine D6 rfl rfl (ih b d l G1 _ _ zV hc2 hl (hre2.mono hle1) (hre4.mono hle1)) rfl rfl rfl (fun u G2 hle2 hh => ?_); obtain ⟨vc, rfl, hrv⟩ := hh; obtain ⟨y1, y2, y3, y4, rfl⟩ := W3 hrv.len)
  refine A0 20 ?_
  (refine B6 rfl (C0 rfl rfl rfl zV zQ rfl) rfl rfl ?_; rintro _ ⟨b314, rfl⟩)
  refine aP 21 rfl (K8 rfl rfl) rfl ?_
  refine A0 22 ?_
  refine B8 rfl ?_
  refine A3 ?_
  (refine E0 (cs := [x1, x2, x3, x4, y1, y2, y3, y4]) zM (fun G5 hle5 hsl5 hno5 => ?_))
  refine tT ?_
  refine I7 (rC rfl (A1 rfl rfl)) ?_
  (exact U5.mk (by rw [A1S, GK.cn]; exact L7 (hru.mono (hle2.trans hle5)) (hrv.mono hle5) hsl5 ⟨by decide, by decide⟩ h0 h0 zU))
mutual
def A4n : Tm → List Ty
 | .mk k _ _ ty _ _ ks => (if k = 5 ∨ k = 13 then [ty] else []) ++ A86 ks
def A86 : List Tm → List Ty
 | [] => []
 | t :: ts => A4n t ++ A86 ts
end
mutual
def A87 : Tm → List Ty → Tm
 | .mk k nm num ty fr lb ks, l => .mk k nm num (if k = 5 ∨ k = 13 then l.getD 0 C6 else ty) fr lb (A88 ks (if k = 5 ∨ k = 13 then l.drop 1 else l))
def A88 : List Tm → List Ty → List Tm
 | [], _ => []
 | t :: ts, l => A87 t l :: A88 ts (l.drop (A4n t).length)
end
def A89 (mask : Nat) : Nat → List Ty → List Ty
 | _, [] => []
 | i, t :: ts => (if (mask / 2 ^ i) % 2 = 1 then .mk 1 [] else t) :: A89 mask (i + 1) ts
def B31 (e : Tm) (mask : Nat) : Tm := A87 e (A89 mask 0 (A4n e))
def B5g (e : Tm) : List Tm := (List.range (2 ^ (A4n e).length)).map (B31 e)
def B5h (k : Int) : Bool := decide (k = 5 ∨ k = 13)
section cap
variable {P : Program} {Γ : K7} {env : L4} {hp : List A5} {G : IM} {K : Po} {ops : Array Oper} {rest : List Oper}
end cap
def B5i (ts : List Ty) : IM → Value → List A5 → Prop := fun G' v outs => ∃ p c es, v = .slice p ts.length c ∧ outs = [.slc p c 25 2 ts.length es.flatten] ∧ F4 G' ts es
def RtP (u : Tm) (l : List Ty) : IM → Value → List A5 → Prop := fun G' v outs => outs = [] ∧ ∃ cu p c el, v = .tuple ⟨[.agg ⟨cu⟩, .slice p l.length c]⟩ ∧ D1 G' u cu ∧ C8 G' p l.length c 2 el ∧ F4 G' l el
def Q8 (t : Nt) : IM → Value → List A5 → Prop := K9 fun G' v => ∃ cells, v = .agg ⟨cells⟩ ∧ B1 G' t cells
theorem Q8.mk {G : IM} {t : Nt} {cells : List Value} (h : B1 G t cells) : Q8 t G (.agg ⟨cells⟩) [] := ⟨rfl, cells, rfl, h⟩
theorem E6.ints {G : IM} {c : Cn} {cells : List Value} (h : E6 G c cells) : ∃ a b d p n cp, cells = [.int .i64 a, .int .i64 b, .int .i64 d, .slice p n cp] := by
 cases h; exact ⟨_, _, _, _, _, _, rfl⟩
theorem KR.each {G : IM} {ks : List Nt} {es : List (List Value)} (h : KR (B1 G) ks es) (hl : ks.length = es.length) : ∀ e ∈ es, e.length = 14 ∧ e.all (·.oneCell') = true := by
 intro e he
 obtain ⟨i, hi, rfl⟩ := List.getElem_of_mem he
 have := h i (ks[i]'zV) es[i] (List.getElem?_eq_getElem zV) (List.getElem?_eq_getElem hi)
 exact ⟨this.len, this.one⟩
theorem A4o (t : Nt) (kd : Int) (G : IM) (cells : List Value) (hr : B1 G t cells) : Fn Tryz.prog 69 [.agg ⟨cells⟩, .int .i64 kd] [] G (F8 (.bool (decide (t.k = 14 ∧ t.co.k = kd))) G) := by
 obtain ⟨k, nm, num, ⟨ck, ctg, clb, cks⟩, ks⟩ := t
 obtain ⟨tk, tks, fk, fks, lb, pt, ct, pf, cf, p0, c0, pc, cc, p, c, es, rfl, hnd, hco, hn3, h14, hsl, hkl⟩ := hr.open14
 rw [show (Nt.mk k nm num (.mk ck ctg clb cks) ks).k = k from rfl, show (Nt.mk k nm num (.mk ck ctg clb cks) ks).co.k = ck from rfl]
 refine D5 Tryz.func69 rfl Tryz.ntmps69 Tryz.results69 rfl ?_
 intro w0
 refine A3 ?_
 refine sE (D8 rfl rfl) rfl (fun b3 => ?_)
 refine B4 ?_
 refine sB (qE rfl rfl) rfl rfl (fun h12 => ?_) (fun h12 => ?_)
 refine A9 ?_
 refine sB (qE rfl rfl) rfl rfl (fun h18 => ?_) (fun h18 => ?_)
 refine A7 ?_
 (exact ⟨rfl, by rw [decide_eq_true zV], rfl⟩)
 refine A7 ?_
 (exact ⟨rfl, by rw [decide_eq_false zV], rfl⟩)
 refine K1 ?_
 (exact ⟨rfl, by rw [decide_eq_false zV], rfl⟩)
theorem B32 : ∀ (t : Nt) (G : IM) (cells : List Value), t.sz ≤ 4294967296 → B1 G t cells → Fn Tryz.prog 37 [.agg ⟨cells⟩] [] G (F8 (.int .i64 (t.sz : Int)) G) := by
 refine Nt.ind fun k nm num co ks ih G cells hcnt hr => ?_
 obtain ⟨ck, ctg, clb, cks⟩ := co
 obtain ⟨tk, tks, fk, fks, lb, pt, ct, pf, cf, p0, c0, pc, cc, p, c, es, rfl, hnd, hco, hn3, h14, hsl, hkl⟩ := hr.open14
 rw [Nt.sz] at hcnt ⊢
 refine D5 Tryz.func37 rfl Tryz.ntmps37 Tryz.results37 rfl ?_
 intro w0
 refine A3 ?_
 refine sE (D8 rfl rfl) rfl (fun b3 => ?_)
 refine R0 ?_
 refine B7 ?_
 (refine J3 (fun (i : Nat) => ⟨[(9, .int .i64 i), (8, .int .i64 ks.length), (7, .slice p ks.length c), (3, .int .i64 ((Nt.szL (ks.take i) + 1 : Nat) : Int))], [], G⟩) (fun i => i ≤ ks.length) (fun i => ks.length - i) 0 ?_ ?_ ?_)
 exact E3
 exact Nat.zero_le _
 (rintro i hi)
 refine A3 ?_
 refine sB (I3 rfl rfl) rfl rfl (fun h28 => ?_) (fun h28 => ?_)
 refine A8 ?_
 refine B7 ?_
 refine A3 ?_
 (obtain ⟨b, o, e, rfl, hl, hone, hat, hre, _, hgb⟩ := hsl.kidR hkl (i := i) zV zV; have htk := A76 (ks := ks) (i := i) zV; refine sP (A6 (j := i) rfl rfl rfl zV) rfl rfl ?_)
 refine sL (A2 rfl rfl (hat _) hl) rfl rfl ?_
 refine sE (A4 rfl) rfl (fun b41 => ?_)
 refine sS rfl rfl rfl hl hone rfl ?_ (hu := by exact D7 hl.symm)
 refine C3 ?_
 refine sL (A2 rfl rfl (C9 zO) hl) rfl rfl ?_
 (refine E5 rfl (ih ks[i] (List.getElem_mem zV) G _ zV hre) rfl rfl ?_)
 refine sP (H9 rfl rfl zV zV) rfl rfl ?_
 refine A9 ?_
 refine sP (H9 rfl rfl zV zV) rfl rfl ?_
 refine A3 ?_
 (refine I6 (i + 1) ?_ ?_ ?_; rw [show ((Nt.szL (ks.take (i + 1)) + 1 : Nat) : Int) = ((Nt.szL (ks.take i) + 1 : Nat) : Int) + (ks[i].sz : Int) from by rw [A5w zV]; omega])
 exact E3
 omega
 omega
 refine R0 ?_
 (obtain rfl : i = ks.length := zV; rw [List.take_length]; exact ⟨rfl, rfl, rfl⟩)
theorem A9a : ∀ (t : Nt) (G : IM) (cells : List Value), B1 G t cells → Fn Tryz.prog 33 [.agg ⟨cells⟩] [] G (F8 (.int .i64 t.ht) G) := by
 refine Nt.ind fun k nm num co ks ih G cells hr => ?_
 have hCh := fun cs => B3X co G cs
 rw [Nt.ht]
 obtain ⟨ck, ctg, clb, cks⟩ := co
 generalize (Cn.mk ck ctg clb cks).ht = CH at hCh ⊢
 obtain ⟨tk, tks, fk, fks, lb, pt, ct, pf, cf, p0, c0, pc, cc, p, c, es, rfl, hnd, hco, hn3, h14, hsl, hkl⟩ := hr.open14
 replace hCh := hCh _ hco
 have hn := hsl.le
 refine D5 Tryz.func33 rfl Tryz.ntmps33 Tryz.results33 rfl ?_
 intro w0
 refine A3 ?_
 refine sE (D8 rfl rfl) rfl (fun b3 => ?_)
 refine J5 ?_
 refine sB (qE rfl rfl) rfl rfl (fun h18 => ?_) (fun h18 => ?_)
 refine A7 ?_
 refine E5 rfl (hCh) rfl rfl ?_
 refine K1 ?_
 refine B7 ?_
 (have hz : k = 14 := zV; refine J3 (fun (i : Nat) => ⟨[(16, .int .i64 (i : Int)), (15, .int .i64 (ks.length : Int)), (14, .slice p ks.length c), (3, .int .i64 (Nt.htL CH (ks.take i)))], [], G⟩) (fun i => i ≤ ks.length) (fun i => ks.length - i) 0 ?_ ?_ ?_)
 exact E3
 exact Nat.zero_le _
 (rintro i hi)
 refine A3 ?_
 refine sB (I3 rfl rfl) rfl rfl (fun h45 => ?_) (fun h45 => ?_)
 refine A8 ?_
 refine B7 ?_
 refine A3 ?_
 (obtain ⟨b, o, e, rfl, hl, ho, hat, hre, _, hgb⟩ := hsl.kidR hkl (i := i) zV zV; refine sP (A6 (j := i) rfl rfl rfl zV) rfl rfl ?_)
 refine sL (A2 rfl rfl (hat _) hl) rfl rfl ?_
 refine sE (A4 rfl) rfl (fun b58 => ?_)
 refine sS rfl rfl rfl hl ho rfl ?_ (hu := by exact D7 hl.symm)
 refine C3 ?_
 refine sL (A2 rfl rfl (C9 zO) hl) rfl rfl ?_
 (refine E5 rfl (ih ks[i] (List.getElem_mem zV) G _ hre) rfl rfl ?_)
 refine sQ (A4j rfl rfl) rfl ?_
 refine A9 ?_
 refine sP (H9 rfl rfl zV zV) rfl rfl ?_
 refine A3 ?_
 (have hz2 : k = 14 := hz; refine I6 (i + 1) ?_ ?_ ?_; rw [show Nt.htL CH (ks.take (i + 1)) = (if Nt.htL CH (ks.take i) < ks[i].ht then ks[i].ht else Nt.htL CH (ks.take i)) from A79 zV])
 exact E3
 omega
 omega
 refine R0 ?_
 (obtain rfl : i = ks.length := zV; rw [List.take_length]; exact ⟨rfl, by rw [if_pos hz], rfl⟩)
 refine J5 ?_
 refine B7 ?_
 (have hz : k ≠ 14 := zV; refine J3 (fun (i : Nat) => ⟨[(16, .int .i64 (i : Int)), (15, .int .i64 (ks.length : Int)), (14, .slice p ks.length c), (3, .int .i64 (Nt.htL 0 (ks.take i)))], [], G⟩) (fun i => i ≤ ks.length) (fun i => ks.length - i) 0 ?_ ?_ ?_)
 exact E3
 exact Nat.zero_le _
 (rintro i hi)
 refine A3 ?_
 refine sB (I3 rfl rfl) rfl rfl (fun h118 => ?_) (fun h118 => ?_)
 refine A8 ?_
 refine B7 ?_
 refine A3 ?_
 (obtain ⟨b, o, e, rfl, hl, ho, hat, hre, _, hgb⟩ := hsl.kidR hkl (i := i) zV zV; refine sP (A6 (j := i) rfl rfl rfl zV) rfl rfl ?_)
 refine sL (A2 rfl rfl (hat _) hl) rfl rfl ?_
 refine sE (A4 rfl) rfl (fun b131 => ?_)
 refine sS rfl rfl rfl hl ho rfl ?_ (hu := by exact D7 hl.symm)
 refine C3 ?_
 refine sL (A2 rfl rfl (C9 zO) hl) rfl rfl ?_
 (refine E5 rfl (ih ks[i] (List.getElem_mem zV) G _ hre) rfl rfl ?_)
 refine sQ (A4j rfl rfl) rfl ?_
 refine A9 ?_
 refine sP (H9 rfl rfl zV zV) rfl rfl ?_
 refine A3 ?_
 (refine I6 (i + 1) ?_ ?_ ?_; rw [show Nt.htL 0 (ks.take (i + 1)) = (if Nt.htL 0 (ks.take i) < ks[i].ht then ks[i].ht else Nt.htL 0 (ks.take i)) from A79 zV])
 exact E3
 omega
 omega
 refine R0 ?_
 (obtain rfl : i = ks.length := zV; rw [List.take_length]; exact ⟨rfl, by rw [if_neg hz], rfl⟩)
theorem A4p {G : IM} {t : Nt} {C : Cn} {k : Int} {x1 x2 x3 x4 v1 v2 v3 v4 v5 v6 v7 v8 v9 w1 w2 w3 w4 w5 : Value} {p : Option Addr} {cp : Nat} (hk : F9 k) (hc : E6 G C [x1, x2, x3, x4]) (h : B1 G t [v1, v2, v3, v4, v5, v6, v7, v8, v9, w1, w2, w3, w4, w5]) (hs : Sl G p 1 cp 14 [v1, v2, v3, v4, v5, v6, v7, v8, v9, w1, w2, w3, w4, w5]) :
  B1 G (.mk k ⟨⟨[]⟩⟩ 0 C [t]) [.int .i64 k, .string ⟨⟨[]⟩⟩, .int .i64 0, .int .i64 0, .slice none 0 0, .int .i64 0, .slice none 0 0, .int .i64 0, .slice none 0 0, x1, x2, x3, x4, .slice p 1 cp] :=
 .mk (tks := []) (fks := []) (ks := [t]) (es := [[v1, v2, v3, v4, v5, v6, v7, v8, v9, w1, w2, w3, w4, w5]]) (A29 _ hk ⟨by decide, by decide⟩) hc zW (fun _ => rfl) (C8.of hs rfl (by intro x hx; obtain rfl := List.mem_singleton.1 hx; rfl) (by intro x hx; obtain rfl := List.mem_singleton.1 hx; exact h.one)) (KR.cons h KR.nil)
theorem A17 (t : Nt) (C : Cn) (G : IM) (cells cc : List Value) (hr : B1 G t cells) (hc : E6 G C cc) : Fn Tryz.prog 75 [.agg ⟨cells⟩, .agg ⟨cc⟩] [] G (Q8 (.mk 14 ⟨⟨[]⟩⟩ 0 C [t])) := by
 obtain ⟨x1, x2, x3, p4, n4, c4, rfl⟩ := hc.ints
 obtain ⟨v1, v2, v3, v4, v5, v6, v7, v8, v9, w1, w2, w3, w4, w5, rfl⟩ := X4 hr.len
 refine D5 Tryz.func75 rfl Tryz.ntmps75 Tryz.results75 rfl ?_
 intro w0
 refine A3 ?_
 refine sE (D8 rfl rfl) rfl (fun b3 => ?_)
 refine sE (D8 rfl rfl) rfl (fun b4 => ?_)
 refine sE (A4 rfl) rfl (fun b5 => ?_)
 refine A9 ?_
 refine sL (A2 rfl rfl (C9 zO) rfl) rfl rfl ?_
 refine sL (A2 rfl rfl (C9 zO) rfl) rfl rfl ?_
 (refine F0 (C0 rfl rfl rfl zV zQ rfl) rfl ?_; rintro _ ⟨b13, rfl⟩)
 refine C3 ?_
 (refine E0 (cs := [v1, v2, v3, v4, v5, v6, v7, v8, v9, w1, w2, w3, w4, w5]) zM (fun G2 hle2 hsl2 hno2 => ?_))
 refine tT ?_
 refine I7 (rC rfl (A1 rfl rfl)) ?_
 (exact Q8.mk (A4p ⟨by decide, by decide⟩ (hc.mono hle2) (hr.mono hle2) hsl2))
theorem B33 (G : IM) (p : Option Addr) (n c : Nat) (es : List (List Value)) (h : C8 G p n c 14 es) (h0 : 0 < n) (hn : n ≤ 4294967296) :
  Fn Tryz.prog 127 [.slice p n c] [] G (fun G' v outs => G' = G ∧ ∃ p' c', v = .slice p' n c' ∧ outs = [.slc p' c' 68 14 n es.flatten]) := by
 obtain ⟨hl, hc, hm, hat⟩ := h.sl
 obtain ⟨b, o, full, rfl, hg, hv⟩ := hat.resolve_left zV
 have ho : ∀ u ∈ es.flatten, u.oneCell' = true := by
  intro u hu
  obtain ⟨e, he, hue⟩ := List.mem_flatten.1 hu
  exact List.all_eq_true.1 (h.one e he) u hue
 refine D5 Tryz.func127 rfl Tryz.ntmps127 Tryz.results127 rfl ?_
 intro w0
 refine C2 ?_
 refine sQ (A6a rfl rfl rfl) rfl ?_
 refine A8 ?_
 (refine F0 (C0 rfl rfl rfl zV zQ rfl) rfl ?_; rintro _ ⟨b18, rfl⟩)
 refine I0 ?_
 refine A2T rfl rfl rfl rfl rfl (fun _ _ => by repeat (first | exact Sw.here | apply Sw.there)) (A4L hg hv) hl ho zQ zV rfl (fun pn cn => ?_)
 refine C3 ?_
 refine S1 (rT rfl) D0.refl ?_
 exact ⟨rfl, _, _, by rw [Nat.zero_add], by rw [Nat.zero_add]; rfl⟩
theorem B34 (y : ByteArray) (v : Nt) (vc : List Value) : ∀ (t : Nt) (G : IM) (cells : List Value), B1 G t cells → B1 G v vc → Fn Tryz.prog 74 [.agg ⟨cells⟩, .string y, .agg ⟨vc⟩] [] G (Q8 (U4 y v t)) := by
 refine Nt.ind fun k nm num co ks ih G cells hr hv => ?_
 have hr0 := hr
 have hvl := hv.len
 have hvo := hv.one
 rw [U4]
 obtain ⟨ck, ctg, clb, cks⟩ := co
 obtain ⟨tk, tks, fk, fks, lb, pt, ct, pf, cf, p0, c0, pc, cc, p, c, es, rfl, hnd, hco, hn3, h14, hsl, hkl⟩ := hr.open14
 have hn := hsl.le
 refine D5 Tryz.func74 rfl Tryz.ntmps74 Tryz.results74 rfl ?_
 intro w0
 refine A3 ?_
 refine sE (D8 rfl rfl) rfl (fun b3 => ?_)
 refine sE (D8 rfl rfl) rfl (fun b4 => ?_)
 refine sE (A4 rfl) rfl (fun b5 => ?_)
 refine B2 ?_
 refine B7 ?_
 refine A9 ?_
 refine sB (qE rfl rfl) rfl rfl (fun h15 => ?_) (fun h15 => ?_)
 refine A9 ?_
 refine sB (A1H rfl rfl) rfl rfl (fun h21 => ?_) (fun h21 => ?_)
 refine A8 ?_
 refine sL (A2 rfl rfl (C9 zO) hvl) rfl rfl ?_
 refine sS rfl rfl rfl hvl hvo rfl ?_ (hu := by exact D7 hvl.symm)
 refine A9 ?_
 refine I7 (rC rfl (A2 rfl rfl (C9 zO) hvl)) ?_
 (rw [if_pos (by refine ⟨by omega, by assumption⟩)]; exact Q8.mk hv)
 refine H3 ?_
 refine sP (E1 rfl rfl zV) rfl rfl ?_
 refine R0 ?_
 refine sE (A4 rfl) rfl (fun b66 => ?_)
 refine U9 ?_
 refine B7 ?_
 (refine S7 68 14 ?_; refine J3 (fun (x : Nat × Option Addr × Nat × List (List Value) × IM) => ⟨[(41, .int .i64 x.1), (40, .int .i64 ks.length), (39, .slice p ks.length c), (1, .string y), (3, .pointer (some ⟨b3, 0, none⟩)), (5, .pointer (some ⟨b4, 0, none⟩)), (6, .pointer (some ⟨b5, 0, none⟩)), (7, .pointer (some ⟨b66, 0, none⟩))], [.blk b66 [.int .i64 k, .string nm, .int .i64 num, .int .i64 tk, .slice pt tks.length ct, .int .i64 fk, .slice pf fks.length cf, .int .i64 lb, .slice p0 0 c0, .int .i64 ck, .int .i64 ctg, .int .i64 clb, .slice pc cks.length cc, .slice x.2.1 x.1 x.2.2.1], .slc x.2.1 x.2.2.1 68 14 x.1 x.2.2.2.1.flatten, .blk b5 [.int .i64 0, .string ⟨⟨[]⟩⟩, .int .i64 0, .int .i64 0, .slice none 0 0, .int .i64 0, .slice none 0 0, .int .i64 0, .slice none 0 0, .int .i64 0, .int .i64 0, .int .i64 0, .slice none 0 0, .slice none 0 0], .blk b4 vc, .blk b3 [.int .i64 k, .string nm, .int .i64 num, .int .i64 tk, .slice pt tks.length ct, .int .i64 fk, .slice pf fks.length cf, .int .i64 lb, .slice p0 0 c0, .int .i64 ck, .int .i64 ctg, .int .i64 clb, .slice pc cks.length cc, .slice p ks.length c]], x.2.2.2.2⟩) (fun x => x.1 ≤ ks.length ∧ D2 G x.2.2.2.2 ∧ x.2.2.2.1.length = x.1 ∧ KR (B1 x.2.2.2.2) ((N3 y v ks).take x.1) x.2.2.2.1) (fun x => ks.length - x.1) (0, none, 0, [], G) ?_ ?_ ?_)
 (simp only [J4]; exact E3)
 (exact ⟨Nat.zero_le _, D2.refl _, rfl, by rw [List.take_zero]; exact KR.nil⟩)
 (rintro ⟨i, pn, cn, es', Gi⟩ ⟨hi, hle, hel', hst⟩; simp only [] at hi hle hel' hst ⊢; replace hsl := hsl.mono hle; replace hkl := KR.imp hkl (fun a e h => h.mono hle); replace hv := hv.mono hle; replace hnd := hnd.mono hle; replace hco := hco.mono hle)
 refine A3 ?_
 refine sB (I3 rfl rfl) rfl rfl (fun h92 => ?_) (fun h92 => ?_)
 refine A8 ?_
 refine B7 ?_
 refine A3 ?_
 (have hil : i < ks.length := zV; obtain ⟨bx, ox, e, rfl, hel, heo, hat, hre, _, hgb⟩ := hsl.kidR hkl (i := i) zV zV; refine sP (A6 (j := i) rfl rfl rfl zV) rfl rfl ?_)
 refine sL (A2 rfl rfl (hat _) hel) rfl rfl ?_
 refine sE (A4 rfl) rfl (fun b105 => ?_)
 refine sS rfl rfl rfl hel heo rfl ?_ (hu := by exact D7 hel.symm)
 refine A3 ?_
 refine D3 D4 rfl ?_
 refine K3 (i := 2) (l' := [ff,ff,tt,ff,ff,ff,ff,ff,ff,ff]) rfl C1 (A2 rfl rfl (C9 zO) hel) rfl zT rfl rfl ?_
 refine aL 4 rfl (A2 rfl rfl (C9 zO) hvl) rfl ?_
 refine aP 0 rfl (B0 rfl) rfl ?_
 refine aL 1 rfl (B3 rfl rfl) rfl ?_
 refine aP 3 rfl (qM rfl) rfl ?_
 refine A0 5 ?_
 (refine D6 rfl rfl (ih ks[i] (List.getElem_mem zV) Gi _ hre hv) rfl rfl rfl (fun u G1 hle1 hh => ?_); obtain ⟨uc, rfl, hru⟩ := hh; have hul := hru.len; have huo := hru.one; obtain ⟨v1, v2, v3, v4, v5, v6, v7, v8, v9, w1, w2, w3, w4, w5, rfl⟩ := X4 hul)
 refine A0 6 ?_
 (refine B6 rfl (C0 rfl rfl rfl zV zQ rfl) rfl rfl ?_; rintro _ ⟨b118, rfl⟩)
 refine A0 7 ?_
 (refine P5 rfl rfl rfl rfl rfl rfl (fun _ _ => by repeat (first | exact Sw.here | apply Sw.there)) (O1 zO) rfl (fun u hu => List.all_eq_true.1 huo u hu) zQ zV rfl rfl zG (fun p7 c7 => ?_))
 refine aP 8 rfl (B0 rfl) rfl ?_
 refine A0 9 ?_
 refine S2 rfl rfl rfl rfl rfl rfl rfl rfl zR zN (by rfl) ?_
 refine C3 ?_
 refine sP (H9 rfl rfl zV zV) rfl rfl ?_
 refine A3 ?_
 refine I6 (i + 1, p7, c7, es' ++ [[v1, v2, v3, v4, v5, v6, v7, v8, v9, w1, w2, w3, w4, w5]], G1) ?_ ?_ ?_
 (simp only [J4]; exact E3)
 (dsimp only; exact ⟨by omega, hle.trans hle1, by rw [List.length_append]; simp only [List.length_singleton]; omega, by rw [A2w zV]; exact KR.snoc (KR.imp hst fun a e h => h.mono hle1) (by rw [List.length_take, M7]; omega) hru⟩)
 (show ks.length - (i + 1) < ks.length - i; omega)
 refine I9 ?_
 (refine E0 (cs := es'.flatten) zM (fun G2 hle2 hsl2 hno2 => ?_); obtain rfl : i = ks.length := zV)
 refine tT ?_
 refine I7 (rC rfl (A1 rfl rfl)) ?_
 (rw [if_neg (by rintro ⟨h1, h2⟩; first | omega | contradiction), if_neg (by rintro ⟨h1, h2⟩; first | omega | contradiction)]; rw [List.take_of_length_le (by rw [M7]; omega)] at hst; exact Q8.mk (B1.put (us := N3 y v ks) (hnd.mono hle2) (hco.mono hle2) (by rw [M7]; omega) (fun h => by rw [M7]; exact h14 h) (by rw [M7]) (C8.of hsl2 zV (fun e he => (hst.each (by rw [M7]; omega) e he).1) (fun e he => (hst.each (by rw [M7]; omega) e he).2)) (KR.imp hst fun a e h => h.mono hle2)))
 refine K0 ?_
 refine sB (qE rfl rfl) rfl rfl (fun h170 => ?_) (fun h170 => ?_)
 refine A9 ?_
 refine sB (A1H rfl rfl) rfl rfl (fun h176 => ?_) (fun h176 => ?_)
 refine J5 ?_
 refine I7 (rC rfl (A1 rfl rfl)) ?_
 (rw [if_neg (by rintro ⟨h1, h2⟩; first | omega | contradiction), if_pos (by refine ⟨by omega, by assumption⟩)]; exact Q8.mk hr0)
 refine E8 ?_
 refine sE (A4 rfl) rfl (fun b204 => ?_)
 refine U9 ?_
 refine B7 ?_
 (refine S7 68 14 ?_; refine J3 (fun (x : Nat × Option Addr × Nat × List (List Value) × IM) => ⟨[(41, .int .i64 x.1), (40, .int .i64 ks.length), (39, .slice p ks.length c), (1, .string y), (3, .pointer (some ⟨b3, 0, none⟩)), (5, .pointer (some ⟨b4, 0, none⟩)), (6, .pointer (some ⟨b5, 0, none⟩)), (7, .pointer (some ⟨b204, 0, none⟩))], [.blk b204 [.int .i64 k, .string nm, .int .i64 num, .int .i64 tk, .slice pt tks.length ct, .int .i64 fk, .slice pf fks.length cf, .int .i64 lb, .slice p0 0 c0, .int .i64 ck, .int .i64 ctg, .int .i64 clb, .slice pc cks.length cc, .slice x.2.1 x.1 x.2.2.1], .slc x.2.1 x.2.2.1 68 14 x.1 x.2.2.2.1.flatten, .blk b5 [.int .i64 0, .string ⟨⟨[]⟩⟩, .int .i64 0, .int .i64 0, .slice none 0 0, .int .i64 0, .slice none 0 0, .int .i64 0, .slice none 0 0, .int .i64 0, .int .i64 0, .int .i64 0, .slice none 0 0, .slice none 0 0], .blk b4 vc, .blk b3 [.int .i64 k, .string nm, .int .i64 num, .int .i64 tk, .slice pt tks.length ct, .int .i64 fk, .slice pf fks.length cf, .int .i64 lb, .slice p0 0 c0, .int .i64 ck, .int .i64 ctg, .int .i64 clb, .slice pc cks.length cc, .slice p ks.length c]], x.2.2.2.2⟩) (fun x => x.1 ≤ ks.length ∧ D2 G x.2.2.2.2 ∧ x.2.2.2.1.length = x.1 ∧ KR (B1 x.2.2.2.2) ((N3 y v ks).take x.1) x.2.2.2.1) (fun x => ks.length - x.1) (0, none, 0, [], G) ?_ ?_ ?_)
 (simp only [J4]; exact E3)
 (exact ⟨Nat.zero_le _, D2.refl _, rfl, by rw [List.take_zero]; exact KR.nil⟩)
 (rintro ⟨i, pn, cn, es', Gi⟩ ⟨hi, hle, hel', hst⟩; simp only [] at hi hle hel' hst ⊢; replace hsl := hsl.mono hle; replace hkl := KR.imp hkl (fun a e h => h.mono hle); replace hv := hv.mono hle; replace hnd := hnd.mono hle; replace hco := hco.mono hle)
 refine A3 ?_
 refine sB (I3 rfl rfl) rfl rfl (fun h230 => ?_) (fun h230 => ?_)
 refine A8 ?_
 refine B7 ?_
 refine A3 ?_
 (have hil : i < ks.length := zV; obtain ⟨bx, ox, e, rfl, hel, heo, hat, hre, _, hgb⟩ := hsl.kidR hkl (i := i) zV zV; refine sP (A6 (j := i) rfl rfl rfl zV) rfl rfl ?_)
 refine sL (A2 rfl rfl (hat _) hel) rfl rfl ?_
 refine sE (A4 rfl) rfl (fun b243 => ?_)
 refine sS rfl rfl rfl hel heo rfl ?_ (hu := by exact D7 hel.symm)
 refine A3 ?_
 refine D3 D4 rfl ?_
 refine K3 (i := 2) (l' := [ff,ff,tt,ff,ff,ff,ff,ff,ff,ff]) rfl C1 (A2 rfl rfl (C9 zO) hel) rfl zT rfl rfl ?_
 refine aL 4 rfl (A2 rfl rfl (C9 zO) hvl) rfl ?_
 refine aP 0 rfl (B0 rfl) rfl ?_
 refine aL 1 rfl (B3 rfl rfl) rfl ?_
 refine aP 3 rfl (qM rfl) rfl ?_
 refine A0 5 ?_
 (refine D6 rfl rfl (ih ks[i] (List.getElem_mem zV) Gi _ hre hv) rfl rfl rfl (fun u G1 hle1 hh => ?_); obtain ⟨uc, rfl, hru⟩ := hh; have hul := hru.len; have huo := hru.one; obtain ⟨v1, v2, v3, v4, v5, v6, v7, v8, v9, w1, w2, w3, w4, w5, rfl⟩ := X4 hul)
 refine A0 6 ?_
 (refine B6 rfl (C0 rfl rfl rfl zV zQ rfl) rfl rfl ?_; rintro _ ⟨b256, rfl⟩)
 refine A0 7 ?_
 (refine P5 rfl rfl rfl rfl rfl rfl (fun _ _ => by repeat (first | exact Sw.here | apply Sw.there)) (O1 zO) rfl (fun u hu => List.all_eq_true.1 huo u hu) zQ zV rfl rfl zG (fun p7 c7 => ?_))
 refine aP 8 rfl (B0 rfl) rfl ?_
 refine A0 9 ?_
 refine S2 rfl rfl rfl rfl rfl rfl rfl rfl zR zN (by rfl) ?_
 refine C3 ?_
 refine sP (H9 rfl rfl zV zV) rfl rfl ?_
 refine A3 ?_
 refine I6 (i + 1, p7, c7, es' ++ [[v1, v2, v3, v4, v5, v6, v7, v8, v9, w1, w2, w3, w4, w5]], G1) ?_ ?_ ?_
 (simp only [J4]; exact E3)
 (dsimp only; exact ⟨by omega, hle.trans hle1, by rw [List.length_append]; simp only [List.length_singleton]; omega, by rw [A2w zV]; exact KR.snoc (KR.imp hst fun a e h => h.mono hle1) (by rw [List.length_take, M7]; omega) hru⟩)
 (show ks.length - (i + 1) < ks.length - i; omega)
 refine I9 ?_
 (refine E0 (cs := es'.flatten) zM (fun G2 hle2 hsl2 hno2 => ?_); obtain rfl : i = ks.length := zV)
 refine tT ?_
 refine I7 (rC rfl (A1 rfl rfl)) ?_
 (rw [if_neg (by rintro ⟨h1, h2⟩; first | omega | contradiction), if_neg (by rintro ⟨h1, h2⟩; first | omega | contradiction)]; rw [List.take_of_length_le (by rw [M7]; omega)] at hst; exact Q8.mk (B1.put (us := N3 y v ks) (hnd.mono hle2) (hco.mono hle2) (by rw [M7]; omega) (fun h => by rw [M7]; exact h14 h) (by rw [M7]) (C8.of hsl2 zV (fun e he => (hst.each (by rw [M7]; omega) e he).1) (fun e he => (hst.each (by rw [M7]; omega) e he).2)) (KR.imp hst fun a e h => h.mono hle2)))
 refine R0 ?_
 refine sE (A4 rfl) rfl (fun b309 => ?_)
 refine U9 ?_
 refine B7 ?_
 (refine S7 68 14 ?_; refine J3 (fun (x : Nat × Option Addr × Nat × List (List Value) × IM) => ⟨[(41, .int .i64 x.1), (40, .int .i64 ks.length), (39, .slice p ks.length c), (1, .string y), (3, .pointer (some ⟨b3, 0, none⟩)), (5, .pointer (some ⟨b4, 0, none⟩)), (6, .pointer (some ⟨b5, 0, none⟩)), (7, .pointer (some ⟨b309, 0, none⟩))], [.blk b309 [.int .i64 k, .string nm, .int .i64 num, .int .i64 tk, .slice pt tks.length ct, .int .i64 fk, .slice pf fks.length cf, .int .i64 lb, .slice p0 0 c0, .int .i64 ck, .int .i64 ctg, .int .i64 clb, .slice pc cks.length cc, .slice x.2.1 x.1 x.2.2.1], .slc x.2.1 x.2.2.1 68 14 x.1 x.2.2.2.1.flatten, .blk b5 [.int .i64 0, .string ⟨⟨[]⟩⟩, .int .i64 0, .int .i64 0, .slice none 0 0, .int .i64 0, .slice none 0 0, .int .i64 0, .slice none 0 0, .int .i64 0, .int .i64 0, .int .i64 0, .slice none 0 0, .slice none 0 0], .blk b4 vc, .blk b3 [.int .i64 k, .string nm, .int .i64 num, .int .i64 tk, .slice pt tks.length ct, .int .i64 fk, .slice pf fks.length cf, .int .i64 lb, .slice p0 0 c0, .int .i64 ck, .int .i64 ctg, .int .i64 clb, .slice pc cks.length cc, .slice p ks.length c]], x.2.2.2.2⟩) (fun x => x.1 ≤ ks.length ∧ D2 G x.2.2.2.2 ∧ x.2.2.2.1.length = x.1 ∧ KR (B1 x.2.2.2.2) ((N3 y v ks).take x.1) x.2.2.2.1) (fun x => ks.length - x.1) (0, none, 0, [], G) ?_ ?_ ?_)
 (simp only [J4]; exact E3)
 (exact ⟨Nat.zero_le _, D2.refl _, rfl, by rw [List.take_zero]; exact KR.nil⟩)
 (rintro ⟨i, pn, cn, es', Gi⟩ ⟨hi, hle, hel', hst⟩; simp only [] at hi hle hel' hst ⊢; replace hsl := hsl.mono hle; replace hkl := KR.imp hkl (fun a e h => h.mono hle); replace hv := hv.mono hle; replace hnd := hnd.mono hle; replace hco := hco.mono hle)
 refine A3 ?_
 refine sB (I3 rfl rfl) rfl rfl (fun h335 => ?_) (fun h335 => ?_)
 refine A8 ?_
 refine B7 ?_
 refine A3 ?_
 (have hil : i < ks.length := zV; obtain ⟨bx, ox, e, rfl, hel, heo, hat, hre, _, hgb⟩ := hsl.kidR hkl (i := i) zV zV; refine sP (A6 (j := i) rfl rfl rfl zV) rfl rfl ?_)
 refine sL (A2 rfl rfl (hat _) hel) rfl rfl ?_
 refine sE (A4 rfl) rfl (fun b348 => ?_)
 refine sS rfl rfl rfl hel heo rfl ?_ (hu := by exact D7 hel.symm)
 refine A3 ?_
 refine D3 D4 rfl ?_
 refine K3 (i := 2) (l' := [ff,ff,tt,ff,ff,ff,ff,ff,ff,ff]) rfl C1 (A2 rfl rfl (C9 zO) hel) rfl zT rfl rfl ?_
 refine aL 4 rfl (A2 rfl rfl (C9 zO) hvl) rfl ?_
 refine aP 0 rfl (B0 rfl) rfl ?_
 refine aL 1 rfl (B3 rfl rfl) rfl ?_
 refine aP 3 rfl (qM rfl) rfl ?_
 refine A0 5 ?_
 (refine D6 rfl rfl (ih ks[i] (List.getElem_mem zV) Gi _ hre hv) rfl rfl rfl (fun u G1 hle1 hh => ?_); obtain ⟨uc, rfl, hru⟩ := hh; have hul := hru.len; have huo := hru.one; obtain ⟨v1, v2, v3, v4, v5, v6, v7, v8, v9, w1, w2, w3, w4, w5, rfl⟩ := X4 hul)
 refine A0 6 ?_
 (refine B6 rfl (C0 rfl rfl rfl zV zQ rfl) rfl rfl ?_; rintro _ ⟨b361, rfl⟩)
 refine A0 7 ?_
 (refine P5 rfl rfl rfl rfl rfl rfl (fun _ _ => by repeat (first | exact Sw.here | apply Sw.there)) (O1 zO) rfl (fun u hu => List.all_eq_true.1 huo u hu) zQ zV rfl rfl zG (fun p7 c7 => ?_))
 refine aP 8 rfl (B0 rfl) rfl ?_
 refine A0 9 ?_
 refine S2 rfl rfl rfl rfl rfl rfl rfl rfl zR zN (by rfl) ?_
 refine C3 ?_
 refine sP (H9 rfl rfl zV zV) rfl rfl ?_
 refine A3 ?_
 refine I6 (i + 1, p7, c7, es' ++ [[v1, v2, v3, v4, v5, v6, v7, v8, v9, w1, w2, w3, w4, w5]], G1) ?_ ?_ ?_
 (simp only [J4]; exact E3)
 (dsimp only; exact ⟨by omega, hle.trans hle1, by rw [List.length_append]; simp only [List.length_singleton]; omega, by rw [A2w zV]; exact KR.snoc (KR.imp hst fun a e h => h.mono hle1) (by rw [List.length_take, M7]; omega) hru⟩)
 (show ks.length - (i + 1) < ks.length - i; omega)
 refine I9 ?_
 (refine E0 (cs := es'.flatten) zM (fun G2 hle2 hsl2 hno2 => ?_); obtain rfl : i = ks.length := zV)
 refine tT ?_
 refine I7 (rC rfl (A1 rfl rfl)) ?_
 (rw [if_neg (by rintro ⟨h1, h2⟩; first | omega | contradiction), if_neg (by rintro ⟨h1, h2⟩; first | omega | contradiction)]; rw [List.take_of_length_le (by rw [M7]; omega)] at hst; exact Q8.mk (B1.put (us := N3 y v ks) (hnd.mono hle2) (hco.mono hle2) (by rw [M7]; omega) (fun h => by rw [M7]; exact h14 h) (by rw [M7]) (C8.of hsl2 zV (fun e he => (hst.each (by rw [M7]; omega) e he).1) (fun e he => (hst.each (by rw [M7]; omega) e he).2)) (KR.imp hst fun a e h => h.mono hle2)))
mutual
def A9b : Ty → Ty → Bool
 | .mk k ks, t => decide (t.k = 1) || (decide (k = t.k) && A9c ks t.ks)
def A9c : List Ty → List Ty → Bool
 | [], [] => true
 | a :: xs, b :: ys => A9b a b && A9c xs ys
 | _, _ => false
end
mutual
def A9d : Tm → Tm → Bool
 | .mk k nm num ty _ _ ks, u => decide (k = u.k ∧ nm = u.nm ∧ num = u.num) && (decide (k ≠ 5 ∧ k ≠ 13) || A9b ty u.ty) && A9e ks u.ks
def A9e : List Tm → List Tm → Bool
 | [], [] => true
 | a :: xs, b :: ys => A9d a b && A9e xs ys
 | _, _ => false
end
def B35 (a b : Tm) : Bool := V7 a && (V7 b && A9d a b)
theorem A0V : ∀ (t : Ty), H0 t = true → ∃ a : GT, t = a.ty
 | .mk k ks, h => by
  by_cases h4 : k = 4
  ·obtain ⟨x, y, hxy, hx, hy⟩ := A36 (.inl h4) h
   have : SizeOf.sizeOf x < SizeOf.sizeOf ks ∧ SizeOf.sizeOf y < SizeOf.sizeOf ks := by subst hxy; simp; omega
   obtain ⟨a, ha⟩ := A0V x hx
   obtain ⟨b, hb⟩ := A0V y hy
   exact ⟨.fn a b, by rw [h4, hxy, ha, hb]; rfl⟩
  ·by_cases h5 : k = 5
   ·obtain ⟨x, y, hxy, hx, hy⟩ := A36 (.inr h5) h
    have : SizeOf.sizeOf x < SizeOf.sizeOf ks ∧ SizeOf.sizeOf y < SizeOf.sizeOf ks := by subst hxy; simp; omega
    obtain ⟨a, ha⟩ := A0V x hx
    obtain ⟨b, hb⟩ := A0V y hy
    exact ⟨.pr a b, by rw [h5, hxy, ha, hb]; rfl⟩
   ·obtain ⟨h1, rfl⟩ := B2D h h4 h5
    rcases h1 with rfl | rfl | rfl
    ·exact ⟨.any, rfl⟩
    ·exact ⟨.int, rfl⟩
    ·exact ⟨.bool, rfl⟩
 termination_by t => SizeOf.sizeOf t
 decreasing_by all_goals (simp only [Ty.mk.sizeOf_spec]; omega)
theorem A5Q : ∀ (a b : GT), J0 a.ty b.ty = true ↔ Co a b := by
 intro a
 induction a with
 | any => intro b; cases b <;> simp [GT.ty, P6, M3] <;> exact .l
 | int => intro b; cases b <;> simp [GT.ty, P6, M3] <;> first | exact .r | exact .int | (intro h; cases h)
 | bool => intro b; cases b <;> simp [GT.ty, P6, M3] <;> first | exact .r | exact .bool | (intro h; cases h)
 | fn x y i j =>
  intro b
  cases b with
  | fn z w => simp only [GT.ty, P6, M3, i, j, Bool.or_eq_true, Bool.and_eq_true, decide_eq_true_eq, Bool.and_true, true_and]; exact ⟨fun h => by rcases h with h | h; exact absurd h zU; exact .fn h.1 h.2, fun h => by cases h with | fn a b => exact .inr ⟨a, b⟩⟩
  | any => simp [GT.ty, P6, M3]; exact .r
  | _ => simp [GT.ty, P6, M3]; intro h; cases h
 | pr x y i j =>
  intro b
  cases b with
  | pr z w => simp only [GT.ty, P6, M3, i, j, Bool.or_eq_true, Bool.and_eq_true, decide_eq_true_eq, Bool.and_true, true_and]; exact ⟨fun h => by rcases h with h | h; exact absurd h zU; exact .pr h.1 h.2, fun h => by cases h with | pr a b => exact .inr ⟨a, b⟩⟩
  | any => simp [GT.ty, P6, M3]; exact .r
  | _ => simp [GT.ty, P6, M3]; intro h; cases h
def A4q : GT → GT → GT
 | .any, b => b
 | .fn a b, .fn c d => .fn (A4q a c) (A4q b d)
 | .pr a b, .pr c d => .pr (A4q a c) (A4q b d)
 | a, _ => a
def gmF : GT → Option (GT × GT)
 | .fn a b => some (a, b)
 | .any => some (.any, .any)
 | _ => none
def gmP : GT → Option (GT × GT)
 | .pr a b => some (a, b)
 | .any => some (.any, .any)
 | _ => none
def CxR (cx cx' : Cx) (Γ : GC) : Prop := ∀ x a, W1 cx x = some a → ∃ A A', a = A.ty ∧ W1 cx' x = some A'.ty ∧ Γ x = some (A, A') ∧ Le A A'
theorem B36 : CxR [] [] M9 := by intro x a h; simp [W1, U3] at h
theorem B37 {cx cx' : Cx} {Γ : GC} (h : CxR cx cx' Γ) {A A' : GT} (hl : Le A A') (x : ByteArray) : CxR (cx ++ [(x, A.ty)]) (cx' ++ [(x, A'.ty)]) (Y0 Γ x A A') := by
 intro y a ha
 rw [B2Q] at ha ⊢
 unfold Y0
 by_cases hy : x = y
 ·rw [if_pos hy] at ha ⊢
  rw [if_pos hy]
  cases ha
  exact ⟨A, A', rfl, rfl, rfl, hl⟩
 ·rw [if_neg hy] at ha ⊢
  rw [if_neg hy]
  exact h y a ha
def B5j (A B : GT) (l : Int) (e : GE) : GE := if M5 A.ty B.ty = true then e else .cast A B l e
inductive GPL (Γ : GC) : List GE → List GE → List GT → List GT → Prop
 | nil : GPL Γ [] [] [] []
 | cons {e e' A A' es es' As As'} : GP Γ e e' A A' → GPL Γ es es' As As' → GPL Γ (e :: es) (e' :: es') (A :: As) (A' :: As')
abbrev ElR (Γ : GC) (u : Tm) (a : Ty) (r : Option (Tm × Ty × Int)) : Prop := ∃ e A e' A' l2, u = e.tm ∧ a = A.ty ∧ r = some (e'.tm, A'.ty, l2) ∧ GP Γ e e' A A'
section
variable {cx cx' : Cx} {Γ : GC} {es es' : List GE} {As As' : List GT} {l l' : Int} {u : Tm} {a : Ty} {l2 : Int} {nm : ByteArray} {num : Int}
end
def Y3 : Ty → GT
 | .mk k [a, b] => if k = 4 then .fn (Y3 a) (Y3 b) else .pr (Y3 a) (Y3 b)
 | .mk k _ => if k = 2 then .int else if k = 3 then .bool else .any
theorem A0o : ∀ A : GT, Y3 A.ty = A
 | .any => rfl
 | .int => rfl
 | .bool => rfl
 | .fn a b => by rw [GT.ty, Y3, if_pos rfl, A0o a, A0o b]
 | .pr a b => by rw [GT.ty, Y3, if_neg zU, A0o a, A0o b]
mutual
def S6 : Tm → Nt
 | .mk k nm num ty fr lb ks => .mk k nm num (if k = 14 then (kc (Y3 fr) (Y3 ty) lb).cn else K5) (N6 ks)
def N6 : List Tm → List Nt
 | [] => []
 | t :: ts => S6 t :: N6 ts
end
theorem A5R : ∀ ks, N6 ks = ks.map S6
 | [] => rfl
 | t :: ts => by rw [N6, A5R ts, List.map_cons]
theorem P4 (ks : List Tm) : (N6 ks).length = ks.length := by rw [A5R, List.length_map]
theorem A4r {ks : List Tm} {i : Nat} (h : i < ks.length) : (N6 ks).take (i + 1) = (N6 ks).take i ++ [S6 ks[i]] := by
 rw [A5R, List.take_succ_eq_append_getElem (by rw [List.length_map]; exact h), List.getElem_map]
theorem B1.put' {G : IM} {k : Int} {nm : ByteArray} {num tk fk lb : Int} {tks fks : List Ty} {co : Cn} {a b d : Int} {us : List Nt} {pt pf p0 pc p : Option Addr} {ct cf c0 cc n m c : Nat} {es : List (List Value)}
  (h1 : D1 G (.mk k nm num (.mk tk tks) (.mk fk fks) lb []) [.int .i64 k, .string nm, .int .i64 num, .int .i64 tk, .slice pt tks.length ct, .int .i64 fk, .slice pf fks.length cf, .int .i64 lb, .slice p0 0 c0])
  (h2 : E6 G co [.int .i64 a, .int .i64 b, .int .i64 d, .slice pc m cc]) (h3 : us.length ≤ 3) (h4 : k = 14 → us.length = 1) (hn : n = us.length) (h5 : C8 G p n c 14 es) (h6 : KR (B1 G) us es) :
  B1 G (.mk k nm num co us) [.int .i64 k, .string nm, .int .i64 num, .int .i64 tk, .slice pt tks.length ct, .int .i64 fk, .slice pf fks.length cf, .int .i64 lb, .slice p0 0 c0, .int .i64 a, .int .i64 b, .int .i64 d, .slice pc m cc, .slice p n c] := by
 subst hn
 exact .mk h1 h2 h3 h4 h5 h6
theorem A9f {k : Int} (h : k = 14) : H8 k = 1 := by subst h; rfl
theorem B38 : ∀ (t : Tm) (G : IM) (cells : List Value), cv t → D1 G t cells → Fn Tryz.prog 32 [.agg ⟨cells⟩] [] G (Q8 (S6 t)) := by
 refine Tm.ind fun k nm num ty fr lb ks ih G cells hcv hr => ?_
 obtain ⟨hN, hkk⟩ := hcv.node
 have hops := hN.ops
 have hle3 := A10 k
 have h14 : k = 14 → ks.length = 1 := fun h => by have := A9f h; omega
 have hC : k = 14 → ∃ A B : GT, fr = A.ty ∧ ty = B.ty ∧ Co A B := by
  intro h
  obtain ⟨h1, h2, h3⟩ := hN.c14 h
  obtain ⟨A, rfl⟩ := A0V fr h3
  obtain ⟨B, rfl⟩ := A0V ty h2
  exact ⟨A, B, rfl, rfl, (A5Q A B).1 h1⟩
 have hlb9 := hN.lbB
 have hmt : S6 (.mk k nm num ty fr lb ks) = .mk k nm num (if k = 14 then (kc (Y3 fr) (Y3 ty) lb).cn else K5) (N6 ks) := by rw [S6]
 rw [hmt]
 obtain ⟨tk, tks⟩ := ty
 obtain ⟨fk, fks⟩ := fr
 obtain ⟨pt, ct, pf, cf, p, c, es, rfl, hk, hnum, hlb, hty, hfr, hsl, hkl⟩ := hr.open9
 have hn := hsl.le
 refine D5 Tryz.func32 rfl Tryz.ntmps32 Tryz.results32 rfl ?_
 intro w0
 refine A3 ?_
 refine sE (D8 rfl rfl) rfl (fun b3 => ?_)
 refine sE (A4 rfl) rfl (fun b4 => ?_)
 refine A7 ?_
 refine sE (A4 rfl) rfl (fun b11 => ?_)
 refine I9 ?_
 refine sB (qE rfl rfl) rfl rfl (fun h27 => ?_) (fun h27 => ?_)
 refine H3 ?_
 (obtain ⟨A, B, eA, eB, hco⟩ := hC zV; refine E7 rfl (B30 _ A B lb G _ _ (Nat.lt_succ_self _) hco hlb9 (by rw [← eA]; exact hfr) (by rw [← eB]; exact hty)) rfl rfl (fun u G1 hle1 hh => ?_); obtain ⟨uc, rfl, hru⟩ := hh; obtain ⟨x1, x2, x3, p4, n4, c4, rfl⟩ := hru.ints)
 refine G9 ?_
 refine B7 ?_
 (have hco := hru; refine S7 68 14 ?_; refine J3 (fun (x : Nat × Option Addr × Nat × List (List Value) × IM) => ⟨[(24, .int .i64 x.1), (23, .int .i64 ks.length), (22, .slice p ks.length c), (1, .pointer (some ⟨b3, 0, none⟩)), (2, .pointer (some ⟨b4, 0, none⟩)), (3, .pointer (some ⟨b11, 0, none⟩))], [.blk b11 [.int .i64 k, .string nm, .int .i64 num, .int .i64 tk, .slice pt tks.length ct, .int .i64 fk, .slice pf fks.length cf, .int .i64 lb, .slice none 0 0, .int .i64 x1, .int .i64 x2, .int .i64 x3, .slice p4 n4 c4, .slice x.2.1 x.1 x.2.2.1], .slc x.2.1 x.2.2.1 68 14 x.1 x.2.2.2.1.flatten, .blk b4 [.int .i64 0, .string ⟨⟨[]⟩⟩, .int .i64 0, .int .i64 0, .slice none 0 0, .int .i64 0, .slice none 0 0, .int .i64 0, .slice none 0 0, .int .i64 0, .int .i64 0, .int .i64 0, .slice none 0 0, .slice none 0 0], .blk b3 [.int .i64 k, .string nm, .int .i64 num, .int .i64 tk, .slice pt tks.length ct, .int .i64 fk, .slice pf fks.length cf, .int .i64 lb, .slice p ks.length c]], x.2.2.2.2⟩) (fun x => x.1 ≤ ks.length ∧ D2 G1 x.2.2.2.2 ∧ x.2.2.2.1.length = x.1 ∧ KR (B1 x.2.2.2.2) ((N6 ks).take x.1) x.2.2.2.1) (fun x => ks.length - x.1) (0, none, 0, [], G1) ?_ ?_ ?_)
 (simp only [J4]; exact E3)
 (exact ⟨Nat.zero_le _, D2.refl _, rfl, by rw [List.take_zero]; exact KR.nil⟩)
 (rintro ⟨i, pn, cn, es', Gi⟩ ⟨hi, hle, hel', hst⟩; simp only [] at hi hle hel' hst ⊢; replace hsl := hsl.mono (by first | exact hle | exact hle1.trans hle); replace hkl := hkl.mono (by first | exact hle | exact hle1.trans hle); replace hty := hty.mono (by first | exact hle | exact hle1.trans hle); replace hfr := hfr.mono (by first | exact hle | exact hle1.trans hle); replace hco := hco.mono hle)
 refine A3 ?_
 refine sB (I3 rfl rfl) rfl rfl (fun h59 => ?_) (fun h59 => ?_)
 refine A8 ?_
 refine B7 ?_
 refine A3 ?_
 (have hil : i < ks.length := zV; obtain ⟨bx, ox, e, rfl, hl, hat, hre, hgb⟩ := hsl.kidTm hkl (i := i) zV zV; have hel := hre.len; have heo := hre.one; refine sP (A6 (j := i) rfl rfl rfl zV) rfl rfl ?_)
 refine sL (A2 rfl rfl (hat _) hl) rfl rfl ?_
 refine sE (A4 rfl) rfl (fun b72 => ?_)
 refine sS rfl rfl rfl hel heo rfl ?_ (hu := by exact D7 hel.symm)
 refine A3 ?_
 refine D3 D4 rfl ?_
 refine K3 (i := 2) (l' := [ff,ff,tt,ff,ff,ff,ff,ff]) rfl C1 (A2 rfl rfl (C9 zO) hel) rfl zT rfl rfl ?_
 refine aP 0 rfl (B0 rfl) rfl ?_
 refine aL 1 rfl (B3 rfl rfl) rfl ?_
 refine A0 3 ?_
 (refine D6 rfl rfl (ih ks[i] (List.getElem_mem zV) Gi _ (hkk _ (List.getElem_mem zV)) hre) rfl rfl rfl (fun u G3 hle3 hh => ?_); obtain ⟨uc, rfl, hrv⟩ := hh; have hul := hrv.len; have huo := hrv.one; obtain ⟨v1, v2, v3, v4, v5, v6, v7, v8, v9, w1, w2, w3, w4, w5, rfl⟩ := X4 hul)
 refine A0 4 ?_
 (refine B6 rfl (C0 rfl rfl rfl zV zQ rfl) rfl rfl ?_; rintro _ ⟨b83, rfl⟩)
 refine A0 5 ?_
 (refine P5 rfl rfl rfl rfl rfl rfl (fun _ _ => by repeat (first | exact Sw.here | apply Sw.there)) (O1 zO) rfl (fun u hu => List.all_eq_true.1 huo u hu) zQ zV rfl rfl zG (fun p7 c7 => ?_))
 refine aP 6 rfl (B0 rfl) rfl ?_
 refine A0 7 ?_
 refine S2 rfl rfl rfl rfl rfl rfl rfl rfl zR zN (by rfl) ?_
 refine C3 ?_
 refine sP (H9 rfl rfl zV zV) rfl rfl ?_
 refine A3 ?_
 refine I6 (i + 1, p7, c7, es' ++ [[v1, v2, v3, v4, v5, v6, v7, v8, v9, w1, w2, w3, w4, w5]], G3) ?_ ?_ ?_
 (simp only [J4]; exact E3)
 (dsimp only; exact ⟨by omega, hle.trans hle3, by rw [List.length_append]; simp only [List.length_singleton]; omega, by rw [A4r zV]; exact KR.snoc (KR.imp hst fun a e h => h.mono hle3) (by rw [List.length_take, P4]; omega) hrv⟩)
 (show ks.length - (i + 1) < ks.length - i; omega)
 refine I9 ?_
 (obtain rfl : i = ks.length := zV; refine E0 (cs := es'.flatten) zM (fun G5 hle5 hsl5 hno5 => ?_))
 refine tT ?_
 refine I7 (rC rfl (A1 rfl rfl)) ?_
 (rw [List.take_of_length_le (by rw [P4]; omega)] at hst; rw [if_pos zV, eA, eB, A0o, A0o]; exact Q8.mk (B1.put' (us := N6 ks) (D1.put (us := []) hk hnum hlb (hty.mono hle5) (hfr.mono hle5) rfl (C8.nil _ _) (by simp only [H4])) (hco.mono hle5) (by rw [P4]; omega) (fun h => by rw [P4]; exact h14 h) (by rw [P4]) (C8.of hsl5 zV (fun e he => (hst.each (by rw [P4]; omega) e he).1) (fun e he => (hst.each (by rw [P4]; omega) e he).2)) (KR.imp hst fun a e h => h.mono hle5)))
 refine J5 ?_
 refine B7 ?_
 (have hco := (X3 G); refine S7 68 14 ?_; refine J3 (fun (x : Nat × Option Addr × Nat × List (List Value) × IM) => ⟨[(24, .int .i64 x.1), (23, .int .i64 ks.length), (22, .slice p ks.length c), (1, .pointer (some ⟨b3, 0, none⟩)), (2, .pointer (some ⟨b4, 0, none⟩)), (3, .pointer (some ⟨b11, 0, none⟩))], [.blk b11 [.int .i64 k, .string nm, .int .i64 num, .int .i64 tk, .slice pt tks.length ct, .int .i64 fk, .slice pf fks.length cf, .int .i64 lb, .slice none 0 0, .int .i64 0, .int .i64 0, .int .i64 0, .slice none 0 0, .slice x.2.1 x.1 x.2.2.1], .slc x.2.1 x.2.2.1 68 14 x.1 x.2.2.2.1.flatten, .blk b4 [.int .i64 0, .string ⟨⟨[]⟩⟩, .int .i64 0, .int .i64 0, .slice none 0 0, .int .i64 0, .slice none 0 0, .int .i64 0, .slice none 0 0, .int .i64 0, .int .i64 0, .int .i64 0, .slice none 0 0, .slice none 0 0], .blk b3 [.int .i64 k, .string nm, .int .i64 num, .int .i64 tk, .slice pt tks.length ct, .int .i64 fk, .slice pf fks.length cf, .int .i64 lb, .slice p ks.length c]], x.2.2.2.2⟩) (fun x => x.1 ≤ ks.length ∧ D2 G x.2.2.2.2 ∧ x.2.2.2.1.length = x.1 ∧ KR (B1 x.2.2.2.2) ((N6 ks).take x.1) x.2.2.2.1) (fun x => ks.length - x.1) (0, none, 0, [], G) ?_ ?_ ?_)
 (simp only [J4]; exact E3)
 (exact ⟨Nat.zero_le _, D2.refl _, rfl, by rw [List.take_zero]; exact KR.nil⟩)
 (rintro ⟨i, pn, cn, es', Gi⟩ ⟨hi, hle, hel', hst⟩; simp only [] at hi hle hel' hst ⊢; replace hsl := hsl.mono (by first | exact hle | exact hle1.trans hle); replace hkl := hkl.mono (by first | exact hle | exact hle1.trans hle); replace hty := hty.mono (by first | exact hle | exact hle1.trans hle); replace hfr := hfr.mono (by first | exact hle | exact hle1.trans hle); replace hco := hco.mono hle)
 refine A3 ?_
 refine sB (I3 rfl rfl) rfl rfl (fun h140 => ?_) (fun h140 => ?_)
 refine A8 ?_
 refine B7 ?_
 refine A3 ?_
 (have hil : i < ks.length := zV; obtain ⟨bx, ox, e, rfl, hl, hat, hre, hgb⟩ := hsl.kidTm hkl (i := i) zV zV; have hel := hre.len; have heo := hre.one; refine sP (A6 (j := i) rfl rfl rfl zV) rfl rfl ?_)
 refine sL (A2 rfl rfl (hat _) hl) rfl rfl ?_
 refine sE (A4 rfl) rfl (fun b153 => ?_)
 refine sS rfl rfl rfl hel heo rfl ?_ (hu := by exact D7 hel.symm)
 refine A3 ?_
 refine D3 D4 rfl ?_
 refine K3 (i := 2) (l' := [ff,ff,tt,ff,ff,ff,ff,ff]) rfl C1 (A2 rfl rfl (C9 zO) hel) rfl zT rfl rfl ?_
 refine aP 0 rfl (B0 rfl) rfl ?_
 refine aL 1 rfl (B3 rfl rfl) rfl ?_
 refine A0 3 ?_
 (refine D6 rfl rfl (ih ks[i] (List.getElem_mem zV) Gi _ (hkk _ (List.getElem_mem zV)) hre) rfl rfl rfl (fun u G3 hle3 hh => ?_); obtain ⟨uc, rfl, hrv⟩ := hh; have hul := hrv.len; have huo := hrv.one; obtain ⟨v1, v2, v3, v4, v5, v6, v7, v8, v9, w1, w2, w3, w4, w5, rfl⟩ := X4 hul)
 refine A0 4 ?_
 (refine B6 rfl (C0 rfl rfl rfl zV zQ rfl) rfl rfl ?_; rintro _ ⟨b164, rfl⟩)
 refine A0 5 ?_
 (refine P5 rfl rfl rfl rfl rfl rfl (fun _ _ => by repeat (first | exact Sw.here | apply Sw.there)) (O1 zO) rfl (fun u hu => List.all_eq_true.1 huo u hu) zQ zV rfl rfl zG (fun p7 c7 => ?_))
 refine aP 6 rfl (B0 rfl) rfl ?_
 refine A0 7 ?_
 refine S2 rfl rfl rfl rfl rfl rfl rfl rfl zR zN (by rfl) ?_
 refine C3 ?_
 refine sP (H9 rfl rfl zV zV) rfl rfl ?_
 refine A3 ?_
 refine I6 (i + 1, p7, c7, es' ++ [[v1, v2, v3, v4, v5, v6, v7, v8, v9, w1, w2, w3, w4, w5]], G3) ?_ ?_ ?_
 (simp only [J4]; exact E3)
 (dsimp only; exact ⟨by omega, hle.trans hle3, by rw [List.length_append]; simp only [List.length_singleton]; omega, by rw [A4r zV]; exact KR.snoc (KR.imp hst fun a e h => h.mono hle3) (by rw [List.length_take, P4]; omega) hrv⟩)
 (show ks.length - (i + 1) < ks.length - i; omega)
 refine I9 ?_
 (obtain rfl : i = ks.length := zV; refine E0 (cs := es'.flatten) zM (fun G5 hle5 hsl5 hno5 => ?_))
 refine tT ?_
 refine I7 (rC rfl (A1 rfl rfl)) ?_
 (rw [List.take_of_length_le (by rw [P4]; omega)] at hst; rw [if_neg zV]; exact Q8.mk (B1.put' (us := N6 ks) (D1.put (us := []) hk hnum hlb (hty.mono hle5) (hfr.mono hle5) rfl (C8.nil _ _) (by simp only [H4])) (hco.mono hle5) (by rw [P4]; omega) (fun h => by rw [P4]; exact h14 h) (by rw [P4]) (C8.of hsl5 zV (fun e he => (hst.each (by rw [P4]; omega) e he).1) (fun e he => (hst.each (by rw [P4]; omega) e he).2)) (KR.imp hst fun a e h => h.mono hle5)))
theorem At.moS {hp : List A5} {G G' : IM} {b o : Nat} {vs : List Value} (hg : D2 G G') (h : At [] G b o vs) : At hp G' b o vs := by
 rcases h with ⟨cs, hm, hv⟩ | ⟨n, c, el, sz, cs, hm, hv⟩ | ⟨full, hx, hv⟩
 ·cases hm
 ·cases hm
 ·exact .inr (.inr ⟨full, hg _ _ hx, hv⟩)
def GK.z : GK → Nat
 | .fn c d => c.z + d.z + 1
 | .pr c d => c.z + d.z + 1
 | .inj c => c.z + 1
 | .prj _ c => c.z + 1
 | _ => 1
section
variable {a b : GK} {ak atg alb bk btg blb : Int} {aks bks : List Cn}
theorem A5S (h : a.cn = .mk ak atg alb aks) : ak = 1 ∨ ak = 2 ∨ ak = 3 ∨ ak = 4 ∨ ak = 5 ∨ ak = 6 := by
 cases a <;> simp only [GK.cn, Cn.mk.injEq] at h <;> obtain ⟨rfl, _⟩ := h <;> simp
theorem A0H (h : a.cn = .mk ak atg alb aks) (h1 : ak = 1 ∧ atg = 1) : a = .ida := by
 cases a <;> simp only [GK.cn, Cn.mk.injEq] at h <;> first | rfl | (exfalso; omega)
theorem A18 (h : a.cn = .mk ak atg alb aks) (h1 : ak = 5) : ∃ c, a = .prj alb c ∧ aks = [c.cn] ∧ atg = 0 := by
 cases a <;> simp only [GK.cn, Cn.mk.injEq] at h <;> first | (exfalso; omega) | exact ⟨_, by rw [h.2.2.1], h.2.2.2.symm, h.2.1.symm⟩
theorem A0p (h : a.cn = .mk ak atg alb aks) (h1 : ak = 6) : a = .fl alb atg ∧ aks = [] := by
 cases a <;> simp only [GK.cn, Cn.mk.injEq] at h <;> first | (exfalso; omega) | exact ⟨by rw [h.2.2.1, h.2.1], h.2.2.2.symm⟩
theorem A0W (h : a.cn = .mk ak atg alb aks) (h1 : ak = 4) : ∃ c, a = .inj c ∧ aks = [c.cn] ∧ atg = 0 ∧ alb = 0 := by
 cases a <;> simp only [GK.cn, Cn.mk.injEq] at h <;> first | (exfalso; omega) | exact ⟨_, rfl, h.2.2.2.symm, h.2.1.symm, h.2.2.1.symm⟩
theorem A4s (h : a.cn = .mk ak atg alb aks) (h1 : ak = 2) : ∃ c d, a = .fn c d ∧ aks = [c.cn, d.cn] ∧ atg = 0 ∧ alb = 0 := by
 cases a <;> simp only [GK.cn, Cn.mk.injEq] at h <;> first | (exfalso; omega) | exact ⟨_, _, rfl, h.2.2.2.symm, h.2.1.symm, h.2.2.1.symm⟩
theorem A4t (h : a.cn = .mk ak atg alb aks) (h1 : ak = 3) : ∃ c d, a = .pr c d ∧ aks = [c.cn, d.cn] ∧ atg = 0 ∧ alb = 0 := by
 cases a <;> simp only [GK.cn, Cn.mk.injEq] at h <;> first | (exfalso; omega) | exact ⟨_, _, rfl, h.2.2.2.symm, h.2.1.symm, h.2.2.1.symm⟩
theorem A19 (h : a.cn = .mk ak atg alb aks) (h1 : ¬(ak = 1 ∧ atg = 1)) (h4 : ak ≠ 4) (h5 : ak ≠ 5) (h6 : ak ≠ 6) : a.pl = true := by
 cases a <;> simp only [GK.cn, Cn.mk.injEq] at h <;> first | rfl | (exfalso; omega)
theorem A3l (h : b.cn = .mk bk btg blb bks) (hf : fit .ida b = true) : bk = 5 ∨ (bk = 1 ∧ btg = 1) := by
 rw [fit] at hf
 cases b <;> simp only [GK.cn, Cn.mk.injEq] at h <;> first | (exfalso; simp [GK.md] at hf; done) | (obtain ⟨rfl, rfl, _⟩ := h; simp)
theorem A3m {c : GK} (h : b.cn = .mk bk btg blb bks) (h5 : bk ≠ 5) (hf : fit (.inj c) b = true) : b = .ida := by
 cases b with
 | ida => rfl
 | prj l d => simp only [GK.cn, Cn.mk.injEq] at h; exact absurd h.1.symm h5
 | _ => exfalso; rw [fit] at hf <;> first | (simp at hf; done) | simp
theorem A3n {l t : Int} (hp : a.pl = true) (hf : fit a (.fl l t) = true) : a.tg = t := by
 cases a <;> first | (cases hp; done) | (rw [fit] at hf; exact of_decide_eq_true hf)
theorem A9g {e : GK} (hp : a.pl = true) (hf : fit a (.inj e) = true) : fit a e = true := by
 cases a <;> first | (cases hp; done) | (rw [fit] at hf; exact hf)
theorem A4u (ha : a.cn = .mk ak atg alb aks) (hb : b.cn = .mk bk btg blb bks) (hp : a.pl = true) (h4 : bk ≠ 4) (h6 : bk ≠ 6) (hf : fit a b = true) : ak = bk ∧ atg = btg ∧ (ak = 1 → cmp a b = a) := by
 cases a <;> first | (cases hp; done) | skip
 all_goals cases b <;> first | (exfalso; rw [fit] at hf <;> first | (simp at hf; done) | (simp; done)) | (simp only [GK.cn, Cn.mk.injEq] at ha hb; exfalso; omega) | (simp only [GK.cn, Cn.mk.injEq] at ha hb; exact ⟨by omega, by omega, fun h => by first | (exfalso; omega) | rw [cmp]⟩)
theorem B39 (ha : a.cn = .mk ak atg alb aks) (hb : b.cn = .mk bk btg blb bks) (h1 : ak = 2) (h2 : bk = ak) (hf : fit a b = true) : ∃ c d c' d', a = .fn c d ∧ b = .fn c' d' ∧ aks = [c.cn, d.cn] ∧ bks = [c'.cn, d'.cn] ∧ fit c' c = true ∧ fit d d' = true ∧ atg = 0 ∧ alb = 0 := by
 obtain ⟨c, d, rfl, hk, ht, hl⟩ := A4s ha h1
 obtain ⟨c', d', rfl, hk', _⟩ := A4s hb zV
 rw [fit, Bool.and_eq_true] at hf
 exact ⟨c, d, c', d', rfl, rfl, hk, hk', hf.1, hf.2, ht, hl⟩
theorem B4a (ha : a.cn = .mk ak atg alb aks) (hb : b.cn = .mk bk btg blb bks) (h1 : ak = 3) (h2 : bk = ak) (hf : fit a b = true) : ∃ c d c' d', a = .pr c d ∧ b = .pr c' d' ∧ aks = [c.cn, d.cn] ∧ bks = [c'.cn, d'.cn] ∧ fit c c' = true ∧ fit d d' = true ∧ atg = 0 ∧ alb = 0 := by
 obtain ⟨c, d, rfl, hk, ht, hl⟩ := A4t ha h1
 obtain ⟨c', d', rfl, hk', _⟩ := A4t hb zV
 rw [fit, Bool.and_eq_true] at hf
 exact ⟨c, d, c', d', rfl, rfl, hk, hk', hf.1, hf.2, ht, hl⟩
end
theorem A9h {l : Int} {a b : GK} (h : fit (.prj l a) b = true) : fit a b = true := by rw [fit] at h; exact h
theorem B4b {l : Int} {a d : GK} (h : fit (.inj a) (.prj l d) = true) (ht : a.tg = d.tg) : fit a d = true := by rw [fit, if_pos ht] at h; exact h
end Gw
end Go.Proofs.YtmceanphadildaaGreatDoor
