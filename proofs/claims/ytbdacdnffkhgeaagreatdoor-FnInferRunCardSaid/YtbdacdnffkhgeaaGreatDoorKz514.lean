/-
  The program's functions on types and contexts: each computes what the plain word.
-/
import Derived.Test.YtbdacdnffkhgeaaGreatDoorKz513
import Derived.Test.YtbdacdnffkhgeaaGreatDoorKz511
import Derived.Test.YtbdacdnffkhgeaaGreatDoorKz512
import Init
set_option linter.unusedVariables false
set_option linter.unusedSimpArgs false
set_option maxHeartbeats 0
set_option maxRecDepth 100000
set_option synthInstance.maxSize 4000
set_option synthInstance.maxHeartbeats 0
namespace Go.Proofs.YtbdacdnffkhgeaaGreatDoor
open Go Go.RowKit
namespace Gw
theorem y103 {p : Prop} (h : p := by
  refine aP 5 rfl (qA rfl) rfl ?_
  refine A2 6 ?_
  refine C9 rfl ?_
  refine aP 7 rfl (qA rfl) rfl ?_
  refine A4 ?_
  (refine J6 Pk.here (fun G5 hle5 hsl5 hno5 => ?_))
  refine C1 ?_
  refine E9 (rT rfl) (rC rfl (A3 rfl rfl)) (rT rfl) ?_
  (have hk1 : k = 9 := zR0; subst hk1; exact O4.three hsl5 (A0Y _) (hrM.mono hle5) (hrM.mono hle5) (hrM.mono hle5) (by rw [mW9, if_pos ⟨by assumption, by assumption⟩]; rfl))
) : p := h
theorem y104 {p : Prop} (h : p := by
  refine J0 ?_
  refine E9 (rT rfl) (rC rfl (A3 rfl rfl)) (rT rfl) ?_
  (have hk1 : k = 9 := zR0; subst hk1; exact O4.nil (u := B4) (L9 _ ⟨by omega, by omega⟩) (by rw [mW9, if_neg (fun hc => by first | exact Bool.noConfusion (hc.1.symm.trans zO0) | exact Bool.noConfusion (hc.2.symm.trans zO0) | exact Bool.noConfusion (hc.symm.trans zO0))]; rfl))
) : p := h
theorem y105 {p : Prop} (h : p := by
  refine H4 rfl ((A1B _ _)) rfl rfl ?_
  refine H4 rfl ((A1B _ _)) rfl rfl ?_
  (refine F4 rfl hB rfl rfl (fun v G1 hle1 hh => ?_); obtain ⟨cb, rfl, hrb⟩ := hh; obtain ⟨p1, c1, e1, rfl, _⟩ := hrb.open)
  refine A8 ?_
  refine P5 (rC rfl (A3 rfl rfl)) ?_
  (exact ⟨rfl, _, rfl, by unfold mGk; rw [if_pos zR0]; exact hrb⟩)
) : p := h
theorem y106 {p : Prop} (h : p := by
  refine D3 D4 rfl ?_
  refine J3 (i := 0) (l' := [tt,ff,ff,ff]) rfl C8 (A3 rfl rfl) rfl zP0 rfl rfl ?_
  refine aP 1 rfl (qA rfl) rfl ?_
  refine A2 2 ?_
  refine C9 rfl ?_
  refine aP 3 rfl (qA rfl) rfl ?_
  refine A8 ?_
  refine E9 (rT rfl) (rC rfl (A3 rfl rfl)) (rT rfl) ?_
  (exact O4.nil (A0Y _) (by rw [A58 zR0]; rfl))
) : p := h
def B0b (u : Ty) (G : IM) : IM → Value → List A7 → Prop := N8 fun G' v => ∃ cells, v = .agg ⟨cells⟩ ∧ C7 G' u cells
def A0x (r : Option Ty) (G : IM) : IM → Value → List A7 → Prop := N8 fun G' v => ∃ cells u, v = .tuple ⟨[.agg ⟨cells⟩, .bool r.isSome]⟩ ∧ C7 G' u cells ∧ ∀ t, r = some t → u = t
theorem B47 {G : IM} {k : Int} {a b : Ty} {ca cb : List Value} {p : Option Addr} {c : Nat} (hk : H6 k) (ha : C7 G a ca) (hb : C7 G b cb) (hs : Sl G p 2 c 2 (ca ++ cb)) : C7 G (.mk k [a, b]) [.int .i64 k, .slice p 2 c] := by
 have hL : D9 G [a, b] [ca, cb] := by simp only [D9]; exact ⟨ca, [cb], rfl, ha, cb, [], rfl, hb, rfl⟩
 exact D9.ty (ts := [a, b]) (es := [ca, cb]) hL rfl (by simpa using hs) hk
theorem A7D : ∀ (t t' : Ty) (G : IM) (cells cells' : List Value), C7 G t cells → C7 G t' cells' → Fn Tryz.prog 26 [.agg ⟨cells⟩, .agg ⟨cells'⟩] [] G (K7 (.bool (T3 t t')) G) := by
 refine Ty.ind fun k ks ih t' G cells cells' hr hr' => ?_
 obtain ⟨k', ks'⟩ := t'
 obtain ⟨p, c, es, rfl, hk, hsl, hkl⟩ := hr.open
 obtain ⟨p', c', es', rfl, hk', hsl', hkl'⟩ := hr'.open
 simp only [Ty.k, Ty.ks] at hk hsl hkl hk' hsl' hkl' ⊢
 obtain ⟨A, hA⟩ : ∃ A, A1e ks ks' = A := ⟨_, rfl⟩
 have hA' : A = true ↔ ks.length = ks'.length ∧ ∀ i, i < ks.length → T3 (ks.getD i B4) (ks'.getD i B4) = true := by
  rw [← hA, A9V]
  constructor
  ·rintro ⟨h1, h2⟩
   refine ⟨h1, fun i hi => ?_⟩
   have := h2 i hi zR0
   simpa [List.getD_eq_getElem?_getD, List.getElem?_eq_getElem hi, List.getElem?_eq_getElem (show i < ks'.length by omega)] using this
  ·rintro ⟨h1, h2⟩
   refine ⟨h1, fun i hi hi' => ?_⟩
   have := h2 i hi
   simpa [List.getD_eq_getElem?_getD, List.getElem?_eq_getElem hi, List.getElem?_eq_getElem hi'] using this
 refine C0 Tryz.func26 rfl Tryz.ntmps26 Tryz.results26 rfl ?_
 intro w0
 refine A4 ?_
 refine sE (B6 rfl rfl) rfl (fun b3 => ?_)
 refine sE (B6 rfl rfl) rfl (fun b4 => ?_)
 refine E7 ?_
 refine sB (qE rfl rfl) rfl rfl (fun h14 => ?_) (fun h14 => ?_)
 refine A8 ?_
 refine H4 rfl (A7d _ _ _ _ _ _ _ _ _ hsl hsl' _ [] [] [] (fun i => T3 (ks.getD i B4) (ks'.getD i B4)) A hA' (fun i e e' he he' => ih _ (hkl.inv he B4).1 _ _ _ _ (hkl.inv he B4).2 (hkl'.inv he' B4).2)) rfl rfl ?_
 refine A9 ?_
 exact ⟨rfl, by rw [A7r, hA]; first | (rw [decide_eq_true (p := k = k') zR0]; rfl) | (rw [decide_eq_false (p := k = k') zR0]; rfl), rfl⟩
 refine O3 ?_
 exact ⟨rfl, by rw [A7r, hA]; first | (rw [decide_eq_true (p := k = k') zR0]; rfl) | (rw [decide_eq_false (p := k = k') zR0]; rfl), rfl⟩
theorem A2m (k : Int) (a b : Ty) (G : IM) (ca cb : List Value) (hk : H6 k) (hra : C7 G a ca) (hrb : C7 G b cb) :
  Fn Tryz.prog 43 [.int .i64 k, .agg ⟨ca⟩, .agg ⟨cb⟩] [] G (B0b (.mk k [a, b]) G) := by
 obtain ⟨pa, cca, ea, rfl, _⟩ := hra.open
 obtain ⟨pb, ccb, eb, rfl, _⟩ := hrb.open
 refine C0 Tryz.func43 rfl Tryz.ntmps43 Tryz.results43 rfl ?_
 intro w0
 refine A4 ?_
 refine sE (B6 rfl rfl) rfl (fun b3 => ?_)
 refine sE (B6 rfl rfl) rfl (fun b4 => ?_)
 refine sE (A6 rfl) rfl (fun b5 => ?_)
 refine B0 ?_
 (refine J8 (D1 rfl rfl rfl zR0 zL0 rfl) rfl ?_; rintro _ ⟨b13, rfl⟩)
 refine B5 ?_
 (refine J6 zD0 (fun G5 hle5 hsl5 hno5 => ?_))
 refine tT ?_
 refine P5 (rC rfl (A3 rfl rfl)) ?_
 exact ⟨rfl, _, rfl, B47 hk (hra.mono hle5) (hrb.mono hle5) hsl5⟩
theorem A2S (k tk : Int) (ks : List Ty) : U5 k (.mk tk ks) = if tk = k then some (ks.getD 0 B4, ks.getD 1 B4) else if tk = 1 then some (S0, S0) else none := rfl
def B0c (k : Int) (t : Ty) (G : IM) : IM → Value → List A7 → Prop := N8 fun G' v => ∃ a ca b cb, v = .tuple ⟨[.agg ⟨ca⟩, .agg ⟨cb⟩, .bool (U5 k t).isSome]⟩ ∧ C7 G' a ca ∧ C7 G' b cb ∧ I4 a ∧ I4 b ∧ ∀ p, U5 k t = some p → p = (a, b)
theorem B0d (k : Int) (t : Ty) (G : IM) (cells : List Value) (hk : k = 4 ∨ k = 5) (ha : I4 t) (hr : C7 G t cells) :
  Fn Tryz.prog 127 [.agg ⟨cells⟩, .int .i64 k] [] G (B0c k t G) := by
 obtain ⟨tk, ks⟩ := t
 have ha2 := ha
 rw [I4] at ha2
 have hkid := ha.kid
 obtain ⟨p, c, es, rfl, htk, hsl, hkl⟩ := hr.open
 simp only [Ty.k, Ty.ks] at htk hsl hkl ⊢
 refine C0 Tryz.func127 rfl Tryz.ntmps127 Tryz.results127 rfl ?_
 intro w0
 refine A4 ?_
 refine sE (B6 rfl rfl) rfl (fun b3 => ?_)
 refine sE (A6 rfl) rfl (fun b4 => ?_)
 refine sE (A6 rfl) rfl (fun b5 => ?_)
 refine J2 ?_
 refine C2 (tS (tR (sQ (qM rfl) rfl (sB (qE rfl rfl) rfl rfl (fun h20 => ?_) (fun h20 => ?_)))))
 refine A8 ?_
 (have hlen : ks.length = 2 := ha2.1 zR0; obtain ⟨b, o, q0, d0, hp0, hat0, hre0, hg0⟩ := hsl.kidTy hkl (i := 0) zR0 zR0; obtain ⟨b', o', q1, d1, hp1, hat1, hre1, hg1⟩ := hsl.kidTy hkl (i := 1) zR0 zR0; subst hp0; cases hp1; refine D3 D4 rfl ?_)
 refine J4 (i := 0) (l' := [tt,ff,ff,ff,ff,ff,ff,ff,ff,ff,ff]) rfl C8 (C3 rfl) rfl zP0 rfl rfl ?_
 refine aL 1 rfl (F0 rfl rfl) rfl ?_
 refine aP 2 rfl (B8 (j := 0) rfl rfl rfl zR0) rfl ?_
 refine aL 3 rfl (A5 rfl rfl (hat0 _) rfl) rfl ?_
 refine aP 4 rfl (C3 rfl) rfl ?_
 refine aL 5 rfl (F0 rfl rfl) rfl ?_
 refine aP 6 rfl (B8 (j := 1) rfl rfl rfl zR0) rfl ?_
 refine aL 7 rfl (A5 rfl rfl (hat1 _) rfl) rfl ?_
 refine A2 8 ?_
 refine C9 rfl ?_
 refine A2 9 ?_
 refine C9 rfl ?_
 refine aP 10 rfl (qA rfl) rfl ?_
 refine A8 ?_
 refine E9 (rC rfl (A3 rfl rfl)) (rC rfl (A3 rfl rfl)) (rT rfl) ?_
 (refine ⟨rfl, _, _, _, _, ?_, hre0, hre1, hkid _ (List.getElem_mem zR0), hkid _ (List.getElem_mem zR0), ?_⟩ <;> rw [A2S, if_pos zR0] <;> first | rfl | (intro p hp; cases hp; simp [hlen]))
 refine A9 ?_
 refine sB (qE rfl rfl) rfl rfl (fun h53 => ?_) (fun h53 => ?_)
 refine A9 ?_
 refine H4 rfl ((A1B _ _)) rfl rfl ?_
 refine H4 rfl ((A1B _ _)) rfl rfl ?_
 refine E1 ?_
 refine E9 (rC rfl (A3 rfl rfl)) (rC rfl (A3 rfl rfl)) (rT rfl) ?_
 (refine ⟨rfl, _, _, _, _, ?_, A1G _, A1G _, A4M, A4M, ?_⟩ <;> rw [A2S, if_neg zR0, if_pos zR0] <;> first | rfl | (intro p hp; cases hp; rfl))
 refine V0 ?_
 refine E9 (rC rfl (A3 rfl rfl)) (rC rfl (A3 rfl rfl)) (rT rfl) ?_
 (refine ⟨rfl, B4, _, B4, _, ?_, L9 _ ⟨by omega, by omega⟩, L9 _ ⟨by omega, by omega⟩, X6 zR0 zR0, X6 zR0 zR0, ?_⟩ <;> rw [A2S, if_neg zR0, if_neg zR0] <;> first | rfl | (intro p hp; cases hp))
def A38 (G : IM) (b : ByteArray × Ty) (e : List Value) : Prop := ∃ q d, e = [.string b.1, .int .i64 b.2.k, .slice q b.2.ks.length d] ∧ C7 G b.2 [.int .i64 b.2.k, .slice q b.2.ks.length d]
theorem A38.mono {G G' : IM} {b : ByteArray × Ty} {e : List Value} (h : A38 G b e) (hg : B9 G G') : A38 G' b e := by
 obtain ⟨q, d, h1, h2⟩ := h
 exact ⟨q, d, h1, h2.mono hg⟩
def W8 (G : IM) (cx : Cx) (p : Option Addr) (n c : Nat) : Prop := n = cx.length ∧ ∃ es : List (List Value), D7 G p n c 3 es ∧ ∀ (i : Nat) (b : ByteArray × Ty), cx[i]? = some b → ∃ e, es[i]? = some e ∧ A38 G b e
theorem W8.mono {G G' : IM} {cx : Cx} {p : Option Addr} {n c : Nat} (h : W8 G cx p n c) (hg : B9 G G') : W8 G' cx p n c := by
 obtain ⟨h1, es, h2, h3⟩ := h
 refine ⟨h1, es, h2.mono hg, fun i b hb => ?_⟩
 obtain ⟨e, he, hr⟩ := h3 i b hb
 exact ⟨e, he, hr.mono hg⟩
theorem W8.nil (G : IM) : W8 G [] none 0 0 := ⟨rfl, [], D7.nil _ _, by simp⟩
theorem W8.le {G : IM} {cx : Cx} {p : Option Addr} {n c : Nat} (h : W8 G cx p n c) : n ≤ 9223372036854775807 := by
 obtain ⟨h1, es, h2, h3⟩ := h
 exact h2.le
theorem W8.get {G : IM} {cx : Cx} {p : Option Addr} {n c : Nat} (h : W8 G cx p n c) {i : Nat} (hi : i < n) :
  ∃ b o nm t q d, cx[i]? = some (nm, t) ∧ p = some ⟨b, o, none⟩ ∧ (∀ hp, At hp G b (o + i * 3) [.string nm, .int .i64 t.k, .slice q t.ks.length d]) ∧ C7 G t [.int .i64 t.k, .slice q t.ks.length d] ∧ G b ≠ none := by
 obtain ⟨h1, es, h2, h3⟩ := h
 obtain ⟨e, b, o, he, rfl, hl, _, hat, hgb⟩ := h2.get (i := i) zR0
 have hx : cx[i]? = some cx[i] := List.getElem?_eq_getElem zR0
 obtain ⟨e', he', q, d, h4, h5⟩ := h3 i _ hx
 rw [he] at he'
 obtain rfl := Option.some.inj he'
 rw [h4] at hat
 exact ⟨b, o, cx[i].1, cx[i].2, q, d, hx, rfl, hat, h5, hgb⟩
theorem B48 (G : IM) (cx : Cx) (p : Option Addr) (n c : Nat) (nm : ByteArray) (hx : W8 G cx p n c) :
  Fn Tryz.prog 126 [.slice p n c, .string nm] [] G (A0x (Z5 cx nm) G) := by
 have hn := hx.le
 have hn1 := hx.1
 refine C0 Tryz.func126 rfl Tryz.ntmps126 Tryz.results126 rfl ?_
 intro w0
 refine A4 ?_
 refine sE (A6 rfl) rfl (fun b3 => ?_)
 refine E1 ?_
 refine sP (Q7 rfl rfl zR0 zR0) rfl rfl ?_
 refine C1 ?_
 refine C2 ?_
 (refine L8 (fun (i : Nat) => ⟨[(6, .int .i64 ((i : Int) - 1)), (0, .slice p n c), (1, .string nm), (4, .pointer (some ⟨b3, 0, none⟩))], [.blk b3 [.int .i64 0, .slice none 0 0]], G⟩) (fun i => i ≤ n ∧ A0n cx nm i = Z5 cx nm) (fun i => i) n ?_ ?_ ?_)
 exact F8
 exact ⟨Nat.le_refl _, by rw [hn1]; rfl⟩
 (rintro i ⟨hi, hlk⟩)
 refine B5 ?_
 refine sB (A1w rfl rfl) rfl rfl (fun h25 => ?_) (fun h25 => ?_)
 refine A9 ?_
 (show L3 _ _ (.block 1 _) _ _; obtain ⟨j, rfl⟩ : ∃ j, i = j + 1 := ⟨i - 1, by omega⟩; rw [show ((j + 1 : Nat) : Int) - 1 = (j : Int) from by omega]; obtain ⟨b, o, nm1, t1, q1, d1, hcx, rfl, hat, hr1, hgb⟩ := hx.get (i := j) zR0; refine C2 ?_)
 refine B5 ?_
 refine sP (B8 rfl rfl rfl zR0) rfl rfl ?_
 refine D8 ?_
 refine sL (I7 rfl rfl ((hat _).sub (j := 0) rfl)) rfl rfl ?_
 refine D8 ?_
 refine sB (A2F rfl rfl) rfl rfl (fun h41 => ?_) (fun h41 => ?_)
 refine B0 ?_
 refine sP (B8 rfl rfl rfl zR0) rfl rfl ?_
 refine D8 ?_
 refine sL (A5 rfl rfl (hat _).drop rfl) rfl rfl ?_
 refine J2 ?_
 refine H3 (rC rfl (A3 rfl rfl)) (rT rfl) ?_
 (rw [A7t hcx zO0] at hlk; rw [← hlk]; exact ⟨rfl, _, _, rfl, hr1, fun t ht => by cases ht; rfl⟩)
 refine E1 ?_
 refine sP (Q7 rfl rfl zR0 zR0) rfl rfl ?_
 refine A4 ?_
 refine J7 j ?_ ?_ ?_
 exact F8
 (rw [A7u hcx zO0] at hlk; exact ⟨by omega, hlk⟩)
 (show _ < _ + 1; omega)
 refine N3 ?_
 refine H3 (rC rfl (A3 rfl rfl)) (rT rfl) ?_
 (obtain rfl : i = 0 := zR0; rw [A0n] at hlk; rw [← hlk]; exact ⟨rfl, _, B4, rfl, L9 _ ⟨by omega, by omega⟩, fun t ht => by cases ht⟩)
theorem B49 {xs ys : List Ty} (h : xs.length = 2) (h' : ys.length = 2) : W2 xs ys = [Y2 (xs[0]'zR0) (ys[0]'zR0), Y2 (xs[1]'zR0) (ys[1]'zR0)] := by
 match xs, ys, h, h' with
 | [a, b], [c, d], _, _ => rfl
theorem B5a {k k' : Int} {ks bs : List Ty} (h : N6 (.mk k ks) (.mk k' bs) = true) (hk : k ≠ 1) (hk' : k' ≠ 1) : k = k' ∧ P7 ks bs = true := by
 rw [V9] at h
 simpa [hk, hk'] using h
theorem B0e : ∀ (a b : Ty) (G : IM) (ca cb : List Value), N6 a b = true → I4 a → I4 b → C7 G a ca → C7 G b cb →
  Fn Tryz.prog 129 [.agg ⟨ca⟩, .agg ⟨cb⟩] [] G (B0b (Y2 a b) G) := by
 refine Ty.ind fun k ks ih b G ca cb hc haa hab hra hrb => ?_
 have hsa := haa.small
 have hsb := hab.small
 obtain ⟨bk, bks⟩ := b
 have hra0 := hra
 have hrb0 := hrb
 have ha2 := haa
 have hb2 := hab
 rw [I4] at ha2 hb2
 have hkida := haa.kid
 have hkidb := hab.kid
 obtain ⟨p, c, es, rfl, hk, hsl, hkl⟩ := hra.open
 obtain ⟨p', c', es', rfl, hk', hsl', hkl'⟩ := hrb.open
 simp only [Ty.k, Ty.ks] at hk hsl hkl hk' hsl' hkl' ⊢
 have hn := hsl.le
 rw [A10]
 refine C0 Tryz.func129 rfl Tryz.ntmps129 Tryz.results129 rfl ?_
 intro w0
 refine A4 ?_
 refine sE (B6 rfl rfl) rfl (fun b3 => ?_)
 refine sE (B6 rfl rfl) rfl (fun b4 => ?_)
 refine sE (A6 rfl) rfl (fun b5 => ?_)
 refine C1 ?_
 refine C2 ?_
 refine B5 ?_
 refine sB (qE rfl rfl) rfl rfl (fun h14 => ?_) (fun h14 => ?_)
 refine B0 ?_
 (refine F4 rfl (A21 _ _ _ hsb hrb0) rfl rfl (fun v G1 hle1 hh => ?_); obtain ⟨cs1, F1, rfl, hs1, hn1⟩ := hh; obtain ⟨p1, c1, rfl, _⟩ := hs1.open; have hr1 := hs1.R.mono (E0.le G1 _))
 refine A9 ?_
 refine P5 (rC rfl (A3 rfl rfl)) ?_
 (rw [if_pos zR0]; exact ⟨rfl, _, rfl, hr1⟩)
 refine E1 ?_
 refine sB (qE rfl rfl) rfl rfl (fun h39 => ?_) (fun h39 => ?_)
 refine N0 ?_
 (refine F4 rfl (A21 _ _ _ hsa hra0) rfl rfl (fun v G1 hle1 hh => ?_); obtain ⟨cs1, F1, rfl, hs1, hn1⟩ := hh; obtain ⟨p1, c1, rfl, _⟩ := hs1.open; have hr1 := hs1.R.mono (E0.le G1 _))
 refine A9 ?_
 refine P5 (rC rfl (A3 rfl rfl)) ?_
 (rw [if_neg zR0]; split <;> first | exact ⟨rfl, _, rfl, hr1⟩ | (obtain rfl : ks = [] := List.length_eq_zero_iff.1 zR0; rw [W2]; exact ⟨rfl, _, rfl, hr1⟩; simp))
 refine B5 ?_
 refine sB (qE rfl rfl) rfl rfl (fun h66 => ?_) (fun h66 => ?_)
 refine E1 ?_
 (refine F4 rfl (A21 _ _ _ hsa hra0) rfl rfl (fun v G1 hle1 hh => ?_); obtain ⟨cs1, F1, rfl, hs1, hn1⟩ := hh; obtain ⟨p1, c1, rfl, _⟩ := hs1.open; have hr1 := hs1.R.mono (E0.le G1 _))
 refine A9 ?_
 refine P5 (rC rfl (A3 rfl rfl)) ?_
 (rw [if_neg zR0]; split <;> first | exact ⟨rfl, _, rfl, hr1⟩ | (obtain rfl : ks = [] := List.length_eq_zero_iff.1 zR0; rw [W2]; exact ⟨rfl, _, rfl, hr1⟩; simp))
 refine E7 ?_
 (obtain ⟨hkk, hcl0⟩ := B5a hc zR0 zR0; subst hkk; have hcl := (A3v _ _).1 hcl0; have hlen : ks.length = 2 := (by have := ha2.2.1; have := ha2.1; omega); have hlen' : bks.length = 2 := zR0; obtain ⟨b0, o0, q0, d0, hp0, hat0, hre0, hg0⟩ := hsl.kidTy hkl (i := 0) zR0 zR0; obtain ⟨b1, o1, q1, d1, hp1, hat1, hre1, hg1⟩ := hsl.kidTy hkl (i := 1) zR0 zR0; subst hp0; cases hp1; obtain ⟨b2, o2, q2, d2, hp2, hat2, hre2, hg2⟩ := hsl'.kidTy hkl' (i := 0) zR0 zR0; obtain ⟨b3, o3, q3, d3, hp3, hat3, hre3, hg3⟩ := hsl'.kidTy hkl' (i := 1) zR0 zR0; subst hp2; cases hp3; have hM1 := ih ks[0] (List.getElem_mem zR0) bks[0] G _ _ (hcl.2 0 zR0 zR0) (hkida _ (List.getElem_mem zR0)) (hkidb _ (List.getElem_mem zR0)) hre0 hre2; refine D3 D4 rfl ?_)
 refine J4 (i := 0) (l' := [tt,ff,ff,ff,ff,ff,ff,ff,ff,ff,ff,ff,ff,ff,ff,ff,ff,ff,ff,ff,ff,ff]) rfl C8 (C3 rfl) rfl zP0 rfl rfl ?_
 refine aL 1 rfl (F0 rfl rfl) rfl ?_
 refine aP 2 rfl (C3 rfl) rfl ?_
 refine aL 3 rfl (F0 rfl rfl) rfl ?_
 refine aP 4 rfl (B8 (j := 0) rfl rfl rfl zR0) rfl ?_
 refine aL 5 rfl (A5 rfl rfl (hat0 _) rfl) rfl ?_
 refine aP 6 rfl (C3 rfl) rfl ?_
 refine aL 7 rfl (F0 rfl rfl) rfl ?_
 refine aP 8 rfl (B8 (j := 0) rfl rfl rfl zR0) rfl ?_
 refine aL 9 rfl (A5 rfl rfl (hat2 _) rfl) rfl ?_
 refine aP 11 rfl (C3 rfl) rfl ?_
 refine aL 12 rfl (F0 rfl rfl) rfl ?_
 refine aP 13 rfl (B8 (j := 1) rfl rfl rfl zR0) rfl ?_
 refine aL 14 rfl (A5 rfl rfl (hat1 _) rfl) rfl ?_
 refine aP 15 rfl (C3 rfl) rfl ?_
 refine aL 16 rfl (F0 rfl rfl) rfl ?_
 refine aP 17 rfl (B8 (j := 1) rfl rfl rfl zR0) rfl ?_
 refine aL 18 rfl (A5 rfl rfl (hat3 _) rfl) rfl ?_
 refine A2 10 ?_
 (refine H1 rfl rfl hM1 rfl rfl rfl (fun v G1 hle1 hh => ?_); obtain ⟨cm1, rfl, hm1⟩ := hh; have hM2 := ih ks[1] (List.getElem_mem zR0) bks[1] G1 _ _ (hcl.2 1 zR0 zR0) (hkida _ (List.getElem_mem zR0)) (hkidb _ (List.getElem_mem zR0)) (hre1.mono hle1) (hre3.mono hle1))
 refine A2 19 ?_
 (refine H1 rfl rfl hM2 rfl rfl rfl (fun v G2 hle2 hh => ?_); obtain ⟨cm2, rfl, hm2⟩ := hh; have hB := A2m k _ _ G2 _ _ hk (hm1.mono hle2) hm2)
 refine A2 20 ?_
 (refine H1 rfl rfl hB rfl rfl rfl (fun v G3 hle3 hh => ?_); obtain ⟨cm3, rfl, hm3⟩ := hh; obtain ⟨p5, c5, e5, rfl, _⟩ := hm3.open)
 refine A2 21 ?_
 refine C9 rfl ?_
 refine C1 ?_
 refine P5 (rC rfl (A3 rfl rfl)) ?_
 (rw [if_neg zR0, if_neg zR0]; rw [B49 hlen hlen']; exact ⟨rfl, _, rfl, hm3⟩)
def TmP (t : Tm) : IM → Value → List A7 → Prop := N8 fun G' v => ∃ cells, v = .agg ⟨cells⟩ ∧ B7 G' t cells
theorem TmP.mk {G : IM} {t : Tm} {cells : List Value} (h : B7 G t cells) : TmP t G (.agg ⟨cells⟩) [] := ⟨rfl, cells, rfl, h⟩
def mGk (k : Int) : Ty := if k = 4 ∨ k = 5 then .mk k [S0, S0] else .mk k []
theorem A42 {G : IM} {k : Int} {ks : List Tm} {p : Option Addr} {n c : Nat} {es : List (List Value)} (hk : H6 k) (hn : n = ks.length) (hs : D7 G p n c 9 es) (hr : F9 G ks es) : B7 G (A1K k ks) [.int .i64 k, .string ⟨⟨[]⟩⟩, .int .i64 0, .int .i64 0, .slice none 0 0, .int .i64 0, .slice none 0 0, .int .i64 0, .slice p n c] := by
 subst hn
 simp only [A1K, B7]
 exact ⟨[.int .i64 0, .slice none 0 0], [.int .i64 0, .slice none 0 0], p, c, es, rfl, hk, ⟨by decide, by decide⟩, ⟨by decide, by decide⟩, A25 G, A25 G, hs, hr⟩
theorem A7E (k : Int) (G : IM) (hk : H6 k) : Fn Tryz.prog 163 [.int .i64 k] [] G (N8 fun G' v => ∃ cells, v = .agg ⟨cells⟩ ∧ C7 G' (mGk k) cells) := by
 have hB := A2m k S0 S0 G _ _ hk (A1G G) (A1G G)
 refine C0 Tryz.func163 rfl Tryz.ntmps163 Tryz.results163 rfl ?_
 intro w0
 refine A4 ?_
 refine sE (A6 rfl) rfl (fun b3 => ?_)
 refine A9 ?_
 refine sB (qE rfl rfl) rfl rfl (fun h10 => ?_) (fun h10 => ?_)
 refine J2 ?_
 exact y105
 refine A4 ?_
 refine sB (qE rfl rfl) rfl rfl (fun h33 => ?_) (fun h33 => ?_)
 refine B0 ?_
 exact y105
 refine E7 ?_
 refine H4 rfl ((A1B _ _)) rfl rfl ?_
 refine B5 ?_
 refine P5 (rC rfl (A3 rfl rfl)) ?_
 (exact ⟨rfl, _, rfl, by unfold mGk; rw [if_neg zR0]; exact L9 _ hk⟩)
theorem B0f (t : Ty) (G : IM) (cells : List Value) (hr : C7 G t cells) : Fn Tryz.prog 157 [.agg ⟨cells⟩] [] G (K7 (.bool (A0h t)) G) := by
 refine Fn.forget (post := N8 fun _ v => v = .bool (A0h t)) ?_ (fun _ _ _ h => h.2)
 have hr0 := hr
 obtain ⟨tk, tks⟩ := t
 obtain ⟨p, c, es, rfl, hk, _⟩ := hr.open
 simp only [Ty.k, Ty.ks] at hk hr0 ⊢
 rw [show A0h (.mk tk tks) = (decide (tk ≠ 1) && T3 (.mk tk tks) (mGk tk)) from rfl]
 refine C0 Tryz.func157 rfl Tryz.ntmps157 Tryz.results157 rfl ?_
 intro w0
 refine A4 ?_
 refine sE (B6 rfl rfl) rfl (fun b3 => ?_)
 refine B5 ?_
 refine D3 D4 rfl ?_
 refine J4 (i := 0) (l' := [tt,ff,ff,ff,ff,ff,ff,ff,ff,ff,ff]) rfl C8 (C3 rfl) rfl zP0 rfl rfl ?_
 refine aL 1 rfl (F0 rfl rfl) rfl ?_
 refine A2B (i := 2) (l' := [tt,tt,tt,ff,ff,ff,ff,ff,ff,ff,ff]) rfl C8 (U3 rfl rfl) rfl zP0 rfl rfl (fun h11 => ?_) (fun h11 => ?_)
 refine aP 3 rfl (qM rfl) rfl ?_
 refine aL 4 rfl (A3 rfl rfl) rfl ?_
 refine aP 5 rfl (C3 rfl) rfl ?_
 refine aL 6 rfl (F0 rfl rfl) rfl ?_
 refine A2 7 ?_
 (refine H1 rfl rfl (A7E tk G hk) rfl rfl rfl (fun v G1 hle1 hh => ?_); obtain ⟨cg, rfl, hrg⟩ := hh; have hT := A7D (.mk tk tks) (mGk tk) G1 _ _ (hr0.mono hle1) hrg; obtain ⟨pg, cgg, eg, rfl, _⟩ := hrg.open)
 refine A2 8 ?_
 refine T2 rfl rfl (hT) rfl rfl rfl ?_
 refine aP 9 rfl (R8 rfl rfl) rfl ?_
 refine aP 10 rfl (qA rfl) rfl ?_
 refine B5 ?_
 (exact ⟨rfl, by rw [decide_eq_true zR0, Bool.true_and]⟩)
 refine aP 3 rfl (qM rfl) rfl ?_
 refine D6 4 rfl rfl rfl ?_
 refine D6 5 rfl rfl rfl ?_
 refine D6 6 rfl rfl rfl ?_
 refine D6 7 rfl rfl rfl ?_
 refine D6 8 rfl rfl rfl ?_
 refine aP 9 rfl (T6 rfl rfl) rfl ?_
 refine aP 10 rfl (qA rfl) rfl ?_
 refine B5 ?_
 (exact ⟨rfl, by rw [decide_eq_false zR0, Bool.false_and]⟩)
theorem A3G (t : Tm) (G : IM) (cells : List Value) (hr : B7 G t cells) : Fn Tryz.prog 66 [.agg ⟨cells⟩] [] G (K7 (.bool (prx t)) G) := by
 obtain ⟨k, nm, num, ⟨tk, tks⟩, ⟨fk, fks⟩, lb, ks⟩ := t
 obtain ⟨pt, ct, pf, cf, p, c, es, rfl, hk, hnum, hlb, hty, hfr, hsl, hkl⟩ := hr.open9
 have hd : prx (.mk k nm num (.mk tk tks) (.mk fk fks) lb ks) = decide (k = 14 ∧ fk = tk ∧ (tk = 4 ∨ tk = 5)) := rfl
 rw [hd]
 refine C0 Tryz.func66 rfl Tryz.ntmps66 Tryz.results66 rfl ?_
 intro w0
 refine A4 ?_
 refine sE (B6 rfl rfl) rfl (fun b3 => ?_)
 refine B0 ?_
 refine sB (qE rfl rfl) rfl rfl (fun h11 => ?_) (fun h11 => ?_)
 refine B0 ?_
 refine sB (qE rfl rfl) rfl rfl (fun h19 => ?_) (fun h19 => ?_)
 refine A8 ?_
 refine sB (qE rfl rfl) rfl rfl (fun h25 => ?_) (fun h25 => ?_)
 refine O3 ?_
 (exact ⟨rfl, by rw [decide_eq_true zR0], rfl⟩)
 refine B5 ?_
 refine sB (qE rfl rfl) rfl rfl (fun h43 => ?_) (fun h43 => ?_)
 refine B0 ?_
 (exact ⟨rfl, by rw [decide_eq_true zR0], rfl⟩)
 refine B0 ?_
 (exact ⟨rfl, by rw [decide_eq_false zR0], rfl⟩)
 refine Z8 ?_
 (exact ⟨rfl, by rw [decide_eq_false zR0], rfl⟩)
 refine A4E ?_
 (exact ⟨rfl, by rw [decide_eq_false zR0], rfl⟩)
theorem A43 (t : Tm) (G : IM) (cells : List Value) (hr : B7 G t cells) : Fn Tryz.prog 145 [.agg ⟨cells⟩] [] G (K7 (.bool (inj t)) G) := by
 obtain ⟨k, nm, num, ⟨tk, tks⟩, ⟨fk, fks⟩, lb, ks⟩ := t
 obtain ⟨pt, ct, pf, cf, p, c, es, rfl, hk, hnum, hlb, hty, hfr, hsl, hkl⟩ := hr.open9
 have hd : inj (.mk k nm num (.mk tk tks) (.mk fk fks) lb ks) = (decide (k = 14 ∧ tk = 1) && A0h (.mk fk fks)) := rfl
 rw [hd]
 refine C0 Tryz.func145 rfl Tryz.ntmps145 Tryz.results145 rfl ?_
 intro w0
 refine A4 ?_
 refine sE (B6 rfl rfl) rfl (fun b3 => ?_)
 refine B0 ?_
 refine sB (qE rfl rfl) rfl rfl (fun h11 => ?_) (fun h11 => ?_)
 refine B5 ?_
 refine sB (qE rfl rfl) rfl rfl (fun h16 => ?_) (fun h16 => ?_)
 refine B5 ?_
 refine H4 rfl ((B0f (.mk fk fks) G _ hfr)) rfl rfl ?_
 refine A9 ?_
 (exact ⟨rfl, by rw [decide_eq_true zR0, Bool.true_and], rfl⟩)
 refine M7 ?_
 (exact ⟨rfl, by rw [decide_eq_false zR0, Bool.false_and], rfl⟩)
 refine N3 ?_
 (exact ⟨rfl, by rw [decide_eq_false zR0, Bool.false_and], rfl⟩)
theorem B5b (t : Tm) (G : IM) (cells : List Value) (hr : B7 G t cells) : Fn Tryz.prog 148 [.agg ⟨cells⟩] [] G (K7 (.bool (decide (t.k = 2 ∨ t.k = 3 ∨ t.k = 4 ∨ t.k = 5))) G) := by
 obtain ⟨k, nm, num, ⟨tk, tks⟩, ⟨fk, fks⟩, lb, ks⟩ := t
 obtain ⟨pt, ct, pf, cf, p, c, es, rfl, hk, hnum, hlb, hty, hfr, hsl, hkl⟩ := hr.open9
 rw [show (Tm.mk k nm num (.mk tk tks) (.mk fk fks) lb ks).k = k from rfl]
 refine C0 Tryz.func148 rfl Tryz.ntmps148 Tryz.results148 rfl ?_
 intro w0
 refine A4 ?_
 refine sE (B6 rfl rfl) rfl (fun b3 => ?_)
 refine B0 ?_
 refine sB (qE rfl rfl) rfl rfl (fun h11 => ?_) (fun h11 => ?_)
 refine X3 ?_
 (exact ⟨rfl, by rw [decide_eq_true zR0], rfl⟩)
 refine C1 ?_
 refine sB (qE rfl rfl) rfl rfl (fun h36 => ?_) (fun h36 => ?_)
 refine N3 ?_
 (exact ⟨rfl, by rw [decide_eq_true zR0], rfl⟩)
 refine B5 ?_
 refine sB (qE rfl rfl) rfl rfl (fun h58 => ?_) (fun h58 => ?_)
 refine M7 ?_
 (exact ⟨rfl, by rw [decide_eq_true zR0], rfl⟩)
 refine B5 ?_
 refine sB (qE rfl rfl) rfl rfl (fun h75 => ?_) (fun h75 => ?_)
 refine A9 ?_
 (exact ⟨rfl, by rw [decide_eq_true zR0], rfl⟩)
 refine A9 ?_
 (exact ⟨rfl, by rw [decide_eq_false zR0], rfl⟩)
abbrev A53 (k : Int) : Ty := .mk k [S0, S0]
mutual
def B5c : Ty → List Ty
 | .mk k ks => if k = 1 then [.mk 2 [], .mk 3 [], A53 4, A53 5] else B0g k [] ks
def B0g (k : Int) (pre : List Ty) : List Ty → List Ty
 | [] => []
 | t :: ts => (B5c t).map (fun x => .mk k (pre ++ x :: ts)) ++ B0g k (pre ++ [t]) ts
end
mutual
def A7F (d : Int) : Ty → List Ty
 | .mk k ks => if k = 1 then [.mk 2 [], .mk 3 []] ++ (if 1 < d then [A53 4, A53 5] else []) else B0h d k [] ks
def B0h (d : Int) (k : Int) (pre : List Ty) : List Ty → List Ty
 | [] => []
 | t :: ts => (A7F (d - 1) t).map (fun x => .mk k (pre ++ x :: ts)) ++ B0h d k (pre ++ [t]) ts
end
section fr1
variable {P : Program} {Γ : N7} {env : O6} {hp : List A7} {G : IM} {K : Po} {ops : Array Oper} {rest : List Oper}
theorem B0i {b : Nat} {cs : List Value} {hp' : List A7} (p : hp.Perm (A0T [(b, cs)] ++ hp')) (h : ∀ G', B9 G G' → G' b = some cs → I1 P Γ ops rest K ⟨env, hp', G'⟩) : I1 P Γ ops rest K ⟨env, hp, G⟩ :=
 B3r p fun h1 _ h3 => h _ h3 (Wi.in h1 (List.mem_singleton.2 rfl))
end fr1
def A2T (E : Nat → Option Nat) (c : Nat) : Nat → Option Nat := fun m => if m = c then none else E m
def NmB (M : VM) (c : Nat) : Prop := ∀ b n, (b, NC.vr n) ∈ M → n < c
theorem B0j {M : VM} {E : Nat → Option Nat} {b c : Nat} (h : NmB M c) : H5 ((b, .vr c) :: M) (A2T E c) = .blk b [.int .i64 0, .pointer none, .pointer none, .pointer none] :: H5 M E := by
 have he : H5 M (A2T E c) = H5 M E := by
  unfold H5
  congr 1
  apply List.map_congr_left
  intro q hq
  obtain ⟨b', c'⟩ := q
  cases c' with
  | vr m =>
   have : m ≠ c := fun e => by have := h b' m hq; omega
   simp [A1D, A2T, this]
  | bs d => rfl
  | tw d x y => rfl
 rw [← he]
 simp [H5, A0T, A1D, A2T, ev]
inductive RAs (M : VM) : List SV → List Nat → Prop
 | nil : RAs M [] []
 | cons {s ss b bs} : K9 M s b → RAs M ss bs → RAs M (s :: ss) (b :: bs)
theorem RAs.mono {M M' : VM} (hM : ∀ q ∈ M, q ∈ M') {ss : List SV} {bs : List Nat} (h : RAs M ss bs) : RAs M' ss bs := by
 induction h with
 | nil => exact .nil
 | cons h1 _ i => exact .cons (h1.mono hM) i
theorem RAs.snoc {M : VM} {ss : List SV} {bs : List Nat} {s : SV} {b : Nat} (h : RAs M ss bs) (hs : K9 M s b) : RAs M (ss ++ [s]) (bs ++ [b]) := by
 induction h with
 | nil => exact .cons hs .nil
 | cons h1 _ i => exact .cons h1 i
theorem RAs.len {M : VM} {ss : List SV} {bs : List Nat} (h : RAs M ss bs) : ss.length = bs.length := by
 induction h with
 | nil => rfl
 | cons _ _ i => simp [i]
structure A0O (M : VM) (E : Nat → Option Nat) (S : IS) (ag : List Nat) : Prop where
 v : A09 M S.B E
 n1 : Nm1 M
 nb : NmB M S.c
 ar : RAs M S.L ag
theorem M5 {q : Nat × NC} {M : VM} : ∀ p ∈ M, p ∈ q :: M := fun _ h => List.mem_cons_of_mem _ h
theorem A0O.var {M : VM} {E : Nat → Option Nat} {S : IS} {ag : List Nat} {b : Nat} (h : A0O M E S ag) (hB : S.B S.c = none) : A0O ((b, .vr S.c) :: M) (A2T E S.c) ⟨S.B, S.c + 1, S.L⟩ ag := by
 refine ⟨fun b' n hm => ?_, fun b' b2 n h1 h2 => ?_, fun b' n hm => ?_, h.ar.mono M5⟩
 ·rcases List.mem_cons.1 hm with e | hm
  ·cases e
   exact .inl ⟨hB, by simp [A2T]⟩
  ·have hn := h.nb _ _ hm
   have he : A2T E S.c n = E n := if_neg zR0
   rw [he]
   rcases h.v b' n hm with h1 | ⟨s, b2, h1, h2, h3⟩
   ·exact .inl h1
   ·exact .inr ⟨s, b2, h1, h2, h3.mono M5⟩
 ·rcases List.mem_cons.1 h1 with e1 | g1 <;> rcases List.mem_cons.1 h2 with e2 | g2
  ·cases e1; cases e2; rfl
  ·cases e1; have := h.nb _ _ g2; omega
  ·cases e2; have := h.nb _ _ g1; omega
  ·exact h.n1 _ _ _ g1 g2
 ·rcases List.mem_cons.1 hm with e | hm
  ·cases e; exact Nat.lt_succ_self _
  ·exact Nat.lt_succ_of_lt (h.nb _ _ hm)
theorem A0O.node {M : VM} {E : Nat → Option Nat} {S : IS} {ag : List Nat} {q : Nat × NC} (h : A0O M E S ag) (hq : ∀ n, q.2 ≠ .vr n) : A0O (q :: M) E S ag := by
 have key : ∀ b n, (b, NC.vr n) ∈ q :: M → (b, NC.vr n) ∈ M := fun b n hm => by
  rcases List.mem_cons.1 hm with e | hm
  ·exact absurd (by rw [← e]) (hq n)
  ·exact hm
 refine ⟨fun b' n hm => ?_, fun b' b2 n h1 h2 => h.n1 _ _ _ (key _ _ h1) (key _ _ h2), fun b' n hm => h.nb _ _ (key _ _ hm), h.ar.mono M5⟩
 rcases h.v b' n (key _ _ hm) with h1 | ⟨s, b2, h1, h2, h3⟩
 ·exact .inl h1
 ·exact .inr ⟨s, b2, h1, h2, h3.mono M5⟩
theorem A0O.uni {M : VM} {E E' : Nat → Option Nat} {S : IS} {ag : List Nat} {B' : BV} {c : Nat} (h : A0O M E S ag) (hV : A09 M B' E') (hc : S.c ≤ c) : A0O M E' ⟨B', c, S.L⟩ ag :=
 ⟨hV, h.n1, fun b n hm => Nat.lt_of_lt_of_le (h.nb b n hm) hc, h.ar⟩
theorem A0O.arg {M : VM} {E : Nat → Option Nat} {S : IS} {ag : List Nat} {s : SV} {b : Nat} (h : A0O M E S ag) (hs : K9 M s b) : A0O M E ⟨S.B, S.c, S.L ++ [s]⟩ (ag ++ [b]) :=
 ⟨h.v, h.n1, h.nb, h.ar.snoc hs⟩
def RSc (M : VM) (G : IM) : List (ByteArray × SV) → Value → Prop
 | [], v => v = .pointer none
 | (x, s) :: Γ, v => ∃ b bs p', v = pt b ∧ G b = some [.string x, pt bs, .pointer p'] ∧ K9 M s bs ∧ RSc M G Γ (.pointer p')
theorem RSc.mono {M M' : VM} {G G' : IM} (hM : ∀ q ∈ M, q ∈ M') (hG : B9 G G') : ∀ {Γ : List (ByteArray × SV)} {v : Value}, RSc M G Γ v → RSc M' G' Γ v
 | [], _, h => h
 | (_, _) :: _, _, h => by
  obtain ⟨b, bs, p', h1, h2, h3, h4⟩ := h
  exact ⟨b, bs, p', h1, hG _ _ h2, h3.mono hM, RSc.mono hM hG h4⟩
theorem A54 {hp : List A7} {G : IM} {b o : Nat} {full : List Value} {v : Value} (hg : G b = some full) (hv : full[o]? = some v) : At hp G b o [v] :=
 A2Z hg fun j u hj => by
  cases j with
  | zero => simp at hj; subst hj; simpa using hv
  | succ j => simp at hj
theorem Sl.at1 {G : IM} {p : Option Addr} {n c : Nat} {cs : List Value} (h : Sl G p n c 1 cs) (hn : 0 < n) : ∃ b o, p = some ⟨b, o, none⟩ ∧ G b ≠ none ∧ ∀ (hp : List A7) (i : Nat) (v : Value), cs[i]? = some v → At hp G b (o + i * 1) [v] := by
 obtain ⟨hl, hc, hm, h⟩ := h
 obtain ⟨b, o, full, rfl, hg, hv⟩ := h.resolve_left zR0
 exact ⟨b, o, rfl, by rw [hg]; simp, fun hp i v hi => A54 hg (by rw [Nat.mul_one]; exact hv i v hi)⟩
def B5d (M : VM) (bx : Nat) (S' : IS) (o : Option SV) (lim : Nat) : IM → Value → List A7 → Prop := fun _ v outs => ∃ M' E' pa ca ag p,
 outs = .blk bx [.slice pa ag.length ca] :: .slc pa ca 40 1 ag.length (ag.map pt) :: H5 M' E' ∧ v = .tuple ⟨[.pointer p, .bool o.isSome]⟩ ∧ A0O M' E' S' ag ∧ (∀ q ∈ M, q ∈ M') ∧ ag.length ≤ lim ∧ ∀ s, o = some s → ∃ b, p = some ⟨b, 0, none⟩ ∧ K9 M' s b
section sink
variable {P : Program} {Γ : N7} {env : O6} {hp : List A7} {G : IM} {K : Po} {ops : Array Oper} {rest : List Oper}
theorem A7G (Y : List A7) {M : VM} {E : Nat → Option Nat} {b c : Nat} (h : NmB M c) (k : I1 P Γ ops rest K ⟨env, Y ++ H5 ((b, .vr c) :: M) (A2T E c), G⟩) :
  I1 P Γ ops rest K ⟨env, .blk b [.int .i64 0, .pointer none, .pointer none, .pointer none] :: (Y ++ H5 M E), G⟩ := by
 rw [B0j h] at k
 exact A9z Y k
theorem A2n (Y : List A7) {M : VM} {E : Nat → Option Nat} {b : Nat} (q : NC) (k : I1 P Γ ops rest K ⟨env, Y ++ H5 ((b, q) :: M) E, G⟩) :
  I1 P Γ ops rest K ⟨env, .blk b (A1D E q) :: (Y ++ H5 M E), G⟩ := A9z Y k
variable {H : List (Nat × Nat)} {fuel : Nat} {listed : List Bool}
theorem B5e (Y : List A7) {M : VM} {E : Nat → Option Nat} {b c : Nat} (h : NmB M c) (k : N4 P Γ ops K H fuel listed ⟨env, Y ++ H5 ((b, .vr c) :: M) (A2T E c), G⟩) :
  N4 P Γ ops K H fuel listed ⟨env, .blk b [.int .i64 0, .pointer none, .pointer none, .pointer none] :: (Y ++ H5 M E), G⟩ := by
 rw [B0j h] at k
 exact A9A Y k
theorem B5f (Y : List A7) {M : VM} {E : Nat → Option Nat} {b : Nat} (q : NC) (k : N4 P Γ ops K H fuel listed ⟨env, Y ++ H5 ((b, q) :: M) E, G⟩) :
  N4 P Γ ops K H fuel listed ⟨env, .blk b (A1D E q) :: (Y ++ H5 M E), G⟩ := A9A Y k
theorem B5g {b : Nat} {cs : List Value} {hp' : List A7} (p : hp.Perm (A0T [(b, cs)] ++ hp')) (h : ∀ G', B9 G G' → G' b = some cs → N4 P Γ ops K H fuel listed ⟨env, hp', G'⟩) : N4 P Γ ops K H fuel listed ⟨env, hp, G⟩ :=
 B3s p fun h1 _ h3 => h _ h3 (Wi.in h1 (List.mem_singleton.2 rfl))
end sink
theorem A1M {B B' : BV} {a b : SV} {ok : Bool} (h : Q4 B a b B' ok) (M : VM) (E : Nat → Option Nat) (pa pb : Nat) (G : IM) (hV : A09 M B E) (hN : Nm1 M) (hra : K9 M a pa) (hrb : K9 M b pb) :
  Fn Tryz.prog 80 [pt pa, pt pb] (H5 M E) G (A4P M G B' ok) := B4h [] fun hnd => B4l h M E pa pb G hV hnd hN hra hrb
theorem V3.v1 {Γ : List (ByteArray × SV)} {k num lb : Int} {nm : ByteArray} {ty fr : Ty} {ks : List Tm} {S S' : IS} {o : Option SV} (h : V3 Γ (.mk k nm num ty fr lb ks) S S' o) (hk : k = 1) : S' = S ∧ o = A1c Γ nm := by
 subst hk
 cases h with
 | var => exact ⟨rfl, rfl⟩
 | no h1 _ _ => exact absurd rfl h1
 | node h1 _ _ _ => exact absurd rfl h1
theorem V3.v5 {Γ : List (ByteArray × SV)} {k num lb : Int} {nm : ByteArray} {ty fr : Ty} {ks : List Tm} {S S' : IS} {o : Option SV} (h : V3 Γ (.mk k nm num ty fr lb ks) S S' o) (hk : k = 5) :
  ∃ e o', ks = [e] ∧ S.B S.c = none ∧ V3 ((nm, .v S.c) :: Γ) e ⟨S.B, S.c + 1, S.L ++ [.v S.c]⟩ S' o' ∧ o = o'.map fun t => .t false (.v S.c) t := by
 subst hk
 cases h with
 | lam h1 h2 => exact ⟨_, _, rfl, h1, h2, rfl⟩
 | no _ h1 _ => exact absurd rfl h1
 | node _ h1 _ _ => exact absurd rfl h1
theorem V3.vn {Γ : List (ByteArray × SV)} {k num lb : Int} {nm : ByteArray} {ty fr : Ty} {ks : List Tm} {S S' : IS} {o : Option SV} (h : V3 Γ (.mk k nm num ty fr lb ks) S S' o) (h1 : k ≠ 1) (h5 : k ≠ 5) :
  ∃ S1 os, A0W Γ ks S S1 os ∧ ((os = none ∧ S' = S1 ∧ o = none) ∨ ∃ ss, os = some ss ∧ Nod k ss S1 S' o) := by
 cases h with
 | var => exact absurd rfl h1
 | lam _ _ => exact absurd rfl h5
 | no _ _ h => exact ⟨_, _, h, .inl ⟨rfl, rfl, rfl⟩⟩
 | node _ _ h h' => exact ⟨_, _, h, .inr ⟨_, rfl, h'⟩⟩
theorem V3.v0 {Γ : List (ByteArray × SV)} {k num lb : Int} {nm : ByteArray} {ty fr : Ty} {S S' : IS} {o : Option SV} (h : V3 Γ (.mk k nm num ty fr lb []) S S' o) (hk : k = 2 ∨ k = 3 ∨ k = 4) : S' = S ∧ o = some (.b (decide (k ≠ 2))) := by
 obtain ⟨S1, os, h1, h2⟩ := h.vn zR0 zR0
 cases h1
 rcases h2 with ⟨h3, _⟩ | ⟨ss, h3, h4⟩
 ·cases h3
 ·cases h3
  cases h4 with
  | num => exact ⟨rfl, rfl⟩
  | tru h5 => exact ⟨rfl, by rw [decide_eq_true zR0]⟩
theorem A0W.hd {Γ : List (ByteArray × SV)} {ks : List Tm} {S S' : IS} {os : Option (List SV)} {i : Nat} (hi : i < ks.length) (h : A0W Γ (ks.drop i) S S' os) :
  (V3 Γ ks[i] S S' none ∧ os = none) ∨ ∃ S1 s os', V3 Γ ks[i] S S1 (some s) ∧ A0W Γ (ks.drop (i + 1)) S1 S' os' ∧ os = os'.map (s :: ·) := by
 rw [List.drop_eq_getElem_cons hi] at h
 cases h with
 | no h => exact .inl ⟨h, rfl⟩
 | cons h1 h2 => exact .inr ⟨_, _, _, h1, h2, rfl⟩
theorem A0W.fin {Γ : List (ByteArray × SV)} {ks : List Tm} {S S' : IS} {os : Option (List SV)} (h : A0W Γ (ks.drop ks.length) S S' os) : S' = S ∧ os = some [] := by
 rw [List.drop_length] at h
 cases h
 exact ⟨rfl, rfl⟩
end Gw
end Go.Proofs.YtbdacdnffkhgeaaGreatDoor
namespace Go.Proofs.YtbdacdnffkhgeaaGreatDoor
namespace Gw
inductive GT where
 | any | int | bool
 | fn (a b : GT)
 | pr (a b : GT)
inductive GE where
 | var (x : ByteArray)
 | num (n : Int)
 | tru (b : Bool)
 | lam (x : ByteArray) (A : GT) (e : GE)
 | app (f a : GE)
 | ar (s : Bool) (a b : GE)
 | ite (c a b : GE)
 | pair (a b : GE)
 | part (s : Bool) (e : GE)
 | cast (A B : GT) (l : Int) (e : GE)
def GT.gr : GT → GT
 | .any => .any
 | .int => .int
 | .bool => .bool
 | .fn _ _ => .fn .any .any
 | .pr _ _ => .pr .any .any
def GT.Gd (t : GT) : Prop := t ≠ .any ∧ t.gr = t
inductive Co : GT → GT → Prop
 | l {b} : Co .any b
 | r {a} : Co a .any
 | int : Co .int .int
 | bool : Co .bool .bool
 | fn {a b a' b'} : Co a a' → Co b b' → Co (.fn a b) (.fn a' b')
 | pr {a b a' b'} : Co a a' → Co b b' → Co (.pr a b) (.pr a' b')
inductive Le : GT → GT → Prop
 | any {a} : Le a .any
 | int : Le .int .int
 | bool : Le .bool .bool
 | fn {a b a' b'} : Le a a' → Le b b' → Le (.fn a b) (.fn a' b')
 | pr {a b a' b'} : Le a a' → Le b b' → Le (.pr a b) (.pr a' b')
theorem Co.symm {a b : GT} (h : Co a b) : Co b a := by
 induction h with
 | l => exact .r
 | r => exact .l
 | int => exact .int
 | bool => exact .bool
 | fn _ _ i j => exact .fn i j
 | pr _ _ i j => exact .pr i j
theorem Co.refl : ∀ {a : GT}, Co a a
 | .any => .l
 | .int => .int
 | .bool => .bool
 | .fn _ _ => .fn Co.refl Co.refl
 | .pr _ _ => .pr Co.refl Co.refl
theorem Le.refl : ∀ {a : GT}, Le a a
 | .any => .any
 | .int => .int
 | .bool => .bool
 | .fn _ _ => .fn Le.refl Le.refl
 | .pr _ _ => .pr Le.refl Le.refl
theorem Le.gr {a : GT} : Le a a.gr := by
 cases a with
 | fn _ _ => exact .fn .any .any
 | pr _ _ => exact .pr .any .any
 | _ => exact Le.refl
theorem Co.gr {a : GT} : Co a a.gr := by
 cases a with
 | fn _ _ => exact .fn .r .r
 | pr _ _ => exact .pr .r .r
 | _ => exact Co.refl
theorem Le.trans {a b : GT} (h : Le a b) : ∀ {c : GT}, Le b c → Le a c := by
 induction h with
 | any => intro c h; cases h; exact .any
 | int => exact fun h => h
 | bool => exact fun h => h
 | fn _ _ i j =>
  intro c h
  cases h with
  | any => exact .any
  | fn h1 h2 => exact .fn (i h1) (j h2)
 | pr _ _ i j =>
  intro c h
  cases h with
  | any => exact .any
  | pr h1 h2 => exact .pr (i h1) (j h2)
theorem Co.up {a b : GT} (h : Co a b) : ∀ {a' b' : GT}, Le a a' → Le b b' → Co a' b' := by
 induction h with
 | l => intro a' b' h1 _; cases h1; exact .l
 | r => intro a' b' _ h2; cases h2; exact .r
 | int => intro a' b' h1 h2; cases h1 <;> cases h2 <;> first | exact .l | exact .r | exact .int
 | bool => intro a' b' h1 h2; cases h1 <;> cases h2 <;> first | exact .l | exact .r | exact .bool
 | fn _ _ i j =>
  intro a' b' h1 h2
  cases h1 with
  | any => exact .l
  | fn p q => cases h2 with
   | any => exact .r
   | fn r s => exact .fn (i p r) (j q s)
 | pr _ _ i j =>
  intro a' b' h1 h2
  cases h1 with
  | any => exact .l
  | pr p q => cases h2 with
   | any => exact .r
   | pr r s => exact .pr (i p r) (j q s)
theorem Le.co {a b : GT} (h : Le a b) : Co a b := Co.refl.up Le.refl h
theorem Le.gd {a g : GT} (h : Le a g) (hg : g.Gd) : a.gr = g := by
 cases h with
 | any => exact absurd rfl hg.1
 | int => rfl
 | bool => rfl
 | fn _ _ => exact hg.2
 | pr _ _ => exact hg.2
theorem B0k {a : GT} (h : a ≠ .any) : a.gr.Gd := by
 cases a with
 | any => exact absurd rfl h
 | int => exact ⟨(by intro h; cases h), rfl⟩
 | bool => exact ⟨(by intro h; cases h), rfl⟩
 | fn _ _ => exact ⟨(by intro h; cases h), rfl⟩
 | pr _ _ => exact ⟨(by intro h; cases h), rfl⟩
def GE.sub : GE → ByteArray → GE → GE
 | .var y, x, v => if y = x then v else .var y
 | .num n, _, _ => .num n
 | .tru b, _, _ => .tru b
 | .lam y A e, x, v => if y = x then .lam y A e else .lam y A (e.sub x v)
 | .app f a, x, v => .app (f.sub x v) (a.sub x v)
 | .ar s a b, x, v => .ar s (a.sub x v) (b.sub x v)
 | .ite c a b, x, v => .ite (c.sub x v) (a.sub x v) (b.sub x v)
 | .pair a b, x, v => .pair (a.sub x v) (b.sub x v)
 | .part s e, x, v => .part s (e.sub x v)
 | .cast A B l e, x, v => .cast A B l (e.sub x v)
inductive GV : GE → Prop
 | num {n} : GV (.num n)
 | tru {b} : GV (.tru b)
 | lam {x A e} : GV (.lam x A e)
 | pair {a b} : GV a → GV b → GV (.pair a b)
 | pf {a b c d l e} : GV e → GV (.cast (.fn a b) (.fn c d) l e)
 | pp {a b c d l e} : GV e → GV (.cast (.pr a b) (.pr c d) l e)
 | inj {A l e} : GV e → A.Gd → GV (.cast A .any l e)
def A2o (s : Bool) (m n : Int) : GE := if s = true then .tru (decide (m < n)) else .num ((m + n) % 1000)
inductive GS : GE → GE → Prop
 | app1 {f f' a} : GS f f' → GS (.app f a) (.app f' a)
 | app2 {f a a'} : GV f → GS a a' → GS (.app f a) (.app f a')
 | ar1 {s a a' b} : GS a a' → GS (.ar s a b) (.ar s a' b)
 | ar2 {s a b b'} : GV a → GS b b' → GS (.ar s a b) (.ar s a b')
 | ite1 {c c' a b} : GS c c' → GS (.ite c a b) (.ite c' a b)
 | pair1 {a a' b} : GS a a' → GS (.pair a b) (.pair a' b)
 | pair2 {a b b'} : GV a → GS b b' → GS (.pair a b) (.pair a b')
 | part1 {s e e'} : GS e e' → GS (.part s e) (.part s e')
 | cast1 {A B l e e'} : GS e e' → GS (.cast A B l e) (.cast A B l e')
 | beta {x A b v} : GV v → GS (.app (.lam x A b) v) (b.sub x v)
 | appx {a b c d l f v} : GV f → GV v → GS (.app (.cast (.fn a b) (.fn c d) l f) v) (.cast b d l (.app f (.cast c a (-l) v)))
 | ar {s m n} : GS (.ar s (.num m) (.num n)) (A2o s m n)
 | ite {b x y} : GS (.ite (.tru b) x y) (if b = true then x else y)
 | part {s a b} : GV a → GV b → GS (.part s (.pair a b)) (if s = true then b else a)
 | partx {s a b c d l e} : GV e → GS (.part s (.cast (.pr a b) (.pr c d) l e)) (.cast (if s = true then b else a) (if s = true then d else c) l (.part s e))
 | cid {A l v} : GV v → (A = .any ∨ A = .int ∨ A = .bool) → GS (.cast A A l v) v
 | up {A l v} : GV v → A ≠ .any → A.gr ≠ A → GS (.cast A .any l v) (.cast A.gr .any l (.cast A A.gr l v))
 | down {B l v} : GV v → B ≠ .any → B.gr ≠ B → GS (.cast .any B l v) (.cast B.gr B l (.cast .any B.gr l v))
 | hit {G l m w} : GV w → G.Gd → GS (.cast .any G l (.cast G .any m w)) w
theorem GV.noS {e : GE} (h : GV e) : ∀ r, ¬ GS e r := by
 induction h with
 | num => intro r s; cases s
 | tru => intro r s; cases s
 | lam => intro r s; cases s
 | pair _ _ i j =>
  intro r s
  cases s with
  | pair1 s => exact i _ s
  | pair2 _ s => exact j _ s
 | pf _ i =>
  intro r s
  cases s with
  | cast1 s => exact i _ s
  | cid _ h => rcases h with h | h | h <;> cases h
 | pp _ i =>
  intro r s
  cases s with
  | cast1 s => exact i _ s
  | cid _ h => rcases h with h | h | h <;> cases h
 | inj _ hg i =>
  intro r s
  cases s with
  | cast1 s => exact i _ s
  | cid _ h => exact hg.1 rfl
  | up _ _ h => exact h hg.2
  | down _ h => exact h rfl
  | hit _ h => exact h.1 rfl
theorem GV.ofCast {A B : GT} {l : Int} {e : GE} (h : GV (.cast A B l e)) : GV e := by cases h <;> assumption
inductive Ss : GE → GE → Prop
 | refl {e} : Ss e e
 | step {a b c} : GS a b → Ss b c → Ss a c
theorem Ss.trans {a b c : GE} (h : Ss a b) (h2 : Ss b c) : Ss a c := by
 induction h with
 | refl => exact h2
 | step s _ i => exact .step s (i h2)
theorem Ss.one {a b : GE} (h : GS a b) : Ss a b := .step h .refl
theorem Ss.ctx {a b : GE} (C : GE → GE) (hC : ∀ x y, GS x y → GS (C x) (C y)) (h : Ss a b) : Ss (C a) (C b) := by
 induction h with
 | refl => exact .refl
 | step s _ i => exact .step (hC _ _ s) i
abbrev GC := ByteArray → Option (GT × GT)
def S7 : GC := fun _ => none
def gup (Γ : GC) (x : ByteArray) (A A' : GT) : GC := fun y => if x = y then some (A, A') else Γ y
inductive GP : GC → GE → GE → GT → GT → Prop
 | var {Γ x A A'} : Γ x = some (A, A') → Le A A' → GP Γ (.var x) (.var x) A A'
 | num {Γ n} : GP Γ (.num n) (.num n) .int .int
 | tru {Γ b} : GP Γ (.tru b) (.tru b) .bool .bool
 | lam {Γ x A A' B B' e e'} : Le A A' → GP (gup Γ x A A') e e' B B' → GP Γ (.lam x A e) (.lam x A' e') (.fn A B) (.fn A' B')
 | app {Γ f f' a a' A A' B B'} : GP Γ f f' (.fn A B) (.fn A' B') → GP Γ a a' A A' → GP Γ (.app f a) (.app f' a') B B'
 | ar {Γ s a a' b b'} : GP Γ a a' .int .int → GP Γ b b' .int .int → GP Γ (.ar s a b) (.ar s a' b') (if s = true then .bool else .int) (if s = true then .bool else .int)
 | ite {Γ c c' a a' b b' A A'} : GP Γ c c' .bool .bool → GP Γ a a' A A' → GP Γ b b' A A' → GP Γ (.ite c a b) (.ite c' a' b') A A'
 | pair {Γ a a' b b' A A' B B'} : GP Γ a a' A A' → GP Γ b b' B B' → GP Γ (.pair a b) (.pair a' b') (.pr A B) (.pr A' B')
 | part {Γ s e e' A A' B B'} : GP Γ e e' (.pr A B) (.pr A' B') → GP Γ (.part s e) (.part s e') (if s = true then B else A) (if s = true then B' else A')
 | castL {Γ e e' A B A' l} : GP Γ e e' A A' → Co A B → Le B A' → GP Γ (.cast A B l e) e' B A'
 | castR {Γ e e' A A' B' l} : GP Γ e e' A A' → Co A' B' → Le A B' → GP Γ e (.cast A' B' l e') A B'
 | castB {Γ e e' A B A' B' l l'} : GP Γ e e' A A' → Co A B → Co A' B' → Le B B' → GP Γ (.cast A B l e) (.cast A' B' l' e') B B'
theorem GP.le {Γ : GC} {e e' : GE} {A A' : GT} (h : GP Γ e e' A A') : Le A A' := by
 induction h with
 | var _ h => exact h
 | num => exact .int
 | tru => exact .bool
 | lam h _ i => exact .fn h i
 | app _ _ i _ => cases i with | fn _ h => exact h
 | ar => exact Le.refl
 | ite _ _ _ _ i _ => exact i
 | pair _ _ i j => exact .pr i j
 | @part Γ s _ _ _ _ _ _ _ i => cases i with | pr h1 h2 => cases s <;> assumption
 | castL _ _ h _ => exact h
 | castR _ _ h _ => exact h
 | castB _ _ _ h _ => exact h
theorem GP.weak {Γ : GC} {e e' : GE} {A A' : GT} (h : GP Γ e e' A A') : ∀ {Δ : GC}, (∀ y p, Γ y = some p → Δ y = some p) → GP Δ e e' A A' := by
 induction h with
 | var hx hl => intro Δ hD; exact .var (hD _ _ hx) hl
 | num => intro _ _; exact .num
 | tru => intro _ _; exact .tru
 | lam hl _ i =>
  intro Δ hD
  refine .lam hl (i fun y p hy => ?_)
  unfold gup at hy ⊢
  split
  ·rename_i h; rw [if_pos h] at hy; exact hy
  ·rename_i h; rw [if_neg h] at hy; exact hD _ _ hy
 | app _ _ i j => intro Δ hD; exact .app (i hD) (j hD)
 | ar _ _ i j => intro Δ hD; exact .ar (i hD) (j hD)
 | ite _ _ _ i j k => intro Δ hD; exact .ite (i hD) (j hD) (k hD)
 | pair _ _ i j => intro Δ hD; exact .pair (i hD) (j hD)
 | part _ i => intro Δ hD; exact .part (i hD)
 | castL _ h1 h2 i => intro Δ hD; exact .castL (i hD) h1 h2
 | castR _ h1 h2 i => intro Δ hD; exact .castR (i hD) h1 h2
 | castB _ h1 h2 h3 i => intro Δ hD; exact .castB (i hD) h1 h2 h3
theorem GP.sub {x : ByteArray} {v v' : GE} {A A' : GT} (hv : GP S7 v v' A A') {Γ : GC} {e e' : GE} {B B' : GT} (h : GP Γ e e' B B') :
  ∀ {Δ : GC}, (∀ y, x ≠ y → Γ y = Δ y) → Γ x = some (A, A') → GP Δ (e.sub x v) (e'.sub x v') B B' := by
 induction h with
 | @var Γ y C C' hy hl =>
  intro Δ hD hx
  simp only [GE.sub]
  split
  ·rename_i he
   subst he
   rw [hx] at hy
   cases hy
   exact hv.weak fun z p hz => by cases hz
  ·rename_i he
   exact .var (by rw [← hD y (fun e => he e.symm)]; exact hy) hl
 | num => intro _ _ _; exact .num
 | tru => intro _ _ _; exact .tru
 | @lam Γ y C C' D D' e e' hl h i =>
  intro Δ hD hx
  simp only [GE.sub]
  by_cases he : y = x
  ·rw [if_pos he, if_pos he]
   refine .lam hl (h.weak fun z p hz => ?_)
   unfold gup at hz ⊢
   split
   ·rename_i h2; rw [if_pos h2] at hz; exact hz
   ·rename_i h2; rw [if_neg h2] at hz; rw [← hD z (fun e => h2 (he.trans e))]; exact hz
  ·rw [if_neg he, if_neg he]
   refine .lam hl (i (fun z hz => ?_) ?_)
   ·unfold gup
    split
    ·rfl
    ·exact hD z hz
   ·unfold gup; rw [if_neg he]; exact hx
 | app _ _ i j => intro Δ hD hx; exact .app (i hD hx) (j hD hx)
 | ar _ _ i j => intro Δ hD hx; exact .ar (i hD hx) (j hD hx)
 | ite _ _ _ i j k => intro Δ hD hx; exact .ite (i hD hx) (j hD hx) (k hD hx)
 | pair _ _ i j => intro Δ hD hx; exact .pair (i hD hx) (j hD hx)
 | part _ i => intro Δ hD hx; exact .part (i hD hx)
 | castL _ h1 h2 i => intro Δ hD hx; exact .castL (i hD hx) h1 h2
 | castR _ h1 h2 i => intro Δ hD hx; exact .castR (i hD hx) h1 h2
 | castB _ h1 h2 h3 i => intro Δ hD hx; exact .castB (i hD hx) h1 h2 h3
theorem B5h {Γ : GC} {v u : GE} {A U : GT} (h : GP Γ v u A U) : ∀ {H : GT} {l : Int} {w : GE}, u = .cast H .any l w → Γ = S7 → GV v → A ≠ .any → H.Gd → Le A H ∧ GP S7 v w A H := by
 induction h with
 | @castL Γ e e' A B A' m h hc hl i =>
  intro H l w hu hE hv hA hH
  subst hE
  have hU := hl
  subst hu
  obtain ⟨hle, hp⟩ : Le A H ∧ GP S7 e w A H := i rfl rfl hv.ofCast (by cases hv with | inj _ _ => exact absurd rfl hA | _ => intro h; cases h) hH
  have : Le B H := by
   cases hv with
   | inj _ _ => exact absurd rfl hA
   | pf _ =>
    cases hle with
    | any => exact absurd rfl hH.1
    | fn _ _ => have := hH.2; cases this; exact .fn .any .any
   | pp _ =>
    cases hle with
    | any => exact absurd rfl hH.1
    | pr _ _ => have := hH.2; cases this; exact .pr .any .any
  exact ⟨this, .castL hp hc this⟩
 | castR h hc hl _ =>
  intro H l w hu hE hv hA hH
  subst hE
  cases hu
  exact ⟨h.le, h⟩
 | @castB Γ e e' A B A' B' m m' h hc hc' hl _ =>
  intro H l w hu hE hv hA hH
  subst hE
  obtain ⟨rfl, rfl, _, rfl⟩ : A' = H ∧ B' = .any ∧ m' = l ∧ e' = w := by cases hu; exact ⟨rfl, rfl, rfl, rfl⟩
  have hle := h.le
  have : Le B A' := by
   cases hv with
   | inj _ _ => exact absurd rfl hA
   | pf _ =>
    cases hle with
    | any => exact absurd rfl hH.1
    | fn _ _ => have := hH.2; cases this; exact .fn .any .any
   | pp _ =>
    cases hle with
    | any => exact absurd rfl hH.1
    | pr _ _ => have := hH.2; cases this; exact .pr .any .any
  exact ⟨this, .castL h hc this⟩
 | _ => intro H l w hu; cases hu
theorem B5i {v' : GE} {v : GE} {A : GT} (h : GP S7 v v' A .any) (hv : GV v') : ∃ H l w, v' = .cast H .any l w ∧ GV w ∧ H.Gd := by
 suffices ∀ {Γ v v' A U}, GP Γ v v' A U → U = .any → Γ = S7 → GV v' → ∃ H l w, v' = .cast H .any l w ∧ GV w ∧ H.Gd from this h rfl rfl hv
 intro Γ v v' A U h
 induction h with
 | castL _ _ _ i => exact i
 | castR _ _ _ _ => intro hU _ hv; subst hU; cases hv with | inj h1 h2 => exact ⟨_, _, _, rfl, h1, h2⟩
 | castB _ _ _ _ _ => intro hU _ hv; subst hU; cases hv with | inj h1 h2 => exact ⟨_, _, _, rfl, h1, h2⟩
 | var hx _ => intro _ hE; subst hE; cases hx
 | app _ _ _ _ => intro _ _ hv; cases hv
 | ite _ _ _ _ _ _ => intro _ _ hv; cases hv
 | part _ _ => intro _ _ hv; cases hv
 | ar _ _ _ _ => intro _ _ hv; cases hv
 | _ => intro hU; cases hU
theorem A2p {A B : GT} {l : Int} {a b : GE} (h : Ss a b) : Ss (.cast A B l a) (.cast A B l b) := h.ctx _ fun _ _ => .cast1
theorem B0l {v v' : GE} {A G : GT} {l : Int} (hv : GV v) (hv' : GV v') (h : GP S7 v v' A .any) (hG : G.Gd) (hl : Le A G) (hA : A ≠ .any) :
  ∃ v'', Ss (.cast .any G l v') v'' ∧ GV v'' ∧ GP S7 v v'' A G := by
 obtain ⟨H, m, w, rfl, hw, hH⟩ := B5i h hv'
 obtain ⟨h1, h2⟩ := B5h h rfl rfl hv hA hH
 have : H = G := (h1.gd hH).symm.trans (hl.gd hG)
 subst this
 exact ⟨w, .one (.hit hw hG), hw, h2⟩
theorem B5j {A B : GT} (h : Le A B) (hB : B ≠ .any) : A ≠ .any := by rintro rfl; cases h; exact hB rfl
theorem A55 {v v' : GE} {A A' B' : GT} (l : Int) (hv : GV v) (hv' : GV v') (h : GP S7 v v' A A') (hl : Le A B') (hc : Co A' B') :
  ∃ v'', Ss (.cast A' B' l v') v'' ∧ GV v'' ∧ GP S7 v v'' A B' := by
 have hle := h.le
 by_cases hA : A' = .any
 ·subst hA
  by_cases hB : B' = .any
  ·subst hB; exact ⟨v', .one (.cid hv' (.inl rfl)), hv', h⟩
  ·have hA := B5j hl hB
   by_cases hg : B'.gr = B'
   ·exact B0l hv hv' h ⟨hB, hg⟩ hl hA
   ·have hgB := B0k hB
    obtain ⟨u, s, hu, hp⟩ := B0l (l := l) hv hv' h hgB (hl.trans Le.gr) hA
    refine ⟨.cast B'.gr B' l u, .step (.down hv' hB hg) (A2p s), ?_, .castR hp Co.gr.symm hl⟩
    cases B' with
    | fn _ _ => exact .pf hu
    | pr _ _ => exact .pp hu
    | any => exact absurd rfl hB
    | int => exact absurd rfl hg
    | bool => exact absurd rfl hg
 ·by_cases hB : B' = .any
  ·subst hB
   by_cases hg : A'.gr = A'
   ·exact ⟨_, .refl, .inj hv' ⟨hA, hg⟩, .castR h .r .any⟩
   ·refine ⟨_, .one (.up hv' hA hg), .inj ?_ (B0k hA), .castR (.castR h Co.gr (hle.trans Le.gr)) .r .any⟩
    cases A' with
    | fn _ _ => exact .pf hv'
    | pr _ _ => exact .pp hv'
    | any => exact absurd rfl hA
    | int => exact absurd rfl hg
    | bool => exact absurd rfl hg
  ·cases hc with
   | l => exact absurd rfl hA
   | r => exact absurd rfl hB
   | int => exact ⟨v', .one (.cid hv' (.inr (.inl rfl))), hv', h⟩
   | bool => exact ⟨v', .one (.cid hv' (.inr (.inr rfl))), hv', h⟩
   | fn h1 h2 => exact ⟨_, .refl, .pf hv', .castR h (.fn h1 h2) hl⟩
   | pr h1 h2 => exact ⟨_, .refl, .pp hv', .castR h (.pr h1 h2) hl⟩
theorem A12 {Γ : GC} {e e' : GE} {A A' : GT} (h : GP Γ e e' A A') : Γ = S7 → GV e → ∃ v', Ss e' v' ∧ GV v' ∧ GP S7 e v' A A' := by
 induction h with
 | var _ _ => intro _ hv; cases hv
 | num => intro _ _; exact ⟨_, .refl, .num, .num⟩
 | tru => intro _ _; exact ⟨_, .refl, .tru, .tru⟩
 | lam hl h _ => intro hE _; subst hE; exact ⟨_, .refl, .lam, .lam hl h⟩
 | app _ _ _ _ => intro _ hv; cases hv
 | ar _ _ _ _ => intro _ hv; cases hv
 | ite _ _ _ _ _ _ => intro _ hv; cases hv
 | part _ _ => intro _ hv; cases hv
 | pair _ _ i j =>
  intro hE hv
  cases hv with
  | pair va vb =>
   obtain ⟨a', s1, v1, p1⟩ := i hE va
   obtain ⟨b', s2, v2, p2⟩ := j hE vb
   exact ⟨.pair a' b', (s1.ctx (fun x => .pair x _) fun _ _ => .pair1).trans (s2.ctx (fun x => .pair a' x) fun _ _ s => .pair2 v1 s), .pair v1 v2, .pair p1 p2⟩
 | castL _ h1 h2 i =>
  intro hE hv
  obtain ⟨v', s, hv', p⟩ := i hE hv.ofCast
  exact ⟨v', s, hv', .castL p h1 h2⟩
 | castR _ h1 h2 i =>
  intro hE hv
  obtain ⟨v', s, hv', p⟩ := i hE hv
  obtain ⟨u, s2, hu, p2⟩ := A55 _ hv hv' p h2 h1
  exact ⟨u, (A2p s).trans s2, hu, p2⟩
 | @castB Γ e e' A B A' B' l l' _ h1 h2 h3 i =>
  intro hE hv
  obtain ⟨w', s, hw', p⟩ := i hE hv.ofCast
  by_cases hB : B' = .any
  ·subst hB
   obtain ⟨u, s2, hu, p2⟩ := A55 l' hv.ofCast hw' p .any h2
   exact ⟨u, (A2p s).trans s2, hu, .castL p2 h1 .any⟩
  ·by_cases hA : A' = .any
   ·subst hA
    obtain ⟨u, s2, hu, p2⟩ := A55 l' hv hw' (.castL p h1 .any) h3 h2
    exact ⟨u, (A2p s).trans s2, hu, p2⟩
   ·have hle := p.le
    refine ⟨.cast A' B' l' w', A2p s, ?_, .castB p h1 h2 h3⟩
    cases hv with
    | inj _ _ => cases h3; exact absurd rfl hB
    | pf _ =>
     cases h3 with
     | any => exact absurd rfl hB
     | fn _ _ => cases hle with
      | any => exact absurd rfl hA
      | fn _ _ => exact .pf hw'
    | pp _ =>
     cases h3 with
     | any => exact absurd rfl hB
     | pr _ _ => cases hle with
      | any => exact absurd rfl hA
      | pr _ _ => exact .pp hw'
theorem B5k {Γ : GC} {f f' : GE} {U U' : GT} (h : GP Γ f f' U U') : ∀ {A B A' B' : GT}, Γ = S7 → U = .fn A B → U' = .fn A' B' → GV f → GV f' →
  ∀ {v v' r : GE}, GV v → GV v' → GP S7 v v' A A' → GS (.app f v) r → ∃ r', Ss (.app f' v') r' ∧ GP S7 r r' B B' := by
 induction h with
 | lam hl h _ =>
  intro A B A' B' hE hU hU' _ _ v v' r hv hv' hp s
  subst hE
  cases hU; cases hU'
  cases s with
  | app1 s => exact absurd s (GV.lam.noS _)
  | app2 _ s => exact absurd s (hv.noS _)
  | beta _ => exact ⟨_, .one (.beta hv'), GP.sub hp h (fun y hy => by unfold gup; rw [if_neg hy]) (by unfold gup; rw [if_pos rfl])⟩
 | castL h h1 h2 _ =>
  intro A B A' B' hE hU hU' hf hf' v v' r hv hv' hp s
  subst hE hU hU'
  cases hf with
  | pf hw =>
   cases s with
   | app1 s => exact absurd s ((GV.pf hw).noS _)
   | app2 _ s => exact absurd s (hv.noS _)
   | appx _ _ =>
    cases h1 with
    | fn c1 c2 =>
     have hle := h.le
     cases hle with
     | fn l1 l2 =>
      cases h2 with
      | fn l3 l4 => exact ⟨_, .refl, .castL (.app h (.castL hp c1.symm l1)) c2 l4⟩
 | @castR Γ0 f0 w' U0 C' D' l h h1 h2 i =>
  intro A B A' B' hE hU hU' hf hf' v v' r hv hv' hp s
  subst hE hU hU'
  cases hf' with
  | pf hw =>
   cases h1 with
   | fn c1 c2 =>
    have hle := h.le
    cases hle with
    | fn l1 l2 =>
     cases h2 with
     | fn l3 l4 =>
      obtain ⟨v'', s2, hv'', p2⟩ := A55 (-l) hv hv' hp l1 c1.symm
      obtain ⟨r', s3, p3⟩ := i rfl rfl rfl hf hw hv hv'' p2 s
      exact ⟨_, .step (.appx hw hv') (A2p ((s2.ctx (fun x => .app w' x) fun _ _ s => .app2 hw s).trans s3)), .castR p3 c2 l4⟩
 | castB h h1 h1' h2 _ =>
  intro A B A' B' hE hU hU' hf hf' v v' r hv hv' hp s
  subst hE hU hU'
  cases hf with
  | pf hw =>
   cases hf' with
   | pf hw' =>
    cases s with
    | app1 s => exact absurd s ((GV.pf hw).noS _)
    | app2 _ s => exact absurd s (hv.noS _)
    | appx _ _ =>
     cases h1 with
     | fn c1 c2 => cases h1' with
      | fn d1 d2 =>
       have hle := h.le
       cases hle with
       | fn l1 l2 =>
        cases h2 with
        | fn l3 l4 => exact ⟨_, .one (.appx hw' hv'), .castB (.app h (.castB hp c1.symm d1.symm l1)) c2 d2 l4⟩
 | app _ _ _ _ => intro _ _ _ _ _ _ _ hf; cases hf
 | ite _ _ _ _ _ _ => intro _ _ _ _ _ _ _ hf; cases hf
 | part _ _ => intro _ _ _ _ _ _ _ hf; cases hf
 | ar _ _ _ _ => intro _ _ _ _ _ _ _ hf; cases hf
 | var hx _ => intro _ _ _ _ hE; subst hE; cases hx
 | _ => intro _ _ _ _ _ hU; cases hU
theorem B5l {Γ : GC} {f f' : GE} {U U' : GT} (h : GP Γ f f' U U') : ∀ {A B A' B' : GT} {t : Bool}, Γ = S7 → U = .pr A B → U' = .pr A' B' → GV f → GV f' →
  ∀ {r : GE}, GS (.part t f) r → ∃ r', Ss (.part t f') r' ∧ GP S7 r r' (if t = true then B else A) (if t = true then B' else A') := by
 induction h with
 | pair ha hb _ _ =>
  intro A B A' B' t hE hU hU' hf hf' r s
  subst hE
  cases hU; cases hU'
  cases hf' with
  | pair va vb =>
   cases s with
   | part1 s => exact absurd s (hf.noS _)
   | part _ _ => exact ⟨_, .one (.part va vb), by cases t <;> assumption⟩
 | castL h h1 h2 _ =>
  intro A B A' B' t hE hU hU' hf hf' r s
  subst hE hU hU'
  cases hf with
  | pp hw =>
   cases s with
   | part1 s => exact absurd s ((GV.pp hw).noS _)
   | partx _ =>
    cases h1 with
    | pr c1 c2 =>
     have hle := h.le
     cases hle with
     | pr l1 l2 =>
      cases h2 with
      | pr l3 l4 => exact ⟨_, .refl, .castL (.part h) (by cases t <;> assumption) (by cases t <;> assumption)⟩
 | castR h h1 h2 i =>
  intro A B A' B' t hE hU hU' hf hf' r s
  subst hE hU hU'
  cases hf' with
  | pp hw =>
   cases h1 with
   | pr c1 c2 =>
    have hle := h.le
    cases hle with
    | pr l1 l2 =>
     cases h2 with
     | pr l3 l4 =>
      obtain ⟨r', s3, p3⟩ := i rfl rfl rfl hf hw s
      exact ⟨_, .step (.partx hw) (A2p s3), .castR p3 (by cases t <;> assumption) (by cases t <;> assumption)⟩
 | castB h h1 h1' h2 _ =>
  intro A B A' B' t hE hU hU' hf hf' r s
  subst hE hU hU'
  cases hf with
  | pp hw =>
   cases hf' with
   | pp hw' =>
    cases s with
    | part1 s => exact absurd s ((GV.pp hw).noS _)
    | partx _ =>
     cases h1 with
     | pr c1 c2 => cases h1' with
      | pr d1 d2 =>
       cases h2 with
       | pr l3 l4 => exact ⟨_, .one (.partx hw'), .castB (.part h) (by cases t <;> assumption) (by cases t <;> assumption) (by cases t <;> assumption)⟩
 | app _ _ _ _ => intro _ _ _ _ _ _ _ _ hf; cases hf
 | ite _ _ _ _ _ _ => intro _ _ _ _ _ _ _ _ hf; cases hf
 | part _ _ => intro _ _ _ _ _ _ _ _ hf; cases hf
 | ar _ _ _ _ => intro _ _ _ _ _ _ _ _ hf; cases hf
 | var hx _ => intro _ _ _ _ _ hE; subst hE; cases hx
 | _ => intro _ _ _ _ _ _ hU; cases hU
theorem B0m {e' : GE} {n : Int} {A A' : GT} (h : GP S7 (.num n) e' A A') (hv : GV e') : A' = .int → e' = .num n := by
 intro hA
 cases h with
 | num => rfl
 | castR _ _ _ => subst hA; cases hv
theorem B5m {e' : GE} {b : Bool} {A A' : GT} (h : GP S7 (.tru b) e' A A') (hv : GV e') : A' = .bool → e' = .tru b := by
 intro hA
 cases h with
 | tru => rfl
 | castR _ _ _ => subst hA; cases hv
theorem B0n {G : GT} {m : Int} {w v' : GE} (h : GP S7 (.cast G .any m w) v' .any .any) (hv' : GV v') : GP S7 w v' G .any := by
 cases h with
 | castL h _ _ => exact h
 | castR h _ _ =>
  have := h.le
  cases this
  cases hv' with
  | inj _ hg => exact absurd rfl hg.1
 | castB h _ hc _ => exact .castR h hc .any
theorem sim {Γ : GC} {e e' : GE} {A A' : GT} (h : GP Γ e e' A A') : Γ = S7 → ∀ {r : GE}, GS e r → ∃ r', Ss e' r' ∧ GP S7 r r' A A' := by
 induction h with
 | var _ _ => intro _ r s; cases s
 | num => intro _ r s; cases s
 | tru => intro _ r s; cases s
 | lam _ _ _ => intro _ r s; cases s
 | @app Γ f f' a a' A A' B B' hf ha i j =>
  intro hE r s
  have go : GV f → GV a → ∃ r', Ss (.app f' a') r' ∧ GP S7 r r' B B' := by
   intro vf va
   obtain ⟨F', s1, v1, p1⟩ := A12 hf hE vf
   obtain ⟨V', s2, v2, p2⟩ := A12 ha hE va
   obtain ⟨r', s3, p3⟩ := B5k p1 rfl rfl rfl vf v1 va v2 p2 s
   exact ⟨r', ((s1.ctx (fun x => .app x a') fun _ _ => .app1).trans (s2.ctx (fun x => .app F' x) fun _ _ s => .app2 v1 s)).trans s3, p3⟩
  cases s with
  | app1 s =>
   obtain ⟨r', s1, p⟩ := i hE s
   subst hE
   exact ⟨.app r' a', s1.ctx (fun x => .app x a') fun _ _ => .app1, .app p ha⟩
  | app2 vf s =>
   obtain ⟨F', s1, v1, p1⟩ := A12 hf hE vf
   obtain ⟨r', s2, p⟩ := j hE s
   exact ⟨.app F' r', (s1.ctx (fun x => .app x a') fun _ _ => .app1).trans (s2.ctx (fun x => .app F' x) fun _ _ s => .app2 v1 s), .app p1 p⟩
  | beta va => exact go .lam va
  | appx vf va => exact go (.pf vf) va
 | @ar Γ t a a' b b' ha hb i j =>
  intro hE r s
  cases s with
  | ar1 s =>
   obtain ⟨r', s1, p⟩ := i hE s
   subst hE
   exact ⟨.ar t r' b', s1.ctx (fun x => .ar t x b') fun _ _ => .ar1, .ar p hb⟩
  | ar2 va s =>
   obtain ⟨A', s1, v1, p1⟩ := A12 ha hE va
   obtain ⟨r', s2, p⟩ := j hE s
   exact ⟨.ar t A' r', (s1.ctx (fun x => .ar t x b') fun _ _ => .ar1).trans (s2.ctx (fun x => .ar t A' x) fun _ _ s => .ar2 v1 s), .ar p1 p⟩
  | ar =>
   obtain ⟨A', s1, v1, p1⟩ := A12 ha hE .num
   obtain ⟨B', s2, v2, p2⟩ := A12 hb hE .num
   obtain rfl := B0m p1 v1 rfl
   obtain rfl := B0m p2 v2 rfl
   refine ⟨_, ((s1.ctx (fun x => .ar t x b') fun _ _ => .ar1).trans (s2.ctx (fun x => .ar t _ x) fun _ _ s => .ar2 v1 s)).trans (.one .ar), ?_⟩
   unfold A2o
   cases t
   ·exact .num
   ·exact .tru
 | @ite Γ c c' a a' b b' A A' hc ha hb i _ _ =>
  intro hE r s
  cases s with
  | ite1 s =>
   obtain ⟨r', s1, p⟩ := i hE s
   subst hE
   exact ⟨.ite r' a' b', s1.ctx (fun x => .ite x a' b') fun _ _ => .ite1, .ite p ha hb⟩
  | ite =>
   obtain ⟨A', s1, v1, p1⟩ := A12 hc hE .tru
   obtain rfl := B5m p1 v1 rfl
   subst hE
   refine ⟨_, (s1.ctx (fun x => .ite x a' b') fun _ _ => .ite1).trans (.one .ite), ?_⟩
   split
   ·exact ha
   ·exact hb
 | @pair Γ a a' b b' A A' B B' ha hb i j =>
  intro hE r s
  cases s with
  | pair1 s =>
   obtain ⟨r', s1, p⟩ := i hE s
   subst hE
   exact ⟨.pair r' b', s1.ctx (fun x => .pair x b') fun _ _ => .pair1, .pair p hb⟩
  | pair2 va s =>
   obtain ⟨A', s1, v1, p1⟩ := A12 ha hE va
   obtain ⟨r', s2, p⟩ := j hE s
   exact ⟨.pair A' r', (s1.ctx (fun x => .pair x b') fun _ _ => .pair1).trans (s2.ctx (fun x => .pair A' x) fun _ _ s => .pair2 v1 s), .pair p1 p⟩
 | @part Γ t e e' A A' B B' h i =>
  intro hE r s
  have go : GV e → ∃ r', Ss (.part t e') r' ∧ GP S7 r r' (if t = true then B else A) (if t = true then B' else A') := by
   intro ve
   obtain ⟨E', s1, v1, p1⟩ := A12 h hE ve
   obtain ⟨r', s3, p3⟩ := B5l p1 rfl rfl rfl ve v1 s
   exact ⟨r', (s1.ctx (fun x => .part t x) fun _ _ => .part1).trans s3, p3⟩
  cases s with
  | part1 s =>
   obtain ⟨r', s1, p⟩ := i hE s
   exact ⟨.part t r', s1.ctx (fun x => .part t x) fun _ _ => .part1, .part p⟩
  | part va vb => exact go (.pair va vb)
  | partx v => exact go (.pp v)
 | @castL Γ e e' A B A' l h h1 h2 i =>
  intro hE r s
  have hle := h.le
  cases s with
  | cast1 s =>
   obtain ⟨r', s1, p⟩ := i hE s
   exact ⟨r', s1, .castL p h1 h2⟩
  | cid v _ => subst hE; exact ⟨e', .refl, h⟩
  | up v hA hg =>
   subst hE
   cases h2
   exact ⟨e', .refl, .castL (.castL h Co.gr .any) .r .any⟩
  | down v hB hg =>
   subst hE
   cases hle
   exact ⟨e', .refl, .castL (.castL h .l .any) Co.gr.symm .any⟩
  | hit v hg =>
   obtain ⟨v', s1, v1, p1⟩ := A12 h hE (.inj v hg)
   cases hle
   exact ⟨v', s1, B0n p1 v1⟩
 | @castR Γ e e' A A' B' l h h1 h2 i =>
  intro hE r s
  obtain ⟨r', s1, p⟩ := i hE s
  exact ⟨_, A2p s1, .castR p h1 h2⟩
 | @castB Γ e e' A B A' B' l l' h h1 h1' h2 i =>
  intro hE r s
  have hle := h.le
  cases s with
  | cast1 s =>
   obtain ⟨r', s1, p⟩ := i hE s
   exact ⟨_, A2p s1, .castB p h1 h1' h2⟩
  | cid v _ => subst hE; exact ⟨_, .refl, .castR h h1' h2⟩
  | up v hA hg =>
   subst hE
   cases h2
   exact ⟨_, .refl, .castL (.castL (.castR h h1' .any) Co.gr .any) .r .any⟩
  | down v hB hg =>
   subst hE
   cases hle
   exact ⟨_, .refl, .castR (.castL (.castL h .l .any) Co.gr.symm .any) .l h2⟩
  | hit v hg =>
   obtain ⟨v', s1, v1, p1⟩ := A12 h hE (.inj v hg)
   cases hle
   exact ⟨_, A2p s1, .castR (B0n p1 v1) .l h2⟩
inductive GX where
 | n (n : Int) | b (b : Bool) | p | f
def GE.tx : GE → GX
 | .num n => .n n
 | .tru b => .b b
 | .pair _ _ => .p
 | .cast _ (.fn _ _) _ _ => .f
 | .cast _ (.pr _ _) _ _ => .p
 | .cast _ _ _ e => e.tx
 | _ => .f
def GT.ty : GT → Ty
 | .any => .mk 1 []
 | .int => .mk 2 []
 | .bool => .mk 3 []
 | .fn a b => .mk 4 [a.ty, b.ty]
 | .pr a b => .mk 5 [a.ty, b.ty]
def GE.tm : GE → Tm
 | .var x => .mk 1 x 0 B4 B4 0 []
 | .num n => .mk 2 ⟨#[]⟩ n B4 B4 0 []
 | .tru b => .mk (if b = true then 3 else 4) ⟨#[]⟩ 0 B4 B4 0 []
 | .lam x A e => .mk 5 x 0 A.ty B4 0 [e.tm]
 | .app f a => .mk 6 ⟨#[]⟩ 0 B4 B4 0 [f.tm, a.tm]
 | .ar s a b => .mk (if s = true then 8 else 7) ⟨#[]⟩ 0 B4 B4 0 [a.tm, b.tm]
 | .ite c a b => .mk 9 ⟨#[]⟩ 0 B4 B4 0 [c.tm, a.tm, b.tm]
 | .pair a b => .mk 10 ⟨#[]⟩ 0 B4 B4 0 [a.tm, b.tm]
 | .part s e => .mk (if s = true then 12 else 11) ⟨#[]⟩ 0 B4 B4 0 [e.tm]
 | .cast A B l e => .mk 14 ⟨#[]⟩ 0 B.ty A.ty l [e.tm]
theorem GT.inj : ∀ {a b : GT}, a.ty = b.ty → a = b := by
 intro a
 induction a with
 | any => intro b h; cases b <;> first | rfl | (simp [GT.ty] at h)
 | int => intro b h; cases b <;> first | rfl | (simp [GT.ty] at h)
 | bool => intro b h; cases b <;> first | rfl | (simp [GT.ty] at h)
 | fn a1 a2 i j =>
  intro b h
  cases b with
  | fn b1 b2 => simp only [GT.ty, Ty.mk.injEq, List.cons.injEq, true_and, and_true] at h; rw [i h.1, j h.2]
  | _ => simp [GT.ty] at h
 | pr a1 a2 i j =>
  intro b h
  cases b with
  | pr b1 b2 => simp only [GT.ty, Ty.mk.injEq, List.cons.injEq, true_and, and_true] at h; rw [i h.1, j h.2]
  | _ => simp [GT.ty] at h
theorem B0o (a : GT) : A1J a.ty = a.gr.ty := by cases a <;> rfl
theorem A2q {a : GT} : a.ty.k = 1 ↔ a = .any := by cases a <;> simp [GT.ty, Ty.k]
theorem A39 {a : GT} : A0h a.ty = true ↔ a.Gd := by
 unfold A0h GT.Gd
 rw [Bool.and_eq_true, decide_eq_true_eq, A2l, B0o, Ne, A2q]
 constructor
 ·rintro ⟨h1, h2⟩; exact ⟨h1, (GT.inj h2).symm⟩
 ·rintro ⟨h1, h2⟩; exact ⟨h1, by rw [h2]⟩
theorem B5n {a : GT} (h : ¬a.Gd) : A0h a.ty = false := by
 cases h2 : A0h a.ty with
 | false => rfl
 | true => exact absurd (A39.1 h2) h
theorem U6 : ∀ e : GE, H7 e.tm = true ↔ GV e := by
 intro e
 induction e with
 | var x => rw [GE.tm, H7]; simp; intro h; cases h
 | num n => rw [GE.tm, H7]; simp; exact .num
 | tru b => rw [GE.tm, H7]; cases b <;> (simp; exact .tru)
 | lam x A e _ => rw [GE.tm, H7]; simp; exact .lam
 | app f a _ _ => rw [GE.tm, H7]; simp; intro h; cases h
 | ar s a b _ _ => rw [GE.tm, H7]; cases s <;> (simp; intro h; cases h)
 | ite c a b _ _ _ => rw [GE.tm, H7]; simp; intro h; cases h
 | pair a b i j =>
  rw [GE.tm, H7, if_pos (.inl rfl), A11, A11, A11, Bool.and_true, Bool.and_eq_true, i, j]
  exact ⟨fun h => .pair h.1 h.2, fun h => by cases h with | pair a b => exact ⟨a, b⟩⟩
 | part s e _ => rw [GE.tm, H7]; cases s <;> (simp; intro h; cases h)
 | cast A B l e i =>
  rw [GE.tm, H7]
  by_cases hp : A.ty.k = B.ty.k ∧ (B.ty.k = 4 ∨ B.ty.k = 5)
  ·rw [if_pos (.inr (.inl ⟨rfl, hp⟩)), A11, A11, Bool.and_true, i]
   constructor
   ·intro h
    cases B <;> cases A <;> first | exact .pf h | exact .pp h | (exfalso; simp [GT.ty, Ty.k] at hp)
   ·intro h; exact h.ofCast
  ·by_cases hi : B.ty.k = 1 ∧ A0h A.ty = true
   ·rw [if_pos (.inr (.inr ⟨rfl, hi⟩)), A11, A11, Bool.and_true, i]
    constructor
    ·intro h
     obtain rfl := A2q.1 hi.1
     exact .inj h (A39.1 hi.2)
    ·intro h; exact h.ofCast
   ·rw [if_neg (by rintro (h | h | h); exact absurd h zQ0; exact hp h.2; exact hi h.2)]
    constructor
    ·intro h; exact absurd (of_decide_eq_true h) zQ0
    ·intro h
     exfalso
     cases h with
     | pf _ => exact hp ⟨rfl, .inl rfl⟩
     | pp _ => exact hp ⟨rfl, .inr rfl⟩
     | inj _ hg => exact hi ⟨rfl, A39.2 hg⟩
theorem A56 {e : GE} (h : ¬GV e) : H7 e.tm = false := by
 cases h2 : H7 e.tm with
 | false => rfl
 | true => exact absurd ((U6 e).1 h2) h
theorem nv {e r : GE} (h : GS e r) : H7 e.tm = false := A56 fun hv => hv.noS _ h
theorem B0p (x : ByteArray) (v : GE) : ∀ e : GE, (e.sub x v).tm = A0o x v.tm e.tm := by
 intro e
 induction e with
 | var y =>
  rw [GE.sub, GE.tm, A0o]
  by_cases h : y = x
  ·rw [if_pos h, if_pos ⟨rfl, h⟩]
  ·rw [if_neg h, if_neg (fun c => h c.2), if_neg (by rintro ⟨h, _⟩; exact absurd h zQ0), GE.tm, A0i]
 | num n => rw [GE.sub, GE.tm, A0o]; simp [A0i]
 | tru b => rw [GE.sub, GE.tm, A0o]; cases b <;> simp [A0i]
 | lam y A e i =>
  by_cases h : y = x
  ·rw [GE.sub, if_pos h, GE.tm, A0o, if_neg (by rintro ⟨h, _⟩; exact absurd h zQ0), if_pos ⟨rfl, h⟩]
  ·rw [GE.sub, if_neg h, GE.tm, GE.tm, A0o, if_neg (by rintro ⟨h, _⟩; exact absurd h zQ0), if_neg (fun c => h c.2), i, A0i, A0i]
 | app f a i j => rw [GE.sub, GE.tm, GE.tm, A0o, i, j]; simp [A0i]
 | ar s a b i j => rw [GE.sub, GE.tm, GE.tm, A0o, i, j]; cases s <;> simp [A0i]
 | ite c a b i j k => rw [GE.sub, GE.tm, GE.tm, A0o, i, j, k]; simp [A0i]
 | pair a b i j => rw [GE.sub, GE.tm, GE.tm, A0o, i, j]; simp [A0i]
 | part s e i => rw [GE.sub, GE.tm, GE.tm, A0o, i]; cases s <;> simp [A0i]
 | cast A B l e i => rw [GE.sub, GE.tm, GE.tm, A0o, i]; simp [A0i]
section
variable {k : Int} {nm : ByteArray} {num : Int} {ty fr : Ty} {lb : Int} {a b c : Tm} {t : Tm} {l : Int}
theorem A4a (h : H7 a = false) (ks : List Tm) (hn : k = 9 ∨ ks.length < 3) (r : Tm) (hs : K3 a = (r, 1, 0)) : K3 (.mk k nm num ty fr lb (a :: ks)) = (.mk k nm num ty fr lb (r :: ks), 1, 0) := by
 have : ∃ n, (if k = 9 then 1 else (a :: ks).length) = n + 1 := ⟨if k = 9 then 0 else ks.length, by split <;> simp⟩
 obtain ⟨n, hn⟩ := this
 rw [K3, hn, Y8, if_neg (by rw [h]; decide), hs]
 simp
theorem B5o (h : H7 a = false) (ks : List Tm) (hs : (K3 a).2.1 = 2) : (K3 (.mk k nm num ty fr lb (a :: ks))).2.1 = 2 := by
 have : ∃ n, (if k = 9 then 1 else (a :: ks).length) = n + 1 := ⟨if k = 9 then 0 else ks.length, by split <;> simp⟩
 obtain ⟨n, hn⟩ := this
 rw [K3, hn, Y8, if_neg (by rw [h]; decide), hs]
 simp
theorem A7H (h0 : H7 a = true) (h : H7 b = false) (hk : k ≠ 9) (r : Tm) (hs : K3 b = (r, 1, 0)) : K3 (.mk k nm num ty fr lb [a, b]) = (.mk k nm num ty fr lb [a, r], 1, 0) := by
 rw [K3, if_neg hk]
 simp only [List.length_cons, List.length_nil, Y8, h0, h, if_true, hs]
 simp
theorem B5p (h0 : H7 a = true) (h : H7 b = false) (hk : k ≠ 9) (hs : (K3 b).2.1 = 2) : (K3 (.mk k nm num ty fr lb [a, b])).2.1 = 2 := by
 rw [K3, if_neg hk]
 simp only [List.length_cons, List.length_nil, Y8, h0, h, if_true, hs]
 simp
theorem A3H (h : H7 a = true) : K3 (.mk k nm num ty fr lb [a]) = A0w k ty fr lb [a] := by
 rw [K3, show (if k = 9 then 1 else [a].length) = 1 by split <;> rfl, Y8, h]
 simp [Y8]
theorem A7I (h : H7 a = true) (h2 : H7 b = true) (hk : k ≠ 9) : K3 (.mk k nm num ty fr lb [a, b]) = A0w k ty fr lb [a, b] := by
 rw [K3, if_neg hk]
 simp [Y8, h, h2]
theorem B5q (h : H7 a = true) : K3 (.mk 9 nm num ty fr lb [a, b, c]) = A0w 9 ty fr lb [a, b, c] := by
 rw [K3, if_pos rfl]
 simp [Y8, h]
end
theorem B0q {e r : GE} (h : GS e r) : K3 e.tm = (r.tm, 1, 0) := by
 induction h with
 | app1 s i => rw [GE.tm, A4a (nv s) _ (.inr zS0) _ i, GE.tm]
 | app2 v s i => rw [GE.tm, A7H ((U6 _).2 v) (nv s) zQ0 _ i, GE.tm]
 | ar1 s i => rw [GE.tm, A4a (nv s) _ (.inr zS0) _ i, GE.tm]
 | @ar2 t _ _ _ v s i => rw [GE.tm, A7H ((U6 _).2 v) (nv s) (by cases t <;> decide) _ i, GE.tm]
 | ite1 s i => rw [GE.tm, A4a (nv s) _ (.inl rfl) _ i, GE.tm]
 | pair1 s i => rw [GE.tm, A4a (nv s) _ (.inr zS0) _ i, GE.tm]
 | pair2 v s i => rw [GE.tm, A7H ((U6 _).2 v) (nv s) zQ0 _ i, GE.tm]
 | part1 s i => rw [GE.tm, A4a (nv s) _ (.inr zS0) _ i, GE.tm]
 | cast1 s i => rw [GE.tm, A4a (nv s) _ (.inr zS0) _ i, GE.tm]
 | beta v =>
  rw [GE.tm, A7I ((U6 _).2 .lam) ((U6 _).2 v) zQ0, B0p]
  rfl
 | appx v w =>
  rw [GE.tm, A7I ((U6 _).2 (.pf v)) ((U6 _).2 w) zQ0]
  rfl
 | @ar t m n =>
  rw [GE.tm, A7I ((U6 _).2 .num) ((U6 _).2 .num) (by cases t <;> decide)]
  cases t
  ·rfl
  ·unfold A2o
   simp only [if_true]
   show (A1L (m < n), (1 : Int), (0 : Int)) = _
   unfold A1L
   by_cases h : m < n
   ·simp only [h, if_true, GE.tm, decide_true]; rfl
   ·simp only [h, if_false, GE.tm, decide_false]; rfl
 | @ite b x y =>
  rw [GE.tm, B5q ((U6 _).2 .tru)]
  cases b <;> rfl
 | @part t a b v w =>
  rw [GE.tm, A3H ((U6 _).2 (.pair v w))]
  cases t <;> rfl
 | @partx t a b c d l e v =>
  rw [GE.tm, A3H ((U6 _).2 (.pp v))]
  cases t <;> rfl
 | @cid A l v hv hA =>
  rw [GE.tm, A3H ((U6 _).2 hv)]
  rcases hA with rfl | rfl | rfl <;> rfl
 | @up A l v hv hA hg =>
  rw [GE.tm, A3H ((U6 _).2 hv)]
  cases A with
  | any => exact absurd rfl hA
  | int => exact absurd rfl hg
  | bool => exact absurd rfl hg
  | _ => rfl
 | @down B l v hv hB hg =>
  rw [GE.tm, A3H ((U6 _).2 hv)]
  have hg' := B5n (a := B) fun h => hg h.2
  unfold A0w
  rw [if_neg zQ0, if_neg zQ0, if_neg zQ0, if_neg zQ0, if_pos rfl, if_neg, if_neg, if_pos hg', B0o]
  ·rfl
  ·rw [A2q]; exact hB
  ·intro h; exact hB (A2q.1 h.symm)
 | @hit G l m w hv hG =>
  rw [GE.tm, A3H ((U6 _).2 (.inj hv hG))]
  have hg' := A39.2 hG
  have hi : inj (GE.tm (.cast G .any m w)) = true := by
   rw [GE.tm]; unfold inj; rw [Bool.and_eq_true]; exact ⟨rfl, hg'⟩
  unfold A0w
  rw [if_neg zQ0, if_neg zQ0, if_neg zQ0, if_neg zQ0, if_pos rfl, if_neg, if_neg, if_neg (by rw [hg']; decide), if_neg (by show ¬inj (GE.tm (.cast G .any m w)) = false; rw [hi]; decide), if_pos]
  ·rfl
  ·rfl
  ·rw [A2q]; exact hG.1
  ·intro h; exact hG.1 (A2q.1 h.symm)
def Bd (e : GE) : Prop := H7 e.tm = false ∧ (K3 e.tm).2.1 = 2
theorem B5r {Γ : GC} {v v' : GE} {U U' : GT} (h : GP Γ v v' U U') : Γ = S7 → GV v → ∀ {A B}, U = .fn A B → (∃ x C e, v = .lam x C e) ∨ ∃ a b c d l e, v = .cast (.fn a b) (.fn c d) l e ∧ GV e := by
 induction h with
 | castR _ _ _ i => exact i
 | castL _ _ _ _ => intro _ hv A B hU; subst hU; cases hv with | pf h => exact .inr ⟨_, _, _, _, _, _, rfl, h⟩
 | castB _ _ _ _ _ => intro _ hv A B hU; subst hU; cases hv with | pf h => exact .inr ⟨_, _, _, _, _, _, rfl, h⟩
 | lam _ _ _ => intro _ _ _ _ _; exact .inl ⟨_, _, _, rfl⟩
 | app _ _ _ _ => intro _ hv; cases hv
 | ite _ _ _ _ _ _ => intro _ hv; cases hv
 | part _ _ => intro _ hv; cases hv
 | ar _ _ _ _ => intro _ hv; cases hv
 | var _ _ => intro _ hv; cases hv
 | _ => intro _ _ _ _ hU; cases hU
theorem B5s {Γ : GC} {v v' : GE} {U U' : GT} (h : GP Γ v v' U U') : Γ = S7 → GV v → ∀ {A B}, U = .pr A B → (∃ a b, v = .pair a b ∧ GV a ∧ GV b) ∨ ∃ a b c d l e, v = .cast (.pr a b) (.pr c d) l e ∧ GV e := by
 induction h with
 | castR _ _ _ i => exact i
 | castL _ _ _ _ => intro _ hv A B hU; subst hU; cases hv with | pp h => exact .inr ⟨_, _, _, _, _, _, rfl, h⟩
 | castB _ _ _ _ _ => intro _ hv A B hU; subst hU; cases hv with | pp h => exact .inr ⟨_, _, _, _, _, _, rfl, h⟩
 | pair _ _ _ _ => intro _ hv _ _ _; cases hv with | pair a b => exact .inl ⟨_, _, rfl, a, b⟩
 | app _ _ _ _ => intro _ hv; cases hv
 | ite _ _ _ _ _ _ => intro _ hv; cases hv
 | part _ _ => intro _ hv; cases hv
 | ar _ _ _ _ => intro _ hv; cases hv
 | var _ _ => intro _ hv; cases hv
 | _ => intro _ _ _ _ hU; cases hU
theorem B0r {Γ : GC} {v v' : GE} {U U' : GT} (h : GP Γ v v' U U') : Γ = S7 → GV v → U = .int → ∃ n, v = .num n := by
 induction h with
 | castR _ _ _ i => exact i
 | castL _ _ _ _ => intro _ hv hU; subst hU; cases hv
 | castB _ _ _ _ _ => intro _ hv hU; subst hU; cases hv
 | num => intro _ _ _; exact ⟨_, rfl⟩
 | app _ _ _ _ => intro _ hv; cases hv
 | ite _ _ _ _ _ _ => intro _ hv; cases hv
 | part _ _ => intro _ hv; cases hv
 | ar _ _ _ _ => intro _ hv; cases hv
 | var _ _ => intro _ hv; cases hv
 | _ => intro _ _ hU; cases hU
theorem B5t {Γ : GC} {v v' : GE} {U U' : GT} (h : GP Γ v v' U U') : Γ = S7 → GV v → U = .bool → ∃ b, v = .tru b := by
 induction h with
 | castR _ _ _ i => exact i
 | castL _ _ _ _ => intro _ hv hU; subst hU; cases hv
 | castB _ _ _ _ _ => intro _ hv hU; subst hU; cases hv
 | tru => intro _ _ _; exact ⟨_, rfl⟩
 | app _ _ _ _ => intro _ hv; cases hv
 | ite _ _ _ _ _ _ => intro _ hv; cases hv
 | part _ _ => intro _ hv; cases hv
 | ar _ _ _ _ => intro _ hv; cases hv
 | var _ _ => intro _ hv; cases hv
 | _ => intro _ _ hU; cases hU
theorem B5u {Γ : GC} {v v' : GE} {U U' : GT} (h : GP Γ v v' U U') : Γ = S7 → GV v → U = .any → ∃ H l w, v = .cast H .any l w ∧ GV w ∧ H.Gd := by
 induction h with
 | castR _ _ _ i => exact i
 | castL _ _ _ _ => intro _ hv hU; subst hU; cases hv with | inj h g => exact ⟨_, _, _, rfl, h, g⟩
 | castB _ _ _ _ _ => intro _ hv hU; subst hU; cases hv with | inj h g => exact ⟨_, _, _, rfl, h, g⟩
 | app _ _ _ _ => intro _ hv; cases hv
 | ite _ _ _ _ _ _ => intro _ hv; cases hv
 | part _ _ => intro _ hv; cases hv
 | ar _ _ _ _ => intro _ hv; cases hv
 | var _ _ => intro _ hv; cases hv
 | _ => intro _ _ hU; cases hU
theorem B0s {e e' : GE} {A B A' : GT} {l : Int} (h : GP S7 e e' A A') (hc : Co A B) (hv : GV e) : GV (.cast A B l e) ∨ (∃ r, GS (.cast A B l e) r) ∨ Bd (.cast A B l e) := by
 by_cases hA : A = .any
 ·subst hA
  by_cases hB : B = .any
  ·subst hB; exact .inr (.inl ⟨_, .cid hv (.inl rfl)⟩)
  ·by_cases hg : B.gr = B
   ·obtain ⟨H, m, w, rfl, hw, hH⟩ := B5u h rfl hv rfl
    by_cases he : H = B
    ·subst he; exact .inr (.inl ⟨_, .hit hw hH⟩)
    ·refine .inr (.inr ⟨A56 (by intro h; cases h; exact hB rfl), ?_⟩)
     have hg' := A39.2 (show B.Gd from ⟨hB, hg⟩)
     have hi : inj (GE.tm (.cast H .any m w)) = true := by
      rw [GE.tm]; unfold inj; rw [Bool.and_eq_true]; exact ⟨rfl, A39.2 hH⟩
     rw [GE.tm, A3H ((U6 _).2 hv)]
     unfold A0w
     rw [if_neg zQ0, if_neg zQ0, if_neg zQ0, if_neg zQ0, if_pos rfl, if_neg, if_neg, if_neg (by rw [hg']; decide), if_neg (by show ¬inj (GE.tm (.cast H .any m w)) = false; rw [hi]; decide), if_neg]
     ·show ¬H.ty.k = B.ty.k
      intro hk
      apply he
      rw [← hH.2, ← hg]
      cases H <;> cases B <;> first | rfl | (simp [GT.ty, Ty.k] at hk)
     ·rw [A2q]; exact hB
     ·intro h; exact hB (A2q.1 h.symm)
   ·exact .inr (.inl ⟨_, .down hv hB hg⟩)
 ·by_cases hB : B = .any
  ·subst hB
   by_cases hg : A.gr = A
   ·exact .inl (.inj hv ⟨hA, hg⟩)
   ·exact .inr (.inl ⟨_, .up hv hA hg⟩)
  ·cases hc with
   | l => exact absurd rfl hA
   | r => exact absurd rfl hB
   | int => exact .inr (.inl ⟨_, .cid hv (.inr (.inl rfl))⟩)
   | bool => exact .inr (.inl ⟨_, .cid hv (.inr (.inr rfl))⟩)
   | fn _ _ => exact .inl (.pf hv)
   | pr _ _ => exact .inl (.pp hv)
theorem A3I {a : GE} (h : Bd a) {e : GE} {k : Int} {nm : ByteArray} {num : Int} {ty fr : Ty} {lb : Int} {ks : List Tm} (he : e.tm = .mk k nm num ty fr lb (a.tm :: ks)) (hv : ¬GV e) : Bd e :=
 ⟨A56 hv, by rw [he]; exact B5o h.1 ks h.2⟩
theorem A7J {a b : GE} (ha : GV a) (h : Bd b) {e : GE} {k : Int} {nm : ByteArray} {num : Int} {ty fr : Ty} {lb : Int} (hk : k ≠ 9) (he : e.tm = .mk k nm num ty fr lb [a.tm, b.tm]) (hv : ¬GV e) : Bd e :=
 ⟨A56 hv, by rw [he]; exact B5p ((U6 _).2 ha) h.1 hk h.2⟩
theorem A57 {e : GE} (h : Bd e) : ¬GV e := fun hv => by have := (U6 e).2 hv; rw [h.1] at this; cases this
theorem B0t {Γ : GC} {e e' : GE} {A A' : GT} (h : GP Γ e e' A A') : Γ = S7 → GV e ∨ (∃ r, GS e r) ∨ Bd e := by
 induction h with
 | var hx _ => intro hE; subst hE; cases hx
 | num => intro _; exact .inl .num
 | tru => intro _; exact .inl .tru
 | lam _ _ _ => intro _; exact .inl .lam
 | app hf ha i j =>
  intro hE
  refine .inr ?_
  rcases i hE with vf | ⟨r, s⟩ | b
  ·rcases j hE with va | ⟨r, s⟩ | b
   ·rcases B5r hf hE vf rfl with ⟨x, C, e, rfl⟩ | ⟨_, _, _, _, _, _, rfl, hw⟩
    ·exact .inl ⟨_, .beta va⟩
    ·exact .inl ⟨_, .appx hw va⟩
   ·exact .inl ⟨_, .app2 vf s⟩
   ·exact .inr (A7J vf b (k := 6) zQ0 rfl (by intro h; cases h))
  ·exact .inl ⟨_, .app1 s⟩
  ·exact .inr (A3I b (k := 6) rfl (by intro h; cases h))
 | @ar Γ t _ _ _ _ ha hb i j =>
  intro hE
  refine .inr ?_
  rcases i hE with va | ⟨r, s⟩ | b
  ·rcases j hE with vb | ⟨r, s⟩ | b
   ·obtain ⟨m, rfl⟩ := B0r ha hE va rfl
    obtain ⟨n, rfl⟩ := B0r hb hE vb rfl
    exact .inl ⟨_, .ar⟩
   ·exact .inl ⟨_, .ar2 va s⟩
   ·exact .inr (A7J va b (k := if t = true then 8 else 7) (by cases t <;> decide) rfl (by intro h; cases h))
  ·exact .inl ⟨_, .ar1 s⟩
  ·exact .inr (A3I b rfl (by intro h; cases h))
 | ite hc _ _ i _ _ =>
  intro hE
  refine .inr ?_
  rcases i hE with vc | ⟨r, s⟩ | b
  ·obtain ⟨m, rfl⟩ := B5t hc hE vc rfl
   exact .inl ⟨_, .ite⟩
  ·exact .inl ⟨_, .ite1 s⟩
  ·exact .inr (A3I b rfl (by intro h; cases h))
 | pair ha hb i j =>
  intro hE
  rcases i hE with va | ⟨r, s⟩ | b
  ·rcases j hE with vb | ⟨r, s⟩ | b
   ·exact .inl (.pair va vb)
   ·exact .inr (.inl ⟨_, .pair2 va s⟩)
   ·exact .inr (.inr (A7J va b (k := 10) zQ0 rfl (by intro h; cases h with | pair _ h => exact A57 b h)))
  ·exact .inr (.inl ⟨_, .pair1 s⟩)
  ·exact .inr (.inr (A3I b rfl (by intro h; cases h with | pair h _ => exact A57 b h)))
 | part h i =>
  intro hE
  refine .inr ?_
  rcases i hE with vc | ⟨r, s⟩ | b
  ·rcases B5s h hE vc rfl with ⟨_, _, rfl, ha, hb⟩ | ⟨_, _, _, _, _, _, rfl, hw⟩
   ·exact .inl ⟨_, .part ha hb⟩
   ·exact .inl ⟨_, .partx hw⟩
  ·exact .inl ⟨_, .part1 s⟩
  ·exact .inr (A3I b rfl (by intro h; cases h))
 | castL h hc _ i =>
  intro hE
  rcases i hE with hv | ⟨r, s⟩ | b
  ·subst hE; exact B0s h hc hv
  ·exact .inr (.inl ⟨_, .cast1 s⟩)
  ·exact .inr (.inr (A3I b rfl (fun h => A57 b h.ofCast)))
 | castR _ _ _ i => exact i
 | castB h hc _ _ i =>
  intro hE
  rcases i hE with hv | ⟨r, s⟩ | b
  ·subst hE; exact B0s h hc hv
  ·exact .inr (.inl ⟨_, .cast1 s⟩)
  ·exact .inr (.inr (A3I b rfl (fun h => A57 b h.ofCast)))
theorem B5v {n : Nat} {e : Tm} (h : (L7 e).2.1 = 1) : T4 (n + 1) e = ((T4 n (L7 e).1).1, (T4 n (L7 e).1).2.1, (T4 n (L7 e).1).2.2.1, (T4 n (L7 e).1).2.2.2 + 1) := by rw [T4, if_pos h]
theorem B0u (G : IM) (p : Option Addr) (n c : Nat) (es : List (List Value)) (h : D7 G p n c 9 es) (h0 : 0 < n) (hn : n ≤ 4294967296) :
  Fn Tryz.prog 150 [.slice p n c] [] G (fun G' v outs => G' = G ∧ ∃ p' c', v = .slice p' n c' ∧ outs = [.slc p' c' 28 9 n es.flatten]) := by
 obtain ⟨hl, hc, hm, hat⟩ := h.sl
 obtain ⟨b, o, full, rfl, hg, hv⟩ := hat.resolve_left zR0
 have ho : ∀ u ∈ es.flatten, u.oneCell' = true := by
  intro u hu
  obtain ⟨e, he, hue⟩ := List.mem_flatten.1 hu
  exact List.all_eq_true.1 (h.one e he) u hue
 refine C0 Tryz.func150 rfl Tryz.ntmps150 Tryz.results150 rfl ?_
 intro w0
 refine E7 ?_
 refine sQ (A8H rfl rfl rfl) rfl ?_
 refine B0 ?_
 (refine J8 (D1 rfl rfl rfl zR0 zL0 rfl) rfl ?_; rintro _ ⟨b18, rfl⟩)
 refine D8 ?_
 refine Y0 rfl rfl rfl rfl rfl (fun _ _ => by repeat (first | exact Sw.here | apply Sw.there)) (A2Z hg hv) hl ho zL0 zR0 rfl (fun pn cn => ?_)
 refine B5 ?_
 refine H8 (rT rfl) A0.refl ?_
 exact ⟨rfl, _, _, by rw [Nat.zero_add], by rw [Nat.zero_add]; rfl⟩
theorem At.mono' {hp : List A7} {G G' : IM} {b o : Nat} {vs : List Value} (hg : B9 G G') (h : At [] G b o vs) : At hp G' b o vs := by
 rcases h with ⟨cs, hm, hv⟩ | ⟨n, c, el, sz, cs, hm, hv⟩ | ⟨full, hx, hv⟩
 ·cases hm
 ·cases hm
 ·exact .inr (.inr ⟨full, hg _ _ hx, hv⟩)
theorem D7.kidD {G : IM} {p : Option Addr} {n c : Nat} {es : List (List Value)} {ks : List Ty} (h : D7 G p n c 2 es) (hk : D9 G ks es) {i : Nat} (hi : i < n) (hn : i < ks.length) :
  ∃ b o q d, p = some ⟨b, o, none⟩ ∧ (∀ hp, At hp G b (o + i * 2) [.int .i64 (ks.getD i B4).k, .slice q (ks.getD i B4).ks.length d]) ∧ C7 G (ks.getD i B4) [.int .i64 (ks.getD i B4).k, .slice q (ks.getD i B4).ks.length d] ∧ G b ≠ none := by
 obtain ⟨b, o, q, d, h1, h2, h3, h4⟩ := h.kidTy hk hi hn
 rw [List.getD_eq_getElem?_getD, List.getElem?_eq_getElem hn, Option.getD_some]
 exact ⟨b, o, q, d, h1, h2, h3, h4⟩
theorem A4b {hs : List Ty} (h : ∀ t ∈ hs, I4 t) {i : Nat} (hi : i < hs.length) : I4 (hs.getD i B4) := by
 rw [List.getD_eq_getElem?_getD, List.getElem?_eq_getElem hi, Option.getD_some]
 exact h _ (List.getElem_mem hi)
def O4 (r : Option (List Ty × Ty)) (G : IM) : IM → Value → List A7 → Prop := N8 fun G' v => ∃ p n c es w cu u, v = .tuple ⟨[.slice p n c, .agg ⟨cu⟩, .bool r.isSome]⟩ ∧ n = w.length ∧ D7 G' p n c 2 es ∧ D9 G' w es ∧ C7 G' u cu ∧ ∀ q, r = some q → q = (w, u)
theorem O4.mk {r : Option (List Ty × Ty)} {G G' : IM} {p : Option Addr} {n c : Nat} {es : List (List Value)} {w : List Ty} {cu : List Value} {u : Ty} {b : Bool} (hl : n = w.length) (hs : Sl G' p n c 2 es.flatten) (hw : D9 G' w es) (hu : C7 G' u cu) (h : r = if b = true then some (w, u) else none) :
  O4 r G G' (.tuple ⟨[.slice p n c, .agg ⟨cu⟩, .bool b]⟩) [] := by
 refine ⟨rfl, p, n, c, es, w, cu, u, ?_, hl, D7.of hs (by rw [hw.len, hl]) hw.all (fun e he => (hw.each e he).2), hw, hu, ?_⟩
 ·subst h; cases b <;> rfl
 ·subst h; cases b
  ·simp
  ·intro q hq; simpa using hq.symm
theorem O4.nil {r : Option (List Ty × Ty)} {G G' : IM} {cu : List Value} {u : Ty} {b : Bool} (hu : C7 G' u cu) (h : r = if b = true then some ([], u) else none) :
  O4 r G G' (.tuple ⟨[.slice none 0 0, .agg ⟨cu⟩, .bool b]⟩) [] := O4.mk (es := []) rfl (Sl.nil _ _) (by simp [D9]) hu h
theorem O4.one {r : Option (List Ty × Ty)} {G G' : IM} {p : Option Addr} {c : Nat} {a : Ty} {ca : List Value} {cu : List Value} {u : Ty} {b : Bool} (hs : Sl G' p 1 c 2 ca) (ha : C7 G' a ca) (hu : C7 G' u cu) (h : r = if b = true then some ([a], u) else none) :
  O4 r G G' (.tuple ⟨[.slice p 1 c, .agg ⟨cu⟩, .bool b]⟩) [] := O4.mk (es := [ca]) (w := [a]) rfl (by simpa using hs) ⟨_, _, rfl, ha, rfl⟩ hu h
theorem O4.two {r : Option (List Ty × Ty)} {G G' : IM} {p : Option Addr} {c : Nat} {a a2 : Ty} {ca ca2 : List Value} {cu : List Value} {u : Ty} {b : Bool} (hs : Sl G' p 2 c 2 (ca ++ ca2)) (ha : C7 G' a ca) (ha2 : C7 G' a2 ca2) (hu : C7 G' u cu) (h : r = if b = true then some ([a, a2], u) else none) :
  O4 r G G' (.tuple ⟨[.slice p 2 c, .agg ⟨cu⟩, .bool b]⟩) [] := O4.mk (es := [ca, ca2]) (w := [a, a2]) rfl (by simpa using hs) ⟨_, _, rfl, ha, _, _, rfl, ha2, rfl⟩ hu h
theorem O4.three {r : Option (List Ty × Ty)} {G G' : IM} {p : Option Addr} {c : Nat} {a a2 a3 : Ty} {ca ca2 ca3 : List Value} {cu : List Value} {u : Ty} {b : Bool} (hs : Sl G' p 3 c 2 (ca ++ (ca2 ++ ca3))) (ha : C7 G' a ca) (ha2 : C7 G' a2 ca2) (ha3 : C7 G' a3 ca3) (hu : C7 G' u cu) (h : r = if b = true then some ([a, a2, a3], u) else none) :
  O4 r G G' (.tuple ⟨[.slice p 3 c, .agg ⟨cu⟩, .bool b]⟩) [] := O4.mk (es := [ca, ca2, ca3]) (w := [a, a2, a3]) rfl (by simpa using hs) ⟨_, _, rfl, ha, _, _, rfl, ha2, _, _, rfl, ha3, rfl⟩ hu h
section
variable {cx : Cx} {nm : ByteArray} {ty : Ty} {h : List Ty}
theorem mW1 : P8 cx 1 nm ty h = match Z5 cx nm with | some t => some ([], t) | none => none := rfl
theorem mW2 : P8 cx 2 nm ty h = some ([], W7) := rfl
theorem A58 {k : Int} (hk : k = 3 ∨ k = 4) : P8 cx k nm ty h = some ([], A0v) := by rcases hk with rfl | rfl <;> rfl
theorem mW5 : P8 cx 5 nm ty h = some ([], .mk 4 [ty, h.getD 0 B4]) := rfl
theorem mW6 : P8 cx 6 nm ty h = match U5 4 (h.getD 0 B4) with | some (a, b) => if N6 (h.getD 1 B4) a = true then some ([.mk 4 [a, b], a], b) else none | none => none := rfl
theorem A0j {k : Int} (hk : k = 7 ∨ k = 8) : P8 cx k nm ty h = if N6 (h.getD 0 B4) W7 = true ∧ N6 (h.getD 1 B4) W7 = true then some ([W7, W7], if k = 8 then A0v else W7) else none := by rcases hk with rfl | rfl <;> rfl
theorem mW9 : P8 cx 9 nm ty h = if N6 (h.getD 0 B4) A0v = true ∧ N6 (h.getD 1 B4) (h.getD 2 B4) = true then some ([A0v, Y2 (h.getD 1 B4) (h.getD 2 B4), Y2 (h.getD 1 B4) (h.getD 2 B4)], Y2 (h.getD 1 B4) (h.getD 2 B4)) else none := rfl
theorem A7K : P8 cx 10 nm ty h = some ([], .mk 5 [h.getD 0 B4, h.getD 1 B4]) := rfl
theorem A4c : P8 cx 13 nm ty h = if N6 (h.getD 0 B4) ty = true then some ([ty], ty) else none := rfl
theorem A44 {k : Int} (hk : k = 11 ∨ k = 12) : P8 cx k nm ty h = match U5 5 (h.getD 0 B4) with | some (a, b) => some ([.mk 5 [a, b]], if k = 12 then b else a) | none => none := by rcases hk with rfl | rfl <;> rfl
end
theorem N9 (G : IM) : C7 G W7 [.int .i64 2, .slice none 0 0] := L9 G ⟨by omega, by omega⟩
theorem A0Y (G : IM) : C7 G A0v [.int .i64 3, .slice none 0 0] := L9 G ⟨by omega, by omega⟩
theorem B5w (cx : Cx) (k : Int) (nm : ByteArray) (num : Int) (ty fr : Ty) (lb : Int) (ks : List Tm) (h : List Ty) (G : IM) (pc : Option Addr) (nc cc : Nat) (cells : List Value) (p : Option Addr) (n c : Nat) (es : List (List Value))
  (hx : W8 G cx pc nc cc) (hops : E8 k = n) (hnl : n = h.length) (hk14 : k ≠ 14) (hta : I4 ty) (hr : B7 G (.mk k nm num ty fr lb ks) cells) (hsl : D7 G p n c 2 es) (hkl : D9 G h es) (har : ∀ t ∈ h, I4 t) :
  Fn Tryz.prog 94 [.slice pc nc cc, .agg ⟨cells⟩, .slice p n c] [] G (O4 (P8 cx k nm ty h) G) := by
 have hone := hr.one
 have hop := A50 hops
 have hkr : 1 ≤ k ∧ k ≤ 14 := by
  apply Classical.byContradiction
  intro hc
  rw [A5G hc] at hops; omega
 obtain ⟨tyk, tyks⟩ := ty
 obtain ⟨fk, fks⟩ := fr
 obtain ⟨pt, ct, pf, cf, pk, ck, ek, rfl, hk, hnum, hlb, hrty, hrfr, _, _⟩ := hr.open9
 refine C0 Tryz.func94 rfl Tryz.ntmps94 Tryz.results94 rfl ?_
 intro w0
 refine A4 ?_
 refine sE (B6 rfl rfl) rfl (fun b3 => ?_)
 refine D8 ?_
 refine sE (A6 rfl) rfl (fun b5 => ?_)
 refine A8 ?_
 refine H4 rfl ((A1B _ _)) rfl rfl ?_
 refine H4 rfl ((A1B _ _)) rfl rfl ?_
 refine sE (A6 rfl) rfl (fun b13 => ?_)
 refine sE (A6 rfl) rfl (fun b14 => ?_)
 refine M7 ?_
 refine C2 (tS (tR (sB (qE rfl rfl) rfl rfl (fun h29 => ?_) (fun h29 => ?_))))
 refine E7 ?_
 (refine F4 rfl (B48 G cx pc nc cc nm hx) rfl rfl (fun v G1 hle1 hh => ?_); obtain ⟨cu, u, rfl, hru, hu⟩ := hh; obtain ⟨p1, c1, e1, rfl, _⟩ := hru.open)
 refine C1 ?_
 refine sE (A6 rfl) rfl (fun b43 => ?_)
 refine A8 ?_
 refine D3 D4 rfl ?_
 refine J3 (i := 0) (l' := [tt,ff,ff,ff,ff]) rfl C8 (A3 rfl rfl) rfl zP0 rfl rfl ?_
 refine aP 1 rfl (qM rfl) rfl ?_
 refine aP 2 rfl (qA rfl) rfl ?_
 refine A2 3 ?_
 refine C9 rfl ?_
 refine aP 4 rfl (qA rfl) rfl ?_
 refine A8 ?_
 refine E9 (rT rfl) (rC rfl (A3 rfl rfl)) (rT rfl) ?_
 (have hk1 : k = 1 := zR0; subst hk1; rw [mW1]; refine O4.nil hru ?_; generalize Z5 cx nm = r at hu ⊢; cases r with | none => rfl | some t => (rw [hu t rfl]; rfl))
 refine A9 ?_
 refine sB (qE rfl rfl) rfl rfl (fun h69 => ?_) (fun h69 => ?_)
 refine A8 ?_
 refine D3 D4 rfl ?_
 refine J3 (i := 0) (l' := [tt,ff,ff,ff]) rfl C8 (A3 rfl rfl) rfl zP0 rfl rfl ?_
 refine aP 1 rfl (qA rfl) rfl ?_
 refine A2 2 ?_
 refine C9 rfl ?_
 refine aP 3 rfl (qA rfl) rfl ?_
 refine A8 ?_
 refine E9 (rT rfl) (rC rfl (A3 rfl rfl)) (rT rfl) ?_
 (have hk1 : k = 2 := zR0; subst hk1; exact O4.nil (N9 _) mW2)
 refine B0 ?_
 refine sB (qE rfl rfl) rfl rfl (fun h95 => ?_) (fun h95 => ?_)
 refine E1 ?_
 exact y106
 refine A8 ?_
 refine sB (qE rfl rfl) rfl rfl (fun h122 => ?_) (fun h122 => ?_)
 refine A8 ?_
 exact y106
 refine A9 ?_
 refine sB (qE rfl rfl) rfl rfl (fun h147 => ?_) (fun h147 => ?_)
 refine A8 ?_
 (have hl1 : n = 1 := hop.2.2 zR0; obtain ⟨b0, o0, q0, d0, hp0, hat0, hre0, hg0⟩ := hsl.kidD hkl (i := 0) zR0 zR0; cases hp0; refine D3 D4 rfl ?_)
 refine J4 (i := 0) (l' := [tt,ff,ff,ff,ff,ff,ff,ff,ff]) rfl C8 (C3 rfl) rfl zP0 rfl rfl ?_
 refine aL 1 rfl (A3 rfl rfl) rfl ?_
 refine aP 2 rfl (qM rfl) rfl ?_
 refine aP 3 rfl (B8 (j := 0) rfl rfl rfl zR0) rfl ?_
 refine aL 4 rfl (A5 rfl rfl (hat0 _) rfl) rfl ?_
 refine A2 5 ?_
 (refine H1 rfl rfl (A2m 4 _ _ _ _ _ ⟨by omega, by omega⟩ hrty hre0) rfl rfl rfl (fun v GB hleB hh => ?_); obtain ⟨cB, rfl, hrB⟩ := hh; obtain ⟨p7, c7, e7, rfl, _⟩ := hrB.open)
 refine aP 6 rfl (qA rfl) rfl ?_
 refine A2 7 ?_
 refine C9 rfl ?_
 refine aP 8 rfl (qA rfl) rfl ?_
 refine A8 ?_
 refine E9 (rT rfl) (rC rfl (A3 rfl rfl)) (rT rfl) ?_
 (have hk1 : k = 5 := zR0; subst hk1; exact O4.nil hrB mW5)
 refine A9 ?_
 refine sB (qE rfl rfl) rfl rfl (fun h178 => ?_) (fun h178 => ?_)
 refine B0 ?_
 (have hl2 : n = 2 := hop.1 zR0; obtain ⟨b0, o0, q0, d0, hp0, hat0, hre0, hg0⟩ := hsl.kidD hkl (i := 0) zR0 zR0; cases hp0; refine sP (B8 (j := 0) rfl rfl rfl zR0) rfl rfl ?_)
 refine sL (A5 rfl rfl (hat0 _) rfl) rfl rfl ?_
 (refine F4 rfl (B0d 4 (h.getD 0 B4) G _ (.inl rfl) (A4b har zR0) hre0) rfl rfl (fun v G1 hle1 hh => ?_); obtain ⟨ma, mca, mb, mcb, rfl, hma, hmb, hma2, hmb2, hmm⟩ := hh; obtain ⟨p1, c1, e1, rfl, _⟩ := hma.open; obtain ⟨p2, c2, e2, rfl, _⟩ := hmb.open; replace hsl := hsl.mono hle1; replace hkl := hkl.mono hle1; generalize hmi : (U5 4 (h.getD 0 B4)).isSome = mi; cases mi)
 refine B5 ?_
 refine sE (A6 rfl) rfl (fun b193 => ?_)
 refine sE (A6 rfl) rfl (fun b194 => ?_)
 refine A9 ?_
 (have hl2 : n = 2 := hop.1 zR0; obtain ⟨b0, o0, q0, d0, hp0, hat0, hre0, hg0⟩ := hsl.kidD hkl (i := 0) zR0 zR0; obtain ⟨b1, o1, q1, d1, hp1, hat1, hre1, hg1⟩ := hsl.kidD hkl (i := 1) zR0 zR0; cases hp0; cases hp1; refine D3 D4 rfl ?_)
 refine J3 (i := 0) (l' := [tt,ff,ff,ff,ff,ff,ff,ff,ff,ff,ff,ff,ff,ff,ff,ff,ff]) rfl C8 (A3 rfl rfl) rfl zP0 rfl rfl ?_
 refine aL 1 rfl (A3 rfl rfl) rfl ?_
 refine aL 3 rfl (A3 rfl rfl) rfl ?_
 refine aL 5 rfl (A3 rfl rfl) rfl ?_
 refine aP 6 rfl (qM rfl) rfl ?_
 refine A2 2 ?_
 (refine H1 rfl rfl (A2m _ ma mb _ _ _ ⟨by omega, by omega⟩ hma hmb) rfl rfl rfl (fun v GB hleB hh => ?_); obtain ⟨cB, rfl, hrB⟩ := hh; obtain ⟨p7, c7, e7, rfl, _⟩ := hrB.open; have hma' := hma.mono hleB; have hmb' := hmb.mono hleB)
 refine aP 7 rfl (qM rfl) rfl ?_
 refine D6 8 rfl rfl rfl ?_
 refine D6 9 rfl rfl rfl ?_
 refine D6 10 rfl rfl rfl ?_
 refine D6 11 rfl rfl rfl ?_
 refine P6 (j := 4) (j' := 12) zP0 ?_ ?_
 (refine D2 rfl (D1 rfl rfl rfl zR0 zL0 rfl) rfl rfl ?_; rintro _ ⟨b215, rfl⟩)
 refine D6 12 rfl rfl rfl ?_
 refine aP 13 rfl (T6 rfl rfl) rfl ?_
 refine aP 14 rfl (qA rfl) rfl ?_
 refine A2 15 ?_
 refine C9 rfl ?_
 refine aP 16 rfl (qA rfl) rfl ?_
 refine A4 ?_
 (refine J6 Pk.here (fun G5 hle5 hsl5 hno5 => ?_))
 refine C1 ?_
 refine E9 (rT rfl) (rC rfl (A3 rfl rfl)) (rT rfl) ?_
 (have hk1 : k = 6 := zR0; subst hk1; refine O4.two hsl5 (hrB.mono hle5) (hma'.mono hle5) (hmb'.mono hle5) ?_; rw [mW6]; cases hq : U5 4 (h.getD 0 B4) with | none => rfl | some q => (rw [hq] at hmi; cases hmi))
 refine A6W (l' := [tt,tt,tt,tt,ff,tt,tt,tt,tt,tt,tt,tt,tt,ff,ff,ff,ff]) rfl rfl rfl rfl ?_
 refine aP 13 rfl (T6 rfl rfl) rfl ?_
 refine A2 4 ?_
 (refine D2 rfl (D1 rfl rfl rfl zR0 zL0 rfl) rfl rfl ?_; rintro _ ⟨b233, rfl⟩)
 refine aP 14 rfl (qA rfl) rfl ?_
 refine A2 15 ?_
 refine C9 rfl ?_
 refine aP 16 rfl (qA rfl) rfl ?_
 refine A4 ?_
 (refine J6 Pk.here (fun G5 hle5 hsl5 hno5 => ?_))
 refine C1 ?_
 refine E9 (rT rfl) (rC rfl (A3 rfl rfl)) (rT rfl) ?_
 (have hk1 : k = 6 := zR0; subst hk1; refine O4.two hsl5 (hrB.mono hle5) (hma'.mono hle5) (hmb'.mono hle5) ?_; rw [mW6]; cases hq : U5 4 (h.getD 0 B4) with | none => rfl | some q => (rw [hq] at hmi; cases hmi))
 refine B5 ?_
 refine sE (A6 rfl) rfl (fun b250 => ?_)
 refine sE (A6 rfl) rfl (fun b251 => ?_)
 refine A9 ?_
 (have hl2 : n = 2 := hop.1 zR0; obtain ⟨b0, o0, q0, d0, hp0, hat0, hre0, hg0⟩ := hsl.kidD hkl (i := 0) zR0 zR0; obtain ⟨b1, o1, q1, d1, hp1, hat1, hre1, hg1⟩ := hsl.kidD hkl (i := 1) zR0 zR0; cases hp0; cases hp1; refine D3 D4 rfl ?_)
 refine J3 (i := 0) (l' := [tt,ff,ff,ff,ff,ff,ff,ff,ff,ff,ff,ff,ff,ff,ff,ff,ff]) rfl C8 (A3 rfl rfl) rfl zP0 rfl rfl ?_
 refine aL 1 rfl (A3 rfl rfl) rfl ?_
 refine aL 3 rfl (A3 rfl rfl) rfl ?_
 refine aL 5 rfl (A3 rfl rfl) rfl ?_
 refine aP 6 rfl (qM rfl) rfl ?_
 refine A2 2 ?_
 (refine H1 rfl rfl (A2m _ ma mb _ _ _ ⟨by omega, by omega⟩ hma hmb) rfl rfl rfl (fun v GB hleB hh => ?_); obtain ⟨cB, rfl, hrB⟩ := hh; obtain ⟨p7, c7, e7, rfl, _⟩ := hrB.open; have hma' := hma.mono hleB; have hmb' := hmb.mono hleB)
 refine aP 7 rfl (qM rfl) rfl ?_
 refine aP 8 rfl (qM rfl) rfl ?_
 refine aP 9 rfl (B8 (j := 1) rfl rfl rfl zR0) rfl ?_
 refine aL 10 rfl (A5 rfl rfl (At.mono' hleB (hat1 _)) rfl) rfl ?_
 refine aL 11 rfl (A3 rfl rfl) rfl ?_
 refine P6 (j := 4) (j' := 12) zP0 ?_ ?_
 (refine D2 rfl (D1 rfl rfl rfl zR0 zL0 rfl) rfl rfl ?_; rintro _ ⟨b272, rfl⟩)
 refine A2 12 ?_
 refine A0g rfl rfl ((A0L _ _ _ _ _ (hre1.mono hleB) hma')) rfl rfl rfl (fun h274 => ?_) (fun h274 => ?_)
 refine aP 13 rfl (R8 rfl rfl) rfl ?_
 refine aP 14 rfl (qA rfl) rfl ?_
 refine A2 15 ?_
 refine C9 rfl ?_
 refine aP 16 rfl (qA rfl) rfl ?_
 refine A4 ?_
 (refine J6 Pk.here (fun G5 hle5 hsl5 hno5 => ?_))
 refine C1 ?_
 refine E9 (rT rfl) (rC rfl (A3 rfl rfl)) (rT rfl) ?_
 (have hk1 : k = 6 := zR0; subst hk1; refine O4.two hsl5 (hrB.mono hle5) (hma'.mono hle5) (hmb'.mono hle5) ?_; rw [mW6]; cases hq : U5 4 (h.getD 0 B4) with | none => (rw [hq] at hmi; cases hmi) | some q => (have hq2 := hmm q hq; subst hq2; dsimp only; split <;> first | rfl | (exfalso; simp_all; done)))
 refine aP 13 rfl (R8 rfl rfl) rfl ?_
 refine aP 14 rfl (qA rfl) rfl ?_
 refine A2 15 ?_
 refine C9 rfl ?_
 refine aP 16 rfl (qA rfl) rfl ?_
 refine A4 ?_
 (refine J6 Pk.here (fun G5 hle5 hsl5 hno5 => ?_))
 refine C1 ?_
 refine E9 (rT rfl) (rC rfl (A3 rfl rfl)) (rT rfl) ?_
 (have hk1 : k = 6 := zR0; subst hk1; refine O4.two hsl5 (hrB.mono hle5) (hma'.mono hle5) (hmb'.mono hle5) ?_; rw [mW6]; cases hq : U5 4 (h.getD 0 B4) with | none => (rw [hq] at hmi; cases hmi) | some q => (have hq2 := hmm q hq; subst hq2; dsimp only; split <;> first | rfl | (exfalso; simp_all; done)))
 refine A0g rfl rfl ((A0L _ _ _ _ _ (hre1.mono hleB) hma')) rfl rfl rfl (fun h301 => ?_) (fun h301 => ?_)
 refine aP 13 rfl (R8 rfl rfl) rfl ?_
 refine A2 4 ?_
 (refine D2 rfl (D1 rfl rfl rfl zR0 zL0 rfl) rfl rfl ?_; rintro _ ⟨b304, rfl⟩)
 refine aP 14 rfl (qA rfl) rfl ?_
 refine A2 15 ?_
 refine C9 rfl ?_
 refine aP 16 rfl (qA rfl) rfl ?_
 refine A4 ?_
 (refine J6 Pk.here (fun G5 hle5 hsl5 hno5 => ?_))
 refine C1 ?_
 refine E9 (rT rfl) (rC rfl (A3 rfl rfl)) (rT rfl) ?_
 (have hk1 : k = 6 := zR0; subst hk1; refine O4.two hsl5 (hrB.mono hle5) (hma'.mono hle5) (hmb'.mono hle5) ?_; rw [mW6]; cases hq : U5 4 (h.getD 0 B4) with | none => (rw [hq] at hmi; cases hmi) | some q => (have hq2 := hmm q hq; subst hq2; dsimp only; split <;> first | rfl | (exfalso; simp_all; done)))
 refine aP 13 rfl (R8 rfl rfl) rfl ?_
 refine A2 4 ?_
 (refine D2 rfl (D1 rfl rfl rfl zR0 zL0 rfl) rfl rfl ?_; rintro _ ⟨b319, rfl⟩)
 refine aP 14 rfl (qA rfl) rfl ?_
 refine A2 15 ?_
 refine C9 rfl ?_
 refine aP 16 rfl (qA rfl) rfl ?_
 refine A4 ?_
 (refine J6 Pk.here (fun G5 hle5 hsl5 hno5 => ?_))
 refine C1 ?_
 refine E9 (rT rfl) (rC rfl (A3 rfl rfl)) (rT rfl) ?_
 (have hk1 : k = 6 := zR0; subst hk1; refine O4.two hsl5 (hrB.mono hle5) (hma'.mono hle5) (hmb'.mono hle5) ?_; rw [mW6]; cases hq : U5 4 (h.getD 0 B4) with | none => (rw [hq] at hmi; cases hmi) | some q => (have hq2 := hmm q hq; subst hq2; dsimp only; split <;> first | rfl | (exfalso; simp_all; done)))
 refine B0 ?_
 refine sB (qE rfl rfl) rfl rfl (fun h339 => ?_) (fun h339 => ?_)
 refine J2 ?_
 refine sE (A6 rfl) rfl (fun b350 => ?_)
 refine E1 ?_
 refine sP (D0 rfl rfl zR0) rfl rfl ?_
 refine A9 ?_
 (have hl2 : n = 2 := hop.1 zR0; obtain ⟨b0, o0, q0, d0, hp0, hat0, hre0, hg0⟩ := hsl.kidD hkl (i := 0) zR0 zR0; obtain ⟨b1, o1, q1, d1, hp1, hat1, hre1, hg1⟩ := hsl.kidD hkl (i := 1) zR0 zR0; cases hp0; cases hp1; refine D3 D4 rfl ?_)
 refine J3 (i := 0) (l' := [tt,ff,ff,ff,ff,ff,ff,ff,ff,ff,ff,ff,ff,ff,ff,ff,ff,ff,ff]) rfl C8 (A3 rfl rfl) rfl zP0 rfl rfl ?_
 refine aL 1 rfl (A3 rfl rfl) rfl ?_
 refine aL 3 rfl (A3 rfl rfl) rfl ?_
 refine aP 4 rfl (qM rfl) rfl ?_
 refine aP 5 rfl (B8 (j := 0) rfl rfl rfl zR0) rfl ?_
 refine aL 6 rfl (A5 rfl rfl (hat0 _) rfl) rfl ?_
 refine aL 7 rfl (A3 rfl rfl) rfl ?_
 refine P6 (j := 2) (j' := 8) zP0 ?_ ?_
 (refine D2 rfl (D1 rfl rfl rfl zR0 zL0 rfl) rfl rfl ?_; rintro _ ⟨b375, rfl⟩)
 refine A2 8 ?_
 refine A0g rfl rfl ((A0L _ _ _ _ _ hre0 (N9 _))) rfl rfl rfl (fun h377 => ?_) (fun h377 => ?_)
 refine aP 9 rfl (qM rfl) rfl ?_
 refine aP 10 rfl (qM rfl) rfl ?_
 refine aP 11 rfl (B8 (j := 1) rfl rfl rfl zR0) rfl ?_
 refine aL 12 rfl (A5 rfl rfl (hat1 _) rfl) rfl ?_
 refine aL 13 rfl (A3 rfl rfl) rfl ?_
 refine A2 14 ?_
 refine A0g rfl rfl ((A0L _ _ _ _ _ hre1 (N9 _))) rfl rfl rfl (fun h384 => ?_) (fun h384 => ?_)
 refine aP 15 rfl (R8 rfl rfl) rfl ?_
 refine aP 16 rfl (qA rfl) rfl ?_
 refine A2 17 ?_
 refine C9 rfl ?_
 refine aP 18 rfl (qA rfl) rfl ?_
 refine A4 ?_
 (refine J6 Pk.here (fun G5 hle5 hsl5 hno5 => ?_))
 refine C1 ?_
 refine E9 (rT rfl) (rC rfl (A3 rfl rfl)) (rT rfl) ?_
 (refine O4.two hsl5 (N9 _) (N9 _) (N9 _) ?_; rw [A0j zR0]; first | (rw [if_pos ⟨by assumption, by assumption⟩, if_neg zR0]; rfl) | (rw [if_neg (fun hc => by first | exact Bool.noConfusion (hc.1.symm.trans zO0) | exact Bool.noConfusion (hc.2.symm.trans zO0) | exact Bool.noConfusion (hc.symm.trans zO0))]; rfl))
 refine aP 15 rfl (R8 rfl rfl) rfl ?_
 refine aP 16 rfl (qA rfl) rfl ?_
 refine A2 17 ?_
 refine C9 rfl ?_
 refine aP 18 rfl (qA rfl) rfl ?_
 refine A4 ?_
 (refine J6 Pk.here (fun G5 hle5 hsl5 hno5 => ?_))
 refine C1 ?_
 refine E9 (rT rfl) (rC rfl (A3 rfl rfl)) (rT rfl) ?_
 (refine O4.two hsl5 (N9 _) (N9 _) (N9 _) ?_; rw [A0j zR0]; first | (rw [if_pos ⟨by assumption, by assumption⟩, if_neg zR0]; rfl) | (rw [if_neg (fun hc => by first | exact Bool.noConfusion (hc.1.symm.trans zO0) | exact Bool.noConfusion (hc.2.symm.trans zO0) | exact Bool.noConfusion (hc.symm.trans zO0))]; rfl))
 refine aP 9 rfl (qM rfl) rfl ?_
 refine D6 10 rfl rfl rfl ?_
 refine D6 11 rfl rfl rfl ?_
 refine D6 12 rfl rfl rfl ?_
 refine D6 13 rfl rfl rfl ?_
 refine D6 14 rfl rfl rfl ?_
 refine aP 15 rfl (T6 rfl rfl) rfl ?_
 refine aP 16 rfl (qA rfl) rfl ?_
 refine A2 17 ?_
 refine C9 rfl ?_
 refine aP 18 rfl (qA rfl) rfl ?_
 refine A4 ?_
 (refine J6 Pk.here (fun G5 hle5 hsl5 hno5 => ?_))
 refine C1 ?_
 refine E9 (rT rfl) (rC rfl (A3 rfl rfl)) (rT rfl) ?_
 (refine O4.two hsl5 (N9 _) (N9 _) (N9 _) ?_; rw [A0j zR0]; first | (rw [if_pos ⟨by assumption, by assumption⟩, if_neg zR0]; rfl) | (rw [if_neg (fun hc => by first | exact Bool.noConfusion (hc.1.symm.trans zO0) | exact Bool.noConfusion (hc.2.symm.trans zO0) | exact Bool.noConfusion (hc.symm.trans zO0))]; rfl))
 refine A0g rfl rfl ((A0L _ _ _ _ _ hre0 (N9 _))) rfl rfl rfl (fun h430 => ?_) (fun h430 => ?_)
 refine aP 9 rfl (qM rfl) rfl ?_
 refine aP 10 rfl (qM rfl) rfl ?_
 refine aP 11 rfl (B8 (j := 1) rfl rfl rfl zR0) rfl ?_
 refine aL 12 rfl (A5 rfl rfl (hat1 _) rfl) rfl ?_
 refine aL 13 rfl (A3 rfl rfl) rfl ?_
 refine P6 (j := 2) (j' := 14) zP0 ?_ ?_
 (refine D2 rfl (D1 rfl rfl rfl zR0 zL0 rfl) rfl rfl ?_; rintro _ ⟨b437, rfl⟩)
 refine A2 14 ?_
 refine A0g rfl rfl ((A0L _ _ _ _ _ hre1 (N9 _))) rfl rfl rfl (fun h439 => ?_) (fun h439 => ?_)
 refine aP 15 rfl (R8 rfl rfl) rfl ?_
 refine aP 16 rfl (qA rfl) rfl ?_
 refine A2 17 ?_
 refine C9 rfl ?_
 refine aP 18 rfl (qA rfl) rfl ?_
 refine A4 ?_
 (refine J6 Pk.here (fun G5 hle5 hsl5 hno5 => ?_))
 refine C1 ?_
 refine E9 (rT rfl) (rC rfl (A3 rfl rfl)) (rT rfl) ?_
 (refine O4.two hsl5 (N9 _) (N9 _) (N9 _) ?_; rw [A0j zR0]; first | (rw [if_pos ⟨by assumption, by assumption⟩, if_neg zR0]; rfl) | (rw [if_neg (fun hc => by first | exact Bool.noConfusion (hc.1.symm.trans zO0) | exact Bool.noConfusion (hc.2.symm.trans zO0) | exact Bool.noConfusion (hc.symm.trans zO0))]; rfl))
 refine aP 15 rfl (R8 rfl rfl) rfl ?_
 refine aP 16 rfl (qA rfl) rfl ?_
 refine A2 17 ?_
 refine C9 rfl ?_
 refine aP 18 rfl (qA rfl) rfl ?_
 refine A4 ?_
 (refine J6 Pk.here (fun G5 hle5 hsl5 hno5 => ?_))
 refine C1 ?_
 refine E9 (rT rfl) (rC rfl (A3 rfl rfl)) (rT rfl) ?_
 (refine O4.two hsl5 (N9 _) (N9 _) (N9 _) ?_; rw [A0j zR0]; first | (rw [if_pos ⟨by assumption, by assumption⟩, if_neg zR0]; rfl) | (rw [if_neg (fun hc => by first | exact Bool.noConfusion (hc.1.symm.trans zO0) | exact Bool.noConfusion (hc.2.symm.trans zO0) | exact Bool.noConfusion (hc.symm.trans zO0))]; rfl))
 refine A0g rfl rfl ((A0L _ _ _ _ _ hre1 (N9 _))) rfl rfl rfl (fun h466 => ?_) (fun h466 => ?_)
 refine aP 15 rfl (R8 rfl rfl) rfl ?_
 refine A2 2 ?_
 (refine D2 rfl (D1 rfl rfl rfl zR0 zL0 rfl) rfl rfl ?_; rintro _ ⟨b469, rfl⟩)
 refine aP 16 rfl (qA rfl) rfl ?_
 refine A2 17 ?_
 refine C9 rfl ?_
 refine aP 18 rfl (qA rfl) rfl ?_
 refine A4 ?_
 (refine J6 Pk.here (fun G5 hle5 hsl5 hno5 => ?_))
 refine C1 ?_
 refine E9 (rT rfl) (rC rfl (A3 rfl rfl)) (rT rfl) ?_
 (refine O4.two hsl5 (N9 _) (N9 _) (N9 _) ?_; rw [A0j zR0]; first | (rw [if_pos ⟨by assumption, by assumption⟩, if_neg zR0]; rfl) | (rw [if_neg (fun hc => by first | exact Bool.noConfusion (hc.1.symm.trans zO0) | exact Bool.noConfusion (hc.2.symm.trans zO0) | exact Bool.noConfusion (hc.symm.trans zO0))]; rfl))
 refine aP 15 rfl (R8 rfl rfl) rfl ?_
 refine A2 2 ?_
 (refine D2 rfl (D1 rfl rfl rfl zR0 zL0 rfl) rfl rfl ?_; rintro _ ⟨b484, rfl⟩)
 refine aP 16 rfl (qA rfl) rfl ?_
 refine A2 17 ?_
 refine C9 rfl ?_
 refine aP 18 rfl (qA rfl) rfl ?_
 refine A4 ?_
 (refine J6 Pk.here (fun G5 hle5 hsl5 hno5 => ?_))
 refine C1 ?_
 refine E9 (rT rfl) (rC rfl (A3 rfl rfl)) (rT rfl) ?_
 (refine O4.two hsl5 (N9 _) (N9 _) (N9 _) ?_; rw [A0j zR0]; first | (rw [if_pos ⟨by assumption, by assumption⟩, if_neg zR0]; rfl) | (rw [if_neg (fun hc => by first | exact Bool.noConfusion (hc.1.symm.trans zO0) | exact Bool.noConfusion (hc.2.symm.trans zO0) | exact Bool.noConfusion (hc.symm.trans zO0))]; rfl))
 refine aP 9 rfl (qM rfl) rfl ?_
 refine D6 10 rfl rfl rfl ?_
 refine D6 11 rfl rfl rfl ?_
 refine D6 12 rfl rfl rfl ?_
 refine D6 13 rfl rfl rfl ?_
 refine P6 (j := 2) (j' := 14) zP0 ?_ ?_
 (refine D2 rfl (D1 rfl rfl rfl zR0 zL0 rfl) rfl rfl ?_; rintro _ ⟨b503, rfl⟩)
 refine D6 14 rfl rfl rfl ?_
 refine aP 15 rfl (T6 rfl rfl) rfl ?_
 refine aP 16 rfl (qA rfl) rfl ?_
 refine A2 17 ?_
 refine C9 rfl ?_
 refine aP 18 rfl (qA rfl) rfl ?_
 refine A4 ?_
 (refine J6 Pk.here (fun G5 hle5 hsl5 hno5 => ?_))
 refine C1 ?_
 refine E9 (rT rfl) (rC rfl (A3 rfl rfl)) (rT rfl) ?_
 (refine O4.two hsl5 (N9 _) (N9 _) (N9 _) ?_; rw [A0j zR0]; first | (rw [if_pos ⟨by assumption, by assumption⟩, if_neg zR0]; rfl) | (rw [if_neg (fun hc => by first | exact Bool.noConfusion (hc.1.symm.trans zO0) | exact Bool.noConfusion (hc.2.symm.trans zO0) | exact Bool.noConfusion (hc.symm.trans zO0))]; rfl))
 refine A6W (l' := [tt,tt,ff,tt,tt,tt,tt,tt,tt,tt,tt,tt,tt,tt,tt,ff,ff,ff,ff]) rfl rfl rfl rfl ?_
 refine aP 15 rfl (T6 rfl rfl) rfl ?_
 refine A2 2 ?_
 (refine D2 rfl (D1 rfl rfl rfl zR0 zL0 rfl) rfl rfl ?_; rintro _ ⟨b521, rfl⟩)
 refine aP 16 rfl (qA rfl) rfl ?_
 refine A2 17 ?_
 refine C9 rfl ?_
 refine aP 18 rfl (qA rfl) rfl ?_
 refine A4 ?_
 (refine J6 Pk.here (fun G5 hle5 hsl5 hno5 => ?_))
 refine C1 ?_
 refine E9 (rT rfl) (rC rfl (A3 rfl rfl)) (rT rfl) ?_
 (refine O4.two hsl5 (N9 _) (N9 _) (N9 _) ?_; rw [A0j zR0]; first | (rw [if_pos ⟨by assumption, by assumption⟩, if_neg zR0]; rfl) | (rw [if_neg (fun hc => by first | exact Bool.noConfusion (hc.1.symm.trans zO0) | exact Bool.noConfusion (hc.2.symm.trans zO0) | exact Bool.noConfusion (hc.symm.trans zO0))]; rfl))
 refine A8 ?_
 refine sB (qE rfl rfl) rfl rfl (fun h539 => ?_) (fun h539 => ?_)
 refine B0 ?_
 refine sE (A6 rfl) rfl (fun b547 => ?_)
 refine E1 ?_
 refine sP (O1 rfl rfl zR0) rfl rfl ?_
 refine E7 ?_
 (have hl2 : n = 2 := hop.1 zR0; obtain ⟨b0, o0, q0, d0, hp0, hat0, hre0, hg0⟩ := hsl.kidD hkl (i := 0) zR0 zR0; obtain ⟨b1, o1, q1, d1, hp1, hat1, hre1, hg1⟩ := hsl.kidD hkl (i := 1) zR0 zR0; cases hp0; cases hp1; refine D3 D4 rfl ?_)
 refine J3 (i := 0) (l' := [tt,ff,ff,ff,ff,ff,ff,ff,ff,ff,ff,ff,ff,ff,ff,ff,ff,ff,ff]) rfl C8 (A3 rfl rfl) rfl zP0 rfl rfl ?_
 refine aL 1 rfl (A3 rfl rfl) rfl ?_
 refine aL 3 rfl (A3 rfl rfl) rfl ?_
 refine aP 4 rfl (qM rfl) rfl ?_
 refine aP 5 rfl (B8 (j := 0) rfl rfl rfl zR0) rfl ?_
 refine aL 6 rfl (A5 rfl rfl (hat0 _) rfl) rfl ?_
 refine aL 7 rfl (A3 rfl rfl) rfl ?_
 refine P6 (j := 2) (j' := 8) zP0 ?_ ?_
 (refine D2 rfl (D1 rfl rfl rfl zR0 zL0 rfl) rfl rfl ?_; rintro _ ⟨b575, rfl⟩)
 refine A2 8 ?_
 refine A0g rfl rfl ((A0L _ _ _ _ _ hre0 (N9 _))) rfl rfl rfl (fun h577 => ?_) (fun h577 => ?_)
 refine aP 9 rfl (qM rfl) rfl ?_
 refine aP 10 rfl (qM rfl) rfl ?_
 refine aP 11 rfl (B8 (j := 1) rfl rfl rfl zR0) rfl ?_
 refine aL 12 rfl (A5 rfl rfl (hat1 _) rfl) rfl ?_
 refine aL 13 rfl (A3 rfl rfl) rfl ?_
 refine A2 14 ?_
 refine A0g rfl rfl ((A0L _ _ _ _ _ hre1 (N9 _))) rfl rfl rfl (fun h584 => ?_) (fun h584 => ?_)
 refine aP 15 rfl (R8 rfl rfl) rfl ?_
 refine aP 16 rfl (qA rfl) rfl ?_
 refine A2 17 ?_
 refine C9 rfl ?_
 refine aP 18 rfl (qA rfl) rfl ?_
 refine A4 ?_
 (refine J6 Pk.here (fun G5 hle5 hsl5 hno5 => ?_))
 refine C1 ?_
 refine E9 (rT rfl) (rC rfl (A3 rfl rfl)) (rT rfl) ?_
 (refine O4.two hsl5 (N9 _) (N9 _) (A0Y _) ?_; rw [A0j zR0]; first | (rw [if_pos ⟨by assumption, by assumption⟩, if_pos zR0]; rfl) | (rw [if_neg (fun hc => by first | exact Bool.noConfusion (hc.1.symm.trans zO0) | exact Bool.noConfusion (hc.2.symm.trans zO0) | exact Bool.noConfusion (hc.symm.trans zO0))]; rfl))
 refine aP 15 rfl (R8 rfl rfl) rfl ?_
 refine aP 16 rfl (qA rfl) rfl ?_
 refine A2 17 ?_
 refine C9 rfl ?_
 refine aP 18 rfl (qA rfl) rfl ?_
 refine A4 ?_
 (refine J6 Pk.here (fun G5 hle5 hsl5 hno5 => ?_))
 refine C1 ?_
 refine E9 (rT rfl) (rC rfl (A3 rfl rfl)) (rT rfl) ?_
 (refine O4.two hsl5 (N9 _) (N9 _) (A0Y _) ?_; rw [A0j zR0]; first | (rw [if_pos ⟨by assumption, by assumption⟩, if_pos zR0]; rfl) | (rw [if_neg (fun hc => by first | exact Bool.noConfusion (hc.1.symm.trans zO0) | exact Bool.noConfusion (hc.2.symm.trans zO0) | exact Bool.noConfusion (hc.symm.trans zO0))]; rfl))
 refine aP 9 rfl (qM rfl) rfl ?_
 refine D6 10 rfl rfl rfl ?_
 refine D6 11 rfl rfl rfl ?_
 refine D6 12 rfl rfl rfl ?_
 refine D6 13 rfl rfl rfl ?_
 refine D6 14 rfl rfl rfl ?_
 refine aP 15 rfl (T6 rfl rfl) rfl ?_
 refine aP 16 rfl (qA rfl) rfl ?_
 refine A2 17 ?_
 refine C9 rfl ?_
 refine aP 18 rfl (qA rfl) rfl ?_
 refine A4 ?_
 (refine J6 Pk.here (fun G5 hle5 hsl5 hno5 => ?_))
 refine C1 ?_
 refine E9 (rT rfl) (rC rfl (A3 rfl rfl)) (rT rfl) ?_
 (refine O4.two hsl5 (N9 _) (N9 _) (A0Y _) ?_; rw [A0j zR0]; first | (rw [if_pos ⟨by assumption, by assumption⟩, if_pos zR0]; rfl) | (rw [if_neg (fun hc => by first | exact Bool.noConfusion (hc.1.symm.trans zO0) | exact Bool.noConfusion (hc.2.symm.trans zO0) | exact Bool.noConfusion (hc.symm.trans zO0))]; rfl))
 refine A0g rfl rfl ((A0L _ _ _ _ _ hre0 (N9 _))) rfl rfl rfl (fun h630 => ?_) (fun h630 => ?_)
 refine aP 9 rfl (qM rfl) rfl ?_
 refine aP 10 rfl (qM rfl) rfl ?_
 refine aP 11 rfl (B8 (j := 1) rfl rfl rfl zR0) rfl ?_
 refine aL 12 rfl (A5 rfl rfl (hat1 _) rfl) rfl ?_
 refine aL 13 rfl (A3 rfl rfl) rfl ?_
 refine P6 (j := 2) (j' := 14) zP0 ?_ ?_
 (refine D2 rfl (D1 rfl rfl rfl zR0 zL0 rfl) rfl rfl ?_; rintro _ ⟨b637, rfl⟩)
 refine A2 14 ?_
 refine A0g rfl rfl ((A0L _ _ _ _ _ hre1 (N9 _))) rfl rfl rfl (fun h639 => ?_) (fun h639 => ?_)
 refine aP 15 rfl (R8 rfl rfl) rfl ?_
 refine aP 16 rfl (qA rfl) rfl ?_
 refine A2 17 ?_
 refine C9 rfl ?_
 refine aP 18 rfl (qA rfl) rfl ?_
 refine A4 ?_
 (refine J6 Pk.here (fun G5 hle5 hsl5 hno5 => ?_))
 refine C1 ?_
 refine E9 (rT rfl) (rC rfl (A3 rfl rfl)) (rT rfl) ?_
 (refine O4.two hsl5 (N9 _) (N9 _) (A0Y _) ?_; rw [A0j zR0]; first | (rw [if_pos ⟨by assumption, by assumption⟩, if_pos zR0]; rfl) | (rw [if_neg (fun hc => by first | exact Bool.noConfusion (hc.1.symm.trans zO0) | exact Bool.noConfusion (hc.2.symm.trans zO0) | exact Bool.noConfusion (hc.symm.trans zO0))]; rfl))
 refine aP 15 rfl (R8 rfl rfl) rfl ?_
 refine aP 16 rfl (qA rfl) rfl ?_
 refine A2 17 ?_
 refine C9 rfl ?_
 refine aP 18 rfl (qA rfl) rfl ?_
 refine A4 ?_
 (refine J6 Pk.here (fun G5 hle5 hsl5 hno5 => ?_))
 refine C1 ?_
 refine E9 (rT rfl) (rC rfl (A3 rfl rfl)) (rT rfl) ?_
 (refine O4.two hsl5 (N9 _) (N9 _) (A0Y _) ?_; rw [A0j zR0]; first | (rw [if_pos ⟨by assumption, by assumption⟩, if_pos zR0]; rfl) | (rw [if_neg (fun hc => by first | exact Bool.noConfusion (hc.1.symm.trans zO0) | exact Bool.noConfusion (hc.2.symm.trans zO0) | exact Bool.noConfusion (hc.symm.trans zO0))]; rfl))
 refine A0g rfl rfl ((A0L _ _ _ _ _ hre1 (N9 _))) rfl rfl rfl (fun h666 => ?_) (fun h666 => ?_)
 refine aP 15 rfl (R8 rfl rfl) rfl ?_
 refine A2 2 ?_
 (refine D2 rfl (D1 rfl rfl rfl zR0 zL0 rfl) rfl rfl ?_; rintro _ ⟨b669, rfl⟩)
 refine aP 16 rfl (qA rfl) rfl ?_
 refine A2 17 ?_
 refine C9 rfl ?_
 refine aP 18 rfl (qA rfl) rfl ?_
 refine A4 ?_
 (refine J6 Pk.here (fun G5 hle5 hsl5 hno5 => ?_))
 refine C1 ?_
 refine E9 (rT rfl) (rC rfl (A3 rfl rfl)) (rT rfl) ?_
 (refine O4.two hsl5 (N9 _) (N9 _) (A0Y _) ?_; rw [A0j zR0]; first | (rw [if_pos ⟨by assumption, by assumption⟩, if_pos zR0]; rfl) | (rw [if_neg (fun hc => by first | exact Bool.noConfusion (hc.1.symm.trans zO0) | exact Bool.noConfusion (hc.2.symm.trans zO0) | exact Bool.noConfusion (hc.symm.trans zO0))]; rfl))
 refine aP 15 rfl (R8 rfl rfl) rfl ?_
 refine A2 2 ?_
 (refine D2 rfl (D1 rfl rfl rfl zR0 zL0 rfl) rfl rfl ?_; rintro _ ⟨b684, rfl⟩)
 refine aP 16 rfl (qA rfl) rfl ?_
 refine A2 17 ?_
 refine C9 rfl ?_
 refine aP 18 rfl (qA rfl) rfl ?_
 refine A4 ?_
 (refine J6 Pk.here (fun G5 hle5 hsl5 hno5 => ?_))
 refine C1 ?_
 refine E9 (rT rfl) (rC rfl (A3 rfl rfl)) (rT rfl) ?_
 (refine O4.two hsl5 (N9 _) (N9 _) (A0Y _) ?_; rw [A0j zR0]; first | (rw [if_pos ⟨by assumption, by assumption⟩, if_pos zR0]; rfl) | (rw [if_neg (fun hc => by first | exact Bool.noConfusion (hc.1.symm.trans zO0) | exact Bool.noConfusion (hc.2.symm.trans zO0) | exact Bool.noConfusion (hc.symm.trans zO0))]; rfl))
 refine aP 9 rfl (qM rfl) rfl ?_
 refine D6 10 rfl rfl rfl ?_
 refine D6 11 rfl rfl rfl ?_
 refine D6 12 rfl rfl rfl ?_
 refine D6 13 rfl rfl rfl ?_
 refine P6 (j := 2) (j' := 14) zP0 ?_ ?_
 (refine D2 rfl (D1 rfl rfl rfl zR0 zL0 rfl) rfl rfl ?_; rintro _ ⟨b703, rfl⟩)
 refine D6 14 rfl rfl rfl ?_
 refine aP 15 rfl (T6 rfl rfl) rfl ?_
 refine aP 16 rfl (qA rfl) rfl ?_
 refine A2 17 ?_
 refine C9 rfl ?_
 refine aP 18 rfl (qA rfl) rfl ?_
 refine A4 ?_
 (refine J6 Pk.here (fun G5 hle5 hsl5 hno5 => ?_))
 refine C1 ?_
 refine E9 (rT rfl) (rC rfl (A3 rfl rfl)) (rT rfl) ?_
 (refine O4.two hsl5 (N9 _) (N9 _) (A0Y _) ?_; rw [A0j zR0]; first | (rw [if_pos ⟨by assumption, by assumption⟩, if_pos zR0]; rfl) | (rw [if_neg (fun hc => by first | exact Bool.noConfusion (hc.1.symm.trans zO0) | exact Bool.noConfusion (hc.2.symm.trans zO0) | exact Bool.noConfusion (hc.symm.trans zO0))]; rfl))
 refine A6W (l' := [tt,tt,ff,tt,tt,tt,tt,tt,tt,tt,tt,tt,tt,tt,tt,ff,ff,ff,ff]) rfl rfl rfl rfl ?_
 refine aP 15 rfl (T6 rfl rfl) rfl ?_
 refine A2 2 ?_
 (refine D2 rfl (D1 rfl rfl rfl zR0 zL0 rfl) rfl rfl ?_; rintro _ ⟨b721, rfl⟩)
 refine aP 16 rfl (qA rfl) rfl ?_
 refine A2 17 ?_
 refine C9 rfl ?_
 refine aP 18 rfl (qA rfl) rfl ?_
 refine A4 ?_
 (refine J6 Pk.here (fun G5 hle5 hsl5 hno5 => ?_))
 refine C1 ?_
 refine E9 (rT rfl) (rC rfl (A3 rfl rfl)) (rT rfl) ?_
 (refine O4.two hsl5 (N9 _) (N9 _) (A0Y _) ?_; rw [A0j zR0]; first | (rw [if_pos ⟨by assumption, by assumption⟩, if_pos zR0]; rfl) | (rw [if_neg (fun hc => by first | exact Bool.noConfusion (hc.1.symm.trans zO0) | exact Bool.noConfusion (hc.2.symm.trans zO0) | exact Bool.noConfusion (hc.symm.trans zO0))]; rfl))
 refine A9 ?_
 refine sB (qE rfl rfl) rfl rfl (fun h740 => ?_) (fun h740 => ?_)
 refine A9 ?_
 (have hl3 : n = 3 := hop.2.1 zR0; obtain ⟨b0, o0, q0, d0, hp0, hat0, hre0, hg0⟩ := hsl.kidD hkl (i := 0) zR0 zR0; obtain ⟨b1, o1, q1, d1, hp1, hat1, hre1, hg1⟩ := hsl.kidD hkl (i := 1) zR0 zR0; cases hp0; cases hp1; obtain ⟨b2, o2, q2, d2, hp2, hat2, hre2, hg2⟩ := hsl.kidD hkl (i := 2) zR0 zR0; cases hp2; refine D3 D4 rfl ?_)
 refine J4 (i := 0) (l' := [tt,ff,ff,ff,ff,ff,ff,ff,ff,ff,ff,ff,ff,ff,ff,ff]) rfl C8 (qM rfl) rfl zP0 rfl rfl ?_
 refine aP 1 rfl (B8 (j := 0) rfl rfl rfl zR0) rfl ?_
 refine aL 2 rfl (A5 rfl rfl (hat0 _) rfl) rfl ?_
 refine aL 3 rfl (A3 rfl rfl) rfl ?_
 refine A2 4 ?_
 refine A0g rfl rfl ((A0L _ _ _ _ _ hre0 (A0Y _))) rfl rfl rfl (fun h753 => ?_) (fun h753 => ?_)
 refine aP 5 rfl (pNt rfl) rfl ?_
 refine aP 6 rfl (qM rfl) rfl ?_
 refine aP 7 rfl (qM rfl) rfl ?_
 refine aP 8 rfl (B8 (j := 1) rfl rfl rfl zR0) rfl ?_
 refine aL 9 rfl (A5 rfl rfl (hat1 _) rfl) rfl ?_
 refine aP 10 rfl (qM rfl) rfl ?_
 refine aP 11 rfl (B8 (j := 2) rfl rfl rfl zR0) rfl ?_
 refine aL 12 rfl (A5 rfl rfl (hat2 _) rfl) rfl ?_
 refine A2 13 ?_
 refine A0g rfl rfl ((A0L _ _ _ _ _ hre1 hre2)) rfl rfl rfl (fun h763 => ?_) (fun h763 => ?_)
 refine aP 14 rfl (pNt rfl) rfl ?_
 refine aP 15 rfl (T6 rfl rfl) rfl ?_
 refine A9 ?_
 (have hl3 : n = 3 := hop.2.1 zR0; obtain ⟨b0, o0, q0, d0, hp0, hat0, hre0, hg0⟩ := hsl.kidD hkl (i := 0) zR0 zR0; obtain ⟨b1, o1, q1, d1, hp1, hat1, hre1, hg1⟩ := hsl.kidD hkl (i := 1) zR0 zR0; cases hp0; cases hp1; obtain ⟨b2, o2, q2, d2, hp2, hat2, hre2, hg2⟩ := hsl.kidD hkl (i := 2) zR0 zR0; cases hp2; refine D3 D4 rfl ?_)
 refine J4 (i := 0) (l' := [tt,ff,ff,ff,ff,ff,ff,ff,ff]) rfl C8 (qM rfl) rfl zP0 rfl rfl ?_
 refine aP 1 rfl (B8 (j := 1) rfl rfl rfl zR0) rfl ?_
 refine aL 2 rfl (A5 rfl rfl (hat1 _) rfl) rfl ?_
 refine aP 3 rfl (qM rfl) rfl ?_
 refine aP 4 rfl (B8 (j := 2) rfl rfl rfl zR0) rfl ?_
 refine aL 5 rfl (A5 rfl rfl (hat2 _) rfl) rfl ?_
 refine P6 (j := 6) (j' := 7) zP0 ?_ ?_
 (refine H1 rfl rfl (B0e _ _ _ _ _ zO0 (A4b har zR0) (A4b har zR0) hre1 hre2) rfl rfl rfl (fun v GM hleM hh => ?_); obtain ⟨cM, rfl, hrM⟩ := hh; obtain ⟨p7, c7, e7, rfl, _⟩ := hrM.open)
 refine A2 7 ?_
 (refine D2 rfl (A6 rfl) rfl rfl ?_; rintro _ ⟨b782, rfl⟩)
 refine A2 8 ?_
 refine C9 rfl ?_
 refine C1 ?_
 (have hl3 : n = 3 := hop.2.1 zR0; obtain ⟨b0, o0, q0, d0, hp0, hat0, hre0, hg0⟩ := hsl.kidD hkl (i := 0) zR0 zR0; obtain ⟨b1, o1, q1, d1, hp1, hat1, hre1, hg1⟩ := hsl.kidD hkl (i := 1) zR0 zR0; cases hp0; cases hp1; obtain ⟨b2, o2, q2, d2, hp2, hat2, hre2, hg2⟩ := hsl.kidD hkl (i := 2) zR0 zR0; cases hp2; refine D3 D4 rfl ?_)
 refine J3 (i := 0) (l' := [tt,ff,ff,ff,ff,ff,ff,ff]) rfl C8 (A3 rfl rfl) rfl zP0 rfl rfl ?_
 refine aL 1 rfl (A3 rfl rfl) rfl ?_
 refine aL 2 rfl (A3 rfl rfl) rfl ?_
 refine aL 4 rfl (A3 rfl rfl) rfl ?_
 refine A2 3 ?_
 (refine D2 rfl (D1 rfl rfl rfl zR0 zL0 rfl) rfl rfl ?_; rintro _ ⟨b794, rfl⟩)
 exact y103
 (refine D2 rfl (A6 rfl) rfl rfl ?_; rintro _ ⟨b807, rfl⟩)
 refine A2 6 ?_
 (refine H1 rfl rfl (B0e _ _ _ _ _ zO0 (A4b har zR0) (A4b har zR0) hre1 hre2) rfl rfl rfl (fun v GM hleM hh => ?_); obtain ⟨cM, rfl, hrM⟩ := hh; obtain ⟨p7, c7, e7, rfl, _⟩ := hrM.open)
 refine A2 8 ?_
 refine C9 rfl ?_
 refine C1 ?_
 (have hl3 : n = 3 := hop.2.1 zR0; obtain ⟨b0, o0, q0, d0, hp0, hat0, hre0, hg0⟩ := hsl.kidD hkl (i := 0) zR0 zR0; obtain ⟨b1, o1, q1, d1, hp1, hat1, hre1, hg1⟩ := hsl.kidD hkl (i := 1) zR0 zR0; cases hp0; cases hp1; obtain ⟨b2, o2, q2, d2, hp2, hat2, hre2, hg2⟩ := hsl.kidD hkl (i := 2) zR0 zR0; cases hp2; refine D3 D4 rfl ?_)
 refine J3 (i := 0) (l' := [tt,ff,ff,ff,ff,ff,ff,ff]) rfl C8 (A3 rfl rfl) rfl zP0 rfl rfl ?_
 refine aL 1 rfl (A3 rfl rfl) rfl ?_
 refine aL 2 rfl (A3 rfl rfl) rfl ?_
 refine aL 4 rfl (A3 rfl rfl) rfl ?_
 refine A2 3 ?_
 (refine D2 rfl (D1 rfl rfl rfl zR0 zL0 rfl) rfl rfl ?_; rintro _ ⟨b821, rfl⟩)
 exact y103
 refine aP 14 rfl (pNf rfl) rfl ?_
 refine aP 15 rfl (T6 rfl rfl) rfl ?_
 exact y104
 refine aP 5 rfl (pNf rfl) rfl ?_
 refine aP 6 rfl (qM rfl) rfl ?_
 refine D6 7 rfl rfl rfl ?_
 refine D6 8 rfl rfl rfl ?_
 refine D6 9 rfl rfl rfl ?_
 refine D6 10 rfl rfl rfl ?_
 refine D6 11 rfl rfl rfl ?_
 refine D6 12 rfl rfl rfl ?_
 refine D6 13 rfl rfl rfl ?_
 refine D6 14 rfl rfl rfl ?_
 refine aP 15 rfl (R8 rfl rfl) rfl ?_
 exact y104
 refine A9 ?_
 refine sB (qE rfl rfl) rfl rfl (fun h887 => ?_) (fun h887 => ?_)
 refine A8 ?_
 (have hl2 : n = 2 := hop.1 zR0; obtain ⟨b0, o0, q0, d0, hp0, hat0, hre0, hg0⟩ := hsl.kidD hkl (i := 0) zR0 zR0; obtain ⟨b1, o1, q1, d1, hp1, hat1, hre1, hg1⟩ := hsl.kidD hkl (i := 1) zR0 zR0; cases hp0; cases hp1; refine D3 D4 rfl ?_)
 refine J4 (i := 0) (l' := [tt,ff,ff,ff,ff,ff,ff,ff,ff,ff]) rfl C8 (qM rfl) rfl zP0 rfl rfl ?_
 refine aP 1 rfl (B8 (j := 0) rfl rfl rfl zR0) rfl ?_
 refine aL 2 rfl (A5 rfl rfl (hat0 _) rfl) rfl ?_
 refine aP 3 rfl (qM rfl) rfl ?_
 refine aP 4 rfl (B8 (j := 1) rfl rfl rfl zR0) rfl ?_
 refine aL 5 rfl (A5 rfl rfl (hat1 _) rfl) rfl ?_
 refine A2 6 ?_
 (refine H1 rfl rfl (A2m 5 _ _ _ _ _ ⟨by omega, by omega⟩ hre0 hre1) rfl rfl rfl (fun v GB hleB hh => ?_); obtain ⟨cB, rfl, hrB⟩ := hh; obtain ⟨p7, c7, e7, rfl, _⟩ := hrB.open)
 refine aP 7 rfl (qA rfl) rfl ?_
 refine A2 8 ?_
 refine C9 rfl ?_
 refine aP 9 rfl (qA rfl) rfl ?_
 refine A8 ?_
 refine E9 (rT rfl) (rC rfl (A3 rfl rfl)) (rT rfl) ?_
 (have hk1 : k = 10 := zR0; subst hk1; exact O4.nil hrB A7K)
 refine A9 ?_
 refine sB (qE rfl rfl) rfl rfl (fun h919 => ?_) (fun h919 => ?_)
 refine A8 ?_
 (have hl1 : n = 1 := hop.2.2 zR0; obtain ⟨b0, o0, q0, d0, hp0, hat0, hre0, hg0⟩ := hsl.kidD hkl (i := 0) zR0 zR0; cases hp0; refine D3 D4 rfl ?_)
 refine J4 (i := 0) (l' := [tt,ff,ff,ff,ff,ff,ff,ff,ff,ff,ff,ff,ff,ff]) rfl C8 (C3 rfl) rfl zP0 rfl rfl ?_
 refine aL 1 rfl (A3 rfl rfl) rfl ?_
 refine aP 3 rfl (C3 rfl) rfl ?_
 refine aL 4 rfl (A3 rfl rfl) rfl ?_
 refine aP 5 rfl (qM rfl) rfl ?_
 refine aP 6 rfl (B8 (j := 0) rfl rfl rfl zR0) rfl ?_
 refine aL 7 rfl (A5 rfl rfl (hat0 _) rfl) rfl ?_
 refine aP 8 rfl (C3 rfl) rfl ?_
 refine aL 9 rfl (A3 rfl rfl) rfl ?_
 refine P6 (j := 2) (j' := 10) zP0 ?_ ?_
 (refine D2 rfl (D1 rfl rfl rfl zR0 zL0 rfl) rfl rfl ?_; rintro _ ⟨b936, rfl⟩)
 refine A2 10 ?_
 refine A0g rfl rfl ((A0L _ _ _ _ _ hre0 hrty)) rfl rfl rfl (fun h938 => ?_) (fun h938 => ?_)
 refine aP 11 rfl (qA rfl) rfl ?_
 refine A2 12 ?_
 refine C9 rfl ?_
 refine aP 13 rfl (qA rfl) rfl ?_
 refine A4 ?_
 (refine J6 Pk.here (fun G5 hle5 hsl5 hno5 => ?_))
 refine C1 ?_
 refine E9 (rT rfl) (rC rfl (A3 rfl rfl)) (rT rfl) ?_
 (have hk1 : k = 13 := zR0; subst hk1; refine O4.one hsl5 (hrty.mono hle5) (hrty.mono hle5) ?_; rw [A4c]; split <;> first | rfl | (exfalso; simp_all; done))
 refine aP 11 rfl (qA rfl) rfl ?_
 refine A2 12 ?_
 refine C9 rfl ?_
 refine aP 13 rfl (qA rfl) rfl ?_
 refine A4 ?_
 (refine J6 Pk.here (fun G5 hle5 hsl5 hno5 => ?_))
 refine C1 ?_
 refine E9 (rT rfl) (rC rfl (A3 rfl rfl)) (rT rfl) ?_
 (have hk1 : k = 13 := zR0; subst hk1; refine O4.one hsl5 (hrty.mono hle5) (hrty.mono hle5) ?_; rw [A4c]; split <;> first | rfl | (exfalso; simp_all; done))
 refine A0g rfl rfl ((A0L _ _ _ _ _ hre0 hrty)) rfl rfl rfl (fun h963 => ?_) (fun h963 => ?_)
 refine A2 2 ?_
 (refine D2 rfl (D1 rfl rfl rfl zR0 zL0 rfl) rfl rfl ?_; rintro _ ⟨b965, rfl⟩)
 refine aP 11 rfl (qA rfl) rfl ?_
 refine A2 12 ?_
 refine C9 rfl ?_
 refine aP 13 rfl (qA rfl) rfl ?_
 refine A4 ?_
 (refine J6 Pk.here (fun G5 hle5 hsl5 hno5 => ?_))
 refine C1 ?_
 refine E9 (rT rfl) (rC rfl (A3 rfl rfl)) (rT rfl) ?_
 (have hk1 : k = 13 := zR0; subst hk1; refine O4.one hsl5 (hrty.mono hle5) (hrty.mono hle5) ?_; rw [A4c]; split <;> first | rfl | (exfalso; simp_all; done))
 refine A2 2 ?_
 (refine D2 rfl (D1 rfl rfl rfl zR0 zL0 rfl) rfl rfl ?_; rintro _ ⟨b979, rfl⟩)
 refine aP 11 rfl (qA rfl) rfl ?_
 refine A2 12 ?_
 refine C9 rfl ?_
 refine aP 13 rfl (qA rfl) rfl ?_
 refine A4 ?_
 (refine J6 Pk.here (fun G5 hle5 hsl5 hno5 => ?_))
 refine C1 ?_
 refine E9 (rT rfl) (rC rfl (A3 rfl rfl)) (rT rfl) ?_
 (have hk1 : k = 13 := zR0; subst hk1; refine O4.one hsl5 (hrty.mono hle5) (hrty.mono hle5) ?_; rw [A4c]; split <;> first | rfl | (exfalso; simp_all; done))
 refine J2 ?_
 (have hk11 : k = 11 ∨ k = 12 := zR0; have hl1 : n = 1 := hop.2.2 zR0; obtain ⟨b0, o0, q0, d0, hp0, hat0, hre0, hg0⟩ := hsl.kidD hkl (i := 0) zR0 zR0; cases hp0; refine sP (B8 (j := 0) rfl rfl rfl zR0) rfl rfl ?_)
 refine sL (A5 rfl rfl (hat0 _) rfl) rfl rfl ?_
 (refine F4 rfl (B0d 5 (h.getD 0 B4) G _ (.inr rfl) (A4b har zR0) hre0) rfl rfl (fun v G1 hle1 hh => ?_); obtain ⟨ma, mca, mb, mcb, rfl, hma, hmb, hma2, hmb2, hmm⟩ := hh; obtain ⟨p1, c1, e1, rfl, _⟩ := hma.open; obtain ⟨p2, c2, e2, rfl, _⟩ := hmb.open)
 refine B5 ?_
 refine sE (A6 rfl) rfl (fun b1009 => ?_)
 refine sE (A6 rfl) rfl (fun b1010 => ?_)
 refine E1 ?_
 refine sE (A6 rfl) rfl (fun b1019 => ?_)
 refine E1 ?_
 refine sB (qE rfl rfl) rfl rfl (fun h1028 => ?_) (fun h1028 => ?_)
 refine E7 ?_
 (have hl1 : n = 1 := hop.2.2 zR0; obtain ⟨b0, o0, q0, d0, hp0, hat0, hre0, hg0⟩ := hsl.kidD hkl (i := 0) zR0 zR0; cases hp0; refine D3 D4 rfl ?_)
 refine J3 (i := 0) (l' := [tt,ff,ff,ff,ff,ff,ff,ff,ff]) rfl C8 (A3 rfl rfl) rfl zP0 rfl rfl ?_
 refine aL 1 rfl (A3 rfl rfl) rfl ?_
 refine aL 4 rfl (A3 rfl rfl) rfl ?_
 refine aP 5 rfl (qM rfl) rfl ?_
 refine A2 2 ?_
 (refine H1 rfl rfl (A2m _ ma mb _ _ _ ⟨by omega, by omega⟩ hma hmb) rfl rfl rfl (fun v GB hleB hh => ?_); obtain ⟨cB, rfl, hrB⟩ := hh; obtain ⟨p7, c7, e7, rfl, _⟩ := hrB.open; have hma' := hma.mono hleB; have hmb' := hmb.mono hleB)
 refine A2 3 ?_
 (refine D2 rfl (D1 rfl rfl rfl zR0 zL0 rfl) rfl rfl ?_; rintro _ ⟨b1046, rfl⟩)
 refine aP 6 rfl (qA rfl) rfl ?_
 refine A2 7 ?_
 refine C9 rfl ?_
 refine aP 8 rfl (qA rfl) rfl ?_
 refine A4 ?_
 (refine J6 Pk.here (fun G5 hle5 hsl5 hno5 => ?_))
 refine tT ?_
 refine E9 (rT rfl) (rC rfl (A3 rfl rfl)) (rT rfl) ?_
 (refine O4.one hsl5 (hrB.mono hle5) (hmb'.mono hle5) ?_; rw [A44 zR0]; cases hq : U5 5 (h.getD 0 B4) with | none => rfl | some q => (have hq2 := hmm q hq; subst hq2; dsimp only; rw [if_pos zR0]; rfl))
 refine A9 ?_
 (have hl1 : n = 1 := hop.2.2 zR0; obtain ⟨b0, o0, q0, d0, hp0, hat0, hre0, hg0⟩ := hsl.kidD hkl (i := 0) zR0 zR0; cases hp0; refine D3 D4 rfl ?_)
 refine J3 (i := 0) (l' := [tt,ff,ff,ff,ff,ff,ff,ff,ff]) rfl C8 (A3 rfl rfl) rfl zP0 rfl rfl ?_
 refine aL 1 rfl (A3 rfl rfl) rfl ?_
 refine aL 4 rfl (A3 rfl rfl) rfl ?_
 refine aP 5 rfl (qM rfl) rfl ?_
 refine A2 2 ?_
 (refine H1 rfl rfl (A2m _ ma mb _ _ _ ⟨by omega, by omega⟩ hma hmb) rfl rfl rfl (fun v GB hleB hh => ?_); obtain ⟨cB, rfl, hrB⟩ := hh; obtain ⟨p7, c7, e7, rfl, _⟩ := hrB.open; have hma' := hma.mono hleB; have hmb' := hmb.mono hleB)
 refine A2 3 ?_
 (refine D2 rfl (D1 rfl rfl rfl zR0 zL0 rfl) rfl rfl ?_; rintro _ ⟨b1071, rfl⟩)
 refine aP 6 rfl (qA rfl) rfl ?_
 refine A2 7 ?_
 refine C9 rfl ?_
 refine aP 8 rfl (qA rfl) rfl ?_
 refine A4 ?_
 (refine J6 Pk.here (fun G5 hle5 hsl5 hno5 => ?_))
 refine tT ?_
 refine E9 (rT rfl) (rC rfl (A3 rfl rfl)) (rT rfl) ?_
 (refine O4.one hsl5 (hrB.mono hle5) (hma'.mono hle5) ?_; rw [A44 zR0]; cases hq : U5 5 (h.getD 0 B4) with | none => rfl | some q => (have hq2 := hmm q hq; subst hq2; dsimp only; rw [if_neg zR0]; rfl))
theorem B0v {cx : Cx} {k : Int} {nm : ByteArray} {ty : Ty} {h w : List Ty} {t : Ty} (he : A0N cx k nm ty h = some (w, t)) : H9 t = true ∧ P8 cx k nm ty h = some (w, t) := by
 unfold A0N at he
 split at he
 ·rename_i w' t' hw
  split at he
  ·cases he; exact ⟨by assumption, hw⟩
  ·cases he
 ·cases he
theorem B5x {cx : Cx} {k : Int} {nm : ByteArray} {ty : Ty} {h w : List Ty} {t : Ty} (hop : (k = 6 ∨ k = 7 ∨ k = 8 ∨ k = 10 → h.length = 2) ∧ (k = 9 → h.length = 3) ∧ (k = 5 ∨ k = 11 ∨ k = 12 ∨ k = 13 → h.length = 1)) (hk : 1 ≤ k ∧ k ≤ 14) (h14 : k ≠ 14) (he : P8 cx k nm ty h = some (w, t)) : w.length ≤ h.length := by
 have hkk : k = 1 ∨ k = 2 ∨ (k = 3 ∨ k = 4) ∨ k = 5 ∨ k = 6 ∨ (k = 7 ∨ k = 8) ∨ k = 9 ∨ k = 10 ∨ (k = 11 ∨ k = 12) ∨ k = 13 := by omega
 rcases hkk with rfl | rfl | hk | rfl | rfl | hk | rfl | rfl | hk | rfl
 ·rw [mW1] at he; split at he <;> cases he; simp
 ·rw [mW2] at he; cases he; simp
 ·rw [A58 hk] at he; cases he; simp
 ·rw [mW5] at he; cases he; simp
 ·rw [mW6] at he
  split at he
  ·split at he <;> cases he
   have := hop.1 zR0; simp [this]
  ·cases he
 ·rw [A0j hk] at he
  split at he <;> cases he
  have := hop.1 zR0; simp [this]
 ·rw [mW9] at he
  split at he <;> cases he
  have := hop.2.1 zR0; simp [this]
 ·rw [A7K] at he; cases he; simp
 ·rw [A44 hk] at he
  split at he
  ·cases he; have := hop.2.2 zR0; simp [this]
  ·cases he
 ·rw [A4c] at he
  split at he <;> cases he
  have := hop.2.2 zR0; simp [this]
theorem W8.snoc {G G' : IM} {cx : Cx} {n : Nat} {p' : Option Addr} {c' : Nat} {es : List (List Value)} {e : List Value} {nm : ByteArray} {t : Ty} (h1 : n = cx.length) (hl : es.length = n) (h2 : ∀ x ∈ es, x.length = 3) (h3 : ∀ x ∈ es, x.all (·.oneCell') = true)
  (h4 : ∀ (i : Nat) (b : ByteArray × Ty), cx[i]? = some b → ∃ e, es[i]? = some e ∧ A38 G b e) (hg : B9 G G') (he : A38 G' (nm, t) e) (hs : Sl G' p' (n + 1) c' 3 (es.flatten ++ e)) : W8 G' (cx ++ [(nm, t)]) p' (n + 1) c' := by
 have hel : e.length = 3 ∧ e.all (·.oneCell') = true := by obtain ⟨q, d, rfl, _⟩ := he; exact ⟨rfl, rfl⟩
 refine ⟨by simp [h1], es ++ [e], D7.of (by simpa using hs) (by simp [hl]) ?_ ?_, ?_⟩
 ·simp only [List.forall_mem_append, List.forall_mem_singleton]; exact ⟨h2, hel.1⟩
 ·simp only [List.forall_mem_append, List.forall_mem_singleton]; exact ⟨h3, hel.2⟩
 ·intro i b hb
  rw [List.getElem?_append] at hb ⊢
  split at hb
  ·rename_i hi
   obtain ⟨e', he', hr⟩ := h4 i b hb
   rw [if_pos zR0]
   exact ⟨e', he', hr.mono hg⟩
  ·rename_i hi
   have : i - cx.length = 0 := by
    apply Classical.byContradiction; intro hc
    rw [List.getElem?_eq_none (by simp; omega)] at hb; cases hb
   rw [this] at hb
   simp only [List.getElem?_cons_zero, Option.some.injEq] at hb
   subst hb
   rw [if_neg zR0]
   exact ⟨e, by rw [show i - es.length = 0 by omega]; rfl, he⟩
theorem B5y (G : IM) (p : Option Addr) (n c : Nat) (es : List (List Value)) (h : D7 G p n c 3 es) (hn : n ≤ 4294967296) :
  Fn Tryz.prog 93 [.slice p n c] [] G (fun G' v outs => G' = G ∧ ∃ p' c', v = .slice p' n c' ∧ outs = [.slc p' c' 130 3 n es.flatten]) := by
 have hp := h.sl.nn
 have hS := h.sl
 have hone : ∀ u ∈ es.flatten, u.oneCell' = true := by
  intro u hu
  obtain ⟨e, he, hue⟩ := List.mem_flatten.1 hu
  exact List.all_eq_true.1 (h.one e he) u hue
 refine C0 Tryz.func93 rfl Tryz.ntmps93 Tryz.results93 rfl ?_
 intro w0
 cases p with
 | none =>
  obtain rfl := hp rfl
  obtain rfl : es = [] := List.length_eq_zero_iff.1 h.len
  refine X1 130 3 ?_
  refine E7 ?_
  refine sQ (B21 rfl rfl rfl) rfl ?_
  refine J2 ?_
  refine H8 (rT rfl) A0.refl ?_
  exact ⟨rfl, _, _, rfl, rfl⟩
 | some a =>
  refine E7 ?_
  refine sQ (A8H rfl rfl rfl) rfl ?_
  refine B0 ?_
  (refine J8 (D1 rfl rfl rfl zR0 zL0 rfl) rfl ?_; rintro _ ⟨b18, rfl⟩)
  refine D8 ?_
  refine A7f rfl rfl rfl rfl rfl (fun _ _ => by repeat (first | exact Sw.here | apply Sw.there)) hS hone (Nat.zero_le _) zL0 zR0 rfl (fun pn cn => ?_)
  refine B5 ?_
  refine H8 (rT rfl) A0.refl ?_
  exact ⟨rfl, _, _, by rw [Nat.zero_add], by rw [Nat.zero_add]; rfl⟩
theorem A0x.no {r : Option Ty} {G G' : IM} {cu : List Value} {u : Ty} {b : Bool} (hu : C7 G' u cu) (hb : b = false) (h : r = none) : A0x r G G' (.tuple ⟨[.agg ⟨cu⟩, .bool b]⟩) [] := by
 subst hb h
 exact ⟨rfl, cu, u, rfl, hu, by simp⟩
theorem A0x.yes {r : Option Ty} {G G' : IM} {cu : List Value} {u : Ty} {b : Bool} (hu : C7 G' u cu) (hb : b = true) (h : r = some u) : A0x r G G' (.tuple ⟨[.agg ⟨cu⟩, .bool b]⟩) [] := by
 subst hb h
 exact ⟨rfl, cu, u, rfl, hu, fun t ht => by cases ht; rfl⟩
section
variable {cx : Cx} {k : Int} {nm : ByteArray} {num : Int} {ty fr : Ty} {lb : Int} {ks : List Tm}
theorem A45 {us w : List Ty} {t : Ty} (h : P8 cx k nm ty us = some (w, t)) {b : Bool} (hb : H9 t = b) : A0N cx k nm ty us = if b = true then some (w, t) else none := by
 unfold A0N; rw [h]; simp only [hb]
theorem B5z {us : List Ty} (h : P8 cx k nm ty us = none) : A0N cx k nm ty us = none := by
 unfold A0N; rw [h]
end
def B5A (r : Tm) : Tm × Bool := if O9 r = true then (r, true) else (I8, false)
def B9C (t : Tm) (path : List Int) (x : Tm) : Tm × Bool := if O9 t = true ∧ O9 x = true ∧ tAt t path ≠ none then B5A (A9T t path x) else (I8, false)
mutual
theorem A7L (D N : Int) : ∀ (t : Tm) (d d' : Int), d' ≤ d → L6 D N t d = true → L6 D N t d' = true
 | .mk k nm num ty fr lb ks, d, d', hd, h => by
  obtain ⟨h1, h2, h3, h4⟩ := A0b h
  rw [A23 zR0 h2 h3]
  exact A59 D N ks _ _ zR0 h4
theorem A59 (D N : Int) : ∀ (ts : List Tm) (d d' : Int), d' ≤ d → I2 D N ts d = true → I2 D N ts d' = true
 | [], d, d', hd, h => by rw [I2]
 | t :: ts, d, d', hd, h => by
  rw [I2, Bool.and_eq_true] at h ⊢
  exact ⟨A7L D N t d d' hd h.1, A59 D N ts d d' hd h.2⟩
end
def I5 : List Tm → List Ty → List Ty → Int → List Tm × Int
 | u :: us, a :: h, b :: w, l => if T3 a b = true then (u :: (I5 us h w l).1, (I5 us h w l).2) else (S5 u a b (l + 1) :: (I5 us h w (l + 1)).1, (I5 us h w (l + 1)).2)
 | us, _, _, l => (us, l)
def T9 (cx : Cx) (k : Int) (nm : ByteArray) (num : Int) (ty fr : Ty) (lb : Int) (us : List Tm) (h : List Ty) (l : Int) : Option (Tm × Ty × Int) :=
 match A0N cx k nm ty h with
 | none => none
 | some (w, t) => some (if k = 13 then (I5 us h w l).1.getD 0 I8 else .mk k nm num ty fr lb (I5 us h w l).1, t, (I5 us h w l).2)
mutual
def P4 (cx : Cx) : Tm → Int → Option (Tm × Ty × Int)
 | .mk k nm num ty fr lb ks, l => match O8 (R5 cx k nm ty) ks l with
  | none => none
  | some (us, h, l') => T9 cx k nm num ty fr lb us h l'
def O8 (cx : Cx) : List Tm → Int → Option (List Tm × List Ty × Int)
 | [], l => some ([], [], l)
 | t :: ts, l => match P4 cx t l with
  | none => none
  | some (u, a, l') => match O8 cx ts l' with
   | none => none
   | some (us, h, l'') => some (u :: us, a :: h, l'')
end
def X7 (e : Tm) : Option (Tm × Ty) := if M3 e = true then (match P4 [] e 0 with | some (u, t, _) => some (u, t) | none => none) else none
def A0q (cx : Cx) (k : Int) (nm : ByteArray) (ty : Ty) (h : List Ty) : Option Ty := match P8 cx k nm ty h with
 | some (_, t) => if (k = 5 ∨ k = 10) ∧ H9 t = false then none else some t
 | none => none
mutual
def T5 (cx : Cx) : Tm → Option Ty
 | .mk k nm num ty fr lb ks => match A0c (R5 cx k nm ty) ks with
  | none => none
  | some h => A0q cx k nm ty h
def A0c (cx : Cx) : List Tm → Option (List Ty)
 | [] => some []
 | t :: ts => match T5 cx t with
  | none => none
  | some a => match A0c cx ts with
   | none => none
   | some h => some (a :: h)
end
theorem A3a (k : Int) (ks : List Ty) (d : Int) : M9 (.mk k ks) d = (decide (d ≤ 4) && decide (Y6 k = ks.length) && U4 ks (d + 1)) := by rw [M9]
mutual
theorem A46 : ∀ (t : Ty) (d e : Int), e ≤ d → M9 t d = true → M9 t e = true
 | .mk k ks, d, e, h, hs => by
  rw [A3a, Bool.and_eq_true, Bool.and_eq_true, decide_eq_true_eq, decide_eq_true_eq] at hs ⊢
  exact ⟨⟨by omega, hs.1.2⟩, B0w ks (d + 1) (e + 1) zR0 hs.2⟩
theorem B0w : ∀ (ts : List Ty) (d e : Int), e ≤ d → U4 ts d = true → U4 ts e = true
 | [], d, e, h, hs => by rw [U4]
 | t :: ts, d, e, h, hs => by
  rw [U4, Bool.and_eq_true] at hs ⊢
  exact ⟨A46 t d e h hs.1, B0w ts d e h hs.2⟩
end
mutual
theorem A7M : ∀ (a b : Ty) (d : Int), N6 a b = true → M9 a d = true → M9 b d = true → M9 (Y2 a b) d = true
 | .mk k ks, .mk k' ks', d, hc, ha, hb => by
  rw [A10]
  split
  ·exact hb
  ·split
   ·exact ha
   ·rw [V9] at hc
    rw [A3a, Bool.and_eq_true, Bool.and_eq_true, decide_eq_true_eq, decide_eq_true_eq] at ha hb ⊢
    simp only [Bool.or_eq_true, Bool.and_eq_true, decide_eq_true_eq] at hc
    obtain ⟨hk, hl⟩ : k = k' ∧ P7 ks ks' = true := by
     rcases hc with (h | h) | h
     ·contradiction
     ·contradiction
     ·exact h
    subst hk
    obtain ⟨m1, m2⟩ := B0x ks ks' (d + 1) hl ha.2 hb.2
    exact ⟨⟨ha.1.1, by rw [m2]; exact ha.1.2⟩, m1⟩
theorem B0x : ∀ (xs ys : List Ty) (d : Int), P7 xs ys = true → U4 xs d = true → U4 ys d = true → U4 (W2 xs ys) d = true ∧ (W2 xs ys).length = xs.length
 | [], [], d, _, _, _ => by simp [W2, U4]
 | [], b :: ys, d, hc, _, _ => by simp [P7] at hc
 | a :: xs, [], d, hc, _, _ => by simp [P7] at hc
 | a :: xs, b :: ys, d, hc, ha, hb => by
  rw [P7, Bool.and_eq_true] at hc
  rw [U4, Bool.and_eq_true] at ha hb
  obtain ⟨m1, m2⟩ := B0x xs ys d hc.2 ha.2 hb.2
  rw [W2, U4, Bool.and_eq_true]
  exact ⟨⟨A7M a b d hc.1 ha.1 hb.1, m1⟩, by simp [m2]⟩
end
theorem A7N {cx : Cx} (h : ∀ b ∈ cx, H9 b.2 = true) {nm : ByteArray} {t : Ty} : ∀ {n : Nat}, A0n cx nm n = some t → H9 t = true
 | 0, hl => by simp [A0n] at hl
 | n + 1, hl => by
  rw [A0n] at hl
  split at hl
  ·rename_i b hb
   split at hl
   ·cases hl; exact h b (List.mem_of_getElem? hb)
   ·exact A7N h hl
  ·exact A7N h hl
theorem B0y {k : Int} {t a b : Ty} (hk : k = 4 ∨ k = 5) (ht : H9 t = true) (h : U5 k t = some (a, b)) : H9 a = true ∧ H9 b = true := by
 obtain ⟨tk, ks⟩ := t
 rw [show U5 k (.mk tk ks) = (if tk = k then some (ks.getD 0 B4, ks.getD 1 B4) else if tk = 1 then some (S0, S0) else none) from rfl] at h
 by_cases he : tk = k
 ·rw [if_pos he] at h
  cases h
  unfold H9 at ht ⊢
  rw [A3a, Bool.and_eq_true, Bool.and_eq_true, decide_eq_true_eq, decide_eq_true_eq] at ht
  have h2 : ks.length = 2 := by
   have : Y6 tk = 2 := by rw [he]; rcases hk with rfl | rfl <;> rfl
   omega
  match ks, h2, ht.2 with
  | [x, y], _, hL =>
   simp only [U4, Bool.and_eq_true] at hL
   exact ⟨A46 _ 2 1 zR0 hL.1, A46 _ 2 1 zR0 hL.2.1⟩
 ·rw [if_neg he] at h
  by_cases h1 : tk = 1
  ·rw [if_pos h1] at h
   cases h
   exact ⟨by decide, by decide⟩
  ·rw [if_neg h1] at h; cases h
theorem B5B {l : List Ty} {i : Nat} (h : i < l.length) : l.getD i B4 ∈ l := by
 rw [List.getD_eq_getElem?_getD, List.getElem?_eq_getElem h, Option.getD_some]; exact List.getElem_mem h
theorem B5C {cx : Cx} {k : Int} {nm : ByteArray} {ty : Ty} {h w : List Ty} {t : Ty} (hcx : ∀ b ∈ cx, H9 b.2 = true) (hh : ∀ a ∈ h, H9 a = true) (hd : H9 (h.getD 0 B4) = true ∨ h = []) (hty : k = 13 → H9 ty = true) (hn : E8 k = (h.length : Int)) (hw : P8 cx k nm ty h = some (w, t)) (h510 : k ≠ 5 ∧ k ≠ 10) : H9 t = true := by
 have hg : ∀ i, i < h.length → H9 (h.getD i B4) = true := fun i hi => hh _ (B5B hi)
 unfold P8 at hw
 split at hw
 ·split at hw
  ·rename_i u hu; cases hw; exact A7N hcx hu
  ·cases hw
 split at hw
 ·cases hw; decide
 split at hw
 ·cases hw; decide
 split at hw
 ·exact absurd zO0 h510.1
 split at hw
 ·rename_i hk6
  have hl : h.length = 2 := by have : E8 k = 2 := (by rw [hk6]; rfl); omega
  split at hw
  ·rename_i a b hm
   split at hw
   ·cases hw; exact (B0y (.inl rfl) (hg 0 zR0) hm).2
   ·cases hw
  ·cases hw
 split at hw
 ·split at hw
  ·cases hw; split <;> decide
  ·cases hw
 split at hw
 ·rename_i hk9
  have hl : h.length = 3 := by have : E8 k = 3 := (by rw [hk9]; rfl); omega
  split at hw
  ·rename_i hc
   cases hw
   exact A7M _ _ 1 hc.2 (hg 1 zR0) (hg 2 zR0)
  ·cases hw
 split at hw
 ·exact absurd zO0 h510.2
 split at hw
 ·split at hw
  ·cases hw; exact hty zO0
  ·cases hw
 ·split at hw
  ·rename_i a b hm
   have hl : h.length ≠ 0 := by
    intro h0
    rw [List.length_eq_zero_iff] at h0
    subst h0
    rw [show U5 5 (([] : List Ty).getD 0 B4) = none from rfl] at hm
    cases hm
   cases hw
   have := B0y (.inr rfl) (hg 0 zR0) hm
   split
   ·exact this.2
   ·exact this.1
  ·cases hw
def cxV (cx : Cx) : Prop := ∀ b ∈ cx, H9 b.2 = true
theorem A4d : cxV [] := by intro b hb; simp at hb
theorem A47 {cx : Cx} {k : Int} {nm : ByteArray} {ty : Ty} (h : cxV cx) (ht : k = 5 → H9 ty = true) : cxV (R5 cx k nm ty) := by
 unfold R5
 split
 ·intro b hb
  rcases List.mem_append.1 hb with hb | hb
  ·exact h b hb
  ·obtain rfl := List.mem_singleton.1 hb; exact ht zO0
 ·exact h
theorem B5D {cx : Cx} {k : Int} {nm : ByteArray} {ty : Ty} {h : List Ty} (hcx : cxV cx) (hh : ∀ a ∈ h, H9 a = true) (hty : k = 13 → H9 ty = true) (hn : E8 k = (h.length : Int)) :
  (∀ w t, A0N cx k nm ty h = some (w, t) → A0q cx k nm ty h = some t ∧ H9 t = true) ∧ (A0N cx k nm ty h = none → A0q cx k nm ty h = none) := by
 unfold A0N A0q
 have hv := fun w t (e : P8 cx k nm ty h = some (w, t)) (h5 : k ≠ 5 ∧ k ≠ 10) => B5C hcx hh (by cases h with | nil => exact .inr rfl | cons x xs => exact .inl (hh _ zS0)) hty hn e h5
 cases hw : P8 cx k nm ty h with
 | none => simp
 | some p =>
  obtain ⟨w, t⟩ := p
  have hv := hv w t hw
  simp only
  by_cases h5 : k = 5 ∨ k = 10
  ·cases ht : H9 t with
   | true => simp [ht]
   | false => simp [h5]
  ·have := hv zR0
   simp [this]
theorem B0z (ks : List Tm) (ih : ∀ t ∈ ks, ∀ d cx l, L6 12 14 t d = true → cxV cx → (∀ u a l', P4 cx t l = some (u, a, l') → T5 cx t = some a ∧ H9 a = true) ∧ (P4 cx t l = none → T5 cx t = none)) :
  ∀ d cx l, I2 12 14 ks d = true → cxV cx → (∀ us h l', O8 cx ks l = some (us, h, l') → A0c cx ks = some h ∧ (∀ a ∈ h, H9 a = true) ∧ h.length = ks.length ∧ us.length = ks.length) ∧ (O8 cx ks l = none → A0c cx ks = none) := by
 induction ks with
 | nil =>
  intro d cx l _ _
  refine ⟨fun us h l' he => ?_, fun he => by simp [O8] at he⟩
  simp only [O8, Option.some.injEq, Prod.mk.injEq] at he
  obtain ⟨rfl, rfl, _⟩ := he
  exact ⟨by rw [A0c], by simp, rfl, rfl⟩
 | cons t ts ihl =>
  intro d cx l hs hcx
  rw [I2, Bool.and_eq_true] at hs
  obtain ⟨a1, a2⟩ := ih t List.mem_cons_self d cx l hs.1 hcx
  rw [O8, A0c]
  cases he : P4 cx t l with
  | none => rw [a2 he]; exact ⟨fun _ _ _ h => by simp at h, fun _ => rfl⟩
  | some p =>
   obtain ⟨u, a, l1⟩ := p
   obtain ⟨b1, b2⟩ := a1 u a l1 he
   rw [b1]
   obtain ⟨c1, c2⟩ := ihl (fun x hx => ih x (List.mem_cons_of_mem _ hx)) d cx l1 hs.2 hcx
   simp only
   cases hL : O8 cx ts l1 with
   | none => rw [c2 hL]; exact ⟨fun _ _ _ h => by simp at h, fun _ => rfl⟩
   | some q =>
    obtain ⟨us, h, l2⟩ := q
    obtain ⟨d1, d2, d3, d4⟩ := c1 us h l2 hL
    rw [d1]
    refine ⟨fun us' h' l' e => ?_, fun e => by simp at e⟩
    simp only [Option.some.injEq, Prod.mk.injEq] at e
    obtain ⟨rfl, rfl, _⟩ := e
    refine ⟨rfl, fun x hx => ?_, by simp [d3], by simp [d4]⟩
    rcases List.mem_cons.1 hx with rfl | hx
    ·exact b2
    ·exact d2 x hx
theorem A48 : ∀ (t : Tm) (d : Int) (cx : Cx) (l : Int), L6 12 14 t d = true → cxV cx → (∀ u a l', P4 cx t l = some (u, a, l') → T5 cx t = some a ∧ H9 a = true) ∧ (P4 cx t l = none → T5 cx t = none) := by
 refine Tm.ind fun k nm num ty fr lb ks ih d cx l hs hcx => ?_
 obtain ⟨_, _, h3, h4⟩ := A0b hs
 obtain ⟨n1, _, _, _, _, n6, _⟩ := X5.1 h3
 obtain ⟨L1, L2⟩ := B0z ks ih (d + 1) (R5 cx k nm ty) l h4 (A47 hcx fun hk => n6 zR0)
 rw [P4, T5]
 cases hL : O8 (R5 cx k nm ty) ks l with
 | none => rw [L2 hL]; exact ⟨fun _ _ _ h => by simp at h, fun _ => rfl⟩
 | some q =>
  obtain ⟨us, h, l2⟩ := q
  obtain ⟨d1, d2, d3, d4⟩ := L1 us h l2 hL
  rw [d1]
  obtain ⟨e1, e2⟩ := B5D (k := k) (nm := nm) (ty := ty) hcx d2 (fun hk => n6 (.inr (.inl hk))) (by rw [d3]; exact n1)
  simp only [T9]
  cases hN : A0N cx k nm ty h with
  | none => rw [e2 hN]; exact ⟨fun _ _ _ h => by simp at h, fun _ => rfl⟩
  | some p =>
   obtain ⟨w, t⟩ := p
   obtain ⟨f1, f2⟩ := e1 w t hN
   rw [f1]
   refine ⟨fun u a l' e => ?_, fun e => by simp at e⟩
   simp only [Option.some.injEq, Prod.mk.injEq] at e
   obtain ⟨_, rfl, _⟩ := e
   exact ⟨rfl, f2⟩
theorem B5E {cx : Cx} {k : Int} {nm : ByteArray} {num : Int} {ty fr : Ty} {lb : Int} {ks : List Tm} {T : Ty} {us w : List Ty} (hu : A0D (R5 cx k nm ty) ks = some us) (hk : k ≠ 14) (hv : H9 T = true) (hw : P8 cx k nm ty us = some (w, T)) (hs : A4V w us = true) : A1H cx (.mk k nm num ty fr lb ks) = some T := by
 rw [A1H, hu]
 simp only [if_neg hk]
 unfold A0N
 rw [hw]
 simp only [hv, if_true, hs]
theorem B5F {cx : Cx} {a : Tm} {us : List Ty} (h : A0D cx [a] = some us) : ∃ x, A1H cx a = some x ∧ us = [x] := by
 rw [A0D] at h
 split at h
 ·cases h
 ·rename_i x hx
  rw [A0D] at h
  simp only [Option.some.injEq] at h
  exact ⟨x, hx, h.symm⟩
theorem B5G {cx : Cx} {a : Tm} {x : Ty} (h : A1H cx a = some x) : A0D cx [a] = some [x] := by rw [A0D, h]; rfl
mutual
theorem A3J : ∀ a : Ty, N6 a a = true
 | .mk k ks => by rw [V9, B0A ks]; simp
theorem B0A : ∀ xs : List Ty, P7 xs xs = true
 | [] => rfl
 | a :: xs => by rw [P7, A3J a, B0A xs]; rfl
end
mutual
theorem A7O : ∀ a : Ty, Y2 a a = a
 | .mk k ks => by
  rw [A10, B0B ks]
  by_cases h : k = 1
  ·rw [if_pos h]
  ·rw [if_neg h, if_neg h]
theorem B0B : ∀ xs : List Ty, W2 xs xs = xs
 | [] => rfl
 | a :: xs => by rw [W2, A7O a, B0B xs]
end
theorem A6a {k : Int} {ks : List Ty} (hk : k = 4 ∨ k = 5) (h : H9 (.mk k ks) = true) : ∃ a b, ks = [a, b] ∧ H9 a = true ∧ H9 b = true := by
 unfold H9 at h ⊢
 rw [A3a, Bool.and_eq_true, Bool.and_eq_true, decide_eq_true_eq, decide_eq_true_eq] at h
 have h2 : ks.length = 2 := by
  have : Y6 k = 2 := by rcases hk with rfl | rfl <;> rfl
  omega
 match ks, h2, h.2 with
 | [x, y], _, hL =>
  simp only [U4, Bool.and_eq_true] at hL
  exact ⟨x, y, rfl, A46 _ 2 1 zR0 hL.1, A46 _ 2 1 zR0 hL.2.1⟩
theorem B5H {k : Int} {ks : List Ty} (h : H9 (.mk k ks) = true) (hk : k ≠ 4) (hk5 : k ≠ 5) : (k = 1 ∨ k = 2 ∨ k = 3) ∧ ks = [] := by
 unfold H9 at h
 rw [A3a, Bool.and_eq_true, Bool.and_eq_true, decide_eq_true_eq, decide_eq_true_eq] at h
 obtain ⟨h1, h2, h3⟩ := Q0 k
 have hl := h.1.2
 have hk3 : k = 1 ∨ k = 2 ∨ k = 3 := by
  apply Classical.byContradiction
  intro hc
  rw [h3 zR0 zR0 zR0 hk hk5] at hl; omega
 rw [h1 hk3] at hl
 exact ⟨hk3, List.length_eq_zero_iff.1 zR0⟩
section inv
variable {cx : Cx} {nm : ByteArray} {num : Int} {ty fr : Ty} {lb : Int} {a b c : Tm} {T : Ty}
theorem B0C : ∀ xs : List Ty, A4V xs xs = true
 | [] => rfl
 | a :: xs => by rw [A4V, A7s, B0C xs]; rfl
theorem B5I (h : A1H cx a = some fr) : A1H cx (.mk 14 nm num ty fr lb [a]) = some ty := by
 rw [A1H, show R5 cx 14 nm ty = cx from rfl, B5G h]
 simp only [if_true, List.getD_cons_zero, A7s]
end inv
theorem B0D (cx : Cx) (x nm : ByteArray) (t : Ty) : Z5 (cx ++ [(x, t)]) nm = if x = nm then some t else Z5 cx nm := by
 unfold Z5
 rw [List.length_append, show ([(x, t)] : Cx).length = 1 from rfl]
 have hl : (cx ++ [(x, t)])[cx.length]? = some (x, t) := by rw [List.getElem?_append_right (Nat.le_refl _)]; simp
 by_cases h : x = nm
 ·rw [A7t hl h, if_pos h]
 ·rw [A7u hl h, if_neg h]
  have : ∀ n, n ≤ cx.length → A0n (cx ++ [(x, t)]) nm n = A0n cx nm n := by
   intro n
   induction n with
   | zero => intro _; rfl
   | succ n ih =>
    intro hn
    rw [A0n, A0n, List.getElem?_append_left zR0, ih zR0]
  exact this _ (Nat.le_refl _)
theorem A6b {cx : Cx} : ∀ {ks : List Tm} {i : Nat} (hi : i < ks.length) {l l' l2 : Int} {us : List Tm} {h : List Ty} {u : Tm} {a : Ty}, O8 cx (ks.take i) l = some (us, h, l') → P4 cx ks[i] l' = some (u, a, l2) → O8 cx (ks.take (i + 1)) l = some (us ++ [u], h ++ [a], l2)
 | [], i, hi, _, _, _, _, _, _, _, _, _ => by simp at hi
 | t :: ts, 0, _, l, l', l2, us, h, u, a, h1, h2 => by
  simp only [List.take_zero, O8, Option.some.injEq, Prod.mk.injEq] at h1
  obtain ⟨rfl, rfl, rfl⟩ := h1
  simp only [List.getElem_cons_zero] at h2
  simp [O8, h2]
 | t :: ts, i + 1, hi, l, l', l2, us, h, u, a, h1, h2 => by
  simp only [List.take_succ_cons, O8] at h1 ⊢
  split at h1
  ·cases h1
  ·rename_i u1 a1 l1 he
   split at h1
   ·cases h1
   ·rename_i us1 h1' l1' hL
    simp only [Option.some.injEq, Prod.mk.injEq] at h1
    obtain ⟨rfl, rfl, rfl⟩ := h1
    simp only [List.getElem_cons_succ] at h2
    have := A6b (ks := ts) (i := i) (by simpa using hi) hL h2
    simp only [this, List.cons_append]
theorem B0E {cx : Cx} : ∀ {ks : List Tm} {i : Nat} (hi : i < ks.length) {l l' : Int} {us : List Tm} {h : List Ty}, O8 cx (ks.take i) l = some (us, h, l') → P4 cx ks[i] l' = none → O8 cx ks l = none
 | [], i, hi, _, _, _, _, _, _ => by simp at hi
 | t :: ts, 0, _, l, l', us, h, h1, h2 => by
  simp only [List.take_zero, O8, Option.some.injEq, Prod.mk.injEq] at h1
  obtain ⟨rfl, rfl, rfl⟩ := h1
  simp only [List.getElem_cons_zero] at h2
  simp [O8, h2]
 | t :: ts, i + 1, hi, l, l', us, h, h1, h2 => by
  simp only [List.take_succ_cons, O8] at h1 ⊢
  split at h1
  ·cases h1
  ·rename_i u1 a1 l1 he
   split at h1
   ·cases h1
   ·rename_i us1 h1' l1' hL
    simp only [Option.some.injEq, Prod.mk.injEq] at h1
    obtain ⟨rfl, rfl, rfl⟩ := h1
    simp only [List.getElem_cons_succ] at h2
    have := B0E (ks := ts) (i := i) (by simpa using hi) hL h2
    simp only [this]
theorem A0y (us : List Tm) (h : List Ty) (l : Int) : I5 us h [] l = (us, l) := by
 cases us with
 | nil => rfl
 | cons u us => cases h <;> rfl
theorem A6c : ∀ (us : List Tm) (h w : List Ty) (l : Int) (j : Nat) (hj : j < w.length) (hu : w.length ≤ us.length) (hh : w.length ≤ h.length),
  (I5 us h (w.take j) l).1.length = us.length ∧ (∀ (hq : j < (I5 us h (w.take j) l).1.length), (I5 us h (w.take j) l).1[j] = us[j]'zR0) ∧
  I5 us h (w.take (j + 1)) l = if T3 (h[j]'zR0) w[j] = true then I5 us h (w.take j) l else ((I5 us h (w.take j) l).1.set j (S5 (us[j]'zR0) (h[j]'zR0) w[j] ((I5 us h (w.take j) l).2 + 1)), (I5 us h (w.take j) l).2 + 1)
 | us, h, [], l, j, hj, _, _ => by simp at hj
 | [], h, b :: w, l, j, _, hu, _ => by simp at hu
 | u :: us, [], b :: w, l, j, _, _, hh => by simp at hh
 | u :: us, a :: h, b :: w, l, 0, _, _, _ => by
  refine ⟨by simp [I5], by simp [I5], ?_⟩
  simp only [List.take_succ_cons, List.take_zero, I5, A0y, List.getElem_cons_zero, List.set_cons_zero]
 | u :: us, a :: h, b :: w, l, j + 1, hj, hu, hh => by
  simp only [List.take_succ_cons, List.getElem_cons_succ]
  by_cases hs : T3 a b = true
  ·have ih := A6c us h w l j (by simpa using hj) (by simpa using hu) (by simpa using hh)
   simp only [I5, if_pos hs]
   obtain ⟨i1, i2, i3⟩ := ih
   refine ⟨by simp [i1], fun hq => by simp [i2], ?_⟩
   rw [i3]
   split <;> simp
  ·have ih := A6c us h w (l + 1) j (by simpa using hj) (by simpa using hu) (by simpa using hh)
   simp only [I5, if_neg hs]
   obtain ⟨i1, i2, i3⟩ := ih
   refine ⟨by simp [i1], fun hq => by simp [i2], ?_⟩
   rw [i3]
   split <;> simp
theorem A4e : ∀ (us : List Tm) (h w : List Ty) (l : Int), (I5 us h w l).1.length = us.length
 | [], h, w, l => by simp [I5]
 | u :: us, [], w, l => by simp [I5]
 | u :: us, a :: h, [], l => by simp [I5]
 | u :: us, a :: h, b :: w, l => by
  simp only [I5]
  split
  ·simp [A4e us h w l]
  ·simp [A4e us h w (l + 1)]
theorem B5J {us : List Tm} {h w : List Ty} {l : Int} {j : Nat} (hj : j < w.length) (hu : w.length ≤ us.length) (hh : w.length ≤ h.length) :
  (I5 us h (w.take (j + 1)) l).1 = (I5 us h (w.take j) l).1.set j (if T3 (h[j]'zR0) w[j] = true then us[j]'zR0 else S5 (us[j]'zR0) (h[j]'zR0) w[j] ((I5 us h (w.take j) l).2 + 1)) ∧
  (I5 us h (w.take (j + 1)) l).2 = (if T3 (h[j]'zR0) w[j] = true then (I5 us h (w.take j) l).2 else (I5 us h (w.take j) l).2 + 1) := by
 obtain ⟨h1, h2, h3⟩ := A6c us h w l j hj hu hh
 by_cases hs : T3 (h[j]'zR0) w[j] = true
 ·rw [h3, if_pos hs, if_pos hs, if_pos hs]
  refine ⟨?_, rfl⟩
  rw [← h2 zR0, List.set_getElem_self]
 ·rw [h3, if_neg hs, if_neg hs, if_neg hs]
  exact ⟨rfl, rfl⟩
theorem A3b : ∀ (us : List Tm) (h w : List Ty) (l : Int), l ≤ (I5 us h w l).2 ∧ (I5 us h w l).2 ≤ l + us.length
 | [], h, w, l => by simp [I5]
 | u :: us, [], w, l => by simp [I5]; omega
 | u :: us, a :: h, [], l => by simp [I5]; omega
 | u :: us, a :: h, b :: w, l => by
  simp only [I5]
  split
  ·have := A3b us h w l; simp only [List.length_cons]; omega
  ·have := A3b us h w (l + 1); simp only [List.length_cons]; omega
mutual
def A2U : Ty → Ty → Bool
 | .mk k ks, t => decide (t.k = 1) || (decide (k = t.k) && A1f ks t.ks)
def A1f : List Ty → List Ty → Bool
 | [], [] => true
 | a :: xs, b :: ys => A2U a b && A1f xs ys
 | _, _ => false
end
theorem A2r (k k' : Int) (ks ks' : List Ty) : A2U (.mk k ks) (.mk k' ks') = (decide (k' = 1) || (decide (k = k') && A1f ks ks')) := by rw [A2U]; rfl
mutual
def A3K : Tm → Tm → Bool
 | .mk k nm num ty _ _ ks, u => decide (k = u.k ∧ nm = u.nm ∧ num = u.num) && (decide (k ≠ 5 ∧ k ≠ 13) || A2U ty u.ty) && A3c ks u.ks
def A3c : List Tm → List Tm → Bool
 | [], [] => true
 | a :: xs, b :: ys => A3K a b && A3c xs ys
 | _, _ => false
end
theorem B0F {k k' : Int} {nm nm' : ByteArray} {num num' : Int} {ty ty' fr fr' : Ty} {lb lb' : Int} {ks ks' : List Tm} :
  A3K (.mk k nm num ty fr lb ks) (.mk k' nm' num' ty' fr' lb' ks') = true ↔ k = k' ∧ nm = nm' ∧ num = num' ∧ (k = 5 ∨ k = 13 → A2U ty ty' = true) ∧ A3c ks ks' = true := by
 rw [A3K]
 show (decide (k = k' ∧ nm = nm' ∧ num = num') && (decide (k ≠ 5 ∧ k ≠ 13) || A2U ty ty') && A3c ks ks') = true ↔ _
 simp only [Bool.and_eq_true, Bool.or_eq_true, decide_eq_true_eq]
 constructor
 ·rintro ⟨⟨⟨a, b, c⟩, e⟩, d⟩
  exact ⟨a, b, c, fun h => e.resolve_left zR0, d⟩
 ·rintro ⟨a, b, c, e, d⟩
  refine ⟨⟨⟨a, b, c⟩, ?_⟩, d⟩
  by_cases h : k = 5 ∨ k = 13
  ·exact .inr (e h)
  ·exact .inl zR0
def A6d (a b : Tm) : Bool := M3 a && (M3 b && A3K a b)
end Gw
end Go.Proofs.YtbdacdnffkhgeaaGreatDoor
