/-
  What a step gives is small.
-/
import Derived.Test.YtfpgncjeejickaaGreatKe3
import Derived.Test.YtfpgncjeejickaaGreatKe2
import Derived.Test.YtfpgncjeejickaaGreatKe1
import Derived.Test.YtfpgncjeejickaaGreatKe0
set_option linter.unusedVariables false
set_option linter.unusedSimpArgs false
set_option maxHeartbeats 0
set_option maxRecDepth 100000
set_option synthInstance.maxSize 4000
set_option synthInstance.maxHeartbeats 0
namespace Go.Proofs.YtfpgncjeejickaaGreat
open Go Go.RowKit
namespace Gw
theorem B2p {t : Tm} (h : t.small) : t.nm.size ≤ 4294967296 ∧ t.ty.small ∧ t.fr.small ∧ t.ks.length ≤ 4294967296 ∧ Tm.smallL t.ks := by
 cases t; exact A0t.1 h
theorem A8m {ks : List Ty} (h : Ty.smallL ks) (i : Nat) : (kt ks i).small := by
 unfold kt
 rw [List.getD_eq_getElem?_getD]
 cases hi : ks[i]? with
 | none => exact A1X
 | some t => exact Ty.smallL_mem h t (List.mem_of_getElem? hi)
theorem A8n {t : Ty} (h : t.small) : Ty.smallL t.ks := by cases t; simp only [Ty.small] at h; exact h.2
theorem A4B (t : Ty) : (Y0 t).small := by
 unfold Y0; split <;> simp [N4, Ty.small, Ty.smallL]
theorem A2o {e : Tm} {a b : Ty} {l : Int} (h : e.small) (ha : a.small) (hb : b.small) : (N1 e a b l).small := A0t.2 ⟨by decide, hb, ha, by simp, by simp [Tm.smallL, h]⟩
theorem A1Z (e : Tm) (a b : Ty) (l : Int) : C6 (N1 e a b l) = C6 e + 1 := by rw [N1, A0s, D4, D4]
theorem A5W {k : Int} {ks : List Tm} (h : Tm.smallL ks) (hl : ks.length ≤ 4294967296) : (A0k k ks).small := A0t.2 ⟨by decide, A1X, A1X, hl, h⟩
theorem A5X (k : Int) (ks : List Tm) : C6 (A0k k ks) = D4 ks + 1 := by rw [A0k, A0s]
theorem B2q {a : Tm} (h : a.small) : Tm.smallL [a] := by simp [Tm.smallL, h]
theorem B2r {a b : Tm} (h : a.small) (h2 : b.small) : Tm.smallL [a, b] := by simp [Tm.smallL, h, h2]
theorem A8o : C6 D7 = 1 := by simp [D7, C6, D4]
theorem B2s (t : Tm) : C6 t = D4 t.ks + 1 := by cases t; rw [A0s]; rfl
theorem B2t {k : Int} {ty fr : Ty} {lb : Int} {ks : List Tm} (hk : Tm.smallL ks) (hc : D4 ks ≤ 199) (ht : ty.small) (hf : fr.small) : (T0 k ty fr lb ks).1.small ∧ C6 (T0 k ty fr lb ks).1 ≤ 40100 := by
 have a0 := A1Y hk 0
 have a1 := A1Y hk 1
 have a2 := A1Y hk 2
 have n0 := A4y (ks := ks) 0
 have n1 := A4y (ks := ks) 1
 have n2 := A4y (ks := ks) 2
 obtain ⟨_, b2, b3, _, b5⟩ := B2p a0
 have e0 := B2s (kd ks 0)
 have m := fun i => A4y (ks := (kd ks 0).ks) i
 have st : S9.1.small ∧ C6 S9.1 ≤ 40100 := ⟨A3D, by simp [S9, D7, C6, D4]⟩
 have hty := fun i => A8m (A8n b2) i
 have hfr := fun i => A8m (A8n b3) i
 unfold T0
 split
 ·split
  ·obtain ⟨s1, s2⟩ := A8d (x := (kd ks 0).nm) a1 (kd (kd ks 0).ks 0) (A1Y b5 0)
   refine ⟨s1, Nat.le_trans s2 ?_⟩
   have : C6 (kd (kd ks 0).ks 0) * C6 (kd ks 1) ≤ 200 * 200 := Nat.mul_le_mul (by have := m 0; omega) (by omega)
   omega
  ·split
   ·refine ⟨A2o (A5W (B2r (A1Y b5 0) (A2o a1 (hty 0) (hfr 0))) (by simp)) (hfr 1) (hty 1), ?_⟩
    have := m 0
    show C6 (N1 _ _ _ _) ≤ 40100
    rw [A1Z, A5X, D4, D4, D4, A1Z]
    omega
   ·exact st
 ·split
  ·split
   ·split
    ·exact ⟨A0t.2 ⟨by decide, A1X, A1X, by simp, by simp [Tm.smallL]⟩, by simp [A1G, C6, D4]⟩
    ·exact ⟨A5W (by simp [Tm.smallL]) (by simp), by simp [V8, A5X, D4]⟩
   ·exact st
  ·split
   ·split
    ·exact ⟨a1, by show C6 (kd ks 1) ≤ _; omega⟩
    ·split
     ·exact ⟨a2, by show C6 (kd ks 2) ≤ _; omega⟩
     ·exact st
   ·split
    ·split
     ·exact ⟨A1Y b5 _, by have := m (k - 11).toNat; show C6 (kd _ _) ≤ _; omega⟩
     ·split
      ·refine ⟨A2o (A5W (B2q (A1Y b5 0)) (by simp)) (hfr _) (hty _), ?_⟩
       have := m 0
       show C6 (N1 _ _ _ _) ≤ 40100
       rw [A1Z, A5X, D4, D4]
       omega
      ·exact st
    ·split
     ·split
      ·exact ⟨a0, by show C6 (kd ks 0) ≤ _; omega⟩
      ·split
       ·refine ⟨A2o (A2o a0 hf (A4B fr)) (A4B fr) ht, ?_⟩
        show C6 (N1 _ _ _ _) ≤ 40100
        rw [A1Z, A1Z]; omega
       ·split
        ·refine ⟨A2o (A2o a0 hf (A4B ty)) (A4B ty) ht, ?_⟩
         show C6 (N1 _ _ _ _) ≤ 40100
         rw [A1Z, A1Z]; omega
        ·split
         ·exact st
         ·split
          ·exact ⟨A1Y b5 0, by have := m 0; show C6 (kd _ _) ≤ _; omega⟩
          ·exact ⟨A3D, by simp [D7, C6, D4]⟩
     ·exact st
def A5Y (u : Ty) (G : IM) : IM → Value → List A4 → Prop := K5 fun G' v => ∃ cells, v = .agg ⟨cells⟩ ∧ B5 G' u cells
def A1H (r : Option Ty) (G : IM) : IM → Value → List A4 → Prop := K5 fun G' v => ∃ cells u, v = .tuple ⟨[.agg ⟨cells⟩, .bool r.isSome]⟩ ∧ B5 G' u cells ∧ ∀ t, r = some t → u = t
theorem B2u {G : IM} {k : Int} {a b : Ty} {ca cb : List Value} {p : Option Addr} {c : Nat} (hk : E3 k) (ha : B5 G a ca) (hb : B5 G b cb) (hs : Sl G p 2 c 2 (ca ++ cb)) : B5 G (.mk k [a, b]) [.int .i64 k, .slice p 2 c] := by
 have hL : E6 G [a, b] [ca, cb] := by simp only [E6]; exact ⟨ca, [cb], rfl, ha, cb, [], rfl, hb, rfl⟩
 exact E6.ty (ts := [a, b]) (es := [ca, cb]) hL rfl (by simpa using hs) hk
theorem A5Z : ∀ (t t' : Ty) (G : IM) (cells cells' : List Value), B5 G t cells → B5 G t' cells' → Fn Tryz.prog 138 [.agg ⟨cells⟩, .agg ⟨cells'⟩] [] G (H6 (.bool (M5 t t')) G) := by
 refine Ty.ind fun k ks ih t' G cells cells' hr hr' => ?_
 obtain ⟨k', ks'⟩ := t'
 obtain ⟨p, c, es, rfl, hk, hsl, hkl⟩ := hr.open
 obtain ⟨p', c', es', rfl, hk', hsl', hkl'⟩ := hr'.open
 simp only [Ty.k, Ty.ks] at hk hsl hkl hk' hsl' hkl' ⊢
 obtain ⟨A, hA⟩ : ∃ A, Z8 ks ks' = A := ⟨_, rfl⟩
 have hA' : A = true ↔ ks.length = ks'.length ∧ ∀ i, i < ks.length → M5 (ks.getD i A8) (ks'.getD i A8) = true := by
  rw [← hA, A3t]
  constructor
  ·rintro ⟨h1, h2⟩
   refine ⟨h1, fun i hi => ?_⟩
   have := h2 i hi (by omega)
   simpa [List.getD_eq_getElem?_getD, List.getElem?_eq_getElem hi, List.getElem?_eq_getElem (show i < ks'.length by omega)] using this
  ·rintro ⟨h1, h2⟩
   refine ⟨h1, fun i hi hi' => ?_⟩
   have := h2 i hi
   simpa [List.getD_eq_getElem?_getD, List.getElem?_eq_getElem hi, List.getElem?_eq_getElem hi'] using this
 refine B3 Tryz.func138 rfl Tryz.ntmps138 Tryz.results138 rfl ?_
 intro w0
 refine tS (tR ?_)
 refine sE (C0 rfl rfl) rfl (fun b3 => ?_)
 refine sE (C0 rfl rfl) rfl (fun b4 => ?_)
 refine D9 ?_
 refine sB (qE rfl rfl) rfl rfl (fun h14 => ?_) (fun h14 => ?_)
 refine Q3 ?_
 refine I5 rfl (A7s _ _ _ _ _ _ _ _ _ hsl hsl' _ [] [] [] (fun i => M5 (ks.getD i A8) (ks'.getD i A8)) A hA' (fun i e e' he he' => ih _ (hkl.inv he A8).1 _ _ _ _ (hkl.inv he A8).2 (hkl'.inv he' A8).2)) rfl rfl ?_
 refine J7 ?_
 exact ⟨rfl, by rw [A2j, hA]; first | (rw [decide_eq_true (p := k = k') (by omega)]; rfl) | (rw [decide_eq_false (p := k = k') (by omega)]; rfl), rfl⟩
 refine M6 ?_
 exact ⟨rfl, by rw [A2j, hA]; first | (rw [decide_eq_true (p := k = k') (by omega)]; rfl) | (rw [decide_eq_false (p := k = k') (by omega)]; rfl), rfl⟩
theorem A10 (k : Int) (a b : Ty) (G : IM) (ca cb : List Value) (hk : E3 k) (hra : B5 G a ca) (hrb : B5 G b cb) :
  Fn Tryz.prog 133 [.int .i64 k, .agg ⟨ca⟩, .agg ⟨cb⟩] [] G (A5Y (.mk k [a, b]) G) := by
 obtain ⟨pa, cca, ea, rfl, _⟩ := hra.open
 obtain ⟨pb, ccb, eb, rfl, _⟩ := hrb.open
 refine B3 Tryz.func133 rfl Tryz.ntmps133 Tryz.results133 rfl ?_
 intro w0
 refine tS (tR ?_)
 refine sE (C0 rfl rfl) rfl (fun b3 => ?_)
 refine sE (C0 rfl rfl) rfl (fun b4 => ?_)
 refine sE (A7 rfl) rfl (fun b5 => ?_)
 refine C4 ?_
 (refine L4 (C8 rfl rfl rfl (by omega) (by unfold maxLen; omega) rfl) rfl ?_; rintro _ ⟨b13, rfl⟩)
 refine sQ (T3 rfl rfl) rfl (F4 ?_)
 refine sD (nS ?_)
 (refine H5 (by repeat (first | exact Pk.here | apply Pk.there)) (fun G5 hle5 hsl5 hno5 => ?_))
 refine tT ?_
 refine E0 (rC rfl (A1 rfl rfl)) ?_
 exact ⟨rfl, _, rfl, B2u hk (hra.mono hle5) (hrb.mono hle5) hsl5⟩
theorem A1I (k tk : Int) (ks : List Ty) : R6 k (.mk tk ks) = if tk = k then some (ks.getD 0 A8, ks.getD 1 A8) else if tk = 1 then some (N4, N4) else none := rfl
def A8p (k : Int) (t : Ty) (G : IM) : IM → Value → List A4 → Prop := K5 fun G' v => ∃ a ca b cb, v = .tuple ⟨[.agg ⟨ca⟩, .agg ⟨cb⟩, .bool (R6 k t).isSome]⟩ ∧ B5 G' a ca ∧ B5 G' b cb ∧ E4 a ∧ E4 b ∧ ∀ p, R6 k t = some p → p = (a, b)
theorem A8q (k : Int) (t : Ty) (G : IM) (cells : List Value) (hk : k = 4 ∨ k = 5) (ha : E4 t) (hr : B5 G t cells) :
  Fn Tryz.prog 134 [.agg ⟨cells⟩, .int .i64 k] [] G (A8p k t G) := by
 obtain ⟨tk, ks⟩ := t
 have ha2 := ha
 rw [E4] at ha2
 have hkid := ha.kid
 obtain ⟨p, c, es, rfl, htk, hsl, hkl⟩ := hr.open
 simp only [Ty.k, Ty.ks] at htk hsl hkl ⊢
 refine B3 Tryz.func134 rfl Tryz.ntmps134 Tryz.results134 rfl ?_
 intro w0
 refine tS (tR ?_)
 refine sE (C0 rfl rfl) rfl (fun b3 => ?_)
 refine sE (A7 rfl) rfl (fun b4 => ?_)
 refine sE (A7 rfl) rfl (fun b5 => ?_)
 refine I7 ?_
 refine B7 (tS (tR (sQ (qM rfl) rfl (sB (qE rfl rfl) rfl rfl (fun h20 => ?_) (fun h20 => ?_)))))
 refine sQ (qA rfl) rfl (sD (nS (qT rfl (tS ?_))))
 (have hlen : ks.length = 2 := ha2.1 (by omega); obtain ⟨b, o, q0, d0, hp0, hat0, hre0, hg0⟩ := hsl.kidTy hkl (i := 0) (by omega) (by omega); obtain ⟨b', o', q1, d1, hp1, hat1, hre1, hg1⟩ := hsl.kidTy hkl (i := 1) (by omega) (by omega); subst hp0; cases hp1; refine D5 D6 rfl ?_)
 refine I3 (i := 0) (l' := [tt,ff,ff,ff,ff,ff,ff,ff,ff,ff,ff]) rfl D1 (B0 rfl) rfl (by kernel_rfl) rfl rfl ?_
 refine aL 1 rfl (B9 rfl rfl) rfl ?_
 refine aP 2 rfl (B2 (j := 0) rfl rfl rfl (by omega)) rfl ?_
 refine aL 3 rfl (A3 rfl rfl (hat0 _) rfl) rfl ?_
 refine aP 4 rfl (B0 rfl) rfl ?_
 refine aL 5 rfl (B9 rfl rfl) rfl ?_
 refine aP 6 rfl (B2 (j := 1) rfl rfl rfl (by omega)) rfl ?_
 refine aL 7 rfl (A3 rfl rfl (hat1 _) rfl) rfl ?_
 refine A2 8 ?_
 refine H7 rfl ?_
 refine A2 9 ?_
 refine H7 rfl ?_
 refine aP 10 rfl (qA rfl) rfl ?_
 refine C2 (nS (tT (rB (rS ?_))))
 refine C7 (rC rfl (A1 rfl rfl)) (rC rfl (A1 rfl rfl)) (rT rfl) ?_
 (refine ⟨rfl, _, _, _, _, ?_, hre0, hre1, hkid _ (List.getElem_mem (by omega)), hkid _ (List.getElem_mem (by omega)), ?_⟩ <;> rw [A1I, if_pos (by omega)] <;> first | rfl | (intro p hp; cases hp; simp [hlen]))
 refine sQ (qA rfl) rfl (sD (nS (cF rfl (tS (tR ?_)))))
 refine sB (qE rfl rfl) rfl rfl (fun h53 => ?_) (fun h53 => ?_)
 refine sQ (qA rfl) rfl (sD (nS (qT rfl (tS (tR ?_)))))
 refine I5 rfl ((A0E _ _)) rfl rfl ?_
 refine I5 rfl ((A0E _ _)) rfl rfl ?_
 refine F4 ?_
 refine F4 ?_
 refine sQ (qA rfl) rfl (sD (nS (tT (rB (rS ?_)))))
 refine C7 (rC rfl (A1 rfl rfl)) (rC rfl (A1 rfl rfl)) (rT rfl) ?_
 (refine ⟨rfl, _, _, _, _, ?_, A0A _, A0A _, A3q, A3q, ?_⟩ <;> rw [A1I, if_neg (by omega), if_pos (by omega)] <;> first | rfl | (intro p hp; cases hp; rfl))
 refine V2 ?_
 refine C7 (rC rfl (A1 rfl rfl)) (rC rfl (A1 rfl rfl)) (rT rfl) ?_
 (refine ⟨rfl, A8, _, A8, _, ?_, N6 _ ⟨by omega, by omega⟩, N6 _ ⟨by omega, by omega⟩, S8 (by omega) (by omega), S8 (by omega) (by omega), ?_⟩ <;> rw [A1I, if_neg (by omega), if_neg (by omega)] <;> first | rfl | (intro p hp; cases hp))
def A2P (G : IM) (b : ByteArray × Ty) (e : List Value) : Prop := ∃ q d, e = [.string b.1, .int .i64 b.2.k, .slice q b.2.ks.length d] ∧ B5 G b.2 [.int .i64 b.2.k, .slice q b.2.ks.length d]
theorem A2P.mono {G G' : IM} {b : ByteArray × Ty} {e : List Value} (h : A2P G b e) (hg : B6 G G') : A2P G' b e := by
 obtain ⟨q, d, h1, h2⟩ := h
 exact ⟨q, d, h1, h2.mono hg⟩
def T1 (G : IM) (cx : Cx) (p : Option Addr) (n c : Nat) : Prop := n = cx.length ∧ ∃ es : List (List Value), C9 G p n c 3 es ∧ ∀ (i : Nat) (b : ByteArray × Ty), cx[i]? = some b → ∃ e, es[i]? = some e ∧ A2P G b e
theorem T1.mono {G G' : IM} {cx : Cx} {p : Option Addr} {n c : Nat} (h : T1 G cx p n c) (hg : B6 G G') : T1 G' cx p n c := by
 obtain ⟨h1, es, h2, h3⟩ := h
 refine ⟨h1, es, h2.mono hg, fun i b hb => ?_⟩
 obtain ⟨e, he, hr⟩ := h3 i b hb
 exact ⟨e, he, hr.mono hg⟩
theorem T1.nil (G : IM) : T1 G [] none 0 0 := ⟨rfl, [], C9.nil _ _, by simp⟩
theorem T1.le {G : IM} {cx : Cx} {p : Option Addr} {n c : Nat} (h : T1 G cx p n c) : n ≤ 9223372036854775807 := by
 obtain ⟨h1, es, h2, h3⟩ := h
 exact h2.le
theorem T1.get {G : IM} {cx : Cx} {p : Option Addr} {n c : Nat} (h : T1 G cx p n c) {i : Nat} (hi : i < n) :
  ∃ b o nm t q d, cx[i]? = some (nm, t) ∧ p = some ⟨b, o, none⟩ ∧ (∀ hp, At hp G b (o + i * 3) [.string nm, .int .i64 t.k, .slice q t.ks.length d]) ∧ B5 G t [.int .i64 t.k, .slice q t.ks.length d] ∧ G b ≠ none := by
 obtain ⟨h1, es, h2, h3⟩ := h
 obtain ⟨e, b, o, he, rfl, hl, _, hat, hgb⟩ := h2.get (i := i) (by omega)
 have hx : cx[i]? = some cx[i] := List.getElem?_eq_getElem (by omega)
 obtain ⟨e', he', q, d, h4, h5⟩ := h3 i _ hx
 rw [he] at he'
 obtain rfl := Option.some.inj he'
 rw [h4] at hat
 exact ⟨b, o, cx[i].1, cx[i].2, q, d, hx, rfl, hat, h5, hgb⟩
theorem B2v (G : IM) (cx : Cx) (p : Option Addr) (n c : Nat) (nm : ByteArray) (hx : T1 G cx p n c) :
  Fn Tryz.prog 132 [.slice p n c, .string nm] [] G (A1H (Z9 cx nm) G) := by
 have hn := hx.le
 have hn1 := hx.1
 refine B3 Tryz.func132 rfl Tryz.ntmps132 Tryz.results132 rfl ?_
 intro w0
 refine tS (tR ?_)
 refine sE (A7 rfl) rfl (fun b3 => ?_)
 refine D8 ?_
 refine sP (P0 rfl rfl (by omega) (by omega)) rfl rfl ?_
 refine sQ (qA rfl) rfl (sD (nS ?_))
 refine B7 ?_
 (refine L3 (fun (i : Nat) => ⟨[(6, .int .i64 ((i : Int) - 1)), (0, .slice p n c), (1, .string nm), (4, .pointer (some ⟨b3, 0, none⟩))], [.blk b3 [.int .i64 0, .slice none 0 0]], G⟩) (fun i => i ≤ n ∧ X2 cx nm i = Z9 cx nm) (fun i => i) n ?_ ?_ ?_)
 exact D3
 exact ⟨Nat.le_refl _, by rw [hn1]; rfl⟩
 (rintro i ⟨hi, hlk⟩)
 refine tS (tS (tR (sQ (qM rfl) rfl ?_)))
 refine sB (A0R rfl rfl) rfl rfl (fun h25 => ?_) (fun h25 => ?_)
 refine sD (nS (qT rfl (tK (nS (tS ?_)))))
 (show I2 _ _ (.block 1 _) _ _; obtain ⟨j, rfl⟩ : ∃ j, i = j + 1 := ⟨i - 1, by omega⟩; rw [show ((j + 1 : Nat) : Int) - 1 = (j : Int) from by omega]; obtain ⟨b, o, nm1, t1, q1, d1, hcx, rfl, hat, hr1, hgb⟩ := hx.get (i := j) (by omega); refine B7 ?_)
 refine tS (tR (sQ (qM rfl) rfl (sQ (qM rfl) rfl ?_)))
 refine sP (B2 rfl rfl rfl (by omega)) rfl rfl ?_
 refine sQ (qF rfl) rfl ?_
 refine sL (A0h rfl rfl ((hat _).sub (j := 0) rfl)) rfl rfl ?_
 refine sQ (qM rfl) rfl ?_
 refine sB (A1v rfl rfl) rfl rfl (fun h41 => ?_) (fun h41 => ?_)
 refine C4 ?_
 refine sP (B2 rfl rfl rfl (by omega)) rfl rfl ?_
 refine sQ (qF rfl) rfl ?_
 refine sL (A3 rfl rfl (hat _).drop rfl) rfl rfl ?_
 refine I7 ?_
 refine I4 (rC rfl (A1 rfl rfl)) (rT rfl) ?_
 (rw [A5E hcx (by assumption)] at hlk; rw [← hlk]; exact ⟨rfl, _, _, rfl, hr1, fun t ht => by cases ht; rfl⟩)
 refine D8 ?_
 refine sP (P0 rfl rfl (by omega) (by omega)) rfl rfl ?_
 refine sQ (qA rfl) rfl (sD ?_)
 refine K7 j ?_ ?_ ?_
 exact D3
 (rw [A5F hcx (by assumption)] at hlk; exact ⟨by omega, hlk⟩)
 (show _ < _ + 1; omega)
 refine I8 ?_
 refine I4 (rC rfl (A1 rfl rfl)) (rT rfl) ?_
 (obtain rfl : i = 0 := (by omega); rw [X2] at hlk; rw [← hlk]; exact ⟨rfl, _, A8, rfl, N6 _ ⟨by omega, by omega⟩, fun t ht => by cases ht⟩)
theorem B2w {xs ys : List Ty} (h : xs.length = 2) (h' : ys.length = 2) : S0 xs ys = [T6 (xs[0]'(by omega)) (ys[0]'(by omega)), T6 (xs[1]'(by omega)) (ys[1]'(by omega))] := by
 match xs, ys, h, h' with
 | [a, b], [c, d], _, _ => rfl
theorem B2x {k k' : Int} {ks bs : List Ty} (h : J6 (.mk k ks) (.mk k' bs) = true) (hk : k ≠ 1) (hk' : k' ≠ 1) : k = k' ∧ O0 ks bs = true := by
 rw [S2] at h
 simpa [hk, hk'] using h
theorem A8r : ∀ (a b : Ty) (G : IM) (ca cb : List Value), J6 a b = true → E4 a → E4 b → B5 G a ca → B5 G b cb →
  Fn Tryz.prog 136 [.agg ⟨ca⟩, .agg ⟨cb⟩] [] G (A5Y (T6 a b) G) := by
 refine Ty.ind fun k ks ih b G ca cb hc haa hab hra hrb => ?_
 have hsa := haa.small
 have hsb := hab.small
 obtain ⟨bk, bks⟩ := b
 have hra0 := hra
 have hrb0 := hrb
 have ha2 := haa
 have hb2 := hab
 rw [E4] at ha2 hb2
 have hkida := haa.kid
 have hkidb := hab.kid
 obtain ⟨p, c, es, rfl, hk, hsl, hkl⟩ := hra.open
 obtain ⟨p', c', es', rfl, hk', hsl', hkl'⟩ := hrb.open
 simp only [Ty.k, Ty.ks] at hk hsl hkl hk' hsl' hkl' ⊢
 have hn := hsl.le
 rw [A00]
 refine B3 Tryz.func136 rfl Tryz.ntmps136 Tryz.results136 rfl ?_
 intro w0
 refine tS (tR ?_)
 refine sE (C0 rfl rfl) rfl (fun b3 => ?_)
 refine sE (C0 rfl rfl) rfl (fun b4 => ?_)
 refine sE (A7 rfl) rfl (fun b5 => ?_)
 refine sD (nS (tS ?_))
 refine B7 ?_
 refine tS (tR (sQ (B0 rfl) rfl (sL (B9 rfl rfl) rfl rfl ?_)))
 refine sB (qE rfl rfl) rfl rfl (fun h14 => ?_) (fun h14 => ?_)
 refine C4 ?_
 (refine E5 rfl (A1T _ _ _ hsb hrb0) rfl rfl (fun v G1 hle1 hh => ?_); obtain ⟨S6, F1, rfl, hs1, hn1⟩ := hh; obtain ⟨p1, c1, rfl, _⟩ := hs1.open; have hr1 := hs1.R.mono (C1.le G1 _))
 refine F4 ?_
 refine sD (nS (tT (rB (rS ?_))))
 refine E0 (rC rfl (A1 rfl rfl)) ?_
 (rw [if_pos (by omega)]; exact ⟨rfl, _, rfl, hr1⟩)
 refine D8 ?_
 refine sB (qE rfl rfl) rfl rfl (fun h39 => ?_) (fun h39 => ?_)
 refine J3 ?_
 (refine E5 rfl (A1T _ _ _ hsa hra0) rfl rfl (fun v G1 hle1 hh => ?_); obtain ⟨S6, F1, rfl, hs1, hn1⟩ := hh; obtain ⟨p1, c1, rfl, _⟩ := hs1.open; have hr1 := hs1.R.mono (C1.le G1 _))
 refine F4 ?_
 refine sD (nS (tT (rB (rS ?_))))
 refine E0 (rC rfl (A1 rfl rfl)) ?_
 (rw [if_neg (by omega)]; split <;> first | exact ⟨rfl, _, rfl, hr1⟩ | (obtain rfl : ks = [] := List.length_eq_zero_iff.1 (by omega); rw [S0]; exact ⟨rfl, _, rfl, hr1⟩; simp))
 refine H1 ?_
 refine sB (qE rfl rfl) rfl rfl (fun h66 => ?_) (fun h66 => ?_)
 refine D8 ?_
 (refine E5 rfl (A1T _ _ _ hsa hra0) rfl rfl (fun v G1 hle1 hh => ?_); obtain ⟨S6, F1, rfl, hs1, hn1⟩ := hh; obtain ⟨p1, c1, rfl, _⟩ := hs1.open; have hr1 := hs1.R.mono (C1.le G1 _))
 refine F4 ?_
 refine sD (nS (tT (rB (rS ?_))))
 refine E0 (rC rfl (A1 rfl rfl)) ?_
 (rw [if_neg (by omega)]; split <;> first | exact ⟨rfl, _, rfl, hr1⟩ | (obtain rfl : ks = [] := List.length_eq_zero_iff.1 (by omega); rw [S0]; exact ⟨rfl, _, rfl, hr1⟩; simp))
 refine D9 ?_
 (obtain ⟨hkk, hcl0⟩ := B2x hc (by omega) (by omega); subst hkk; have hcl := (A1P _ _).1 hcl0; have hlen : ks.length = 2 := (by have := ha2.2.1; have := ha2.1; omega); have hlen' : bks.length = 2 := (by omega); obtain ⟨b0, o0, q0, d0, hp0, hat0, hre0, hg0⟩ := hsl.kidTy hkl (i := 0) (by omega) (by omega); obtain ⟨b1, o1, q1, d1, hp1, hat1, hre1, hg1⟩ := hsl.kidTy hkl (i := 1) (by omega) (by omega); subst hp0; cases hp1; obtain ⟨b2, o2, q2, d2, hp2, hat2, hre2, hg2⟩ := hsl'.kidTy hkl' (i := 0) (by omega) (by omega); obtain ⟨b3, o3, q3, d3, hp3, hat3, hre3, hg3⟩ := hsl'.kidTy hkl' (i := 1) (by omega) (by omega); subst hp2; cases hp3; have hM1 := ih ks[0] (List.getElem_mem (by omega)) bks[0] G _ _ (hcl.2 0 (by omega) (by omega)) (hkida _ (List.getElem_mem (by omega))) (hkidb _ (List.getElem_mem (by omega))) hre0 hre2; refine D5 D6 rfl ?_)
 refine I3 (i := 0) (l' := [tt,ff,ff,ff,ff,ff,ff,ff,ff,ff,ff,ff,ff,ff,ff,ff,ff,ff,ff,ff,ff,ff]) rfl D1 (B0 rfl) rfl (by kernel_rfl) rfl rfl ?_
 refine aL 1 rfl (B9 rfl rfl) rfl ?_
 refine aP 2 rfl (B0 rfl) rfl ?_
 refine aL 3 rfl (B9 rfl rfl) rfl ?_
 refine aP 4 rfl (B2 (j := 0) rfl rfl rfl (by omega)) rfl ?_
 refine aL 5 rfl (A3 rfl rfl (hat0 _) rfl) rfl ?_
 refine aP 6 rfl (B0 rfl) rfl ?_
 refine aL 7 rfl (B9 rfl rfl) rfl ?_
 refine aP 8 rfl (B2 (j := 0) rfl rfl rfl (by omega)) rfl ?_
 refine aL 9 rfl (A3 rfl rfl (hat2 _) rfl) rfl ?_
 refine aP 11 rfl (B0 rfl) rfl ?_
 refine aL 12 rfl (B9 rfl rfl) rfl ?_
 refine aP 13 rfl (B2 (j := 1) rfl rfl rfl (by omega)) rfl ?_
 refine aL 14 rfl (A3 rfl rfl (hat1 _) rfl) rfl ?_
 refine aP 15 rfl (B0 rfl) rfl ?_
 refine aL 16 rfl (B9 rfl rfl) rfl ?_
 refine aP 17 rfl (B2 (j := 1) rfl rfl rfl (by omega)) rfl ?_
 refine aL 18 rfl (A3 rfl rfl (hat3 _) rfl) rfl ?_
 refine A2 10 ?_
 (refine I9 rfl rfl hM1 rfl rfl rfl (fun v G1 hle1 hh => ?_); obtain ⟨cm1, rfl, hm1⟩ := hh; have hM2 := ih ks[1] (List.getElem_mem (by omega)) bks[1] G1 _ _ (hcl.2 1 (by omega) (by omega)) (hkida _ (List.getElem_mem (by omega))) (hkidb _ (List.getElem_mem (by omega))) (hre1.mono hle1) (hre3.mono hle1))
 refine A2 19 ?_
 (refine I9 rfl rfl hM2 rfl rfl rfl (fun v G2 hle2 hh => ?_); obtain ⟨cm2, rfl, hm2⟩ := hh; have hB := A10 k _ _ G2 _ _ hk (hm1.mono hle2) hm2)
 refine A2 20 ?_
 (refine I9 rfl rfl hB rfl rfl rfl (fun v G3 hle3 hh => ?_); obtain ⟨cm3, rfl, hm3⟩ := hh; obtain ⟨p5, c5, e5, rfl, _⟩ := hm3.open)
 refine A2 21 ?_
 refine H7 rfl ?_
 refine C2 (nS (tT ?_))
 refine E0 (rC rfl (A1 rfl rfl)) ?_
 (rw [if_neg (by omega), if_neg (by omega)]; rw [B2w hlen hlen']; exact ⟨rfl, _, rfl, hm3⟩)
theorem A8s (G : IM) (p : Option Addr) (n c : Nat) (es : List (List Value)) (h : C9 G p n c 9 es) (h0 : 0 < n) (hn : n ≤ 4294967296) :
  Fn Tryz.prog 176 [.slice p n c] [] G (fun G' v outs => G' = G ∧ ∃ p' c', v = .slice p' n c' ∧ outs = [.slc p' c' 28 9 n es.flatten]) := by
 obtain ⟨hl, hc, hm, hat⟩ := h.sl
 obtain ⟨b, o, full, rfl, hg, hv⟩ := hat.resolve_left (by omega)
 have ho : ∀ u ∈ es.flatten, u.oneCell' = true := by
  intro u hu
  obtain ⟨e, he, hue⟩ := List.mem_flatten.1 hu
  exact List.all_eq_true.1 (h.one e he) u hue
 refine B3 Tryz.func176 rfl Tryz.ntmps176 Tryz.results176 rfl ?_
 intro w0
 refine D9 ?_
 refine sQ (A6G rfl rfl rfl) rfl ?_
 refine sD (nS (cF rfl (tK (nS (tS (tR ?_))))))
 (refine L4 (C8 rfl rfl rfl (by omega) (by unfold maxLen; omega) rfl) rfl ?_; rintro _ ⟨b18, rfl⟩)
 refine sQ (qM rfl) rfl ?_
 refine A37 rfl rfl rfl rfl rfl (fun _ _ => by repeat (first | exact Sw.here | apply Sw.there)) (A3V hg hv) hl ho (by unfold maxLen; omega) (by omega) rfl (fun pn cn => ?_)
 refine sQ (qA rfl) rfl (sD (nS (tT ?_)))
 refine F8 (rT rfl) A0.refl ?_
 exact ⟨rfl, _, _, by rw [Nat.zero_add], by rw [Nat.zero_add]; rfl⟩
theorem At.mono' {hp : List A4} {G G' : IM} {b o : Nat} {vs : List Value} (hg : B6 G G') (h : At [] G b o vs) : At hp G' b o vs := by
 rcases h with ⟨cs, hm, hv⟩ | ⟨n, c, el, sz, cs, hm, hv⟩ | ⟨full, hx, hv⟩
 ·cases hm
 ·cases hm
 ·exact .inr (.inr ⟨full, hg _ _ hx, hv⟩)
theorem C9.kidD {G : IM} {p : Option Addr} {n c : Nat} {es : List (List Value)} {ks : List Ty} (h : C9 G p n c 2 es) (hk : E6 G ks es) {i : Nat} (hi : i < n) (hn : i < ks.length) :
  ∃ b o q d, p = some ⟨b, o, none⟩ ∧ (∀ hp, At hp G b (o + i * 2) [.int .i64 (ks.getD i A8).k, .slice q (ks.getD i A8).ks.length d]) ∧ B5 G (ks.getD i A8) [.int .i64 (ks.getD i A8).k, .slice q (ks.getD i A8).ks.length d] ∧ G b ≠ none := by
 obtain ⟨b, o, q, d, h1, h2, h3, h4⟩ := h.kidTy hk hi hn
 rw [List.getD_eq_getElem?_getD, List.getElem?_eq_getElem hn, Option.getD_some]
 exact ⟨b, o, q, d, h1, h2, h3, h4⟩
theorem A2Q {hs : List Ty} (h : ∀ t ∈ hs, E4 t) {i : Nat} (hi : i < hs.length) : E4 (hs.getD i A8) := by
 rw [List.getD_eq_getElem?_getD, List.getElem?_eq_getElem hi, Option.getD_some]
 exact h _ (List.getElem_mem hi)
def K9 (r : Option (List Ty × Ty)) (G : IM) : IM → Value → List A4 → Prop := K5 fun G' v => ∃ p n c es w cu u, v = .tuple ⟨[.slice p n c, .agg ⟨cu⟩, .bool r.isSome]⟩ ∧ n = w.length ∧ C9 G' p n c 2 es ∧ E6 G' w es ∧ B5 G' u cu ∧ ∀ q, r = some q → q = (w, u)
theorem K9.mk {r : Option (List Ty × Ty)} {G G' : IM} {p : Option Addr} {n c : Nat} {es : List (List Value)} {w : List Ty} {cu : List Value} {u : Ty} {b : Bool} (hl : n = w.length) (hs : Sl G' p n c 2 es.flatten) (hw : E6 G' w es) (hu : B5 G' u cu) (h : r = if b = true then some (w, u) else none) :
  K9 r G G' (.tuple ⟨[.slice p n c, .agg ⟨cu⟩, .bool b]⟩) [] := by
 refine ⟨rfl, p, n, c, es, w, cu, u, ?_, hl, C9.of hs (by rw [hw.len, hl]) hw.all (fun e he => (hw.each e he).2), hw, hu, ?_⟩
 ·subst h; cases b <;> rfl
 ·subst h; cases b
  ·simp
  ·intro q hq; simpa using hq.symm
theorem K9.nil {r : Option (List Ty × Ty)} {G G' : IM} {cu : List Value} {u : Ty} {b : Bool} (hu : B5 G' u cu) (h : r = if b = true then some ([], u) else none) :
  K9 r G G' (.tuple ⟨[.slice none 0 0, .agg ⟨cu⟩, .bool b]⟩) [] := K9.mk (es := []) rfl (Sl.nil _ _) (by simp [E6]) hu h
theorem K9.one {r : Option (List Ty × Ty)} {G G' : IM} {p : Option Addr} {c : Nat} {a : Ty} {ca : List Value} {cu : List Value} {u : Ty} {b : Bool} (hs : Sl G' p 1 c 2 ca) (ha : B5 G' a ca) (hu : B5 G' u cu) (h : r = if b = true then some ([a], u) else none) :
  K9 r G G' (.tuple ⟨[.slice p 1 c, .agg ⟨cu⟩, .bool b]⟩) [] := K9.mk (es := [ca]) (w := [a]) rfl (by simpa using hs) ⟨_, _, rfl, ha, rfl⟩ hu h
theorem K9.two {r : Option (List Ty × Ty)} {G G' : IM} {p : Option Addr} {c : Nat} {a a2 : Ty} {ca ca2 : List Value} {cu : List Value} {u : Ty} {b : Bool} (hs : Sl G' p 2 c 2 (ca ++ ca2)) (ha : B5 G' a ca) (ha2 : B5 G' a2 ca2) (hu : B5 G' u cu) (h : r = if b = true then some ([a, a2], u) else none) :
  K9 r G G' (.tuple ⟨[.slice p 2 c, .agg ⟨cu⟩, .bool b]⟩) [] := K9.mk (es := [ca, ca2]) (w := [a, a2]) rfl (by simpa using hs) ⟨_, _, rfl, ha, _, _, rfl, ha2, rfl⟩ hu h
theorem K9.three {r : Option (List Ty × Ty)} {G G' : IM} {p : Option Addr} {c : Nat} {a a2 a3 : Ty} {ca ca2 ca3 : List Value} {cu : List Value} {u : Ty} {b : Bool} (hs : Sl G' p 3 c 2 (ca ++ (ca2 ++ ca3))) (ha : B5 G' a ca) (ha2 : B5 G' a2 ca2) (ha3 : B5 G' a3 ca3) (hu : B5 G' u cu) (h : r = if b = true then some ([a, a2, a3], u) else none) :
  K9 r G G' (.tuple ⟨[.slice p 3 c, .agg ⟨cu⟩, .bool b]⟩) [] := K9.mk (es := [ca, ca2, ca3]) (w := [a, a2, a3]) rfl (by simpa using hs) ⟨_, _, rfl, ha, _, _, rfl, ha2, _, _, rfl, ha3, rfl⟩ hu h
section
variable {cx : Cx} {nm : ByteArray} {ty : Ty} {h : List Ty}
theorem mW1 : N5 cx 1 nm ty h = match Z9 cx nm with | some t => some ([], t) | none => none := rfl
theorem mW2 : N5 cx 2 nm ty h = some ([], S3) := rfl
theorem A4C {k : Int} (hk : k = 3 ∨ k = 4) : N5 cx k nm ty h = some ([], X1) := by rcases hk with rfl | rfl <;> rfl
theorem mW5 : N5 cx 5 nm ty h = some ([], .mk 4 [ty, h.getD 0 A8]) := rfl
theorem mW6 : N5 cx 6 nm ty h = match R6 4 (h.getD 0 A8) with | some (a, b) => if J6 (h.getD 1 A8) a = true then some ([.mk 4 [a, b], a], b) else none | none => none := rfl
theorem V9 {k : Int} (hk : k = 7 ∨ k = 8) : N5 cx k nm ty h = if J6 (h.getD 0 A8) S3 = true ∧ J6 (h.getD 1 A8) S3 = true then some ([S3, S3], if k = 8 then X1 else S3) else none := by rcases hk with rfl | rfl <;> rfl
theorem mW9 : N5 cx 9 nm ty h = if J6 (h.getD 0 A8) X1 = true ∧ J6 (h.getD 1 A8) (h.getD 2 A8) = true then some ([X1, T6 (h.getD 1 A8) (h.getD 2 A8), T6 (h.getD 1 A8) (h.getD 2 A8)], T6 (h.getD 1 A8) (h.getD 2 A8)) else none := rfl
theorem A50 : N5 cx 10 nm ty h = some ([], .mk 5 [h.getD 0 A8, h.getD 1 A8]) := rfl
theorem A2R : N5 cx 13 nm ty h = if J6 (h.getD 0 A8) ty = true then some ([ty], ty) else none := rfl
theorem A3E {k : Int} (hk : k = 11 ∨ k = 12) : N5 cx k nm ty h = match R6 5 (h.getD 0 A8) with | some (a, b) => some ([.mk 5 [a, b]], if k = 12 then b else a) | none => none := by rcases hk with rfl | rfl <;> rfl
end
theorem K1 (G : IM) : B5 G S3 [.int .i64 2, .slice none 0 0] := N6 G ⟨by omega, by omega⟩
theorem A0e (G : IM) : B5 G X1 [.int .i64 3, .slice none 0 0] := N6 G ⟨by omega, by omega⟩
theorem B2y (cx : Cx) (k : Int) (nm : ByteArray) (num : Int) (ty fr : Ty) (lb : Int) (ks : List Tm) (h : List Ty) (G : IM) (pc : Option Addr) (nc cc : Nat) (cells : List Value) (p : Option Addr) (n c : Nat) (es : List (List Value))
  (hx : T1 G cx pc nc cc) (hops : C5 k = n) (hnl : n = h.length) (hk14 : k ≠ 14) (hta : E4 ty) (hr : A6 G (.mk k nm num ty fr lb ks) cells) (hsl : C9 G p n c 2 es) (hkl : E6 G h es) (har : ∀ t ∈ h, E4 t) :
  Fn Tryz.prog 91 [.slice pc nc cc, .agg ⟨cells⟩, .slice p n c] [] G (K9 (N5 cx k nm ty h) G) := by
 have hone := hr.one
 have hop := A4v hops
 have hkr : 1 ≤ k ∧ k ≤ 14 := by
  apply Classical.byContradiction
  intro hc
  rw [A4b hc] at hops; omega
 obtain ⟨tyk, tyks⟩ := ty
 obtain ⟨fk, fks⟩ := fr
 obtain ⟨pt, ct, pf, cf, pk, ck, ek, rfl, hk, hnum, hlb, hrty, hrfr, _, _⟩ := hr.open9
 refine B3 Tryz.func91 rfl Tryz.ntmps91 Tryz.results91 rfl ?_
 intro w0
 refine tS (tR ?_)
 refine sE (C0 rfl rfl) rfl (fun b3 => ?_)
 refine sQ (qA rfl) rfl ?_
 refine sE (A7 rfl) rfl (fun b5 => ?_)
 refine sQ (qA rfl) rfl (sD (nS (tS (tR ?_))))
 refine I5 rfl ((A0E _ _)) rfl rfl ?_
 refine I5 rfl ((A0E _ _)) rfl rfl ?_
 refine sE (A7 rfl) rfl (fun b13 => ?_)
 refine sE (A7 rfl) rfl (fun b14 => ?_)
 refine J2 ?_
 refine B7 (tS (tR (sB (qE rfl rfl) rfl rfl (fun h29 => ?_) (fun h29 => ?_))))
 refine D9 ?_
 (refine E5 rfl (B2v G cx pc nc cc nm hx) rfl rfl (fun v G1 hle1 hh => ?_); obtain ⟨cu, u, rfl, hru, hu⟩ := hh; obtain ⟨p1, c1, e1, rfl, _⟩ := hru.open)
 refine L9 ?_
 refine sE (A7 rfl) rfl (fun b43 => ?_)
 refine F4 ?_
 refine sQ (qA rfl) rfl (sD (nS (tS ?_)))
 refine D5 D6 rfl ?_
 refine O9 (i := 0) (l' := [tt,ff,ff,ff,ff]) rfl D1 (A1 rfl rfl) rfl (by kernel_rfl) rfl rfl ?_
 refine aP 1 rfl (qM rfl) rfl ?_
 refine aP 2 rfl (qA rfl) rfl ?_
 refine A2 3 ?_
 refine H7 rfl ?_
 refine aP 4 rfl (qA rfl) rfl ?_
 refine C2 (nS (tT (rB (rS ?_))))
 refine C7 (rT rfl) (rC rfl (A1 rfl rfl)) (rT rfl) ?_
 (have hk1 : k = 1 := (by omega); subst hk1; rw [mW1]; refine K9.nil hru ?_; generalize Z9 cx nm = r at hu ⊢; cases r with | none => rfl | some t => (rw [hu t rfl]; rfl))
 refine sQ (qA rfl) rfl (sD (nS (cF rfl (tS (tR ?_)))))
 refine sB (qE rfl rfl) rfl rfl (fun h69 => ?_) (fun h69 => ?_)
 refine sQ (qA rfl) rfl (sD (nS (qT rfl (tS ?_))))
 refine D5 D6 rfl ?_
 refine O9 (i := 0) (l' := [tt,ff,ff,ff]) rfl D1 (A1 rfl rfl) rfl (by kernel_rfl) rfl rfl ?_
 refine aP 1 rfl (qA rfl) rfl ?_
 refine A2 2 ?_
 refine H7 rfl ?_
 refine aP 3 rfl (qA rfl) rfl ?_
 refine C2 (nS (tT (rB (rS ?_))))
 refine C7 (rT rfl) (rC rfl (A1 rfl rfl)) (rT rfl) ?_
 (have hk1 : k = 2 := (by omega); subst hk1; exact K9.nil (K1 _) mW2)
 refine sQ (qA rfl) rfl (sD (nS (cF rfl (tS (tS (tR ?_))))))
 refine sB (qE rfl rfl) rfl rfl (fun h95 => ?_) (fun h95 => ?_)
 refine D8 ?_
 refine D5 D6 rfl ?_
 refine O9 (i := 0) (l' := [tt,ff,ff,ff]) rfl D1 (A1 rfl rfl) rfl (by kernel_rfl) rfl rfl ?_
 refine aP 1 rfl (qA rfl) rfl ?_
 refine A2 2 ?_
 refine H7 rfl ?_
 refine aP 3 rfl (qA rfl) rfl ?_
 refine C2 (nS (tT (rB (rS ?_))))
 refine C7 (rT rfl) (rC rfl (A1 rfl rfl)) (rT rfl) ?_
 (exact K9.nil (A0e _) (by rw [A4C (by omega)]; rfl))
 refine sQ (qA rfl) rfl (sD (nS (cF rfl (tR ?_))))
 refine sB (qE rfl rfl) rfl rfl (fun h122 => ?_) (fun h122 => ?_)
 refine sQ (qA rfl) rfl (sD (nS (qT rfl (tS ?_))))
 refine D5 D6 rfl ?_
 refine O9 (i := 0) (l' := [tt,ff,ff,ff]) rfl D1 (A1 rfl rfl) rfl (by kernel_rfl) rfl rfl ?_
 refine aP 1 rfl (qA rfl) rfl ?_
 refine A2 2 ?_
 refine H7 rfl ?_
 refine aP 3 rfl (qA rfl) rfl ?_
 refine C2 (nS (tT (rB (rS ?_))))
 refine C7 (rT rfl) (rC rfl (A1 rfl rfl)) (rT rfl) ?_
 (exact K9.nil (A0e _) (by rw [A4C (by omega)]; rfl))
 refine sQ (qA rfl) rfl (sD (nS (cF rfl (tS (tR ?_)))))
 refine sB (qE rfl rfl) rfl rfl (fun h147 => ?_) (fun h147 => ?_)
 refine sQ (qA rfl) rfl (sD (nS (qT rfl (tS ?_))))
 (have hl1 : n = 1 := hop.2.2 (by omega); obtain ⟨b0, o0, q0, d0, hp0, hat0, hre0, hg0⟩ := hsl.kidD hkl (i := 0) (by omega) (by omega); cases hp0; refine D5 D6 rfl ?_)
 refine I3 (i := 0) (l' := [tt,ff,ff,ff,ff,ff,ff,ff,ff]) rfl D1 (B0 rfl) rfl (by kernel_rfl) rfl rfl ?_
 refine aL 1 rfl (A1 rfl rfl) rfl ?_
 refine aP 2 rfl (qM rfl) rfl ?_
 refine aP 3 rfl (B2 (j := 0) rfl rfl rfl (by omega)) rfl ?_
 refine aL 4 rfl (A3 rfl rfl (hat0 _) rfl) rfl ?_
 refine A2 5 ?_
 (refine I9 rfl rfl (A10 4 _ _ _ _ _ ⟨by omega, by omega⟩ hrty hre0) rfl rfl rfl (fun v GB hleB hh => ?_); obtain ⟨cB, rfl, hrB⟩ := hh; obtain ⟨p7, c7, e7, rfl, _⟩ := hrB.open)
 refine aP 6 rfl (qA rfl) rfl ?_
 refine A2 7 ?_
 refine H7 rfl ?_
 refine aP 8 rfl (qA rfl) rfl ?_
 refine C2 (nS (tT (rB (rS ?_))))
 refine C7 (rT rfl) (rC rfl (A1 rfl rfl)) (rT rfl) ?_
 (have hk1 : k = 5 := (by omega); subst hk1; exact K9.nil hrB mW5)
 refine sQ (qA rfl) rfl (sD (nS (cF rfl (tS (tR ?_)))))
 refine sB (qE rfl rfl) rfl rfl (fun h178 => ?_) (fun h178 => ?_)
 refine C4 ?_
 (have hl2 : n = 2 := hop.1 (by omega); obtain ⟨b0, o0, q0, d0, hp0, hat0, hre0, hg0⟩ := hsl.kidD hkl (i := 0) (by omega) (by omega); cases hp0; refine sP (B2 (j := 0) rfl rfl rfl (by omega)) rfl rfl ?_)
 refine sL (A3 rfl rfl (hat0 _) rfl) rfl rfl ?_
 (refine E5 rfl (A8q 4 (h.getD 0 A8) G _ (.inl rfl) (A2Q har (by omega)) hre0) rfl rfl (fun v G1 hle1 hh => ?_); obtain ⟨ma, mca, mb, mcb, rfl, hma, hmb, hma2, hmb2, hmm⟩ := hh; obtain ⟨p1, c1, e1, rfl, _⟩ := hma.open; obtain ⟨p2, c2, e2, rfl, _⟩ := hmb.open; replace hsl := hsl.mono hle1; replace hkl := hkl.mono hle1; generalize hmi : (R6 4 (h.getD 0 A8)).isSome = mi; cases mi)
 refine H1 ?_
 refine sE (A7 rfl) rfl (fun b193 => ?_)
 refine sE (A7 rfl) rfl (fun b194 => ?_)
 refine F4 ?_
 refine F4 ?_
 refine sQ (qA rfl) rfl (sD (nS (tS ?_)))
 (have hl2 : n = 2 := hop.1 (by omega); obtain ⟨b0, o0, q0, d0, hp0, hat0, hre0, hg0⟩ := hsl.kidD hkl (i := 0) (by omega) (by omega); obtain ⟨b1, o1, q1, d1, hp1, hat1, hre1, hg1⟩ := hsl.kidD hkl (i := 1) (by omega) (by omega); cases hp0; cases hp1; refine D5 D6 rfl ?_)
 refine O9 (i := 0) (l' := [tt,ff,ff,ff,ff,ff,ff,ff,ff,ff,ff,ff,ff,ff,ff,ff,ff]) rfl D1 (A1 rfl rfl) rfl (by kernel_rfl) rfl rfl ?_
 refine aL 1 rfl (A1 rfl rfl) rfl ?_
 refine aL 3 rfl (A1 rfl rfl) rfl ?_
 refine aL 5 rfl (A1 rfl rfl) rfl ?_
 refine aP 6 rfl (qM rfl) rfl ?_
 refine A2 2 ?_
 (refine I9 rfl rfl (A10 _ ma mb _ _ _ ⟨by omega, by omega⟩ hma hmb) rfl rfl rfl (fun v GB hleB hh => ?_); obtain ⟨cB, rfl, hrB⟩ := hh; obtain ⟨p7, c7, e7, rfl, _⟩ := hrB.open; have hma' := hma.mono hleB; have hmb' := hmb.mono hleB)
 refine aP 7 rfl (qM rfl) rfl ?_
 refine B4 8 rfl rfl rfl ?_
 refine B4 9 rfl rfl rfl ?_
 refine B4 10 rfl rfl rfl ?_
 refine B4 11 rfl rfl rfl ?_
 refine T2 (j := 4) (j' := 12) (by kernel_rfl) ?_ ?_
 (refine E1 rfl (C8 rfl rfl rfl (by omega) (by unfold maxLen; omega) rfl) rfl rfl ?_; rintro _ ⟨b215, rfl⟩)
 refine B4 12 rfl rfl rfl ?_
 refine aP 13 rfl (N2 rfl rfl) rfl ?_
 refine aP 14 rfl (qA rfl) rfl ?_
 refine A2 15 ?_
 refine H7 rfl ?_
 refine aP 16 rfl (qA rfl) rfl ?_
 refine C2 (nS ?_)
 (refine H5 Pk.here (fun G5 hle5 hsl5 hno5 => ?_))
 refine tT (rB (rS ?_))
 refine C7 (rT rfl) (rC rfl (A1 rfl rfl)) (rT rfl) ?_
 (have hk1 : k = 6 := (by omega); subst hk1; refine K9.two hsl5 (hrB.mono hle5) (hma'.mono hle5) (hmb'.mono hle5) ?_; rw [mW6]; cases hq : R6 4 (h.getD 0 A8) with | none => rfl | some q => (rw [hq] at hmi; cases hmi))
 refine A5p (l' := [tt,tt,tt,tt,ff,tt,tt,tt,tt,tt,tt,tt,tt,ff,ff,ff,ff]) rfl rfl rfl rfl ?_
 refine aP 13 rfl (N2 rfl rfl) rfl ?_
 refine A2 4 ?_
 (refine E1 rfl (C8 rfl rfl rfl (by omega) (by unfold maxLen; omega) rfl) rfl rfl ?_; rintro _ ⟨b233, rfl⟩)
 refine aP 14 rfl (qA rfl) rfl ?_
 refine A2 15 ?_
 refine H7 rfl ?_
 refine aP 16 rfl (qA rfl) rfl ?_
 refine C2 (nS ?_)
 (refine H5 Pk.here (fun G5 hle5 hsl5 hno5 => ?_))
 refine tT (rB (rS ?_))
 refine C7 (rT rfl) (rC rfl (A1 rfl rfl)) (rT rfl) ?_
 (have hk1 : k = 6 := (by omega); subst hk1; refine K9.two hsl5 (hrB.mono hle5) (hma'.mono hle5) (hmb'.mono hle5) ?_; rw [mW6]; cases hq : R6 4 (h.getD 0 A8) with | none => rfl | some q => (rw [hq] at hmi; cases hmi))
 refine H1 ?_
 refine sE (A7 rfl) rfl (fun b250 => ?_)
 refine sE (A7 rfl) rfl (fun b251 => ?_)
 refine F4 ?_
 refine F4 ?_
 refine sQ (qA rfl) rfl (sD (nS (tS ?_)))
 (have hl2 : n = 2 := hop.1 (by omega); obtain ⟨b0, o0, q0, d0, hp0, hat0, hre0, hg0⟩ := hsl.kidD hkl (i := 0) (by omega) (by omega); obtain ⟨b1, o1, q1, d1, hp1, hat1, hre1, hg1⟩ := hsl.kidD hkl (i := 1) (by omega) (by omega); cases hp0; cases hp1; refine D5 D6 rfl ?_)
 refine O9 (i := 0) (l' := [tt,ff,ff,ff,ff,ff,ff,ff,ff,ff,ff,ff,ff,ff,ff,ff,ff]) rfl D1 (A1 rfl rfl) rfl (by kernel_rfl) rfl rfl ?_
 refine aL 1 rfl (A1 rfl rfl) rfl ?_
 refine aL 3 rfl (A1 rfl rfl) rfl ?_
 refine aL 5 rfl (A1 rfl rfl) rfl ?_
 refine aP 6 rfl (qM rfl) rfl ?_
 refine A2 2 ?_
 (refine I9 rfl rfl (A10 _ ma mb _ _ _ ⟨by omega, by omega⟩ hma hmb) rfl rfl rfl (fun v GB hleB hh => ?_); obtain ⟨cB, rfl, hrB⟩ := hh; obtain ⟨p7, c7, e7, rfl, _⟩ := hrB.open; have hma' := hma.mono hleB; have hmb' := hmb.mono hleB)
 refine aP 7 rfl (qM rfl) rfl ?_
 refine aP 8 rfl (qM rfl) rfl ?_
 refine aP 9 rfl (B2 (j := 1) rfl rfl rfl (by omega)) rfl ?_
 refine aL 10 rfl (A3 rfl rfl (At.mono' hleB (hat1 _)) rfl) rfl ?_
 refine aL 11 rfl (A1 rfl rfl) rfl ?_
 refine T2 (j := 4) (j' := 12) (by kernel_rfl) ?_ ?_
 (refine E1 rfl (C8 rfl rfl rfl (by omega) (by unfold maxLen; omega) rfl) rfl rfl ?_; rintro _ ⟨b272, rfl⟩)
 refine A2 12 ?_
 refine T4 rfl rfl ((Y8 _ _ _ _ _ (hre1.mono hleB) hma')) rfl rfl rfl (fun h274 => ?_) (fun h274 => ?_)
 refine aP 13 rfl (K8 rfl rfl) rfl ?_
 refine aP 14 rfl (qA rfl) rfl ?_
 refine A2 15 ?_
 refine H7 rfl ?_
 refine aP 16 rfl (qA rfl) rfl ?_
 refine C2 (nS ?_)
 (refine H5 Pk.here (fun G5 hle5 hsl5 hno5 => ?_))
 refine tT (rB (rS ?_))
 refine C7 (rT rfl) (rC rfl (A1 rfl rfl)) (rT rfl) ?_
 (have hk1 : k = 6 := (by omega); subst hk1; refine K9.two hsl5 (hrB.mono hle5) (hma'.mono hle5) (hmb'.mono hle5) ?_; rw [mW6]; cases hq : R6 4 (h.getD 0 A8) with | none => (rw [hq] at hmi; cases hmi) | some q => (have hq2 := hmm q hq; subst hq2; dsimp only; split <;> first | rfl | (exfalso; simp_all; done)))
 refine aP 13 rfl (K8 rfl rfl) rfl ?_
 refine aP 14 rfl (qA rfl) rfl ?_
 refine A2 15 ?_
 refine H7 rfl ?_
 refine aP 16 rfl (qA rfl) rfl ?_
 refine C2 (nS ?_)
 (refine H5 Pk.here (fun G5 hle5 hsl5 hno5 => ?_))
 refine tT (rB (rS ?_))
 refine C7 (rT rfl) (rC rfl (A1 rfl rfl)) (rT rfl) ?_
 (have hk1 : k = 6 := (by omega); subst hk1; refine K9.two hsl5 (hrB.mono hle5) (hma'.mono hle5) (hmb'.mono hle5) ?_; rw [mW6]; cases hq : R6 4 (h.getD 0 A8) with | none => (rw [hq] at hmi; cases hmi) | some q => (have hq2 := hmm q hq; subst hq2; dsimp only; split <;> first | rfl | (exfalso; simp_all; done)))
 refine T4 rfl rfl ((Y8 _ _ _ _ _ (hre1.mono hleB) hma')) rfl rfl rfl (fun h301 => ?_) (fun h301 => ?_)
 refine aP 13 rfl (K8 rfl rfl) rfl ?_
 refine A2 4 ?_
 (refine E1 rfl (C8 rfl rfl rfl (by omega) (by unfold maxLen; omega) rfl) rfl rfl ?_; rintro _ ⟨b304, rfl⟩)
 refine aP 14 rfl (qA rfl) rfl ?_
 refine A2 15 ?_
 refine H7 rfl ?_
 refine aP 16 rfl (qA rfl) rfl ?_
 refine C2 (nS ?_)
 (refine H5 Pk.here (fun G5 hle5 hsl5 hno5 => ?_))
 refine tT (rB (rS ?_))
 refine C7 (rT rfl) (rC rfl (A1 rfl rfl)) (rT rfl) ?_
 (have hk1 : k = 6 := (by omega); subst hk1; refine K9.two hsl5 (hrB.mono hle5) (hma'.mono hle5) (hmb'.mono hle5) ?_; rw [mW6]; cases hq : R6 4 (h.getD 0 A8) with | none => (rw [hq] at hmi; cases hmi) | some q => (have hq2 := hmm q hq; subst hq2; dsimp only; split <;> first | rfl | (exfalso; simp_all; done)))
 refine aP 13 rfl (K8 rfl rfl) rfl ?_
 refine A2 4 ?_
 (refine E1 rfl (C8 rfl rfl rfl (by omega) (by unfold maxLen; omega) rfl) rfl rfl ?_; rintro _ ⟨b319, rfl⟩)
 refine aP 14 rfl (qA rfl) rfl ?_
 refine A2 15 ?_
 refine H7 rfl ?_
 refine aP 16 rfl (qA rfl) rfl ?_
 refine C2 (nS ?_)
 (refine H5 Pk.here (fun G5 hle5 hsl5 hno5 => ?_))
 refine tT (rB (rS ?_))
 refine C7 (rT rfl) (rC rfl (A1 rfl rfl)) (rT rfl) ?_
 (have hk1 : k = 6 := (by omega); subst hk1; refine K9.two hsl5 (hrB.mono hle5) (hma'.mono hle5) (hmb'.mono hle5) ?_; rw [mW6]; cases hq : R6 4 (h.getD 0 A8) with | none => (rw [hq] at hmi; cases hmi) | some q => (have hq2 := hmm q hq; subst hq2; dsimp only; split <;> first | rfl | (exfalso; simp_all; done)))
 refine sQ (qA rfl) rfl (sD (nS (cF rfl (tS (tS (tR ?_))))))
 refine sB (qE rfl rfl) rfl rfl (fun h339 => ?_) (fun h339 => ?_)
 refine I7 ?_
 refine sE (A7 rfl) rfl (fun b350 => ?_)
 refine D8 ?_
 refine sP (H0 rfl rfl (by omega)) rfl rfl ?_
 refine sD (nS (cF rfl (tK (nS (tS ?_)))))
 (have hl2 : n = 2 := hop.1 (by omega); obtain ⟨b0, o0, q0, d0, hp0, hat0, hre0, hg0⟩ := hsl.kidD hkl (i := 0) (by omega) (by omega); obtain ⟨b1, o1, q1, d1, hp1, hat1, hre1, hg1⟩ := hsl.kidD hkl (i := 1) (by omega) (by omega); cases hp0; cases hp1; refine D5 D6 rfl ?_)
 refine O9 (i := 0) (l' := [tt,ff,ff,ff,ff,ff,ff,ff,ff,ff,ff,ff,ff,ff,ff,ff,ff,ff,ff]) rfl D1 (A1 rfl rfl) rfl (by kernel_rfl) rfl rfl ?_
 refine aL 1 rfl (A1 rfl rfl) rfl ?_
 refine aL 3 rfl (A1 rfl rfl) rfl ?_
 refine aP 4 rfl (qM rfl) rfl ?_
 refine aP 5 rfl (B2 (j := 0) rfl rfl rfl (by omega)) rfl ?_
 refine aL 6 rfl (A3 rfl rfl (hat0 _) rfl) rfl ?_
 refine aL 7 rfl (A1 rfl rfl) rfl ?_
 refine T2 (j := 2) (j' := 8) (by kernel_rfl) ?_ ?_
 (refine E1 rfl (C8 rfl rfl rfl (by omega) (by unfold maxLen; omega) rfl) rfl rfl ?_; rintro _ ⟨b375, rfl⟩)
 refine A2 8 ?_
 refine T4 rfl rfl ((Y8 _ _ _ _ _ hre0 (K1 _))) rfl rfl rfl (fun h377 => ?_) (fun h377 => ?_)
 refine aP 9 rfl (qM rfl) rfl ?_
 refine aP 10 rfl (qM rfl) rfl ?_
 refine aP 11 rfl (B2 (j := 1) rfl rfl rfl (by omega)) rfl ?_
 refine aL 12 rfl (A3 rfl rfl (hat1 _) rfl) rfl ?_
 refine aL 13 rfl (A1 rfl rfl) rfl ?_
 refine A2 14 ?_
 refine T4 rfl rfl ((Y8 _ _ _ _ _ hre1 (K1 _))) rfl rfl rfl (fun h384 => ?_) (fun h384 => ?_)
 refine aP 15 rfl (K8 rfl rfl) rfl ?_
 refine aP 16 rfl (qA rfl) rfl ?_
 refine A2 17 ?_
 refine H7 rfl ?_
 refine aP 18 rfl (qA rfl) rfl ?_
 refine C2 (nS ?_)
 (refine H5 Pk.here (fun G5 hle5 hsl5 hno5 => ?_))
 refine tT (rB (rS ?_))
 refine C7 (rT rfl) (rC rfl (A1 rfl rfl)) (rT rfl) ?_
 (refine K9.two hsl5 (K1 _) (K1 _) (K1 _) ?_; rw [V9 (by omega)]; first | (rw [if_pos ⟨by assumption, by assumption⟩, if_neg (by omega)]; rfl) | (rw [if_neg (fun hc => by first | exact Bool.noConfusion (hc.1.symm.trans (by assumption)) | exact Bool.noConfusion (hc.2.symm.trans (by assumption)) | exact Bool.noConfusion (hc.symm.trans (by assumption)))]; rfl))
 refine aP 15 rfl (K8 rfl rfl) rfl ?_
 refine aP 16 rfl (qA rfl) rfl ?_
 refine A2 17 ?_
 refine H7 rfl ?_
 refine aP 18 rfl (qA rfl) rfl ?_
 refine C2 (nS ?_)
 (refine H5 Pk.here (fun G5 hle5 hsl5 hno5 => ?_))
 refine tT (rB (rS ?_))
 refine C7 (rT rfl) (rC rfl (A1 rfl rfl)) (rT rfl) ?_
 (refine K9.two hsl5 (K1 _) (K1 _) (K1 _) ?_; rw [V9 (by omega)]; first | (rw [if_pos ⟨by assumption, by assumption⟩, if_neg (by omega)]; rfl) | (rw [if_neg (fun hc => by first | exact Bool.noConfusion (hc.1.symm.trans (by assumption)) | exact Bool.noConfusion (hc.2.symm.trans (by assumption)) | exact Bool.noConfusion (hc.symm.trans (by assumption)))]; rfl))
 refine aP 9 rfl (qM rfl) rfl ?_
 refine B4 10 rfl rfl rfl ?_
 refine B4 11 rfl rfl rfl ?_
 refine B4 12 rfl rfl rfl ?_
 refine B4 13 rfl rfl rfl ?_
 refine B4 14 rfl rfl rfl ?_
 refine aP 15 rfl (N2 rfl rfl) rfl ?_
 refine aP 16 rfl (qA rfl) rfl ?_
 refine A2 17 ?_
 refine H7 rfl ?_
 refine aP 18 rfl (qA rfl) rfl ?_
 refine C2 (nS ?_)
 (refine H5 Pk.here (fun G5 hle5 hsl5 hno5 => ?_))
 refine tT (rB (rS ?_))
 refine C7 (rT rfl) (rC rfl (A1 rfl rfl)) (rT rfl) ?_
 (refine K9.two hsl5 (K1 _) (K1 _) (K1 _) ?_; rw [V9 (by omega)]; first | (rw [if_pos ⟨by assumption, by assumption⟩, if_neg (by omega)]; rfl) | (rw [if_neg (fun hc => by first | exact Bool.noConfusion (hc.1.symm.trans (by assumption)) | exact Bool.noConfusion (hc.2.symm.trans (by assumption)) | exact Bool.noConfusion (hc.symm.trans (by assumption)))]; rfl))
 refine T4 rfl rfl ((Y8 _ _ _ _ _ hre0 (K1 _))) rfl rfl rfl (fun h430 => ?_) (fun h430 => ?_)
 refine aP 9 rfl (qM rfl) rfl ?_
 refine aP 10 rfl (qM rfl) rfl ?_
 refine aP 11 rfl (B2 (j := 1) rfl rfl rfl (by omega)) rfl ?_
 refine aL 12 rfl (A3 rfl rfl (hat1 _) rfl) rfl ?_
 refine aL 13 rfl (A1 rfl rfl) rfl ?_
 refine T2 (j := 2) (j' := 14) (by kernel_rfl) ?_ ?_
 (refine E1 rfl (C8 rfl rfl rfl (by omega) (by unfold maxLen; omega) rfl) rfl rfl ?_; rintro _ ⟨b437, rfl⟩)
 refine A2 14 ?_
 refine T4 rfl rfl ((Y8 _ _ _ _ _ hre1 (K1 _))) rfl rfl rfl (fun h439 => ?_) (fun h439 => ?_)
 refine aP 15 rfl (K8 rfl rfl) rfl ?_
 refine aP 16 rfl (qA rfl) rfl ?_
 refine A2 17 ?_
 refine H7 rfl ?_
 refine aP 18 rfl (qA rfl) rfl ?_
 refine C2 (nS ?_)
 (refine H5 Pk.here (fun G5 hle5 hsl5 hno5 => ?_))
 refine tT (rB (rS ?_))
 refine C7 (rT rfl) (rC rfl (A1 rfl rfl)) (rT rfl) ?_
 (refine K9.two hsl5 (K1 _) (K1 _) (K1 _) ?_; rw [V9 (by omega)]; first | (rw [if_pos ⟨by assumption, by assumption⟩, if_neg (by omega)]; rfl) | (rw [if_neg (fun hc => by first | exact Bool.noConfusion (hc.1.symm.trans (by assumption)) | exact Bool.noConfusion (hc.2.symm.trans (by assumption)) | exact Bool.noConfusion (hc.symm.trans (by assumption)))]; rfl))
 refine aP 15 rfl (K8 rfl rfl) rfl ?_
 refine aP 16 rfl (qA rfl) rfl ?_
 refine A2 17 ?_
 refine H7 rfl ?_
 refine aP 18 rfl (qA rfl) rfl ?_
 refine C2 (nS ?_)
 (refine H5 Pk.here (fun G5 hle5 hsl5 hno5 => ?_))
 refine tT (rB (rS ?_))
 refine C7 (rT rfl) (rC rfl (A1 rfl rfl)) (rT rfl) ?_
 (refine K9.two hsl5 (K1 _) (K1 _) (K1 _) ?_; rw [V9 (by omega)]; first | (rw [if_pos ⟨by assumption, by assumption⟩, if_neg (by omega)]; rfl) | (rw [if_neg (fun hc => by first | exact Bool.noConfusion (hc.1.symm.trans (by assumption)) | exact Bool.noConfusion (hc.2.symm.trans (by assumption)) | exact Bool.noConfusion (hc.symm.trans (by assumption)))]; rfl))
 refine T4 rfl rfl ((Y8 _ _ _ _ _ hre1 (K1 _))) rfl rfl rfl (fun h466 => ?_) (fun h466 => ?_)
 refine aP 15 rfl (K8 rfl rfl) rfl ?_
 refine A2 2 ?_
 (refine E1 rfl (C8 rfl rfl rfl (by omega) (by unfold maxLen; omega) rfl) rfl rfl ?_; rintro _ ⟨b469, rfl⟩)
 refine aP 16 rfl (qA rfl) rfl ?_
 refine A2 17 ?_
 refine H7 rfl ?_
 refine aP 18 rfl (qA rfl) rfl ?_
 refine C2 (nS ?_)
 (refine H5 Pk.here (fun G5 hle5 hsl5 hno5 => ?_))
 refine tT (rB (rS ?_))
 refine C7 (rT rfl) (rC rfl (A1 rfl rfl)) (rT rfl) ?_
 (refine K9.two hsl5 (K1 _) (K1 _) (K1 _) ?_; rw [V9 (by omega)]; first | (rw [if_pos ⟨by assumption, by assumption⟩, if_neg (by omega)]; rfl) | (rw [if_neg (fun hc => by first | exact Bool.noConfusion (hc.1.symm.trans (by assumption)) | exact Bool.noConfusion (hc.2.symm.trans (by assumption)) | exact Bool.noConfusion (hc.symm.trans (by assumption)))]; rfl))
 refine aP 15 rfl (K8 rfl rfl) rfl ?_
 refine A2 2 ?_
 (refine E1 rfl (C8 rfl rfl rfl (by omega) (by unfold maxLen; omega) rfl) rfl rfl ?_; rintro _ ⟨b484, rfl⟩)
 refine aP 16 rfl (qA rfl) rfl ?_
 refine A2 17 ?_
 refine H7 rfl ?_
 refine aP 18 rfl (qA rfl) rfl ?_
 refine C2 (nS ?_)
 (refine H5 Pk.here (fun G5 hle5 hsl5 hno5 => ?_))
 refine tT (rB (rS ?_))
 refine C7 (rT rfl) (rC rfl (A1 rfl rfl)) (rT rfl) ?_
 (refine K9.two hsl5 (K1 _) (K1 _) (K1 _) ?_; rw [V9 (by omega)]; first | (rw [if_pos ⟨by assumption, by assumption⟩, if_neg (by omega)]; rfl) | (rw [if_neg (fun hc => by first | exact Bool.noConfusion (hc.1.symm.trans (by assumption)) | exact Bool.noConfusion (hc.2.symm.trans (by assumption)) | exact Bool.noConfusion (hc.symm.trans (by assumption)))]; rfl))
 refine aP 9 rfl (qM rfl) rfl ?_
 refine B4 10 rfl rfl rfl ?_
 refine B4 11 rfl rfl rfl ?_
 refine B4 12 rfl rfl rfl ?_
 refine B4 13 rfl rfl rfl ?_
 refine T2 (j := 2) (j' := 14) (by kernel_rfl) ?_ ?_
 (refine E1 rfl (C8 rfl rfl rfl (by omega) (by unfold maxLen; omega) rfl) rfl rfl ?_; rintro _ ⟨b503, rfl⟩)
 refine B4 14 rfl rfl rfl ?_
 refine aP 15 rfl (N2 rfl rfl) rfl ?_
 refine aP 16 rfl (qA rfl) rfl ?_
 refine A2 17 ?_
 refine H7 rfl ?_
 refine aP 18 rfl (qA rfl) rfl ?_
 refine C2 (nS ?_)
 (refine H5 Pk.here (fun G5 hle5 hsl5 hno5 => ?_))
 refine tT (rB (rS ?_))
 refine C7 (rT rfl) (rC rfl (A1 rfl rfl)) (rT rfl) ?_
 (refine K9.two hsl5 (K1 _) (K1 _) (K1 _) ?_; rw [V9 (by omega)]; first | (rw [if_pos ⟨by assumption, by assumption⟩, if_neg (by omega)]; rfl) | (rw [if_neg (fun hc => by first | exact Bool.noConfusion (hc.1.symm.trans (by assumption)) | exact Bool.noConfusion (hc.2.symm.trans (by assumption)) | exact Bool.noConfusion (hc.symm.trans (by assumption)))]; rfl))
 refine A5p (l' := [tt,tt,ff,tt,tt,tt,tt,tt,tt,tt,tt,tt,tt,tt,tt,ff,ff,ff,ff]) rfl rfl rfl rfl ?_
 refine aP 15 rfl (N2 rfl rfl) rfl ?_
 refine A2 2 ?_
 (refine E1 rfl (C8 rfl rfl rfl (by omega) (by unfold maxLen; omega) rfl) rfl rfl ?_; rintro _ ⟨b521, rfl⟩)
 refine aP 16 rfl (qA rfl) rfl ?_
 refine A2 17 ?_
 refine H7 rfl ?_
 refine aP 18 rfl (qA rfl) rfl ?_
 refine C2 (nS ?_)
 (refine H5 Pk.here (fun G5 hle5 hsl5 hno5 => ?_))
 refine tT (rB (rS ?_))
 refine C7 (rT rfl) (rC rfl (A1 rfl rfl)) (rT rfl) ?_
 (refine K9.two hsl5 (K1 _) (K1 _) (K1 _) ?_; rw [V9 (by omega)]; first | (rw [if_pos ⟨by assumption, by assumption⟩, if_neg (by omega)]; rfl) | (rw [if_neg (fun hc => by first | exact Bool.noConfusion (hc.1.symm.trans (by assumption)) | exact Bool.noConfusion (hc.2.symm.trans (by assumption)) | exact Bool.noConfusion (hc.symm.trans (by assumption)))]; rfl))
 refine sQ (qA rfl) rfl (sD (nS (cF rfl (tR ?_))))
 refine sB (qE rfl rfl) rfl rfl (fun h539 => ?_) (fun h539 => ?_)
 refine C4 ?_
 refine sE (A7 rfl) rfl (fun b547 => ?_)
 refine D8 ?_
 refine sP (W2 rfl rfl (by omega)) rfl rfl ?_
 refine D9 ?_
 (have hl2 : n = 2 := hop.1 (by omega); obtain ⟨b0, o0, q0, d0, hp0, hat0, hre0, hg0⟩ := hsl.kidD hkl (i := 0) (by omega) (by omega); obtain ⟨b1, o1, q1, d1, hp1, hat1, hre1, hg1⟩ := hsl.kidD hkl (i := 1) (by omega) (by omega); cases hp0; cases hp1; refine D5 D6 rfl ?_)
 refine O9 (i := 0) (l' := [tt,ff,ff,ff,ff,ff,ff,ff,ff,ff,ff,ff,ff,ff,ff,ff,ff,ff,ff]) rfl D1 (A1 rfl rfl) rfl (by kernel_rfl) rfl rfl ?_
 refine aL 1 rfl (A1 rfl rfl) rfl ?_
 refine aL 3 rfl (A1 rfl rfl) rfl ?_
 refine aP 4 rfl (qM rfl) rfl ?_
 refine aP 5 rfl (B2 (j := 0) rfl rfl rfl (by omega)) rfl ?_
 refine aL 6 rfl (A3 rfl rfl (hat0 _) rfl) rfl ?_
 refine aL 7 rfl (A1 rfl rfl) rfl ?_
 refine T2 (j := 2) (j' := 8) (by kernel_rfl) ?_ ?_
 (refine E1 rfl (C8 rfl rfl rfl (by omega) (by unfold maxLen; omega) rfl) rfl rfl ?_; rintro _ ⟨b575, rfl⟩)
 refine A2 8 ?_
 refine T4 rfl rfl ((Y8 _ _ _ _ _ hre0 (K1 _))) rfl rfl rfl (fun h577 => ?_) (fun h577 => ?_)
 refine aP 9 rfl (qM rfl) rfl ?_
 refine aP 10 rfl (qM rfl) rfl ?_
 refine aP 11 rfl (B2 (j := 1) rfl rfl rfl (by omega)) rfl ?_
 refine aL 12 rfl (A3 rfl rfl (hat1 _) rfl) rfl ?_
 refine aL 13 rfl (A1 rfl rfl) rfl ?_
 refine A2 14 ?_
 refine T4 rfl rfl ((Y8 _ _ _ _ _ hre1 (K1 _))) rfl rfl rfl (fun h584 => ?_) (fun h584 => ?_)
 refine aP 15 rfl (K8 rfl rfl) rfl ?_
 refine aP 16 rfl (qA rfl) rfl ?_
 refine A2 17 ?_
 refine H7 rfl ?_
 refine aP 18 rfl (qA rfl) rfl ?_
 refine C2 (nS ?_)
 (refine H5 Pk.here (fun G5 hle5 hsl5 hno5 => ?_))
 refine tT (rB (rS ?_))
 refine C7 (rT rfl) (rC rfl (A1 rfl rfl)) (rT rfl) ?_
 (refine K9.two hsl5 (K1 _) (K1 _) (A0e _) ?_; rw [V9 (by omega)]; first | (rw [if_pos ⟨by assumption, by assumption⟩, if_pos (by omega)]; rfl) | (rw [if_neg (fun hc => by first | exact Bool.noConfusion (hc.1.symm.trans (by assumption)) | exact Bool.noConfusion (hc.2.symm.trans (by assumption)) | exact Bool.noConfusion (hc.symm.trans (by assumption)))]; rfl))
 refine aP 15 rfl (K8 rfl rfl) rfl ?_
 refine aP 16 rfl (qA rfl) rfl ?_
 refine A2 17 ?_
 refine H7 rfl ?_
 refine aP 18 rfl (qA rfl) rfl ?_
 refine C2 (nS ?_)
 (refine H5 Pk.here (fun G5 hle5 hsl5 hno5 => ?_))
 refine tT (rB (rS ?_))
 refine C7 (rT rfl) (rC rfl (A1 rfl rfl)) (rT rfl) ?_
 (refine K9.two hsl5 (K1 _) (K1 _) (A0e _) ?_; rw [V9 (by omega)]; first | (rw [if_pos ⟨by assumption, by assumption⟩, if_pos (by omega)]; rfl) | (rw [if_neg (fun hc => by first | exact Bool.noConfusion (hc.1.symm.trans (by assumption)) | exact Bool.noConfusion (hc.2.symm.trans (by assumption)) | exact Bool.noConfusion (hc.symm.trans (by assumption)))]; rfl))
 refine aP 9 rfl (qM rfl) rfl ?_
 refine B4 10 rfl rfl rfl ?_
 refine B4 11 rfl rfl rfl ?_
 refine B4 12 rfl rfl rfl ?_
 refine B4 13 rfl rfl rfl ?_
 refine B4 14 rfl rfl rfl ?_
 refine aP 15 rfl (N2 rfl rfl) rfl ?_
 refine aP 16 rfl (qA rfl) rfl ?_
 refine A2 17 ?_
 refine H7 rfl ?_
 refine aP 18 rfl (qA rfl) rfl ?_
 refine C2 (nS ?_)
 (refine H5 Pk.here (fun G5 hle5 hsl5 hno5 => ?_))
 refine tT (rB (rS ?_))
 refine C7 (rT rfl) (rC rfl (A1 rfl rfl)) (rT rfl) ?_
 (refine K9.two hsl5 (K1 _) (K1 _) (A0e _) ?_; rw [V9 (by omega)]; first | (rw [if_pos ⟨by assumption, by assumption⟩, if_pos (by omega)]; rfl) | (rw [if_neg (fun hc => by first | exact Bool.noConfusion (hc.1.symm.trans (by assumption)) | exact Bool.noConfusion (hc.2.symm.trans (by assumption)) | exact Bool.noConfusion (hc.symm.trans (by assumption)))]; rfl))
 refine T4 rfl rfl ((Y8 _ _ _ _ _ hre0 (K1 _))) rfl rfl rfl (fun h630 => ?_) (fun h630 => ?_)
 refine aP 9 rfl (qM rfl) rfl ?_
 refine aP 10 rfl (qM rfl) rfl ?_
 refine aP 11 rfl (B2 (j := 1) rfl rfl rfl (by omega)) rfl ?_
 refine aL 12 rfl (A3 rfl rfl (hat1 _) rfl) rfl ?_
 refine aL 13 rfl (A1 rfl rfl) rfl ?_
 refine T2 (j := 2) (j' := 14) (by kernel_rfl) ?_ ?_
 (refine E1 rfl (C8 rfl rfl rfl (by omega) (by unfold maxLen; omega) rfl) rfl rfl ?_; rintro _ ⟨b637, rfl⟩)
 refine A2 14 ?_
 refine T4 rfl rfl ((Y8 _ _ _ _ _ hre1 (K1 _))) rfl rfl rfl (fun h639 => ?_) (fun h639 => ?_)
 refine aP 15 rfl (K8 rfl rfl) rfl ?_
 refine aP 16 rfl (qA rfl) rfl ?_
 refine A2 17 ?_
 refine H7 rfl ?_
 refine aP 18 rfl (qA rfl) rfl ?_
 refine C2 (nS ?_)
 (refine H5 Pk.here (fun G5 hle5 hsl5 hno5 => ?_))
 refine tT (rB (rS ?_))
 refine C7 (rT rfl) (rC rfl (A1 rfl rfl)) (rT rfl) ?_
 (refine K9.two hsl5 (K1 _) (K1 _) (A0e _) ?_; rw [V9 (by omega)]; first | (rw [if_pos ⟨by assumption, by assumption⟩, if_pos (by omega)]; rfl) | (rw [if_neg (fun hc => by first | exact Bool.noConfusion (hc.1.symm.trans (by assumption)) | exact Bool.noConfusion (hc.2.symm.trans (by assumption)) | exact Bool.noConfusion (hc.symm.trans (by assumption)))]; rfl))
 refine aP 15 rfl (K8 rfl rfl) rfl ?_
 refine aP 16 rfl (qA rfl) rfl ?_
 refine A2 17 ?_
 refine H7 rfl ?_
 refine aP 18 rfl (qA rfl) rfl ?_
 refine C2 (nS ?_)
 (refine H5 Pk.here (fun G5 hle5 hsl5 hno5 => ?_))
 refine tT (rB (rS ?_))
 refine C7 (rT rfl) (rC rfl (A1 rfl rfl)) (rT rfl) ?_
 (refine K9.two hsl5 (K1 _) (K1 _) (A0e _) ?_; rw [V9 (by omega)]; first | (rw [if_pos ⟨by assumption, by assumption⟩, if_pos (by omega)]; rfl) | (rw [if_neg (fun hc => by first | exact Bool.noConfusion (hc.1.symm.trans (by assumption)) | exact Bool.noConfusion (hc.2.symm.trans (by assumption)) | exact Bool.noConfusion (hc.symm.trans (by assumption)))]; rfl))
 refine T4 rfl rfl ((Y8 _ _ _ _ _ hre1 (K1 _))) rfl rfl rfl (fun h666 => ?_) (fun h666 => ?_)
 refine aP 15 rfl (K8 rfl rfl) rfl ?_
 refine A2 2 ?_
 (refine E1 rfl (C8 rfl rfl rfl (by omega) (by unfold maxLen; omega) rfl) rfl rfl ?_; rintro _ ⟨b669, rfl⟩)
 refine aP 16 rfl (qA rfl) rfl ?_
 refine A2 17 ?_
 refine H7 rfl ?_
 refine aP 18 rfl (qA rfl) rfl ?_
 refine C2 (nS ?_)
 (refine H5 Pk.here (fun G5 hle5 hsl5 hno5 => ?_))
 refine tT (rB (rS ?_))
 refine C7 (rT rfl) (rC rfl (A1 rfl rfl)) (rT rfl) ?_
 (refine K9.two hsl5 (K1 _) (K1 _) (A0e _) ?_; rw [V9 (by omega)]; first | (rw [if_pos ⟨by assumption, by assumption⟩, if_pos (by omega)]; rfl) | (rw [if_neg (fun hc => by first | exact Bool.noConfusion (hc.1.symm.trans (by assumption)) | exact Bool.noConfusion (hc.2.symm.trans (by assumption)) | exact Bool.noConfusion (hc.symm.trans (by assumption)))]; rfl))
 refine aP 15 rfl (K8 rfl rfl) rfl ?_
 refine A2 2 ?_
 (refine E1 rfl (C8 rfl rfl rfl (by omega) (by unfold maxLen; omega) rfl) rfl rfl ?_; rintro _ ⟨b684, rfl⟩)
 refine aP 16 rfl (qA rfl) rfl ?_
 refine A2 17 ?_
 refine H7 rfl ?_
 refine aP 18 rfl (qA rfl) rfl ?_
 refine C2 (nS ?_)
 (refine H5 Pk.here (fun G5 hle5 hsl5 hno5 => ?_))
 refine tT (rB (rS ?_))
 refine C7 (rT rfl) (rC rfl (A1 rfl rfl)) (rT rfl) ?_
 (refine K9.two hsl5 (K1 _) (K1 _) (A0e _) ?_; rw [V9 (by omega)]; first | (rw [if_pos ⟨by assumption, by assumption⟩, if_pos (by omega)]; rfl) | (rw [if_neg (fun hc => by first | exact Bool.noConfusion (hc.1.symm.trans (by assumption)) | exact Bool.noConfusion (hc.2.symm.trans (by assumption)) | exact Bool.noConfusion (hc.symm.trans (by assumption)))]; rfl))
 refine aP 9 rfl (qM rfl) rfl ?_
 refine B4 10 rfl rfl rfl ?_
 refine B4 11 rfl rfl rfl ?_
 refine B4 12 rfl rfl rfl ?_
 refine B4 13 rfl rfl rfl ?_
 refine T2 (j := 2) (j' := 14) (by kernel_rfl) ?_ ?_
 (refine E1 rfl (C8 rfl rfl rfl (by omega) (by unfold maxLen; omega) rfl) rfl rfl ?_; rintro _ ⟨b703, rfl⟩)
 refine B4 14 rfl rfl rfl ?_
 refine aP 15 rfl (N2 rfl rfl) rfl ?_
 refine aP 16 rfl (qA rfl) rfl ?_
 refine A2 17 ?_
 refine H7 rfl ?_
 refine aP 18 rfl (qA rfl) rfl ?_
 refine C2 (nS ?_)
 (refine H5 Pk.here (fun G5 hle5 hsl5 hno5 => ?_))
 refine tT (rB (rS ?_))
 refine C7 (rT rfl) (rC rfl (A1 rfl rfl)) (rT rfl) ?_
 (refine K9.two hsl5 (K1 _) (K1 _) (A0e _) ?_; rw [V9 (by omega)]; first | (rw [if_pos ⟨by assumption, by assumption⟩, if_pos (by omega)]; rfl) | (rw [if_neg (fun hc => by first | exact Bool.noConfusion (hc.1.symm.trans (by assumption)) | exact Bool.noConfusion (hc.2.symm.trans (by assumption)) | exact Bool.noConfusion (hc.symm.trans (by assumption)))]; rfl))
 refine A5p (l' := [tt,tt,ff,tt,tt,tt,tt,tt,tt,tt,tt,tt,tt,tt,tt,ff,ff,ff,ff]) rfl rfl rfl rfl ?_
 refine aP 15 rfl (N2 rfl rfl) rfl ?_
 refine A2 2 ?_
 (refine E1 rfl (C8 rfl rfl rfl (by omega) (by unfold maxLen; omega) rfl) rfl rfl ?_; rintro _ ⟨b721, rfl⟩)
 refine aP 16 rfl (qA rfl) rfl ?_
 refine A2 17 ?_
 refine H7 rfl ?_
 refine aP 18 rfl (qA rfl) rfl ?_
 refine C2 (nS ?_)
 (refine H5 Pk.here (fun G5 hle5 hsl5 hno5 => ?_))
 refine tT (rB (rS ?_))
 refine C7 (rT rfl) (rC rfl (A1 rfl rfl)) (rT rfl) ?_
 (refine K9.two hsl5 (K1 _) (K1 _) (A0e _) ?_; rw [V9 (by omega)]; first | (rw [if_pos ⟨by assumption, by assumption⟩, if_pos (by omega)]; rfl) | (rw [if_neg (fun hc => by first | exact Bool.noConfusion (hc.1.symm.trans (by assumption)) | exact Bool.noConfusion (hc.2.symm.trans (by assumption)) | exact Bool.noConfusion (hc.symm.trans (by assumption)))]; rfl))
 refine sQ (qA rfl) rfl (sD (nS (cF rfl (tS (tR ?_)))))
 refine sB (qE rfl rfl) rfl rfl (fun h740 => ?_) (fun h740 => ?_)
 refine sQ (qA rfl) rfl (sD (nS (qT rfl (tS (tS ?_)))))
 (have hl3 : n = 3 := hop.2.1 (by omega); obtain ⟨b0, o0, q0, d0, hp0, hat0, hre0, hg0⟩ := hsl.kidD hkl (i := 0) (by omega) (by omega); obtain ⟨b1, o1, q1, d1, hp1, hat1, hre1, hg1⟩ := hsl.kidD hkl (i := 1) (by omega) (by omega); cases hp0; cases hp1; obtain ⟨b2, o2, q2, d2, hp2, hat2, hre2, hg2⟩ := hsl.kidD hkl (i := 2) (by omega) (by omega); cases hp2; refine D5 D6 rfl ?_)
 refine I3 (i := 0) (l' := [tt,ff,ff,ff,ff,ff,ff,ff,ff,ff,ff,ff,ff,ff,ff,ff]) rfl D1 (qM rfl) rfl (by kernel_rfl) rfl rfl ?_
 refine aP 1 rfl (B2 (j := 0) rfl rfl rfl (by omega)) rfl ?_
 refine aL 2 rfl (A3 rfl rfl (hat0 _) rfl) rfl ?_
 refine aL 3 rfl (A1 rfl rfl) rfl ?_
 refine A2 4 ?_
 refine T4 rfl rfl ((Y8 _ _ _ _ _ hre0 (A0e _))) rfl rfl rfl (fun h753 => ?_) (fun h753 => ?_)
 refine aP 5 rfl (W0 rfl) rfl ?_
 refine aP 6 rfl (qM rfl) rfl ?_
 refine aP 7 rfl (qM rfl) rfl ?_
 refine aP 8 rfl (B2 (j := 1) rfl rfl rfl (by omega)) rfl ?_
 refine aL 9 rfl (A3 rfl rfl (hat1 _) rfl) rfl ?_
 refine aP 10 rfl (qM rfl) rfl ?_
 refine aP 11 rfl (B2 (j := 2) rfl rfl rfl (by omega)) rfl ?_
 refine aL 12 rfl (A3 rfl rfl (hat2 _) rfl) rfl ?_
 refine A2 13 ?_
 refine T4 rfl rfl ((Y8 _ _ _ _ _ hre1 hre2)) rfl rfl rfl (fun h763 => ?_) (fun h763 => ?_)
 refine aP 14 rfl (W0 rfl) rfl ?_
 refine aP 15 rfl (N2 rfl rfl) rfl ?_
 refine C2 (nS (cF rfl (tK (nS (tS ?_)))))
 (have hl3 : n = 3 := hop.2.1 (by omega); obtain ⟨b0, o0, q0, d0, hp0, hat0, hre0, hg0⟩ := hsl.kidD hkl (i := 0) (by omega) (by omega); obtain ⟨b1, o1, q1, d1, hp1, hat1, hre1, hg1⟩ := hsl.kidD hkl (i := 1) (by omega) (by omega); cases hp0; cases hp1; obtain ⟨b2, o2, q2, d2, hp2, hat2, hre2, hg2⟩ := hsl.kidD hkl (i := 2) (by omega) (by omega); cases hp2; refine D5 D6 rfl ?_)
 refine I3 (i := 0) (l' := [tt,ff,ff,ff,ff,ff,ff,ff,ff]) rfl D1 (qM rfl) rfl (by kernel_rfl) rfl rfl ?_
 refine aP 1 rfl (B2 (j := 1) rfl rfl rfl (by omega)) rfl ?_
 refine aL 2 rfl (A3 rfl rfl (hat1 _) rfl) rfl ?_
 refine aP 3 rfl (qM rfl) rfl ?_
 refine aP 4 rfl (B2 (j := 2) rfl rfl rfl (by omega)) rfl ?_
 refine aL 5 rfl (A3 rfl rfl (hat2 _) rfl) rfl ?_
 refine T2 (j := 6) (j' := 7) (by kernel_rfl) ?_ ?_
 (refine I9 rfl rfl (A8r _ _ _ _ _ (by assumption) (A2Q har (by omega)) (A2Q har (by omega)) hre1 hre2) rfl rfl rfl (fun v GM hleM hh => ?_); obtain ⟨cM, rfl, hrM⟩ := hh; obtain ⟨p7, c7, e7, rfl, _⟩ := hrM.open)
 refine A2 7 ?_
 (refine E1 rfl (A7 rfl) rfl rfl ?_; rintro _ ⟨b782, rfl⟩)
 refine A2 8 ?_
 refine H7 rfl ?_
 refine C2 (nS (tS ?_))
 (have hl3 : n = 3 := hop.2.1 (by omega); obtain ⟨b0, o0, q0, d0, hp0, hat0, hre0, hg0⟩ := hsl.kidD hkl (i := 0) (by omega) (by omega); obtain ⟨b1, o1, q1, d1, hp1, hat1, hre1, hg1⟩ := hsl.kidD hkl (i := 1) (by omega) (by omega); cases hp0; cases hp1; obtain ⟨b2, o2, q2, d2, hp2, hat2, hre2, hg2⟩ := hsl.kidD hkl (i := 2) (by omega) (by omega); cases hp2; refine D5 D6 rfl ?_)
 refine O9 (i := 0) (l' := [tt,ff,ff,ff,ff,ff,ff,ff]) rfl D1 (A1 rfl rfl) rfl (by kernel_rfl) rfl rfl ?_
 refine aL 1 rfl (A1 rfl rfl) rfl ?_
 refine aL 2 rfl (A1 rfl rfl) rfl ?_
 refine aL 4 rfl (A1 rfl rfl) rfl ?_
 refine A2 3 ?_
 (refine E1 rfl (C8 rfl rfl rfl (by omega) (by unfold maxLen; omega) rfl) rfl rfl ?_; rintro _ ⟨b794, rfl⟩)
 refine aP 5 rfl (qA rfl) rfl ?_
 refine A2 6 ?_
 refine H7 rfl ?_
 refine aP 7 rfl (qA rfl) rfl ?_
 refine C2 (nS ?_)
 (refine H5 Pk.here (fun G5 hle5 hsl5 hno5 => ?_))
 refine tT (rB (rS ?_))
 refine C7 (rT rfl) (rC rfl (A1 rfl rfl)) (rT rfl) ?_
 (have hk1 : k = 9 := (by omega); subst hk1; exact K9.three hsl5 (A0e _) (hrM.mono hle5) (hrM.mono hle5) (hrM.mono hle5) (by rw [mW9, if_pos ⟨by assumption, by assumption⟩]; rfl))
 (refine E1 rfl (A7 rfl) rfl rfl ?_; rintro _ ⟨b807, rfl⟩)
 refine A2 6 ?_
 (refine I9 rfl rfl (A8r _ _ _ _ _ (by assumption) (A2Q har (by omega)) (A2Q har (by omega)) hre1 hre2) rfl rfl rfl (fun v GM hleM hh => ?_); obtain ⟨cM, rfl, hrM⟩ := hh; obtain ⟨p7, c7, e7, rfl, _⟩ := hrM.open)
 refine A2 8 ?_
 refine H7 rfl ?_
 refine C2 (nS (tS ?_))
 (have hl3 : n = 3 := hop.2.1 (by omega); obtain ⟨b0, o0, q0, d0, hp0, hat0, hre0, hg0⟩ := hsl.kidD hkl (i := 0) (by omega) (by omega); obtain ⟨b1, o1, q1, d1, hp1, hat1, hre1, hg1⟩ := hsl.kidD hkl (i := 1) (by omega) (by omega); cases hp0; cases hp1; obtain ⟨b2, o2, q2, d2, hp2, hat2, hre2, hg2⟩ := hsl.kidD hkl (i := 2) (by omega) (by omega); cases hp2; refine D5 D6 rfl ?_)
 refine O9 (i := 0) (l' := [tt,ff,ff,ff,ff,ff,ff,ff]) rfl D1 (A1 rfl rfl) rfl (by kernel_rfl) rfl rfl ?_
 refine aL 1 rfl (A1 rfl rfl) rfl ?_
 refine aL 2 rfl (A1 rfl rfl) rfl ?_
 refine aL 4 rfl (A1 rfl rfl) rfl ?_
 refine A2 3 ?_
 (refine E1 rfl (C8 rfl rfl rfl (by omega) (by unfold maxLen; omega) rfl) rfl rfl ?_; rintro _ ⟨b821, rfl⟩)
 refine aP 5 rfl (qA rfl) rfl ?_
 refine A2 6 ?_
 refine H7 rfl ?_
 refine aP 7 rfl (qA rfl) rfl ?_
 refine C2 (nS ?_)
 (refine H5 Pk.here (fun G5 hle5 hsl5 hno5 => ?_))
 refine tT (rB (rS ?_))
 refine C7 (rT rfl) (rC rfl (A1 rfl rfl)) (rT rfl) ?_
 (have hk1 : k = 9 := (by omega); subst hk1; exact K9.three hsl5 (A0e _) (hrM.mono hle5) (hrM.mono hle5) (hrM.mono hle5) (by rw [mW9, if_pos ⟨by assumption, by assumption⟩]; rfl))
 refine aP 14 rfl (pNf rfl) rfl ?_
 refine aP 15 rfl (N2 rfl rfl) rfl ?_
 refine I0 ?_
 refine C7 (rT rfl) (rC rfl (A1 rfl rfl)) (rT rfl) ?_
 (have hk1 : k = 9 := (by omega); subst hk1; exact K9.nil (u := A8) (N6 _ ⟨by omega, by omega⟩) (by rw [mW9, if_neg (fun hc => by first | exact Bool.noConfusion (hc.1.symm.trans (by assumption)) | exact Bool.noConfusion (hc.2.symm.trans (by assumption)) | exact Bool.noConfusion (hc.symm.trans (by assumption)))]; rfl))
 refine aP 5 rfl (pNf rfl) rfl ?_
 refine aP 6 rfl (qM rfl) rfl ?_
 refine B4 7 rfl rfl rfl ?_
 refine B4 8 rfl rfl rfl ?_
 refine B4 9 rfl rfl rfl ?_
 refine B4 10 rfl rfl rfl ?_
 refine B4 11 rfl rfl rfl ?_
 refine B4 12 rfl rfl rfl ?_
 refine B4 13 rfl rfl rfl ?_
 refine B4 14 rfl rfl rfl ?_
 refine aP 15 rfl (K8 rfl rfl) rfl ?_
 refine I0 ?_
 refine C7 (rT rfl) (rC rfl (A1 rfl rfl)) (rT rfl) ?_
 (have hk1 : k = 9 := (by omega); subst hk1; exact K9.nil (u := A8) (N6 _ ⟨by omega, by omega⟩) (by rw [mW9, if_neg (fun hc => by first | exact Bool.noConfusion (hc.1.symm.trans (by assumption)) | exact Bool.noConfusion (hc.2.symm.trans (by assumption)) | exact Bool.noConfusion (hc.symm.trans (by assumption)))]; rfl))
 refine sQ (qA rfl) rfl (sD (nS (cF rfl (tS (tR ?_)))))
 refine sB (qE rfl rfl) rfl rfl (fun h887 => ?_) (fun h887 => ?_)
 refine sQ (qA rfl) rfl (sD (nS (qT rfl (tS ?_))))
 (have hl2 : n = 2 := hop.1 (by omega); obtain ⟨b0, o0, q0, d0, hp0, hat0, hre0, hg0⟩ := hsl.kidD hkl (i := 0) (by omega) (by omega); obtain ⟨b1, o1, q1, d1, hp1, hat1, hre1, hg1⟩ := hsl.kidD hkl (i := 1) (by omega) (by omega); cases hp0; cases hp1; refine D5 D6 rfl ?_)
 refine I3 (i := 0) (l' := [tt,ff,ff,ff,ff,ff,ff,ff,ff,ff]) rfl D1 (qM rfl) rfl (by kernel_rfl) rfl rfl ?_
 refine aP 1 rfl (B2 (j := 0) rfl rfl rfl (by omega)) rfl ?_
 refine aL 2 rfl (A3 rfl rfl (hat0 _) rfl) rfl ?_
 refine aP 3 rfl (qM rfl) rfl ?_
 refine aP 4 rfl (B2 (j := 1) rfl rfl rfl (by omega)) rfl ?_
 refine aL 5 rfl (A3 rfl rfl (hat1 _) rfl) rfl ?_
 refine A2 6 ?_
 (refine I9 rfl rfl (A10 5 _ _ _ _ _ ⟨by omega, by omega⟩ hre0 hre1) rfl rfl rfl (fun v GB hleB hh => ?_); obtain ⟨cB, rfl, hrB⟩ := hh; obtain ⟨p7, c7, e7, rfl, _⟩ := hrB.open)
 refine aP 7 rfl (qA rfl) rfl ?_
 refine A2 8 ?_
 refine H7 rfl ?_
 refine aP 9 rfl (qA rfl) rfl ?_
 refine C2 (nS (tT (rB (rS ?_))))
 refine C7 (rT rfl) (rC rfl (A1 rfl rfl)) (rT rfl) ?_
 (have hk1 : k = 10 := (by omega); subst hk1; exact K9.nil hrB A50)
 refine sQ (qA rfl) rfl (sD (nS (cF rfl (tS (tR ?_)))))
 refine sB (qE rfl rfl) rfl rfl (fun h919 => ?_) (fun h919 => ?_)
 refine sQ (qA rfl) rfl (sD (nS (qT rfl (tS ?_))))
 (have hl1 : n = 1 := hop.2.2 (by omega); obtain ⟨b0, o0, q0, d0, hp0, hat0, hre0, hg0⟩ := hsl.kidD hkl (i := 0) (by omega) (by omega); cases hp0; refine D5 D6 rfl ?_)
 refine I3 (i := 0) (l' := [tt,ff,ff,ff,ff,ff,ff,ff,ff,ff,ff,ff,ff,ff]) rfl D1 (B0 rfl) rfl (by kernel_rfl) rfl rfl ?_
 refine aL 1 rfl (A1 rfl rfl) rfl ?_
 refine aP 3 rfl (B0 rfl) rfl ?_
 refine aL 4 rfl (A1 rfl rfl) rfl ?_
 refine aP 5 rfl (qM rfl) rfl ?_
 refine aP 6 rfl (B2 (j := 0) rfl rfl rfl (by omega)) rfl ?_
 refine aL 7 rfl (A3 rfl rfl (hat0 _) rfl) rfl ?_
 refine aP 8 rfl (B0 rfl) rfl ?_
 refine aL 9 rfl (A1 rfl rfl) rfl ?_
 refine T2 (j := 2) (j' := 10) (by kernel_rfl) ?_ ?_
 (refine E1 rfl (C8 rfl rfl rfl (by omega) (by unfold maxLen; omega) rfl) rfl rfl ?_; rintro _ ⟨b936, rfl⟩)
 refine A2 10 ?_
 refine T4 rfl rfl ((Y8 _ _ _ _ _ hre0 hrty)) rfl rfl rfl (fun h938 => ?_) (fun h938 => ?_)
 refine aP 11 rfl (qA rfl) rfl ?_
 refine A2 12 ?_
 refine H7 rfl ?_
 refine aP 13 rfl (qA rfl) rfl ?_
 refine C2 (nS ?_)
 (refine H5 Pk.here (fun G5 hle5 hsl5 hno5 => ?_))
 refine tT (rB (rS ?_))
 refine C7 (rT rfl) (rC rfl (A1 rfl rfl)) (rT rfl) ?_
 (have hk1 : k = 13 := (by omega); subst hk1; refine K9.one hsl5 (hrty.mono hle5) (hrty.mono hle5) ?_; rw [A2R]; split <;> first | rfl | (exfalso; simp_all; done))
 refine aP 11 rfl (qA rfl) rfl ?_
 refine A2 12 ?_
 refine H7 rfl ?_
 refine aP 13 rfl (qA rfl) rfl ?_
 refine C2 (nS ?_)
 (refine H5 Pk.here (fun G5 hle5 hsl5 hno5 => ?_))
 refine tT (rB (rS ?_))
 refine C7 (rT rfl) (rC rfl (A1 rfl rfl)) (rT rfl) ?_
 (have hk1 : k = 13 := (by omega); subst hk1; refine K9.one hsl5 (hrty.mono hle5) (hrty.mono hle5) ?_; rw [A2R]; split <;> first | rfl | (exfalso; simp_all; done))
 refine T4 rfl rfl ((Y8 _ _ _ _ _ hre0 hrty)) rfl rfl rfl (fun h963 => ?_) (fun h963 => ?_)
 refine A2 2 ?_
 (refine E1 rfl (C8 rfl rfl rfl (by omega) (by unfold maxLen; omega) rfl) rfl rfl ?_; rintro _ ⟨b965, rfl⟩)
 refine aP 11 rfl (qA rfl) rfl ?_
 refine A2 12 ?_
 refine H7 rfl ?_
 refine aP 13 rfl (qA rfl) rfl ?_
 refine C2 (nS ?_)
 (refine H5 Pk.here (fun G5 hle5 hsl5 hno5 => ?_))
 refine tT (rB (rS ?_))
 refine C7 (rT rfl) (rC rfl (A1 rfl rfl)) (rT rfl) ?_
 (have hk1 : k = 13 := (by omega); subst hk1; refine K9.one hsl5 (hrty.mono hle5) (hrty.mono hle5) ?_; rw [A2R]; split <;> first | rfl | (exfalso; simp_all; done))
 refine A2 2 ?_
 (refine E1 rfl (C8 rfl rfl rfl (by omega) (by unfold maxLen; omega) rfl) rfl rfl ?_; rintro _ ⟨b979, rfl⟩)
 refine aP 11 rfl (qA rfl) rfl ?_
 refine A2 12 ?_
 refine H7 rfl ?_
 refine aP 13 rfl (qA rfl) rfl ?_
 refine C2 (nS ?_)
 (refine H5 Pk.here (fun G5 hle5 hsl5 hno5 => ?_))
 refine tT (rB (rS ?_))
 refine C7 (rT rfl) (rC rfl (A1 rfl rfl)) (rT rfl) ?_
 (have hk1 : k = 13 := (by omega); subst hk1; refine K9.one hsl5 (hrty.mono hle5) (hrty.mono hle5) ?_; rw [A2R]; split <;> first | rfl | (exfalso; simp_all; done))
 refine I7 ?_
 (have hk11 : k = 11 ∨ k = 12 := (by omega); have hl1 : n = 1 := hop.2.2 (by omega); obtain ⟨b0, o0, q0, d0, hp0, hat0, hre0, hg0⟩ := hsl.kidD hkl (i := 0) (by omega) (by omega); cases hp0; refine sP (B2 (j := 0) rfl rfl rfl (by omega)) rfl rfl ?_)
 refine sL (A3 rfl rfl (hat0 _) rfl) rfl rfl ?_
 (refine E5 rfl (A8q 5 (h.getD 0 A8) G _ (.inr rfl) (A2Q har (by omega)) hre0) rfl rfl (fun v G1 hle1 hh => ?_); obtain ⟨ma, mca, mb, mcb, rfl, hma, hmb, hma2, hmb2, hmm⟩ := hh; obtain ⟨p1, c1, e1, rfl, _⟩ := hma.open; obtain ⟨p2, c2, e2, rfl, _⟩ := hmb.open)
 refine H1 ?_
 refine sE (A7 rfl) rfl (fun b1009 => ?_)
 refine sE (A7 rfl) rfl (fun b1010 => ?_)
 refine D8 ?_
 refine sE (A7 rfl) rfl (fun b1019 => ?_)
 refine D8 ?_
 refine sB (qE rfl rfl) rfl rfl (fun h1028 => ?_) (fun h1028 => ?_)
 refine D9 ?_
 (have hl1 : n = 1 := hop.2.2 (by omega); obtain ⟨b0, o0, q0, d0, hp0, hat0, hre0, hg0⟩ := hsl.kidD hkl (i := 0) (by omega) (by omega); cases hp0; refine D5 D6 rfl ?_)
 refine O9 (i := 0) (l' := [tt,ff,ff,ff,ff,ff,ff,ff,ff]) rfl D1 (A1 rfl rfl) rfl (by kernel_rfl) rfl rfl ?_
 refine aL 1 rfl (A1 rfl rfl) rfl ?_
 refine aL 4 rfl (A1 rfl rfl) rfl ?_
 refine aP 5 rfl (qM rfl) rfl ?_
 refine A2 2 ?_
 (refine I9 rfl rfl (A10 _ ma mb _ _ _ ⟨by omega, by omega⟩ hma hmb) rfl rfl rfl (fun v GB hleB hh => ?_); obtain ⟨cB, rfl, hrB⟩ := hh; obtain ⟨p7, c7, e7, rfl, _⟩ := hrB.open; have hma' := hma.mono hleB; have hmb' := hmb.mono hleB)
 refine A2 3 ?_
 (refine E1 rfl (C8 rfl rfl rfl (by omega) (by unfold maxLen; omega) rfl) rfl rfl ?_; rintro _ ⟨b1046, rfl⟩)
 refine aP 6 rfl (qA rfl) rfl ?_
 refine A2 7 ?_
 refine H7 rfl ?_
 refine aP 8 rfl (qA rfl) rfl ?_
 refine C2 (nS ?_)
 (refine H5 Pk.here (fun G5 hle5 hsl5 hno5 => ?_))
 refine tT ?_
 refine C7 (rT rfl) (rC rfl (A1 rfl rfl)) (rT rfl) ?_
 (refine K9.one hsl5 (hrB.mono hle5) (hmb'.mono hle5) ?_; rw [A3E (by omega)]; cases hq : R6 5 (h.getD 0 A8) with | none => rfl | some q => (have hq2 := hmm q hq; subst hq2; dsimp only; rw [if_pos (by omega)]; rfl))
 refine sD (nS (cF rfl (tK (nS (tS ?_)))))
 (have hl1 : n = 1 := hop.2.2 (by omega); obtain ⟨b0, o0, q0, d0, hp0, hat0, hre0, hg0⟩ := hsl.kidD hkl (i := 0) (by omega) (by omega); cases hp0; refine D5 D6 rfl ?_)
 refine O9 (i := 0) (l' := [tt,ff,ff,ff,ff,ff,ff,ff,ff]) rfl D1 (A1 rfl rfl) rfl (by kernel_rfl) rfl rfl ?_
 refine aL 1 rfl (A1 rfl rfl) rfl ?_
 refine aL 4 rfl (A1 rfl rfl) rfl ?_
 refine aP 5 rfl (qM rfl) rfl ?_
 refine A2 2 ?_
 (refine I9 rfl rfl (A10 _ ma mb _ _ _ ⟨by omega, by omega⟩ hma hmb) rfl rfl rfl (fun v GB hleB hh => ?_); obtain ⟨cB, rfl, hrB⟩ := hh; obtain ⟨p7, c7, e7, rfl, _⟩ := hrB.open; have hma' := hma.mono hleB; have hmb' := hmb.mono hleB)
 refine A2 3 ?_
 (refine E1 rfl (C8 rfl rfl rfl (by omega) (by unfold maxLen; omega) rfl) rfl rfl ?_; rintro _ ⟨b1071, rfl⟩)
 refine aP 6 rfl (qA rfl) rfl ?_
 refine A2 7 ?_
 refine H7 rfl ?_
 refine aP 8 rfl (qA rfl) rfl ?_
 refine C2 (nS ?_)
 (refine H5 Pk.here (fun G5 hle5 hsl5 hno5 => ?_))
 refine tT ?_
 refine C7 (rT rfl) (rC rfl (A1 rfl rfl)) (rT rfl) ?_
 (refine K9.one hsl5 (hrB.mono hle5) (hma'.mono hle5) ?_; rw [A3E (by omega)]; cases hq : R6 5 (h.getD 0 A8) with | none => rfl | some q => (have hq2 := hmm q hq; subst hq2; dsimp only; rw [if_neg (by omega)]; rfl))
theorem A8t {cx : Cx} {k : Int} {nm : ByteArray} {ty : Ty} {h w : List Ty} {t : Ty} (he : Y9 cx k nm ty h = some (w, t)) : E8 t = true ∧ N5 cx k nm ty h = some (w, t) := by
 unfold Y9 at he
 split at he
 ·rename_i w' t' hw
  split at he
  ·cases he; exact ⟨by assumption, hw⟩
  ·cases he
 ·cases he
theorem B2z {cx : Cx} {k : Int} {nm : ByteArray} {ty : Ty} {h w : List Ty} {t : Ty} (hop : (k = 6 ∨ k = 7 ∨ k = 8 ∨ k = 10 → h.length = 2) ∧ (k = 9 → h.length = 3) ∧ (k = 5 ∨ k = 11 ∨ k = 12 ∨ k = 13 → h.length = 1)) (hk : 1 ≤ k ∧ k ≤ 14) (h14 : k ≠ 14) (he : N5 cx k nm ty h = some (w, t)) : w.length ≤ h.length := by
 have hkk : k = 1 ∨ k = 2 ∨ (k = 3 ∨ k = 4) ∨ k = 5 ∨ k = 6 ∨ (k = 7 ∨ k = 8) ∨ k = 9 ∨ k = 10 ∨ (k = 11 ∨ k = 12) ∨ k = 13 := by omega
 rcases hkk with rfl | rfl | hk | rfl | rfl | hk | rfl | rfl | hk | rfl
 ·rw [mW1] at he; split at he <;> cases he; simp
 ·rw [mW2] at he; cases he; simp
 ·rw [A4C hk] at he; cases he; simp
 ·rw [mW5] at he; cases he; simp
 ·rw [mW6] at he
  split at he
  ·split at he <;> cases he
   have := hop.1 (by omega); simp [this]
  ·cases he
 ·rw [V9 hk] at he
  split at he <;> cases he
  have := hop.1 (by omega); simp [this]
 ·rw [mW9] at he
  split at he <;> cases he
  have := hop.2.1 (by omega); simp [this]
 ·rw [A50] at he; cases he; simp
 ·rw [A3E hk] at he
  split at he
  ·cases he; have := hop.2.2 (by omega); simp [this]
  ·cases he
 ·rw [A2R] at he
  split at he <;> cases he
  have := hop.2.2 (by omega); simp [this]
theorem T1.snoc {G G' : IM} {cx : Cx} {n : Nat} {p' : Option Addr} {c' : Nat} {es : List (List Value)} {e : List Value} {nm : ByteArray} {t : Ty} (h1 : n = cx.length) (hl : es.length = n) (h2 : ∀ x ∈ es, x.length = 3) (h3 : ∀ x ∈ es, x.all (·.oneCell') = true)
  (h4 : ∀ (i : Nat) (b : ByteArray × Ty), cx[i]? = some b → ∃ e, es[i]? = some e ∧ A2P G b e) (hg : B6 G G') (he : A2P G' (nm, t) e) (hs : Sl G' p' (n + 1) c' 3 (es.flatten ++ e)) : T1 G' (cx ++ [(nm, t)]) p' (n + 1) c' := by
 have hel : e.length = 3 ∧ e.all (·.oneCell') = true := by obtain ⟨q, d, rfl, _⟩ := he; exact ⟨rfl, rfl⟩
 refine ⟨by simp [h1], es ++ [e], C9.of (by simpa using hs) (by simp [hl]) ?_ ?_, ?_⟩
 ·simp only [List.forall_mem_append, List.forall_mem_singleton]; exact ⟨h2, hel.1⟩
 ·simp only [List.forall_mem_append, List.forall_mem_singleton]; exact ⟨h3, hel.2⟩
 ·intro i b hb
  rw [List.getElem?_append] at hb ⊢
  split at hb
  ·rename_i hi
   obtain ⟨e', he', hr⟩ := h4 i b hb
   rw [if_pos (by omega)]
   exact ⟨e', he', hr.mono hg⟩
  ·rename_i hi
   have : i - cx.length = 0 := by
    apply Classical.byContradiction; intro hc
    rw [List.getElem?_eq_none (by simp; omega)] at hb; cases hb
   rw [this] at hb
   simp only [List.getElem?_cons_zero, Option.some.injEq] at hb
   subst hb
   rw [if_neg (by omega)]
   exact ⟨e, by rw [show i - es.length = 0 by omega]; rfl, he⟩
theorem B2A (G : IM) (p : Option Addr) (n c : Nat) (es : List (List Value)) (h : C9 G p n c 3 es) (hn : n ≤ 4294967296) :
  Fn Tryz.prog 90 [.slice p n c] [] G (fun G' v outs => G' = G ∧ ∃ p' c', v = .slice p' n c' ∧ outs = [.slc p' c' 106 3 n es.flatten]) := by
 have hp := h.sl.nn
 have hS := h.sl
 have hone : ∀ u ∈ es.flatten, u.oneCell' = true := by
  intro u hu
  obtain ⟨e, he, hue⟩ := List.mem_flatten.1 hu
  exact List.all_eq_true.1 (h.one e he) u hue
 refine B3 Tryz.func90 rfl Tryz.ntmps90 Tryz.results90 rfl ?_
 intro w0
 cases p with
 | none =>
  obtain rfl := hp rfl
  obtain rfl : es = [] := List.length_eq_zero_iff.1 h.len
  refine U5 106 3 ?_
  refine D9 ?_
  refine sQ (B0A rfl rfl rfl) rfl ?_
  refine I7 ?_
  refine F8 (rT rfl) A0.refl ?_
  exact ⟨rfl, _, _, rfl, rfl⟩
 | some a =>
  refine D9 ?_
  refine sQ (A6G rfl rfl rfl) rfl ?_
  refine sD (nS (cF rfl (tK (nS (tS (tR ?_))))))
  (refine L4 (C8 rfl rfl rfl (by omega) (by unfold maxLen; omega) rfl) rfl ?_; rintro _ ⟨b18, rfl⟩)
  refine sQ (qM rfl) rfl ?_
  refine A5J rfl rfl rfl rfl rfl (fun _ _ => by repeat (first | exact Sw.here | apply Sw.there)) hS hone (Nat.zero_le _) (by unfold maxLen; omega) (by omega) rfl (fun pn cn => ?_)
  refine sQ (qA rfl) rfl (sD (nS (tT ?_)))
  refine F8 (rT rfl) A0.refl ?_
  exact ⟨rfl, _, _, by rw [Nat.zero_add], by rw [Nat.zero_add]; rfl⟩
theorem A1H.no {r : Option Ty} {G G' : IM} {cu : List Value} {u : Ty} {b : Bool} (hu : B5 G' u cu) (hb : b = false) (h : r = none) : A1H r G G' (.tuple ⟨[.agg ⟨cu⟩, .bool b]⟩) [] := by
 subst hb h
 exact ⟨rfl, cu, u, rfl, hu, by simp⟩
section
variable {cx : Cx} {k : Int} {nm : ByteArray} {num : Int} {ty fr : Ty} {lb : Int} {ks : List Tm}
theorem A3F {us w : List Ty} {t : Ty} (h : N5 cx k nm ty us = some (w, t)) {b : Bool} (hb : E8 t = b) : Y9 cx k nm ty us = if b = true then some (w, t) else none := by
 unfold Y9; rw [h]; simp only [hb]
theorem B2B {us : List Ty} (h : N5 cx k nm ty us = none) : Y9 cx k nm ty us = none := by
 unfold Y9; rw [h]
end
def A51 (r : Tm) : Tm × Bool := if O3 r = true then (r, true) else (D7, false)
def B62 (t : Tm) (path : List Int) (x : Tm) : Tm × Bool := if O3 t = true ∧ O3 x = true ∧ tAt t path ≠ none then A51 (A79 t path x) else (D7, false)
mutual
theorem A52 (D N : Int) : ∀ (t : Tm) (d d' : Int), d' ≤ d → M3 D N t d = true → M3 D N t d' = true
 | .mk k nm num ty fr lb ks, d, d', hd, h => by
  obtain ⟨h1, h2, h3, h4⟩ := A0r h
  rw [A1c (by omega) h2 h3]
  exact A4D D N ks _ _ (by omega) h4
theorem A4D (D N : Int) : ∀ (ts : List Tm) (d d' : Int), d' ≤ d → M4 D N ts d = true → M4 D N ts d' = true
 | [], d, d', hd, h => by rw [M4]
 | t :: ts, d, d', hd, h => by
  rw [M4, Bool.and_eq_true] at h ⊢
  exact ⟨A52 D N t d d' hd h.1, A4D D N ts d d' hd h.2⟩
end
def F0 : List Tm → List Ty → List Ty → Int → List Tm × Int
 | u :: us, a :: h, b :: w, l => if M5 a b = true then (u :: (F0 us h w l).1, (F0 us h w l).2) else (N1 u a b (l + 1) :: (F0 us h w (l + 1)).1, (F0 us h w (l + 1)).2)
 | us, _, _, l => (us, l)
def Q7 (cx : Cx) (k : Int) (nm : ByteArray) (num : Int) (ty fr : Ty) (lb : Int) (us : List Tm) (h : List Ty) (l : Int) : Option (Tm × Ty × Int) :=
 match Y9 cx k nm ty h with
 | none => none
 | some (w, t) => some (if k = 13 then (F0 us h w l).1.getD 0 D7 else .mk k nm num ty fr lb (F0 us h w l).1, t, (F0 us h w l).2)
mutual
def M7 (cx : Cx) : Tm → Int → Option (Tm × Ty × Int)
 | .mk k nm num ty fr lb ks, l => match M1 (P7 cx k nm ty) ks l with
  | none => none
  | some (us, h, l') => Q7 cx k nm num ty fr lb us h l'
def M1 (cx : Cx) : List Tm → Int → Option (List Tm × List Ty × Int)
 | [], l => some ([], [], l)
 | t :: ts, l => match M7 cx t l with
  | none => none
  | some (u, a, l') => match M1 cx ts l' with
   | none => none
   | some (us, h, l'') => some (u :: us, a :: h, l'')
end
def U9 (e : Tm) : Option (Tm × Ty) := if O4 e = true then (match M7 [] e 0 with | some (u, t, _) => some (u, t) | none => none) else none
def W6 (cx : Cx) (k : Int) (nm : ByteArray) (ty : Ty) (h : List Ty) : Option Ty := match N5 cx k nm ty h with
 | some (_, t) => if (k = 5 ∨ k = 10) ∧ E8 t = false then none else some t
 | none => none
mutual
def Q2 (cx : Cx) : Tm → Option Ty
 | .mk k nm num ty fr lb ks => match V5 (P7 cx k nm ty) ks with
  | none => none
  | some h => W6 cx k nm ty h
def V5 (cx : Cx) : List Tm → Option (List Ty)
 | [] => some []
 | t :: ts => match Q2 cx t with
  | none => none
  | some a => match V5 cx ts with
   | none => none
   | some h => some (a :: h)
end
theorem A11 (k : Int) (ks : List Ty) (d : Int) : K0 (.mk k ks) d = (decide (d ≤ 4) && decide (U1 k = ks.length) && S7 ks (d + 1)) := by rw [K0]
mutual
theorem A3G : ∀ (t : Ty) (d e : Int), e ≤ d → K0 t d = true → K0 t e = true
 | .mk k ks, d, e, h, hs => by
  rw [A11, Bool.and_eq_true, Bool.and_eq_true, decide_eq_true_eq, decide_eq_true_eq] at hs ⊢
  exact ⟨⟨by omega, hs.1.2⟩, A8u ks (d + 1) (e + 1) (by omega) hs.2⟩
theorem A8u : ∀ (ts : List Ty) (d e : Int), e ≤ d → S7 ts d = true → S7 ts e = true
 | [], d, e, h, hs => by rw [S7]
 | t :: ts, d, e, h, hs => by
  rw [S7, Bool.and_eq_true] at hs ⊢
  exact ⟨A3G t d e h hs.1, A8u ts d e h hs.2⟩
end
mutual
theorem A53 : ∀ (a b : Ty) (d : Int), J6 a b = true → K0 a d = true → K0 b d = true → K0 (T6 a b) d = true
 | .mk k ks, .mk k' ks', d, hc, ha, hb => by
  rw [A00]
  split
  ·exact hb
  ·split
   ·exact ha
   ·rw [S2] at hc
    rw [A11, Bool.and_eq_true, Bool.and_eq_true, decide_eq_true_eq, decide_eq_true_eq] at ha hb ⊢
    simp only [Bool.or_eq_true, Bool.and_eq_true, decide_eq_true_eq] at hc
    obtain ⟨hk, hl⟩ : k = k' ∧ O0 ks ks' = true := by
     rcases hc with (h | h) | h
     ·contradiction
     ·contradiction
     ·exact h
    subst hk
    obtain ⟨m1, m2⟩ := A8v ks ks' (d + 1) hl ha.2 hb.2
    exact ⟨⟨ha.1.1, by rw [m2]; exact ha.1.2⟩, m1⟩
theorem A8v : ∀ (xs ys : List Ty) (d : Int), O0 xs ys = true → S7 xs d = true → S7 ys d = true → S7 (S0 xs ys) d = true ∧ (S0 xs ys).length = xs.length
 | [], [], d, _, _, _ => by simp [S0, S7]
 | [], b :: ys, d, hc, _, _ => by simp [O0] at hc
 | a :: xs, [], d, hc, _, _ => by simp [O0] at hc
 | a :: xs, b :: ys, d, hc, ha, hb => by
  rw [O0, Bool.and_eq_true] at hc
  rw [S7, Bool.and_eq_true] at ha hb
  obtain ⟨m1, m2⟩ := A8v xs ys d hc.2 ha.2 hb.2
  rw [S0, S7, Bool.and_eq_true]
  exact ⟨⟨A53 a b d hc.1 ha.1 hb.1, m1⟩, by simp [m2]⟩
end
theorem A54 {cx : Cx} (h : ∀ b ∈ cx, E8 b.2 = true) {nm : ByteArray} {t : Ty} : ∀ {n : Nat}, X2 cx nm n = some t → E8 t = true
 | 0, hl => by simp [X2] at hl
 | n + 1, hl => by
  rw [X2] at hl
  split at hl
  ·rename_i b hb
   split at hl
   ·cases hl; exact h b (List.mem_of_getElem? hb)
   ·exact A54 h hl
  ·exact A54 h hl
theorem A8w {k : Int} {t a b : Ty} (hk : k = 4 ∨ k = 5) (ht : E8 t = true) (h : R6 k t = some (a, b)) : E8 a = true ∧ E8 b = true := by
 obtain ⟨tk, ks⟩ := t
 rw [show R6 k (.mk tk ks) = (if tk = k then some (ks.getD 0 A8, ks.getD 1 A8) else if tk = 1 then some (N4, N4) else none) from rfl] at h
 by_cases he : tk = k
 ·rw [if_pos he] at h
  cases h
  unfold E8 at ht ⊢
  rw [A11, Bool.and_eq_true, Bool.and_eq_true, decide_eq_true_eq, decide_eq_true_eq] at ht
  have h2 : ks.length = 2 := by
   have : U1 tk = 2 := by rw [he]; rcases hk with rfl | rfl <;> rfl
   omega
  match ks, h2, ht.2 with
  | [x, y], _, hL =>
   simp only [S7, Bool.and_eq_true] at hL
   exact ⟨A3G _ 2 1 (by omega) hL.1, A3G _ 2 1 (by omega) hL.2.1⟩
 ·rw [if_neg he] at h
  by_cases h1 : tk = 1
  ·rw [if_pos h1] at h
   cases h
   exact ⟨by decide, by decide⟩
  ·rw [if_neg h1] at h; cases h
theorem B2C {l : List Ty} {i : Nat} (h : i < l.length) : l.getD i A8 ∈ l := by
 rw [List.getD_eq_getElem?_getD, List.getElem?_eq_getElem h, Option.getD_some]; exact List.getElem_mem h
theorem B2D {cx : Cx} {k : Int} {nm : ByteArray} {ty : Ty} {h w : List Ty} {t : Ty} (hcx : ∀ b ∈ cx, E8 b.2 = true) (hh : ∀ a ∈ h, E8 a = true) (hd : E8 (h.getD 0 A8) = true ∨ h = []) (hty : k = 13 → E8 ty = true) (hn : C5 k = (h.length : Int)) (hw : N5 cx k nm ty h = some (w, t)) (h510 : k ≠ 5 ∧ k ≠ 10) : E8 t = true := by
 have hg : ∀ i, i < h.length → E8 (h.getD i A8) = true := fun i hi => hh _ (B2C hi)
 unfold N5 at hw
 split at hw
 ·split at hw
  ·rename_i u hu; cases hw; exact A54 hcx hu
  ·cases hw
 split at hw
 ·cases hw; decide
 split at hw
 ·cases hw; decide
 split at hw
 ·exact absurd (by assumption) h510.1
 split at hw
 ·rename_i hk6
  have hl : h.length = 2 := by have : C5 k = 2 := (by rw [hk6]; rfl); omega
  split at hw
  ·rename_i a b hm
   split at hw
   ·cases hw; exact (A8w (.inl rfl) (hg 0 (by omega)) hm).2
   ·cases hw
  ·cases hw
 split at hw
 ·split at hw
  ·cases hw; split <;> decide
  ·cases hw
 split at hw
 ·rename_i hk9
  have hl : h.length = 3 := by have : C5 k = 3 := (by rw [hk9]; rfl); omega
  split at hw
  ·rename_i hc
   cases hw
   exact A53 _ _ 1 hc.2 (hg 1 (by omega)) (hg 2 (by omega))
  ·cases hw
 split at hw
 ·exact absurd (by assumption) h510.2
 split at hw
 ·split at hw
  ·cases hw; exact hty (by assumption)
  ·cases hw
 ·split at hw
  ·rename_i a b hm
   have hl : h.length ≠ 0 := by
    intro h0
    rw [List.length_eq_zero_iff] at h0
    subst h0
    rw [show R6 5 (([] : List Ty).getD 0 A8) = none from rfl] at hm
    cases hm
   cases hw
   have := A8w (.inr rfl) (hg 0 (by omega)) hm
   split
   ·exact this.2
   ·exact this.1
  ·cases hw
def cxV (cx : Cx) : Prop := ∀ b ∈ cx, E8 b.2 = true
theorem A4E : cxV [] := by intro b hb; simp at hb
theorem A4F {cx : Cx} {k : Int} {nm : ByteArray} {ty : Ty} (h : cxV cx) (ht : k = 5 → E8 ty = true) : cxV (P7 cx k nm ty) := by
 unfold P7
 split
 ·intro b hb
  rcases List.mem_append.1 hb with hb | hb
  ·exact h b hb
  ·obtain rfl := List.mem_singleton.1 hb; exact ht (by assumption)
 ·exact h
theorem B2E {cx : Cx} {k : Int} {nm : ByteArray} {ty : Ty} {h : List Ty} (hcx : cxV cx) (hh : ∀ a ∈ h, E8 a = true) (hty : k = 13 → E8 ty = true) (hn : C5 k = (h.length : Int)) :
  (∀ w t, Y9 cx k nm ty h = some (w, t) → W6 cx k nm ty h = some t ∧ E8 t = true) ∧ (Y9 cx k nm ty h = none → W6 cx k nm ty h = none) := by
 unfold Y9 W6
 have hv := fun w t (e : N5 cx k nm ty h = some (w, t)) (h5 : k ≠ 5 ∧ k ≠ 10) => B2D hcx hh (by cases h with | nil => exact .inr rfl | cons x xs => exact .inl (hh _ (by simp))) hty hn e h5
 cases hw : N5 cx k nm ty h with
 | none => simp
 | some p =>
  obtain ⟨w, t⟩ := p
  have hv := hv w t hw
  simp only
  by_cases h5 : k = 5 ∨ k = 10
  ·cases ht : E8 t with
   | true => simp [ht]
   | false => simp [h5]
  ·have := hv (by omega)
   simp [this]
theorem B2F (ks : List Tm) (ih : ∀ t ∈ ks, ∀ d cx l, M3 12 14 t d = true → cxV cx → (∀ u a l', M7 cx t l = some (u, a, l') → Q2 cx t = some a ∧ E8 a = true) ∧ (M7 cx t l = none → Q2 cx t = none)) :
  ∀ d cx l, M4 12 14 ks d = true → cxV cx → (∀ us h l', M1 cx ks l = some (us, h, l') → V5 cx ks = some h ∧ (∀ a ∈ h, E8 a = true) ∧ h.length = ks.length ∧ us.length = ks.length) ∧ (M1 cx ks l = none → V5 cx ks = none) := by
 induction ks with
 | nil =>
  intro d cx l _ _
  refine ⟨fun us h l' he => ?_, fun he => by simp [M1] at he⟩
  simp only [M1, Option.some.injEq, Prod.mk.injEq] at he
  obtain ⟨rfl, rfl, _⟩ := he
  exact ⟨by rw [V5], by simp, rfl, rfl⟩
 | cons t ts ihl =>
  intro d cx l hs hcx
  rw [M4, Bool.and_eq_true] at hs
  obtain ⟨a1, a2⟩ := ih t List.mem_cons_self d cx l hs.1 hcx
  rw [M1, V5]
  cases he : M7 cx t l with
  | none => rw [a2 he]; exact ⟨fun _ _ _ h => by simp at h, fun _ => rfl⟩
  | some p =>
   obtain ⟨u, a, l1⟩ := p
   obtain ⟨b1, b2⟩ := a1 u a l1 he
   rw [b1]
   obtain ⟨c1, c2⟩ := ihl (fun x hx => ih x (List.mem_cons_of_mem _ hx)) d cx l1 hs.2 hcx
   simp only
   cases hL : M1 cx ts l1 with
   | none => rw [c2 hL]; exact ⟨fun _ _ _ h => by simp at h, fun _ => rfl⟩
   | some q =>
    obtain ⟨us, h, l2⟩ := q
    obtain ⟨d1, d2, d3, d4⟩ := c1 us h l2 hL
    rw [d1]
    refine ⟨fun us' h' l' e => ?_, fun e => by simp at e⟩
    simp only [Option.some.injEq, Prod.mk.injEq] at e
    obtain ⟨rfl, rfl, _⟩ := e
    refine ⟨rfl, fun x hx => ?_, by simp [d3], by simp [d4]⟩
    rcases List.mem_cons.1 hx with rfl | hx
    ·exact b2
    ·exact d2 x hx
theorem A4G : ∀ (t : Tm) (d : Int) (cx : Cx) (l : Int), M3 12 14 t d = true → cxV cx → (∀ u a l', M7 cx t l = some (u, a, l') → Q2 cx t = some a ∧ E8 a = true) ∧ (M7 cx t l = none → Q2 cx t = none) := by
 refine Tm.ind fun k nm num ty fr lb ks ih d cx l hs hcx => ?_
 obtain ⟨_, _, h3, h4⟩ := A0r hs
 obtain ⟨n1, _, _, _, _, n6, _⟩ := V3.1 h3
 obtain ⟨L1, L2⟩ := B2F ks ih (d + 1) (P7 cx k nm ty) l h4 (A4F hcx fun hk => n6 (by omega))
 rw [M7, Q2]
 cases hL : M1 (P7 cx k nm ty) ks l with
 | none => rw [L2 hL]; exact ⟨fun _ _ _ h => by simp at h, fun _ => rfl⟩
 | some q =>
  obtain ⟨us, h, l2⟩ := q
  obtain ⟨d1, d2, d3, d4⟩ := L1 us h l2 hL
  rw [d1]
  obtain ⟨e1, e2⟩ := B2E (k := k) (nm := nm) (ty := ty) hcx d2 (fun hk => n6 (.inr (.inl hk))) (by rw [d3]; exact n1)
  simp only [Q7]
  cases hN : Y9 cx k nm ty h with
  | none => rw [e2 hN]; exact ⟨fun _ _ _ h => by simp at h, fun _ => rfl⟩
  | some p =>
   obtain ⟨w, t⟩ := p
   obtain ⟨f1, f2⟩ := e1 w t hN
   rw [f1]
   refine ⟨fun u a l' e => ?_, fun e => by simp at e⟩
   simp only [Option.some.injEq, Prod.mk.injEq] at e
   obtain ⟨_, rfl, _⟩ := e
   exact ⟨rfl, f2⟩
theorem B2G {cx : Cx} {k : Int} {nm : ByteArray} {num : Int} {ty fr : Ty} {lb : Int} {ks : List Tm} {T : Ty} {us w : List Ty} (hu : X7 (P7 cx k nm ty) ks = some us) (hk : k ≠ 14) (hv : E8 T = true) (hw : N5 cx k nm ty us = some (w, T)) (hs : A3u w us = true) : A0H cx (.mk k nm num ty fr lb ks) = some T := by
 rw [A0H, hu]
 simp only [if_neg hk]
 unfold Y9
 rw [hw]
 simp only [hv, if_true, hs]
theorem B2H {cx : Cx} {a : Tm} {us : List Ty} (h : X7 cx [a] = some us) : ∃ x, A0H cx a = some x ∧ us = [x] := by
 rw [X7] at h
 split at h
 ·cases h
 ·rename_i x hx
  rw [X7] at h
  simp only [Option.some.injEq] at h
  exact ⟨x, hx, h.symm⟩
theorem B2I {cx : Cx} {a : Tm} {x : Ty} (h : A0H cx a = some x) : X7 cx [a] = some [x] := by rw [X7, h]; rfl
mutual
theorem A2p : ∀ a : Ty, J6 a a = true
 | .mk k ks => by rw [S2, A8x ks]; simp
theorem A8x : ∀ xs : List Ty, O0 xs xs = true
 | [] => rfl
 | a :: xs => by rw [O0, A2p a, A8x xs]; rfl
end
mutual
theorem A8y : ∀ a : Ty, T6 a a = a
 | .mk k ks => by
  rw [A00, A8z ks]
  by_cases h : k = 1
  ·rw [if_pos h]
  ·rw [if_neg h, if_neg h]
theorem A8z : ∀ xs : List Ty, S0 xs xs = xs
 | [] => rfl
 | a :: xs => by rw [S0, A8y a, A8z xs]
end
theorem A4H {k : Int} {ks : List Ty} (hk : k = 4 ∨ k = 5) (h : E8 (.mk k ks) = true) : ∃ a b, ks = [a, b] ∧ E8 a = true ∧ E8 b = true := by
 unfold E8 at h ⊢
 rw [A11, Bool.and_eq_true, Bool.and_eq_true, decide_eq_true_eq, decide_eq_true_eq] at h
 have h2 : ks.length = 2 := by
  have : U1 k = 2 := by rcases hk with rfl | rfl <;> rfl
  omega
 match ks, h2, h.2 with
 | [x, y], _, hL =>
  simp only [S7, Bool.and_eq_true] at hL
  exact ⟨x, y, rfl, A3G _ 2 1 (by omega) hL.1, A3G _ 2 1 (by omega) hL.2.1⟩
theorem B2J {k : Int} {ks : List Ty} (h : E8 (.mk k ks) = true) (hk : k ≠ 4) (hk5 : k ≠ 5) : (k = 1 ∨ k = 2 ∨ k = 3) ∧ ks = [] := by
 unfold E8 at h
 rw [A11, Bool.and_eq_true, Bool.and_eq_true, decide_eq_true_eq, decide_eq_true_eq] at h
 obtain ⟨h1, h2, h3⟩ := M9 k
 have hl := h.1.2
 have hk3 : k = 1 ∨ k = 2 ∨ k = 3 := by
  apply Classical.byContradiction
  intro hc
  rw [h3 (by omega) (by omega) (by omega) hk hk5] at hl; omega
 rw [h1 hk3] at hl
 exact ⟨hk3, List.length_eq_zero_iff.1 (by omega)⟩
section inv
variable {cx : Cx} {nm : ByteArray} {num : Int} {ty fr : Ty} {lb : Int} {a b c : Tm} {T : Ty}
theorem A8A : ∀ xs : List Ty, A3u xs xs = true
 | [] => rfl
 | a :: xs => by rw [A3u, A7J, A8A xs]; rfl
theorem B2K (h : A0H cx a = some fr) : A0H cx (.mk 14 nm num ty fr lb [a]) = some ty := by
 rw [A0H, show P7 cx 14 nm ty = cx from rfl, B2I h]
 simp only [if_true, List.getD_cons_zero, A7J]
end inv
theorem B2L (cx : Cx) (x nm : ByteArray) (t : Ty) : Z9 (cx ++ [(x, t)]) nm = if x = nm then some t else Z9 cx nm := by
 unfold Z9
 rw [List.length_append, show ([(x, t)] : Cx).length = 1 from rfl]
 have hl : (cx ++ [(x, t)])[cx.length]? = some (x, t) := by rw [List.getElem?_append_right (Nat.le_refl _)]; simp
 by_cases h : x = nm
 ·rw [A5E hl h, if_pos h]
 ·rw [A5F hl h, if_neg h]
  have : ∀ n, n ≤ cx.length → X2 (cx ++ [(x, t)]) nm n = X2 cx nm n := by
   intro n
   induction n with
   | zero => intro _; rfl
   | succ n ih =>
    intro hn
    rw [X2, X2, List.getElem?_append_left (by omega), ih (by omega)]
  exact this _ (Nat.le_refl _)
theorem A4I {cx : Cx} : ∀ {ks : List Tm} {i : Nat} (hi : i < ks.length) {l l' l2 : Int} {us : List Tm} {h : List Ty} {u : Tm} {a : Ty}, M1 cx (ks.take i) l = some (us, h, l') → M7 cx ks[i] l' = some (u, a, l2) → M1 cx (ks.take (i + 1)) l = some (us ++ [u], h ++ [a], l2)
 | [], i, hi, _, _, _, _, _, _, _, _, _ => by simp at hi
 | t :: ts, 0, _, l, l', l2, us, h, u, a, h1, h2 => by
  simp only [List.take_zero, M1, Option.some.injEq, Prod.mk.injEq] at h1
  obtain ⟨rfl, rfl, rfl⟩ := h1
  simp only [List.getElem_cons_zero] at h2
  simp [M1, h2]
 | t :: ts, i + 1, hi, l, l', l2, us, h, u, a, h1, h2 => by
  simp only [List.take_succ_cons, M1] at h1 ⊢
  split at h1
  ·cases h1
  ·rename_i u1 a1 l1 he
   split at h1
   ·cases h1
   ·rename_i us1 h1' l1' hL
    simp only [Option.some.injEq, Prod.mk.injEq] at h1
    obtain ⟨rfl, rfl, rfl⟩ := h1
    simp only [List.getElem_cons_succ] at h2
    have := A4I (ks := ts) (i := i) (by simpa using hi) hL h2
    simp only [this, List.cons_append]
theorem A8B {cx : Cx} : ∀ {ks : List Tm} {i : Nat} (hi : i < ks.length) {l l' : Int} {us : List Tm} {h : List Ty}, M1 cx (ks.take i) l = some (us, h, l') → M7 cx ks[i] l' = none → M1 cx ks l = none
 | [], i, hi, _, _, _, _, _, _ => by simp at hi
 | t :: ts, 0, _, l, l', us, h, h1, h2 => by
  simp only [List.take_zero, M1, Option.some.injEq, Prod.mk.injEq] at h1
  obtain ⟨rfl, rfl, rfl⟩ := h1
  simp only [List.getElem_cons_zero] at h2
  simp [M1, h2]
 | t :: ts, i + 1, hi, l, l', us, h, h1, h2 => by
  simp only [List.take_succ_cons, M1] at h1 ⊢
  split at h1
  ·cases h1
  ·rename_i u1 a1 l1 he
   split at h1
   ·cases h1
   ·rename_i us1 h1' l1' hL
    simp only [Option.some.injEq, Prod.mk.injEq] at h1
    obtain ⟨rfl, rfl, rfl⟩ := h1
    simp only [List.getElem_cons_succ] at h2
    have := A8B (ks := ts) (i := i) (by simpa using hi) hL h2
    simp only [this]
theorem X3 (us : List Tm) (h : List Ty) (l : Int) : F0 us h [] l = (us, l) := by
 cases us with
 | nil => rfl
 | cons u us => cases h <;> rfl
theorem A4J : ∀ (us : List Tm) (h w : List Ty) (l : Int) (j : Nat) (hj : j < w.length) (hu : w.length ≤ us.length) (hh : w.length ≤ h.length),
  (F0 us h (w.take j) l).1.length = us.length ∧ (∀ (hq : j < (F0 us h (w.take j) l).1.length), (F0 us h (w.take j) l).1[j] = us[j]'(by omega)) ∧
  F0 us h (w.take (j + 1)) l = if M5 (h[j]'(by omega)) w[j] = true then F0 us h (w.take j) l else ((F0 us h (w.take j) l).1.set j (N1 (us[j]'(by omega)) (h[j]'(by omega)) w[j] ((F0 us h (w.take j) l).2 + 1)), (F0 us h (w.take j) l).2 + 1)
 | us, h, [], l, j, hj, _, _ => by simp at hj
 | [], h, b :: w, l, j, _, hu, _ => by simp at hu
 | u :: us, [], b :: w, l, j, _, _, hh => by simp at hh
 | u :: us, a :: h, b :: w, l, 0, _, _, _ => by
  refine ⟨by simp [F0], by simp [F0], ?_⟩
  simp only [List.take_succ_cons, List.take_zero, F0, X3, List.getElem_cons_zero, List.set_cons_zero]
 | u :: us, a :: h, b :: w, l, j + 1, hj, hu, hh => by
  simp only [List.take_succ_cons, List.getElem_cons_succ]
  by_cases hs : M5 a b = true
  ·have ih := A4J us h w l j (by simpa using hj) (by simpa using hu) (by simpa using hh)
   simp only [F0, if_pos hs]
   obtain ⟨i1, i2, i3⟩ := ih
   refine ⟨by simp [i1], fun hq => by simp [i2], ?_⟩
   rw [i3]
   split <;> simp
  ·have ih := A4J us h w (l + 1) j (by simpa using hj) (by simpa using hu) (by simpa using hh)
   simp only [F0, if_neg hs]
   obtain ⟨i1, i2, i3⟩ := ih
   refine ⟨by simp [i1], fun hq => by simp [i2], ?_⟩
   rw [i3]
   split <;> simp
theorem A2S : ∀ (us : List Tm) (h w : List Ty) (l : Int), (F0 us h w l).1.length = us.length
 | [], h, w, l => by simp [F0]
 | u :: us, [], w, l => by simp [F0]
 | u :: us, a :: h, [], l => by simp [F0]
 | u :: us, a :: h, b :: w, l => by
  simp only [F0]
  split
  ·simp [A2S us h w l]
  ·simp [A2S us h w (l + 1)]
theorem B2M {us : List Tm} {h w : List Ty} {l : Int} {j : Nat} (hj : j < w.length) (hu : w.length ≤ us.length) (hh : w.length ≤ h.length) :
  (F0 us h (w.take (j + 1)) l).1 = (F0 us h (w.take j) l).1.set j (if M5 (h[j]'(by omega)) w[j] = true then us[j]'(by omega) else N1 (us[j]'(by omega)) (h[j]'(by omega)) w[j] ((F0 us h (w.take j) l).2 + 1)) ∧
  (F0 us h (w.take (j + 1)) l).2 = (if M5 (h[j]'(by omega)) w[j] = true then (F0 us h (w.take j) l).2 else (F0 us h (w.take j) l).2 + 1) := by
 obtain ⟨h1, h2, h3⟩ := A4J us h w l j hj hu hh
 by_cases hs : M5 (h[j]'(by omega)) w[j] = true
 ·rw [h3, if_pos hs, if_pos hs, if_pos hs]
  refine ⟨?_, rfl⟩
  rw [← h2 (by omega), List.set_getElem_self]
 ·rw [h3, if_neg hs, if_neg hs, if_neg hs]
  exact ⟨rfl, rfl⟩
theorem A12 : ∀ (us : List Tm) (h w : List Ty) (l : Int), l ≤ (F0 us h w l).2 ∧ (F0 us h w l).2 ≤ l + us.length
 | [], h, w, l => by simp [F0]
 | u :: us, [], w, l => by simp [F0]; omega
 | u :: us, a :: h, [], l => by simp [F0]; omega
 | u :: us, a :: h, b :: w, l => by
  simp only [F0]
  split
  ·have := A12 us h w l; simp only [List.length_cons]; omega
  ·have := A12 us h w (l + 1); simp only [List.length_cons]; omega
mutual
def A1J : Ty → Ty → Bool
 | .mk k ks, t => decide (t.k = 1) || (decide (k = t.k) && A0u ks t.ks)
def A0u : List Ty → List Ty → Bool
 | [], [] => true
 | a :: xs, b :: ys => A1J a b && A0u xs ys
 | _, _ => false
end
theorem A1k (k k' : Int) (ks ks' : List Ty) : A1J (.mk k ks) (.mk k' ks') = (decide (k' = 1) || (decide (k = k') && A0u ks ks')) := by rw [A1J]; rfl
mutual
def A2q : Tm → Tm → Bool
 | .mk k nm num ty _ _ ks, u => decide (k = u.k ∧ nm = u.nm ∧ num = u.num) && (decide (k ≠ 5 ∧ k ≠ 13) || A1J ty u.ty) && A13 ks u.ks
def A13 : List Tm → List Tm → Bool
 | [], [] => true
 | a :: xs, b :: ys => A2q a b && A13 xs ys
 | _, _ => false
end
theorem A8C {k k' : Int} {nm nm' : ByteArray} {num num' : Int} {ty ty' fr fr' : Ty} {lb lb' : Int} {ks ks' : List Tm} :
  A2q (.mk k nm num ty fr lb ks) (.mk k' nm' num' ty' fr' lb' ks') = true ↔ k = k' ∧ nm = nm' ∧ num = num' ∧ (k = 5 ∨ k = 13 → A1J ty ty' = true) ∧ A13 ks ks' = true := by
 rw [A2q]
 show (decide (k = k' ∧ nm = nm' ∧ num = num') && (decide (k ≠ 5 ∧ k ≠ 13) || A1J ty ty') && A13 ks ks') = true ↔ _
 simp only [Bool.and_eq_true, Bool.or_eq_true, decide_eq_true_eq]
 constructor
 ·rintro ⟨⟨⟨a, b, c⟩, e⟩, d⟩
  exact ⟨a, b, c, fun h => e.resolve_left (by omega), d⟩
 ·rintro ⟨a, b, c, e, d⟩
  refine ⟨⟨⟨a, b, c⟩, ?_⟩, d⟩
  by_cases h : k = 5 ∨ k = 13
  ·exact .inr (e h)
  ·exact .inl (by omega)
def A4K (a b : Tm) : Bool := O4 a && (O4 b && A2q a b)
theorem A1K : ∀ (t : Ty), E8 t = true → ∃ a : GT, t = a.ty
 | .mk k ks, h => by
  by_cases h4 : k = 4
  ·obtain ⟨x, y, hxy, hx, hy⟩ := A4H (.inl h4) h
   have : SizeOf.sizeOf x < SizeOf.sizeOf ks ∧ SizeOf.sizeOf y < SizeOf.sizeOf ks := by subst hxy; simp; omega
   obtain ⟨a, ha⟩ := A1K x hx
   obtain ⟨b, hb⟩ := A1K y hy
   exact ⟨.fn a b, by rw [h4, hxy, ha, hb]; rfl⟩
  ·by_cases h5 : k = 5
   ·obtain ⟨x, y, hxy, hx, hy⟩ := A4H (.inr h5) h
    have : SizeOf.sizeOf x < SizeOf.sizeOf ks ∧ SizeOf.sizeOf y < SizeOf.sizeOf ks := by subst hxy; simp; omega
    obtain ⟨a, ha⟩ := A1K x hx
    obtain ⟨b, hb⟩ := A1K y hy
    exact ⟨.pr a b, by rw [h5, hxy, ha, hb]; rfl⟩
   ·obtain ⟨h1, rfl⟩ := B2J h h4 h5
    rcases h1 with rfl | rfl | rfl
    ·exact ⟨.any, rfl⟩
    ·exact ⟨.int, rfl⟩
    ·exact ⟨.bool, rfl⟩
 termination_by t => SizeOf.sizeOf t
 decreasing_by all_goals (simp only [Ty.mk.sizeOf_spec]; omega)
theorem A8D : ∀ (a b : GT), A1J a.ty b.ty = true ↔ Le a b := by
 intro a
 induction a with
 | any => intro b; cases b <;> simp [GT.ty, A1k, A0u] <;> first | exact .any | (intro h; cases h)
 | int => intro b; cases b <;> simp [GT.ty, A1k, A0u] <;> first | exact .any | exact .int | (intro h; cases h)
 | bool => intro b; cases b <;> simp [GT.ty, A1k, A0u] <;> first | exact .any | exact .bool | (intro h; cases h)
 | fn x y i j =>
  intro b
  cases b with
  | fn z w => simp only [GT.ty, A1k, A0u, i, j, Bool.or_eq_true, Bool.and_eq_true, decide_eq_true_eq, Bool.and_true, true_and]; exact ⟨fun h => by rcases h with h | h; exact absurd h (by decide); exact .fn h.1 h.2, fun h => by cases h with | fn a b => exact .inr ⟨a, b⟩⟩
  | any => simp [GT.ty, A1k, A0u]; exact .any
  | _ => simp [GT.ty, A1k, A0u]; intro h; cases h
 | pr x y i j =>
  intro b
  cases b with
  | pr z w => simp only [GT.ty, A1k, A0u, i, j, Bool.or_eq_true, Bool.and_eq_true, decide_eq_true_eq, Bool.and_true, true_and]; exact ⟨fun h => by rcases h with h | h; exact absurd h (by decide); exact .pr h.1 h.2, fun h => by cases h with | pr a b => exact .inr ⟨a, b⟩⟩
  | any => simp [GT.ty, A1k, A0u]; exact .any
  | _ => simp [GT.ty, A1k, A0u]; intro h; cases h
theorem A0K : ∀ (a b : GT), J6 a.ty b.ty = true ↔ Co a b := by
 intro a
 induction a with
 | any => intro b; cases b <;> simp [GT.ty, S2, O0] <;> exact .l
 | int => intro b; cases b <;> simp [GT.ty, S2, O0] <;> first | exact .r | exact .int | (intro h; cases h)
 | bool => intro b; cases b <;> simp [GT.ty, S2, O0] <;> first | exact .r | exact .bool | (intro h; cases h)
 | fn x y i j =>
  intro b
  cases b with
  | fn z w => simp only [GT.ty, S2, O0, i, j, Bool.or_eq_true, Bool.and_eq_true, decide_eq_true_eq, Bool.and_true, true_and]; exact ⟨fun h => by rcases h with h | h; exact absurd h (by decide); exact .fn h.1 h.2, fun h => by cases h with | fn a b => exact .inr ⟨a, b⟩⟩
  | any => simp [GT.ty, S2, O0]; exact .r
  | _ => simp [GT.ty, S2, O0]; intro h; cases h
 | pr x y i j =>
  intro b
  cases b with
  | pr z w => simp only [GT.ty, S2, O0, i, j, Bool.or_eq_true, Bool.and_eq_true, decide_eq_true_eq, Bool.and_true, true_and]; exact ⟨fun h => by rcases h with h | h; exact absurd h (by decide); exact .pr h.1 h.2, fun h => by cases h with | pr a b => exact .inr ⟨a, b⟩⟩
  | any => simp [GT.ty, S2, O0]; exact .r
  | _ => simp [GT.ty, S2, O0]; intro h; cases h
def R2 : GT → GT → GT
 | .any, b => b
 | .fn a b, .fn c d => .fn (R2 a c) (R2 b d)
 | .pr a b, .pr c d => .pr (R2 a c) (R2 b d)
 | a, _ => a
theorem A2T (a : GT) : R2 a .any = a := by cases a <;> rfl
theorem A8E {a b : GT} (h : Co a b) : T6 a.ty b.ty = (R2 a b).ty := by
 induction h with
 | l => simp [GT.ty, T6, R2]
 | @r a => rw [A2T]; cases a <;> simp [GT.ty, A00]
 | int => simp [GT.ty, A00, S0, R2]
 | bool => simp [GT.ty, A00, S0, R2]
 | fn _ _ i j => simp [GT.ty, A00, S0, R2, i, j]
 | pr _ _ i j => simp [GT.ty, A00, S0, R2, i, j]
theorem A4L {a b : GT} (h : Co a b) : Le (R2 a b) a := by
 induction h with
 | l => exact .any
 | r => rw [A2T]; exact Le.refl
 | int => exact .int
 | bool => exact .bool
 | fn _ _ i j => exact .fn i j
 | pr _ _ i j => exact .pr i j
theorem A4M {a b : GT} (h : Co a b) : Le (R2 a b) b := by
 induction h with
 | l => exact Le.refl
 | r => exact .any
 | int => exact .int
 | bool => exact .bool
 | fn _ _ i j => exact .fn i j
 | pr _ _ i j => exact .pr i j
theorem B2N {a b : GT} (h : Co a b) : ∀ {a' b' : GT}, Le a a' → Le b b' → Le (R2 a b) (R2 a' b') := by
 induction h with
 | l => intro a' b' h1 h2; cases h1; exact h2
 | r => intro a' b' h1 h2; cases h2; rw [A2T, A2T]; exact h1
 | int => intro a' b' h1 h2; cases h1 <;> cases h2 <;> first | exact .int | exact .any
 | bool => intro a' b' h1 h2; cases h1 <;> cases h2 <;> first | exact .bool | exact .any
 | fn c d i j =>
  intro a' b' h1 h2
  cases h1 with
  | any => exact (A4M (.fn c d)).trans h2
  | fn p q => cases h2 with
   | any => rw [A2T]; exact (A4L (.fn c d)).trans (.fn p q)
   | fn r s => exact .fn (i p r) (j q s)
 | pr c d i j =>
  intro a' b' h1 h2
  cases h1 with
  | any => exact (A4M (.pr c d)).trans h2
  | pr p q => cases h2 with
   | any => rw [A2T]; exact (A4L (.pr c d)).trans (.pr p q)
   | pr r s => exact .pr (i p r) (j q s)
theorem B2O {a b : GT} (h : Le a b) : ∀ (d : Int), K0 a.ty d = true → K0 b.ty d = true := by
 induction h with
 | @any a => intro d h; cases a <;> (simp only [GT.ty, A11, Bool.and_eq_true, decide_eq_true_eq] at h ⊢; exact ⟨⟨h.1.1, rfl⟩, by rw [S7]⟩)
 | int => exact fun _ h => h
 | bool => exact fun _ h => h
 | fn _ _ i j =>
  intro d h
  simp only [GT.ty, A11, S7, Bool.and_eq_true, decide_eq_true_eq] at h ⊢
  exact ⟨⟨h.1.1, rfl⟩, i _ h.2.1, j _ h.2.2.1, trivial⟩
 | pr _ _ i j =>
  intro d h
  simp only [GT.ty, A11, S7, Bool.and_eq_true, decide_eq_true_eq] at h ⊢
  exact ⟨⟨h.1.1, rfl⟩, i _ h.2.1, j _ h.2.2.1, trivial⟩
theorem A2r {a b : GT} (h : Le a b) (hv : E8 a.ty = true) : E8 b.ty = true := B2O h 1 hv
def gmF : GT → Option (GT × GT)
 | .fn a b => some (a, b)
 | .any => some (.any, .any)
 | _ => none
def gmP : GT → Option (GT × GT)
 | .pr a b => some (a, b)
 | .any => some (.any, .any)
 | _ => none
theorem A8F (a : GT) : R6 4 a.ty = (gmF a).map fun p => (p.1.ty, p.2.ty) := by cases a <;> rfl
theorem A8G (a : GT) : R6 5 a.ty = (gmP a).map fun p => (p.1.ty, p.2.ty) := by cases a <;> rfl
theorem B2P {a b p q : GT} (h : Le a b) (hm : gmF a = some (p, q)) : Co a (.fn p q) ∧ ∃ p' q', gmF b = some (p', q') ∧ Le p p' ∧ Le q q' ∧ Co b (.fn p' q') := by
 cases h with
 | any =>
  refine ⟨?_, .any, .any, rfl, .any, .any, .l⟩
  cases a with
  | fn _ _ => cases hm; exact Co.refl
  | any => exact .l
  | _ => cases hm
 | fn h1 h2 => cases hm; exact ⟨Co.refl, _, _, rfl, h1, h2, Co.refl⟩
 | _ => cases hm
theorem B2Q {a b p q : GT} (h : Le a b) (hm : gmP a = some (p, q)) : Co a (.pr p q) ∧ ∃ p' q', gmP b = some (p', q') ∧ Le p p' ∧ Le q q' ∧ Co b (.pr p' q') := by
 cases h with
 | any =>
  refine ⟨?_, .any, .any, rfl, .any, .any, .l⟩
  cases a with
  | pr _ _ => cases hm; exact Co.refl
  | any => exact .l
  | _ => cases hm
 | pr h1 h2 => cases hm; exact ⟨Co.refl, _, _, rfl, h1, h2, Co.refl⟩
 | _ => cases hm
def CxR (cx cx' : Cx) (Γ : GC) : Prop := ∀ x a, Z9 cx x = some a → ∃ A A', a = A.ty ∧ Z9 cx' x = some A'.ty ∧ Γ x = some (A, A') ∧ Le A A'
theorem B2R : CxR [] [] N0 := by intro x a h; simp [Z9, X2] at h
theorem B2S {cx cx' : Cx} {Γ : GC} (h : CxR cx cx' Γ) {A A' : GT} (hl : Le A A') (x : ByteArray) : CxR (cx ++ [(x, A.ty)]) (cx' ++ [(x, A'.ty)]) (gup Γ x A A') := by
 intro y a ha
 rw [B2L] at ha ⊢
 unfold gup
 by_cases hy : x = y
 ·rw [if_pos hy] at ha ⊢
  rw [if_pos hy]
  cases ha
  exact ⟨A, A', rfl, rfl, rfl, hl⟩
 ·rw [if_neg hy] at ha ⊢
  rw [if_neg hy]
  exact h y a ha
def R8 (A B : GT) (l : Int) (e : GE) : GE := if M5 A.ty B.ty = true then e else .cast A B l e
theorem A1L {Γ : GC} {e e' : GE} {A A' B B' : GT} {l l' : Int} (h : GP Γ e e' A A') (h1 : Co A B) (h2 : Co A' B') (h3 : Le B B') : GP Γ (R8 A B l e) (R8 A' B' l' e') B B' := by
 unfold R8
 by_cases hs : M5 A.ty B.ty = true
 ·rw [if_pos hs]
  obtain rfl := GT.inj ((A1d _ _).1 hs)
  by_cases ht : M5 A'.ty B'.ty = true
  ·rw [if_pos ht]
   obtain rfl := GT.inj ((A1d _ _).1 ht)
   exact h
  ·rw [if_neg ht]; exact .castR h h2 h3
 ·rw [if_neg hs]
  by_cases ht : M5 A'.ty B'.ty = true
  ·rw [if_pos ht]
   obtain rfl := GT.inj ((A1d _ _).1 ht)
   exact .castL h h1 h3
  ·rw [if_neg ht]; exact .castB h h1 h2 h3
theorem A55 (e : GE) (us : List Tm) (A B : GT) (h w : List Ty) (l : Int) : ∃ m l1, F0 (e.tm :: us) (A.ty :: h) (B.ty :: w) l = ((R8 A B m e).tm :: (F0 us h w l1).1, (F0 us h w l1).2) := by
 rw [F0]
 unfold R8
 by_cases hs : M5 A.ty B.ty = true
 ·rw [if_pos hs]; exact ⟨0, l, by rw [if_pos hs]⟩
 ·rw [if_neg hs]; exact ⟨l + 1, l + 1, by rw [if_neg hs]; rfl⟩
theorem A3H (e : GE) (A B : GT) (l : Int) : ∃ m l1, F0 [e.tm] [A.ty] [B.ty] l = ([(R8 A B m e).tm], l1) := by
 obtain ⟨m, l1, h⟩ := A55 e [] A B [] [] l
 rw [X3] at h
 exact ⟨m, l1, h⟩
theorem A3I (e f : GE) (A B C D : GT) (l : Int) : ∃ m n l1, F0 [e.tm, f.tm] [A.ty, C.ty] [B.ty, D.ty] l = ([(R8 A B m e).tm, (R8 C D n f).tm], l1) := by
 obtain ⟨m, l1, h⟩ := A55 e [f.tm] A B [C.ty] [D.ty] l
 obtain ⟨n, l2, h2⟩ := A3H f C D l1
 rw [h2] at h
 exact ⟨m, n, l2, h⟩
theorem A8H (e f g : GE) (A B C D E F : GT) (l : Int) : ∃ m n o l1, F0 [e.tm, f.tm, g.tm] [A.ty, C.ty, E.ty] [B.ty, D.ty, F.ty] l = ([(R8 A B m e).tm, (R8 C D n f).tm, (R8 E F o g).tm], l1) := by
 obtain ⟨m, l1, h⟩ := A55 e [f.tm, g.tm] A B [C.ty, E.ty] [D.ty, F.ty] l
 obtain ⟨n, o, l2, h2⟩ := A3I f g C D E F l1
 rw [h2] at h
 exact ⟨m, n, o, l2, h⟩
inductive GPL (Γ : GC) : List GE → List GE → List GT → List GT → Prop
 | nil : GPL Γ [] [] [] []
 | cons {e e' A A' es es' As As'} : GP Γ e e' A A' → GPL Γ es es' As As' → GPL Γ (e :: es) (e' :: es') (A :: As) (A' :: As')
theorem GPL.one {Γ : GC} {es es' : List GE} {As As' : List GT} (h : GPL Γ es es' As As') (hl : es.length = 1) : ∃ e e' A A', es = [e] ∧ es' = [e'] ∧ As = [A] ∧ As' = [A'] ∧ GP Γ e e' A A' := by
 cases h with
 | nil => simp at hl
 | cons h h2 => cases h2 with
  | nil => exact ⟨_, _, _, _, rfl, rfl, rfl, rfl, h⟩
  | cons _ _ => simp at hl
theorem GPL.two {Γ : GC} {es es' : List GE} {As As' : List GT} (h : GPL Γ es es' As As') (hl : es.length = 2) : ∃ e e' A A' f f' B B', es = [e, f] ∧ es' = [e', f'] ∧ As = [A, B] ∧ As' = [A', B'] ∧ GP Γ e e' A A' ∧ GP Γ f f' B B' := by
 cases h with
 | nil => simp at hl
 | cons h h2 =>
  obtain ⟨f, f', B, B', rfl, rfl, rfl, rfl, h3⟩ := h2.one (by simpa using hl)
  exact ⟨_, _, _, _, f, f', B, B', rfl, rfl, rfl, rfl, h, h3⟩
theorem GPL.three {Γ : GC} {es es' : List GE} {As As' : List GT} (h : GPL Γ es es' As As') (hl : es.length = 3) : ∃ e e' A A' f f' B B' g g' C C', es = [e, f, g] ∧ es' = [e', f', g'] ∧ As = [A, B, C] ∧ As' = [A', B', C'] ∧ GP Γ e e' A A' ∧ GP Γ f f' B B' ∧ GP Γ g g' C C' := by
 cases h with
 | nil => simp at hl
 | cons h h2 =>
  obtain ⟨f, f', B, B', g, g', C, C', rfl, rfl, rfl, rfl, h3, h4⟩ := h2.two (by simpa using hl)
  exact ⟨_, _, _, _, f, f', B, B', g, g', C, C', rfl, rfl, rfl, rfl, h, h3, h4⟩
theorem GPL.zero {Γ : GC} {es es' : List GE} {As As' : List GT} (h : GPL Γ es es' As As') (hl : es.length = 0) : es = [] ∧ es' = [] ∧ As = [] ∧ As' = [] := by
 cases h with
 | nil => exact ⟨rfl, rfl, rfl, rfl⟩
 | cons _ _ => simp at hl
theorem A1l {cx : Cx} {k : Int} {nm : ByteArray} {num : Int} {ty fr : Ty} {lb : Int} {us : List Tm} {h : List Ty} {l : Int} {u : Tm} {a : Ty} {l2 : Int} (he : Q7 cx k nm num ty fr lb us h l = some (u, a, l2)) :
  ∃ w, N5 cx k nm ty h = some (w, a) ∧ E8 a = true ∧ u = if k = 13 then (F0 us h w l).1.getD 0 D7 else .mk k nm num ty fr lb (F0 us h w l).1 := by
 unfold Q7 at he
 split at he
 ·cases he
 ·rename_i w t hn
  simp only [Option.some.injEq, Prod.mk.injEq] at he
  obtain ⟨rfl, rfl, rfl⟩ := he
  obtain ⟨h1, h2⟩ := A8t hn
  exact ⟨w, h2, h1, rfl⟩
theorem A1m {cx : Cx} {k : Int} {nm : ByteArray} {num : Int} {ty fr : Ty} {lb : Int} {us : List Tm} {h : List Ty} {l : Int} {w : List Ty} {a : Ty} (hw : N5 cx k nm ty h = some (w, a)) (hv : E8 a = true) :
  Q7 cx k nm num ty fr lb us h l = some (if k = 13 then (F0 us h w l).1.getD 0 D7 else .mk k nm num ty fr lb (F0 us h w l).1, a, (F0 us h w l).2) := by
 unfold Q7 Y9
 rw [hw]
 simp only [hv, if_true]
theorem A56 {k : Int} {nm : ByteArray} {num : Int} {ty fr : Ty} {lb : Int} {ks : List Tm} {d : Int} (h : M3 12 14 (.mk k nm num ty fr lb ks) d = true) :
  C5 k = ks.length ∧ k ≠ 14 ∧ (¬(k = 1 ∨ k = 5) → nm = ⟨#[]⟩) ∧ (k ≠ 2 → num = 0) ∧ (k = 5 ∨ k = 13 → E8 ty = true) ∧ (¬(k = 5 ∨ k = 13) → ty = A8) ∧ fr = A8 ∧ lb = 0 ∧ M4 12 14 ks (d + 1) = true := by
 obtain ⟨_, h2, h3, h4⟩ := A0r h
 obtain ⟨n1, n2, n3, n4, n5, n6, n7, n8, n9⟩ := V3.1 h3
 exact ⟨n1, h2, n3, fun hk => by have := A3C.1 (n5 hk); omega, fun hk => n6 (by omega), fun hk => A1f (n7 (by omega)), A1f (n9 h2).1, (n9 h2).2, h4⟩
abbrev ElR (Γ : GC) (u : Tm) (a : Ty) (r : Option (Tm × Ty × Int)) : Prop := ∃ e A e' A' l2, u = e.tm ∧ a = A.ty ∧ r = some (e'.tm, A'.ty, l2) ∧ GP Γ e e' A A'
section
variable {cx cx' : Cx} {Γ : GC} {es es' : List GE} {As As' : List GT} {l l' : Int} {u : Tm} {a : Ty} {l2 : Int} {nm : ByteArray} {num : Int}
theorem B2T (hc : CxR cx cx' Γ) (he : Q7 cx 1 nm 0 A8 A8 0 [] [] l = some (u, a, l2)) : ElR Γ u a (Q7 cx' 1 nm 0 A8 A8 0 [] [] l') := by
 obtain ⟨w, hw, hv, rfl⟩ := A1l he
 unfold N5 at hw
 rw [if_pos rfl] at hw
 split at hw
 ·rename_i t ht
  cases hw
  obtain ⟨A, A', rfl, h2, h3, h4⟩ := hc _ _ ht
  refine ⟨.var nm, A, .var nm, A', l', ?_, rfl, ?_, .var h3 h4⟩
  ·rw [X3, if_neg (by decide)]; rfl
  ·rw [A1m (w := []) (a := A'.ty) (by unfold N5; rw [if_pos rfl, h2]) (A2r h4 hv), X3, if_neg (by decide)]; rfl
 ·cases hw
theorem B2U (he : Q7 cx 2 ⟨#[]⟩ num A8 A8 0 [] [] l = some (u, a, l2)) : ElR Γ u a (Q7 cx' 2 ⟨#[]⟩ num A8 A8 0 [] [] l') := by
 obtain ⟨w, hw, hv, rfl⟩ := A1l he
 cases hw
 exact ⟨.num num, .int, .num num, .int, l', by rw [X3, if_neg (by decide)]; rfl, rfl, by rw [A1m (w := []) (a := S3) rfl hv, X3, if_neg (by decide)]; rfl, .num⟩
theorem B2V (b : Bool) (he : Q7 cx (if b = true then 3 else 4) ⟨#[]⟩ 0 A8 A8 0 [] [] l = some (u, a, l2)) : ElR Γ u a (Q7 cx' (if b = true then 3 else 4) ⟨#[]⟩ 0 A8 A8 0 [] [] l') := by
 obtain ⟨w, hw, hv, rfl⟩ := A1l he
 cases b <;> (cases hw; exact ⟨.tru _, .bool, .tru _, .bool, l', by rw [X3, if_neg (by decide)]; rfl, rfl, by rw [A1m (w := []) (a := X1) rfl hv, X3, if_neg (by decide)]; rfl, .tru⟩)
theorem B2W {A A' B B' : GT} {e e' : GE} (hA : Le A A') (hp : GP (gup Γ nm A A') e e' B B') (he : Q7 cx 5 nm 0 A.ty A8 0 [e.tm] [B.ty] l = some (u, a, l2)) : ElR Γ u a (Q7 cx' 5 nm 0 A'.ty A8 0 [e'.tm] [B'.ty] l') := by
 obtain ⟨w, hw, hv, rfl⟩ := A1l he
 cases hw
 exact ⟨.lam nm A e, .fn A B, .lam nm A' e', .fn A' B', l', by rw [X3, if_neg (by decide)]; rfl, rfl, by rw [A1m (w := []) (a := .mk 4 [A'.ty, B'.ty]) rfl (A2r (.fn hA hp.le) hv), X3, if_neg (by decide)]; rfl, .lam hA hp⟩
theorem B2X {A A' B B' : GT} {e e' f f' : GE} (hp : GP Γ e e' A A') (hq : GP Γ f f' B B') (he : Q7 cx 6 ⟨#[]⟩ 0 A8 A8 0 [e.tm, f.tm] [A.ty, B.ty] l = some (u, a, l2)) : ElR Γ u a (Q7 cx' 6 ⟨#[]⟩ 0 A8 A8 0 [e'.tm, f'.tm] [A'.ty, B'.ty] l') := by
 obtain ⟨w, hw, hv, rfl⟩ := A1l he
 unfold N5 at hw
 rw [if_neg (by decide), if_neg (by decide), if_neg (by decide), if_neg (by decide), if_pos rfl] at hw
 simp only [List.getD_cons_zero, List.getD_cons_succ, A8F] at hw
 cases hm : gmF A with
 | none => rw [hm] at hw; cases hw
 | some pq =>
  obtain ⟨p, q⟩ := pq
  rw [hm] at hw
  simp only [Option.map_some] at hw
  split at hw
  ·rename_i hc
   cases hw
   obtain ⟨c1, p', q', hm', h1, h2, c2⟩ := B2P hp.le hm
   have hco := (A0K _ _).1 hc
   have hco' := hco.up hq.le h1
   obtain ⟨m, n, l1, h3⟩ := A3I e f A (.fn p q) B p l
   obtain ⟨m', n', l1', h3'⟩ := A3I e' f' A' (.fn p' q') B' p' l'
   refine ⟨.app (R8 A (.fn p q) m e) (R8 B p n f), q, .app (R8 A' (.fn p' q') m' e') (R8 B' p' n' f'), q', l1', ?_, rfl, ?_, .app (A1L hp c1 c2 (.fn h1 h2)) (A1L hq hco hco' h1)⟩
   ·rw [if_neg (by decide)]
    show Tm.mk _ _ _ _ _ _ (F0 [e.tm, f.tm] [A.ty, B.ty] [(GT.fn p q).ty, p.ty] l).1 = _
    rw [h3]; rfl
   ·rw [A1m (w := [(GT.fn p' q').ty, p'.ty]) (a := q'.ty) ?_ (A2r h2 hv), if_neg (by decide), h3']
    ·rfl
    ·unfold N5
     rw [if_neg (by decide), if_neg (by decide), if_neg (by decide), if_neg (by decide), if_pos rfl]
     simp only [List.getD_cons_zero, List.getD_cons_succ, A8F, hm', Option.map_some]
     rw [if_pos ((A0K _ _).2 hco')]; rfl
  ·cases hw
theorem B2Y (s : Bool) {A A' B B' : GT} {e e' f f' : GE} (hp : GP Γ e e' A A') (hq : GP Γ f f' B B') (he : Q7 cx (if s = true then 8 else 7) ⟨#[]⟩ 0 A8 A8 0 [e.tm, f.tm] [A.ty, B.ty] l = some (u, a, l2)) : ElR Γ u a (Q7 cx' (if s = true then 8 else 7) ⟨#[]⟩ 0 A8 A8 0 [e'.tm, f'.tm] [A'.ty, B'.ty] l') := by
 have hk : (if s = true then (8 : Int) else 7) = 7 ∨ (if s = true then (8 : Int) else 7) = 8 := by cases s <;> simp
 have hT : (if (if s = true then (8 : Int) else 7) = 8 then X1 else S3) = GT.ty (if s = true then .bool else .int) := by cases s <;> rfl
 obtain ⟨w, hw, hv, rfl⟩ := A1l he
 unfold N5 at hw
 rw [if_neg (by omega), if_neg (by omega), if_neg (by omega), if_neg (by omega), if_neg (by omega), if_pos hk] at hw
 simp only [List.getD_cons_zero, List.getD_cons_succ] at hw
 split at hw
 ·rename_i hc
  rw [hT] at hw
  cases hw
  have c1 := (A0K A .int).1 hc.1
  have c2 := (A0K B .int).1 hc.2
  have d1 := c1.up hp.le Le.refl
  have d2 := c2.up hq.le Le.refl
  obtain ⟨m, n, l1, h3⟩ := A3I e f A .int B .int l
  obtain ⟨m', n', l1', h3'⟩ := A3I e' f' A' .int B' .int l'
  refine ⟨.ar s (R8 A .int m e) (R8 B .int n f), _, .ar s (R8 A' .int m' e') (R8 B' .int n' f'), _, l1', ?_, rfl, ?_, .ar (A1L hp c1 d1 .int) (A1L hq c2 d2 .int)⟩
  ·rw [if_neg (by omega)]
   show Tm.mk _ _ _ _ _ _ (F0 [e.tm, f.tm] [A.ty, B.ty] [GT.int.ty, GT.int.ty] l).1 = _
   rw [h3]; rfl
  ·rw [A1m (w := [GT.int.ty, GT.int.ty]) (a := GT.ty (if s = true then .bool else .int)) ?_ hv, if_neg (by omega), h3']
   ·rfl
   ·unfold N5
    rw [if_neg (by omega), if_neg (by omega), if_neg (by omega), if_neg (by omega), if_neg (by omega), if_pos hk]
    simp only [List.getD_cons_zero, List.getD_cons_succ]
    rw [if_pos ⟨(A0K A' .int).2 d1, (A0K B' .int).2 d2⟩, hT]; rfl
 ·cases hw
theorem B2Z {A A' B B' C C' : GT} {e e' f f' g g' : GE} (hp : GP Γ e e' A A') (hq : GP Γ f f' B B') (hr : GP Γ g g' C C') (he : Q7 cx 9 ⟨#[]⟩ 0 A8 A8 0 [e.tm, f.tm, g.tm] [A.ty, B.ty, C.ty] l = some (u, a, l2)) :
  ElR Γ u a (Q7 cx' 9 ⟨#[]⟩ 0 A8 A8 0 [e'.tm, f'.tm, g'.tm] [A'.ty, B'.ty, C'.ty] l') := by
 obtain ⟨w, hw, hv, rfl⟩ := A1l he
 unfold N5 at hw
 rw [if_neg (by decide), if_neg (by decide), if_neg (by decide), if_neg (by decide), if_neg (by decide), if_neg (by decide), if_pos rfl] at hw
 simp only [List.getD_cons_zero, List.getD_cons_succ] at hw
 split at hw
 ·rename_i hc
  have c1 := (A0K A .bool).1 hc.1
  have c2 := (A0K B C).1 hc.2
  have d1 := c1.up hp.le Le.refl
  have d2 := c2.up hq.le hr.le
  rw [A8E c2] at hw
  cases hw
  have hM := B2N c2 hq.le hr.le
  obtain ⟨m, n, o, l1, h3⟩ := A8H e f g A .bool B (R2 B C) C (R2 B C) l
  obtain ⟨m', n', o', l1', h3'⟩ := A8H e' f' g' A' .bool B' (R2 B' C') C' (R2 B' C') l'
  refine ⟨.ite (R8 A .bool m e) (R8 B (R2 B C) n f) (R8 C (R2 B C) o g), R2 B C, .ite (R8 A' .bool m' e') (R8 B' (R2 B' C') n' f') (R8 C' (R2 B' C') o' g'), R2 B' C', l1', ?_, rfl, ?_,
   .ite (A1L hp c1 d1 .bool) (A1L hq (A4L c2).co.symm (A4L d2).co.symm hM) (A1L hr (A4M c2).co.symm (A4M d2).co.symm hM)⟩
  ·rw [if_neg (by decide)]
   show Tm.mk _ _ _ _ _ _ (F0 [e.tm, f.tm, g.tm] [A.ty, B.ty, C.ty] [GT.bool.ty, (R2 B C).ty, (R2 B C).ty] l).1 = _
   rw [h3]; rfl
  ·rw [A1m (w := [GT.bool.ty, (R2 B' C').ty, (R2 B' C').ty]) (a := (R2 B' C').ty) ?_ (A2r hM hv), if_neg (by decide), h3']
   ·rfl
   ·unfold N5
    rw [if_neg (by decide), if_neg (by decide), if_neg (by decide), if_neg (by decide), if_neg (by decide), if_neg (by decide), if_pos rfl]
    simp only [List.getD_cons_zero, List.getD_cons_succ]
    rw [if_pos ⟨(A0K A' .bool).2 d1, (A0K B' C').2 d2⟩, A8E d2]; rfl
 ·cases hw
theorem B20 {A A' B B' : GT} {e e' f f' : GE} (hp : GP Γ e e' A A') (hq : GP Γ f f' B B') (he : Q7 cx 10 ⟨#[]⟩ 0 A8 A8 0 [e.tm, f.tm] [A.ty, B.ty] l = some (u, a, l2)) : ElR Γ u a (Q7 cx' 10 ⟨#[]⟩ 0 A8 A8 0 [e'.tm, f'.tm] [A'.ty, B'.ty] l') := by
 obtain ⟨w, hw, hv, rfl⟩ := A1l he
 cases hw
 exact ⟨.pair e f, .pr A B, .pair e' f', .pr A' B', l', by rw [X3, if_neg (by decide)]; rfl, rfl, by rw [A1m (w := []) (a := .mk 5 [A'.ty, B'.ty]) rfl (A2r (.pr hp.le hq.le) hv), X3, if_neg (by decide)]; rfl, .pair hp hq⟩
theorem B21 (s : Bool) {A A' : GT} {e e' : GE} (hp : GP Γ e e' A A') (he : Q7 cx (if s = true then 12 else 11) ⟨#[]⟩ 0 A8 A8 0 [e.tm] [A.ty] l = some (u, a, l2)) : ElR Γ u a (Q7 cx' (if s = true then 12 else 11) ⟨#[]⟩ 0 A8 A8 0 [e'.tm] [A'.ty] l') := by
 have hk : (if s = true then (12 : Int) else 11) = 11 ∨ (if s = true then (12 : Int) else 11) = 12 := by cases s <;> simp
 have hT : ∀ p q : GT, (if (if s = true then (12 : Int) else 11) = 12 then q.ty else p.ty) = GT.ty (if s = true then q else p) := by intro p q; cases s <;> rfl
 obtain ⟨w, hw, hv, rfl⟩ := A1l he
 unfold N5 at hw
 rw [if_neg (by omega), if_neg (by omega), if_neg (by omega), if_neg (by omega), if_neg (by omega), if_neg (by omega), if_neg (by omega), if_neg (by omega), if_neg (by omega)] at hw
 simp only [List.getD_cons_zero, A8G] at hw
 cases hm : gmP A with
 | none => rw [hm] at hw; cases hw
 | some pq =>
  obtain ⟨p, q⟩ := pq
  rw [hm] at hw
  simp only [Option.map_some, hT] at hw
  cases hw
  obtain ⟨c1, p', q', hm', h1, h2, c2⟩ := B2Q hp.le hm
  obtain ⟨m, l1, h3⟩ := A3H e A (.pr p q) l
  obtain ⟨m', l1', h3'⟩ := A3H e' A' (.pr p' q') l'
  refine ⟨.part s (R8 A (.pr p q) m e), _, .part s (R8 A' (.pr p' q') m' e'), _, l1', ?_, rfl, ?_, .part (A1L hp c1 c2 (.pr h1 h2))⟩
  ·rw [if_neg (by omega)]
   show Tm.mk _ _ _ _ _ _ (F0 [e.tm] [A.ty] [(GT.pr p q).ty] l).1 = _
   rw [h3]; rfl
  ·rw [A1m (w := [(GT.pr p' q').ty]) (a := GT.ty (if s = true then q' else p')) ?_ (A2r (by cases s; exact h1; exact h2) hv), if_neg (by omega), h3']
   ·rfl
   ·unfold N5
    rw [if_neg (by omega), if_neg (by omega), if_neg (by omega), if_neg (by omega), if_neg (by omega), if_neg (by omega), if_neg (by omega), if_neg (by omega), if_neg (by omega)]
    simp only [List.getD_cons_zero, A8G, hm', Option.map_some, hT]; rfl
theorem B22 {A A' B B' : GT} {e e' : GE} (hB : Le B B') (hp : GP Γ e e' A A') (he : Q7 cx 13 ⟨#[]⟩ 0 B.ty A8 0 [e.tm] [A.ty] l = some (u, a, l2)) : ElR Γ u a (Q7 cx' 13 ⟨#[]⟩ 0 B'.ty A8 0 [e'.tm] [A'.ty] l') := by
 obtain ⟨w, hw, hv, rfl⟩ := A1l he
 unfold N5 at hw
 rw [if_neg (by decide), if_neg (by decide), if_neg (by decide), if_neg (by decide), if_neg (by decide), if_neg (by decide), if_neg (by decide), if_neg (by decide), if_pos rfl] at hw
 simp only [List.getD_cons_zero] at hw
 split at hw
 ·rename_i hc
  cases hw
  have c1 := (A0K A B).1 hc
  have d1 := c1.up hp.le hB
  obtain ⟨m, l1, h3⟩ := A3H e A B l
  obtain ⟨m', l1', h3'⟩ := A3H e' A' B' l'
  refine ⟨R8 A B m e, B, R8 A' B' m' e', B', l1', ?_, rfl, ?_, A1L hp c1 d1 hB⟩
  ·rw [if_pos rfl, h3]; rfl
  ·rw [A1m (w := [B'.ty]) (a := B'.ty) ?_ (A2r hB hv), if_pos rfl, h3']
   ·rfl
   ·unfold N5
    rw [if_neg (by decide), if_neg (by decide), if_neg (by decide), if_neg (by decide), if_neg (by decide), if_neg (by decide), if_neg (by decide), if_neg (by decide), if_pos rfl]
    simp only [List.getD_cons_zero]
    rw [if_pos ((A0K A' B').2 d1)]
 ·cases hw
end
theorem B23 (ks : List Tm) (ih : ∀ t ∈ ks, ∀ (t' : Tm) (d : Int) (cx cx' : Cx) (Γ : GC) (l l' : Int) (u : Tm) (a : Ty) (l2 : Int), M3 12 14 t d = true → M3 12 14 t' d = true → A2q t t' = true → CxR cx cx' Γ → M7 cx t l = some (u, a, l2) → ElR Γ u a (M7 cx' t' l')) :
  ∀ (ks' : List Tm) (d : Int) (cx cx' : Cx) (Γ : GC) (l l' : Int) (us : List Tm) (h : List Ty) (l2 : Int), M4 12 14 ks d = true → M4 12 14 ks' d = true → A13 ks ks' = true → CxR cx cx' Γ → M1 cx ks l = some (us, h, l2) →
   ∃ es As es' As' l2', us = es.map GE.tm ∧ h = As.map GT.ty ∧ M1 cx' ks' l' = some (es'.map GE.tm, As'.map GT.ty, l2') ∧ GPL Γ es es' As As' := by
 induction ks with
 | nil =>
  intro ks' d cx cx' Γ l l' us h l2 _ _ hp _ he
  cases ks' with
  | cons _ _ => cases hp
  | nil =>
   rw [M1] at he
   cases he
   exact ⟨[], [], [], [], l', rfl, rfl, by rw [M1]; rfl, .nil⟩
 | cons t ts ihl =>
  intro ks' d cx cx' Γ l l' us h l2 hs hs' hp hc he
  cases ks' with
  | nil => cases hp
  | cons t' ts' =>
   rw [M4, Bool.and_eq_true] at hs hs'
   rw [A13, Bool.and_eq_true] at hp
   rw [M1] at he ⊢
   split at he
   ·cases he
   ·rename_i u a l1 h1
    split at he
    ·cases he
    ·rename_i us' h' l3 h2
     cases he
     obtain ⟨e, A, e', A', m, rfl, rfl, h3, h4⟩ := ih t List.mem_cons_self t' d cx cx' Γ l l' u a l1 hs.1 hs'.1 hp.1 hc h1
     obtain ⟨es, As, es', As', m2, rfl, rfl, h5, h6⟩ := ihl (fun x hx => ih x (List.mem_cons_of_mem _ hx)) ts' d cx cx' Γ l1 m us' h' l2 hs.2 hs'.2 hp.2 hc h2
     rw [h3]
     simp only [h5]
     exact ⟨e :: es, A :: As, e' :: es', A' :: As', m2, rfl, rfl, rfl, .cons h4 h6⟩
theorem A57 {cx : Cx} : ∀ {ks : List Tm} {l : Int} {us : List Tm} {h : List Ty} {l2 : Int}, M1 cx ks l = some (us, h, l2) → us.length = ks.length
 | [], _, _, _, _, h => by rw [M1] at h; cases h; rfl
 | t :: ts, _, _, _, _, h => by
  rw [M1] at h
  split at h
  ·cases h
  ·split at h
   ·cases h
   ·rename_i h2; cases h; simp [A57 h2]
theorem B24 : ∀ (t t' : Tm) (d : Int) (cx cx' : Cx) (Γ : GC) (l l' : Int) (u : Tm) (a : Ty) (l2 : Int), M3 12 14 t d = true → M3 12 14 t' d = true → A2q t t' = true → CxR cx cx' Γ → M7 cx t l = some (u, a, l2) → ElR Γ u a (M7 cx' t' l') := by
 refine Tm.ind fun k nm num ty fr lb ks ih t' d cx cx' Γ l l' u a l2 hs hs' hp hc he => ?_
 obtain ⟨k', nm', num', ty', fr', lb', ks'⟩ := t'
 obtain ⟨rfl, rfl, rfl, hty, hpk⟩ := A8C.1 hp
 obtain ⟨n1, n2, n3, n4, n5, n6, n7, n8, n9⟩ := A56 hs
 obtain ⟨m1, m2, m3, m4, m5, m6, m7, m8, m9⟩ := A56 hs'
 subst n7 n8 m7 m8
 rw [M7] at he ⊢
 split at he
 ·cases he
 ·rename_i us h l1 hL
  
  have key : ∀ Δ, CxR (P7 cx k nm ty) (P7 cx' k nm ty') Δ → ∃ es As es' As' l2', us = es.map GE.tm ∧ h = As.map GT.ty ∧ M1 (P7 cx' k nm ty') ks' l' = some (es'.map GE.tm, As'.map GT.ty, l2') ∧ GPL Δ es es' As As' :=
   fun Δ hD => B23 ks ih ks' (d + 1) _ _ Δ l l' us h l1 n9 m9 hpk hD hL
  by_cases h5 : k = 5
  ·subst h5
   obtain ⟨A, rfl⟩ := A1K ty (n5 (.inl rfl))
   obtain ⟨A', rfl⟩ := A1K ty' (m5 (.inl rfl))
   have hA := (A8D A A').1 (hty (.inl rfl))
   obtain rfl := n4 (by decide)
   obtain ⟨es, As, es', As', l3, rfl, rfl, e1, e2⟩ := key (gup Γ nm A A') (by rw [P7, P7, if_pos rfl, if_pos rfl]; exact B2S hc hA nm)
   have hlen : es.length = 1 := by
    have h1 := A57 hL
    rw [List.length_map] at h1
    have : C5 5 = 1 := rfl
    omega
   obtain ⟨e, e', B, B', rfl, rfl, rfl, rfl, hq⟩ := e2.one hlen
   rw [e1]
   exact B2W hA hq he
  ·obtain ⟨es, As, es', As', l3, rfl, rfl, e1, e2⟩ := key Γ (by rw [P7, P7, if_neg h5, if_neg h5]; exact hc)
   have hlen : (es.length : Int) = C5 k := by
    have h1 := A57 hL
    rw [List.length_map] at h1
    omega
   rw [e1]
   have hk : 1 ≤ k ∧ k ≤ 14 := by
    apply Classical.byContradiction
    intro hk
    rw [A4b hk] at n1; omega
   by_cases h1 : k = 1
   ·subst h1
    obtain rfl := n4 (by decide)
    obtain rfl := n6 (by decide)
    obtain rfl := m6 (by decide)
    obtain ⟨rfl, rfl, rfl, rfl⟩ := e2.zero (by have : C5 1 = 0 := rfl; omega)
    exact B2T hc he
   obtain rfl := n3 (by omega)
   by_cases h2 : k = 2
   ·subst h2
    obtain rfl := n6 (by decide)
    obtain rfl := m6 (by decide)
    obtain ⟨rfl, rfl, rfl, rfl⟩ := e2.zero (by have : C5 2 = 0 := rfl; omega)
    exact B2U he
   obtain rfl := n4 h2
   by_cases h13 : k = 13
   ·subst h13
    obtain ⟨B, rfl⟩ := A1K ty (n5 (.inr rfl))
    obtain ⟨B', rfl⟩ := A1K ty' (m5 (.inr rfl))
    obtain ⟨e, e', A, A', rfl, rfl, rfl, rfl, hq⟩ := e2.one (by have : C5 13 = 1 := rfl; omega)
    exact B22 ((A8D B B').1 (hty (.inr rfl))) hq he
   obtain rfl := n6 (by omega)
   obtain rfl := m6 (by omega)
   by_cases h34 : k = 3 ∨ k = 4
   ·obtain ⟨b, rfl⟩ : ∃ b : Bool, k = if b = true then 3 else 4 := by rcases h34 with h | h; exact ⟨true, h⟩; exact ⟨false, h⟩
    obtain ⟨rfl, rfl, rfl, rfl⟩ := e2.zero (by have : C5 (if b = true then 3 else 4) = 0 := (by cases b <;> rfl); omega)
    exact B2V b he
   by_cases h6 : k = 6
   ·subst h6
    obtain ⟨e, e', A, A', f, f', B, B', rfl, rfl, rfl, rfl, hp1, hp2⟩ := e2.two (by have : C5 6 = 2 := rfl; omega)
    exact B2X hp1 hp2 he
   by_cases h78 : k = 7 ∨ k = 8
   ·obtain ⟨b, rfl⟩ : ∃ b : Bool, k = if b = true then 8 else 7 := by rcases h78 with h | h; exact ⟨false, h⟩; exact ⟨true, h⟩
    obtain ⟨e, e', A, A', f, f', B, B', rfl, rfl, rfl, rfl, hp1, hp2⟩ := e2.two (by have : C5 (if b = true then 8 else 7) = 2 := (by cases b <;> rfl); omega)
    exact B2Y b hp1 hp2 he
   by_cases h9 : k = 9
   ·subst h9
    obtain ⟨e, e', A, A', f, f', B, B', g, g', C, C', rfl, rfl, rfl, rfl, hp1, hp2, hp3⟩ := e2.three (by have : C5 9 = 3 := rfl; omega)
    exact B2Z hp1 hp2 hp3 he
   by_cases h10 : k = 10
   ·subst h10
    obtain ⟨e, e', A, A', f, f', B, B', rfl, rfl, rfl, rfl, hp1, hp2⟩ := e2.two (by have : C5 10 = 2 := rfl; omega)
    exact B20 hp1 hp2 he
   have h11 : k = 11 ∨ k = 12 := by omega
   obtain ⟨b, rfl⟩ : ∃ b : Bool, k = if b = true then 12 else 11 := by rcases h11 with h | h; exact ⟨false, h⟩; exact ⟨true, h⟩
   obtain ⟨e, e', A, A', rfl, rfl, rfl, rfl, hp1⟩ := e2.one (by have : C5 (if b = true then 12 else 11) = 1 := (by cases b <;> rfl); omega)
   exact B21 b hp1 he
theorem B25 {a b u : Tm} {t : Ty} (ha : U9 a = some (u, t)) (hp : A4K a b = true) : ∃ e e' A A', u = e.tm ∧ t = A.ty ∧ U9 b = some (e'.tm, A'.ty) ∧ GP N0 e e' A A' := by
 unfold A4K at hp
 rw [Bool.and_eq_true, Bool.and_eq_true] at hp
 unfold U9 at ha ⊢
 rw [if_pos hp.1] at ha
 rw [if_pos hp.2.1]
 split at ha
 ·rename_i u' t' l' he
  cases ha
  obtain ⟨e, A, e', A', l2, rfl, rfl, h1, h2⟩ := B24 a b 1 [] [] N0 0 0 u t l' ((A0b a).1 hp.1).1 ((A0b b).1 hp.2.1).1 hp.2.2 B2R he
  rw [h1]
  exact ⟨e, e', A, A', rfl, rfl, rfl, h2⟩
 ·cases ha
variable {P : Program} {G : IM}
theorem Fn.forget {f : FuncId} {args : List Value} {v0 : Value} {post : IM → Value → List A4 → Prop} (h : Fn P f args [] G post) (hv : ∀ G' v outs, post G' v outs → v = v0) : Fn P f args [] G (H6 v0 G) := by
 refine ⟨fun w hw => (h.run w hw).mono ?_⟩
 rintro e w' ⟨u, G', outs, rfl, hres, hp⟩
 refine ⟨u, G, [], rfl, ⟨⟨fun b l hb => hres.own.inn b l (hres.le b l hb), by simp, by simp [Fp], by simp [Fp]⟩, hres.ext, B6.refl _, fun _ _ h => .inl h, by simp [Fp], fun b l h h0 => absurd h (by rw [h0]; simp)⟩, rfl, hv _ _ _ hp, rfl⟩
def O7 (t : Tm) : IM → Value → List A4 → Prop := K5 fun G' v => ∃ cells, v = .agg ⟨cells⟩ ∧ A6 G' t cells
theorem O7.mk {G : IM} {t : Tm} {cells : List Value} (h : A6 G t cells) : O7 t G (.agg ⟨cells⟩) [] := ⟨rfl, cells, rfl, h⟩
def mGk (k : Int) : Ty := if k = 4 ∨ k = 5 then .mk k [N4, N4] else .mk k []
theorem A3J {G : IM} {k : Int} {ks : List Tm} {p : Option Addr} {n c : Nat} {es : List (List Value)} (hk : E3 k) (hn : n = ks.length) (hs : C9 G p n c 9 es) (hr : D2 G ks es) : A6 G (A0k k ks) [.int .i64 k, .string ⟨⟨[]⟩⟩, .int .i64 0, .int .i64 0, .slice none 0 0, .int .i64 0, .slice none 0 0, .int .i64 0, .slice p n c] := by
 subst hn
 simp only [A0k, A6]
 exact ⟨[.int .i64 0, .slice none 0 0], [.int .i64 0, .slice none 0 0], p, c, es, rfl, hk, ⟨by decide, by decide⟩, ⟨by decide, by decide⟩, A0J G, A0J G, hs, hr⟩
theorem A58 (k : Int) (G : IM) (hk : E3 k) : Fn Tryz.prog 232 [.int .i64 k] [] G (K5 fun G' v => ∃ cells, v = .agg ⟨cells⟩ ∧ B5 G' (mGk k) cells) := by
 have hB := A10 k N4 N4 G _ _ hk (A0A G) (A0A G)
 refine B3 Tryz.func232 rfl Tryz.ntmps232 Tryz.results232 rfl ?_
 intro w0
 refine tS (tR ?_)
 refine sE (A7 rfl) rfl (fun b3 => ?_)
 refine sD (nS (tS (tS (tR (sQ (qM rfl) rfl ?_)))))
 refine sB (qE rfl rfl) rfl rfl (fun h10 => ?_) (fun h10 => ?_)
 refine I7 ?_
 refine I5 rfl ((A0E _ _)) rfl rfl ?_
 refine I5 rfl ((A0E _ _)) rfl rfl ?_
 (refine E5 rfl hB rfl rfl (fun v G1 hle1 hh => ?_); obtain ⟨cb, rfl, hrb⟩ := hh; obtain ⟨p1, c1, e1, rfl, _⟩ := hrb.open)
 refine F4 ?_
 refine sD (nS (tT (rS ?_)))
 refine E0 (rC rfl (A1 rfl rfl)) ?_
 (exact ⟨rfl, _, rfl, by unfold mGk; rw [if_pos (by omega)]; exact hrb⟩)
 refine sQ (qM rfl) rfl (sQ (qM rfl) rfl ?_)
 refine sB (qE rfl rfl) rfl rfl (fun h33 => ?_) (fun h33 => ?_)
 refine C4 ?_
 refine I5 rfl ((A0E _ _)) rfl rfl ?_
 refine I5 rfl ((A0E _ _)) rfl rfl ?_
 (refine E5 rfl hB rfl rfl (fun v G1 hle1 hh => ?_); obtain ⟨cb, rfl, hrb⟩ := hh; obtain ⟨p1, c1, e1, rfl, _⟩ := hrb.open)
 refine F4 ?_
 refine sD (nS (tT (rS ?_)))
 refine E0 (rC rfl (A1 rfl rfl)) ?_
 (exact ⟨rfl, _, rfl, by unfold mGk; rw [if_pos (by omega)]; exact hrb⟩)
 refine D9 ?_
 refine I5 rfl ((A0E _ _)) rfl rfl ?_
 refine F4 ?_
 refine sD (nS (tT ?_))
 refine E0 (rC rfl (A1 rfl rfl)) ?_
 (exact ⟨rfl, _, rfl, by unfold mGk; rw [if_neg (by omega)]; exact N6 _ hk⟩)
theorem A8I (t : Ty) (G : IM) (cells : List Value) (hr : B5 G t cells) : Fn Tryz.prog 221 [.agg ⟨cells⟩] [] G (H6 (.bool (U2 t)) G) := by
 refine Fn.forget (post := K5 fun _ v => v = .bool (U2 t)) ?_ (fun _ _ _ h => h.2)
 have hr0 := hr
 obtain ⟨tk, tks⟩ := t
 obtain ⟨p, c, es, rfl, hk, _⟩ := hr.open
 simp only [Ty.k, Ty.ks] at hk hr0 ⊢
 rw [show U2 (.mk tk tks) = (decide (tk ≠ 1) && M5 (.mk tk tks) (mGk tk)) from rfl]
 refine B3 Tryz.func221 rfl Tryz.ntmps221 Tryz.results221 rfl ?_
 intro w0
 refine tS (tR ?_)
 refine sE (C0 rfl rfl) rfl (fun b3 => ?_)
 refine sQ (qA rfl) rfl (sD (nS (tS ?_)))
 refine D5 D6 rfl ?_
 refine I3 (i := 0) (l' := [tt,ff,ff,ff,ff,ff,ff,ff,ff,ff,ff]) rfl D1 (B0 rfl) rfl (by kernel_rfl) rfl rfl ?_
 refine aL 1 rfl (B9 rfl rfl) rfl ?_
 refine A0C (i := 2) (l' := [tt,tt,tt,ff,ff,ff,ff,ff,ff,ff,ff]) rfl D1 (M8 rfl rfl) rfl (by kernel_rfl) rfl rfl (fun h11 => ?_) (fun h11 => ?_)
 refine aP 3 rfl (qM rfl) rfl ?_
 refine aL 4 rfl (A1 rfl rfl) rfl ?_
 refine aP 5 rfl (B0 rfl) rfl ?_
 refine aL 6 rfl (B9 rfl rfl) rfl ?_
 refine A2 7 ?_
 (refine I9 rfl rfl (A58 tk G hk) rfl rfl rfl (fun v G1 hle1 hh => ?_); obtain ⟨cg, rfl, hrg⟩ := hh; have hT := A5Z (.mk tk tks) (mGk tk) G1 _ _ (hr0.mono hle1) hrg; obtain ⟨pg, cgg, eg, rfl, _⟩ := hrg.open)
 refine A2 8 ?_
 refine O5 rfl rfl (hT) rfl rfl rfl ?_
 refine aP 9 rfl (K8 rfl rfl) rfl ?_
 refine aP 10 rfl (qA rfl) rfl ?_
 refine C2 (nS (tT (E0 (rT rfl) ?_)))
 (exact ⟨rfl, by rw [decide_eq_true (by omega), Bool.true_and]⟩)
 refine aP 3 rfl (qM rfl) rfl ?_
 refine B4 4 rfl rfl rfl ?_
 refine B4 5 rfl rfl rfl ?_
 refine B4 6 rfl rfl rfl ?_
 refine B4 7 rfl rfl rfl ?_
 refine B4 8 rfl rfl rfl ?_
 refine aP 9 rfl (N2 rfl rfl) rfl ?_
 refine aP 10 rfl (qA rfl) rfl ?_
 refine C2 (nS (tT (E0 (rT rfl) ?_)))
 (exact ⟨rfl, by rw [decide_eq_false (by omega), Bool.false_and]⟩)
theorem A2U (t : Tm) (G : IM) (cells : List Value) (hr : A6 G t cells) : Fn Tryz.prog 170 [.agg ⟨cells⟩] [] G (H6 (.bool (W5 t)) G) := by
 obtain ⟨k, nm, num, ⟨tk, tks⟩, ⟨fk, fks⟩, lb, ks⟩ := t
 obtain ⟨pt, ct, pf, cf, p, c, es, rfl, hk, hnum, hlb, hty, hfr, hsl, hkl⟩ := hr.open9
 have hd : W5 (.mk k nm num (.mk tk tks) (.mk fk fks) lb ks) = decide (k = 14 ∧ fk = tk ∧ (tk = 4 ∨ tk = 5)) := rfl
 rw [hd]
 refine B3 Tryz.func170 rfl Tryz.ntmps170 Tryz.results170 rfl ?_
 intro w0
 refine tS (tR ?_)
 refine sE (C0 rfl rfl) rfl (fun b3 => ?_)
 refine C4 ?_
 refine sB (qE rfl rfl) rfl rfl (fun h11 => ?_) (fun h11 => ?_)
 refine C4 ?_
 refine sB (qE rfl rfl) rfl rfl (fun h19 => ?_) (fun h19 => ?_)
 refine Q3 ?_
 refine sB (qE rfl rfl) rfl rfl (fun h25 => ?_) (fun h25 => ?_)
 refine M6 ?_
 (exact ⟨rfl, by rw [decide_eq_true (by omega)], rfl⟩)
 refine H1 ?_
 refine sB (qE rfl rfl) rfl rfl (fun h43 => ?_) (fun h43 => ?_)
 refine C4 ?_
 (exact ⟨rfl, by rw [decide_eq_true (by omega)], rfl⟩)
 refine C4 ?_
 (exact ⟨rfl, by rw [decide_eq_false (by omega)], rfl⟩)
 refine U6 ?_
 (exact ⟨rfl, by rw [decide_eq_false (by omega)], rfl⟩)
 refine A36 ?_
 (exact ⟨rfl, by rw [decide_eq_false (by omega)], rfl⟩)
theorem A3K (t : Tm) (G : IM) (cells : List Value) (hr : A6 G t cells) : Fn Tryz.prog 171 [.agg ⟨cells⟩] [] G (H6 (.bool (inj t)) G) := by
 obtain ⟨k, nm, num, ⟨tk, tks⟩, ⟨fk, fks⟩, lb, ks⟩ := t
 obtain ⟨pt, ct, pf, cf, p, c, es, rfl, hk, hnum, hlb, hty, hfr, hsl, hkl⟩ := hr.open9
 have hd : inj (.mk k nm num (.mk tk tks) (.mk fk fks) lb ks) = (decide (k = 14 ∧ tk = 1) && U2 (.mk fk fks)) := rfl
 rw [hd]
 refine B3 Tryz.func171 rfl Tryz.ntmps171 Tryz.results171 rfl ?_
 intro w0
 refine tS (tR ?_)
 refine sE (C0 rfl rfl) rfl (fun b3 => ?_)
 refine C4 ?_
 refine sB (qE rfl rfl) rfl rfl (fun h11 => ?_) (fun h11 => ?_)
 refine H1 ?_
 refine sB (qE rfl rfl) rfl rfl (fun h16 => ?_) (fun h16 => ?_)
 refine H1 ?_
 refine I5 rfl ((A8I (.mk fk fks) G _ hfr)) rfl rfl ?_
 refine J7 ?_
 (exact ⟨rfl, by rw [decide_eq_true (by omega), Bool.true_and], rfl⟩)
 refine J2 ?_
 (exact ⟨rfl, by rw [decide_eq_false (by omega), Bool.false_and], rfl⟩)
 refine I8 ?_
 (exact ⟨rfl, by rw [decide_eq_false (by omega), Bool.false_and], rfl⟩)
theorem B26 (t : Tm) (G : IM) (cells : List Value) (hr : A6 G t cells) : Fn Tryz.prog 174 [.agg ⟨cells⟩] [] G (H6 (.bool (decide (t.k = 2 ∨ t.k = 3 ∨ t.k = 4 ∨ t.k = 5))) G) := by
 obtain ⟨k, nm, num, ⟨tk, tks⟩, ⟨fk, fks⟩, lb, ks⟩ := t
 obtain ⟨pt, ct, pf, cf, p, c, es, rfl, hk, hnum, hlb, hty, hfr, hsl, hkl⟩ := hr.open9
 rw [show (Tm.mk k nm num (.mk tk tks) (.mk fk fks) lb ks).k = k from rfl]
 refine B3 Tryz.func174 rfl Tryz.ntmps174 Tryz.results174 rfl ?_
 intro w0
 refine tS (tR ?_)
 refine sE (C0 rfl rfl) rfl (fun b3 => ?_)
 refine C4 ?_
 refine sB (qE rfl rfl) rfl rfl (fun h11 => ?_) (fun h11 => ?_)
 refine A0D ?_
 (exact ⟨rfl, by rw [decide_eq_true (by omega)], rfl⟩)
 refine L9 ?_
 refine sB (qE rfl rfl) rfl rfl (fun h36 => ?_) (fun h36 => ?_)
 refine I8 ?_
 (exact ⟨rfl, by rw [decide_eq_true (by omega)], rfl⟩)
 refine H1 ?_
 refine sB (qE rfl rfl) rfl rfl (fun h58 => ?_) (fun h58 => ?_)
 refine J2 ?_
 (exact ⟨rfl, by rw [decide_eq_true (by omega)], rfl⟩)
 refine H1 ?_
 refine sB (qE rfl rfl) rfl rfl (fun h75 => ?_) (fun h75 => ?_)
 refine J7 ?_
 (exact ⟨rfl, by rw [decide_eq_true (by omega)], rfl⟩)
 refine J7 ?_
 (exact ⟨rfl, by rw [decide_eq_false (by omega)], rfl⟩)
theorem B27 (G : IM) (p : Option Addr) (n c : Nat) (es : List (List Value)) (hsl : C9 G p n c 9 es) (fid : FuncId) [B1 Tryz.prog fid] (us cs : List Value) (ins : List A4) (q : Nat → Bool)
  (hq : ∀ i e, es[i]? = some e → Fn Tryz.prog fid (us ++ [.agg ⟨e⟩] ++ cs) ins G (T9 (.bool (q i)) ins G)) :
  Fn Tryz.prog 222 [.slice p n c, .func (.func fid) ⟨us⟩ ⟨cs⟩] ins G (T9 (.int .i64 (A0y q n)) ins G) := by
 have hn := hsl.le
 refine B3 Tryz.func222 rfl Tryz.ntmps222 Tryz.results222 rfl ?_
 intro w0
 refine J3 ?_
 refine B7 ?_
 refine L3 (fun i : Nat => ⟨[(8, .int .i64 i), (7, .int .i64 n), (1, .func (.func fid) ⟨us⟩ ⟨cs⟩), (0, .slice p n c)], ins, G⟩) (fun i => i ≤ n ∧ ∀ j, j < i → q j = false) (fun i => n - i) 0 ?_ ?_ ?_
 exact D3
 exact ⟨by omega, by omega⟩
 rintro i ⟨hi, hf⟩
 refine tS (tR ?_)
 refine sB (J9 rfl rfl) rfl rfl (fun h21 => ?_) (fun h21 => ?_)
 refine sD (nS (tS (qT rfl (tK (nS (tS ?_))))))
 refine B7 ?_
 refine J2 ?_
 (obtain ⟨e, b, o, he, rfl, hl, _, hat, _⟩ := hsl.get (i := i) (by omega); refine sP (B2 rfl rfl rfl (by omega)) rfl rfl ?_)
 refine sL (A3 rfl rfl (hat _) hl) rfl rfl ?_
 refine A5m rfl rfl (hq i e he) Z4 rfl rfl (fun h43 => ?_) (fun h43 => ?_)
 refine I0 ?_
 refine F8 (rT rfl) A0.refl ?_
 exact ⟨rfl, by rw [A6X (by omega) hf (by assumption)], rfl⟩
 refine sD (nS (cF rfl (tK (N3 (nS (tR ?_))))))
 refine sP (K4 rfl rfl (by omega) (by omega)) rfl rfl ?_
 refine sQ (qM rfl) rfl (sD ?_)
 refine K7 (i + 1) ?_ ?_ ?_
 exact D3
 exact ⟨by omega, fun j hj => by by_cases hji : j = i; (subst hji; assumption); exact hf j (by omega)⟩
 omega
 refine I0 ?_
 refine F8 (rT rfl) A0.refl ?_
 exact ⟨rfl, by rw [A5q (fun j hj => hf j (by omega))], rfl⟩
theorem B28 (G : IM) (p : Option Addr) (n c : Nat) (es : List (List Value)) (hsl : C9 G p n c 9 es) (fid : FuncId) [B1 Tryz.prog fid] (us cs : List Value) (ins : List A4) (q : Nat → Bool)
  (hq : ∀ i e, es[i]? = some e → Fn Tryz.prog fid (us ++ [.agg ⟨e⟩] ++ cs) ins G (T9 (.bool (q i)) ins G)) :
  Fn Tryz.prog 172 [.slice p n c, .func (.func fid) ⟨us⟩ ⟨cs⟩] ins G (T9 (.bool (decide (0 ≤ A0y q n))) ins G) := by
 refine B3 Tryz.func172 rfl Tryz.ntmps172 Tryz.results172 rfl ?_
 intro w0
 refine D9 ?_
 refine A1z rfl (B27 G p n c es hsl fid us cs ins q hq) Z4 rfl rfl ?_
 refine sQ (A0R rfl rfl) rfl ?_
 refine sQ (qA rfl) rfl (sD (nS (tT ?_)))
 refine F8 (rT rfl) A0.refl ?_
 exact ⟨rfl, rfl, rfl⟩
theorem A8J (G : IM) (p : Option Addr) (n c : Nat) (es : List (List Value)) (hsl : C9 G p n c 9 es) (fid : FuncId) [B1 Tryz.prog fid] (us cs : List Value) (ins : List A4) (f : Tm → Bool) (ks : List Tm)
  (hn : ks.length = n) {A : Bool} (hA : ks.all f = A) (hq : ∀ i e, es[i]? = some e → Fn Tryz.prog fid (us ++ [.agg ⟨e⟩] ++ cs) ins G (T9 (.bool (!f (ks.getD i D7))) ins G)) :
  Fn Tryz.prog 172 [.slice p n c, .func (.func fid) ⟨us⟩ ⟨cs⟩] ins G (T9 (.bool (!A)) ins G) := by
 subst hn hA
 rw [← A6Z f ks D7]
 exact B28 G p _ c es hsl fid us cs ins _ hq
theorem A8K : ∀ ks, A01 ks = ks.all D0
 | [] => rfl
 | t :: ts => by rw [A01, A8K ts, List.all_cons]
theorem B29 (t : Tm) (G : IM) (cells : List Value) (hl : cells.length = 9) (ho : cells.all (·.oneCell') = true) (h : Fn Tryz.prog 124 [.agg ⟨cells⟩] [] G (H6 (.bool (D0 t)) G)) :
  Fn Tryz.prog 173 [.agg ⟨cells⟩] [] G (T9 (.bool (!D0 t)) [] G) := by
 refine B3 Tryz.func173 rfl Tryz.ntmps173 Tryz.results173 rfl ?_
 intro w0
 refine tS (tR ?_)
 refine sE (C0 rfl rfl) rfl (fun b3 => ?_)
 refine sQ (qA rfl) rfl (sD (nS (tS (tR ?_))))
 refine sL (A3 rfl rfl (A9 (by repeat first | exact mH | apply mT)) hl) rfl rfl ?_
 refine I5 rfl (h) rfl rfl ?_
 refine sQ (A1u rfl) rfl ?_
 refine sQ (qA rfl) rfl (sD (nS (tT (E0 (rT rfl) ?_))))
 (exact ⟨rfl, rfl, rfl⟩)
theorem A2V (k : Int) (nm : ByteArray) (num : Int) (ty fr : Ty) (lb : Int) (ks : List Tm) : W5 (.mk k nm num ty fr lb ks) = decide (k = 14 ∧ fr.k = ty.k ∧ (ty.k = 4 ∨ ty.k = 5)) := rfl
theorem A8L (k : Int) (nm : ByteArray) (num : Int) (ty fr : Ty) (lb : Int) (ks : List Tm) : inj (.mk k nm num ty fr lb ks) = (decide (k = 14 ∧ ty.k = 1) && U2 fr) := rfl
theorem A4N {k : Int} {nm : ByteArray} {num : Int} {ty fr : Ty} {lb : Int} {ks : List Tm} (h : k = 10 ∨ W5 (.mk k nm num ty fr lb ks) = true ∨ inj (.mk k nm num ty fr lb ks) = true) : D0 (.mk k nm num ty fr lb ks) = ks.all D0 := by
 rw [D0, if_pos, A8K]
 rw [A2V, A8L] at h
 simp only [Bool.and_eq_true, decide_eq_true_eq] at h
 rcases h with h | h | h
 ·exact .inl h
 ·exact .inr (.inl h)
 ·exact .inr (.inr ⟨h.1.1, h.1.2, h.2⟩)
theorem A8M {k : Int} {nm : ByteArray} {num : Int} {ty fr : Ty} {lb : Int} {ks : List Tm} (h : ¬k = 10) (h2 : W5 (.mk k nm num ty fr lb ks) = false) (h3 : inj (.mk k nm num ty fr lb ks) = false) : D0 (.mk k nm num ty fr lb ks) = decide (k = 2 ∨ k = 3 ∨ k = 4 ∨ k = 5) := by
 rw [D0, if_neg]
 rw [A2V] at h2
 rw [A8L] at h3
 simp only [Bool.and_eq_false_iff, decide_eq_false_iff_not] at h2 h3
 rintro (h' | h' | h')
 ·exact h h'
 ·exact h2 h'
 ·rcases h3 with h3 | h3
  ·exact h3 ⟨h'.1, h'.2.1⟩
  ·rw [h3] at h'; cases h'.2.2
theorem A4O : ∀ (t : Tm) (G : IM) (cells : List Value), A6 G t cells → Fn Tryz.prog 124 [.agg ⟨cells⟩] [] G (H6 (.bool (D0 t)) G) := by
 refine Tm.ind fun k nm num ty fr lb ks ih G cells hr => ?_
 have hr0 := hr
 have hP := A2U _ G _ hr
 have hI := A3K _ G _ hr
 have hPl := B26 _ G _ hr
 have hy := @A4N k nm num ty fr lb ks
 have hn := @A8M k nm num ty fr lb ks
 rw [show (Tm.mk k nm num ty fr lb ks).k = k from rfl] at hPl
 obtain ⟨A, hA⟩ : ∃ A, ks.all D0 = A := ⟨_, rfl⟩
 rw [hA] at hy
 generalize hpx : W5 (.mk k nm num ty fr lb ks) = bp at hP hy hn
 generalize hij : inj (.mk k nm num ty fr lb ks) = bi at hI hy hn
 generalize D0 (.mk k nm num ty fr lb ks) = R at hy hn ⊢
 obtain ⟨tk, tks⟩ := ty
 obtain ⟨fk, fks⟩ := fr
 obtain ⟨pt, ct, pf, cf, p, c, es, rfl, hk, hnum, hlb, hty, hfr, hsl, hkl⟩ := hr.open9
 have hC := A8J G p ks.length c es hsl 173 [] [] [] D0 ks rfl hA (fun i e he => by
  have hx := hkl.inv he D7
  exact B29 _ G e hx.2.len hx.2.one (ih _ hx.1 G e hx.2))
 refine B3 Tryz.func124 rfl Tryz.ntmps124 Tryz.results124 rfl ?_
 intro w0
 refine tS (tR ?_)
 refine sE (C0 rfl rfl) rfl (fun b3 => ?_)
 refine D8 ?_
 refine sB (qE rfl rfl) rfl rfl (fun h12 => ?_) (fun h12 => ?_)
 refine I0 ?_
 refine A1z rfl hC Z4 rfl rfl ?_
 refine sQ (A1u rfl) rfl ?_
 refine sQ (qA rfl) rfl (sD (nS (tT (rS (E0 (rT rfl) ?_)))))
 (exact ⟨rfl, by rw [hy (by first | exact .inl (by omega) | exact .inr (.inl (by assumption)) | exact .inr (.inr (by assumption)))]; cases A <;> rfl, rfl⟩)
 refine sQ (qM rfl) rfl (sL (A1 rfl rfl) rfl rfl ?_)
 refine E2 rfl (hP) rfl rfl (fun h39 => ?_) (fun h39 => ?_)
 refine M6 ?_
 refine A1z rfl hC Z4 rfl rfl ?_
 refine sQ (A1u rfl) rfl ?_
 refine sQ (qA rfl) rfl (sD (nS (tT (rS (E0 (rT rfl) ?_)))))
 (exact ⟨rfl, by rw [hy (by first | exact .inl (by omega) | exact .inr (.inl (by assumption)) | exact .inr (.inr (by assumption)))]; cases A <;> rfl, rfl⟩)
 refine L9 ?_
 refine E2 rfl (hI) rfl rfl (fun h64 => ?_) (fun h64 => ?_)
 refine D8 ?_
 refine A1z rfl hC Z4 rfl rfl ?_
 refine sQ (A1u rfl) rfl ?_
 refine sQ (qA rfl) rfl (sD (nS (tT (rS (E0 (rT rfl) ?_)))))
 (exact ⟨rfl, by rw [hy (by first | exact .inl (by omega) | exact .inr (.inl (by assumption)) | exact .inr (.inr (by assumption)))]; cases A <;> rfl, rfl⟩)
 refine D9 ?_
 refine I5 rfl (hPl) rfl rfl ?_
 refine sQ (qA rfl) rfl (sD (nS (tT (E0 (rT rfl) ?_))))
 (exact ⟨rfl, by rw [hn (by omega) (by assumption) (by assumption)], rfl⟩)
theorem A6.put {G : IM} {k : Int} {nm : ByteArray} {num tk fk lb : Int} {tks fks : List Ty} {us : List Tm} {pt pf p : Option Addr} {ct cf n c : Nat} {es : List (List Value)} (hk : E3 k) (hnum : E3 num) (hlb : E3 lb) (hty : B5 G (.mk tk tks) [.int .i64 tk, .slice pt tks.length ct]) (hfr : B5 G (.mk fk fks) [.int .i64 fk, .slice pf fks.length cf])
  (hn : n = us.length) (hs : C9 G p n c 9 es) (hr : D2 G us es) : A6 G (.mk k nm num (.mk tk tks) (.mk fk fks) lb us) [.int .i64 k, .string nm, .int .i64 num, .int .i64 tk, .slice pt tks.length ct, .int .i64 fk, .slice pf fks.length cf, .int .i64 lb, .slice p n c] := by
 subst hn
 simp only [A6]
 exact ⟨_, _, p, c, es, rfl, hk, hnum, hlb, hty, hfr, hs, hr⟩
theorem nine {uc : List Value} (h : uc.length = 9) : ∃ v1 v2 v3 v4 v5 v6 v7 v8 v9, uc = [v1, v2, v3, v4, v5, v6, v7, v8, v9] := by
 match uc, h with
 | [a, b, c, d, e, f, g, i, j], _ => exact ⟨a, b, c, d, e, f, g, i, j, rfl⟩
theorem A2W {x : ByteArray} {v : Tm} {ks : List Tm} {i : Nat} (h : i < ks.length) : (R0 x v ks).take (i + 1) = (R0 x v ks).take i ++ [R7 x v ks[i]] := by
 rw [A4x, List.take_succ_eq_append_getElem (by rw [List.length_map]; exact h), List.getElem_map]
theorem Y1 (x : ByteArray) (v : Tm) (ks : List Tm) : (R0 x v ks).length = ks.length := by rw [A4x, List.length_map]
theorem B3a (y : ByteArray) (v : Tm) (vc : List Value) : ∀ (t : Tm) (G : IM) (cells : List Value), t.small → A6 G t cells → A6 G v vc → Fn Tryz.prog 223 [.agg ⟨cells⟩, .string y, .agg ⟨vc⟩] [] G (O7 (R7 y v t)) := by
 refine Tm.ind fun k nm num ty fr lb ks ih G cells hts hr hv => ?_
 have hr0 := hr
 obtain ⟨_, _, _, hsm, hks⟩ := A0t.1 hts
 have hvl := hv.len
 have hvo := hv.one
 have hRl := hr.len
 have hRo := hr.one
 rw [R7]
 obtain ⟨tk, tks⟩ := ty
 obtain ⟨fk, fks⟩ := fr
 obtain ⟨pt, ct, pf, cf, p, c, es, rfl, hk, hnum, hlb, hty, hfr, hsl, hkl⟩ := hr.open9
 have hn := hsl.le
 refine B3 Tryz.func223 rfl Tryz.ntmps223 Tryz.results223 rfl ?_
 intro w0
 refine tS (tR ?_)
 refine sE (C0 rfl rfl) rfl (fun b3 => ?_)
 refine sE (C0 rfl rfl) rfl (fun b4 => ?_)
 refine sE (A7 rfl) rfl (fun b5 => ?_)
 refine sD (nS (tS ?_))
 refine B7 ?_
 refine tS (tR (sQ (B0 rfl) rfl (sL (B9 rfl rfl) rfl rfl ?_)))
 refine sB (qE rfl rfl) rfl rfl (fun h14 => ?_) (fun h14 => ?_)
 refine H1 ?_
 refine sB (A1v rfl rfl) rfl rfl (fun h19 => ?_) (fun h19 => ?_)
 refine C4 ?_
 refine sL (A3 rfl rfl (A9 (by repeat first | exact mH | apply mT)) hvl) rfl rfl ?_
 refine sS rfl rfl rfl hvl hvo rfl ?_ (hu := by exact C3 hvl.symm)
 refine sD (nS (tT (rB (rS ?_))))
 refine E0 (rC rfl (A3 rfl rfl (A9 (by repeat first | exact mH | apply mT)) hvl)) ?_
 (rw [if_pos (by refine ⟨by omega, by assumption⟩)]; exact O7.mk hv)
 refine D9 ?_
 refine sP (H0 rfl rfl (by omega)) rfl rfl ?_
 refine I8 ?_
 refine sE (A7 rfl) rfl (fun b62 => ?_)
 refine U6 ?_
 refine B7 ?_
 (refine U5 28 9 ?_; refine L3 (fun (x : Nat × Option Addr × Nat × List (List Value) × IM) => ⟨[(37, .int .i64 x.1), (36, .int .i64 ks.length), (35, .slice p ks.length c), (1, .string y), (3, .pointer (some ⟨b3, 0, none⟩)), (5, .pointer (some ⟨b4, 0, none⟩)), (6, .pointer (some ⟨b5, 0, none⟩)), (7, .pointer (some ⟨b62, 0, none⟩))], [.blk b62 [.int .i64 k, .string nm, .int .i64 num, .int .i64 tk, .slice pt tks.length ct, .int .i64 fk, .slice pf fks.length cf, .int .i64 lb, .slice x.2.1 x.1 x.2.2.1], .slc x.2.1 x.2.2.1 28 9 x.1 x.2.2.2.1.flatten, .blk b5 [.int .i64 0, .string ⟨⟨[]⟩⟩, .int .i64 0, .int .i64 0, .slice none 0 0, .int .i64 0, .slice none 0 0, .int .i64 0, .slice none 0 0], .blk b4 vc, .blk b3 [.int .i64 k, .string nm, .int .i64 num, .int .i64 tk, .slice pt tks.length ct, .int .i64 fk, .slice pf fks.length cf, .int .i64 lb, .slice p ks.length c]], x.2.2.2.2⟩) (fun x => x.1 ≤ ks.length ∧ B6 G x.2.2.2.2 ∧ D2 x.2.2.2.2 ((R0 y v ks).take x.1) x.2.2.2.1) (fun x => ks.length - x.1) (0, none, 0, [], G) ?_ ?_ ?_)
 (simp only [I6]; exact D3)
 (exact ⟨Nat.zero_le _, B6.refl _, by simp [D2]⟩)
 (rintro ⟨i, pn, cn, es', Gi⟩ ⟨hi, hle, hst⟩; simp only [] at hi hle hst ⊢; replace hsl := hsl.mono hle; replace hkl := hkl.mono hle; replace hv := hv.mono hle; replace hty := hty.mono hle; replace hfr := hfr.mono hle; have hsl' := hst.len; rw [List.length_take, Y1] at hsl')
 refine tS (tR ?_)
 refine sB (J9 rfl rfl) rfl rfl (fun h88 => ?_) (fun h88 => ?_)
 refine sD (nS (tS (qT rfl (tK (nS (tS ?_))))))
 refine B7 ?_
 refine tS (tR ?_)
 (have hil : i < ks.length := (by omega); obtain ⟨bx, ox, e, rfl, hl, hat, hre, hgb⟩ := hsl.kidTm hkl (i := i) (by omega) (by omega); have hel := hre.len; have heo := hre.one; refine sP (B2 (j := i) rfl rfl rfl (by omega)) rfl rfl ?_)
 refine sL (A3 rfl rfl (hat _) hl) rfl rfl ?_
 refine sE (A7 rfl) rfl (fun b101 => ?_)
 refine sS rfl rfl rfl hel heo rfl ?_ (hu := by exact C3 hel.symm)
 refine sD (nS ?_)
 refine D5 D6 rfl ?_
 refine O9 (i := 2) (l' := [ff,ff,tt,ff,ff,ff,ff,ff,ff,ff]) rfl D1 (A3 rfl rfl (A9 (by repeat first | exact mH | apply mT)) hel) rfl (by kernel_rfl) rfl rfl ?_
 refine aL 4 rfl (A3 rfl rfl (A9 (by repeat first | exact mH | apply mT)) hvl) rfl ?_
 refine aP 0 rfl (B0 rfl) rfl ?_
 refine aL 1 rfl (B9 rfl rfl) rfl ?_
 refine aP 3 rfl (qM rfl) rfl ?_
 refine A2 5 ?_
 (refine I9 rfl rfl (ih ks[i] (List.getElem_mem (by omega)) Gi _ (Tm.smallL_mem hks _ (List.getElem_mem (by omega))) hre hv) rfl rfl rfl (fun u G1 hle1 hh => ?_); obtain ⟨uc, rfl, hru⟩ := hh; have hul := hru.len; have huo := hru.one; obtain ⟨v1, v2, v3, v4, v5, v6, v7, v8, v9, rfl⟩ := nine hul)
 refine A2 6 ?_
 (refine E1 rfl (C8 rfl rfl rfl (by omega) (by unfold maxLen; omega) rfl) rfl rfl ?_; rintro _ ⟨b114, rfl⟩)
 refine A2 7 ?_
 (refine Q5 rfl rfl rfl rfl rfl rfl (fun _ _ => by repeat (first | exact Sw.here | apply Sw.there)) (P5 (by repeat first | exact mH | apply mT)) rfl (fun u hu => List.all_eq_true.1 huo u hu) (by unfold maxLen; omega) (by omega) rfl rfl (by repeat (first | exact A5.nil | apply A5.dep (by decide +kernel) | apply A5.im (by decide +kernel) (by assumption) (by repeat first | exact mH | apply mT) | apply A5.blk (by decide +kernel) (by repeat (first | exact Pk.here | apply Pk.there)) (by repeat first | exact mH | apply mT))) (fun p7 c7 => ?_))
 refine aP 8 rfl (B0 rfl) rfl ?_
 refine A2 9 ?_
 refine Q4 rfl rfl rfl rfl rfl rfl rfl rfl (by decide +kernel) (by repeat first | exact Sw.here | apply Sw.there) (by rfl) ?_
 refine C2 (N3 (nS (tR ?_)))
 refine sP (K4 rfl rfl (by omega) (by omega)) rfl rfl ?_
 refine sQ (qM rfl) rfl (sD ?_)
 refine K7 (i + 1, p7, c7, es' ++ [[v1, v2, v3, v4, v5, v6, v7, v8, v9]], G1) ?_ ?_ ?_
 (simp only [I6]; exact D3)
 (dsimp only; exact ⟨by omega, hle.trans hle1, by rw [A2W (by omega)]; exact D2.snoc (hst.mono hle1) hru⟩)
 (show ks.length - (i + 1) < ks.length - i; omega)
 refine I0 ?_
 (refine H5 (cs := es'.flatten) (by repeat (first | exact Pk.here | apply Pk.there)) (fun G2 hle2 hsl2 hno2 => ?_); obtain rfl : i = ks.length := (by omega))
 refine tT ?_
 refine E0 (rC rfl (A1 rfl rfl)) ?_
 (rw [if_neg (by rintro ⟨h1, h2⟩; first | omega | contradiction), if_neg (by rintro ⟨h1, h2⟩; first | omega | contradiction)]; rw [List.take_of_length_le (by rw [Y1]; omega)] at hst; exact O7.mk (A6.put hk hnum hlb (hty.mono hle2) (hfr.mono hle2) (by rw [Y1]) (C9.of hsl2 (by omega) hst.all (fun e he => (hst.each e he).2)) (hst.mono hle2)))
 refine L5 ?_
 refine sB (qE rfl rfl) rfl rfl (fun h164 => ?_) (fun h164 => ?_)
 refine H1 ?_
 refine sB (A1v rfl rfl) rfl rfl (fun h169 => ?_) (fun h169 => ?_)
 refine L5 ?_
 refine E0 (rC rfl (A1 rfl rfl)) ?_
 (rw [if_neg (by rintro ⟨h1, h2⟩; first | omega | contradiction), if_pos (by refine ⟨by omega, by assumption⟩)]; exact O7.mk hr0)
 refine J2 ?_
 refine sE (A7 rfl) rfl (fun b197 => ?_)
 refine U6 ?_
 refine B7 ?_
 (refine U5 28 9 ?_; refine L3 (fun (x : Nat × Option Addr × Nat × List (List Value) × IM) => ⟨[(37, .int .i64 x.1), (36, .int .i64 ks.length), (35, .slice p ks.length c), (1, .string y), (3, .pointer (some ⟨b3, 0, none⟩)), (5, .pointer (some ⟨b4, 0, none⟩)), (6, .pointer (some ⟨b5, 0, none⟩)), (7, .pointer (some ⟨b197, 0, none⟩))], [.blk b197 [.int .i64 k, .string nm, .int .i64 num, .int .i64 tk, .slice pt tks.length ct, .int .i64 fk, .slice pf fks.length cf, .int .i64 lb, .slice x.2.1 x.1 x.2.2.1], .slc x.2.1 x.2.2.1 28 9 x.1 x.2.2.2.1.flatten, .blk b5 [.int .i64 0, .string ⟨⟨[]⟩⟩, .int .i64 0, .int .i64 0, .slice none 0 0, .int .i64 0, .slice none 0 0, .int .i64 0, .slice none 0 0], .blk b4 vc, .blk b3 [.int .i64 k, .string nm, .int .i64 num, .int .i64 tk, .slice pt tks.length ct, .int .i64 fk, .slice pf fks.length cf, .int .i64 lb, .slice p ks.length c]], x.2.2.2.2⟩) (fun x => x.1 ≤ ks.length ∧ B6 G x.2.2.2.2 ∧ D2 x.2.2.2.2 ((R0 y v ks).take x.1) x.2.2.2.1) (fun x => ks.length - x.1) (0, none, 0, [], G) ?_ ?_ ?_)
 (simp only [I6]; exact D3)
 (exact ⟨Nat.zero_le _, B6.refl _, by simp [D2]⟩)
 (rintro ⟨i, pn, cn, es', Gi⟩ ⟨hi, hle, hst⟩; simp only [] at hi hle hst ⊢; replace hsl := hsl.mono hle; replace hkl := hkl.mono hle; replace hv := hv.mono hle; replace hty := hty.mono hle; replace hfr := hfr.mono hle; have hsl' := hst.len; rw [List.length_take, Y1] at hsl')
 refine tS (tR ?_)
 refine sB (J9 rfl rfl) rfl rfl (fun h223 => ?_) (fun h223 => ?_)
 refine sD (nS (tS (qT rfl (tK (nS (tS ?_))))))
 refine B7 ?_
 refine tS (tR ?_)
 (have hil : i < ks.length := (by omega); obtain ⟨bx, ox, e, rfl, hl, hat, hre, hgb⟩ := hsl.kidTm hkl (i := i) (by omega) (by omega); have hel := hre.len; have heo := hre.one; refine sP (B2 (j := i) rfl rfl rfl (by omega)) rfl rfl ?_)
 refine sL (A3 rfl rfl (hat _) hl) rfl rfl ?_
 refine sE (A7 rfl) rfl (fun b236 => ?_)
 refine sS rfl rfl rfl hel heo rfl ?_ (hu := by exact C3 hel.symm)
 refine sD (nS ?_)
 refine D5 D6 rfl ?_
 refine O9 (i := 2) (l' := [ff,ff,tt,ff,ff,ff,ff,ff,ff,ff]) rfl D1 (A3 rfl rfl (A9 (by repeat first | exact mH | apply mT)) hel) rfl (by kernel_rfl) rfl rfl ?_
 refine aL 4 rfl (A3 rfl rfl (A9 (by repeat first | exact mH | apply mT)) hvl) rfl ?_
 refine aP 0 rfl (B0 rfl) rfl ?_
 refine aL 1 rfl (B9 rfl rfl) rfl ?_
 refine aP 3 rfl (qM rfl) rfl ?_
 refine A2 5 ?_
 (refine I9 rfl rfl (ih ks[i] (List.getElem_mem (by omega)) Gi _ (Tm.smallL_mem hks _ (List.getElem_mem (by omega))) hre hv) rfl rfl rfl (fun u G1 hle1 hh => ?_); obtain ⟨uc, rfl, hru⟩ := hh; have hul := hru.len; have huo := hru.one; obtain ⟨v1, v2, v3, v4, v5, v6, v7, v8, v9, rfl⟩ := nine hul)
 refine A2 6 ?_
 (refine E1 rfl (C8 rfl rfl rfl (by omega) (by unfold maxLen; omega) rfl) rfl rfl ?_; rintro _ ⟨b249, rfl⟩)
 refine A2 7 ?_
 (refine Q5 rfl rfl rfl rfl rfl rfl (fun _ _ => by repeat (first | exact Sw.here | apply Sw.there)) (P5 (by repeat first | exact mH | apply mT)) rfl (fun u hu => List.all_eq_true.1 huo u hu) (by unfold maxLen; omega) (by omega) rfl rfl (by repeat (first | exact A5.nil | apply A5.dep (by decide +kernel) | apply A5.im (by decide +kernel) (by assumption) (by repeat first | exact mH | apply mT) | apply A5.blk (by decide +kernel) (by repeat (first | exact Pk.here | apply Pk.there)) (by repeat first | exact mH | apply mT))) (fun p7 c7 => ?_))
 refine aP 8 rfl (B0 rfl) rfl ?_
 refine A2 9 ?_
 refine Q4 rfl rfl rfl rfl rfl rfl rfl rfl (by decide +kernel) (by repeat first | exact Sw.here | apply Sw.there) (by rfl) ?_
 refine C2 (N3 (nS (tR ?_)))
 refine sP (K4 rfl rfl (by omega) (by omega)) rfl rfl ?_
 refine sQ (qM rfl) rfl (sD ?_)
 refine K7 (i + 1, p7, c7, es' ++ [[v1, v2, v3, v4, v5, v6, v7, v8, v9]], G1) ?_ ?_ ?_
 (simp only [I6]; exact D3)
 (dsimp only; exact ⟨by omega, hle.trans hle1, by rw [A2W (by omega)]; exact D2.snoc (hst.mono hle1) hru⟩)
 (show ks.length - (i + 1) < ks.length - i; omega)
 refine I0 ?_
 (refine H5 (cs := es'.flatten) (by repeat (first | exact Pk.here | apply Pk.there)) (fun G2 hle2 hsl2 hno2 => ?_); obtain rfl : i = ks.length := (by omega))
 refine tT ?_
 refine E0 (rC rfl (A1 rfl rfl)) ?_
 (rw [if_neg (by rintro ⟨h1, h2⟩; first | omega | contradiction), if_neg (by rintro ⟨h1, h2⟩; first | omega | contradiction)]; rw [List.take_of_length_le (by rw [Y1]; omega)] at hst; exact O7.mk (A6.put hk hnum hlb (hty.mono hle2) (hfr.mono hle2) (by rw [Y1]) (C9.of hsl2 (by omega) hst.all (fun e he => (hst.each e he).2)) (hst.mono hle2)))
 refine I8 ?_
 refine sE (A7 rfl) rfl (fun b301 => ?_)
 refine U6 ?_
 refine B7 ?_
 (refine U5 28 9 ?_; refine L3 (fun (x : Nat × Option Addr × Nat × List (List Value) × IM) => ⟨[(37, .int .i64 x.1), (36, .int .i64 ks.length), (35, .slice p ks.length c), (1, .string y), (3, .pointer (some ⟨b3, 0, none⟩)), (5, .pointer (some ⟨b4, 0, none⟩)), (6, .pointer (some ⟨b5, 0, none⟩)), (7, .pointer (some ⟨b301, 0, none⟩))], [.blk b301 [.int .i64 k, .string nm, .int .i64 num, .int .i64 tk, .slice pt tks.length ct, .int .i64 fk, .slice pf fks.length cf, .int .i64 lb, .slice x.2.1 x.1 x.2.2.1], .slc x.2.1 x.2.2.1 28 9 x.1 x.2.2.2.1.flatten, .blk b5 [.int .i64 0, .string ⟨⟨[]⟩⟩, .int .i64 0, .int .i64 0, .slice none 0 0, .int .i64 0, .slice none 0 0, .int .i64 0, .slice none 0 0], .blk b4 vc, .blk b3 [.int .i64 k, .string nm, .int .i64 num, .int .i64 tk, .slice pt tks.length ct, .int .i64 fk, .slice pf fks.length cf, .int .i64 lb, .slice p ks.length c]], x.2.2.2.2⟩) (fun x => x.1 ≤ ks.length ∧ B6 G x.2.2.2.2 ∧ D2 x.2.2.2.2 ((R0 y v ks).take x.1) x.2.2.2.1) (fun x => ks.length - x.1) (0, none, 0, [], G) ?_ ?_ ?_)
 (simp only [I6]; exact D3)
 (exact ⟨Nat.zero_le _, B6.refl _, by simp [D2]⟩)
 (rintro ⟨i, pn, cn, es', Gi⟩ ⟨hi, hle, hst⟩; simp only [] at hi hle hst ⊢; replace hsl := hsl.mono hle; replace hkl := hkl.mono hle; replace hv := hv.mono hle; replace hty := hty.mono hle; replace hfr := hfr.mono hle; have hsl' := hst.len; rw [List.length_take, Y1] at hsl')
 refine tS (tR ?_)
 refine sB (J9 rfl rfl) rfl rfl (fun h327 => ?_) (fun h327 => ?_)
 refine sD (nS (tS (qT rfl (tK (nS (tS ?_))))))
 refine B7 ?_
 refine tS (tR ?_)
 (have hil : i < ks.length := (by omega); obtain ⟨bx, ox, e, rfl, hl, hat, hre, hgb⟩ := hsl.kidTm hkl (i := i) (by omega) (by omega); have hel := hre.len; have heo := hre.one; refine sP (B2 (j := i) rfl rfl rfl (by omega)) rfl rfl ?_)
 refine sL (A3 rfl rfl (hat _) hl) rfl rfl ?_
 refine sE (A7 rfl) rfl (fun b340 => ?_)
 refine sS rfl rfl rfl hel heo rfl ?_ (hu := by exact C3 hel.symm)
 refine sD (nS ?_)
 refine D5 D6 rfl ?_
 refine O9 (i := 2) (l' := [ff,ff,tt,ff,ff,ff,ff,ff,ff,ff]) rfl D1 (A3 rfl rfl (A9 (by repeat first | exact mH | apply mT)) hel) rfl (by kernel_rfl) rfl rfl ?_
 refine aL 4 rfl (A3 rfl rfl (A9 (by repeat first | exact mH | apply mT)) hvl) rfl ?_
 refine aP 0 rfl (B0 rfl) rfl ?_
 refine aL 1 rfl (B9 rfl rfl) rfl ?_
 refine aP 3 rfl (qM rfl) rfl ?_
 refine A2 5 ?_
 (refine I9 rfl rfl (ih ks[i] (List.getElem_mem (by omega)) Gi _ (Tm.smallL_mem hks _ (List.getElem_mem (by omega))) hre hv) rfl rfl rfl (fun u G1 hle1 hh => ?_); obtain ⟨uc, rfl, hru⟩ := hh; have hul := hru.len; have huo := hru.one; obtain ⟨v1, v2, v3, v4, v5, v6, v7, v8, v9, rfl⟩ := nine hul)
 refine A2 6 ?_
 (refine E1 rfl (C8 rfl rfl rfl (by omega) (by unfold maxLen; omega) rfl) rfl rfl ?_; rintro _ ⟨b353, rfl⟩)
 refine A2 7 ?_
 (refine Q5 rfl rfl rfl rfl rfl rfl (fun _ _ => by repeat (first | exact Sw.here | apply Sw.there)) (P5 (by repeat first | exact mH | apply mT)) rfl (fun u hu => List.all_eq_true.1 huo u hu) (by unfold maxLen; omega) (by omega) rfl rfl (by repeat (first | exact A5.nil | apply A5.dep (by decide +kernel) | apply A5.im (by decide +kernel) (by assumption) (by repeat first | exact mH | apply mT) | apply A5.blk (by decide +kernel) (by repeat (first | exact Pk.here | apply Pk.there)) (by repeat first | exact mH | apply mT))) (fun p7 c7 => ?_))
 refine aP 8 rfl (B0 rfl) rfl ?_
 refine A2 9 ?_
 refine Q4 rfl rfl rfl rfl rfl rfl rfl rfl (by decide +kernel) (by repeat first | exact Sw.here | apply Sw.there) (by rfl) ?_
 refine C2 (N3 (nS (tR ?_)))
 refine sP (K4 rfl rfl (by omega) (by omega)) rfl rfl ?_
 refine sQ (qM rfl) rfl (sD ?_)
 refine K7 (i + 1, p7, c7, es' ++ [[v1, v2, v3, v4, v5, v6, v7, v8, v9]], G1) ?_ ?_ ?_
 (simp only [I6]; exact D3)
 (dsimp only; exact ⟨by omega, hle.trans hle1, by rw [A2W (by omega)]; exact D2.snoc (hst.mono hle1) hru⟩)
 (show ks.length - (i + 1) < ks.length - i; omega)
 refine I0 ?_
 (refine H5 (cs := es'.flatten) (by repeat (first | exact Pk.here | apply Pk.there)) (fun G2 hle2 hsl2 hno2 => ?_); obtain rfl : i = ks.length := (by omega))
 refine tT ?_
 refine E0 (rC rfl (A1 rfl rfl)) ?_
 (rw [if_neg (by rintro ⟨h1, h2⟩; first | omega | contradiction), if_neg (by rintro ⟨h1, h2⟩; first | omega | contradiction)]; rw [List.take_of_length_le (by rw [Y1]; omega)] at hst; exact O7.mk (A6.put hk hnum hlb (hty.mono hle2) (hfr.mono hle2) (by rw [Y1]) (C9.of hsl2 (by omega) hst.all (fun e he => (hst.each e he).2)) (hst.mono hle2)))
end Gw
end Go.Proofs.YtfpgncjeejickaaGreat
