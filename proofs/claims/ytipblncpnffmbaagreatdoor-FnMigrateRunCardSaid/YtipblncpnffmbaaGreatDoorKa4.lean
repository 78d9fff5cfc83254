/-
  What a node wants of its operands.
-/
import Derived.Test.YtipblncpnffmbaaGreatDoorKa3
import Derived.Test.YtipblncpnffmbaaGreatDoorKa2
import Derived.Test.YtipblncpnffmbaaGreatDoorKa1
set_option linter.unusedVariables false
set_option linter.unusedSimpArgs false
set_option maxHeartbeats 0
set_option maxRecDepth 100000
set_option synthInstance.maxSize 4000
set_option synthInstance.maxHeartbeats 0
namespace Go.Proofs.YtipblncpnffmbaaGreatDoor
open Go Go.RowKit
namespace Gw
theorem B9.kidD {G : IM} {p : Option Addr} {n c : Nat} {es : List (List Value)} {ks : List Ty} (h : B9 G p n c 2 es) (hk : B0 G ks es) {i : Nat} (hi : i < n) (hn : i < ks.length) :
  ∃ b o q d, p = some ⟨b, o, none⟩ ∧ (∀ hp, At hp G b (o + i * 2) [.int .i64 (ks.getD i A7).k, .slice q (ks.getD i A7).ks.length d]) ∧ B3 G (ks.getD i A7) [.int .i64 (ks.getD i A7).k, .slice q (ks.getD i A7).ks.length d] ∧ G b ≠ none := by
 obtain ⟨b, o, q, d, h1, h2, h3, h4⟩ := h.kidTy hk hi hn
 rw [List.getD_eq_getElem?_getD, List.getElem?_eq_getElem hn, Option.getD_some]
 exact ⟨b, o, q, d, h1, h2, h3, h4⟩
theorem A2B {hs : List Ty} (h : ∀ t ∈ hs, D8 t) {i : Nat} (hi : i < hs.length) : D8 (hs.getD i A7) := by
 rw [List.getD_eq_getElem?_getD, List.getElem?_eq_getElem hi, Option.getD_some]
 exact h _ (List.getElem_mem hi)
def K0 (r : Option (List Ty × Ty)) (G : IM) : IM → Value → List A4 → Prop := L5 fun G' v => ∃ p n c es w cu u, v = .tuple ⟨[.slice p n c, .agg ⟨cu⟩, .bool r.isSome]⟩ ∧ n = w.length ∧ B9 G' p n c 2 es ∧ B0 G' w es ∧ B3 G' u cu ∧ ∀ q, r = some q → q = (w, u)
theorem K0.mk {r : Option (List Ty × Ty)} {G G' : IM} {p : Option Addr} {n c : Nat} {es : List (List Value)} {w : List Ty} {cu : List Value} {u : Ty} {b : Bool} (hl : n = w.length) (hs : Sl G' p n c 2 es.flatten) (hw : B0 G' w es) (hu : B3 G' u cu) (h : r = if b = true then some (w, u) else none) :
  K0 r G G' (.tuple ⟨[.slice p n c, .agg ⟨cu⟩, .bool b]⟩) [] := by
 refine ⟨rfl, p, n, c, es, w, cu, u, ?_, hl, B9.of hs (by rw [hw.len, hl]) hw.all (fun e he => (hw.each e he).2), hw, hu, ?_⟩
 ·subst h; cases b <;> rfl
 ·subst h; cases b
  ·simp
  ·intro q hq; simpa using hq.symm
theorem K0.nil {r : Option (List Ty × Ty)} {G G' : IM} {cu : List Value} {u : Ty} {b : Bool} (hu : B3 G' u cu) (h : r = if b = true then some ([], u) else none) :
  K0 r G G' (.tuple ⟨[.slice none 0 0, .agg ⟨cu⟩, .bool b]⟩) [] := K0.mk (es := []) rfl (Sl.nil _ _) (by simp [B0]) hu h
theorem K0.one {r : Option (List Ty × Ty)} {G G' : IM} {p : Option Addr} {c : Nat} {a : Ty} {ca : List Value} {cu : List Value} {u : Ty} {b : Bool} (hs : Sl G' p 1 c 2 ca) (ha : B3 G' a ca) (hu : B3 G' u cu) (h : r = if b = true then some ([a], u) else none) :
  K0 r G G' (.tuple ⟨[.slice p 1 c, .agg ⟨cu⟩, .bool b]⟩) [] := K0.mk (es := [ca]) (w := [a]) rfl (by simpa using hs) ⟨_, _, rfl, ha, rfl⟩ hu h
theorem K0.two {r : Option (List Ty × Ty)} {G G' : IM} {p : Option Addr} {c : Nat} {a a2 : Ty} {ca ca2 : List Value} {cu : List Value} {u : Ty} {b : Bool} (hs : Sl G' p 2 c 2 (ca ++ ca2)) (ha : B3 G' a ca) (ha2 : B3 G' a2 ca2) (hu : B3 G' u cu) (h : r = if b = true then some ([a, a2], u) else none) :
  K0 r G G' (.tuple ⟨[.slice p 2 c, .agg ⟨cu⟩, .bool b]⟩) [] := K0.mk (es := [ca, ca2]) (w := [a, a2]) rfl (by simpa using hs) ⟨_, _, rfl, ha, _, _, rfl, ha2, rfl⟩ hu h
theorem K0.three {r : Option (List Ty × Ty)} {G G' : IM} {p : Option Addr} {c : Nat} {a a2 a3 : Ty} {ca ca2 ca3 : List Value} {cu : List Value} {u : Ty} {b : Bool} (hs : Sl G' p 3 c 2 (ca ++ (ca2 ++ ca3))) (ha : B3 G' a ca) (ha2 : B3 G' a2 ca2) (ha3 : B3 G' a3 ca3) (hu : B3 G' u cu) (h : r = if b = true then some ([a, a2, a3], u) else none) :
  K0 r G G' (.tuple ⟨[.slice p 3 c, .agg ⟨cu⟩, .bool b]⟩) [] := K0.mk (es := [ca, ca2, ca3]) (w := [a, a2, a3]) rfl (by simpa using hs) ⟨_, _, rfl, ha, _, _, rfl, ha2, _, _, rfl, ha3, rfl⟩ hu h
section
variable {cx : Cx} {nm : ByteArray} {ty : Ty} {h : List Ty}
theorem mW1 : M5 cx 1 nm ty h = match Z2 cx nm with | some t => some ([], t) | none => none := rfl
theorem mW2 : M5 cx 2 nm ty h = some ([], S3) := rfl
theorem A4d {k : Int} (hk : k = 3 ∨ k = 4) : M5 cx k nm ty h = some ([], W9) := by rcases hk with rfl | rfl <;> rfl
theorem mW5 : M5 cx 5 nm ty h = some ([], .mk 4 [ty, h.getD 0 A7]) := rfl
theorem mW6 : M5 cx 6 nm ty h = match R3 4 (h.getD 0 A7) with | some (a, b) => if J7 (h.getD 1 A7) a = true then some ([.mk 4 [a, b], a], b) else none | none => none := rfl
theorem V3 {k : Int} (hk : k = 7 ∨ k = 8) : M5 cx k nm ty h = if J7 (h.getD 0 A7) S3 = true ∧ J7 (h.getD 1 A7) S3 = true then some ([S3, S3], if k = 8 then W9 else S3) else none := by rcases hk with rfl | rfl <;> rfl
theorem mW9 : M5 cx 9 nm ty h = if J7 (h.getD 0 A7) W9 = true ∧ J7 (h.getD 1 A7) (h.getD 2 A7) = true then some ([W9, T5 (h.getD 1 A7) (h.getD 2 A7), T5 (h.getD 1 A7) (h.getD 2 A7)], T5 (h.getD 1 A7) (h.getD 2 A7)) else none := rfl
theorem A5x : M5 cx 10 nm ty h = some ([], .mk 5 [h.getD 0 A7, h.getD 1 A7]) := rfl
theorem A2C : M5 cx 13 nm ty h = if J7 (h.getD 0 A7) ty = true then some ([ty], ty) else none := rfl
theorem A3j {k : Int} (hk : k = 11 ∨ k = 12) : M5 cx k nm ty h = match R3 5 (h.getD 0 A7) with | some (a, b) => some ([.mk 5 [a, b]], if k = 12 then b else a) | none => none := by rcases hk with rfl | rfl <;> rfl
end
theorem J8 (G : IM) : B3 G S3 [.int .i64 2, .slice none 0 0] := L4 G ⟨by omega, by omega⟩
theorem Z4 (G : IM) : B3 G W9 [.int .i64 3, .slice none 0 0] := L4 G ⟨by omega, by omega⟩
theorem B2J (cx : Cx) (k : Int) (nm : ByteArray) (num : Int) (ty fr : Ty) (lb : Int) (ks : List Tm) (h : List Ty) (G : IM) (pc : Option Addr) (nc cc : Nat) (cells : List Value) (p : Option Addr) (n c : Nat) (es : List (List Value))
  (hx : S4 G cx pc nc cc) (hops : D1 k = n) (hnl : n = h.length) (hk14 : k ≠ 14) (hta : D8 ty) (hr : A9 G (.mk k nm num ty fr lb ks) cells) (hsl : B9 G p n c 2 es) (hkl : B0 G h es) (har : ∀ t ∈ h, D8 t) :
  Fn Tryz.prog 75 [.slice pc nc cc, .agg ⟨cells⟩, .slice p n c] [] G (K0 (M5 cx k nm ty h) G) := by
 have hone := hr.one
 have hop := A35 hops
 have hkr : 1 ≤ k ∧ k ≤ 14 := by
  apply Classical.byContradiction
  intro hc
  rw [A3P hc] at hops; omega
 obtain ⟨tyk, tyks⟩ := ty
 obtain ⟨fk, fks⟩ := fr
 obtain ⟨pt, ct, pf, cf, pk, ck, ek, rfl, hk, hnum, hlb, hrty, hrfr, _, _⟩ := hr.open9
 refine B7 Tryz.func75 rfl Tryz.ntmps75 Tryz.results75 rfl ?_
 intro w0
 refine tS (tR ?_)
 refine sE (C2 rfl rfl) rfl (fun b3 => ?_)
 refine sQ (qA rfl) rfl ?_
 refine sE (A6 rfl) rfl (fun b5 => ?_)
 refine sQ (qA rfl) rfl (sD (nS (tS (tR ?_))))
 refine H2 rfl ((A0V _ _)) rfl rfl ?_
 refine H2 rfl ((A0V _ _)) rfl rfl ?_
 refine sE (A6 rfl) rfl (fun b13 => ?_)
 refine sE (A6 rfl) rfl (fun b14 => ?_)
 refine K6 ?_
 refine B6 (tS (tR (sB (qE rfl rfl) rfl rfl (fun h29 => ?_) (fun h29 => ?_))))
 refine D2 ?_
 (refine F4 rfl (B15 G cx pc nc cc nm hx) rfl rfl (fun v G1 hle1 hh => ?_); obtain ⟨cu, u, rfl, hru, hu⟩ := hh; obtain ⟨p1, c1, e1, rfl, _⟩ := hru.open)
 refine J0 ?_
 refine sE (A6 rfl) rfl (fun b43 => ?_)
 refine F9 ?_
 refine sQ (qA rfl) rfl (sD (nS (tS ?_)))
 refine E4 E7 rfl ?_
 refine P8 (i := 0) (l' := [tt,ff,ff,ff,ff]) rfl D6 (A2 rfl rfl) rfl (by kernel_rfl) rfl rfl ?_
 refine aP 1 rfl (qM rfl) rfl ?_
 refine aP 2 rfl (qA rfl) rfl ?_
 refine A3 3 ?_
 refine H6 rfl ?_
 refine aP 4 rfl (qA rfl) rfl ?_
 refine C4 (nS (tT (rB (rS ?_))))
 refine E6 (rT rfl) (rC rfl (A2 rfl rfl)) (rT rfl) ?_
 (have hk1 : k = 1 := (by omega); subst hk1; rw [mW1]; refine K0.nil hru ?_; generalize Z2 cx nm = r at hu ⊢; cases r with | none => rfl | some t => (rw [hu t rfl]; rfl))
 refine sQ (qA rfl) rfl (sD (nS (cF rfl (tS (tR ?_)))))
 refine sB (qE rfl rfl) rfl rfl (fun h69 => ?_) (fun h69 => ?_)
 refine sQ (qA rfl) rfl (sD (nS (qT rfl (tS ?_))))
 refine E4 E7 rfl ?_
 refine P8 (i := 0) (l' := [tt,ff,ff,ff]) rfl D6 (A2 rfl rfl) rfl (by kernel_rfl) rfl rfl ?_
 refine aP 1 rfl (qA rfl) rfl ?_
 refine A3 2 ?_
 refine H6 rfl ?_
 refine aP 3 rfl (qA rfl) rfl ?_
 refine C4 (nS (tT (rB (rS ?_))))
 refine E6 (rT rfl) (rC rfl (A2 rfl rfl)) (rT rfl) ?_
 (have hk1 : k = 2 := (by omega); subst hk1; exact K0.nil (J8 _) mW2)
 refine sQ (qA rfl) rfl (sD (nS (cF rfl (tS (tS (tR ?_))))))
 refine sB (qE rfl rfl) rfl rfl (fun h95 => ?_) (fun h95 => ?_)
 refine D7 ?_
 refine E4 E7 rfl ?_
 refine P8 (i := 0) (l' := [tt,ff,ff,ff]) rfl D6 (A2 rfl rfl) rfl (by kernel_rfl) rfl rfl ?_
 refine aP 1 rfl (qA rfl) rfl ?_
 refine A3 2 ?_
 refine H6 rfl ?_
 refine aP 3 rfl (qA rfl) rfl ?_
 refine C4 (nS (tT (rB (rS ?_))))
 refine E6 (rT rfl) (rC rfl (A2 rfl rfl)) (rT rfl) ?_
 (exact K0.nil (Z4 _) (by rw [A4d (by omega)]; rfl))
 refine sQ (qA rfl) rfl (sD (nS (cF rfl (tR ?_))))
 refine sB (qE rfl rfl) rfl rfl (fun h122 => ?_) (fun h122 => ?_)
 refine sQ (qA rfl) rfl (sD (nS (qT rfl (tS ?_))))
 refine E4 E7 rfl ?_
 refine P8 (i := 0) (l' := [tt,ff,ff,ff]) rfl D6 (A2 rfl rfl) rfl (by kernel_rfl) rfl rfl ?_
 refine aP 1 rfl (qA rfl) rfl ?_
 refine A3 2 ?_
 refine H6 rfl ?_
 refine aP 3 rfl (qA rfl) rfl ?_
 refine C4 (nS (tT (rB (rS ?_))))
 refine E6 (rT rfl) (rC rfl (A2 rfl rfl)) (rT rfl) ?_
 (exact K0.nil (Z4 _) (by rw [A4d (by omega)]; rfl))
 refine sQ (qA rfl) rfl (sD (nS (cF rfl (tS (tR ?_)))))
 refine sB (qE rfl rfl) rfl rfl (fun h147 => ?_) (fun h147 => ?_)
 refine sQ (qA rfl) rfl (sD (nS (qT rfl (tS ?_))))
 (have hl1 : n = 1 := hop.2.2 (by omega); obtain ⟨b0, o0, q0, d0, hp0, hat0, hre0, hg0⟩ := hsl.kidD hkl (i := 0) (by omega) (by omega); cases hp0; refine E4 E7 rfl ?_)
 refine K2 (i := 0) (l' := [tt,ff,ff,ff,ff,ff,ff,ff,ff]) rfl D6 (B8 rfl) rfl (by kernel_rfl) rfl rfl ?_
 refine aL 1 rfl (A2 rfl rfl) rfl ?_
 refine aP 2 rfl (qM rfl) rfl ?_
 refine aP 3 rfl (B4 (j := 0) rfl rfl rfl (by omega)) rfl ?_
 refine aL 4 rfl (A5 rfl rfl (hat0 _) rfl) rfl ?_
 refine A3 5 ?_
 (refine K4 rfl rfl (A1H 4 _ _ _ _ _ ⟨by omega, by omega⟩ hrty hre0) rfl rfl rfl (fun v GB hleB hh => ?_); obtain ⟨cB, rfl, hrB⟩ := hh; obtain ⟨p7, c7, e7, rfl, _⟩ := hrB.open)
 refine aP 6 rfl (qA rfl) rfl ?_
 refine A3 7 ?_
 refine H6 rfl ?_
 refine aP 8 rfl (qA rfl) rfl ?_
 refine C4 (nS (tT (rB (rS ?_))))
 refine E6 (rT rfl) (rC rfl (A2 rfl rfl)) (rT rfl) ?_
 (have hk1 : k = 5 := (by omega); subst hk1; exact K0.nil hrB mW5)
 refine sQ (qA rfl) rfl (sD (nS (cF rfl (tS (tR ?_)))))
 refine sB (qE rfl rfl) rfl rfl (fun h178 => ?_) (fun h178 => ?_)
 refine D0 ?_
 (have hl2 : n = 2 := hop.1 (by omega); obtain ⟨b0, o0, q0, d0, hp0, hat0, hre0, hg0⟩ := hsl.kidD hkl (i := 0) (by omega) (by omega); cases hp0; refine sP (B4 (j := 0) rfl rfl rfl (by omega)) rfl rfl ?_)
 refine sL (A5 rfl rfl (hat0 _) rfl) rfl rfl ?_
 (refine F4 rfl (A7V 4 (h.getD 0 A7) G _ (.inl rfl) (A2B har (by omega)) hre0) rfl rfl (fun v G1 hle1 hh => ?_); obtain ⟨ma, mca, mb, mcb, rfl, hma, hmb, hma2, hmb2, hmm⟩ := hh; obtain ⟨p1, c1, e1, rfl, _⟩ := hma.open; obtain ⟨p2, c2, e2, rfl, _⟩ := hmb.open; replace hsl := hsl.mono hle1; replace hkl := hkl.mono hle1; generalize hmi : (R3 4 (h.getD 0 A7)).isSome = mi; cases mi)
 refine J5 ?_
 refine sE (A6 rfl) rfl (fun b193 => ?_)
 refine sE (A6 rfl) rfl (fun b194 => ?_)
 refine F9 ?_
 refine F9 ?_
 refine sQ (qA rfl) rfl (sD (nS (tS ?_)))
 (have hl2 : n = 2 := hop.1 (by omega); obtain ⟨b0, o0, q0, d0, hp0, hat0, hre0, hg0⟩ := hsl.kidD hkl (i := 0) (by omega) (by omega); obtain ⟨b1, o1, q1, d1, hp1, hat1, hre1, hg1⟩ := hsl.kidD hkl (i := 1) (by omega) (by omega); cases hp0; cases hp1; refine E4 E7 rfl ?_)
 refine P8 (i := 0) (l' := [tt,ff,ff,ff,ff,ff,ff,ff,ff,ff,ff,ff,ff,ff,ff,ff,ff]) rfl D6 (A2 rfl rfl) rfl (by kernel_rfl) rfl rfl ?_
 refine aL 1 rfl (A2 rfl rfl) rfl ?_
 refine aL 3 rfl (A2 rfl rfl) rfl ?_
 refine aL 5 rfl (A2 rfl rfl) rfl ?_
 refine aP 6 rfl (qM rfl) rfl ?_
 refine A3 2 ?_
 (refine K4 rfl rfl (A1H _ ma mb _ _ _ ⟨by omega, by omega⟩ hma hmb) rfl rfl rfl (fun v GB hleB hh => ?_); obtain ⟨cB, rfl, hrB⟩ := hh; obtain ⟨p7, c7, e7, rfl, _⟩ := hrB.open; have hma' := hma.mono hleB; have hmb' := hmb.mono hleB)
 refine aP 7 rfl (qM rfl) rfl ?_
 refine E5 8 rfl rfl rfl ?_
 refine E5 9 rfl rfl rfl ?_
 refine E5 10 rfl rfl rfl ?_
 refine E5 11 rfl rfl rfl ?_
 refine T6 (j := 4) (j' := 12) (by kernel_rfl) ?_ ?_
 (refine E1 rfl (C3 rfl rfl rfl (by omega) (by unfold maxLen; omega) rfl) rfl rfl ?_; rintro _ ⟨b215, rfl⟩)
 refine E5 12 rfl rfl rfl ?_
 refine aP 13 rfl (S5 rfl rfl) rfl ?_
 refine aP 14 rfl (qA rfl) rfl ?_
 refine A3 15 ?_
 refine H6 rfl ?_
 refine aP 16 rfl (qA rfl) rfl ?_
 refine C4 (nS ?_)
 (refine H8 Pk.here (fun G5 hle5 hsl5 hno5 => ?_))
 refine tT (rB (rS ?_))
 refine E6 (rT rfl) (rC rfl (A2 rfl rfl)) (rT rfl) ?_
 (have hk1 : k = 6 := (by omega); subst hk1; refine K0.two hsl5 (hrB.mono hle5) (hma'.mono hle5) (hmb'.mono hle5) ?_; rw [mW6]; cases hq : R3 4 (h.getD 0 A7) with | none => rfl | some q => (rw [hq] at hmi; cases hmi))
 refine A4Q (l' := [tt,tt,tt,tt,ff,tt,tt,tt,tt,tt,tt,tt,tt,ff,ff,ff,ff]) rfl rfl rfl rfl ?_
 refine aP 13 rfl (S5 rfl rfl) rfl ?_
 refine A3 4 ?_
 (refine E1 rfl (C3 rfl rfl rfl (by omega) (by unfold maxLen; omega) rfl) rfl rfl ?_; rintro _ ⟨b233, rfl⟩)
 refine aP 14 rfl (qA rfl) rfl ?_
 refine A3 15 ?_
 refine H6 rfl ?_
 refine aP 16 rfl (qA rfl) rfl ?_
 refine C4 (nS ?_)
 (refine H8 Pk.here (fun G5 hle5 hsl5 hno5 => ?_))
 refine tT (rB (rS ?_))
 refine E6 (rT rfl) (rC rfl (A2 rfl rfl)) (rT rfl) ?_
 (have hk1 : k = 6 := (by omega); subst hk1; refine K0.two hsl5 (hrB.mono hle5) (hma'.mono hle5) (hmb'.mono hle5) ?_; rw [mW6]; cases hq : R3 4 (h.getD 0 A7) with | none => rfl | some q => (rw [hq] at hmi; cases hmi))
 refine J5 ?_
 refine sE (A6 rfl) rfl (fun b250 => ?_)
 refine sE (A6 rfl) rfl (fun b251 => ?_)
 refine F9 ?_
 refine F9 ?_
 refine sQ (qA rfl) rfl (sD (nS (tS ?_)))
 (have hl2 : n = 2 := hop.1 (by omega); obtain ⟨b0, o0, q0, d0, hp0, hat0, hre0, hg0⟩ := hsl.kidD hkl (i := 0) (by omega) (by omega); obtain ⟨b1, o1, q1, d1, hp1, hat1, hre1, hg1⟩ := hsl.kidD hkl (i := 1) (by omega) (by omega); cases hp0; cases hp1; refine E4 E7 rfl ?_)
 refine P8 (i := 0) (l' := [tt,ff,ff,ff,ff,ff,ff,ff,ff,ff,ff,ff,ff,ff,ff,ff,ff]) rfl D6 (A2 rfl rfl) rfl (by kernel_rfl) rfl rfl ?_
 refine aL 1 rfl (A2 rfl rfl) rfl ?_
 refine aL 3 rfl (A2 rfl rfl) rfl ?_
 refine aL 5 rfl (A2 rfl rfl) rfl ?_
 refine aP 6 rfl (qM rfl) rfl ?_
 refine A3 2 ?_
 (refine K4 rfl rfl (A1H _ ma mb _ _ _ ⟨by omega, by omega⟩ hma hmb) rfl rfl rfl (fun v GB hleB hh => ?_); obtain ⟨cB, rfl, hrB⟩ := hh; obtain ⟨p7, c7, e7, rfl, _⟩ := hrB.open; have hma' := hma.mono hleB; have hmb' := hmb.mono hleB)
 refine aP 7 rfl (qM rfl) rfl ?_
 refine aP 8 rfl (qM rfl) rfl ?_
 refine aP 9 rfl (B4 (j := 1) rfl rfl rfl (by omega)) rfl ?_
 refine aL 10 rfl (A5 rfl rfl (At.mono' hleB (hat1 _)) rfl) rfl ?_
 refine aL 11 rfl (A2 rfl rfl) rfl ?_
 refine T6 (j := 4) (j' := 12) (by kernel_rfl) ?_ ?_
 (refine E1 rfl (C3 rfl rfl rfl (by omega) (by unfold maxLen; omega) rfl) rfl rfl ?_; rintro _ ⟨b272, rfl⟩)
 refine A3 12 ?_
 refine U9 rfl rfl ((Y7 _ _ _ _ _ (hre1.mono hleB) hma')) rfl rfl rfl (fun h274 => ?_) (fun h274 => ?_)
 refine aP 13 rfl (O2 rfl rfl) rfl ?_
 refine aP 14 rfl (qA rfl) rfl ?_
 refine A3 15 ?_
 refine H6 rfl ?_
 refine aP 16 rfl (qA rfl) rfl ?_
 refine C4 (nS ?_)
 (refine H8 Pk.here (fun G5 hle5 hsl5 hno5 => ?_))
 refine tT (rB (rS ?_))
 refine E6 (rT rfl) (rC rfl (A2 rfl rfl)) (rT rfl) ?_
 (have hk1 : k = 6 := (by omega); subst hk1; refine K0.two hsl5 (hrB.mono hle5) (hma'.mono hle5) (hmb'.mono hle5) ?_; rw [mW6]; cases hq : R3 4 (h.getD 0 A7) with | none => (rw [hq] at hmi; cases hmi) | some q => (have hq2 := hmm q hq; subst hq2; dsimp only; split <;> first | rfl | (exfalso; simp_all; done)))
 refine aP 13 rfl (O2 rfl rfl) rfl ?_
 refine aP 14 rfl (qA rfl) rfl ?_
 refine A3 15 ?_
 refine H6 rfl ?_
 refine aP 16 rfl (qA rfl) rfl ?_
 refine C4 (nS ?_)
 (refine H8 Pk.here (fun G5 hle5 hsl5 hno5 => ?_))
 refine tT (rB (rS ?_))
 refine E6 (rT rfl) (rC rfl (A2 rfl rfl)) (rT rfl) ?_
 (have hk1 : k = 6 := (by omega); subst hk1; refine K0.two hsl5 (hrB.mono hle5) (hma'.mono hle5) (hmb'.mono hle5) ?_; rw [mW6]; cases hq : R3 4 (h.getD 0 A7) with | none => (rw [hq] at hmi; cases hmi) | some q => (have hq2 := hmm q hq; subst hq2; dsimp only; split <;> first | rfl | (exfalso; simp_all; done)))
 refine U9 rfl rfl ((Y7 _ _ _ _ _ (hre1.mono hleB) hma')) rfl rfl rfl (fun h301 => ?_) (fun h301 => ?_)
 refine aP 13 rfl (O2 rfl rfl) rfl ?_
 refine A3 4 ?_
 (refine E1 rfl (C3 rfl rfl rfl (by omega) (by unfold maxLen; omega) rfl) rfl rfl ?_; rintro _ ⟨b304, rfl⟩)
 refine aP 14 rfl (qA rfl) rfl ?_
 refine A3 15 ?_
 refine H6 rfl ?_
 refine aP 16 rfl (qA rfl) rfl ?_
 refine C4 (nS ?_)
 (refine H8 Pk.here (fun G5 hle5 hsl5 hno5 => ?_))
 refine tT (rB (rS ?_))
 refine E6 (rT rfl) (rC rfl (A2 rfl rfl)) (rT rfl) ?_
 (have hk1 : k = 6 := (by omega); subst hk1; refine K0.two hsl5 (hrB.mono hle5) (hma'.mono hle5) (hmb'.mono hle5) ?_; rw [mW6]; cases hq : R3 4 (h.getD 0 A7) with | none => (rw [hq] at hmi; cases hmi) | some q => (have hq2 := hmm q hq; subst hq2; dsimp only; split <;> first | rfl | (exfalso; simp_all; done)))
 refine aP 13 rfl (O2 rfl rfl) rfl ?_
 refine A3 4 ?_
 (refine E1 rfl (C3 rfl rfl rfl (by omega) (by unfold maxLen; omega) rfl) rfl rfl ?_; rintro _ ⟨b319, rfl⟩)
 refine aP 14 rfl (qA rfl) rfl ?_
 refine A3 15 ?_
 refine H6 rfl ?_
 refine aP 16 rfl (qA rfl) rfl ?_
 refine C4 (nS ?_)
 (refine H8 Pk.here (fun G5 hle5 hsl5 hno5 => ?_))
 refine tT (rB (rS ?_))
 refine E6 (rT rfl) (rC rfl (A2 rfl rfl)) (rT rfl) ?_
 (have hk1 : k = 6 := (by omega); subst hk1; refine K0.two hsl5 (hrB.mono hle5) (hma'.mono hle5) (hmb'.mono hle5) ?_; rw [mW6]; cases hq : R3 4 (h.getD 0 A7) with | none => (rw [hq] at hmi; cases hmi) | some q => (have hq2 := hmm q hq; subst hq2; dsimp only; split <;> first | rfl | (exfalso; simp_all; done)))
 refine sQ (qA rfl) rfl (sD (nS (cF rfl (tS (tS (tR ?_))))))
 refine sB (qE rfl rfl) rfl rfl (fun h339 => ?_) (fun h339 => ?_)
 refine L6 ?_
 refine sE (A6 rfl) rfl (fun b350 => ?_)
 refine D7 ?_
 refine sP (I3 rfl rfl (by omega)) rfl rfl ?_
 refine sD (nS (cF rfl (tK (nS (tS ?_)))))
 (have hl2 : n = 2 := hop.1 (by omega); obtain ⟨b0, o0, q0, d0, hp0, hat0, hre0, hg0⟩ := hsl.kidD hkl (i := 0) (by omega) (by omega); obtain ⟨b1, o1, q1, d1, hp1, hat1, hre1, hg1⟩ := hsl.kidD hkl (i := 1) (by omega) (by omega); cases hp0; cases hp1; refine E4 E7 rfl ?_)
 refine P8 (i := 0) (l' := [tt,ff,ff,ff,ff,ff,ff,ff,ff,ff,ff,ff,ff,ff,ff,ff,ff,ff,ff]) rfl D6 (A2 rfl rfl) rfl (by kernel_rfl) rfl rfl ?_
 refine aL 1 rfl (A2 rfl rfl) rfl ?_
 refine aL 3 rfl (A2 rfl rfl) rfl ?_
 refine aP 4 rfl (qM rfl) rfl ?_
 refine aP 5 rfl (B4 (j := 0) rfl rfl rfl (by omega)) rfl ?_
 refine aL 6 rfl (A5 rfl rfl (hat0 _) rfl) rfl ?_
 refine aL 7 rfl (A2 rfl rfl) rfl ?_
 refine T6 (j := 2) (j' := 8) (by kernel_rfl) ?_ ?_
 (refine E1 rfl (C3 rfl rfl rfl (by omega) (by unfold maxLen; omega) rfl) rfl rfl ?_; rintro _ ⟨b375, rfl⟩)
 refine A3 8 ?_
 refine U9 rfl rfl ((Y7 _ _ _ _ _ hre0 (J8 _))) rfl rfl rfl (fun h377 => ?_) (fun h377 => ?_)
 refine aP 9 rfl (qM rfl) rfl ?_
 refine aP 10 rfl (qM rfl) rfl ?_
 refine aP 11 rfl (B4 (j := 1) rfl rfl rfl (by omega)) rfl ?_
 refine aL 12 rfl (A5 rfl rfl (hat1 _) rfl) rfl ?_
 refine aL 13 rfl (A2 rfl rfl) rfl ?_
 refine A3 14 ?_
 refine U9 rfl rfl ((Y7 _ _ _ _ _ hre1 (J8 _))) rfl rfl rfl (fun h384 => ?_) (fun h384 => ?_)
 refine aP 15 rfl (O2 rfl rfl) rfl ?_
 refine aP 16 rfl (qA rfl) rfl ?_
 refine A3 17 ?_
 refine H6 rfl ?_
 refine aP 18 rfl (qA rfl) rfl ?_
 refine C4 (nS ?_)
 (refine H8 Pk.here (fun G5 hle5 hsl5 hno5 => ?_))
 refine tT (rB (rS ?_))
 refine E6 (rT rfl) (rC rfl (A2 rfl rfl)) (rT rfl) ?_
 (refine K0.two hsl5 (J8 _) (J8 _) (J8 _) ?_; rw [V3 (by omega)]; first | (rw [if_pos ⟨by assumption, by assumption⟩, if_neg (by omega)]; rfl) | (rw [if_neg (fun hc => by first | exact Bool.noConfusion (hc.1.symm.trans (by assumption)) | exact Bool.noConfusion (hc.2.symm.trans (by assumption)) | exact Bool.noConfusion (hc.symm.trans (by assumption)))]; rfl))
 refine aP 15 rfl (O2 rfl rfl) rfl ?_
 refine aP 16 rfl (qA rfl) rfl ?_
 refine A3 17 ?_
 refine H6 rfl ?_
 refine aP 18 rfl (qA rfl) rfl ?_
 refine C4 (nS ?_)
 (refine H8 Pk.here (fun G5 hle5 hsl5 hno5 => ?_))
 refine tT (rB (rS ?_))
 refine E6 (rT rfl) (rC rfl (A2 rfl rfl)) (rT rfl) ?_
 (refine K0.two hsl5 (J8 _) (J8 _) (J8 _) ?_; rw [V3 (by omega)]; first | (rw [if_pos ⟨by assumption, by assumption⟩, if_neg (by omega)]; rfl) | (rw [if_neg (fun hc => by first | exact Bool.noConfusion (hc.1.symm.trans (by assumption)) | exact Bool.noConfusion (hc.2.symm.trans (by assumption)) | exact Bool.noConfusion (hc.symm.trans (by assumption)))]; rfl))
 refine aP 9 rfl (qM rfl) rfl ?_
 refine E5 10 rfl rfl rfl ?_
 refine E5 11 rfl rfl rfl ?_
 refine E5 12 rfl rfl rfl ?_
 refine E5 13 rfl rfl rfl ?_
 refine E5 14 rfl rfl rfl ?_
 refine aP 15 rfl (S5 rfl rfl) rfl ?_
 refine aP 16 rfl (qA rfl) rfl ?_
 refine A3 17 ?_
 refine H6 rfl ?_
 refine aP 18 rfl (qA rfl) rfl ?_
 refine C4 (nS ?_)
 (refine H8 Pk.here (fun G5 hle5 hsl5 hno5 => ?_))
 refine tT (rB (rS ?_))
 refine E6 (rT rfl) (rC rfl (A2 rfl rfl)) (rT rfl) ?_
 (refine K0.two hsl5 (J8 _) (J8 _) (J8 _) ?_; rw [V3 (by omega)]; first | (rw [if_pos ⟨by assumption, by assumption⟩, if_neg (by omega)]; rfl) | (rw [if_neg (fun hc => by first | exact Bool.noConfusion (hc.1.symm.trans (by assumption)) | exact Bool.noConfusion (hc.2.symm.trans (by assumption)) | exact Bool.noConfusion (hc.symm.trans (by assumption)))]; rfl))
 refine U9 rfl rfl ((Y7 _ _ _ _ _ hre0 (J8 _))) rfl rfl rfl (fun h430 => ?_) (fun h430 => ?_)
 refine aP 9 rfl (qM rfl) rfl ?_
 refine aP 10 rfl (qM rfl) rfl ?_
 refine aP 11 rfl (B4 (j := 1) rfl rfl rfl (by omega)) rfl ?_
 refine aL 12 rfl (A5 rfl rfl (hat1 _) rfl) rfl ?_
 refine aL 13 rfl (A2 rfl rfl) rfl ?_
 refine T6 (j := 2) (j' := 14) (by kernel_rfl) ?_ ?_
 (refine E1 rfl (C3 rfl rfl rfl (by omega) (by unfold maxLen; omega) rfl) rfl rfl ?_; rintro _ ⟨b437, rfl⟩)
 refine A3 14 ?_
 refine U9 rfl rfl ((Y7 _ _ _ _ _ hre1 (J8 _))) rfl rfl rfl (fun h439 => ?_) (fun h439 => ?_)
 refine aP 15 rfl (O2 rfl rfl) rfl ?_
 refine aP 16 rfl (qA rfl) rfl ?_
 refine A3 17 ?_
 refine H6 rfl ?_
 refine aP 18 rfl (qA rfl) rfl ?_
 refine C4 (nS ?_)
 (refine H8 Pk.here (fun G5 hle5 hsl5 hno5 => ?_))
 refine tT (rB (rS ?_))
 refine E6 (rT rfl) (rC rfl (A2 rfl rfl)) (rT rfl) ?_
 (refine K0.two hsl5 (J8 _) (J8 _) (J8 _) ?_; rw [V3 (by omega)]; first | (rw [if_pos ⟨by assumption, by assumption⟩, if_neg (by omega)]; rfl) | (rw [if_neg (fun hc => by first | exact Bool.noConfusion (hc.1.symm.trans (by assumption)) | exact Bool.noConfusion (hc.2.symm.trans (by assumption)) | exact Bool.noConfusion (hc.symm.trans (by assumption)))]; rfl))
 refine aP 15 rfl (O2 rfl rfl) rfl ?_
 refine aP 16 rfl (qA rfl) rfl ?_
 refine A3 17 ?_
 refine H6 rfl ?_
 refine aP 18 rfl (qA rfl) rfl ?_
 refine C4 (nS ?_)
 (refine H8 Pk.here (fun G5 hle5 hsl5 hno5 => ?_))
 refine tT (rB (rS ?_))
 refine E6 (rT rfl) (rC rfl (A2 rfl rfl)) (rT rfl) ?_
 (refine K0.two hsl5 (J8 _) (J8 _) (J8 _) ?_; rw [V3 (by omega)]; first | (rw [if_pos ⟨by assumption, by assumption⟩, if_neg (by omega)]; rfl) | (rw [if_neg (fun hc => by first | exact Bool.noConfusion (hc.1.symm.trans (by assumption)) | exact Bool.noConfusion (hc.2.symm.trans (by assumption)) | exact Bool.noConfusion (hc.symm.trans (by assumption)))]; rfl))
 refine U9 rfl rfl ((Y7 _ _ _ _ _ hre1 (J8 _))) rfl rfl rfl (fun h466 => ?_) (fun h466 => ?_)
 refine aP 15 rfl (O2 rfl rfl) rfl ?_
 refine A3 2 ?_
 (refine E1 rfl (C3 rfl rfl rfl (by omega) (by unfold maxLen; omega) rfl) rfl rfl ?_; rintro _ ⟨b469, rfl⟩)
 refine aP 16 rfl (qA rfl) rfl ?_
 refine A3 17 ?_
 refine H6 rfl ?_
 refine aP 18 rfl (qA rfl) rfl ?_
 refine C4 (nS ?_)
 (refine H8 Pk.here (fun G5 hle5 hsl5 hno5 => ?_))
 refine tT (rB (rS ?_))
 refine E6 (rT rfl) (rC rfl (A2 rfl rfl)) (rT rfl) ?_
 (refine K0.two hsl5 (J8 _) (J8 _) (J8 _) ?_; rw [V3 (by omega)]; first | (rw [if_pos ⟨by assumption, by assumption⟩, if_neg (by omega)]; rfl) | (rw [if_neg (fun hc => by first | exact Bool.noConfusion (hc.1.symm.trans (by assumption)) | exact Bool.noConfusion (hc.2.symm.trans (by assumption)) | exact Bool.noConfusion (hc.symm.trans (by assumption)))]; rfl))
 refine aP 15 rfl (O2 rfl rfl) rfl ?_
 refine A3 2 ?_
 (refine E1 rfl (C3 rfl rfl rfl (by omega) (by unfold maxLen; omega) rfl) rfl rfl ?_; rintro _ ⟨b484, rfl⟩)
 refine aP 16 rfl (qA rfl) rfl ?_
 refine A3 17 ?_
 refine H6 rfl ?_
 refine aP 18 rfl (qA rfl) rfl ?_
 refine C4 (nS ?_)
 (refine H8 Pk.here (fun G5 hle5 hsl5 hno5 => ?_))
 refine tT (rB (rS ?_))
 refine E6 (rT rfl) (rC rfl (A2 rfl rfl)) (rT rfl) ?_
 (refine K0.two hsl5 (J8 _) (J8 _) (J8 _) ?_; rw [V3 (by omega)]; first | (rw [if_pos ⟨by assumption, by assumption⟩, if_neg (by omega)]; rfl) | (rw [if_neg (fun hc => by first | exact Bool.noConfusion (hc.1.symm.trans (by assumption)) | exact Bool.noConfusion (hc.2.symm.trans (by assumption)) | exact Bool.noConfusion (hc.symm.trans (by assumption)))]; rfl))
 refine aP 9 rfl (qM rfl) rfl ?_
 refine E5 10 rfl rfl rfl ?_
 refine E5 11 rfl rfl rfl ?_
 refine E5 12 rfl rfl rfl ?_
 refine E5 13 rfl rfl rfl ?_
 refine T6 (j := 2) (j' := 14) (by kernel_rfl) ?_ ?_
 (refine E1 rfl (C3 rfl rfl rfl (by omega) (by unfold maxLen; omega) rfl) rfl rfl ?_; rintro _ ⟨b503, rfl⟩)
 refine E5 14 rfl rfl rfl ?_
 refine aP 15 rfl (S5 rfl rfl) rfl ?_
 refine aP 16 rfl (qA rfl) rfl ?_
 refine A3 17 ?_
 refine H6 rfl ?_
 refine aP 18 rfl (qA rfl) rfl ?_
 refine C4 (nS ?_)
 (refine H8 Pk.here (fun G5 hle5 hsl5 hno5 => ?_))
 refine tT (rB (rS ?_))
 refine E6 (rT rfl) (rC rfl (A2 rfl rfl)) (rT rfl) ?_
 (refine K0.two hsl5 (J8 _) (J8 _) (J8 _) ?_; rw [V3 (by omega)]; first | (rw [if_pos ⟨by assumption, by assumption⟩, if_neg (by omega)]; rfl) | (rw [if_neg (fun hc => by first | exact Bool.noConfusion (hc.1.symm.trans (by assumption)) | exact Bool.noConfusion (hc.2.symm.trans (by assumption)) | exact Bool.noConfusion (hc.symm.trans (by assumption)))]; rfl))
 refine A4Q (l' := [tt,tt,ff,tt,tt,tt,tt,tt,tt,tt,tt,tt,tt,tt,tt,ff,ff,ff,ff]) rfl rfl rfl rfl ?_
 refine aP 15 rfl (S5 rfl rfl) rfl ?_
 refine A3 2 ?_
 (refine E1 rfl (C3 rfl rfl rfl (by omega) (by unfold maxLen; omega) rfl) rfl rfl ?_; rintro _ ⟨b521, rfl⟩)
 refine aP 16 rfl (qA rfl) rfl ?_
 refine A3 17 ?_
 refine H6 rfl ?_
 refine aP 18 rfl (qA rfl) rfl ?_
 refine C4 (nS ?_)
 (refine H8 Pk.here (fun G5 hle5 hsl5 hno5 => ?_))
 refine tT (rB (rS ?_))
 refine E6 (rT rfl) (rC rfl (A2 rfl rfl)) (rT rfl) ?_
 (refine K0.two hsl5 (J8 _) (J8 _) (J8 _) ?_; rw [V3 (by omega)]; first | (rw [if_pos ⟨by assumption, by assumption⟩, if_neg (by omega)]; rfl) | (rw [if_neg (fun hc => by first | exact Bool.noConfusion (hc.1.symm.trans (by assumption)) | exact Bool.noConfusion (hc.2.symm.trans (by assumption)) | exact Bool.noConfusion (hc.symm.trans (by assumption)))]; rfl))
 refine sQ (qA rfl) rfl (sD (nS (cF rfl (tR ?_))))
 refine sB (qE rfl rfl) rfl rfl (fun h539 => ?_) (fun h539 => ?_)
 refine D0 ?_
 refine sE (A6 rfl) rfl (fun b547 => ?_)
 refine D7 ?_
 refine sP (V6 rfl rfl (by omega)) rfl rfl ?_
 refine D2 ?_
 (have hl2 : n = 2 := hop.1 (by omega); obtain ⟨b0, o0, q0, d0, hp0, hat0, hre0, hg0⟩ := hsl.kidD hkl (i := 0) (by omega) (by omega); obtain ⟨b1, o1, q1, d1, hp1, hat1, hre1, hg1⟩ := hsl.kidD hkl (i := 1) (by omega) (by omega); cases hp0; cases hp1; refine E4 E7 rfl ?_)
 refine P8 (i := 0) (l' := [tt,ff,ff,ff,ff,ff,ff,ff,ff,ff,ff,ff,ff,ff,ff,ff,ff,ff,ff]) rfl D6 (A2 rfl rfl) rfl (by kernel_rfl) rfl rfl ?_
 refine aL 1 rfl (A2 rfl rfl) rfl ?_
 refine aL 3 rfl (A2 rfl rfl) rfl ?_
 refine aP 4 rfl (qM rfl) rfl ?_
 refine aP 5 rfl (B4 (j := 0) rfl rfl rfl (by omega)) rfl ?_
 refine aL 6 rfl (A5 rfl rfl (hat0 _) rfl) rfl ?_
 refine aL 7 rfl (A2 rfl rfl) rfl ?_
 refine T6 (j := 2) (j' := 8) (by kernel_rfl) ?_ ?_
 (refine E1 rfl (C3 rfl rfl rfl (by omega) (by unfold maxLen; omega) rfl) rfl rfl ?_; rintro _ ⟨b575, rfl⟩)
 refine A3 8 ?_
 refine U9 rfl rfl ((Y7 _ _ _ _ _ hre0 (J8 _))) rfl rfl rfl (fun h577 => ?_) (fun h577 => ?_)
 refine aP 9 rfl (qM rfl) rfl ?_
 refine aP 10 rfl (qM rfl) rfl ?_
 refine aP 11 rfl (B4 (j := 1) rfl rfl rfl (by omega)) rfl ?_
 refine aL 12 rfl (A5 rfl rfl (hat1 _) rfl) rfl ?_
 refine aL 13 rfl (A2 rfl rfl) rfl ?_
 refine A3 14 ?_
 refine U9 rfl rfl ((Y7 _ _ _ _ _ hre1 (J8 _))) rfl rfl rfl (fun h584 => ?_) (fun h584 => ?_)
 refine aP 15 rfl (O2 rfl rfl) rfl ?_
 refine aP 16 rfl (qA rfl) rfl ?_
 refine A3 17 ?_
 refine H6 rfl ?_
 refine aP 18 rfl (qA rfl) rfl ?_
 refine C4 (nS ?_)
 (refine H8 Pk.here (fun G5 hle5 hsl5 hno5 => ?_))
 refine tT (rB (rS ?_))
 refine E6 (rT rfl) (rC rfl (A2 rfl rfl)) (rT rfl) ?_
 (refine K0.two hsl5 (J8 _) (J8 _) (Z4 _) ?_; rw [V3 (by omega)]; first | (rw [if_pos ⟨by assumption, by assumption⟩, if_pos (by omega)]; rfl) | (rw [if_neg (fun hc => by first | exact Bool.noConfusion (hc.1.symm.trans (by assumption)) | exact Bool.noConfusion (hc.2.symm.trans (by assumption)) | exact Bool.noConfusion (hc.symm.trans (by assumption)))]; rfl))
 refine aP 15 rfl (O2 rfl rfl) rfl ?_
 refine aP 16 rfl (qA rfl) rfl ?_
 refine A3 17 ?_
 refine H6 rfl ?_
 refine aP 18 rfl (qA rfl) rfl ?_
 refine C4 (nS ?_)
 (refine H8 Pk.here (fun G5 hle5 hsl5 hno5 => ?_))
 refine tT (rB (rS ?_))
 refine E6 (rT rfl) (rC rfl (A2 rfl rfl)) (rT rfl) ?_
 (refine K0.two hsl5 (J8 _) (J8 _) (Z4 _) ?_; rw [V3 (by omega)]; first | (rw [if_pos ⟨by assumption, by assumption⟩, if_pos (by omega)]; rfl) | (rw [if_neg (fun hc => by first | exact Bool.noConfusion (hc.1.symm.trans (by assumption)) | exact Bool.noConfusion (hc.2.symm.trans (by assumption)) | exact Bool.noConfusion (hc.symm.trans (by assumption)))]; rfl))
 refine aP 9 rfl (qM rfl) rfl ?_
 refine E5 10 rfl rfl rfl ?_
 refine E5 11 rfl rfl rfl ?_
 refine E5 12 rfl rfl rfl ?_
 refine E5 13 rfl rfl rfl ?_
 refine E5 14 rfl rfl rfl ?_
 refine aP 15 rfl (S5 rfl rfl) rfl ?_
 refine aP 16 rfl (qA rfl) rfl ?_
 refine A3 17 ?_
 refine H6 rfl ?_
 refine aP 18 rfl (qA rfl) rfl ?_
 refine C4 (nS ?_)
 (refine H8 Pk.here (fun G5 hle5 hsl5 hno5 => ?_))
 refine tT (rB (rS ?_))
 refine E6 (rT rfl) (rC rfl (A2 rfl rfl)) (rT rfl) ?_
 (refine K0.two hsl5 (J8 _) (J8 _) (Z4 _) ?_; rw [V3 (by omega)]; first | (rw [if_pos ⟨by assumption, by assumption⟩, if_pos (by omega)]; rfl) | (rw [if_neg (fun hc => by first | exact Bool.noConfusion (hc.1.symm.trans (by assumption)) | exact Bool.noConfusion (hc.2.symm.trans (by assumption)) | exact Bool.noConfusion (hc.symm.trans (by assumption)))]; rfl))
 refine U9 rfl rfl ((Y7 _ _ _ _ _ hre0 (J8 _))) rfl rfl rfl (fun h630 => ?_) (fun h630 => ?_)
 refine aP 9 rfl (qM rfl) rfl ?_
 refine aP 10 rfl (qM rfl) rfl ?_
 refine aP 11 rfl (B4 (j := 1) rfl rfl rfl (by omega)) rfl ?_
 refine aL 12 rfl (A5 rfl rfl (hat1 _) rfl) rfl ?_
 refine aL 13 rfl (A2 rfl rfl) rfl ?_
 refine T6 (j := 2) (j' := 14) (by kernel_rfl) ?_ ?_
 (refine E1 rfl (C3 rfl rfl rfl (by omega) (by unfold maxLen; omega) rfl) rfl rfl ?_; rintro _ ⟨b637, rfl⟩)
 refine A3 14 ?_
 refine U9 rfl rfl ((Y7 _ _ _ _ _ hre1 (J8 _))) rfl rfl rfl (fun h639 => ?_) (fun h639 => ?_)
 refine aP 15 rfl (O2 rfl rfl) rfl ?_
 refine aP 16 rfl (qA rfl) rfl ?_
 refine A3 17 ?_
 refine H6 rfl ?_
 refine aP 18 rfl (qA rfl) rfl ?_
 refine C4 (nS ?_)
 (refine H8 Pk.here (fun G5 hle5 hsl5 hno5 => ?_))
 refine tT (rB (rS ?_))
 refine E6 (rT rfl) (rC rfl (A2 rfl rfl)) (rT rfl) ?_
 (refine K0.two hsl5 (J8 _) (J8 _) (Z4 _) ?_; rw [V3 (by omega)]; first | (rw [if_pos ⟨by assumption, by assumption⟩, if_pos (by omega)]; rfl) | (rw [if_neg (fun hc => by first | exact Bool.noConfusion (hc.1.symm.trans (by assumption)) | exact Bool.noConfusion (hc.2.symm.trans (by assumption)) | exact Bool.noConfusion (hc.symm.trans (by assumption)))]; rfl))
 refine aP 15 rfl (O2 rfl rfl) rfl ?_
 refine aP 16 rfl (qA rfl) rfl ?_
 refine A3 17 ?_
 refine H6 rfl ?_
 refine aP 18 rfl (qA rfl) rfl ?_
 refine C4 (nS ?_)
 (refine H8 Pk.here (fun G5 hle5 hsl5 hno5 => ?_))
 refine tT (rB (rS ?_))
 refine E6 (rT rfl) (rC rfl (A2 rfl rfl)) (rT rfl) ?_
 (refine K0.two hsl5 (J8 _) (J8 _) (Z4 _) ?_; rw [V3 (by omega)]; first | (rw [if_pos ⟨by assumption, by assumption⟩, if_pos (by omega)]; rfl) | (rw [if_neg (fun hc => by first | exact Bool.noConfusion (hc.1.symm.trans (by assumption)) | exact Bool.noConfusion (hc.2.symm.trans (by assumption)) | exact Bool.noConfusion (hc.symm.trans (by assumption)))]; rfl))
 refine U9 rfl rfl ((Y7 _ _ _ _ _ hre1 (J8 _))) rfl rfl rfl (fun h666 => ?_) (fun h666 => ?_)
 refine aP 15 rfl (O2 rfl rfl) rfl ?_
 refine A3 2 ?_
 (refine E1 rfl (C3 rfl rfl rfl (by omega) (by unfold maxLen; omega) rfl) rfl rfl ?_; rintro _ ⟨b669, rfl⟩)
 refine aP 16 rfl (qA rfl) rfl ?_
 refine A3 17 ?_
 refine H6 rfl ?_
 refine aP 18 rfl (qA rfl) rfl ?_
 refine C4 (nS ?_)
 (refine H8 Pk.here (fun G5 hle5 hsl5 hno5 => ?_))
 refine tT (rB (rS ?_))
 refine E6 (rT rfl) (rC rfl (A2 rfl rfl)) (rT rfl) ?_
 (refine K0.two hsl5 (J8 _) (J8 _) (Z4 _) ?_; rw [V3 (by omega)]; first | (rw [if_pos ⟨by assumption, by assumption⟩, if_pos (by omega)]; rfl) | (rw [if_neg (fun hc => by first | exact Bool.noConfusion (hc.1.symm.trans (by assumption)) | exact Bool.noConfusion (hc.2.symm.trans (by assumption)) | exact Bool.noConfusion (hc.symm.trans (by assumption)))]; rfl))
 refine aP 15 rfl (O2 rfl rfl) rfl ?_
 refine A3 2 ?_
 (refine E1 rfl (C3 rfl rfl rfl (by omega) (by unfold maxLen; omega) rfl) rfl rfl ?_; rintro _ ⟨b684, rfl⟩)
 refine aP 16 rfl (qA rfl) rfl ?_
 refine A3 17 ?_
 refine H6 rfl ?_
 refine aP 18 rfl (qA rfl) rfl ?_
 refine C4 (nS ?_)
 (refine H8 Pk.here (fun G5 hle5 hsl5 hno5 => ?_))
 refine tT (rB (rS ?_))
 refine E6 (rT rfl) (rC rfl (A2 rfl rfl)) (rT rfl) ?_
 (refine K0.two hsl5 (J8 _) (J8 _) (Z4 _) ?_; rw [V3 (by omega)]; first | (rw [if_pos ⟨by assumption, by assumption⟩, if_pos (by omega)]; rfl) | (rw [if_neg (fun hc => by first | exact Bool.noConfusion (hc.1.symm.trans (by assumption)) | exact Bool.noConfusion (hc.2.symm.trans (by assumption)) | exact Bool.noConfusion (hc.symm.trans (by assumption)))]; rfl))
 refine aP 9 rfl (qM rfl) rfl ?_
 refine E5 10 rfl rfl rfl ?_
 refine E5 11 rfl rfl rfl ?_
 refine E5 12 rfl rfl rfl ?_
 refine E5 13 rfl rfl rfl ?_
 refine T6 (j := 2) (j' := 14) (by kernel_rfl) ?_ ?_
 (refine E1 rfl (C3 rfl rfl rfl (by omega) (by unfold maxLen; omega) rfl) rfl rfl ?_; rintro _ ⟨b703, rfl⟩)
 refine E5 14 rfl rfl rfl ?_
 refine aP 15 rfl (S5 rfl rfl) rfl ?_
 refine aP 16 rfl (qA rfl) rfl ?_
 refine A3 17 ?_
 refine H6 rfl ?_
 refine aP 18 rfl (qA rfl) rfl ?_
 refine C4 (nS ?_)
 (refine H8 Pk.here (fun G5 hle5 hsl5 hno5 => ?_))
 refine tT (rB (rS ?_))
 refine E6 (rT rfl) (rC rfl (A2 rfl rfl)) (rT rfl) ?_
 (refine K0.two hsl5 (J8 _) (J8 _) (Z4 _) ?_; rw [V3 (by omega)]; first | (rw [if_pos ⟨by assumption, by assumption⟩, if_pos (by omega)]; rfl) | (rw [if_neg (fun hc => by first | exact Bool.noConfusion (hc.1.symm.trans (by assumption)) | exact Bool.noConfusion (hc.2.symm.trans (by assumption)) | exact Bool.noConfusion (hc.symm.trans (by assumption)))]; rfl))
 refine A4Q (l' := [tt,tt,ff,tt,tt,tt,tt,tt,tt,tt,tt,tt,tt,tt,tt,ff,ff,ff,ff]) rfl rfl rfl rfl ?_
 refine aP 15 rfl (S5 rfl rfl) rfl ?_
 refine A3 2 ?_
 (refine E1 rfl (C3 rfl rfl rfl (by omega) (by unfold maxLen; omega) rfl) rfl rfl ?_; rintro _ ⟨b721, rfl⟩)
 refine aP 16 rfl (qA rfl) rfl ?_
 refine A3 17 ?_
 refine H6 rfl ?_
 refine aP 18 rfl (qA rfl) rfl ?_
 refine C4 (nS ?_)
 (refine H8 Pk.here (fun G5 hle5 hsl5 hno5 => ?_))
 refine tT (rB (rS ?_))
 refine E6 (rT rfl) (rC rfl (A2 rfl rfl)) (rT rfl) ?_
 (refine K0.two hsl5 (J8 _) (J8 _) (Z4 _) ?_; rw [V3 (by omega)]; first | (rw [if_pos ⟨by assumption, by assumption⟩, if_pos (by omega)]; rfl) | (rw [if_neg (fun hc => by first | exact Bool.noConfusion (hc.1.symm.trans (by assumption)) | exact Bool.noConfusion (hc.2.symm.trans (by assumption)) | exact Bool.noConfusion (hc.symm.trans (by assumption)))]; rfl))
 refine sQ (qA rfl) rfl (sD (nS (cF rfl (tS (tR ?_)))))
 refine sB (qE rfl rfl) rfl rfl (fun h740 => ?_) (fun h740 => ?_)
 refine sQ (qA rfl) rfl (sD (nS (qT rfl (tS (tS ?_)))))
 (have hl3 : n = 3 := hop.2.1 (by omega); obtain ⟨b0, o0, q0, d0, hp0, hat0, hre0, hg0⟩ := hsl.kidD hkl (i := 0) (by omega) (by omega); obtain ⟨b1, o1, q1, d1, hp1, hat1, hre1, hg1⟩ := hsl.kidD hkl (i := 1) (by omega) (by omega); cases hp0; cases hp1; obtain ⟨b2, o2, q2, d2, hp2, hat2, hre2, hg2⟩ := hsl.kidD hkl (i := 2) (by omega) (by omega); cases hp2; refine E4 E7 rfl ?_)
 refine K2 (i := 0) (l' := [tt,ff,ff,ff,ff,ff,ff,ff,ff,ff,ff,ff,ff,ff,ff,ff]) rfl D6 (qM rfl) rfl (by kernel_rfl) rfl rfl ?_
 refine aP 1 rfl (B4 (j := 0) rfl rfl rfl (by omega)) rfl ?_
 refine aL 2 rfl (A5 rfl rfl (hat0 _) rfl) rfl ?_
 refine aL 3 rfl (A2 rfl rfl) rfl ?_
 refine A3 4 ?_
 refine U9 rfl rfl ((Y7 _ _ _ _ _ hre0 (Z4 _))) rfl rfl rfl (fun h753 => ?_) (fun h753 => ?_)
 refine aP 5 rfl (pNt rfl) rfl ?_
 refine aP 6 rfl (qM rfl) rfl ?_
 refine aP 7 rfl (qM rfl) rfl ?_
 refine aP 8 rfl (B4 (j := 1) rfl rfl rfl (by omega)) rfl ?_
 refine aL 9 rfl (A5 rfl rfl (hat1 _) rfl) rfl ?_
 refine aP 10 rfl (qM rfl) rfl ?_
 refine aP 11 rfl (B4 (j := 2) rfl rfl rfl (by omega)) rfl ?_
 refine aL 12 rfl (A5 rfl rfl (hat2 _) rfl) rfl ?_
 refine A3 13 ?_
 refine U9 rfl rfl ((Y7 _ _ _ _ _ hre1 hre2)) rfl rfl rfl (fun h763 => ?_) (fun h763 => ?_)
 refine aP 14 rfl (pNt rfl) rfl ?_
 refine aP 15 rfl (S5 rfl rfl) rfl ?_
 refine C4 (nS (cF rfl (tK (nS (tS ?_)))))
 (have hl3 : n = 3 := hop.2.1 (by omega); obtain ⟨b0, o0, q0, d0, hp0, hat0, hre0, hg0⟩ := hsl.kidD hkl (i := 0) (by omega) (by omega); obtain ⟨b1, o1, q1, d1, hp1, hat1, hre1, hg1⟩ := hsl.kidD hkl (i := 1) (by omega) (by omega); cases hp0; cases hp1; obtain ⟨b2, o2, q2, d2, hp2, hat2, hre2, hg2⟩ := hsl.kidD hkl (i := 2) (by omega) (by omega); cases hp2; refine E4 E7 rfl ?_)
 refine K2 (i := 0) (l' := [tt,ff,ff,ff,ff,ff,ff,ff,ff]) rfl D6 (qM rfl) rfl (by kernel_rfl) rfl rfl ?_
 refine aP 1 rfl (B4 (j := 1) rfl rfl rfl (by omega)) rfl ?_
 refine aL 2 rfl (A5 rfl rfl (hat1 _) rfl) rfl ?_
 refine aP 3 rfl (qM rfl) rfl ?_
 refine aP 4 rfl (B4 (j := 2) rfl rfl rfl (by omega)) rfl ?_
 refine aL 5 rfl (A5 rfl rfl (hat2 _) rfl) rfl ?_
 refine T6 (j := 6) (j' := 7) (by kernel_rfl) ?_ ?_
 (refine K4 rfl rfl (A7W _ _ _ _ _ (by assumption) (A2B har (by omega)) (A2B har (by omega)) hre1 hre2) rfl rfl rfl (fun v GM hleM hh => ?_); obtain ⟨cM, rfl, hrM⟩ := hh; obtain ⟨p7, c7, e7, rfl, _⟩ := hrM.open)
 refine A3 7 ?_
 (refine E1 rfl (A6 rfl) rfl rfl ?_; rintro _ ⟨b782, rfl⟩)
 refine A3 8 ?_
 refine H6 rfl ?_
 refine C4 (nS (tS ?_))
 (have hl3 : n = 3 := hop.2.1 (by omega); obtain ⟨b0, o0, q0, d0, hp0, hat0, hre0, hg0⟩ := hsl.kidD hkl (i := 0) (by omega) (by omega); obtain ⟨b1, o1, q1, d1, hp1, hat1, hre1, hg1⟩ := hsl.kidD hkl (i := 1) (by omega) (by omega); cases hp0; cases hp1; obtain ⟨b2, o2, q2, d2, hp2, hat2, hre2, hg2⟩ := hsl.kidD hkl (i := 2) (by omega) (by omega); cases hp2; refine E4 E7 rfl ?_)
 refine P8 (i := 0) (l' := [tt,ff,ff,ff,ff,ff,ff,ff]) rfl D6 (A2 rfl rfl) rfl (by kernel_rfl) rfl rfl ?_
 refine aL 1 rfl (A2 rfl rfl) rfl ?_
 refine aL 2 rfl (A2 rfl rfl) rfl ?_
 refine aL 4 rfl (A2 rfl rfl) rfl ?_
 refine A3 3 ?_
 (refine E1 rfl (C3 rfl rfl rfl (by omega) (by unfold maxLen; omega) rfl) rfl rfl ?_; rintro _ ⟨b794, rfl⟩)
 refine aP 5 rfl (qA rfl) rfl ?_
 refine A3 6 ?_
 refine H6 rfl ?_
 refine aP 7 rfl (qA rfl) rfl ?_
 refine C4 (nS ?_)
 (refine H8 Pk.here (fun G5 hle5 hsl5 hno5 => ?_))
 refine tT (rB (rS ?_))
 refine E6 (rT rfl) (rC rfl (A2 rfl rfl)) (rT rfl) ?_
 (have hk1 : k = 9 := (by omega); subst hk1; exact K0.three hsl5 (Z4 _) (hrM.mono hle5) (hrM.mono hle5) (hrM.mono hle5) (by rw [mW9, if_pos ⟨by assumption, by assumption⟩]; rfl))
 (refine E1 rfl (A6 rfl) rfl rfl ?_; rintro _ ⟨b807, rfl⟩)
 refine A3 6 ?_
 (refine K4 rfl rfl (A7W _ _ _ _ _ (by assumption) (A2B har (by omega)) (A2B har (by omega)) hre1 hre2) rfl rfl rfl (fun v GM hleM hh => ?_); obtain ⟨cM, rfl, hrM⟩ := hh; obtain ⟨p7, c7, e7, rfl, _⟩ := hrM.open)
 refine A3 8 ?_
 refine H6 rfl ?_
 refine C4 (nS (tS ?_))
 (have hl3 : n = 3 := hop.2.1 (by omega); obtain ⟨b0, o0, q0, d0, hp0, hat0, hre0, hg0⟩ := hsl.kidD hkl (i := 0) (by omega) (by omega); obtain ⟨b1, o1, q1, d1, hp1, hat1, hre1, hg1⟩ := hsl.kidD hkl (i := 1) (by omega) (by omega); cases hp0; cases hp1; obtain ⟨b2, o2, q2, d2, hp2, hat2, hre2, hg2⟩ := hsl.kidD hkl (i := 2) (by omega) (by omega); cases hp2; refine E4 E7 rfl ?_)
 refine P8 (i := 0) (l' := [tt,ff,ff,ff,ff,ff,ff,ff]) rfl D6 (A2 rfl rfl) rfl (by kernel_rfl) rfl rfl ?_
 refine aL 1 rfl (A2 rfl rfl) rfl ?_
 refine aL 2 rfl (A2 rfl rfl) rfl ?_
 refine aL 4 rfl (A2 rfl rfl) rfl ?_
 refine A3 3 ?_
 (refine E1 rfl (C3 rfl rfl rfl (by omega) (by unfold maxLen; omega) rfl) rfl rfl ?_; rintro _ ⟨b821, rfl⟩)
 refine aP 5 rfl (qA rfl) rfl ?_
 refine A3 6 ?_
 refine H6 rfl ?_
 refine aP 7 rfl (qA rfl) rfl ?_
 refine C4 (nS ?_)
 (refine H8 Pk.here (fun G5 hle5 hsl5 hno5 => ?_))
 refine tT (rB (rS ?_))
 refine E6 (rT rfl) (rC rfl (A2 rfl rfl)) (rT rfl) ?_
 (have hk1 : k = 9 := (by omega); subst hk1; exact K0.three hsl5 (Z4 _) (hrM.mono hle5) (hrM.mono hle5) (hrM.mono hle5) (by rw [mW9, if_pos ⟨by assumption, by assumption⟩]; rfl))
 refine aP 14 rfl (pNf rfl) rfl ?_
 refine aP 15 rfl (S5 rfl rfl) rfl ?_
 refine I4 ?_
 refine E6 (rT rfl) (rC rfl (A2 rfl rfl)) (rT rfl) ?_
 (have hk1 : k = 9 := (by omega); subst hk1; exact K0.nil (u := A7) (L4 _ ⟨by omega, by omega⟩) (by rw [mW9, if_neg (fun hc => by first | exact Bool.noConfusion (hc.1.symm.trans (by assumption)) | exact Bool.noConfusion (hc.2.symm.trans (by assumption)) | exact Bool.noConfusion (hc.symm.trans (by assumption)))]; rfl))
 refine aP 5 rfl (pNf rfl) rfl ?_
 refine aP 6 rfl (qM rfl) rfl ?_
 refine E5 7 rfl rfl rfl ?_
 refine E5 8 rfl rfl rfl ?_
 refine E5 9 rfl rfl rfl ?_
 refine E5 10 rfl rfl rfl ?_
 refine E5 11 rfl rfl rfl ?_
 refine E5 12 rfl rfl rfl ?_
 refine E5 13 rfl rfl rfl ?_
 refine E5 14 rfl rfl rfl ?_
 refine aP 15 rfl (O2 rfl rfl) rfl ?_
 refine I4 ?_
 refine E6 (rT rfl) (rC rfl (A2 rfl rfl)) (rT rfl) ?_
 (have hk1 : k = 9 := (by omega); subst hk1; exact K0.nil (u := A7) (L4 _ ⟨by omega, by omega⟩) (by rw [mW9, if_neg (fun hc => by first | exact Bool.noConfusion (hc.1.symm.trans (by assumption)) | exact Bool.noConfusion (hc.2.symm.trans (by assumption)) | exact Bool.noConfusion (hc.symm.trans (by assumption)))]; rfl))
 refine sQ (qA rfl) rfl (sD (nS (cF rfl (tS (tR ?_)))))
 refine sB (qE rfl rfl) rfl rfl (fun h887 => ?_) (fun h887 => ?_)
 refine sQ (qA rfl) rfl (sD (nS (qT rfl (tS ?_))))
 (have hl2 : n = 2 := hop.1 (by omega); obtain ⟨b0, o0, q0, d0, hp0, hat0, hre0, hg0⟩ := hsl.kidD hkl (i := 0) (by omega) (by omega); obtain ⟨b1, o1, q1, d1, hp1, hat1, hre1, hg1⟩ := hsl.kidD hkl (i := 1) (by omega) (by omega); cases hp0; cases hp1; refine E4 E7 rfl ?_)
 refine K2 (i := 0) (l' := [tt,ff,ff,ff,ff,ff,ff,ff,ff,ff]) rfl D6 (qM rfl) rfl (by kernel_rfl) rfl rfl ?_
 refine aP 1 rfl (B4 (j := 0) rfl rfl rfl (by omega)) rfl ?_
 refine aL 2 rfl (A5 rfl rfl (hat0 _) rfl) rfl ?_
 refine aP 3 rfl (qM rfl) rfl ?_
 refine aP 4 rfl (B4 (j := 1) rfl rfl rfl (by omega)) rfl ?_
 refine aL 5 rfl (A5 rfl rfl (hat1 _) rfl) rfl ?_
 refine A3 6 ?_
 (refine K4 rfl rfl (A1H 5 _ _ _ _ _ ⟨by omega, by omega⟩ hre0 hre1) rfl rfl rfl (fun v GB hleB hh => ?_); obtain ⟨cB, rfl, hrB⟩ := hh; obtain ⟨p7, c7, e7, rfl, _⟩ := hrB.open)
 refine aP 7 rfl (qA rfl) rfl ?_
 refine A3 8 ?_
 refine H6 rfl ?_
 refine aP 9 rfl (qA rfl) rfl ?_
 refine C4 (nS (tT (rB (rS ?_))))
 refine E6 (rT rfl) (rC rfl (A2 rfl rfl)) (rT rfl) ?_
 (have hk1 : k = 10 := (by omega); subst hk1; exact K0.nil hrB A5x)
 refine sQ (qA rfl) rfl (sD (nS (cF rfl (tS (tR ?_)))))
 refine sB (qE rfl rfl) rfl rfl (fun h919 => ?_) (fun h919 => ?_)
 refine sQ (qA rfl) rfl (sD (nS (qT rfl (tS ?_))))
 (have hl1 : n = 1 := hop.2.2 (by omega); obtain ⟨b0, o0, q0, d0, hp0, hat0, hre0, hg0⟩ := hsl.kidD hkl (i := 0) (by omega) (by omega); cases hp0; refine E4 E7 rfl ?_)
 refine K2 (i := 0) (l' := [tt,ff,ff,ff,ff,ff,ff,ff,ff,ff,ff,ff,ff,ff]) rfl D6 (B8 rfl) rfl (by kernel_rfl) rfl rfl ?_
 refine aL 1 rfl (A2 rfl rfl) rfl ?_
 refine aP 3 rfl (B8 rfl) rfl ?_
 refine aL 4 rfl (A2 rfl rfl) rfl ?_
 refine aP 5 rfl (qM rfl) rfl ?_
 refine aP 6 rfl (B4 (j := 0) rfl rfl rfl (by omega)) rfl ?_
 refine aL 7 rfl (A5 rfl rfl (hat0 _) rfl) rfl ?_
 refine aP 8 rfl (B8 rfl) rfl ?_
 refine aL 9 rfl (A2 rfl rfl) rfl ?_
 refine T6 (j := 2) (j' := 10) (by kernel_rfl) ?_ ?_
 (refine E1 rfl (C3 rfl rfl rfl (by omega) (by unfold maxLen; omega) rfl) rfl rfl ?_; rintro _ ⟨b936, rfl⟩)
 refine A3 10 ?_
 refine U9 rfl rfl ((Y7 _ _ _ _ _ hre0 hrty)) rfl rfl rfl (fun h938 => ?_) (fun h938 => ?_)
 refine aP 11 rfl (qA rfl) rfl ?_
 refine A3 12 ?_
 refine H6 rfl ?_
 refine aP 13 rfl (qA rfl) rfl ?_
 refine C4 (nS ?_)
 (refine H8 Pk.here (fun G5 hle5 hsl5 hno5 => ?_))
 refine tT (rB (rS ?_))
 refine E6 (rT rfl) (rC rfl (A2 rfl rfl)) (rT rfl) ?_
 (have hk1 : k = 13 := (by omega); subst hk1; refine K0.one hsl5 (hrty.mono hle5) (hrty.mono hle5) ?_; rw [A2C]; split <;> first | rfl | (exfalso; simp_all; done))
 refine aP 11 rfl (qA rfl) rfl ?_
 refine A3 12 ?_
 refine H6 rfl ?_
 refine aP 13 rfl (qA rfl) rfl ?_
 refine C4 (nS ?_)
 (refine H8 Pk.here (fun G5 hle5 hsl5 hno5 => ?_))
 refine tT (rB (rS ?_))
 refine E6 (rT rfl) (rC rfl (A2 rfl rfl)) (rT rfl) ?_
 (have hk1 : k = 13 := (by omega); subst hk1; refine K0.one hsl5 (hrty.mono hle5) (hrty.mono hle5) ?_; rw [A2C]; split <;> first | rfl | (exfalso; simp_all; done))
 refine U9 rfl rfl ((Y7 _ _ _ _ _ hre0 hrty)) rfl rfl rfl (fun h963 => ?_) (fun h963 => ?_)
 refine A3 2 ?_
 (refine E1 rfl (C3 rfl rfl rfl (by omega) (by unfold maxLen; omega) rfl) rfl rfl ?_; rintro _ ⟨b965, rfl⟩)
 refine aP 11 rfl (qA rfl) rfl ?_
 refine A3 12 ?_
 refine H6 rfl ?_
 refine aP 13 rfl (qA rfl) rfl ?_
 refine C4 (nS ?_)
 (refine H8 Pk.here (fun G5 hle5 hsl5 hno5 => ?_))
 refine tT (rB (rS ?_))
 refine E6 (rT rfl) (rC rfl (A2 rfl rfl)) (rT rfl) ?_
 (have hk1 : k = 13 := (by omega); subst hk1; refine K0.one hsl5 (hrty.mono hle5) (hrty.mono hle5) ?_; rw [A2C]; split <;> first | rfl | (exfalso; simp_all; done))
 refine A3 2 ?_
 (refine E1 rfl (C3 rfl rfl rfl (by omega) (by unfold maxLen; omega) rfl) rfl rfl ?_; rintro _ ⟨b979, rfl⟩)
 refine aP 11 rfl (qA rfl) rfl ?_
 refine A3 12 ?_
 refine H6 rfl ?_
 refine aP 13 rfl (qA rfl) rfl ?_
 refine C4 (nS ?_)
 (refine H8 Pk.here (fun G5 hle5 hsl5 hno5 => ?_))
 refine tT (rB (rS ?_))
 refine E6 (rT rfl) (rC rfl (A2 rfl rfl)) (rT rfl) ?_
 (have hk1 : k = 13 := (by omega); subst hk1; refine K0.one hsl5 (hrty.mono hle5) (hrty.mono hle5) ?_; rw [A2C]; split <;> first | rfl | (exfalso; simp_all; done))
 refine L6 ?_
 (have hk11 : k = 11 ∨ k = 12 := (by omega); have hl1 : n = 1 := hop.2.2 (by omega); obtain ⟨b0, o0, q0, d0, hp0, hat0, hre0, hg0⟩ := hsl.kidD hkl (i := 0) (by omega) (by omega); cases hp0; refine sP (B4 (j := 0) rfl rfl rfl (by omega)) rfl rfl ?_)
 refine sL (A5 rfl rfl (hat0 _) rfl) rfl rfl ?_
 (refine F4 rfl (A7V 5 (h.getD 0 A7) G _ (.inr rfl) (A2B har (by omega)) hre0) rfl rfl (fun v G1 hle1 hh => ?_); obtain ⟨ma, mca, mb, mcb, rfl, hma, hmb, hma2, hmb2, hmm⟩ := hh; obtain ⟨p1, c1, e1, rfl, _⟩ := hma.open; obtain ⟨p2, c2, e2, rfl, _⟩ := hmb.open)
 refine J5 ?_
 refine sE (A6 rfl) rfl (fun b1009 => ?_)
 refine sE (A6 rfl) rfl (fun b1010 => ?_)
 refine D7 ?_
 refine sE (A6 rfl) rfl (fun b1019 => ?_)
 refine D7 ?_
 refine sB (qE rfl rfl) rfl rfl (fun h1028 => ?_) (fun h1028 => ?_)
 refine D2 ?_
 (have hl1 : n = 1 := hop.2.2 (by omega); obtain ⟨b0, o0, q0, d0, hp0, hat0, hre0, hg0⟩ := hsl.kidD hkl (i := 0) (by omega) (by omega); cases hp0; refine E4 E7 rfl ?_)
 refine P8 (i := 0) (l' := [tt,ff,ff,ff,ff,ff,ff,ff,ff]) rfl D6 (A2 rfl rfl) rfl (by kernel_rfl) rfl rfl ?_
 refine aL 1 rfl (A2 rfl rfl) rfl ?_
 refine aL 4 rfl (A2 rfl rfl) rfl ?_
 refine aP 5 rfl (qM rfl) rfl ?_
 refine A3 2 ?_
 (refine K4 rfl rfl (A1H _ ma mb _ _ _ ⟨by omega, by omega⟩ hma hmb) rfl rfl rfl (fun v GB hleB hh => ?_); obtain ⟨cB, rfl, hrB⟩ := hh; obtain ⟨p7, c7, e7, rfl, _⟩ := hrB.open; have hma' := hma.mono hleB; have hmb' := hmb.mono hleB)
 refine A3 3 ?_
 (refine E1 rfl (C3 rfl rfl rfl (by omega) (by unfold maxLen; omega) rfl) rfl rfl ?_; rintro _ ⟨b1046, rfl⟩)
 refine aP 6 rfl (qA rfl) rfl ?_
 refine A3 7 ?_
 refine H6 rfl ?_
 refine aP 8 rfl (qA rfl) rfl ?_
 refine C4 (nS ?_)
 (refine H8 Pk.here (fun G5 hle5 hsl5 hno5 => ?_))
 refine tT ?_
 refine E6 (rT rfl) (rC rfl (A2 rfl rfl)) (rT rfl) ?_
 (refine K0.one hsl5 (hrB.mono hle5) (hmb'.mono hle5) ?_; rw [A3j (by omega)]; cases hq : R3 5 (h.getD 0 A7) with | none => rfl | some q => (have hq2 := hmm q hq; subst hq2; dsimp only; rw [if_pos (by omega)]; rfl))
 refine sD (nS (cF rfl (tK (nS (tS ?_)))))
 (have hl1 : n = 1 := hop.2.2 (by omega); obtain ⟨b0, o0, q0, d0, hp0, hat0, hre0, hg0⟩ := hsl.kidD hkl (i := 0) (by omega) (by omega); cases hp0; refine E4 E7 rfl ?_)
 refine P8 (i := 0) (l' := [tt,ff,ff,ff,ff,ff,ff,ff,ff]) rfl D6 (A2 rfl rfl) rfl (by kernel_rfl) rfl rfl ?_
 refine aL 1 rfl (A2 rfl rfl) rfl ?_
 refine aL 4 rfl (A2 rfl rfl) rfl ?_
 refine aP 5 rfl (qM rfl) rfl ?_
 refine A3 2 ?_
 (refine K4 rfl rfl (A1H _ ma mb _ _ _ ⟨by omega, by omega⟩ hma hmb) rfl rfl rfl (fun v GB hleB hh => ?_); obtain ⟨cB, rfl, hrB⟩ := hh; obtain ⟨p7, c7, e7, rfl, _⟩ := hrB.open; have hma' := hma.mono hleB; have hmb' := hmb.mono hleB)
 refine A3 3 ?_
 (refine E1 rfl (C3 rfl rfl rfl (by omega) (by unfold maxLen; omega) rfl) rfl rfl ?_; rintro _ ⟨b1071, rfl⟩)
 refine aP 6 rfl (qA rfl) rfl ?_
 refine A3 7 ?_
 refine H6 rfl ?_
 refine aP 8 rfl (qA rfl) rfl ?_
 refine C4 (nS ?_)
 (refine H8 Pk.here (fun G5 hle5 hsl5 hno5 => ?_))
 refine tT ?_
 refine E6 (rT rfl) (rC rfl (A2 rfl rfl)) (rT rfl) ?_
 (refine K0.one hsl5 (hrB.mono hle5) (hma'.mono hle5) ?_; rw [A3j (by omega)]; cases hq : R3 5 (h.getD 0 A7) with | none => rfl | some q => (have hq2 := hmm q hq; subst hq2; dsimp only; rw [if_neg (by omega)]; rfl))
theorem A8h {cx : Cx} {k : Int} {nm : ByteArray} {ty : Ty} {h w : List Ty} {t : Ty} (he : Y8 cx k nm ty h = some (w, t)) : C9 t = true ∧ M5 cx k nm ty h = some (w, t) := by
 unfold Y8 at he
 split at he
 ·rename_i w' t' hw
  split at he
  ·cases he; exact ⟨by assumption, hw⟩
  ·cases he
 ·cases he
theorem B2K {cx : Cx} {k : Int} {nm : ByteArray} {ty : Ty} {h w : List Ty} {t : Ty} (hop : (k = 6 ∨ k = 7 ∨ k = 8 ∨ k = 10 → h.length = 2) ∧ (k = 9 → h.length = 3) ∧ (k = 5 ∨ k = 11 ∨ k = 12 ∨ k = 13 → h.length = 1)) (hk : 1 ≤ k ∧ k ≤ 14) (h14 : k ≠ 14) (he : M5 cx k nm ty h = some (w, t)) : w.length ≤ h.length := by
 have hkk : k = 1 ∨ k = 2 ∨ (k = 3 ∨ k = 4) ∨ k = 5 ∨ k = 6 ∨ (k = 7 ∨ k = 8) ∨ k = 9 ∨ k = 10 ∨ (k = 11 ∨ k = 12) ∨ k = 13 := by omega
 rcases hkk with rfl | rfl | hk | rfl | rfl | hk | rfl | rfl | hk | rfl
 ·rw [mW1] at he; split at he <;> cases he; simp
 ·rw [mW2] at he; cases he; simp
 ·rw [A4d hk] at he; cases he; simp
 ·rw [mW5] at he; cases he; simp
 ·rw [mW6] at he
  split at he
  ·split at he <;> cases he
   have := hop.1 (by omega); simp [this]
  ·cases he
 ·rw [V3 hk] at he
  split at he <;> cases he
  have := hop.1 (by omega); simp [this]
 ·rw [mW9] at he
  split at he <;> cases he
  have := hop.2.1 (by omega); simp [this]
 ·rw [A5x] at he; cases he; simp
 ·rw [A3j hk] at he
  split at he
  ·cases he; have := hop.2.2 (by omega); simp [this]
  ·cases he
 ·rw [A2C] at he
  split at he <;> cases he
  have := hop.2.2 (by omega); simp [this]
theorem S4.snoc {G G' : IM} {cx : Cx} {n : Nat} {p' : Option Addr} {c' : Nat} {es : List (List Value)} {e : List Value} {nm : ByteArray} {t : Ty} (h1 : n = cx.length) (hl : es.length = n) (h2 : ∀ x ∈ es, x.length = 3) (h3 : ∀ x ∈ es, x.all (·.oneCell') = true)
  (h4 : ∀ (i : Nat) (b : ByteArray × Ty), cx[i]? = some b → ∃ e, es[i]? = some e ∧ A2x G b e) (hg : B1 G G') (he : A2x G' (nm, t) e) (hs : Sl G' p' (n + 1) c' 3 (es.flatten ++ e)) : S4 G' (cx ++ [(nm, t)]) p' (n + 1) c' := by
 have hel : e.length = 3 ∧ e.all (·.oneCell') = true := by obtain ⟨q, d, rfl, _⟩ := he; exact ⟨rfl, rfl⟩
 refine ⟨by simp [h1], es ++ [e], B9.of (by simpa using hs) (by simp [hl]) ?_ ?_, ?_⟩
 ·simp only [List.forall_mem_append, List.forall_mem_singleton]; exact ⟨h2, hel.1⟩
 ·simp only [List.forall_mem_append, List.forall_mem_singleton]; exact ⟨h3, hel.2⟩
 ·intro i b hb
  rw [List.getElem?_append] at hb ⊢
  split at hb
  ·rename_i hi
   obtain ⟨e', he', hr⟩ := h4 i b hb
   rw [if_pos (by omega)]
   exact ⟨e', he', hr.mono hg⟩
  ·rename_i hi
   have : i - cx.length = 0 := by
    apply Classical.byContradiction; intro hc
    rw [List.getElem?_eq_none (by simp; omega)] at hb; cases hb
   rw [this] at hb
   simp only [List.getElem?_cons_zero, Option.some.injEq] at hb
   subst hb
   rw [if_neg (by omega)]
   exact ⟨e, by rw [show i - es.length = 0 by omega]; rfl, he⟩
theorem B2L (G : IM) (p : Option Addr) (n c : Nat) (es : List (List Value)) (h : B9 G p n c 3 es) (hn : n ≤ 4294967296) :
  Fn Tryz.prog 74 [.slice p n c] [] G (fun G' v outs => G' = G ∧ ∃ p' c', v = .slice p' n c' ∧ outs = [.slc p' c' 97 3 n es.flatten]) := by
 have hp := h.sl.nn
 have hS := h.sl
 have hone : ∀ u ∈ es.flatten, u.oneCell' = true := by
  intro u hu
  obtain ⟨e, he, hue⟩ := List.mem_flatten.1 hu
  exact List.all_eq_true.1 (h.one e he) u hue
 refine B7 Tryz.func74 rfl Tryz.ntmps74 Tryz.results74 rfl ?_
 intro w0
 cases p with
 | none =>
  obtain rfl := hp rfl
  obtain rfl : es = [] := List.length_eq_zero_iff.1 h.len
  refine T7 97 3 ?_
  refine D2 ?_
  refine sQ (B0e rfl rfl rfl) rfl ?_
  refine L6 ?_
  refine H0 (rT rfl) A0.refl ?_
  exact ⟨rfl, _, _, rfl, rfl⟩
 | some a =>
  refine D2 ?_
  refine sQ (A4E rfl rfl rfl) rfl ?_
  refine sD (nS (cF rfl (tK (nS (tS (tR ?_))))))
  (refine I8 (C3 rfl rfl rfl (by omega) (by unfold maxLen; omega) rfl) rfl ?_; rintro _ ⟨b18, rfl⟩)
  refine sQ (qM rfl) rfl ?_
  refine A3X rfl rfl rfl rfl rfl (fun _ _ => by repeat (first | exact Sw.here | apply Sw.there)) hS hone (Nat.zero_le _) (by unfold maxLen; omega) (by omega) rfl (fun pn cn => ?_)
  refine sQ (qA rfl) rfl (sD (nS (tT ?_)))
  refine H0 (rT rfl) A0.refl ?_
  exact ⟨rfl, _, _, by rw [Nat.zero_add], by rw [Nat.zero_add]; rfl⟩
theorem X1.no {r : Option Ty} {G G' : IM} {cu : List Value} {u : Ty} {b : Bool} (hu : B3 G' u cu) (hb : b = false) (h : r = none) : X1 r G G' (.tuple ⟨[.agg ⟨cu⟩, .bool b]⟩) [] := by
 subst hb h
 exact ⟨rfl, cu, u, rfl, hu, by simp⟩
theorem X1.yes {r : Option Ty} {G G' : IM} {cu : List Value} {u : Ty} {b : Bool} (hu : B3 G' u cu) (hb : b = true) (h : r = some u) : X1 r G G' (.tuple ⟨[.agg ⟨cu⟩, .bool b]⟩) [] := by
 subst hb h
 exact ⟨rfl, cu, u, rfl, hu, fun t ht => by cases ht; rfl⟩
section
variable {cx : Cx} {k : Int} {nm : ByteArray} {num : Int} {ty fr : Ty} {lb : Int} {ks : List Tm}
theorem A3k {us w : List Ty} {t : Ty} (h : M5 cx k nm ty us = some (w, t)) {b : Bool} (hb : C9 t = b) : Y8 cx k nm ty us = if b = true then some (w, t) else none := by
 unfold Y8; rw [h]; simp only [hb]
theorem B2M {us : List Ty} (h : M5 cx k nm ty us = none) : Y8 cx k nm ty us = none := by
 unfold Y8; rw [h]
end
def B2N (r : Tm) : Tm × Bool := if P9 r = true then (r, true) else (J4, false)
def B5P (t : Tm) (path : List Int) (x : Tm) : Tm × Bool := if P9 t = true ∧ P9 x = true ∧ tAt t path ≠ none then B2N (A7x t path x) else (J4, false)
mutual
theorem A5y (D N : Int) : ∀ (t : Tm) (d d' : Int), d' ≤ d → N7 D N t d = true → N7 D N t d' = true
 | .mk k nm num ty fr lb ks, d, d', hd, h => by
  obtain ⟨h1, h2, h3, h4⟩ := A0X h
  rw [A17 (by omega) h2 h3]
  exact A4e D N ks _ _ (by omega) h4
theorem A4e (D N : Int) : ∀ (ts : List Tm) (d d' : Int), d' ≤ d → M4 D N ts d = true → M4 D N ts d' = true
 | [], d, d', hd, h => by rw [M4]
 | t :: ts, d, d', hd, h => by
  rw [M4, Bool.and_eq_true] at h ⊢
  exact ⟨A5y D N t d d' hd h.1, A4e D N ts d d' hd h.2⟩
end
def F8 : List Tm → List Ty → List Ty → Int → List Tm × Int
 | u :: us, a :: h, b :: w, l => if P1 a b = true then (u :: (F8 us h w l).1, (F8 us h w l).2) else (O7 u a b (l + 1) :: (F8 us h w (l + 1)).1, (F8 us h w (l + 1)).2)
 | us, _, _, l => (us, l)
def Q0 (cx : Cx) (k : Int) (nm : ByteArray) (num : Int) (ty fr : Ty) (lb : Int) (us : List Tm) (h : List Ty) (l : Int) : Option (Tm × Ty × Int) :=
 match Y8 cx k nm ty h with
 | none => none
 | some (w, t) => some (if k = 13 then (F8 us h w l).1.getD 0 J4 else .mk k nm num ty fr lb (F8 us h w l).1, t, (F8 us h w l).2)
mutual
def N1 (cx : Cx) : Tm → Int → Option (Tm × Ty × Int)
 | .mk k nm num ty fr lb ks, l => match M0 (O6 cx k nm ty) ks l with
  | none => none
  | some (us, h, l') => Q0 cx k nm num ty fr lb us h l'
def M0 (cx : Cx) : List Tm → Int → Option (List Tm × List Ty × Int)
 | [], l => some ([], [], l)
 | t :: ts, l => match N1 cx t l with
  | none => none
  | some (u, a, l') => match M0 cx ts l' with
   | none => none
   | some (us, h, l'') => some (u :: us, a :: h, l'')
end
def V4 (e : Tm) : Option (Tm × Ty) := if M3 e = true then (match N1 [] e 0 with | some (u, t, _) => some (u, t) | none => none) else none
def W5 (cx : Cx) (k : Int) (nm : ByteArray) (ty : Ty) (h : List Ty) : Option Ty := match M5 cx k nm ty h with
 | some (_, t) => if (k = 5 ∨ k = 10) ∧ C9 t = false then none else some t
 | none => none
mutual
def P2 (cx : Cx) : Tm → Option Ty
 | .mk k nm num ty fr lb ks => match U7 (O6 cx k nm ty) ks with
  | none => none
  | some h => W5 cx k nm ty h
def U7 (cx : Cx) : List Tm → Option (List Ty)
 | [] => some []
 | t :: ts => match P2 cx t with
  | none => none
  | some a => match U7 cx ts with
   | none => none
   | some h => some (a :: h)
end
theorem A1K (k : Int) (ks : List Ty) (d : Int) : I1 (.mk k ks) d = (decide (d ≤ 4) && decide (S1 k = ks.length) && M2 ks (d + 1)) := by rw [I1]
mutual
theorem A3l : ∀ (t : Ty) (d e : Int), e ≤ d → I1 t d = true → I1 t e = true
 | .mk k ks, d, e, h, hs => by
  rw [A1K, Bool.and_eq_true, Bool.and_eq_true, decide_eq_true_eq, decide_eq_true_eq] at hs ⊢
  exact ⟨⟨by omega, hs.1.2⟩, A8i ks (d + 1) (e + 1) (by omega) hs.2⟩
theorem A8i : ∀ (ts : List Ty) (d e : Int), e ≤ d → M2 ts d = true → M2 ts e = true
 | [], d, e, h, hs => by rw [M2]
 | t :: ts, d, e, h, hs => by
  rw [M2, Bool.and_eq_true] at hs ⊢
  exact ⟨A3l t d e h hs.1, A8i ts d e h hs.2⟩
end
mutual
theorem A5z : ∀ (a b : Ty) (d : Int), J7 a b = true → I1 a d = true → I1 b d = true → I1 (T5 a b) d = true
 | .mk k ks, .mk k' ks', d, hc, ha, hb => by
  rw [A0W]
  split
  ·exact hb
  ·split
   ·exact ha
   ·rw [S2] at hc
    rw [A1K, Bool.and_eq_true, Bool.and_eq_true, decide_eq_true_eq, decide_eq_true_eq] at ha hb ⊢
    simp only [Bool.or_eq_true, Bool.and_eq_true, decide_eq_true_eq] at hc
    obtain ⟨hk, hl⟩ : k = k' ∧ N0 ks ks' = true := by
     rcases hc with (h | h) | h
     ·contradiction
     ·contradiction
     ·exact h
    subst hk
    obtain ⟨m1, m2⟩ := A8j ks ks' (d + 1) hl ha.2 hb.2
    exact ⟨⟨ha.1.1, by rw [m2]; exact ha.1.2⟩, m1⟩
theorem A8j : ∀ (xs ys : List Ty) (d : Int), N0 xs ys = true → M2 xs d = true → M2 ys d = true → M2 (R7 xs ys) d = true ∧ (R7 xs ys).length = xs.length
 | [], [], d, _, _, _ => by simp [R7, M2]
 | [], b :: ys, d, hc, _, _ => by simp [N0] at hc
 | a :: xs, [], d, hc, _, _ => by simp [N0] at hc
 | a :: xs, b :: ys, d, hc, ha, hb => by
  rw [N0, Bool.and_eq_true] at hc
  rw [M2, Bool.and_eq_true] at ha hb
  obtain ⟨m1, m2⟩ := A8j xs ys d hc.2 ha.2 hb.2
  rw [R7, M2, Bool.and_eq_true]
  exact ⟨⟨A5z a b d hc.1 ha.1 hb.1, m1⟩, by simp [m2]⟩
end
theorem A5A {cx : Cx} (h : ∀ b ∈ cx, C9 b.2 = true) {nm : ByteArray} {t : Ty} : ∀ {n : Nat}, X0 cx nm n = some t → C9 t = true
 | 0, hl => by simp [X0] at hl
 | n + 1, hl => by
  rw [X0] at hl
  split at hl
  ·rename_i b hb
   split at hl
   ·cases hl; exact h b (List.mem_of_getElem? hb)
   ·exact A5A h hl
  ·exact A5A h hl
theorem A8k {k : Int} {t a b : Ty} (hk : k = 4 ∨ k = 5) (ht : C9 t = true) (h : R3 k t = some (a, b)) : C9 a = true ∧ C9 b = true := by
 obtain ⟨tk, ks⟩ := t
 rw [show R3 k (.mk tk ks) = (if tk = k then some (ks.getD 0 A7, ks.getD 1 A7) else if tk = 1 then some (P0, P0) else none) from rfl] at h
 by_cases he : tk = k
 ·rw [if_pos he] at h
  cases h
  unfold C9 at ht ⊢
  rw [A1K, Bool.and_eq_true, Bool.and_eq_true, decide_eq_true_eq, decide_eq_true_eq] at ht
  have h2 : ks.length = 2 := by
   have : S1 tk = 2 := by rw [he]; rcases hk with rfl | rfl <;> rfl
   omega
  match ks, h2, ht.2 with
  | [x, y], _, hL =>
   simp only [M2, Bool.and_eq_true] at hL
   exact ⟨A3l _ 2 1 (by omega) hL.1, A3l _ 2 1 (by omega) hL.2.1⟩
 ·rw [if_neg he] at h
  by_cases h1 : tk = 1
  ·rw [if_pos h1] at h
   cases h
   exact ⟨by decide, by decide⟩
  ·rw [if_neg h1] at h; cases h
theorem B2O {l : List Ty} {i : Nat} (h : i < l.length) : l.getD i A7 ∈ l := by
 rw [List.getD_eq_getElem?_getD, List.getElem?_eq_getElem h, Option.getD_some]; exact List.getElem_mem h
theorem B2P {cx : Cx} {k : Int} {nm : ByteArray} {ty : Ty} {h w : List Ty} {t : Ty} (hcx : ∀ b ∈ cx, C9 b.2 = true) (hh : ∀ a ∈ h, C9 a = true) (hd : C9 (h.getD 0 A7) = true ∨ h = []) (hty : k = 13 → C9 ty = true) (hn : D1 k = (h.length : Int)) (hw : M5 cx k nm ty h = some (w, t)) (h510 : k ≠ 5 ∧ k ≠ 10) : C9 t = true := by
 have hg : ∀ i, i < h.length → C9 (h.getD i A7) = true := fun i hi => hh _ (B2O hi)
 unfold M5 at hw
 split at hw
 ·split at hw
  ·rename_i u hu; cases hw; exact A5A hcx hu
  ·cases hw
 split at hw
 ·cases hw; decide
 split at hw
 ·cases hw; decide
 split at hw
 ·exact absurd (by assumption) h510.1
 split at hw
 ·rename_i hk6
  have hl : h.length = 2 := by have : D1 k = 2 := (by rw [hk6]; rfl); omega
  split at hw
  ·rename_i a b hm
   split at hw
   ·cases hw; exact (A8k (.inl rfl) (hg 0 (by omega)) hm).2
   ·cases hw
  ·cases hw
 split at hw
 ·split at hw
  ·cases hw; split <;> decide
  ·cases hw
 split at hw
 ·rename_i hk9
  have hl : h.length = 3 := by have : D1 k = 3 := (by rw [hk9]; rfl); omega
  split at hw
  ·rename_i hc
   cases hw
   exact A5z _ _ 1 hc.2 (hg 1 (by omega)) (hg 2 (by omega))
  ·cases hw
 split at hw
 ·exact absurd (by assumption) h510.2
 split at hw
 ·split at hw
  ·cases hw; exact hty (by assumption)
  ·cases hw
 ·split at hw
  ·rename_i a b hm
   have hl : h.length ≠ 0 := by
    intro h0
    rw [List.length_eq_zero_iff] at h0
    subst h0
    rw [show R3 5 (([] : List Ty).getD 0 A7) = none from rfl] at hm
    cases hm
   cases hw
   have := A8k (.inr rfl) (hg 0 (by omega)) hm
   split
   ·exact this.2
   ·exact this.1
  ·cases hw
def cxV (cx : Cx) : Prop := ∀ b ∈ cx, C9 b.2 = true
theorem A3m : cxV [] := by intro b hb; simp at hb
theorem A4f {cx : Cx} {k : Int} {nm : ByteArray} {ty : Ty} (h : cxV cx) (ht : k = 5 → C9 ty = true) : cxV (O6 cx k nm ty) := by
 unfold O6
 split
 ·intro b hb
  rcases List.mem_append.1 hb with hb | hb
  ·exact h b hb
  ·obtain rfl := List.mem_singleton.1 hb; exact ht (by assumption)
 ·exact h
theorem B2Q {cx : Cx} {k : Int} {nm : ByteArray} {ty : Ty} {h : List Ty} (hcx : cxV cx) (hh : ∀ a ∈ h, C9 a = true) (hty : k = 13 → C9 ty = true) (hn : D1 k = (h.length : Int)) :
  (∀ w t, Y8 cx k nm ty h = some (w, t) → W5 cx k nm ty h = some t ∧ C9 t = true) ∧ (Y8 cx k nm ty h = none → W5 cx k nm ty h = none) := by
 unfold Y8 W5
 have hv := fun w t (e : M5 cx k nm ty h = some (w, t)) (h5 : k ≠ 5 ∧ k ≠ 10) => B2P hcx hh (by cases h with | nil => exact .inr rfl | cons x xs => exact .inl (hh _ (by simp))) hty hn e h5
 cases hw : M5 cx k nm ty h with
 | none => simp
 | some p =>
  obtain ⟨w, t⟩ := p
  have hv := hv w t hw
  simp only
  by_cases h5 : k = 5 ∨ k = 10
  ·cases ht : C9 t with
   | true => simp [ht]
   | false => simp [h5]
  ·have := hv (by omega)
   simp [this]
theorem B2R (ks : List Tm) (ih : ∀ t ∈ ks, ∀ d cx l, N7 12 14 t d = true → cxV cx → (∀ u a l', N1 cx t l = some (u, a, l') → P2 cx t = some a ∧ C9 a = true) ∧ (N1 cx t l = none → P2 cx t = none)) :
  ∀ d cx l, M4 12 14 ks d = true → cxV cx → (∀ us h l', M0 cx ks l = some (us, h, l') → U7 cx ks = some h ∧ (∀ a ∈ h, C9 a = true) ∧ h.length = ks.length ∧ us.length = ks.length) ∧ (M0 cx ks l = none → U7 cx ks = none) := by
 induction ks with
 | nil =>
  intro d cx l _ _
  refine ⟨fun us h l' he => ?_, fun he => by simp [M0] at he⟩
  simp only [M0, Option.some.injEq, Prod.mk.injEq] at he
  obtain ⟨rfl, rfl, _⟩ := he
  exact ⟨by rw [U7], by simp, rfl, rfl⟩
 | cons t ts ihl =>
  intro d cx l hs hcx
  rw [M4, Bool.and_eq_true] at hs
  obtain ⟨a1, a2⟩ := ih t List.mem_cons_self d cx l hs.1 hcx
  rw [M0, U7]
  cases he : N1 cx t l with
  | none => rw [a2 he]; exact ⟨fun _ _ _ h => by simp at h, fun _ => rfl⟩
  | some p =>
   obtain ⟨u, a, l1⟩ := p
   obtain ⟨b1, b2⟩ := a1 u a l1 he
   rw [b1]
   obtain ⟨c1, c2⟩ := ihl (fun x hx => ih x (List.mem_cons_of_mem _ hx)) d cx l1 hs.2 hcx
   simp only
   cases hL : M0 cx ts l1 with
   | none => rw [c2 hL]; exact ⟨fun _ _ _ h => by simp at h, fun _ => rfl⟩
   | some q =>
    obtain ⟨us, h, l2⟩ := q
    obtain ⟨d1, d2, d3, d4⟩ := c1 us h l2 hL
    rw [d1]
    refine ⟨fun us' h' l' e => ?_, fun e => by simp at e⟩
    simp only [Option.some.injEq, Prod.mk.injEq] at e
    obtain ⟨rfl, rfl, _⟩ := e
    refine ⟨rfl, fun x hx => ?_, by simp [d3], by simp [d4]⟩
    rcases List.mem_cons.1 hx with rfl | hx
    ·exact b2
    ·exact d2 x hx
theorem A4g : ∀ (t : Tm) (d : Int) (cx : Cx) (l : Int), N7 12 14 t d = true → cxV cx → (∀ u a l', N1 cx t l = some (u, a, l') → P2 cx t = some a ∧ C9 a = true) ∧ (N1 cx t l = none → P2 cx t = none) := by
 refine Tm.ind fun k nm num ty fr lb ks ih d cx l hs hcx => ?_
 obtain ⟨_, _, h3, h4⟩ := A0X hs
 obtain ⟨n1, _, _, _, _, n6, _⟩ := W8.1 h3
 obtain ⟨L1, L2⟩ := B2R ks ih (d + 1) (O6 cx k nm ty) l h4 (A4f hcx fun hk => n6 (by omega))
 rw [N1, P2]
 cases hL : M0 (O6 cx k nm ty) ks l with
 | none => rw [L2 hL]; exact ⟨fun _ _ _ h => by simp at h, fun _ => rfl⟩
 | some q =>
  obtain ⟨us, h, l2⟩ := q
  obtain ⟨d1, d2, d3, d4⟩ := L1 us h l2 hL
  rw [d1]
  obtain ⟨e1, e2⟩ := B2Q (k := k) (nm := nm) (ty := ty) hcx d2 (fun hk => n6 (.inr (.inl hk))) (by rw [d3]; exact n1)
  simp only [Q0]
  cases hN : Y8 cx k nm ty h with
  | none => rw [e2 hN]; exact ⟨fun _ _ _ h => by simp at h, fun _ => rfl⟩
  | some p =>
   obtain ⟨w, t⟩ := p
   obtain ⟨f1, f2⟩ := e1 w t hN
   rw [f1]
   refine ⟨fun u a l' e => ?_, fun e => by simp at e⟩
   simp only [Option.some.injEq, Prod.mk.injEq] at e
   obtain ⟨_, rfl, _⟩ := e
   exact ⟨rfl, f2⟩
theorem B2S {cx : Cx} {k : Int} {nm : ByteArray} {num : Int} {ty fr : Ty} {lb : Int} {ks : List Tm} {T : Ty} {us w : List Ty} (hu : X7 (O6 cx k nm ty) ks = some us) (hk : k ≠ 14) (hv : C9 T = true) (hw : M5 cx k nm ty us = some (w, T)) (hs : A28 w us = true) : A0E cx (.mk k nm num ty fr lb ks) = some T := by
 rw [A0E, hu]
 simp only [if_neg hk]
 unfold Y8
 rw [hw]
 simp only [hv, if_true, hs]
theorem B2T {cx : Cx} {a : Tm} {us : List Ty} (h : X7 cx [a] = some us) : ∃ x, A0E cx a = some x ∧ us = [x] := by
 rw [X7] at h
 split at h
 ·cases h
 ·rename_i x hx
  rw [X7] at h
  simp only [Option.some.injEq] at h
  exact ⟨x, hx, h.symm⟩
theorem B2U {cx : Cx} {a : Tm} {x : Ty} (h : A0E cx a = some x) : X7 cx [a] = some [x] := by rw [X7, h]; rfl
mutual
theorem A2e : ∀ a : Ty, J7 a a = true
 | .mk k ks => by rw [S2, A8l ks]; simp
theorem A8l : ∀ xs : List Ty, N0 xs xs = true
 | [] => rfl
 | a :: xs => by rw [N0, A2e a, A8l xs]; rfl
end
mutual
theorem A8m : ∀ a : Ty, T5 a a = a
 | .mk k ks => by
  rw [A0W, A8n ks]
  by_cases h : k = 1
  ·rw [if_pos h]
  ·rw [if_neg h, if_neg h]
theorem A8n : ∀ xs : List Ty, R7 xs xs = xs
 | [] => rfl
 | a :: xs => by rw [R7, A8m a, A8n xs]
end
theorem A4h {k : Int} {ks : List Ty} (hk : k = 4 ∨ k = 5) (h : C9 (.mk k ks) = true) : ∃ a b, ks = [a, b] ∧ C9 a = true ∧ C9 b = true := by
 unfold C9 at h ⊢
 rw [A1K, Bool.and_eq_true, Bool.and_eq_true, decide_eq_true_eq, decide_eq_true_eq] at h
 have h2 : ks.length = 2 := by
  have : S1 k = 2 := by rcases hk with rfl | rfl <;> rfl
  omega
 match ks, h2, h.2 with
 | [x, y], _, hL =>
  simp only [M2, Bool.and_eq_true] at hL
  exact ⟨x, y, rfl, A3l _ 2 1 (by omega) hL.1, A3l _ 2 1 (by omega) hL.2.1⟩
theorem B2V {k : Int} {ks : List Ty} (h : C9 (.mk k ks) = true) (hk : k ≠ 4) (hk5 : k ≠ 5) : (k = 1 ∨ k = 2 ∨ k = 3) ∧ ks = [] := by
 unfold C9 at h
 rw [A1K, Bool.and_eq_true, Bool.and_eq_true, decide_eq_true_eq, decide_eq_true_eq] at h
 obtain ⟨h1, h2, h3⟩ := L8 k
 have hl := h.1.2
 have hk3 : k = 1 ∨ k = 2 ∨ k = 3 := by
  apply Classical.byContradiction
  intro hc
  rw [h3 (by omega) (by omega) (by omega) hk hk5] at hl; omega
 rw [h1 hk3] at hl
 exact ⟨hk3, List.length_eq_zero_iff.1 (by omega)⟩
section inv
variable {cx : Cx} {nm : ByteArray} {num : Int} {ty fr : Ty} {lb : Int} {a b c : Tm} {T : Ty}
theorem A8o : ∀ xs : List Ty, A28 xs xs = true
 | [] => rfl
 | a :: xs => by rw [A28, A7A, A8o xs]; rfl
theorem B2W (h : A0E cx a = some fr) : A0E cx (.mk 14 nm num ty fr lb [a]) = some ty := by
 rw [A0E, show O6 cx 14 nm ty = cx from rfl, B2U h]
 simp only [if_true, List.getD_cons_zero, A7A]
end inv
theorem B2X (cx : Cx) (x nm : ByteArray) (t : Ty) : Z2 (cx ++ [(x, t)]) nm = if x = nm then some t else Z2 cx nm := by
 unfold Z2
 rw [List.length_append, show ([(x, t)] : Cx).length = 1 from rfl]
 have hl : (cx ++ [(x, t)])[cx.length]? = some (x, t) := by rw [List.getElem?_append_right (Nat.le_refl _)]; simp
 by_cases h : x = nm
 ·rw [A5c hl h, if_pos h]
 ·rw [A5d hl h, if_neg h]
  have : ∀ n, n ≤ cx.length → X0 (cx ++ [(x, t)]) nm n = X0 cx nm n := by
   intro n
   induction n with
   | zero => intro _; rfl
   | succ n ih =>
    intro hn
    rw [X0, X0, List.getElem?_append_left (by omega), ih (by omega)]
  exact this _ (Nat.le_refl _)
theorem A4i {cx : Cx} : ∀ {ks : List Tm} {i : Nat} (hi : i < ks.length) {l l' l2 : Int} {us : List Tm} {h : List Ty} {u : Tm} {a : Ty}, M0 cx (ks.take i) l = some (us, h, l') → N1 cx ks[i] l' = some (u, a, l2) → M0 cx (ks.take (i + 1)) l = some (us ++ [u], h ++ [a], l2)
 | [], i, hi, _, _, _, _, _, _, _, _, _ => by simp at hi
 | t :: ts, 0, _, l, l', l2, us, h, u, a, h1, h2 => by
  simp only [List.take_zero, M0, Option.some.injEq, Prod.mk.injEq] at h1
  obtain ⟨rfl, rfl, rfl⟩ := h1
  simp only [List.getElem_cons_zero] at h2
  simp [M0, h2]
 | t :: ts, i + 1, hi, l, l', l2, us, h, u, a, h1, h2 => by
  simp only [List.take_succ_cons, M0] at h1 ⊢
  split at h1
  ·cases h1
  ·rename_i u1 a1 l1 he
   split at h1
   ·cases h1
   ·rename_i us1 h1' l1' hL
    simp only [Option.some.injEq, Prod.mk.injEq] at h1
    obtain ⟨rfl, rfl, rfl⟩ := h1
    simp only [List.getElem_cons_succ] at h2
    have := A4i (ks := ts) (i := i) (by simpa using hi) hL h2
    simp only [this, List.cons_append]
theorem A8p {cx : Cx} : ∀ {ks : List Tm} {i : Nat} (hi : i < ks.length) {l l' : Int} {us : List Tm} {h : List Ty}, M0 cx (ks.take i) l = some (us, h, l') → N1 cx ks[i] l' = none → M0 cx ks l = none
 | [], i, hi, _, _, _, _, _, _ => by simp at hi
 | t :: ts, 0, _, l, l', us, h, h1, h2 => by
  simp only [List.take_zero, M0, Option.some.injEq, Prod.mk.injEq] at h1
  obtain ⟨rfl, rfl, rfl⟩ := h1
  simp only [List.getElem_cons_zero] at h2
  simp [M0, h2]
 | t :: ts, i + 1, hi, l, l', us, h, h1, h2 => by
  simp only [List.take_succ_cons, M0] at h1 ⊢
  split at h1
  ·cases h1
  ·rename_i u1 a1 l1 he
   split at h1
   ·cases h1
   ·rename_i us1 h1' l1' hL
    simp only [Option.some.injEq, Prod.mk.injEq] at h1
    obtain ⟨rfl, rfl, rfl⟩ := h1
    simp only [List.getElem_cons_succ] at h2
    have := A8p (ks := ts) (i := i) (by simpa using hi) hL h2
    simp only [this]
theorem X2 (us : List Tm) (h : List Ty) (l : Int) : F8 us h [] l = (us, l) := by
 cases us with
 | nil => rfl
 | cons u us => cases h <;> rfl
theorem A4j : ∀ (us : List Tm) (h w : List Ty) (l : Int) (j : Nat) (hj : j < w.length) (hu : w.length ≤ us.length) (hh : w.length ≤ h.length),
  (F8 us h (w.take j) l).1.length = us.length ∧ (∀ (hq : j < (F8 us h (w.take j) l).1.length), (F8 us h (w.take j) l).1[j] = us[j]'(by omega)) ∧
  F8 us h (w.take (j + 1)) l = if P1 (h[j]'(by omega)) w[j] = true then F8 us h (w.take j) l else ((F8 us h (w.take j) l).1.set j (O7 (us[j]'(by omega)) (h[j]'(by omega)) w[j] ((F8 us h (w.take j) l).2 + 1)), (F8 us h (w.take j) l).2 + 1)
 | us, h, [], l, j, hj, _, _ => by simp at hj
 | [], h, b :: w, l, j, _, hu, _ => by simp at hu
 | u :: us, [], b :: w, l, j, _, _, hh => by simp at hh
 | u :: us, a :: h, b :: w, l, 0, _, _, _ => by
  refine ⟨by simp [F8], by simp [F8], ?_⟩
  simp only [List.take_succ_cons, List.take_zero, F8, X2, List.getElem_cons_zero, List.set_cons_zero]
 | u :: us, a :: h, b :: w, l, j + 1, hj, hu, hh => by
  simp only [List.take_succ_cons, List.getElem_cons_succ]
  by_cases hs : P1 a b = true
  ·have ih := A4j us h w l j (by simpa using hj) (by simpa using hu) (by simpa using hh)
   simp only [F8, if_pos hs]
   obtain ⟨i1, i2, i3⟩ := ih
   refine ⟨by simp [i1], fun hq => by simp [i2], ?_⟩
   rw [i3]
   split <;> simp
  ·have ih := A4j us h w (l + 1) j (by simpa using hj) (by simpa using hu) (by simpa using hh)
   simp only [F8, if_neg hs]
   obtain ⟨i1, i2, i3⟩ := ih
   refine ⟨by simp [i1], fun hq => by simp [i2], ?_⟩
   rw [i3]
   split <;> simp
theorem A2D : ∀ (us : List Tm) (h w : List Ty) (l : Int), (F8 us h w l).1.length = us.length
 | [], h, w, l => by simp [F8]
 | u :: us, [], w, l => by simp [F8]
 | u :: us, a :: h, [], l => by simp [F8]
 | u :: us, a :: h, b :: w, l => by
  simp only [F8]
  split
  ·simp [A2D us h w l]
  ·simp [A2D us h w (l + 1)]
theorem B2Y {us : List Tm} {h w : List Ty} {l : Int} {j : Nat} (hj : j < w.length) (hu : w.length ≤ us.length) (hh : w.length ≤ h.length) :
  (F8 us h (w.take (j + 1)) l).1 = (F8 us h (w.take j) l).1.set j (if P1 (h[j]'(by omega)) w[j] = true then us[j]'(by omega) else O7 (us[j]'(by omega)) (h[j]'(by omega)) w[j] ((F8 us h (w.take j) l).2 + 1)) ∧
  (F8 us h (w.take (j + 1)) l).2 = (if P1 (h[j]'(by omega)) w[j] = true then (F8 us h (w.take j) l).2 else (F8 us h (w.take j) l).2 + 1) := by
 obtain ⟨h1, h2, h3⟩ := A4j us h w l j hj hu hh
 by_cases hs : P1 (h[j]'(by omega)) w[j] = true
 ·rw [h3, if_pos hs, if_pos hs, if_pos hs]
  refine ⟨?_, rfl⟩
  rw [← h2 (by omega), List.set_getElem_self]
 ·rw [h3, if_neg hs, if_neg hs, if_neg hs]
  exact ⟨rfl, rfl⟩
theorem A1L : ∀ (us : List Tm) (h w : List Ty) (l : Int), l ≤ (F8 us h w l).2 ∧ (F8 us h w l).2 ≤ l + us.length
 | [], h, w, l => by simp [F8]
 | u :: us, [], w, l => by simp [F8]; omega
 | u :: us, a :: h, [], l => by simp [F8]; omega
 | u :: us, a :: h, b :: w, l => by
  simp only [F8]
  split
  ·have := A1L us h w l; simp only [List.length_cons]; omega
  ·have := A1L us h w (l + 1); simp only [List.length_cons]; omega
mutual
def A0n : Ty → Ty → Bool
 | .mk k ks, t => decide (t.k = 1) || (decide (k = t.k) && Q7 ks t.ks)
def Q7 : List Ty → List Ty → Bool
 | [], [] => true
 | a :: xs, b :: ys => A0n a b && Q7 xs ys
 | _, _ => false
end
theorem A0s (k k' : Int) (ks ks' : List Ty) : A0n (.mk k ks) (.mk k' ks') = (decide (k' = 1) || (decide (k = k') && Q7 ks ks')) := by rw [A0n]; rfl
mutual
def A1d : Tm → Tm → Bool
 | .mk k nm num ty _ _ ks, u => decide (k = u.k ∧ nm = u.nm ∧ num = u.num) && (decide (k ≠ 5 ∧ k ≠ 13) || A0n ty u.ty) && Z5 ks u.ks
def Z5 : List Tm → List Tm → Bool
 | [], [] => true
 | a :: xs, b :: ys => A1d a b && Z5 xs ys
 | _, _ => false
end
theorem A3n {k k' : Int} {nm nm' : ByteArray} {num num' : Int} {ty ty' fr fr' : Ty} {lb lb' : Int} {ks ks' : List Tm} :
  A1d (.mk k nm num ty fr lb ks) (.mk k' nm' num' ty' fr' lb' ks') = true ↔ k = k' ∧ nm = nm' ∧ num = num' ∧ (k = 5 ∨ k = 13 → A0n ty ty' = true) ∧ Z5 ks ks' = true := by
 rw [A1d]
 show (decide (k = k' ∧ nm = nm' ∧ num = num') && (decide (k ≠ 5 ∧ k ≠ 13) || A0n ty ty') && Z5 ks ks') = true ↔ _
 simp only [Bool.and_eq_true, Bool.or_eq_true, decide_eq_true_eq]
 constructor
 ·rintro ⟨⟨⟨a, b, c⟩, e⟩, d⟩
  exact ⟨a, b, c, fun h => e.resolve_left (by omega), d⟩
 ·rintro ⟨a, b, c, e, d⟩
  refine ⟨⟨⟨a, b, c⟩, ?_⟩, d⟩
  by_cases h : k = 5 ∨ k = 13
  ·exact .inr (e h)
  ·exact .inl (by omega)
def A0t (a b : Tm) : Bool := M3 a && (M3 b && A1d a b)
theorem A1M : ∀ (t : Ty), C9 t = true → ∃ a : GT, t = a.ty
 | .mk k ks, h => by
  by_cases h4 : k = 4
  ·obtain ⟨x, y, hxy, hx, hy⟩ := A4h (.inl h4) h
   have : SizeOf.sizeOf x < SizeOf.sizeOf ks ∧ SizeOf.sizeOf y < SizeOf.sizeOf ks := by subst hxy; simp; omega
   obtain ⟨a, ha⟩ := A1M x hx
   obtain ⟨b, hb⟩ := A1M y hy
   exact ⟨.fn a b, by rw [h4, hxy, ha, hb]; rfl⟩
  ·by_cases h5 : k = 5
   ·obtain ⟨x, y, hxy, hx, hy⟩ := A4h (.inr h5) h
    have : SizeOf.sizeOf x < SizeOf.sizeOf ks ∧ SizeOf.sizeOf y < SizeOf.sizeOf ks := by subst hxy; simp; omega
    obtain ⟨a, ha⟩ := A1M x hx
    obtain ⟨b, hb⟩ := A1M y hy
    exact ⟨.pr a b, by rw [h5, hxy, ha, hb]; rfl⟩
   ·obtain ⟨h1, rfl⟩ := B2V h h4 h5
    rcases h1 with rfl | rfl | rfl
    ·exact ⟨.any, rfl⟩
    ·exact ⟨.int, rfl⟩
    ·exact ⟨.bool, rfl⟩
 termination_by t => SizeOf.sizeOf t
 decreasing_by all_goals (simp only [Ty.mk.sizeOf_spec]; omega)
theorem A8q : ∀ (a b : GT), A0n a.ty b.ty = true ↔ Le a b := by
 intro a
 induction a with
 | any => intro b; cases b <;> simp [GT.ty, A0s, Q7] <;> first | exact .any | (intro h; cases h)
 | int => intro b; cases b <;> simp [GT.ty, A0s, Q7] <;> first | exact .any | exact .int | (intro h; cases h)
 | bool => intro b; cases b <;> simp [GT.ty, A0s, Q7] <;> first | exact .any | exact .bool | (intro h; cases h)
 | fn x y i j =>
  intro b
  cases b with
  | fn z w => simp only [GT.ty, A0s, Q7, i, j, Bool.or_eq_true, Bool.and_eq_true, decide_eq_true_eq, Bool.and_true, true_and]; exact ⟨fun h => by rcases h with h | h; exact absurd h (by decide); exact .fn h.1 h.2, fun h => by cases h with | fn a b => exact .inr ⟨a, b⟩⟩
  | any => simp [GT.ty, A0s, Q7]; exact .any
  | _ => simp [GT.ty, A0s, Q7]; intro h; cases h
 | pr x y i j =>
  intro b
  cases b with
  | pr z w => simp only [GT.ty, A0s, Q7, i, j, Bool.or_eq_true, Bool.and_eq_true, decide_eq_true_eq, Bool.and_true, true_and]; exact ⟨fun h => by rcases h with h | h; exact absurd h (by decide); exact .pr h.1 h.2, fun h => by cases h with | pr a b => exact .inr ⟨a, b⟩⟩
  | any => simp [GT.ty, A0s, Q7]; exact .any
  | _ => simp [GT.ty, A0s, Q7]; intro h; cases h
theorem A0I : ∀ (a b : GT), J7 a.ty b.ty = true ↔ Co a b := by
 intro a
 induction a with
 | any => intro b; cases b <;> simp [GT.ty, S2, N0] <;> exact .l
 | int => intro b; cases b <;> simp [GT.ty, S2, N0] <;> first | exact .r | exact .int | (intro h; cases h)
 | bool => intro b; cases b <;> simp [GT.ty, S2, N0] <;> first | exact .r | exact .bool | (intro h; cases h)
 | fn x y i j =>
  intro b
  cases b with
  | fn z w => simp only [GT.ty, S2, N0, i, j, Bool.or_eq_true, Bool.and_eq_true, decide_eq_true_eq, Bool.and_true, true_and]; exact ⟨fun h => by rcases h with h | h; exact absurd h (by decide); exact .fn h.1 h.2, fun h => by cases h with | fn a b => exact .inr ⟨a, b⟩⟩
  | any => simp [GT.ty, S2, N0]; exact .r
  | _ => simp [GT.ty, S2, N0]; intro h; cases h
 | pr x y i j =>
  intro b
  cases b with
  | pr z w => simp only [GT.ty, S2, N0, i, j, Bool.or_eq_true, Bool.and_eq_true, decide_eq_true_eq, Bool.and_true, true_and]; exact ⟨fun h => by rcases h with h | h; exact absurd h (by decide); exact .pr h.1 h.2, fun h => by cases h with | pr a b => exact .inr ⟨a, b⟩⟩
  | any => simp [GT.ty, S2, N0]; exact .r
  | _ => simp [GT.ty, S2, N0]; intro h; cases h
def Q8 : GT → GT → GT
 | .any, b => b
 | .fn a b, .fn c d => .fn (Q8 a c) (Q8 b d)
 | .pr a b, .pr c d => .pr (Q8 a c) (Q8 b d)
 | a, _ => a
theorem A2E (a : GT) : Q8 a .any = a := by cases a <;> rfl
theorem A8r {a b : GT} (h : Co a b) : T5 a.ty b.ty = (Q8 a b).ty := by
 induction h with
 | l => simp [GT.ty, T5, Q8]
 | @r a => rw [A2E]; cases a <;> simp [GT.ty, A0W]
 | int => simp [GT.ty, A0W, R7, Q8]
 | bool => simp [GT.ty, A0W, R7, Q8]
 | fn _ _ i j => simp [GT.ty, A0W, R7, Q8, i, j]
 | pr _ _ i j => simp [GT.ty, A0W, R7, Q8, i, j]
theorem A4k {a b : GT} (h : Co a b) : Le (Q8 a b) a := by
 induction h with
 | l => exact .any
 | r => rw [A2E]; exact Le.refl
 | int => exact .int
 | bool => exact .bool
 | fn _ _ i j => exact .fn i j
 | pr _ _ i j => exact .pr i j
theorem A4l {a b : GT} (h : Co a b) : Le (Q8 a b) b := by
 induction h with
 | l => exact Le.refl
 | r => exact .any
 | int => exact .int
 | bool => exact .bool
 | fn _ _ i j => exact .fn i j
 | pr _ _ i j => exact .pr i j
theorem B2Z {a b : GT} (h : Co a b) : ∀ {a' b' : GT}, Le a a' → Le b b' → Le (Q8 a b) (Q8 a' b') := by
 induction h with
 | l => intro a' b' h1 h2; cases h1; exact h2
 | r => intro a' b' h1 h2; cases h2; rw [A2E, A2E]; exact h1
 | int => intro a' b' h1 h2; cases h1 <;> cases h2 <;> first | exact .int | exact .any
 | bool => intro a' b' h1 h2; cases h1 <;> cases h2 <;> first | exact .bool | exact .any
 | fn c d i j =>
  intro a' b' h1 h2
  cases h1 with
  | any => exact (A4l (.fn c d)).trans h2
  | fn p q => cases h2 with
   | any => rw [A2E]; exact (A4k (.fn c d)).trans (.fn p q)
   | fn r s => exact .fn (i p r) (j q s)
 | pr c d i j =>
  intro a' b' h1 h2
  cases h1 with
  | any => exact (A4l (.pr c d)).trans h2
  | pr p q => cases h2 with
   | any => rw [A2E]; exact (A4k (.pr c d)).trans (.pr p q)
   | pr r s => exact .pr (i p r) (j q s)
theorem B20 {a b : GT} (h : Le a b) : ∀ (d : Int), I1 a.ty d = true → I1 b.ty d = true := by
 induction h with
 | @any a => intro d h; cases a <;> (simp only [GT.ty, A1K, Bool.and_eq_true, decide_eq_true_eq] at h ⊢; exact ⟨⟨h.1.1, rfl⟩, by rw [M2]⟩)
 | int => exact fun _ h => h
 | bool => exact fun _ h => h
 | fn _ _ i j =>
  intro d h
  simp only [GT.ty, A1K, M2, Bool.and_eq_true, decide_eq_true_eq] at h ⊢
  exact ⟨⟨h.1.1, rfl⟩, i _ h.2.1, j _ h.2.2.1, trivial⟩
 | pr _ _ i j =>
  intro d h
  simp only [GT.ty, A1K, M2, Bool.and_eq_true, decide_eq_true_eq] at h ⊢
  exact ⟨⟨h.1.1, rfl⟩, i _ h.2.1, j _ h.2.2.1, trivial⟩
theorem A2f {a b : GT} (h : Le a b) (hv : C9 a.ty = true) : C9 b.ty = true := B20 h 1 hv
def gmF : GT → Option (GT × GT)
 | .fn a b => some (a, b)
 | .any => some (.any, .any)
 | _ => none
def gmP : GT → Option (GT × GT)
 | .pr a b => some (a, b)
 | .any => some (.any, .any)
 | _ => none
theorem A8s (a : GT) : R3 4 a.ty = (gmF a).map fun p => (p.1.ty, p.2.ty) := by cases a <;> rfl
theorem A8t (a : GT) : R3 5 a.ty = (gmP a).map fun p => (p.1.ty, p.2.ty) := by cases a <;> rfl
theorem B21 {a b p q : GT} (h : Le a b) (hm : gmF a = some (p, q)) : Co a (.fn p q) ∧ ∃ p' q', gmF b = some (p', q') ∧ Le p p' ∧ Le q q' ∧ Co b (.fn p' q') := by
 cases h with
 | any =>
  refine ⟨?_, .any, .any, rfl, .any, .any, .l⟩
  cases a with
  | fn _ _ => cases hm; exact Co.refl
  | any => exact .l
  | _ => cases hm
 | fn h1 h2 => cases hm; exact ⟨Co.refl, _, _, rfl, h1, h2, Co.refl⟩
 | _ => cases hm
theorem B22 {a b p q : GT} (h : Le a b) (hm : gmP a = some (p, q)) : Co a (.pr p q) ∧ ∃ p' q', gmP b = some (p', q') ∧ Le p p' ∧ Le q q' ∧ Co b (.pr p' q') := by
 cases h with
 | any =>
  refine ⟨?_, .any, .any, rfl, .any, .any, .l⟩
  cases a with
  | pr _ _ => cases hm; exact Co.refl
  | any => exact .l
  | _ => cases hm
 | pr h1 h2 => cases hm; exact ⟨Co.refl, _, _, rfl, h1, h2, Co.refl⟩
 | _ => cases hm
def CxR (cx cx' : Cx) (Γ : GC) : Prop := ∀ x a, Z2 cx x = some a → ∃ A A', a = A.ty ∧ Z2 cx' x = some A'.ty ∧ Γ x = some (A, A') ∧ Le A A'
theorem B23 : CxR [] [] M7 := by intro x a h; simp [Z2, X0] at h
theorem B24 {cx cx' : Cx} {Γ : GC} (h : CxR cx cx' Γ) {A A' : GT} (hl : Le A A') (x : ByteArray) : CxR (cx ++ [(x, A.ty)]) (cx' ++ [(x, A'.ty)]) (gup Γ x A A') := by
 intro y a ha
 rw [B2X] at ha ⊢
 unfold gup
 by_cases hy : x = y
 ·rw [if_pos hy] at ha ⊢
  rw [if_pos hy]
  cases ha
  exact ⟨A, A', rfl, rfl, rfl, hl⟩
 ·rw [if_neg hy] at ha ⊢
  rw [if_neg hy]
  exact h y a ha
def R4 (A B : GT) (l : Int) (e : GE) : GE := if P1 A.ty B.ty = true then e else .cast A B l e
theorem A1v {Γ : GC} {e e' : GE} {A A' B B' : GT} {l l' : Int} (h : GP Γ e e' A A') (h1 : Co A B) (h2 : Co A' B') (h3 : Le B B') : GP Γ (R4 A B l e) (R4 A' B' l' e') B B' := by
 unfold R4
 by_cases hs : P1 A.ty B.ty = true
 ·rw [if_pos hs]
  obtain rfl := GT.inj ((A08 _ _).1 hs)
  by_cases ht : P1 A'.ty B'.ty = true
  ·rw [if_pos ht]
   obtain rfl := GT.inj ((A08 _ _).1 ht)
   exact h
  ·rw [if_neg ht]; exact .castR h h2 h3
 ·rw [if_neg hs]
  by_cases ht : P1 A'.ty B'.ty = true
  ·rw [if_pos ht]
   obtain rfl := GT.inj ((A08 _ _).1 ht)
   exact .castL h h1 h3
  ·rw [if_neg ht]; exact .castB h h1 h2 h3
theorem A5B (e : GE) (us : List Tm) (A B : GT) (h w : List Ty) (l : Int) : ∃ m l1, F8 (e.tm :: us) (A.ty :: h) (B.ty :: w) l = ((R4 A B m e).tm :: (F8 us h w l1).1, (F8 us h w l1).2) := by
 rw [F8]
 unfold R4
 by_cases hs : P1 A.ty B.ty = true
 ·rw [if_pos hs]; exact ⟨0, l, by rw [if_pos hs]⟩
 ·rw [if_neg hs]; exact ⟨l + 1, l + 1, by rw [if_neg hs]; rfl⟩
theorem A3o (e : GE) (A B : GT) (l : Int) : ∃ m l1, F8 [e.tm] [A.ty] [B.ty] l = ([(R4 A B m e).tm], l1) := by
 obtain ⟨m, l1, h⟩ := A5B e [] A B [] [] l
 rw [X2] at h
 exact ⟨m, l1, h⟩
theorem A3p (e f : GE) (A B C D : GT) (l : Int) : ∃ m n l1, F8 [e.tm, f.tm] [A.ty, C.ty] [B.ty, D.ty] l = ([(R4 A B m e).tm, (R4 C D n f).tm], l1) := by
 obtain ⟨m, l1, h⟩ := A5B e [f.tm] A B [C.ty] [D.ty] l
 obtain ⟨n, l2, h2⟩ := A3o f C D l1
 rw [h2] at h
 exact ⟨m, n, l2, h⟩
theorem A8u (e f g : GE) (A B C D E F : GT) (l : Int) : ∃ m n o l1, F8 [e.tm, f.tm, g.tm] [A.ty, C.ty, E.ty] [B.ty, D.ty, F.ty] l = ([(R4 A B m e).tm, (R4 C D n f).tm, (R4 E F o g).tm], l1) := by
 obtain ⟨m, l1, h⟩ := A5B e [f.tm, g.tm] A B [C.ty, E.ty] [D.ty, F.ty] l
 obtain ⟨n, o, l2, h2⟩ := A3p f g C D E F l1
 rw [h2] at h
 exact ⟨m, n, o, l2, h⟩
inductive GPL (Γ : GC) : List GE → List GE → List GT → List GT → Prop
 | nil : GPL Γ [] [] [] []
 | cons {e e' A A' es es' As As'} : GP Γ e e' A A' → GPL Γ es es' As As' → GPL Γ (e :: es) (e' :: es') (A :: As) (A' :: As')
theorem GPL.one {Γ : GC} {es es' : List GE} {As As' : List GT} (h : GPL Γ es es' As As') (hl : es.length = 1) : ∃ e e' A A', es = [e] ∧ es' = [e'] ∧ As = [A] ∧ As' = [A'] ∧ GP Γ e e' A A' := by
 cases h with
 | nil => simp at hl
 | cons h h2 => cases h2 with
  | nil => exact ⟨_, _, _, _, rfl, rfl, rfl, rfl, h⟩
  | cons _ _ => simp at hl
theorem GPL.two {Γ : GC} {es es' : List GE} {As As' : List GT} (h : GPL Γ es es' As As') (hl : es.length = 2) : ∃ e e' A A' f f' B B', es = [e, f] ∧ es' = [e', f'] ∧ As = [A, B] ∧ As' = [A', B'] ∧ GP Γ e e' A A' ∧ GP Γ f f' B B' := by
 cases h with
 | nil => simp at hl
 | cons h h2 =>
  obtain ⟨f, f', B, B', rfl, rfl, rfl, rfl, h3⟩ := h2.one (by simpa using hl)
  exact ⟨_, _, _, _, f, f', B, B', rfl, rfl, rfl, rfl, h, h3⟩
theorem GPL.three {Γ : GC} {es es' : List GE} {As As' : List GT} (h : GPL Γ es es' As As') (hl : es.length = 3) : ∃ e e' A A' f f' B B' g g' C C', es = [e, f, g] ∧ es' = [e', f', g'] ∧ As = [A, B, C] ∧ As' = [A', B', C'] ∧ GP Γ e e' A A' ∧ GP Γ f f' B B' ∧ GP Γ g g' C C' := by
 cases h with
 | nil => simp at hl
 | cons h h2 =>
  obtain ⟨f, f', B, B', g, g', C, C', rfl, rfl, rfl, rfl, h3, h4⟩ := h2.two (by simpa using hl)
  exact ⟨_, _, _, _, f, f', B, B', g, g', C, C', rfl, rfl, rfl, rfl, h, h3, h4⟩
theorem GPL.zero {Γ : GC} {es es' : List GE} {As As' : List GT} (h : GPL Γ es es' As As') (hl : es.length = 0) : es = [] ∧ es' = [] ∧ As = [] ∧ As' = [] := by
 cases h with
 | nil => exact ⟨rfl, rfl, rfl, rfl⟩
 | cons _ _ => simp at hl
theorem A1e {cx : Cx} {k : Int} {nm : ByteArray} {num : Int} {ty fr : Ty} {lb : Int} {us : List Tm} {h : List Ty} {l : Int} {u : Tm} {a : Ty} {l2 : Int} (he : Q0 cx k nm num ty fr lb us h l = some (u, a, l2)) :
  ∃ w, M5 cx k nm ty h = some (w, a) ∧ C9 a = true ∧ u = if k = 13 then (F8 us h w l).1.getD 0 J4 else .mk k nm num ty fr lb (F8 us h w l).1 := by
 unfold Q0 at he
 split at he
 ·cases he
 ·rename_i w t hn
  simp only [Option.some.injEq, Prod.mk.injEq] at he
  obtain ⟨rfl, rfl, rfl⟩ := he
  obtain ⟨h1, h2⟩ := A8h hn
  exact ⟨w, h2, h1, rfl⟩
theorem A1f {cx : Cx} {k : Int} {nm : ByteArray} {num : Int} {ty fr : Ty} {lb : Int} {us : List Tm} {h : List Ty} {l : Int} {w : List Ty} {a : Ty} (hw : M5 cx k nm ty h = some (w, a)) (hv : C9 a = true) :
  Q0 cx k nm num ty fr lb us h l = some (if k = 13 then (F8 us h w l).1.getD 0 J4 else .mk k nm num ty fr lb (F8 us h w l).1, a, (F8 us h w l).2) := by
 unfold Q0 Y8
 rw [hw]
 simp only [hv, if_true]
theorem A8v {k : Int} {nm : ByteArray} {num : Int} {ty fr : Ty} {lb : Int} {ks : List Tm} {d : Int} (h : N7 12 14 (.mk k nm num ty fr lb ks) d = true) :
  D1 k = ks.length ∧ k ≠ 14 ∧ (¬(k = 1 ∨ k = 5) → nm = ⟨#[]⟩) ∧ (k ≠ 2 → num = 0) ∧ (k = 5 ∨ k = 13 → C9 ty = true) ∧ (¬(k = 5 ∨ k = 13) → ty = A7) ∧ fr = A7 ∧ lb = 0 ∧ M4 12 14 ks (d + 1) = true := by
 obtain ⟨_, h2, h3, h4⟩ := A0X h
 obtain ⟨n1, n2, n3, n4, n5, n6, n7, n8, n9⟩ := W8.1 h3
 exact ⟨n1, h2, n3, fun hk => by have := A2v.1 (n5 hk); omega, fun hk => n6 (by omega), fun hk => A18 (n7 (by omega)), A18 (n9 h2).1, (n9 h2).2, h4⟩
abbrev ElR (Γ : GC) (u : Tm) (a : Ty) (r : Option (Tm × Ty × Int)) : Prop := ∃ e A e' A' l2, u = e.tm ∧ a = A.ty ∧ r = some (e'.tm, A'.ty, l2) ∧ GP Γ e e' A A'
section
variable {cx cx' : Cx} {Γ : GC} {es es' : List GE} {As As' : List GT} {l l' : Int} {u : Tm} {a : Ty} {l2 : Int} {nm : ByteArray} {num : Int}
theorem B25 (hc : CxR cx cx' Γ) (he : Q0 cx 1 nm 0 A7 A7 0 [] [] l = some (u, a, l2)) : ElR Γ u a (Q0 cx' 1 nm 0 A7 A7 0 [] [] l') := by
 obtain ⟨w, hw, hv, rfl⟩ := A1e he
 unfold M5 at hw
 rw [if_pos rfl] at hw
 split at hw
 ·rename_i t ht
  cases hw
  obtain ⟨A, A', rfl, h2, h3, h4⟩ := hc _ _ ht
  refine ⟨.var nm, A, .var nm, A', l', ?_, rfl, ?_, .var h3 h4⟩
  ·rw [X2, if_neg (by decide)]; rfl
  ·rw [A1f (w := []) (a := A'.ty) (by unfold M5; rw [if_pos rfl, h2]) (A2f h4 hv), X2, if_neg (by decide)]; rfl
 ·cases hw
theorem B26 (he : Q0 cx 2 ⟨#[]⟩ num A7 A7 0 [] [] l = some (u, a, l2)) : ElR Γ u a (Q0 cx' 2 ⟨#[]⟩ num A7 A7 0 [] [] l') := by
 obtain ⟨w, hw, hv, rfl⟩ := A1e he
 cases hw
 exact ⟨.num num, .int, .num num, .int, l', by rw [X2, if_neg (by decide)]; rfl, rfl, by rw [A1f (w := []) (a := S3) rfl hv, X2, if_neg (by decide)]; rfl, .num⟩
theorem B27 (b : Bool) (he : Q0 cx (if b = true then 3 else 4) ⟨#[]⟩ 0 A7 A7 0 [] [] l = some (u, a, l2)) : ElR Γ u a (Q0 cx' (if b = true then 3 else 4) ⟨#[]⟩ 0 A7 A7 0 [] [] l') := by
 obtain ⟨w, hw, hv, rfl⟩ := A1e he
 cases b <;> (cases hw; exact ⟨.tru _, .bool, .tru _, .bool, l', by rw [X2, if_neg (by decide)]; rfl, rfl, by rw [A1f (w := []) (a := W9) rfl hv, X2, if_neg (by decide)]; rfl, .tru⟩)
theorem B28 {A A' B B' : GT} {e e' : GE} (hA : Le A A') (hp : GP (gup Γ nm A A') e e' B B') (he : Q0 cx 5 nm 0 A.ty A7 0 [e.tm] [B.ty] l = some (u, a, l2)) : ElR Γ u a (Q0 cx' 5 nm 0 A'.ty A7 0 [e'.tm] [B'.ty] l') := by
 obtain ⟨w, hw, hv, rfl⟩ := A1e he
 cases hw
 exact ⟨.lam nm A e, .fn A B, .lam nm A' e', .fn A' B', l', by rw [X2, if_neg (by decide)]; rfl, rfl, by rw [A1f (w := []) (a := .mk 4 [A'.ty, B'.ty]) rfl (A2f (.fn hA hp.le) hv), X2, if_neg (by decide)]; rfl, .lam hA hp⟩
theorem B29 {A A' B B' : GT} {e e' f f' : GE} (hp : GP Γ e e' A A') (hq : GP Γ f f' B B') (he : Q0 cx 6 ⟨#[]⟩ 0 A7 A7 0 [e.tm, f.tm] [A.ty, B.ty] l = some (u, a, l2)) : ElR Γ u a (Q0 cx' 6 ⟨#[]⟩ 0 A7 A7 0 [e'.tm, f'.tm] [A'.ty, B'.ty] l') := by
 obtain ⟨w, hw, hv, rfl⟩ := A1e he
 unfold M5 at hw
 rw [if_neg (by decide), if_neg (by decide), if_neg (by decide), if_neg (by decide), if_pos rfl] at hw
 simp only [List.getD_cons_zero, List.getD_cons_succ, A8s] at hw
 cases hm : gmF A with
 | none => rw [hm] at hw; cases hw
 | some pq =>
  obtain ⟨p, q⟩ := pq
  rw [hm] at hw
  simp only [Option.map_some] at hw
  split at hw
  ·rename_i hc
   cases hw
   obtain ⟨c1, p', q', hm', h1, h2, c2⟩ := B21 hp.le hm
   have hco := (A0I _ _).1 hc
   have hco' := hco.up hq.le h1
   obtain ⟨m, n, l1, h3⟩ := A3p e f A (.fn p q) B p l
   obtain ⟨m', n', l1', h3'⟩ := A3p e' f' A' (.fn p' q') B' p' l'
   refine ⟨.app (R4 A (.fn p q) m e) (R4 B p n f), q, .app (R4 A' (.fn p' q') m' e') (R4 B' p' n' f'), q', l1', ?_, rfl, ?_, .app (A1v hp c1 c2 (.fn h1 h2)) (A1v hq hco hco' h1)⟩
   ·rw [if_neg (by decide)]
    show Tm.mk _ _ _ _ _ _ (F8 [e.tm, f.tm] [A.ty, B.ty] [(GT.fn p q).ty, p.ty] l).1 = _
    rw [h3]; rfl
   ·rw [A1f (w := [(GT.fn p' q').ty, p'.ty]) (a := q'.ty) ?_ (A2f h2 hv), if_neg (by decide), h3']
    ·rfl
    ·unfold M5
     rw [if_neg (by decide), if_neg (by decide), if_neg (by decide), if_neg (by decide), if_pos rfl]
     simp only [List.getD_cons_zero, List.getD_cons_succ, A8s, hm', Option.map_some]
     rw [if_pos ((A0I _ _).2 hco')]; rfl
  ·cases hw
theorem B3a (s : Bool) {A A' B B' : GT} {e e' f f' : GE} (hp : GP Γ e e' A A') (hq : GP Γ f f' B B') (he : Q0 cx (if s = true then 8 else 7) ⟨#[]⟩ 0 A7 A7 0 [e.tm, f.tm] [A.ty, B.ty] l = some (u, a, l2)) : ElR Γ u a (Q0 cx' (if s = true then 8 else 7) ⟨#[]⟩ 0 A7 A7 0 [e'.tm, f'.tm] [A'.ty, B'.ty] l') := by
 have hk : (if s = true then (8 : Int) else 7) = 7 ∨ (if s = true then (8 : Int) else 7) = 8 := by cases s <;> simp
 have hT : (if (if s = true then (8 : Int) else 7) = 8 then W9 else S3) = GT.ty (if s = true then .bool else .int) := by cases s <;> rfl
 obtain ⟨w, hw, hv, rfl⟩ := A1e he
 unfold M5 at hw
 rw [if_neg (by omega), if_neg (by omega), if_neg (by omega), if_neg (by omega), if_neg (by omega), if_pos hk] at hw
 simp only [List.getD_cons_zero, List.getD_cons_succ] at hw
 split at hw
 ·rename_i hc
  rw [hT] at hw
  cases hw
  have c1 := (A0I A .int).1 hc.1
  have c2 := (A0I B .int).1 hc.2
  have d1 := c1.up hp.le Le.refl
  have d2 := c2.up hq.le Le.refl
  obtain ⟨m, n, l1, h3⟩ := A3p e f A .int B .int l
  obtain ⟨m', n', l1', h3'⟩ := A3p e' f' A' .int B' .int l'
  refine ⟨.ar s (R4 A .int m e) (R4 B .int n f), _, .ar s (R4 A' .int m' e') (R4 B' .int n' f'), _, l1', ?_, rfl, ?_, .ar (A1v hp c1 d1 .int) (A1v hq c2 d2 .int)⟩
  ·rw [if_neg (by omega)]
   show Tm.mk _ _ _ _ _ _ (F8 [e.tm, f.tm] [A.ty, B.ty] [GT.int.ty, GT.int.ty] l).1 = _
   rw [h3]; rfl
  ·rw [A1f (w := [GT.int.ty, GT.int.ty]) (a := GT.ty (if s = true then .bool else .int)) ?_ hv, if_neg (by omega), h3']
   ·rfl
   ·unfold M5
    rw [if_neg (by omega), if_neg (by omega), if_neg (by omega), if_neg (by omega), if_neg (by omega), if_pos hk]
    simp only [List.getD_cons_zero, List.getD_cons_succ]
    rw [if_pos ⟨(A0I A' .int).2 d1, (A0I B' .int).2 d2⟩, hT]; rfl
 ·cases hw
theorem B3b {A A' B B' C C' : GT} {e e' f f' g g' : GE} (hp : GP Γ e e' A A') (hq : GP Γ f f' B B') (hr : GP Γ g g' C C') (he : Q0 cx 9 ⟨#[]⟩ 0 A7 A7 0 [e.tm, f.tm, g.tm] [A.ty, B.ty, C.ty] l = some (u, a, l2)) :
  ElR Γ u a (Q0 cx' 9 ⟨#[]⟩ 0 A7 A7 0 [e'.tm, f'.tm, g'.tm] [A'.ty, B'.ty, C'.ty] l') := by
 obtain ⟨w, hw, hv, rfl⟩ := A1e he
 unfold M5 at hw
 rw [if_neg (by decide), if_neg (by decide), if_neg (by decide), if_neg (by decide), if_neg (by decide), if_neg (by decide), if_pos rfl] at hw
 simp only [List.getD_cons_zero, List.getD_cons_succ] at hw
 split at hw
 ·rename_i hc
  have c1 := (A0I A .bool).1 hc.1
  have c2 := (A0I B C).1 hc.2
  have d1 := c1.up hp.le Le.refl
  have d2 := c2.up hq.le hr.le
  rw [A8r c2] at hw
  cases hw
  have hM := B2Z c2 hq.le hr.le
  obtain ⟨m, n, o, l1, h3⟩ := A8u e f g A .bool B (Q8 B C) C (Q8 B C) l
  obtain ⟨m', n', o', l1', h3'⟩ := A8u e' f' g' A' .bool B' (Q8 B' C') C' (Q8 B' C') l'
  refine ⟨.ite (R4 A .bool m e) (R4 B (Q8 B C) n f) (R4 C (Q8 B C) o g), Q8 B C, .ite (R4 A' .bool m' e') (R4 B' (Q8 B' C') n' f') (R4 C' (Q8 B' C') o' g'), Q8 B' C', l1', ?_, rfl, ?_,
   .ite (A1v hp c1 d1 .bool) (A1v hq (A4k c2).co.symm (A4k d2).co.symm hM) (A1v hr (A4l c2).co.symm (A4l d2).co.symm hM)⟩
  ·rw [if_neg (by decide)]
   show Tm.mk _ _ _ _ _ _ (F8 [e.tm, f.tm, g.tm] [A.ty, B.ty, C.ty] [GT.bool.ty, (Q8 B C).ty, (Q8 B C).ty] l).1 = _
   rw [h3]; rfl
  ·rw [A1f (w := [GT.bool.ty, (Q8 B' C').ty, (Q8 B' C').ty]) (a := (Q8 B' C').ty) ?_ (A2f hM hv), if_neg (by decide), h3']
   ·rfl
   ·unfold M5
    rw [if_neg (by decide), if_neg (by decide), if_neg (by decide), if_neg (by decide), if_neg (by decide), if_neg (by decide), if_pos rfl]
    simp only [List.getD_cons_zero, List.getD_cons_succ]
    rw [if_pos ⟨(A0I A' .bool).2 d1, (A0I B' C').2 d2⟩, A8r d2]; rfl
 ·cases hw
theorem B3c {A A' B B' : GT} {e e' f f' : GE} (hp : GP Γ e e' A A') (hq : GP Γ f f' B B') (he : Q0 cx 10 ⟨#[]⟩ 0 A7 A7 0 [e.tm, f.tm] [A.ty, B.ty] l = some (u, a, l2)) : ElR Γ u a (Q0 cx' 10 ⟨#[]⟩ 0 A7 A7 0 [e'.tm, f'.tm] [A'.ty, B'.ty] l') := by
 obtain ⟨w, hw, hv, rfl⟩ := A1e he
 cases hw
 exact ⟨.pair e f, .pr A B, .pair e' f', .pr A' B', l', by rw [X2, if_neg (by decide)]; rfl, rfl, by rw [A1f (w := []) (a := .mk 5 [A'.ty, B'.ty]) rfl (A2f (.pr hp.le hq.le) hv), X2, if_neg (by decide)]; rfl, .pair hp hq⟩
theorem B3d (s : Bool) {A A' : GT} {e e' : GE} (hp : GP Γ e e' A A') (he : Q0 cx (if s = true then 12 else 11) ⟨#[]⟩ 0 A7 A7 0 [e.tm] [A.ty] l = some (u, a, l2)) : ElR Γ u a (Q0 cx' (if s = true then 12 else 11) ⟨#[]⟩ 0 A7 A7 0 [e'.tm] [A'.ty] l') := by
 have hk : (if s = true then (12 : Int) else 11) = 11 ∨ (if s = true then (12 : Int) else 11) = 12 := by cases s <;> simp
 have hT : ∀ p q : GT, (if (if s = true then (12 : Int) else 11) = 12 then q.ty else p.ty) = GT.ty (if s = true then q else p) := by intro p q; cases s <;> rfl
 obtain ⟨w, hw, hv, rfl⟩ := A1e he
 unfold M5 at hw
 rw [if_neg (by omega), if_neg (by omega), if_neg (by omega), if_neg (by omega), if_neg (by omega), if_neg (by omega), if_neg (by omega), if_neg (by omega), if_neg (by omega)] at hw
 simp only [List.getD_cons_zero, A8t] at hw
 cases hm : gmP A with
 | none => rw [hm] at hw; cases hw
 | some pq =>
  obtain ⟨p, q⟩ := pq
  rw [hm] at hw
  simp only [Option.map_some, hT] at hw
  cases hw
  obtain ⟨c1, p', q', hm', h1, h2, c2⟩ := B22 hp.le hm
  obtain ⟨m, l1, h3⟩ := A3o e A (.pr p q) l
  obtain ⟨m', l1', h3'⟩ := A3o e' A' (.pr p' q') l'
  refine ⟨.part s (R4 A (.pr p q) m e), _, .part s (R4 A' (.pr p' q') m' e'), _, l1', ?_, rfl, ?_, .part (A1v hp c1 c2 (.pr h1 h2))⟩
  ·rw [if_neg (by omega)]
   show Tm.mk _ _ _ _ _ _ (F8 [e.tm] [A.ty] [(GT.pr p q).ty] l).1 = _
   rw [h3]; rfl
  ·rw [A1f (w := [(GT.pr p' q').ty]) (a := GT.ty (if s = true then q' else p')) ?_ (A2f (by cases s; exact h1; exact h2) hv), if_neg (by omega), h3']
   ·rfl
   ·unfold M5
    rw [if_neg (by omega), if_neg (by omega), if_neg (by omega), if_neg (by omega), if_neg (by omega), if_neg (by omega), if_neg (by omega), if_neg (by omega), if_neg (by omega)]
    simp only [List.getD_cons_zero, A8t, hm', Option.map_some, hT]; rfl
theorem B3e {A A' B B' : GT} {e e' : GE} (hB : Le B B') (hp : GP Γ e e' A A') (he : Q0 cx 13 ⟨#[]⟩ 0 B.ty A7 0 [e.tm] [A.ty] l = some (u, a, l2)) : ElR Γ u a (Q0 cx' 13 ⟨#[]⟩ 0 B'.ty A7 0 [e'.tm] [A'.ty] l') := by
 obtain ⟨w, hw, hv, rfl⟩ := A1e he
 unfold M5 at hw
 rw [if_neg (by decide), if_neg (by decide), if_neg (by decide), if_neg (by decide), if_neg (by decide), if_neg (by decide), if_neg (by decide), if_neg (by decide), if_pos rfl] at hw
 simp only [List.getD_cons_zero] at hw
 split at hw
 ·rename_i hc
  cases hw
  have c1 := (A0I A B).1 hc
  have d1 := c1.up hp.le hB
  obtain ⟨m, l1, h3⟩ := A3o e A B l
  obtain ⟨m', l1', h3'⟩ := A3o e' A' B' l'
  refine ⟨R4 A B m e, B, R4 A' B' m' e', B', l1', ?_, rfl, ?_, A1v hp c1 d1 hB⟩
  ·rw [if_pos rfl, h3]; rfl
  ·rw [A1f (w := [B'.ty]) (a := B'.ty) ?_ (A2f hB hv), if_pos rfl, h3']
   ·rfl
   ·unfold M5
    rw [if_neg (by decide), if_neg (by decide), if_neg (by decide), if_neg (by decide), if_neg (by decide), if_neg (by decide), if_neg (by decide), if_neg (by decide), if_pos rfl]
    simp only [List.getD_cons_zero]
    rw [if_pos ((A0I A' B').2 d1)]
 ·cases hw
end
theorem B3f (ks : List Tm) (ih : ∀ t ∈ ks, ∀ (t' : Tm) (d : Int) (cx cx' : Cx) (Γ : GC) (l l' : Int) (u : Tm) (a : Ty) (l2 : Int), N7 12 14 t d = true → N7 12 14 t' d = true → A1d t t' = true → CxR cx cx' Γ → N1 cx t l = some (u, a, l2) → ElR Γ u a (N1 cx' t' l')) :
  ∀ (ks' : List Tm) (d : Int) (cx cx' : Cx) (Γ : GC) (l l' : Int) (us : List Tm) (h : List Ty) (l2 : Int), M4 12 14 ks d = true → M4 12 14 ks' d = true → Z5 ks ks' = true → CxR cx cx' Γ → M0 cx ks l = some (us, h, l2) →
   ∃ es As es' As' l2', us = es.map GE.tm ∧ h = As.map GT.ty ∧ M0 cx' ks' l' = some (es'.map GE.tm, As'.map GT.ty, l2') ∧ GPL Γ es es' As As' := by
 induction ks with
 | nil =>
  intro ks' d cx cx' Γ l l' us h l2 _ _ hp _ he
  cases ks' with
  | cons _ _ => cases hp
  | nil =>
   rw [M0] at he
   cases he
   exact ⟨[], [], [], [], l', rfl, rfl, by rw [M0]; rfl, .nil⟩
 | cons t ts ihl =>
  intro ks' d cx cx' Γ l l' us h l2 hs hs' hp hc he
  cases ks' with
  | nil => cases hp
  | cons t' ts' =>
   rw [M4, Bool.and_eq_true] at hs hs'
   rw [Z5, Bool.and_eq_true] at hp
   rw [M0] at he ⊢
   split at he
   ·cases he
   ·rename_i u a l1 h1
    split at he
    ·cases he
    ·rename_i us' h' l3 h2
     cases he
     obtain ⟨e, A, e', A', m, rfl, rfl, h3, h4⟩ := ih t List.mem_cons_self t' d cx cx' Γ l l' u a l1 hs.1 hs'.1 hp.1 hc h1
     obtain ⟨es, As, es', As', m2, rfl, rfl, h5, h6⟩ := ihl (fun x hx => ih x (List.mem_cons_of_mem _ hx)) ts' d cx cx' Γ l1 m us' h' l2 hs.2 hs'.2 hp.2 hc h2
     rw [h3]
     simp only [h5]
     exact ⟨e :: es, A :: As, e' :: es', A' :: As', m2, rfl, rfl, rfl, .cons h4 h6⟩
theorem A5C {cx : Cx} : ∀ {ks : List Tm} {l : Int} {us : List Tm} {h : List Ty} {l2 : Int}, M0 cx ks l = some (us, h, l2) → us.length = ks.length
 | [], _, _, _, _, h => by rw [M0] at h; cases h; rfl
 | t :: ts, _, _, _, _, h => by
  rw [M0] at h
  split at h
  ·cases h
  ·split at h
   ·cases h
   ·rename_i h2; cases h; simp [A5C h2]
theorem B3g : ∀ (t t' : Tm) (d : Int) (cx cx' : Cx) (Γ : GC) (l l' : Int) (u : Tm) (a : Ty) (l2 : Int), N7 12 14 t d = true → N7 12 14 t' d = true → A1d t t' = true → CxR cx cx' Γ → N1 cx t l = some (u, a, l2) → ElR Γ u a (N1 cx' t' l') := by
 refine Tm.ind fun k nm num ty fr lb ks ih t' d cx cx' Γ l l' u a l2 hs hs' hp hc he => ?_
 obtain ⟨k', nm', num', ty', fr', lb', ks'⟩ := t'
 obtain ⟨rfl, rfl, rfl, hty, hpk⟩ := A3n.1 hp
 obtain ⟨n1, n2, n3, n4, n5, n6, n7, n8, n9⟩ := A8v hs
 obtain ⟨m1, m2, m3, m4, m5, m6, m7, m8, m9⟩ := A8v hs'
 subst n7 n8 m7 m8
 rw [N1] at he ⊢
 split at he
 ·cases he
 ·rename_i us h l1 hL
  
  have key : ∀ Δ, CxR (O6 cx k nm ty) (O6 cx' k nm ty') Δ → ∃ es As es' As' l2', us = es.map GE.tm ∧ h = As.map GT.ty ∧ M0 (O6 cx' k nm ty') ks' l' = some (es'.map GE.tm, As'.map GT.ty, l2') ∧ GPL Δ es es' As As' :=
   fun Δ hD => B3f ks ih ks' (d + 1) _ _ Δ l l' us h l1 n9 m9 hpk hD hL
  by_cases h5 : k = 5
  ·subst h5
   obtain ⟨A, rfl⟩ := A1M ty (n5 (.inl rfl))
   obtain ⟨A', rfl⟩ := A1M ty' (m5 (.inl rfl))
   have hA := (A8q A A').1 (hty (.inl rfl))
   obtain rfl := n4 (by decide)
   obtain ⟨es, As, es', As', l3, rfl, rfl, e1, e2⟩ := key (gup Γ nm A A') (by rw [O6, O6, if_pos rfl, if_pos rfl]; exact B24 hc hA nm)
   have hlen : es.length = 1 := by
    have h1 := A5C hL
    rw [List.length_map] at h1
    have : D1 5 = 1 := rfl
    omega
   obtain ⟨e, e', B, B', rfl, rfl, rfl, rfl, hq⟩ := e2.one hlen
   rw [e1]
   exact B28 hA hq he
  ·obtain ⟨es, As, es', As', l3, rfl, rfl, e1, e2⟩ := key Γ (by rw [O6, O6, if_neg h5, if_neg h5]; exact hc)
   have hlen : (es.length : Int) = D1 k := by
    have h1 := A5C hL
    rw [List.length_map] at h1
    omega
   rw [e1]
   have hk : 1 ≤ k ∧ k ≤ 14 := by
    apply Classical.byContradiction
    intro hk
    rw [A3P hk] at n1; omega
   by_cases h1 : k = 1
   ·subst h1
    obtain rfl := n4 (by decide)
    obtain rfl := n6 (by decide)
    obtain rfl := m6 (by decide)
    obtain ⟨rfl, rfl, rfl, rfl⟩ := e2.zero (by have : D1 1 = 0 := rfl; omega)
    exact B25 hc he
   obtain rfl := n3 (by omega)
   by_cases h2 : k = 2
   ·subst h2
    obtain rfl := n6 (by decide)
    obtain rfl := m6 (by decide)
    obtain ⟨rfl, rfl, rfl, rfl⟩ := e2.zero (by have : D1 2 = 0 := rfl; omega)
    exact B26 he
   obtain rfl := n4 h2
   by_cases h13 : k = 13
   ·subst h13
    obtain ⟨B, rfl⟩ := A1M ty (n5 (.inr rfl))
    obtain ⟨B', rfl⟩ := A1M ty' (m5 (.inr rfl))
    obtain ⟨e, e', A, A', rfl, rfl, rfl, rfl, hq⟩ := e2.one (by have : D1 13 = 1 := rfl; omega)
    exact B3e ((A8q B B').1 (hty (.inr rfl))) hq he
   obtain rfl := n6 (by omega)
   obtain rfl := m6 (by omega)
   by_cases h34 : k = 3 ∨ k = 4
   ·obtain ⟨b, rfl⟩ : ∃ b : Bool, k = if b = true then 3 else 4 := by rcases h34 with h | h; exact ⟨true, h⟩; exact ⟨false, h⟩
    obtain ⟨rfl, rfl, rfl, rfl⟩ := e2.zero (by have : D1 (if b = true then 3 else 4) = 0 := (by cases b <;> rfl); omega)
    exact B27 b he
   by_cases h6 : k = 6
   ·subst h6
    obtain ⟨e, e', A, A', f, f', B, B', rfl, rfl, rfl, rfl, hp1, hp2⟩ := e2.two (by have : D1 6 = 2 := rfl; omega)
    exact B29 hp1 hp2 he
   by_cases h78 : k = 7 ∨ k = 8
   ·obtain ⟨b, rfl⟩ : ∃ b : Bool, k = if b = true then 8 else 7 := by rcases h78 with h | h; exact ⟨false, h⟩; exact ⟨true, h⟩
    obtain ⟨e, e', A, A', f, f', B, B', rfl, rfl, rfl, rfl, hp1, hp2⟩ := e2.two (by have : D1 (if b = true then 8 else 7) = 2 := (by cases b <;> rfl); omega)
    exact B3a b hp1 hp2 he
   by_cases h9 : k = 9
   ·subst h9
    obtain ⟨e, e', A, A', f, f', B, B', g, g', C, C', rfl, rfl, rfl, rfl, hp1, hp2, hp3⟩ := e2.three (by have : D1 9 = 3 := rfl; omega)
    exact B3b hp1 hp2 hp3 he
   by_cases h10 : k = 10
   ·subst h10
    obtain ⟨e, e', A, A', f, f', B, B', rfl, rfl, rfl, rfl, hp1, hp2⟩ := e2.two (by have : D1 10 = 2 := rfl; omega)
    exact B3c hp1 hp2 he
   have h11 : k = 11 ∨ k = 12 := by omega
   obtain ⟨b, rfl⟩ : ∃ b : Bool, k = if b = true then 12 else 11 := by rcases h11 with h | h; exact ⟨false, h⟩; exact ⟨true, h⟩
   obtain ⟨e, e', A, A', rfl, rfl, rfl, rfl, hp1⟩ := e2.one (by have : D1 (if b = true then 12 else 11) = 1 := (by cases b <;> rfl); omega)
   exact B3d b hp1 he
theorem B3h {a b u : Tm} {t : Ty} (ha : V4 a = some (u, t)) (hp : A0t a b = true) : ∃ e e' A A', u = e.tm ∧ t = A.ty ∧ V4 b = some (e'.tm, A'.ty) ∧ GP M7 e e' A A' := by
 unfold A0t at hp
 rw [Bool.and_eq_true, Bool.and_eq_true] at hp
 unfold V4 at ha ⊢
 rw [if_pos hp.1] at ha
 rw [if_pos hp.2.1]
 split at ha
 ·rename_i u' t' l' he
  cases ha
  obtain ⟨e, A, e', A', l2, rfl, rfl, h1, h2⟩ := B3g a b 1 [] [] M7 0 0 u t l' ((Y9 a).1 hp.1).1 ((Y9 b).1 hp.2.1).1 hp.2.2 B23 he
  rw [h1]
  exact ⟨e, e', A, A', rfl, rfl, rfl, h2⟩
 ·cases ha
theorem B3i (G : IM) (p : Option Addr) (n c : Nat) (es : List (List Value)) (hsl : B9 G p n c 9 es) (fid : FuncId) [B2 Tryz.prog fid] (us cs : List Value) (ins : List A4) (q : Nat → Bool)
  (hq : ∀ i e, es[i]? = some e → Fn Tryz.prog fid (us ++ [.agg ⟨e⟩] ++ cs) ins G (T1 (.bool (q i)) ins G)) :
  Fn Tryz.prog 136 [.slice p n c, .func (.func fid) ⟨us⟩ ⟨cs⟩] ins G (T1 (.int .i64 (Y5 q n)) ins G) := by
 have hn := hsl.le
 refine B7 Tryz.func136 rfl Tryz.ntmps136 Tryz.results136 rfl ?_
 intro w0
 refine L7 ?_
 refine B6 ?_
 refine J3 (fun i : Nat => ⟨[(8, .int .i64 i), (7, .int .i64 n), (1, .func (.func fid) ⟨us⟩ ⟨cs⟩), (0, .slice p n c)], ins, G⟩) (fun i => i ≤ n ∧ ∀ j, j < i → q j = false) (fun i => n - i) 0 ?_ ?_ ?_
 exact C5
 exact ⟨by omega, by omega⟩
 rintro i ⟨hi, hf⟩
 refine tS (tR ?_)
 refine sB (J6 rfl rfl) rfl rfl (fun h21 => ?_) (fun h21 => ?_)
 refine sD (nS (tS (qT rfl (tK (nS (tS ?_))))))
 refine B6 ?_
 refine K6 ?_
 (obtain ⟨e, b, o, he, rfl, hl, _, hat, _⟩ := hsl.get (i := i) (by omega); refine sP (B4 rfl rfl rfl (by omega)) rfl rfl ?_)
 refine sL (A5 rfl rfl (hat _) hl) rfl rfl ?_
 refine A3J rfl rfl (hq i e he) A0g rfl rfl (fun h43 => ?_) (fun h43 => ?_)
 refine I4 ?_
 refine H0 (rT rfl) A0.refl ?_
 exact ⟨rfl, by rw [A4T (by omega) hf (by assumption)], rfl⟩
 refine sD (nS (cF rfl (tK (M9 (nS (tR ?_))))))
 refine sP (I2 rfl rfl (by omega) (by omega)) rfl rfl ?_
 refine sQ (qM rfl) rfl (sD ?_)
 refine I9 (i + 1) ?_ ?_ ?_
 exact C5
 exact ⟨by omega, fun j hj => by by_cases hji : j = i; (subst hji; assumption); exact hf j (by omega)⟩
 omega
 refine I4 ?_
 refine H0 (rT rfl) A0.refl ?_
 exact ⟨rfl, by rw [A2Y (fun j hj => hf j (by omega))], rfl⟩
theorem B3j (G : IM) (p : Option Addr) (n c : Nat) (es : List (List Value)) (hsl : B9 G p n c 9 es) (fid : FuncId) [B2 Tryz.prog fid] (us cs : List Value) (ins : List A4) (q : Nat → Bool)
  (hq : ∀ i e, es[i]? = some e → Fn Tryz.prog fid (us ++ [.agg ⟨e⟩] ++ cs) ins G (T1 (.bool (q i)) ins G)) :
  Fn Tryz.prog 126 [.slice p n c, .func (.func fid) ⟨us⟩ ⟨cs⟩] ins G (T1 (.bool (decide (0 ≤ Y5 q n))) ins G) := by
 refine B7 Tryz.func126 rfl Tryz.ntmps126 Tryz.results126 rfl ?_
 intro w0
 refine D2 ?_
 refine A1Z rfl (B3i G p n c es hsl fid us cs ins q hq) A0g rfl rfl ?_
 refine sQ (A0Q rfl rfl) rfl ?_
 refine sQ (qA rfl) rfl (sD (nS (tT ?_)))
 refine H0 (rT rfl) A0.refl ?_
 exact ⟨rfl, rfl, rfl⟩
theorem B3k (G : IM) (p : Option Addr) (n c : Nat) (es : List (List Value)) (hsl : B9 G p n c 9 es) (fid : FuncId) [B2 Tryz.prog fid] (us cs : List Value) (ins : List A4) (f : Tm → Bool) (ks : List Tm)
  (hn : ks.length = n) {A : Bool} (hA : ks.all f = A) (hq : ∀ i e, es[i]? = some e → Fn Tryz.prog fid (us ++ [.agg ⟨e⟩] ++ cs) ins G (T1 (.bool (!f (ks.getD i J4))) ins G)) :
  Fn Tryz.prog 126 [.slice p n c, .func (.func fid) ⟨us⟩ ⟨cs⟩] ins G (T1 (.bool (!A)) ins G) := by
 subst hn hA
 rw [← A6J f ks J4]
 exact B3j G p _ c es hsl fid us cs ins _ hq
theorem A8w : ∀ ks, A0Z ks = ks.all H7
 | [] => rfl
 | t :: ts => by rw [A0Z, A8w ts, List.all_cons]
theorem B3l (t : Tm) (G : IM) (cells : List Value) (hl : cells.length = 9) (ho : cells.all (·.oneCell') = true) (h : Fn Tryz.prog 110 [.agg ⟨cells⟩] [] G (H9 (.bool (H7 t)) G)) :
  Fn Tryz.prog 127 [.agg ⟨cells⟩] [] G (T1 (.bool (!H7 t)) [] G) := by
 refine B7 Tryz.func127 rfl Tryz.ntmps127 Tryz.results127 rfl ?_
 intro w0
 refine tS (tR ?_)
 refine sE (C2 rfl rfl) rfl (fun b3 => ?_)
 refine sQ (qA rfl) rfl (sD (nS (tS (tR ?_))))
 refine sL (A5 rfl rfl (B5 (by repeat first | exact mH | apply mT)) hl) rfl rfl ?_
 refine H2 rfl (h) rfl rfl ?_
 refine sQ (A2i rfl) rfl ?_
 refine sQ (qA rfl) rfl (sD (nS (tT (F0 (rT rfl) ?_))))
 (exact ⟨rfl, rfl, rfl⟩)
theorem A2F (k : Int) (nm : ByteArray) (num : Int) (ty fr : Ty) (lb : Int) (ks : List Tm) : W1 (.mk k nm num ty fr lb ks) = decide (k = 14 ∧ fr.k = ty.k ∧ (ty.k = 4 ∨ ty.k = 5)) := rfl
theorem A5D (k : Int) (nm : ByteArray) (num : Int) (ty fr : Ty) (lb : Int) (ks : List Tm) : inj (.mk k nm num ty fr lb ks) = (decide (k = 14 ∧ ty.k = 1) && W0 fr) := rfl
theorem A5E {k : Int} {nm : ByteArray} {num : Int} {ty fr : Ty} {lb : Int} {ks : List Tm} (h : k = 10 ∨ W1 (.mk k nm num ty fr lb ks) = true ∨ inj (.mk k nm num ty fr lb ks) = true) : H7 (.mk k nm num ty fr lb ks) = ks.all H7 := by
 rw [H7, if_pos, A8w]
 rw [A2F, A5D] at h
 simp only [Bool.and_eq_true, decide_eq_true_eq] at h
 rcases h with h | h | h
 ·exact .inl h
 ·exact .inr (.inl h)
 ·exact .inr (.inr ⟨h.1.1, h.1.2, h.2⟩)
theorem A8x {k : Int} {nm : ByteArray} {num : Int} {ty fr : Ty} {lb : Int} {ks : List Tm} (h : ¬k = 10) (h2 : W1 (.mk k nm num ty fr lb ks) = false) (h3 : inj (.mk k nm num ty fr lb ks) = false) : H7 (.mk k nm num ty fr lb ks) = decide (k = 2 ∨ k = 3 ∨ k = 4 ∨ k = 5) := by
 rw [H7, if_neg]
 rw [A2F] at h2
 rw [A5D] at h3
 simp only [Bool.and_eq_false_iff, decide_eq_false_iff_not] at h2 h3
 rintro (h' | h' | h')
 ·exact h h'
 ·exact h2 h'
 ·rcases h3 with h3 | h3
  ·exact h3 ⟨h'.1, h'.2.1⟩
  ·rw [h3] at h'; cases h'.2.2
theorem A8y : ∀ (t : Tm) (G : IM) (cells : List Value), A9 G t cells → Fn Tryz.prog 110 [.agg ⟨cells⟩] [] G (H9 (.bool (H7 t)) G) := by
 refine Tm.ind fun k nm num ty fr lb ks ih G cells hr => ?_
 have hr0 := hr
 have hP := A2b _ G _ hr
 have hI := A3g _ G _ hr
 have hPl := B18 _ G _ hr
 have hy := @A5E k nm num ty fr lb ks
 have hn := @A8x k nm num ty fr lb ks
 rw [show (Tm.mk k nm num ty fr lb ks).k = k from rfl] at hPl
 obtain ⟨A, hA⟩ : ∃ A, ks.all H7 = A := ⟨_, rfl⟩
 rw [hA] at hy
 generalize hpx : W1 (.mk k nm num ty fr lb ks) = bp at hP hy hn
 generalize hij : inj (.mk k nm num ty fr lb ks) = bi at hI hy hn
 generalize H7 (.mk k nm num ty fr lb ks) = R at hy hn ⊢
 obtain ⟨tk, tks⟩ := ty
 obtain ⟨fk, fks⟩ := fr
 obtain ⟨pt, ct, pf, cf, p, c, es, rfl, hk, hnum, hlb, hty, hfr, hsl, hkl⟩ := hr.open9
 have hC := B3k G p ks.length c es hsl 127 [] [] [] H7 ks rfl hA (fun i e he => by
  have hx := hkl.inv he J4
  exact B3l _ G e hx.2.len hx.2.one (ih _ hx.1 G e hx.2))
 refine B7 Tryz.func110 rfl Tryz.ntmps110 Tryz.results110 rfl ?_
 intro w0
 refine tS (tR ?_)
 refine sE (C2 rfl rfl) rfl (fun b3 => ?_)
 refine D7 ?_
 refine sB (qE rfl rfl) rfl rfl (fun h12 => ?_) (fun h12 => ?_)
 refine I4 ?_
 refine A1Z rfl hC A0g rfl rfl ?_
 refine sQ (A2i rfl) rfl ?_
 refine sQ (qA rfl) rfl (sD (nS (tT (rS (F0 (rT rfl) ?_)))))
 (exact ⟨rfl, by rw [hy (by first | exact .inl (by omega) | exact .inr (.inl (by assumption)) | exact .inr (.inr (by assumption)))]; cases A <;> rfl, rfl⟩)
 refine sQ (qM rfl) rfl (sL (A2 rfl rfl) rfl rfl ?_)
 refine H3 rfl (hP) rfl rfl (fun h39 => ?_) (fun h39 => ?_)
 refine N8 ?_
 refine A1Z rfl hC A0g rfl rfl ?_
 refine sQ (A2i rfl) rfl ?_
 refine sQ (qA rfl) rfl (sD (nS (tT (rS (F0 (rT rfl) ?_)))))
 (exact ⟨rfl, by rw [hy (by first | exact .inl (by omega) | exact .inr (.inl (by assumption)) | exact .inr (.inr (by assumption)))]; cases A <;> rfl, rfl⟩)
 refine J0 ?_
 refine H3 rfl (hI) rfl rfl (fun h64 => ?_) (fun h64 => ?_)
 refine D7 ?_
 refine A1Z rfl hC A0g rfl rfl ?_
 refine sQ (A2i rfl) rfl ?_
 refine sQ (qA rfl) rfl (sD (nS (tT (rS (F0 (rT rfl) ?_)))))
 (exact ⟨rfl, by rw [hy (by first | exact .inl (by omega) | exact .inr (.inl (by assumption)) | exact .inr (.inr (by assumption)))]; cases A <;> rfl, rfl⟩)
 refine D2 ?_
 refine H2 rfl (hPl) rfl rfl ?_
 refine sQ (qA rfl) rfl (sD (nS (tT (F0 (rT rfl) ?_))))
 (exact ⟨rfl, by rw [hn (by omega) (by assumption) (by assumption)], rfl⟩)
theorem A9.put {G : IM} {k : Int} {nm : ByteArray} {num tk fk lb : Int} {tks fks : List Ty} {us : List Tm} {pt pf p : Option Addr} {ct cf n c : Nat} {es : List (List Value)} (hk : D9 k) (hnum : D9 num) (hlb : D9 lb) (hty : B3 G (.mk tk tks) [.int .i64 tk, .slice pt tks.length ct]) (hfr : B3 G (.mk fk fks) [.int .i64 fk, .slice pf fks.length cf])
  (hn : n = us.length) (hs : B9 G p n c 9 es) (hr : C8 G us es) : A9 G (.mk k nm num (.mk tk tks) (.mk fk fks) lb us) [.int .i64 k, .string nm, .int .i64 num, .int .i64 tk, .slice pt tks.length ct, .int .i64 fk, .slice pf fks.length cf, .int .i64 lb, .slice p n c] := by
 subst hn
 simp only [A9]
 exact ⟨_, _, p, c, es, rfl, hk, hnum, hlb, hty, hfr, hs, hr⟩
theorem nine {uc : List Value} (h : uc.length = 9) : ∃ v1 v2 v3 v4 v5 v6 v7 v8 v9, uc = [v1, v2, v3, v4, v5, v6, v7, v8, v9] := by
 match uc, h with
 | [a, b, c, d, e, f, g, i, j], _ => exact ⟨a, b, c, d, e, f, g, i, j, rfl⟩
theorem A5F {x : ByteArray} {v : Tm} {ks : List Tm} {i : Nat} (h : i < ks.length) : (V1 x v ks).take (i + 1) = (V1 x v ks).take i ++ [W2 x v ks[i]] := by
 rw [A5j, List.take_succ_eq_append_getElem (by rw [List.length_map]; exact h), List.getElem_map]
theorem A1w (x : ByteArray) (v : Tm) (ks : List Tm) : (V1 x v ks).length = ks.length := by rw [A5j, List.length_map]
theorem B3m (y : ByteArray) (v : Tm) (vc : List Value) : ∀ (t : Tm) (G : IM) (cells : List Value), t.small → A9 G t cells → A9 G v vc → Fn Tryz.prog 137 [.agg ⟨cells⟩, .string y, .agg ⟨vc⟩] [] G (TmP (W2 y v t)) := by
 refine Tm.ind fun k nm num ty fr lb ks ih G cells hts hr hv => ?_
 have hr0 := hr
 obtain ⟨_, _, _, hsm, hks⟩ := A3b.1 hts
 have hvl := hv.len
 have hvo := hv.one
 have hRl := hr.len
 have hRo := hr.one
 rw [W2]
 obtain ⟨tk, tks⟩ := ty
 obtain ⟨fk, fks⟩ := fr
 obtain ⟨pt, ct, pf, cf, p, c, es, rfl, hk, hnum, hlb, hty, hfr, hsl, hkl⟩ := hr.open9
 have hn := hsl.le
 refine B7 Tryz.func137 rfl Tryz.ntmps137 Tryz.results137 rfl ?_
 intro w0
 refine tS (tR ?_)
 refine sE (C2 rfl rfl) rfl (fun b3 => ?_)
 refine sE (C2 rfl rfl) rfl (fun b4 => ?_)
 refine sE (A6 rfl) rfl (fun b5 => ?_)
 refine sD (nS (tS ?_))
 refine B6 ?_
 refine tS (tR (sQ (B8 rfl) rfl (sL (C7 rfl rfl) rfl rfl ?_)))
 refine sB (qE rfl rfl) rfl rfl (fun h14 => ?_) (fun h14 => ?_)
 refine J5 ?_
 refine sB (A2k rfl rfl) rfl rfl (fun h19 => ?_) (fun h19 => ?_)
 refine D0 ?_
 refine sL (A5 rfl rfl (B5 (by repeat first | exact mH | apply mT)) hvl) rfl rfl ?_
 refine sS rfl rfl rfl hvl hvo rfl ?_ (hu := by exact D5 hvl.symm)
 refine sD (nS (tT (rB (rS ?_))))
 refine F0 (rC rfl (A5 rfl rfl (B5 (by repeat first | exact mH | apply mT)) hvl)) ?_
 (rw [if_pos (by refine ⟨by omega, by assumption⟩)]; exact TmP.mk hv)
 refine D2 ?_
 refine sP (I3 rfl rfl (by omega)) rfl rfl ?_
 refine K8 ?_
 refine sE (A6 rfl) rfl (fun b62 => ?_)
 refine V7 ?_
 refine B6 ?_
 (refine T7 28 9 ?_; refine J3 (fun (x : Nat × Option Addr × Nat × List (List Value) × IM) => ⟨[(37, .int .i64 x.1), (36, .int .i64 ks.length), (35, .slice p ks.length c), (1, .string y), (3, .pointer (some ⟨b3, 0, none⟩)), (5, .pointer (some ⟨b4, 0, none⟩)), (6, .pointer (some ⟨b5, 0, none⟩)), (7, .pointer (some ⟨b62, 0, none⟩))], [.blk b62 [.int .i64 k, .string nm, .int .i64 num, .int .i64 tk, .slice pt tks.length ct, .int .i64 fk, .slice pf fks.length cf, .int .i64 lb, .slice x.2.1 x.1 x.2.2.1], .slc x.2.1 x.2.2.1 28 9 x.1 x.2.2.2.1.flatten, .blk b5 [.int .i64 0, .string ⟨⟨[]⟩⟩, .int .i64 0, .int .i64 0, .slice none 0 0, .int .i64 0, .slice none 0 0, .int .i64 0, .slice none 0 0], .blk b4 vc, .blk b3 [.int .i64 k, .string nm, .int .i64 num, .int .i64 tk, .slice pt tks.length ct, .int .i64 fk, .slice pf fks.length cf, .int .i64 lb, .slice p ks.length c]], x.2.2.2.2⟩) (fun x => x.1 ≤ ks.length ∧ B1 G x.2.2.2.2 ∧ C8 x.2.2.2.2 ((V1 y v ks).take x.1) x.2.2.2.1) (fun x => ks.length - x.1) (0, none, 0, [], G) ?_ ?_ ?_)
 (simp only [E2]; exact C5)
 (exact ⟨Nat.zero_le _, B1.refl _, by simp [C8]⟩)
 (rintro ⟨i, pn, cn, es', Gi⟩ ⟨hi, hle, hst⟩; simp only [] at hi hle hst ⊢; replace hsl := hsl.mono hle; replace hkl := hkl.mono hle; replace hv := hv.mono hle; replace hty := hty.mono hle; replace hfr := hfr.mono hle; have hsl' := hst.len; rw [List.length_take, A1w] at hsl')
 refine tS (tR ?_)
 refine sB (J6 rfl rfl) rfl rfl (fun h88 => ?_) (fun h88 => ?_)
 refine sD (nS (tS (qT rfl (tK (nS (tS ?_))))))
 refine B6 ?_
 refine tS (tR ?_)
 (have hil : i < ks.length := (by omega); obtain ⟨bx, ox, e, rfl, hl, hat, hre, hgb⟩ := hsl.kidTm hkl (i := i) (by omega) (by omega); have hel := hre.len; have heo := hre.one; refine sP (B4 (j := i) rfl rfl rfl (by omega)) rfl rfl ?_)
 refine sL (A5 rfl rfl (hat _) hl) rfl rfl ?_
 refine sE (A6 rfl) rfl (fun b101 => ?_)
 refine sS rfl rfl rfl hel heo rfl ?_ (hu := by exact D5 hel.symm)
 refine sD (nS ?_)
 refine E4 E7 rfl ?_
 refine P8 (i := 2) (l' := [ff,ff,tt,ff,ff,ff,ff,ff,ff,ff]) rfl D6 (A5 rfl rfl (B5 (by repeat first | exact mH | apply mT)) hel) rfl (by kernel_rfl) rfl rfl ?_
 refine aL 4 rfl (A5 rfl rfl (B5 (by repeat first | exact mH | apply mT)) hvl) rfl ?_
 refine aP 0 rfl (B8 rfl) rfl ?_
 refine aL 1 rfl (C7 rfl rfl) rfl ?_
 refine aP 3 rfl (qM rfl) rfl ?_
 refine A3 5 ?_
 (refine K4 rfl rfl (ih ks[i] (List.getElem_mem (by omega)) Gi _ (Tm.smallL_mem hks _ (List.getElem_mem (by omega))) hre hv) rfl rfl rfl (fun u G1 hle1 hh => ?_); obtain ⟨uc, rfl, hru⟩ := hh; have hul := hru.len; have huo := hru.one; obtain ⟨v1, v2, v3, v4, v5, v6, v7, v8, v9, rfl⟩ := nine hul)
 refine A3 6 ?_
 (refine E1 rfl (C3 rfl rfl rfl (by omega) (by unfold maxLen; omega) rfl) rfl rfl ?_; rintro _ ⟨b114, rfl⟩)
 refine A3 7 ?_
 (refine T3 rfl rfl rfl rfl rfl rfl (fun _ _ => by repeat (first | exact Sw.here | apply Sw.there)) (N2 (by repeat first | exact mH | apply mT)) rfl (fun u hu => List.all_eq_true.1 huo u hu) (by unfold maxLen; omega) (by omega) rfl rfl (by repeat (first | exact A8.nil | apply A8.dep (by decide +kernel) | apply A8.im (by decide +kernel) (by assumption) (by repeat first | exact mH | apply mT) | apply A8.blk (by decide +kernel) (by repeat (first | exact Pk.here | apply Pk.there)) (by repeat first | exact mH | apply mT))) (fun p7 c7 => ?_))
 refine aP 8 rfl (B8 rfl) rfl ?_
 refine A3 9 ?_
 refine U1 rfl rfl rfl rfl rfl rfl rfl rfl (by decide +kernel) (by repeat first | exact Sw.here | apply Sw.there) (by rfl) ?_
 refine C4 (M9 (nS (tR ?_)))
 refine sP (I2 rfl rfl (by omega) (by omega)) rfl rfl ?_
 refine sQ (qM rfl) rfl (sD ?_)
 refine I9 (i + 1, p7, c7, es' ++ [[v1, v2, v3, v4, v5, v6, v7, v8, v9]], G1) ?_ ?_ ?_
 (simp only [E2]; exact C5)
 (dsimp only; exact ⟨by omega, hle.trans hle1, by rw [A5F (by omega)]; exact C8.snoc (hst.mono hle1) hru⟩)
 (show ks.length - (i + 1) < ks.length - i; omega)
 refine I4 ?_
 (refine H8 (cs := es'.flatten) (by repeat (first | exact Pk.here | apply Pk.there)) (fun G2 hle2 hsl2 hno2 => ?_); obtain rfl : i = ks.length := (by omega))
 refine tT ?_
 refine F0 (rC rfl (A2 rfl rfl)) ?_
 (rw [if_neg (by rintro ⟨h1, h2⟩; first | omega | contradiction), if_neg (by rintro ⟨h1, h2⟩; first | omega | contradiction)]; rw [List.take_of_length_le (by rw [A1w]; omega)] at hst; exact TmP.mk (A9.put hk hnum hlb (hty.mono hle2) (hfr.mono hle2) (by rw [A1w]) (B9.of hsl2 (by omega) hst.all (fun e he => (hst.each e he).2)) (hst.mono hle2)))
 refine M1 ?_
 refine sB (qE rfl rfl) rfl rfl (fun h164 => ?_) (fun h164 => ?_)
 refine J5 ?_
 refine sB (A2k rfl rfl) rfl rfl (fun h169 => ?_) (fun h169 => ?_)
 refine M1 ?_
 refine F0 (rC rfl (A2 rfl rfl)) ?_
 (rw [if_neg (by rintro ⟨h1, h2⟩; first | omega | contradiction), if_pos (by refine ⟨by omega, by assumption⟩)]; exact TmP.mk hr0)
 refine K6 ?_
 refine sE (A6 rfl) rfl (fun b197 => ?_)
 refine V7 ?_
 refine B6 ?_
 (refine T7 28 9 ?_; refine J3 (fun (x : Nat × Option Addr × Nat × List (List Value) × IM) => ⟨[(37, .int .i64 x.1), (36, .int .i64 ks.length), (35, .slice p ks.length c), (1, .string y), (3, .pointer (some ⟨b3, 0, none⟩)), (5, .pointer (some ⟨b4, 0, none⟩)), (6, .pointer (some ⟨b5, 0, none⟩)), (7, .pointer (some ⟨b197, 0, none⟩))], [.blk b197 [.int .i64 k, .string nm, .int .i64 num, .int .i64 tk, .slice pt tks.length ct, .int .i64 fk, .slice pf fks.length cf, .int .i64 lb, .slice x.2.1 x.1 x.2.2.1], .slc x.2.1 x.2.2.1 28 9 x.1 x.2.2.2.1.flatten, .blk b5 [.int .i64 0, .string ⟨⟨[]⟩⟩, .int .i64 0, .int .i64 0, .slice none 0 0, .int .i64 0, .slice none 0 0, .int .i64 0, .slice none 0 0], .blk b4 vc, .blk b3 [.int .i64 k, .string nm, .int .i64 num, .int .i64 tk, .slice pt tks.length ct, .int .i64 fk, .slice pf fks.length cf, .int .i64 lb, .slice p ks.length c]], x.2.2.2.2⟩) (fun x => x.1 ≤ ks.length ∧ B1 G x.2.2.2.2 ∧ C8 x.2.2.2.2 ((V1 y v ks).take x.1) x.2.2.2.1) (fun x => ks.length - x.1) (0, none, 0, [], G) ?_ ?_ ?_)
 (simp only [E2]; exact C5)
 (exact ⟨Nat.zero_le _, B1.refl _, by simp [C8]⟩)
 (rintro ⟨i, pn, cn, es', Gi⟩ ⟨hi, hle, hst⟩; simp only [] at hi hle hst ⊢; replace hsl := hsl.mono hle; replace hkl := hkl.mono hle; replace hv := hv.mono hle; replace hty := hty.mono hle; replace hfr := hfr.mono hle; have hsl' := hst.len; rw [List.length_take, A1w] at hsl')
 refine tS (tR ?_)
 refine sB (J6 rfl rfl) rfl rfl (fun h223 => ?_) (fun h223 => ?_)
 refine sD (nS (tS (qT rfl (tK (nS (tS ?_))))))
 refine B6 ?_
 refine tS (tR ?_)
 (have hil : i < ks.length := (by omega); obtain ⟨bx, ox, e, rfl, hl, hat, hre, hgb⟩ := hsl.kidTm hkl (i := i) (by omega) (by omega); have hel := hre.len; have heo := hre.one; refine sP (B4 (j := i) rfl rfl rfl (by omega)) rfl rfl ?_)
 refine sL (A5 rfl rfl (hat _) hl) rfl rfl ?_
 refine sE (A6 rfl) rfl (fun b236 => ?_)
 refine sS rfl rfl rfl hel heo rfl ?_ (hu := by exact D5 hel.symm)
 refine sD (nS ?_)
 refine E4 E7 rfl ?_
 refine P8 (i := 2) (l' := [ff,ff,tt,ff,ff,ff,ff,ff,ff,ff]) rfl D6 (A5 rfl rfl (B5 (by repeat first | exact mH | apply mT)) hel) rfl (by kernel_rfl) rfl rfl ?_
 refine aL 4 rfl (A5 rfl rfl (B5 (by repeat first | exact mH | apply mT)) hvl) rfl ?_
 refine aP 0 rfl (B8 rfl) rfl ?_
 refine aL 1 rfl (C7 rfl rfl) rfl ?_
 refine aP 3 rfl (qM rfl) rfl ?_
 refine A3 5 ?_
 (refine K4 rfl rfl (ih ks[i] (List.getElem_mem (by omega)) Gi _ (Tm.smallL_mem hks _ (List.getElem_mem (by omega))) hre hv) rfl rfl rfl (fun u G1 hle1 hh => ?_); obtain ⟨uc, rfl, hru⟩ := hh; have hul := hru.len; have huo := hru.one; obtain ⟨v1, v2, v3, v4, v5, v6, v7, v8, v9, rfl⟩ := nine hul)
 refine A3 6 ?_
 (refine E1 rfl (C3 rfl rfl rfl (by omega) (by unfold maxLen; omega) rfl) rfl rfl ?_; rintro _ ⟨b249, rfl⟩)
 refine A3 7 ?_
 (refine T3 rfl rfl rfl rfl rfl rfl (fun _ _ => by repeat (first | exact Sw.here | apply Sw.there)) (N2 (by repeat first | exact mH | apply mT)) rfl (fun u hu => List.all_eq_true.1 huo u hu) (by unfold maxLen; omega) (by omega) rfl rfl (by repeat (first | exact A8.nil | apply A8.dep (by decide +kernel) | apply A8.im (by decide +kernel) (by assumption) (by repeat first | exact mH | apply mT) | apply A8.blk (by decide +kernel) (by repeat (first | exact Pk.here | apply Pk.there)) (by repeat first | exact mH | apply mT))) (fun p7 c7 => ?_))
 refine aP 8 rfl (B8 rfl) rfl ?_
 refine A3 9 ?_
 refine U1 rfl rfl rfl rfl rfl rfl rfl rfl (by decide +kernel) (by repeat first | exact Sw.here | apply Sw.there) (by rfl) ?_
 refine C4 (M9 (nS (tR ?_)))
 refine sP (I2 rfl rfl (by omega) (by omega)) rfl rfl ?_
 refine sQ (qM rfl) rfl (sD ?_)
 refine I9 (i + 1, p7, c7, es' ++ [[v1, v2, v3, v4, v5, v6, v7, v8, v9]], G1) ?_ ?_ ?_
 (simp only [E2]; exact C5)
 (dsimp only; exact ⟨by omega, hle.trans hle1, by rw [A5F (by omega)]; exact C8.snoc (hst.mono hle1) hru⟩)
 (show ks.length - (i + 1) < ks.length - i; omega)
 refine I4 ?_
 (refine H8 (cs := es'.flatten) (by repeat (first | exact Pk.here | apply Pk.there)) (fun G2 hle2 hsl2 hno2 => ?_); obtain rfl : i = ks.length := (by omega))
 refine tT ?_
 refine F0 (rC rfl (A2 rfl rfl)) ?_
 (rw [if_neg (by rintro ⟨h1, h2⟩; first | omega | contradiction), if_neg (by rintro ⟨h1, h2⟩; first | omega | contradiction)]; rw [List.take_of_length_le (by rw [A1w]; omega)] at hst; exact TmP.mk (A9.put hk hnum hlb (hty.mono hle2) (hfr.mono hle2) (by rw [A1w]) (B9.of hsl2 (by omega) hst.all (fun e he => (hst.each e he).2)) (hst.mono hle2)))
 refine K8 ?_
 refine sE (A6 rfl) rfl (fun b301 => ?_)
 refine V7 ?_
 refine B6 ?_
 (refine T7 28 9 ?_; refine J3 (fun (x : Nat × Option Addr × Nat × List (List Value) × IM) => ⟨[(37, .int .i64 x.1), (36, .int .i64 ks.length), (35, .slice p ks.length c), (1, .string y), (3, .pointer (some ⟨b3, 0, none⟩)), (5, .pointer (some ⟨b4, 0, none⟩)), (6, .pointer (some ⟨b5, 0, none⟩)), (7, .pointer (some ⟨b301, 0, none⟩))], [.blk b301 [.int .i64 k, .string nm, .int .i64 num, .int .i64 tk, .slice pt tks.length ct, .int .i64 fk, .slice pf fks.length cf, .int .i64 lb, .slice x.2.1 x.1 x.2.2.1], .slc x.2.1 x.2.2.1 28 9 x.1 x.2.2.2.1.flatten, .blk b5 [.int .i64 0, .string ⟨⟨[]⟩⟩, .int .i64 0, .int .i64 0, .slice none 0 0, .int .i64 0, .slice none 0 0, .int .i64 0, .slice none 0 0], .blk b4 vc, .blk b3 [.int .i64 k, .string nm, .int .i64 num, .int .i64 tk, .slice pt tks.length ct, .int .i64 fk, .slice pf fks.length cf, .int .i64 lb, .slice p ks.length c]], x.2.2.2.2⟩) (fun x => x.1 ≤ ks.length ∧ B1 G x.2.2.2.2 ∧ C8 x.2.2.2.2 ((V1 y v ks).take x.1) x.2.2.2.1) (fun x => ks.length - x.1) (0, none, 0, [], G) ?_ ?_ ?_)
 (simp only [E2]; exact C5)
 (exact ⟨Nat.zero_le _, B1.refl _, by simp [C8]⟩)
 (rintro ⟨i, pn, cn, es', Gi⟩ ⟨hi, hle, hst⟩; simp only [] at hi hle hst ⊢; replace hsl := hsl.mono hle; replace hkl := hkl.mono hle; replace hv := hv.mono hle; replace hty := hty.mono hle; replace hfr := hfr.mono hle; have hsl' := hst.len; rw [List.length_take, A1w] at hsl')
 refine tS (tR ?_)
 refine sB (J6 rfl rfl) rfl rfl (fun h327 => ?_) (fun h327 => ?_)
 refine sD (nS (tS (qT rfl (tK (nS (tS ?_))))))
 refine B6 ?_
 refine tS (tR ?_)
 (have hil : i < ks.length := (by omega); obtain ⟨bx, ox, e, rfl, hl, hat, hre, hgb⟩ := hsl.kidTm hkl (i := i) (by omega) (by omega); have hel := hre.len; have heo := hre.one; refine sP (B4 (j := i) rfl rfl rfl (by omega)) rfl rfl ?_)
 refine sL (A5 rfl rfl (hat _) hl) rfl rfl ?_
 refine sE (A6 rfl) rfl (fun b340 => ?_)
 refine sS rfl rfl rfl hel heo rfl ?_ (hu := by exact D5 hel.symm)
 refine sD (nS ?_)
 refine E4 E7 rfl ?_
 refine P8 (i := 2) (l' := [ff,ff,tt,ff,ff,ff,ff,ff,ff,ff]) rfl D6 (A5 rfl rfl (B5 (by repeat first | exact mH | apply mT)) hel) rfl (by kernel_rfl) rfl rfl ?_
 refine aL 4 rfl (A5 rfl rfl (B5 (by repeat first | exact mH | apply mT)) hvl) rfl ?_
 refine aP 0 rfl (B8 rfl) rfl ?_
 refine aL 1 rfl (C7 rfl rfl) rfl ?_
 refine aP 3 rfl (qM rfl) rfl ?_
 refine A3 5 ?_
 (refine K4 rfl rfl (ih ks[i] (List.getElem_mem (by omega)) Gi _ (Tm.smallL_mem hks _ (List.getElem_mem (by omega))) hre hv) rfl rfl rfl (fun u G1 hle1 hh => ?_); obtain ⟨uc, rfl, hru⟩ := hh; have hul := hru.len; have huo := hru.one; obtain ⟨v1, v2, v3, v4, v5, v6, v7, v8, v9, rfl⟩ := nine hul)
 refine A3 6 ?_
 (refine E1 rfl (C3 rfl rfl rfl (by omega) (by unfold maxLen; omega) rfl) rfl rfl ?_; rintro _ ⟨b353, rfl⟩)
 refine A3 7 ?_
 (refine T3 rfl rfl rfl rfl rfl rfl (fun _ _ => by repeat (first | exact Sw.here | apply Sw.there)) (N2 (by repeat first | exact mH | apply mT)) rfl (fun u hu => List.all_eq_true.1 huo u hu) (by unfold maxLen; omega) (by omega) rfl rfl (by repeat (first | exact A8.nil | apply A8.dep (by decide +kernel) | apply A8.im (by decide +kernel) (by assumption) (by repeat first | exact mH | apply mT) | apply A8.blk (by decide +kernel) (by repeat (first | exact Pk.here | apply Pk.there)) (by repeat first | exact mH | apply mT))) (fun p7 c7 => ?_))
 refine aP 8 rfl (B8 rfl) rfl ?_
 refine A3 9 ?_
 refine U1 rfl rfl rfl rfl rfl rfl rfl rfl (by decide +kernel) (by repeat first | exact Sw.here | apply Sw.there) (by rfl) ?_
 refine C4 (M9 (nS (tR ?_)))
 refine sP (I2 rfl rfl (by omega) (by omega)) rfl rfl ?_
 refine sQ (qM rfl) rfl (sD ?_)
 refine I9 (i + 1, p7, c7, es' ++ [[v1, v2, v3, v4, v5, v6, v7, v8, v9]], G1) ?_ ?_ ?_
 (simp only [E2]; exact C5)
 (dsimp only; exact ⟨by omega, hle.trans hle1, by rw [A5F (by omega)]; exact C8.snoc (hst.mono hle1) hru⟩)
 (show ks.length - (i + 1) < ks.length - i; omega)
 refine I4 ?_
 (refine H8 (cs := es'.flatten) (by repeat (first | exact Pk.here | apply Pk.there)) (fun G2 hle2 hsl2 hno2 => ?_); obtain rfl : i = ks.length := (by omega))
 refine tT ?_
 refine F0 (rC rfl (A2 rfl rfl)) ?_
 (rw [if_neg (by rintro ⟨h1, h2⟩; first | omega | contradiction), if_neg (by rintro ⟨h1, h2⟩; first | omega | contradiction)]; rw [List.take_of_length_le (by rw [A1w]; omega)] at hst; exact TmP.mk (A9.put hk hnum hlb (hty.mono hle2) (hfr.mono hle2) (by rw [A1w]) (B9.of hsl2 (by omega) hst.all (fun e he => (hst.each e he).2)) (hst.mono hle2)))
theorem A1g (e : Tm) (a b : Ty) (l : Int) (G : IM) (ce ca cb : List Value) (hl : D9 l) (he : A9 G e ce) (ha : B3 G a ca) (hb : B3 G b cb) : Fn Tryz.prog 139 [.agg ⟨ce⟩, .agg ⟨ca⟩, .agg ⟨cb⟩, .int .i64 l] [] G (TmP (O7 e a b l)) := by
 have hel := he.len
 have heo := he.one
 obtain ⟨v1, v2, v3, v4, v5, v6, v7, v8, v9, rfl⟩ := nine hel
 obtain ⟨ak, aks⟩ := a
 obtain ⟨bk, bks⟩ := b
 obtain ⟨pa, cca, ea, rfl, _⟩ := ha.open
 obtain ⟨pb, ccb, eb, rfl, _⟩ := hb.open
 refine B7 Tryz.func139 rfl Tryz.ntmps139 Tryz.results139 rfl ?_
 intro w0
 refine tS (tR ?_)
 refine sE (C2 rfl rfl) rfl (fun b3 => ?_)
 refine sE (C2 rfl rfl) rfl (fun b4 => ?_)
 refine sE (C2 rfl rfl) rfl (fun b5 => ?_)
 refine sE (A6 rfl) rfl (fun b6 => ?_)
 refine sD (nS (tS (tR ?_)))
 refine sL (A5 rfl rfl (B5 (by repeat first | exact mH | apply mT)) rfl) rfl rfl ?_
 refine sL (A5 rfl rfl (B5 (by repeat first | exact mH | apply mT)) rfl) rfl rfl ?_
 refine sQ (qM rfl) rfl ?_
 refine sL (A5 rfl rfl (B5 (by repeat first | exact mH | apply mT)) rfl) rfl rfl ?_
 (refine I8 (C3 rfl rfl rfl (by omega) (by unfold maxLen; omega) rfl) rfl ?_; rintro _ ⟨b15, rfl⟩)
 refine sQ (S0 rfl rfl) rfl (F9 ?_)
 refine sD (nS ?_)
 (refine H8 (cs := [v1, v2, v3, v4, v5, v6, v7, v8, v9]) (by repeat (first | exact Pk.here | apply Pk.there)) (fun G2 hle2 hsl2 hno2 => ?_))
 refine tT ?_
 refine F0 (rC rfl (A2 rfl rfl)) ?_
 (exact TmP.mk (A9.put (us := [e]) (es := [[v1, v2, v3, v4, v5, v6, v7, v8, v9]]) ⟨by decide, by decide⟩ ⟨by decide, by decide⟩ hl (hb.mono hle2) (ha.mono hle2) rfl (B9.of hsl2 rfl (by intro x hx; obtain rfl := List.mem_singleton.1 hx; rfl) (by intro x hx; obtain rfl := List.mem_singleton.1 hx; exact heo)) (by simp only [C8]; exact ⟨_, _, rfl, he.mono hle2, rfl⟩)))
theorem A2G (k : Int) (p : Option Addr) (n c : Nat) (G : IM) : Fn Tryz.prog 140 [.int .i64 k, .slice p n c] [] G (H9 (.agg ⟨[.int .i64 k, .string ⟨⟨[]⟩⟩, .int .i64 0, .int .i64 0, .slice none 0 0, .int .i64 0, .slice none 0 0, .int .i64 0, .slice p n c]⟩) G) := by
 refine B7 Tryz.func140 rfl Tryz.ntmps140 Tryz.results140 rfl ?_
 intro w0
 refine tS (tR ?_)
 refine sE (A6 rfl) rfl (fun b3 => ?_)
 refine K6 ?_
 refine F0 (rC rfl (A2 rfl rfl)) ?_
 (exact ⟨rfl, rfl, rfl⟩)
theorem A8z (G : IM) {k : Int} (hk : D9 k) : A9 G (A1a k []) [.int .i64 k, .string ⟨⟨[]⟩⟩, .int .i64 0, .int .i64 0, .slice none 0 0, .int .i64 0, .slice none 0 0, .int .i64 0, .slice none 0 0] := A3e hk rfl (B9.nil _ _) rfl
theorem B3n (G : IM) : Fn Tryz.prog 138 [.bool true] [] G (TmP (A1b (true = true))) := by
 refine B7 Tryz.func138 rfl Tryz.ntmps138 Tryz.results138 rfl ?_
 intro w0
 refine tS (tR ?_)
 refine sE (A6 rfl) rfl (fun b3 => ?_)
 refine K6 ?_
 refine H2 rfl ((A2G _ _ _ _ _)) rfl rfl ?_
 refine F9 ?_
 refine sD (nS (tT (rS ?_)))
 refine F0 (rC rfl (A2 rfl rfl)) ?_
 (exact TmP.mk (A8z _ ⟨by decide, by decide⟩))
theorem B3o (G : IM) : Fn Tryz.prog 138 [.bool false] [] G (TmP (A1b (false = true))) := by
 refine B7 Tryz.func138 rfl Tryz.ntmps138 Tryz.results138 rfl ?_
 intro w0
 refine tS (tR ?_)
 refine sE (A6 rfl) rfl (fun b3 => ?_)
 refine L7 ?_
 refine H2 rfl ((A2G _ _ _ _ _)) rfl rfl ?_
 refine F9 ?_
 refine sD (nS (tT ?_))
 refine F0 (rC rfl (A2 rfl rfl)) ?_
 (exact TmP.mk (A8z _ ⟨by decide, by decide⟩))
theorem A8A (b : Bool) (G : IM) : Fn Tryz.prog 138 [.bool b] [] G (TmP (A1b (b = true))) := by
 cases b
 ·exact B3o G
 ·exact B3n G
theorem B3p {a b : Int} (h : 0 ≤ a ∧ a ≤ 999) (h' : 0 ≤ b ∧ b ≤ 999) : (a + b).tmod 1000 = (a + b) % 1000 := by
 rw [Int.tmod_eq_emod_of_nonneg (by omega)]
def X3 (k : Int) (ks : List Tm) : Option Tm :=
 if k = 6 then (if (kd ks 0).k = 5 then some (W2 (kd ks 0).nm (kd ks 1) (kd (kd ks 0).ks 0)) else none)
 else if k = 7 ∨ k = 8 then (if (kd ks 0).k = 2 ∧ (kd ks 1).k = 2 then some (if k = 7 then A37 (((kd ks 0).num + (kd ks 1).num) % 1000) else A1b ((kd ks 0).num < (kd ks 1).num)) else none)
 else if k = 9 then (if (kd ks 0).k = 3 then some (kd ks 1) else if (kd ks 0).k = 4 then some (kd ks 2) else none)
 else if k = 11 ∨ k = 12 then (if (kd ks 0).k = 10 then some (kd (kd ks 0).ks (k - 11).toNat) else none)
 else none
def Q9 (o : Option Tm) : IM → Value → List A4 → Prop := L5 fun G' v => ∃ u cells c, v = .tuple ⟨[.agg ⟨cells⟩, .int .i64 c]⟩ ∧ A9 G' u cells ∧ (∀ x, o = some x → c = 1 ∧ u = x) ∧ (o = none → c = 3)
theorem Q9.yes {G : IM} {o : Option Tm} {u : Tm} {cells : List Value} (h : o = some u) (hr : A9 G u cells) : Q9 o G (.tuple ⟨[.agg ⟨cells⟩, .int .i64 1]⟩) [] := by
 subst h; exact ⟨rfl, u, cells, 1, rfl, hr, fun x hx => (by cases hx; exact ⟨rfl, rfl⟩), fun h => (by cases h)⟩
theorem Q9.no {G : IM} {o : Option Tm} {u : Tm} {cells : List Value} (h : o = none) (hr : A9 G u cells) : Q9 o G (.tuple ⟨[.agg ⟨cells⟩, .int .i64 3]⟩) [] := by
 subst h; exact ⟨rfl, u, cells, 3, rfl, hr, fun x hx => (by cases hx), fun _ => rfl⟩
theorem O3 (G : IM) : A9 G J4 [.int .i64 0, .string ⟨⟨[]⟩⟩, .int .i64 0, .int .i64 0, .slice none 0 0, .int .i64 0, .slice none 0 0, .int .i64 0, .slice none 0 0] := (O5.zero G).R
theorem B3q (a b : Tm) (nm : ByteArray) (num : Int) (ty fr : Ty) (lb : Int) (G : IM) (cells : List Value) (hca : cv a) (hr : A9 G (.mk 6 nm num ty fr lb [a, b]) cells) : Fn Tryz.prog 131 [.agg ⟨cells⟩] [] G (Q9 (X3 6 [a, b])) := by
 have hsm := A38 a hca
 obtain ⟨ak, anm, anum, ⟨atk, atks⟩, ⟨afk, afks⟩, alb, aks⟩ := a
 obtain ⟨tk, tks⟩ := ty
 obtain ⟨fk, fks⟩ := fr
 obtain ⟨pt, ct, pf, cf, p, c, es, rfl, hk, hnum, hlb, hty, hfr, hsl, hkl⟩ := hr.open9
 obtain ⟨bx, ox, e0, rfl, hl0, hat0, hre0, hgb0⟩ := hsl.kidTm hkl (i := 0) (by simp) (by simp)
 replace hre0 : A9 G (.mk ak anm anum (.mk atk atks) (.mk afk afks) alb aks) e0 := hre0
 obtain ⟨apt, act, apf, acf, ap, ac, aes, rfl, hak, hanum, halb, haty, hafr, hasl, hakl⟩ := hre0.open9
 obtain ⟨_, _, e1, hp1, hl1, hat1, hre1, hgb1⟩ := hsl.kidTm hkl (i := 1) (by simp) (by simp)
 cases hp1
 replace hre1 : A9 G b e1 := hre1
 have ho1 := hre1.one
 obtain ⟨hN, _⟩ := hca.node
 have hops := hN.ops
 obtain ⟨_, _, _, _, hksm⟩ := A3b.1 hsm
 have h1 : ak = 5 → aks.length = 1 := fun h => by rw [h] at hops; have : D1 5 = 1 := rfl; omega
 have hL : ([Tm.mk ak anm anum (.mk atk atks) (.mk afk afks) alb aks, b] : List Tm).length = 2 := rfl
 rw [show X3 6 [Tm.mk ak anm anum (.mk atk atks) (.mk afk afks) alb aks, b] = (if ak = 5 then some (W2 anm b (kd aks 0)) else none) from rfl]
 refine B7 Tryz.func131 rfl Tryz.ntmps131 Tryz.results131 rfl ?_
 intro w0
 refine tS (tR ?_)
 refine sE (C2 rfl rfl) rfl (fun b3 => ?_)
 refine sE (A6 rfl) rfl (fun b4 => ?_)
 refine I0 ?_
 refine sE (A6 rfl) rfl (fun b11 => ?_)
 refine D2 ?_
 refine sP (A2S rfl rfl (by omega)) rfl rfl ?_
 refine I0 ?_
 refine sP (B4 (j := 0) rfl rfl rfl (by simp)) rfl rfl ?_
 refine sL (A5 rfl rfl (hat0 _) rfl) rfl rfl ?_
 refine L6 ?_
 refine B6 ?_
 refine tS (tR ?_)
 refine sP (V6 rfl rfl (by omega)) rfl rfl ?_
 refine D7 ?_
 refine sB (qE rfl rfl) rfl rfl (fun h52 => ?_) (fun h52 => ?_)
 refine sD (nS (qT rfl (tS ?_)))
 (have hq : ak = 5 := (by omega); have hq1 := h1 hq; obtain ⟨bq, oq, e3, rfl, hl3, hat3, hre3, hgb3⟩ := hasl.kidTm hakl (i := 0) (by omega) (by omega); have hS := B3m anm b e1 aks[0] G e3 (Tm.smallL_mem hksm _ (List.getElem_mem (by omega))) hre3 hre1; refine E4 E7 rfl ?_)
 refine K2 (i := 0) (l' := [tt,ff,ff,ff,ff,ff,ff,ff,ff,ff,ff,ff,ff]) rfl D6 (B8 rfl) rfl (by kernel_rfl) rfl rfl ?_
 refine aL 1 rfl (C7 rfl rfl) rfl ?_
 refine aP 2 rfl (B4 (j := 0) rfl rfl rfl (by omega)) rfl ?_
 refine aL 3 rfl (A5 rfl rfl (hat3 _) hl3) rfl ?_
 refine aP 4 rfl (B8 rfl) rfl ?_
 refine aL 5 rfl (C7 rfl rfl) rfl ?_
 refine aP 6 rfl (B8 rfl) rfl ?_
 refine aL 7 rfl (C7 rfl rfl) rfl ?_
 refine aP 8 rfl (B4 (j := 1) rfl rfl rfl (by simp)) rfl ?_
 refine aL 9 rfl (A5 rfl rfl (hat1 _) hl1) rfl ?_
 refine A3 10 ?_
 (refine K4 rfl rfl hS rfl rfl rfl (fun u G1 hle1 hh => ?_); obtain ⟨uc, rfl, hru⟩ := hh; have hul := hru.len; have huo := hru.one)
 refine A3 11 ?_
 (refine oS rfl rfl rfl rfl hul huo rfl rfl ?_ (hu := by exact D5 hul.symm))
 refine aP 12 rfl (qA rfl) rfl ?_
 refine C4 (nS (tT (rB (rS ?_))))
 refine E9 (rC rfl (A5 rfl rfl (B5 (by repeat first | exact mH | apply mT)) hul)) (rT rfl) ?_
 (exact Q9.yes (by rw [if_pos (by omega)]; unfold kd; rw [List.getD_eq_getElem?_getD, List.getElem?_eq_getElem (by omega), Option.getD_some]) hru)
 refine M1 ?_
 refine E9 (rC rfl (A2 rfl rfl)) (rT rfl) ?_
 (exact Q9.no (by rw [if_neg (by omega)]) (O3 _))
theorem A8B (k : Int) (a b : Tm) (nm : ByteArray) (num : Int) (ty fr : Ty) (lb : Int) (G : IM) (cells : List Value) (hk78 : k = 7 ∨ k = 8) (hca : cv a) (hcb : cv b) (hr : A9 G (.mk k nm num ty fr lb [a, b]) cells) : Fn Tryz.prog 131 [.agg ⟨cells⟩] [] G (Q9 (X3 k [a, b])) := by
 obtain ⟨ak, anm, anum, ⟨atk, atks⟩, ⟨afk, afks⟩, alb, aks⟩ := a
 obtain ⟨tk, tks⟩ := ty
 obtain ⟨fk, fks⟩ := fr
 obtain ⟨pt, ct, pf, cf, p, c, es, rfl, hk, hnum, hlb, hty, hfr, hsl, hkl⟩ := hr.open9
 obtain ⟨bx, ox, e0, rfl, hl0, hat0, hre0, hgb0⟩ := hsl.kidTm hkl (i := 0) (by simp) (by simp)
 replace hre0 : A9 G (.mk ak anm anum (.mk atk atks) (.mk afk afks) alb aks) e0 := hre0
 obtain ⟨apt, act, apf, acf, ap, ac, aes, rfl, hak, hanum, halb, haty, hafr, hasl, hakl⟩ := hre0.open9
 obtain ⟨bk, bnm, bnum, ⟨btk, btks⟩, ⟨bfk, bfks⟩, blb, bks⟩ := b
 obtain ⟨_, _, e1, hp1, hl1, hat1, hre1, hgb1⟩ := hsl.kidTm hkl (i := 1) (by simp) (by simp)
 cases hp1
 replace hre1 : A9 G (.mk bk bnm bnum (.mk btk btks) (.mk bfk bfks) blb bks) e1 := hre1
 obtain ⟨bpt, bct, bpf, bcf, bp, bc, bes, rfl, hbk, hbnum, hblb, hbty, hbfr, hbsl, hbkl⟩ := hre1.open9
 obtain ⟨hN, _⟩ := hca.node
 obtain ⟨hM, _⟩ := hcb.node
 obtain ⟨hn1, hn2⟩ := hN.num0
 obtain ⟨hm1, hm2⟩ := hM.num0
 have hL : ([Tm.mk ak anm anum (.mk atk atks) (.mk afk afks) alb aks, Tm.mk bk bnm bnum (.mk btk btks) (.mk bfk bfks) blb bks] : List Tm).length = 2 := rfl
 have hR : X3 k [Tm.mk ak anm anum (.mk atk atks) (.mk afk afks) alb aks, Tm.mk bk bnm bnum (.mk btk btks) (.mk bfk bfks) blb bks] = (if ak = 2 ∧ bk = 2 then some (if k = 7 then A37 ((anum + bnum) % 1000) else A1b (anum < bnum)) else none) := by
  unfold X3; rw [if_neg (by omega), if_pos hk78]; rfl
 rw [hR]
 have htm : (anum + bnum).tmod 1000 = (anum + bnum) % 1000 := B3p ⟨hn1, hn2⟩ ⟨hm1, hm2⟩
 have hb : D9 ((anum + bnum) % 1000) := ⟨by omega, by omega⟩
 refine B7 Tryz.func131 rfl Tryz.ntmps131 Tryz.results131 rfl ?_
 intro w0
 refine tS (tR ?_)
 refine sE (C2 rfl rfl) rfl (fun b3 => ?_)
 refine sE (A6 rfl) rfl (fun b4 => ?_)
 refine I0 ?_
 refine sE (A6 rfl) rfl (fun b11 => ?_)
 refine D2 ?_
 refine sP (A2S rfl rfl (by omega)) rfl rfl ?_
 refine I0 ?_
 refine sP (B4 (j := 0) rfl rfl rfl (by simp)) rfl rfl ?_
 refine sL (A5 rfl rfl (hat0 _) rfl) rfl rfl ?_
 refine L6 ?_
 refine B6 ?_
 refine tS (tR ?_)
 refine sP (I3 rfl rfl (by omega)) rfl rfl ?_
 refine sQ (qA rfl) rfl (sD (nS (cF rfl (tS (tS (tR ?_))))))
 refine sB (qE rfl rfl) rfl rfl (fun h51 => ?_) (fun h51 => ?_)
 refine K6 ?_
 refine sP (B4 (j := 1) rfl rfl rfl (by simp)) rfl rfl ?_
 refine sL (A5 rfl rfl (hat1 _) rfl) rfl rfl ?_
 refine sE (A6 rfl) rfl (fun b65 => ?_)
 refine F9 ?_
 refine sD (nS ?_)
 refine B6 ?_
 refine tS (tR (sQ (B8 rfl) rfl (sL (C7 rfl rfl) rfl rfl ?_)))
 refine sB (R9 rfl rfl) rfl rfl (fun h74 => ?_) (fun h74 => ?_)
 refine A0h ?_
 refine E9 (rC rfl (A2 rfl rfl)) (rT rfl) ?_
 (exact Q9.no (by rw [if_neg (by omega)]) (O3 _))
 refine J0 ?_
 refine sB (R9 rfl rfl) rfl rfl (fun h101 => ?_) (fun h101 => ?_)
 refine T2 ?_
 refine E9 (rC rfl (A2 rfl rfl)) (rT rfl) ?_
 (exact Q9.no (by rw [if_neg (by omega)]) (O3 _))
 refine D2 ?_
 refine sP (V6 rfl rfl (by omega)) rfl rfl ?_
 refine L6 ?_
 refine sP (I2 rfl rfl (by omega) (by omega)) rfl rfl ?_
 refine sP (A3C rfl rfl (by omega)) rfl rfl ?_
 refine sQ (S0 rfl rfl) rfl ?_
 (rw [htm]; refine F9 ?_)
 refine sQ (qA rfl) rfl (sD (nS (tT (rB (rB (rS ?_))))))
 refine E9 (rC rfl (A2 rfl rfl)) (rT rfl) ?_
 (exact Q9.yes (u := A37 (HMod.hMod (anum + bnum) 1000)) (by rw [if_pos ⟨by omega, by omega⟩, if_pos (by omega)]) (A9.put (us := []) ⟨by decide, by decide⟩ hb ⟨by decide, by decide⟩ (A2s _) (A2s _) rfl (B9.nil _ _) rfl))
 refine sQ (qA rfl) rfl (sD (nS (cF rfl (tR ?_))))
 refine sP (V6 rfl rfl (by omega)) rfl rfl ?_
 refine D7 ?_
 refine sP (B4 (j := 1) rfl rfl rfl (by simp)) rfl rfl ?_
 refine sL (A5 rfl rfl (hat1 _) rfl) rfl rfl ?_
 refine sE (A6 rfl) rfl (fun b170 => ?_)
 refine F9 ?_
 refine sD (nS ?_)
 refine B6 ?_
 refine tS (tR (sQ (B8 rfl) rfl (sL (C7 rfl rfl) rfl rfl ?_)))
 refine sB (R9 rfl rfl) rfl rfl (fun h179 => ?_) (fun h179 => ?_)
 refine A0h ?_
 refine E9 (rC rfl (A2 rfl rfl)) (rT rfl) ?_
 (exact Q9.no (by rw [if_neg (by omega)]) (O3 _))
 refine J0 ?_
 refine sB (R9 rfl rfl) rfl rfl (fun h206 => ?_) (fun h206 => ?_)
 refine T2 ?_
 refine E9 (rC rfl (A2 rfl rfl)) (rT rfl) ?_
 (exact Q9.no (by rw [if_neg (by omega)]) (O3 _))
 refine D2 ?_
 refine sP (I3 rfl rfl (by omega)) rfl rfl ?_
 refine L6 ?_
 (refine sB (J6 rfl rfl) rfl rfl (fun h246 => ?_) (fun h246 => ?_))
 (refine F4 rfl (A8A _ _) rfl rfl (fun u G1 hle1 hh => ?_); obtain ⟨uc, rfl, hru⟩ := hh; have hul := hru.len; have huo := hru.one)
 refine sS rfl rfl rfl hul huo rfl ?_ (hu := by exact D5 hul.symm)
 refine sQ (qA rfl) rfl (sD (nS (tT (rB (rB (rS ?_))))))
 refine E9 (rC rfl (A5 rfl rfl (B5 (by repeat first | exact mH | apply mT)) hul)) (rT rfl) ?_
 (exact Q9.yes (by rw [if_pos ⟨by omega, by omega⟩, if_neg (by omega)]; unfold A1b; rw [if_pos (by omega), if_pos rfl]) hru)
 (refine F4 rfl (A8A _ _) rfl rfl (fun u G1 hle1 hh => ?_); obtain ⟨uc, rfl, hru⟩ := hh; have hul := hru.len; have huo := hru.one)
 refine sS rfl rfl rfl hul huo rfl ?_ (hu := by exact D5 hul.symm)
 refine sQ (qA rfl) rfl (sD (nS (tT (rB (rB (rS ?_))))))
 refine E9 (rC rfl (A5 rfl rfl (B5 (by repeat first | exact mH | apply mT)) hul)) (rT rfl) ?_
 (exact Q9.yes (by rw [if_pos ⟨by omega, by omega⟩, if_neg (by omega)]; unfold A1b; rw [if_neg (by omega), if_neg (by decide)]) hru)
theorem B3r (a b c0 : Tm) (nm : ByteArray) (num : Int) (ty fr : Ty) (lb : Int) (G : IM) (cells : List Value) (hr : A9 G (.mk 9 nm num ty fr lb [a, b, c0]) cells) : Fn Tryz.prog 131 [.agg ⟨cells⟩] [] G (Q9 (X3 9 [a, b, c0])) := by
 obtain ⟨ak, anm, anum, ⟨atk, atks⟩, ⟨afk, afks⟩, alb, aks⟩ := a
 obtain ⟨tk, tks⟩ := ty
 obtain ⟨fk, fks⟩ := fr
 obtain ⟨pt, ct, pf, cf, p, c, es, rfl, hk, hnum, hlb, hty, hfr, hsl, hkl⟩ := hr.open9
 obtain ⟨bx, ox, e0, rfl, hl0, hat0, hre0, hgb0⟩ := hsl.kidTm hkl (i := 0) (by simp) (by simp)
 replace hre0 : A9 G (.mk ak anm anum (.mk atk atks) (.mk afk afks) alb aks) e0 := hre0
 obtain ⟨apt, act, apf, acf, ap, ac, aes, rfl, hak, hanum, halb, haty, hafr, hasl, hakl⟩ := hre0.open9
 obtain ⟨_, _, e1, hp1, hl1, hat1, hre1, hgb1⟩ := hsl.kidTm hkl (i := 1) (by simp) (by simp)
 cases hp1
 replace hre1 : A9 G b e1 := hre1
 have ho1 := hre1.one
 obtain ⟨_, _, e2, hp2, hl2, hat2, hre2, hgb2⟩ := hsl.kidTm hkl (i := 2) (by simp) (by simp)
 cases hp2
 replace hre2 : A9 G c0 e2 := hre2
 have ho2 := hre2.one
 have hL : ([Tm.mk ak anm anum (.mk atk atks) (.mk afk afks) alb aks, b, c0] : List Tm).length = 3 := rfl
 rw [show X3 9 [Tm.mk ak anm anum (.mk atk atks) (.mk afk afks) alb aks, b, c0] = (if ak = 3 then some b else if ak = 4 then some c0 else none) from rfl]
 refine B7 Tryz.func131 rfl Tryz.ntmps131 Tryz.results131 rfl ?_
 intro w0
 refine tS (tR ?_)
 refine sE (C2 rfl rfl) rfl (fun b3 => ?_)
 refine sE (A6 rfl) rfl (fun b4 => ?_)
 refine I0 ?_
 refine sE (A6 rfl) rfl (fun b11 => ?_)
 refine D2 ?_
 refine sP (A2S rfl rfl (by omega)) rfl rfl ?_
 refine I0 ?_
 refine sP (B4 (j := 0) rfl rfl rfl (by simp)) rfl rfl ?_
 refine sL (A5 rfl rfl (hat0 _) rfl) rfl rfl ?_
 refine L6 ?_
 refine B6 ?_
 refine tS (tR ?_)
 refine sP (I3 rfl rfl (by omega)) rfl rfl ?_
 refine sQ (qA rfl) rfl (sD (nS (cF rfl (tS (tS (tR ?_))))))
 refine sP (I3 rfl rfl (by omega)) rfl rfl ?_
 refine sQ (qA rfl) rfl (sD (nS (cF rfl (tR ?_))))
 refine sP (I3 rfl rfl (by omega)) rfl rfl ?_
 refine sQ (qA rfl) rfl (sD (nS (cF rfl (tS (tR ?_)))))
 refine sP (V6 rfl rfl (by omega)) rfl rfl ?_
 refine L6 ?_
 refine B6 (tS (tR (sB (qE rfl rfl) rfl rfl (fun h78 => ?_) (fun h78 => ?_))))
 refine D7 ?_
 refine sP (B4 (j := 1) rfl rfl rfl (by simp)) rfl rfl ?_
 refine sL (A5 rfl rfl (hat1 _) hl1) rfl rfl ?_
 refine sS rfl rfl rfl hl1 ho1 rfl ?_ (hu := by exact D5 hl1.symm)
 refine sQ (qA rfl) rfl (sD (nS (tT (rB (rB (rS ?_))))))
 refine E9 (rC rfl (A5 rfl rfl (B5 (by repeat first | exact mH | apply mT)) hl1)) (rT rfl) ?_
 (exact Q9.yes (by rw [if_pos (by omega)]) hre1)
 refine sQ (qA rfl) rfl (sD (nS (cF rfl (tS (tR ?_)))))
 refine sB (qE rfl rfl) rfl rfl (fun h105 => ?_) (fun h105 => ?_)
 refine D7 ?_
 refine sP (B4 (j := 2) rfl rfl rfl (by simp)) rfl rfl ?_
 refine sL (A5 rfl rfl (hat2 _) hl2) rfl rfl ?_
 refine sS rfl rfl rfl hl2 ho2 rfl ?_ (hu := by exact D5 hl2.symm)
 refine sQ (qA rfl) rfl (sD (nS (tT (rB (rB (rS ?_))))))
 refine E9 (rC rfl (A5 rfl rfl (B5 (by repeat first | exact mH | apply mT)) hl2)) (rT rfl) ?_
 (exact Q9.yes (by rw [if_neg (by omega), if_pos (by omega)]) hre2)
 refine K8 ?_
 refine E9 (rC rfl (A2 rfl rfl)) (rT rfl) ?_
 (exact Q9.no (by rw [if_neg (by omega), if_neg (by omega)]) (O3 _))
theorem A8C (k : Int) (a : Tm) (nm : ByteArray) (num : Int) (ty fr : Ty) (lb : Int) (G : IM) (cells : List Value) (hk1 : k = 11 ∨ k = 12) (hca : cv a) (hr : A9 G (.mk k nm num ty fr lb [a]) cells) : Fn Tryz.prog 131 [.agg ⟨cells⟩] [] G (Q9 (X3 k [a])) := by
 obtain ⟨ak, anm, anum, ⟨atk, atks⟩, ⟨afk, afks⟩, alb, aks⟩ := a
 obtain ⟨tk, tks⟩ := ty
 obtain ⟨fk, fks⟩ := fr
 obtain ⟨pt, ct, pf, cf, p, c, es, rfl, hk, hnum, hlb, hty, hfr, hsl, hkl⟩ := hr.open9
 obtain ⟨bx, ox, e0, rfl, hl0, hat0, hre0, hgb0⟩ := hsl.kidTm hkl (i := 0) (by simp) (by simp)
 replace hre0 : A9 G (.mk ak anm anum (.mk atk atks) (.mk afk afks) alb aks) e0 := hre0
 obtain ⟨apt, act, apf, acf, ap, ac, aes, rfl, hak, hanum, halb, haty, hafr, hasl, hakl⟩ := hre0.open9
 obtain ⟨hN, _⟩ := hca.node
 have hops := hN.ops
 have h2 : ak = 10 → aks.length = 2 := fun h => by rw [h] at hops; have : D1 10 = 2 := rfl; omega
 have hL : ([Tm.mk ak anm anum (.mk atk atks) (.mk afk afks) alb aks] : List Tm).length = 1 := rfl
 have hR : X3 k [Tm.mk ak anm anum (.mk atk atks) (.mk afk afks) alb aks] = (if ak = 10 then some (kd aks (k - 11).toNat) else none) := by
  unfold X3; rw [if_neg (by omega), if_neg (by omega), if_neg (by omega), if_pos hk1]; rfl
 rw [hR]
 obtain ⟨i, hi⟩ : ∃ i : Nat, (k - 11).toNat = i := ⟨_, rfl⟩
 rw [hi]
 refine B7 Tryz.func131 rfl Tryz.ntmps131 Tryz.results131 rfl ?_
 intro w0
 refine tS (tR ?_)
 refine sE (C2 rfl rfl) rfl (fun b3 => ?_)
 refine sE (A6 rfl) rfl (fun b4 => ?_)
 refine I0 ?_
 refine sE (A6 rfl) rfl (fun b11 => ?_)
 refine D2 ?_
 refine sP (A2S rfl rfl (by omega)) rfl rfl ?_
 refine I0 ?_
 refine sP (B4 (j := 0) rfl rfl rfl (by simp)) rfl rfl ?_
 refine sL (A5 rfl rfl (hat0 _) rfl) rfl rfl ?_
 refine L6 ?_
 refine B6 ?_
 refine tS (tR ?_)
 refine sP (I3 rfl rfl (by omega)) rfl rfl ?_
 refine sQ (qA rfl) rfl (sD (nS (cF rfl (tS (tS (tR ?_))))))
 refine sP (I3 rfl rfl (by omega)) rfl rfl ?_
 refine sQ (qA rfl) rfl (sD (nS (cF rfl (tR ?_))))
 refine sP (I3 rfl rfl (by omega)) rfl rfl ?_
 refine sQ (qA rfl) rfl (sD (nS (cF rfl (tS (tR ?_)))))
 refine sP (I3 rfl rfl (by omega)) rfl rfl ?_
 refine sQ (qA rfl) rfl (sD (nS (cF rfl (tS (tS (tR ?_))))))
 refine sB (qE rfl rfl) rfl rfl (fun h72 => ?_) (fun h72 => ?_)
 refine K6 ?_
 refine sB (qE rfl rfl) rfl rfl (fun h84 => ?_) (fun h84 => ?_)
 refine sD (nS (qT rfl (tS ?_)))
 (have hq : ak = 10 := (by omega); have hq1 := h2 hq; obtain ⟨bq, oq, e3, rfl, hl3, hat3, hre3, hgb3⟩ := hasl.kidTm hakl (i := i) (by omega) (by omega); have ho3 := hre3.one)
 refine R2 ?_
 refine sP (O4 rfl rfl (by omega) (by omega)) rfl rfl ?_
 (rw [show (k - 11 : Int) = ((i : Nat) : Int) from (by omega)]; refine sP (B4 (j := i) rfl rfl rfl (by omega)) rfl rfl ?_)
 refine sL (A5 rfl rfl (hat3 _) hl3) rfl rfl ?_
 refine sS rfl rfl rfl hl3 ho3 rfl ?_ (hu := by exact D5 hl3.symm)
 refine sQ (qA rfl) rfl (sD (nS (tT (rB (rS ?_)))))
 refine E9 (rC rfl (A5 rfl rfl (B5 (by repeat first | exact mH | apply mT)) hl3)) (rT rfl) ?_
 (exact Q9.yes (by rw [if_pos (by omega)]; unfold kd; rw [List.getD_eq_getElem?_getD, List.getElem?_eq_getElem (by omega), Option.getD_some]) hre3)
 refine M1 ?_
 refine E9 (rC rfl (A2 rfl rfl)) (rT rfl) ?_
 (exact Q9.no (by rw [if_neg (by omega)]) (O3 _))
 refine sQ (qA rfl) rfl (sD (nS (cF rfl (tR ?_))))
 refine sP (V6 rfl rfl (by omega)) rfl rfl ?_
 refine D7 ?_
 refine sB (qE rfl rfl) rfl rfl (fun h137 => ?_) (fun h137 => ?_)
 refine sD (nS (qT rfl (tS ?_)))
 (have hq : ak = 10 := (by omega); have hq1 := h2 hq; obtain ⟨bq, oq, e3, rfl, hl3, hat3, hre3, hgb3⟩ := hasl.kidTm hakl (i := i) (by omega) (by omega); have ho3 := hre3.one)
 refine R2 ?_
 refine sP (O4 rfl rfl (by omega) (by omega)) rfl rfl ?_
 (rw [show (k - 11 : Int) = ((i : Nat) : Int) from (by omega)]; refine sP (B4 (j := i) rfl rfl rfl (by omega)) rfl rfl ?_)
 refine sL (A5 rfl rfl (hat3 _) hl3) rfl rfl ?_
 refine sS rfl rfl rfl hl3 ho3 rfl ?_ (hu := by exact D5 hl3.symm)
 refine sQ (qA rfl) rfl (sD (nS (tT (rB (rS ?_)))))
 refine E9 (rC rfl (A5 rfl rfl (B5 (by repeat first | exact mH | apply mT)) hl3)) (rT rfl) ?_
 (exact Q9.yes (by rw [if_pos (by omega)]; unfold kd; rw [List.getD_eq_getElem?_getD, List.getElem?_eq_getElem (by omega), Option.getD_some]) hre3)
 refine M1 ?_
 refine E9 (rC rfl (A2 rfl rfl)) (rT rfl) ?_
 (exact Q9.no (by rw [if_neg (by omega)]) (O3 _))
section
variable {P : Program} {Γ : K1} {K : Po} {ops : Array Oper} {env : K7} {hp : List A4} {G : IM}
theorem A4m {H : List (Nat × Nat)} {fuel j : Nat} {listed : List Bool} {hp' : List A4} {p : Option Addr} {c el sz n : Nat} {cs : List Value} (hk : Pk hp (.slc p c el sz n cs) hp')
  (h : ∀ G', B1 G G' → Sl G' p n c sz cs → (∀ b ∈ I5 p, G b = none ∧ G' b ≠ none) → U3 P Γ ops K H fuel listed j ⟨env, hp', G'⟩) : U3 P Γ ops K H fuel listed j ⟨env, hp, G⟩ :=
 ⟨fun a w hs => let ⟨G', h1, h2, h3, h4⟩ := hs.freeze hk; (h G' h2 h3 h4).run a w h1⟩
end
theorem B3.kids {G : IM} {t : Ty} {a : Value} {p : Option Addr} {n c : Nat} (h : B3 G t [a, .slice p n c]) : ∃ es, B9 G p t.ks.length c 2 es ∧ B0 G t.ks es := by
 obtain ⟨p', c', es, he, _, h1, h2⟩ := h.open
 simp only [List.cons.injEq, Value.slice.injEq, and_true] at he
 obtain ⟨_, rfl, _, rfl⟩ := he
 exact ⟨es, h1, h2⟩
def X9 (k : Int) (ty fr : Ty) (lb : Int) (ks : List Tm) : Stp :=
 if k = 6 then
  (if W1 (kd ks 0) = true ∧ (kd ks 0).ty.k = 4 then (O7 (A1a 6 [kd (kd ks 0).ks 0, O7 (kd ks 1) (kt (kd ks 0).ty.ks 0) (kt (kd ks 0).fr.ks 0) (-(kd ks 0).lb)]) (kt (kd ks 0).fr.ks 1) (kt (kd ks 0).ty.ks 1) (kd ks 0).lb, 1, 0) else V2)
 else if k = 11 ∨ k = 12 then
  (if W1 (kd ks 0) = true ∧ (kd ks 0).ty.k = 5 then (O7 (A1a k [kd (kd ks 0).ks 0]) (kt (kd ks 0).fr.ks (k - 11).toNat) (kt (kd ks 0).ty.ks (k - 11).toNat) (kd ks 0).lb, 1, 0) else V2)
 else if k = 14 then
  (if fr.k = ty.k then (kd ks 0, 1, 0)
   else if ty.k = 1 then (O7 (O7 (kd ks 0) fr (A0F fr) lb) (A0F fr) ty lb, 1, 0)
   else if W0 ty = false then (O7 (O7 (kd ks 0) fr (A0F ty) lb) (A0F ty) ty lb, 1, 0)
   else if inj (kd ks 0) = false then V2
   else if (kd ks 0).fr.k = ty.k then (kd (kd ks 0).ks 0, 1, 0)
   else (J4, 2, lb))
 else V2
theorem B3s (k : Int) (ty fr : Ty) (lb : Int) (ks : List Tm) : A0m k ty fr lb ks = match X3 k ks with | some u => (u, 1, 0) | none => X9 k ty fr lb ks := by
 unfold A0m X3 X9
 by_cases h6 : k = 6
 ·rw [if_pos h6, if_pos h6, if_pos h6]
  by_cases h : (kd ks 0).k = 5
  ·rw [if_pos h, if_pos h]
  ·rw [if_neg h, if_neg h]
 rw [if_neg h6, if_neg h6, if_neg h6]
 by_cases h7 : k = 7 ∨ k = 8
 ·rw [if_pos h7, if_pos h7]
  by_cases h : (kd ks 0).k = 2 ∧ (kd ks 1).k = 2
  ·rw [if_pos h, if_pos h]
  ·rw [if_neg h, if_neg h]; simp only; rw [if_neg (by omega), if_neg (by omega)]
 rw [if_neg h7, if_neg h7]
 by_cases h9 : k = 9
 ·rw [if_pos h9, if_pos h9]
  by_cases h : (kd ks 0).k = 3
  ·rw [if_pos h, if_pos h]
  ·rw [if_neg h, if_neg h]
   by_cases h' : (kd ks 0).k = 4
   ·rw [if_pos h', if_pos h']
   ·rw [if_neg h', if_neg h']; simp only; rw [if_neg (by omega), if_neg (by omega)]
 rw [if_neg h9, if_neg h9]
 by_cases h11 : k = 11 ∨ k = 12
 ·rw [if_pos h11, if_pos h11, if_pos h11]
  by_cases h : (kd ks 0).k = 10
  ·rw [if_pos h, if_pos h]
  ·rw [if_neg h, if_neg h]
 rw [if_neg h11, if_neg h11, if_neg h11]
def R0 (r : Stp) : IM → Value → List A4 → Prop := L5 fun G' v => ∃ u cells, v = .tuple ⟨[.agg ⟨cells⟩, .int .i64 r.2.1, .int .i64 r.2.2]⟩ ∧ A9 G' u cells ∧ (r.2.1 = 1 → u = r.1)
theorem R0.mk {G : IM} {r : Stp} {u : Tm} {cells : List Value} {c l : Int} (h : r = (u, c, l)) (hr : A9 G u cells) : R0 r G (.tuple ⟨[.agg ⟨cells⟩, .int .i64 c, .int .i64 l]⟩) [] := by
 subst h; exact ⟨rfl, u, cells, rfl, hr, fun _ => rfl⟩
theorem A3q {ks : List Tm} {i : Nat} (h : i < ks.length) : kd ks i = ks[i] := by unfold kd; rw [List.getD_eq_getElem?_getD, List.getElem?_eq_getElem h, Option.getD_some]
theorem A0J {ks : List Ty} {i : Nat} (h : i < ks.length) : kt ks i = ks[i] := by unfold kt; rw [List.getD_eq_getElem?_getD, List.getElem?_eq_getElem h, Option.getD_some]
theorem A8D {t : Ty} (h : W0 t = true) : t = A0F t := by
 unfold W0 at h
 rw [Bool.and_eq_true] at h
 exact (A08 _ _).1 h.2
theorem B3t (a b : Tm) (nm : ByteArray) (num : Int) (ty fr : Ty) (lb : Int) (G : IM) (cells : List Value) (hca : cv a) (hr : A9 G (.mk 6 nm num ty fr lb [a, b]) cells) : Fn Tryz.prog 132 [.agg ⟨cells⟩] [] G (R0 (X9 6 ty fr lb [a, b])) := by
 obtain ⟨ak, anm, anum, ⟨atk, atks⟩, ⟨afk, afks⟩, alb, aks⟩ := a
 obtain ⟨hN, hkk⟩ := hca.node
 have hops := hN.ops
 have hbl := hN.lbB
 have htyA := hN.tyA
 have hfrA := hN.frA
 rw [D8] at htyA hfrA
 have h14 : ak = 14 → aks.length = 1 := fun h => by rw [h] at hops; have : D1 14 = 1 := rfl; omega
 obtain ⟨tk, tks⟩ := ty
 obtain ⟨fk, fks⟩ := fr
 obtain ⟨pt, ct, pf, cf, p, c, es, rfl, hk, hnum, hlb, hty, hfr, hsl, hkl⟩ := hr.open9
 obtain ⟨bx, ox, e0, rfl, hl0, hat0, hre0, hgb0⟩ := hsl.kidTm hkl (i := 0) (by simp) (by simp)
 replace hre0 : A9 G (Tm.mk ak anm anum (.mk atk atks) (.mk afk afks) alb aks) e0 := hre0
 have hP : Fn Tryz.prog 45 [.agg ⟨e0⟩] [] G (H9 (.bool (decide (ak = 14 ∧ afk = atk ∧ (atk = 4 ∨ atk = 5)))) G) := A2b _ G _ hre0
 obtain ⟨apt, act, apf, acf, ap, ac, aes, rfl, hak, hanum, halb, haty, hafr, hasl, hakl⟩ := hre0.open9
 obtain ⟨tes, htS, htL⟩ := haty.kids
 obtain ⟨fes, hfS, hfL⟩ := hafr.kids
 simp only [Ty.ks] at htS htL hfS hfL
 obtain ⟨_, _, e1, hp1, hl1, hat1, hre1, hgb1⟩ := hsl.kidTm hkl (i := 1) (by simp) (by simp)
 cases hp1
 replace hre1 : A9 G b e1 := hre1
 have ho1 := hre1.one
 have hR : X9 6 (.mk tk tks) (.mk fk fks) lb [Tm.mk ak anm anum (.mk atk atks) (.mk afk afks) alb aks, b] = (if (ak = 14 ∧ afk = atk ∧ (atk = 4 ∨ atk = 5)) ∧ atk = 4 then (O7 (A1a 6 [kd aks 0, O7 b (kt atks 0) (kt afks 0) (-alb)]) (kt afks 1) (kt atks 1) alb, 1, 0) else V2) := by
  unfold X9
  rw [if_pos rfl, show kd [Tm.mk ak anm anum (.mk atk atks) (.mk afk afks) alb aks, b] 0 = Tm.mk ak anm anum (.mk atk atks) (.mk afk afks) alb aks from rfl, A2F]
  simp only [decide_eq_true_eq]
  rfl
 rw [hR]
 refine B7 Tryz.func132 rfl Tryz.ntmps132 Tryz.results132 rfl ?_
 intro w0
 refine tS (tR ?_)
 refine sE (C2 rfl rfl) rfl (fun b3 => ?_)
 refine sE (A6 rfl) rfl (fun b4 => ?_)
 refine D7 ?_
 refine sP (B4 (j := 0) rfl rfl rfl (by simp)) rfl rfl ?_
 refine sL (A5 rfl rfl (hat0 _) rfl) rfl rfl ?_
 refine sE (A6 rfl) rfl (fun b15 => ?_)
 refine F9 ?_
 refine sD (nS (tS ?_))
 refine B6 ?_
 refine tS (tR (sQ (B8 rfl) rfl (sL (C7 rfl rfl) rfl rfl ?_)))
 refine sP (V6 rfl rfl (by omega)) rfl rfl ?_
 refine sQ (qM rfl) rfl (sL (A2 rfl rfl) rfl rfl ?_)
 focus (by_cases hpx : (ak = 14 ∧ afk = atk ∧ (atk = 4 ∨ atk = 5)); rw [decide_eq_true hpx] at hP; rotate_left; rw [decide_eq_false hpx] at hP; rotate_left; all_goals (refine H2 rfl hP rfl rfl ?_))
 refine R2 ?_
 refine sB (qE rfl rfl) rfl rfl (fun h34 => ?_) (fun h34 => ?_)
 refine I0 ?_
 (have hq : (ak = 14 ∧ afk = atk ∧ (atk = 4 ∨ atk = 5)) ∧ atk = 4 := ⟨hpx, by omega⟩; have hq1 := h14 hq.1.1; have hq2 := htyA.1 (by omega); have hq3 := hfrA.1 (by omega); obtain ⟨bq, oq, e3, rfl, hl3, hat3, hre3, hgb3⟩ := hasl.kidTm hakl (i := 0) (by omega) (by omega); have ho3 := hre3.one; obtain ⟨b5, o5, q5, d5, rfl, hat5, hre5, hgb5⟩ := htS.kidTy htL (i := 0) (by omega) (by omega); obtain ⟨_, _, q6, d6, hp6, hat6, hre6, hgb6⟩ := htS.kidTy htL (i := 1) (by omega) (by omega); cases hp6; obtain ⟨b7, o7, q7, d7, rfl, hat7, hre7, hgb7⟩ := hfS.kidTy hfL (i := 0) (by omega) (by omega); obtain ⟨_, _, q8, d8, hp8, hat8, hre8, hgb8⟩ := hfS.kidTy hfL (i := 1) (by omega) (by omega); cases hp8; obtain ⟨x1, x2, x3, x4, x5, x6, x7, x8, x9, rfl⟩ := nine hl3; obtain ⟨y1, y2, y3, y4, y5, y6, y7, y8, y9, rfl⟩ := nine hl1; refine E4 E7 rfl ?_)
 refine K2 (i := 0) (l' := [tt,ff,ff,ff,ff,ff,ff,ff,ff,ff,ff,ff]) rfl D6 (B8 rfl) rfl (by kernel_rfl) rfl rfl ?_
 refine aL 1 rfl (C7 rfl rfl) rfl ?_
 refine aP 2 rfl (B4 (j := 0) rfl rfl rfl (by omega)) rfl ?_
 refine aL 3 rfl (A5 rfl rfl (hat3 _) rfl) rfl ?_
 refine aP 4 rfl (B8 rfl) rfl ?_
 refine aL 5 rfl (C7 rfl rfl) rfl ?_
 refine aP 6 rfl (B4 (j := 1) rfl rfl rfl (by simp)) rfl ?_
 refine aL 7 rfl (A5 rfl rfl (hat1 _) rfl) rfl ?_
 refine T6 (j := 8) (j' := 9) (by kernel_rfl) ?_ ?_
 (refine E1 rfl (A6 rfl) rfl rfl ?_; rintro _ ⟨b51, rfl⟩)
 refine A3 9 ?_
 (refine E1 rfl (A6 rfl) rfl rfl ?_; rintro _ ⟨b53, rfl⟩)
 refine A3 10 ?_
 (refine oS rfl rfl rfl rfl rfl ho3 rfl rfl ?_ (hu := by exact D5 rfl.symm))
 refine A3 11 ?_
 (refine oS rfl rfl rfl rfl rfl ho1 rfl rfl ?_ (hu := by exact D5 rfl.symm))
 refine C4 (nS (tS ?_))
 refine E4 E7 rfl ?_
 refine P8 (i := 0) (l' := [tt,ff,ff,ff,ff,ff,ff,ff,ff,ff,ff,ff,ff,ff,ff,ff,ff,ff,ff,ff,ff,ff,ff,ff,ff,ff,ff,ff,ff,ff,ff,ff,ff,ff]) rfl D6 (A5 rfl rfl (B5 (by repeat first | exact mH | apply mT)) rfl) rfl (by kernel_rfl) rfl rfl ?_
 refine aL 1 rfl (A5 rfl rfl (B5 (by repeat first | exact mH | apply mT)) rfl) rfl ?_
 refine aP 2 rfl (B8 rfl) rfl ?_
 refine aP 3 rfl (qF rfl) rfl ?_
 refine aL 4 rfl (C7 rfl rfl) rfl ?_
 refine aP 5 rfl (B4 (j := 0) rfl rfl rfl (by omega)) rfl ?_
 refine aL 6 rfl (A5 rfl rfl (hat5 _) rfl) rfl ?_
 refine aP 7 rfl (B8 rfl) rfl ?_
 refine aP 8 rfl (qF rfl) rfl ?_
 refine aL 9 rfl (C7 rfl rfl) rfl ?_
 refine aP 10 rfl (B4 (j := 0) rfl rfl rfl (by omega)) rfl ?_
 refine aL 11 rfl (A5 rfl rfl (hat7 _) rfl) rfl ?_
 refine aP 12 rfl (B8 rfl) rfl ?_
 refine aL 13 rfl (C7 rfl rfl) rfl ?_
 refine aP 14 rfl (A6i rfl (by omega) (by omega)) rfl ?_
 refine aP 18 rfl (B8 rfl) rfl ?_
 refine aP 19 rfl (qF rfl) rfl ?_
 refine aL 20 rfl (C7 rfl rfl) rfl ?_
 refine aP 21 rfl (B4 (j := 1) rfl rfl rfl (by omega)) rfl ?_
 refine aL 22 rfl (A5 rfl rfl (hat8 _) rfl) rfl ?_
 refine aP 23 rfl (B8 rfl) rfl ?_
 refine aP 24 rfl (qF rfl) rfl ?_
 refine aL 25 rfl (C7 rfl rfl) rfl ?_
 refine aP 26 rfl (B4 (j := 1) rfl rfl rfl (by omega)) rfl ?_
 refine aL 27 rfl (A5 rfl rfl (hat6 _) rfl) rfl ?_
 refine aP 28 rfl (B8 rfl) rfl ?_
 refine aL 29 rfl (C7 rfl rfl) rfl ?_
 refine A3 15 ?_
 (refine K4 rfl rfl (A1g b atks[0] afks[0] (-alb) G _ _ _ ⟨by omega, by omega⟩ hre1 hre5 hre7) rfl rfl rfl (fun u G1 hle1 hh => ?_); obtain ⟨uc, rfl, hru⟩ := hh; have hul := hru.len; have huo := hru.one; obtain ⟨z1, z2, z3, z4, z5, z6, z7, z8, z9, rfl⟩ := nine hul; replace hre3 := hre3.mono hle1; replace hre6 := hre6.mono hle1; replace hre8 := hre8.mono hle1)
 refine A3 16 ?_
 (refine E1 rfl (C3 rfl rfl rfl (by omega) (by unfold maxLen; omega) rfl) rfl rfl ?_; rintro _ ⟨b92, rfl⟩)
 refine A3 17 ?_
 (refine A4m (cs := [x1, x2, x3, x4, x5, x6, x7, x8, x9, z1, z2, z3, z4, z5, z6, z7, z8, z9]) (by repeat (first | exact Pk.here | apply Pk.there)) (fun G2 hle2 hsl2 hno2 => ?_); have hrN := A3e (k := 6) (ks := [aks[0], O7 b atks[0] afks[0] (-alb)]) (es := [[x1, x2, x3, x4, x5, x6, x7, x8, x9], [z1, z2, z3, z4, z5, z6, z7, z8, z9]]) ⟨by decide, by decide⟩ rfl (B9.of hsl2 rfl (by simp) (by intro x hx; rcases List.mem_cons.1 hx with rfl | hx; exact ho3; obtain rfl := List.mem_singleton.1 hx; exact huo)) (by simp only [C8]; exact ⟨_, _, rfl, hre3.mono hle2, _, _, rfl, hru.mono hle2, rfl⟩); replace hre6 := hre6.mono hle2; replace hre8 := hre8.mono hle2; refine P5 rfl rfl (A2G _ _ _ _ _) rfl rfl rfl ?_)
 refine A3 30 ?_
 (refine K4 rfl rfl (A1g _ afks[1] atks[1] alb G2 _ _ _ ⟨by omega, by omega⟩ hrN hre8 hre6) rfl rfl rfl (fun u G3 hle3 hh => ?_); obtain ⟨wc, rfl, hrw⟩ := hh; have hwl := hrw.len; have hwo := hrw.one)
 refine A3 31 ?_
 (refine oS rfl rfl rfl rfl hwl hwo rfl rfl ?_ (hu := by exact D5 hwl.symm))
 refine aP 32 rfl (qA rfl) rfl ?_
 refine aP 33 rfl (qA rfl) rfl ?_
 refine C4 (nS (tT (rB (rS ?_))))
 refine E6 (rC rfl (A5 rfl rfl (B5 (by repeat first | exact mH | apply mT)) hwl)) (rT rfl) (rT rfl) ?_
 (exact R0.mk (by rw [if_pos hq, A3q (by omega), A0J (by omega), A0J (by omega), A0J (by omega), A0J (by omega)]) hrw)
 (refine E1 rfl (A6 rfl) rfl rfl ?_; rintro _ ⟨b108, rfl⟩)
 refine A3 8 ?_
 (refine E1 rfl (A6 rfl) rfl rfl ?_; rintro _ ⟨b110, rfl⟩)
 refine A3 10 ?_
 (refine oS rfl rfl rfl rfl rfl ho3 rfl rfl ?_ (hu := by exact D5 rfl.symm))
 refine A3 11 ?_
 (refine oS rfl rfl rfl rfl rfl ho1 rfl rfl ?_ (hu := by exact D5 rfl.symm))
 refine C4 (nS (tS ?_))
 refine E4 E7 rfl ?_
 refine P8 (i := 0) (l' := [tt,ff,ff,ff,ff,ff,ff,ff,ff,ff,ff,ff,ff,ff,ff,ff,ff,ff,ff,ff,ff,ff,ff,ff,ff,ff,ff,ff,ff,ff,ff,ff,ff,ff]) rfl D6 (A5 rfl rfl (B5 (by repeat first | exact mH | apply mT)) rfl) rfl (by kernel_rfl) rfl rfl ?_
 refine aL 1 rfl (A5 rfl rfl (B5 (by repeat first | exact mH | apply mT)) rfl) rfl ?_
 refine aP 2 rfl (B8 rfl) rfl ?_
 refine aP 3 rfl (qF rfl) rfl ?_
 refine aL 4 rfl (C7 rfl rfl) rfl ?_
 refine aP 5 rfl (B4 (j := 0) rfl rfl rfl (by omega)) rfl ?_
 refine aL 6 rfl (A5 rfl rfl (hat5 _) rfl) rfl ?_
 refine aP 7 rfl (B8 rfl) rfl ?_
 refine aP 8 rfl (qF rfl) rfl ?_
 refine aL 9 rfl (C7 rfl rfl) rfl ?_
 refine aP 10 rfl (B4 (j := 0) rfl rfl rfl (by omega)) rfl ?_
 refine aL 11 rfl (A5 rfl rfl (hat7 _) rfl) rfl ?_
 refine aP 12 rfl (B8 rfl) rfl ?_
 refine aL 13 rfl (C7 rfl rfl) rfl ?_
 refine aP 14 rfl (A6i rfl (by omega) (by omega)) rfl ?_
 refine aP 18 rfl (B8 rfl) rfl ?_
 refine aP 19 rfl (qF rfl) rfl ?_
 refine aL 20 rfl (C7 rfl rfl) rfl ?_
 refine aP 21 rfl (B4 (j := 1) rfl rfl rfl (by omega)) rfl ?_
 refine aL 22 rfl (A5 rfl rfl (hat8 _) rfl) rfl ?_
 refine aP 23 rfl (B8 rfl) rfl ?_
 refine aP 24 rfl (qF rfl) rfl ?_
 refine aL 25 rfl (C7 rfl rfl) rfl ?_
 refine aP 26 rfl (B4 (j := 1) rfl rfl rfl (by omega)) rfl ?_
 refine aL 27 rfl (A5 rfl rfl (hat6 _) rfl) rfl ?_
 refine aP 28 rfl (B8 rfl) rfl ?_
 refine aL 29 rfl (C7 rfl rfl) rfl ?_
 refine A3 15 ?_
 (refine K4 rfl rfl (A1g b atks[0] afks[0] (-alb) G _ _ _ ⟨by omega, by omega⟩ hre1 hre5 hre7) rfl rfl rfl (fun u G1 hle1 hh => ?_); obtain ⟨uc, rfl, hru⟩ := hh; have hul := hru.len; have huo := hru.one; obtain ⟨z1, z2, z3, z4, z5, z6, z7, z8, z9, rfl⟩ := nine hul; replace hre3 := hre3.mono hle1; replace hre6 := hre6.mono hle1; replace hre8 := hre8.mono hle1)
 refine A3 16 ?_
 (refine E1 rfl (C3 rfl rfl rfl (by omega) (by unfold maxLen; omega) rfl) rfl rfl ?_; rintro _ ⟨b149, rfl⟩)
 refine A3 17 ?_
 (refine A4m (cs := [x1, x2, x3, x4, x5, x6, x7, x8, x9, z1, z2, z3, z4, z5, z6, z7, z8, z9]) (by repeat (first | exact Pk.here | apply Pk.there)) (fun G2 hle2 hsl2 hno2 => ?_); have hrN := A3e (k := 6) (ks := [aks[0], O7 b atks[0] afks[0] (-alb)]) (es := [[x1, x2, x3, x4, x5, x6, x7, x8, x9], [z1, z2, z3, z4, z5, z6, z7, z8, z9]]) ⟨by decide, by decide⟩ rfl (B9.of hsl2 rfl (by simp) (by intro x hx; rcases List.mem_cons.1 hx with rfl | hx; exact ho3; obtain rfl := List.mem_singleton.1 hx; exact huo)) (by simp only [C8]; exact ⟨_, _, rfl, hre3.mono hle2, _, _, rfl, hru.mono hle2, rfl⟩); replace hre6 := hre6.mono hle2; replace hre8 := hre8.mono hle2; refine P5 rfl rfl (A2G _ _ _ _ _) rfl rfl rfl ?_)
 refine A3 30 ?_
 (refine K4 rfl rfl (A1g _ afks[1] atks[1] alb G2 _ _ _ ⟨by omega, by omega⟩ hrN hre8 hre6) rfl rfl rfl (fun u G3 hle3 hh => ?_); obtain ⟨wc, rfl, hrw⟩ := hh; have hwl := hrw.len; have hwo := hrw.one)
 refine A3 31 ?_
 (refine oS rfl rfl rfl rfl hwl hwo rfl rfl ?_ (hu := by exact D5 hwl.symm))
 refine aP 32 rfl (qA rfl) rfl ?_
 refine aP 33 rfl (qA rfl) rfl ?_
 refine C4 (nS (tT (rB (rS ?_))))
 refine E6 (rC rfl (A5 rfl rfl (B5 (by repeat first | exact mH | apply mT)) hwl)) (rT rfl) (rT rfl) ?_
 (exact R0.mk (by rw [if_pos hq, A3q (by omega), A0J (by omega), A0J (by omega), A0J (by omega), A0J (by omega)]) hrw)
 refine D2 ?_
 refine sP (I3 rfl rfl (by omega)) rfl rfl ?_
 refine J0 ?_
 refine sP (I3 rfl rfl (by omega)) rfl rfl ?_
 refine A0a ?_
 refine sP (A0x rfl rfl (by omega)) rfl rfl ?_
 refine I4 ?_
 refine E6 (rC rfl (A2 rfl rfl)) (rT rfl) (rT rfl) ?_
 (exact R0.mk (by rw [if_neg (by omega)]; rfl) (O3 _))
 refine I4 ?_
 refine sP (I3 rfl rfl (by omega)) rfl rfl ?_
 refine J0 ?_
 refine sP (I3 rfl rfl (by omega)) rfl rfl ?_
 refine A0a ?_
 refine sP (A0x rfl rfl (by omega)) rfl rfl ?_
 refine I4 ?_
 refine E6 (rC rfl (A2 rfl rfl)) (rT rfl) (rT rfl) ?_
 (exact R0.mk (by rw [if_neg (by omega)]; rfl) (O3 _))
end Gw
end Go.Proofs.YtipblncpnffmbaaGreatDoor
