/-
  What a node wants of its operands.
-/
import Derived.Test.YtfpgncjeejickaaGreatKg3
import Derived.Test.YtfpgncjeejickaaGreatKg2
import Derived.Test.YtfpgncjeejickaaGreatKg1
import Derived.Test.YtfpgncjeejickaaGreatKg0
set_option linter.unusedVariables false
set_option linter.unusedSimpArgs false
set_option maxHeartbeats 0
set_option maxRecDepth 100000
set_option synthInstance.maxSize 4000
set_option synthInstance.maxHeartbeats 0
namespace Go.Proofs.YtfpgncjeejickaaGreat
open Go Go.RowKit
namespace Gw
theorem D1.kidD {G : IM} {p : Option Addr} {n c : Nat} {es : List (List Value)} {ks : List Ty} (h : D1 G p n c 2 es) (hk : C8 G ks es) {i : Nat} (hi : i < n) (hn : i < ks.length) :
  ∃ b o q d, p = some ⟨b, o, none⟩ ∧ (∀ hp, At hp G b (o + i * 2) [.int .i64 (ks.getD i B2).k, .slice q (ks.getD i B2).ks.length d]) ∧ C1 G (ks.getD i B2) [.int .i64 (ks.getD i B2).k, .slice q (ks.getD i B2).ks.length d] ∧ G b ≠ none := by
 obtain ⟨b, o, q, d, h1, h2, h3, h4⟩ := h.kidTy hk hi hn
 rw [List.getD_eq_getElem?_getD, List.getElem?_eq_getElem hn, Option.getD_some]
 exact ⟨b, o, q, d, h1, h2, h3, h4⟩
theorem A3a {hs : List Ty} (h : ∀ t ∈ hs, F4 t) {i : Nat} (hi : i < hs.length) : F4 (hs.getD i B2) := by
 rw [List.getD_eq_getElem?_getD, List.getElem?_eq_getElem hi, Option.getD_some]
 exact h _ (List.getElem_mem hi)
def L6 (r : Option (List Ty × Ty)) (G : IM) : IM → Value → List A5 → Prop := J4 fun G' v => ∃ p n c es w cu u, v = .tuple ⟨[.slice p n c, .agg ⟨cu⟩, .bool r.isSome]⟩ ∧ n = w.length ∧ D1 G' p n c 2 es ∧ C8 G' w es ∧ C1 G' u cu ∧ ∀ q, r = some q → q = (w, u)
theorem L6.mk {r : Option (List Ty × Ty)} {G G' : IM} {p : Option Addr} {n c : Nat} {es : List (List Value)} {w : List Ty} {cu : List Value} {u : Ty} {b : Bool} (hl : n = w.length) (hs : Sl G' p n c 2 es.flatten) (hw : C8 G' w es) (hu : C1 G' u cu) (h : r = if b = true then some (w, u) else none) :
  L6 r G G' (.tuple ⟨[.slice p n c, .agg ⟨cu⟩, .bool b]⟩) [] := by
 refine ⟨rfl, p, n, c, es, w, cu, u, ?_, hl, D1.of hs (by rw [hw.len, hl]) hw.all (fun e he => (hw.each e he).2), hw, hu, ?_⟩
 ·subst h; cases b <;> rfl
 ·subst h; cases b
  ·simp
  ·intro q hq; simpa using hq.symm
theorem L6.nil {r : Option (List Ty × Ty)} {G G' : IM} {cu : List Value} {u : Ty} {b : Bool} (hu : C1 G' u cu) (h : r = if b = true then some ([], u) else none) :
  L6 r G G' (.tuple ⟨[.slice none 0 0, .agg ⟨cu⟩, .bool b]⟩) [] := L6.mk (es := []) rfl (Sl.nil _ _) (by simp [C8]) hu h
theorem L6.one {r : Option (List Ty × Ty)} {G G' : IM} {p : Option Addr} {c : Nat} {a : Ty} {ca : List Value} {cu : List Value} {u : Ty} {b : Bool} (hs : Sl G' p 1 c 2 ca) (ha : C1 G' a ca) (hu : C1 G' u cu) (h : r = if b = true then some ([a], u) else none) :
  L6 r G G' (.tuple ⟨[.slice p 1 c, .agg ⟨cu⟩, .bool b]⟩) [] := L6.mk (es := [ca]) (w := [a]) rfl (by simpa using hs) ⟨_, _, rfl, ha, rfl⟩ hu h
theorem L6.two {r : Option (List Ty × Ty)} {G G' : IM} {p : Option Addr} {c : Nat} {a a2 : Ty} {ca ca2 : List Value} {cu : List Value} {u : Ty} {b : Bool} (hs : Sl G' p 2 c 2 (ca ++ ca2)) (ha : C1 G' a ca) (ha2 : C1 G' a2 ca2) (hu : C1 G' u cu) (h : r = if b = true then some ([a, a2], u) else none) :
  L6 r G G' (.tuple ⟨[.slice p 2 c, .agg ⟨cu⟩, .bool b]⟩) [] := L6.mk (es := [ca, ca2]) (w := [a, a2]) rfl (by simpa using hs) ⟨_, _, rfl, ha, _, _, rfl, ha2, rfl⟩ hu h
theorem L6.three {r : Option (List Ty × Ty)} {G G' : IM} {p : Option Addr} {c : Nat} {a a2 a3 : Ty} {ca ca2 ca3 : List Value} {cu : List Value} {u : Ty} {b : Bool} (hs : Sl G' p 3 c 2 (ca ++ (ca2 ++ ca3))) (ha : C1 G' a ca) (ha2 : C1 G' a2 ca2) (ha3 : C1 G' a3 ca3) (hu : C1 G' u cu) (h : r = if b = true then some ([a, a2, a3], u) else none) :
  L6 r G G' (.tuple ⟨[.slice p 3 c, .agg ⟨cu⟩, .bool b]⟩) [] := L6.mk (es := [ca, ca2, ca3]) (w := [a, a2, a3]) rfl (by simpa using hs) ⟨_, _, rfl, ha, _, _, rfl, ha2, _, _, rfl, ha3, rfl⟩ hu h
section
variable {cx : Cx} {nm : ByteArray} {ty : Ty} {h : List Ty}
theorem mW1 : L8 cx 1 nm ty h = match V6 cx nm with | some t => some ([], t) | none => none := rfl
theorem mW2 : L8 cx 2 nm ty h = some ([], S8) := rfl
theorem A3P {k : Int} (hk : k = 3 ∨ k = 4) : L8 cx k nm ty h = some ([], W5) := by rcases hk with rfl | rfl <;> rfl
theorem mW5 : L8 cx 5 nm ty h = some ([], .mk 4 [ty, h.getD 0 B2]) := rfl
theorem mW6 : L8 cx 6 nm ty h = match R0 4 (h.getD 0 B2) with | some (a, b) => if K0 (h.getD 1 B2) a = true then some ([.mk 4 [a, b], a], b) else none | none => none := rfl
theorem V8 {k : Int} (hk : k = 7 ∨ k = 8) : L8 cx k nm ty h = if K0 (h.getD 0 B2) S8 = true ∧ K0 (h.getD 1 B2) S8 = true then some ([S8, S8], if k = 8 then W5 else S8) else none := by rcases hk with rfl | rfl <;> rfl
theorem mW9 : L8 cx 9 nm ty h = if K0 (h.getD 0 B2) W5 = true ∧ K0 (h.getD 1 B2) (h.getD 2 B2) = true then some ([W5, U7 (h.getD 1 B2) (h.getD 2 B2), U7 (h.getD 1 B2) (h.getD 2 B2)], U7 (h.getD 1 B2) (h.getD 2 B2)) else none := rfl
theorem A4W : L8 cx 10 nm ty h = some ([], .mk 5 [h.getD 0 B2, h.getD 1 B2]) := rfl
theorem A2C : L8 cx 13 nm ty h = if K0 (h.getD 0 B2) ty = true then some ([ty], ty) else none := rfl
theorem A3b {k : Int} (hk : k = 11 ∨ k = 12) : L8 cx k nm ty h = match R0 5 (h.getD 0 B2) with | some (a, b) => some ([.mk 5 [a, b]], if k = 12 then b else a) | none => none := by rcases hk with rfl | rfl <;> rfl
end
theorem K4 (G : IM) : C1 G S8 [.int .i64 2, .slice none 0 0] := M7 G ⟨by omega, by omega⟩
theorem A0a (G : IM) : C1 G W5 [.int .i64 3, .slice none 0 0] := M7 G ⟨by omega, by omega⟩
theorem B27 (cx : Cx) (k : Int) (nm : ByteArray) (num : Int) (ty fr : Ty) (lb : Int) (ks : List Tm) (h : List Ty) (G : IM) (pc : Option Addr) (nc cc : Nat) (cells : List Value) (p : Option Addr) (n c : Nat) (es : List (List Value))
  (hx : S0 G cx pc nc cc) (hops : E2 k = n) (hnl : n = h.length) (hk14 : k ≠ 14) (hta : F4 ty) (hr : A8 G (.mk k nm num ty fr lb ks) cells) (hsl : D1 G p n c 2 es) (hkl : C8 G h es) (har : ∀ t ∈ h, F4 t) :
  Fn Tryz.prog 91 [.slice pc nc cc, .agg ⟨cells⟩, .slice p n c] [] G (L6 (L8 cx k nm ty h) G) := by
 have hone := hr.one
 have hop := A25 hops
 have hkr : 1 ≤ k ∧ k ≤ 14 := by
  apply Classical.byContradiction
  intro hc
  rw [A4u hc] at hops; omega
 obtain ⟨tyk, tyks⟩ := ty
 obtain ⟨fk, fks⟩ := fr
 obtain ⟨pt, ct, pf, cf, pk, ck, ek, rfl, hk, hnum, hlb, hrty, hrfr, _, _⟩ := hr.open9
 refine C0 Tryz.func91 rfl Tryz.ntmps91 Tryz.results91 rfl ?_
 intro w0
 refine tS (tR ?_)
 refine sE (C5 rfl rfl) rfl (fun b3 => ?_)
 refine sQ (qA rfl) rfl ?_
 refine sE (A6 rfl) rfl (fun b5 => ?_)
 refine B0 ?_
 refine H3 rfl ((A1k _ _)) rfl rfl ?_
 refine H3 rfl ((A1k _ _)) rfl rfl ?_
 refine sE (A6 rfl) rfl (fun b13 => ?_)
 refine sE (A6 rfl) rfl (fun b14 => ?_)
 refine J2 ?_
 refine B8 (tS (tR (sB (qE rfl rfl) rfl rfl (fun h29 => ?_) (fun h29 => ?_))))
 refine E4 ?_
 (refine D8 rfl (B23 G cx pc nc cc nm hx) rfl rfl (fun v G1 hle1 hh => ?_); obtain ⟨cu, u, rfl, hru, hu⟩ := hh; obtain ⟨p1, c1, e1, rfl, _⟩ := hru.open)
 refine E3 ?_
 refine sE (A6 rfl) rfl (fun b43 => ?_)
 refine B0 ?_
 refine E0 E1 rfl ?_
 refine L7 (i := 0) (l' := [tt,ff,ff,ff,ff]) rfl D2 (A4 rfl rfl) rfl (by kernel_rfl) rfl rfl ?_
 refine aP 1 rfl (qM rfl) rfl ?_
 refine aP 2 rfl (qA rfl) rfl ?_
 refine A3 3 ?_
 refine H8 rfl ?_
 refine aP 4 rfl (qA rfl) rfl ?_
 refine B0 ?_
 refine D9 (rT rfl) (rC rfl (A4 rfl rfl)) (rT rfl) ?_
 (have hk1 : k = 1 := (by omega); subst hk1; rw [mW1]; refine L6.nil hru ?_; generalize V6 cx nm = r at hu ⊢; cases r with | none => rfl | some t => (rw [hu t rfl]; rfl))
 refine A7 ?_
 refine sB (qE rfl rfl) rfl rfl (fun h69 => ?_) (fun h69 => ?_)
 refine B0 ?_
 refine E0 E1 rfl ?_
 refine L7 (i := 0) (l' := [tt,ff,ff,ff]) rfl D2 (A4 rfl rfl) rfl (by kernel_rfl) rfl rfl ?_
 refine aP 1 rfl (qA rfl) rfl ?_
 refine A3 2 ?_
 refine H8 rfl ?_
 refine aP 3 rfl (qA rfl) rfl ?_
 refine B0 ?_
 refine D9 (rT rfl) (rC rfl (A4 rfl rfl)) (rT rfl) ?_
 (have hk1 : k = 2 := (by omega); subst hk1; exact L6.nil (K4 _) mW2)
 refine B4 ?_
 refine sB (qE rfl rfl) rfl rfl (fun h95 => ?_) (fun h95 => ?_)
 refine D6 ?_
 refine E0 E1 rfl ?_
 refine L7 (i := 0) (l' := [tt,ff,ff,ff]) rfl D2 (A4 rfl rfl) rfl (by kernel_rfl) rfl rfl ?_
 refine aP 1 rfl (qA rfl) rfl ?_
 refine A3 2 ?_
 refine H8 rfl ?_
 refine aP 3 rfl (qA rfl) rfl ?_
 refine B0 ?_
 refine D9 (rT rfl) (rC rfl (A4 rfl rfl)) (rT rfl) ?_
 (exact L6.nil (A0a _) (by rw [A3P (by omega)]; rfl))
 refine B0 ?_
 refine sB (qE rfl rfl) rfl rfl (fun h122 => ?_) (fun h122 => ?_)
 refine B0 ?_
 refine E0 E1 rfl ?_
 refine L7 (i := 0) (l' := [tt,ff,ff,ff]) rfl D2 (A4 rfl rfl) rfl (by kernel_rfl) rfl rfl ?_
 refine aP 1 rfl (qA rfl) rfl ?_
 refine A3 2 ?_
 refine H8 rfl ?_
 refine aP 3 rfl (qA rfl) rfl ?_
 refine B0 ?_
 refine D9 (rT rfl) (rC rfl (A4 rfl rfl)) (rT rfl) ?_
 (exact L6.nil (A0a _) (by rw [A3P (by omega)]; rfl))
 refine A7 ?_
 refine sB (qE rfl rfl) rfl rfl (fun h147 => ?_) (fun h147 => ?_)
 refine B0 ?_
 (have hl1 : n = 1 := hop.2.2 (by omega); obtain ⟨b0, o0, q0, d0, hp0, hat0, hre0, hg0⟩ := hsl.kidD hkl (i := 0) (by omega) (by omega); cases hp0; refine E0 E1 rfl ?_)
 refine I8 (i := 0) (l' := [tt,ff,ff,ff,ff,ff,ff,ff,ff]) rfl D2 (B7 rfl) rfl (by kernel_rfl) rfl rfl ?_
 refine aL 1 rfl (A4 rfl rfl) rfl ?_
 refine aP 2 rfl (qM rfl) rfl ?_
 refine aP 3 rfl (B3 (j := 0) rfl rfl rfl (by omega)) rfl ?_
 refine aL 4 rfl (A2 rfl rfl (hat0 _) rfl) rfl ?_
 refine A3 5 ?_
 (refine H1 rfl rfl (A17 4 _ _ _ _ _ ⟨by omega, by omega⟩ hrty hre0) rfl rfl rfl (fun v GB hleB hh => ?_); obtain ⟨cB, rfl, hrB⟩ := hh; obtain ⟨p7, c7, e7, rfl, _⟩ := hrB.open)
 refine aP 6 rfl (qA rfl) rfl ?_
 refine A3 7 ?_
 refine H8 rfl ?_
 refine aP 8 rfl (qA rfl) rfl ?_
 refine B0 ?_
 refine D9 (rT rfl) (rC rfl (A4 rfl rfl)) (rT rfl) ?_
 (have hk1 : k = 5 := (by omega); subst hk1; exact L6.nil hrB mW5)
 refine A7 ?_
 refine sB (qE rfl rfl) rfl rfl (fun h178 => ?_) (fun h178 => ?_)
 refine B4 ?_
 (have hl2 : n = 2 := hop.1 (by omega); obtain ⟨b0, o0, q0, d0, hp0, hat0, hre0, hg0⟩ := hsl.kidD hkl (i := 0) (by omega) (by omega); cases hp0; refine sP (B3 (j := 0) rfl rfl rfl (by omega)) rfl rfl ?_)
 refine sL (A2 rfl rfl (hat0 _) rfl) rfl rfl ?_
 (refine D8 rfl (A8R 4 (h.getD 0 B2) G _ (.inl rfl) (A3a har (by omega)) hre0) rfl rfl (fun v G1 hle1 hh => ?_); obtain ⟨ma, mca, mb, mcb, rfl, hma, hmb, hma2, hmb2, hmm⟩ := hh; obtain ⟨p1, c1, e1, rfl, _⟩ := hma.open; obtain ⟨p2, c2, e2, rfl, _⟩ := hmb.open; replace hsl := hsl.mono hle1; replace hkl := hkl.mono hle1; generalize hmi : (R0 4 (h.getD 0 B2)).isSome = mi; cases mi)
 refine B6 ?_
 refine sE (A6 rfl) rfl (fun b193 => ?_)
 refine sE (A6 rfl) rfl (fun b194 => ?_)
 refine A7 ?_
 (have hl2 : n = 2 := hop.1 (by omega); obtain ⟨b0, o0, q0, d0, hp0, hat0, hre0, hg0⟩ := hsl.kidD hkl (i := 0) (by omega) (by omega); obtain ⟨b1, o1, q1, d1, hp1, hat1, hre1, hg1⟩ := hsl.kidD hkl (i := 1) (by omega) (by omega); cases hp0; cases hp1; refine E0 E1 rfl ?_)
 refine L7 (i := 0) (l' := [tt,ff,ff,ff,ff,ff,ff,ff,ff,ff,ff,ff,ff,ff,ff,ff,ff]) rfl D2 (A4 rfl rfl) rfl (by kernel_rfl) rfl rfl ?_
 refine aL 1 rfl (A4 rfl rfl) rfl ?_
 refine aL 3 rfl (A4 rfl rfl) rfl ?_
 refine aL 5 rfl (A4 rfl rfl) rfl ?_
 refine aP 6 rfl (qM rfl) rfl ?_
 refine A3 2 ?_
 (refine H1 rfl rfl (A17 _ ma mb _ _ _ ⟨by omega, by omega⟩ hma hmb) rfl rfl rfl (fun v GB hleB hh => ?_); obtain ⟨cB, rfl, hrB⟩ := hh; obtain ⟨p7, c7, e7, rfl, _⟩ := hrB.open; have hma' := hma.mono hleB; have hmb' := hmb.mono hleB)
 refine aP 7 rfl (qM rfl) rfl ?_
 refine C3 8 rfl rfl rfl ?_
 refine C3 9 rfl rfl rfl ?_
 refine C3 10 rfl rfl rfl ?_
 refine C3 11 rfl rfl rfl ?_
 refine R2 (j := 4) (j' := 12) (by kernel_rfl) ?_ ?_
 (refine E6 rfl (C9 rfl rfl rfl (by omega) (by unfold maxLen; omega) rfl) rfl rfl ?_; rintro _ ⟨b215, rfl⟩)
 refine C3 12 rfl rfl rfl ?_
 refine aP 13 rfl (N4 rfl rfl) rfl ?_
 refine aP 14 rfl (qA rfl) rfl ?_
 refine A3 15 ?_
 refine H8 rfl ?_
 refine aP 16 rfl (qA rfl) rfl ?_
 refine E8 (nS ?_)
 (refine E9 Pk.here (fun G5 hle5 hsl5 hno5 => ?_))
 refine tT (rB (rS ?_))
 refine D9 (rT rfl) (rC rfl (A4 rfl rfl)) (rT rfl) ?_
 (have hk1 : k = 6 := (by omega); subst hk1; refine L6.two hsl5 (hrB.mono hle5) (hma'.mono hle5) (hmb'.mono hle5) ?_; rw [mW6]; cases hq : R0 4 (h.getD 0 B2) with | none => rfl | some q => (rw [hq] at hmi; cases hmi))
 refine A5H (l' := [tt,tt,tt,tt,ff,tt,tt,tt,tt,tt,tt,tt,tt,ff,ff,ff,ff]) rfl rfl rfl rfl ?_
 refine aP 13 rfl (N4 rfl rfl) rfl ?_
 refine A3 4 ?_
 (refine E6 rfl (C9 rfl rfl rfl (by omega) (by unfold maxLen; omega) rfl) rfl rfl ?_; rintro _ ⟨b233, rfl⟩)
 refine aP 14 rfl (qA rfl) rfl ?_
 refine A3 15 ?_
 refine H8 rfl ?_
 refine aP 16 rfl (qA rfl) rfl ?_
 refine E8 (nS ?_)
 (refine E9 Pk.here (fun G5 hle5 hsl5 hno5 => ?_))
 refine tT (rB (rS ?_))
 refine D9 (rT rfl) (rC rfl (A4 rfl rfl)) (rT rfl) ?_
 (have hk1 : k = 6 := (by omega); subst hk1; refine L6.two hsl5 (hrB.mono hle5) (hma'.mono hle5) (hmb'.mono hle5) ?_; rw [mW6]; cases hq : R0 4 (h.getD 0 B2) with | none => rfl | some q => (rw [hq] at hmi; cases hmi))
 refine B6 ?_
 refine sE (A6 rfl) rfl (fun b250 => ?_)
 refine sE (A6 rfl) rfl (fun b251 => ?_)
 refine A7 ?_
 (have hl2 : n = 2 := hop.1 (by omega); obtain ⟨b0, o0, q0, d0, hp0, hat0, hre0, hg0⟩ := hsl.kidD hkl (i := 0) (by omega) (by omega); obtain ⟨b1, o1, q1, d1, hp1, hat1, hre1, hg1⟩ := hsl.kidD hkl (i := 1) (by omega) (by omega); cases hp0; cases hp1; refine E0 E1 rfl ?_)
 refine L7 (i := 0) (l' := [tt,ff,ff,ff,ff,ff,ff,ff,ff,ff,ff,ff,ff,ff,ff,ff,ff]) rfl D2 (A4 rfl rfl) rfl (by kernel_rfl) rfl rfl ?_
 refine aL 1 rfl (A4 rfl rfl) rfl ?_
 refine aL 3 rfl (A4 rfl rfl) rfl ?_
 refine aL 5 rfl (A4 rfl rfl) rfl ?_
 refine aP 6 rfl (qM rfl) rfl ?_
 refine A3 2 ?_
 (refine H1 rfl rfl (A17 _ ma mb _ _ _ ⟨by omega, by omega⟩ hma hmb) rfl rfl rfl (fun v GB hleB hh => ?_); obtain ⟨cB, rfl, hrB⟩ := hh; obtain ⟨p7, c7, e7, rfl, _⟩ := hrB.open; have hma' := hma.mono hleB; have hmb' := hmb.mono hleB)
 refine aP 7 rfl (qM rfl) rfl ?_
 refine aP 8 rfl (qM rfl) rfl ?_
 refine aP 9 rfl (B3 (j := 1) rfl rfl rfl (by omega)) rfl ?_
 refine aL 10 rfl (A2 rfl rfl (At.mono' hleB (hat1 _)) rfl) rfl ?_
 refine aL 11 rfl (A4 rfl rfl) rfl ?_
 refine R2 (j := 4) (j' := 12) (by kernel_rfl) ?_ ?_
 (refine E6 rfl (C9 rfl rfl rfl (by omega) (by unfold maxLen; omega) rfl) rfl rfl ?_; rintro _ ⟨b272, rfl⟩)
 refine A3 12 ?_
 refine U5 rfl rfl ((Z7 _ _ _ _ _ (hre1.mono hleB) hma')) rfl rfl rfl (fun h274 => ?_) (fun h274 => ?_)
 refine aP 13 rfl (N7 rfl rfl) rfl ?_
 refine aP 14 rfl (qA rfl) rfl ?_
 refine A3 15 ?_
 refine H8 rfl ?_
 refine aP 16 rfl (qA rfl) rfl ?_
 refine E8 (nS ?_)
 (refine E9 Pk.here (fun G5 hle5 hsl5 hno5 => ?_))
 refine tT (rB (rS ?_))
 refine D9 (rT rfl) (rC rfl (A4 rfl rfl)) (rT rfl) ?_
 (have hk1 : k = 6 := (by omega); subst hk1; refine L6.two hsl5 (hrB.mono hle5) (hma'.mono hle5) (hmb'.mono hle5) ?_; rw [mW6]; cases hq : R0 4 (h.getD 0 B2) with | none => (rw [hq] at hmi; cases hmi) | some q => (have hq2 := hmm q hq; subst hq2; dsimp only; split <;> first | rfl | (exfalso; simp_all; done)))
 refine aP 13 rfl (N7 rfl rfl) rfl ?_
 refine aP 14 rfl (qA rfl) rfl ?_
 refine A3 15 ?_
 refine H8 rfl ?_
 refine aP 16 rfl (qA rfl) rfl ?_
 refine E8 (nS ?_)
 (refine E9 Pk.here (fun G5 hle5 hsl5 hno5 => ?_))
 refine tT (rB (rS ?_))
 refine D9 (rT rfl) (rC rfl (A4 rfl rfl)) (rT rfl) ?_
 (have hk1 : k = 6 := (by omega); subst hk1; refine L6.two hsl5 (hrB.mono hle5) (hma'.mono hle5) (hmb'.mono hle5) ?_; rw [mW6]; cases hq : R0 4 (h.getD 0 B2) with | none => (rw [hq] at hmi; cases hmi) | some q => (have hq2 := hmm q hq; subst hq2; dsimp only; split <;> first | rfl | (exfalso; simp_all; done)))
 refine U5 rfl rfl ((Z7 _ _ _ _ _ (hre1.mono hleB) hma')) rfl rfl rfl (fun h301 => ?_) (fun h301 => ?_)
 refine aP 13 rfl (N7 rfl rfl) rfl ?_
 refine A3 4 ?_
 (refine E6 rfl (C9 rfl rfl rfl (by omega) (by unfold maxLen; omega) rfl) rfl rfl ?_; rintro _ ⟨b304, rfl⟩)
 refine aP 14 rfl (qA rfl) rfl ?_
 refine A3 15 ?_
 refine H8 rfl ?_
 refine aP 16 rfl (qA rfl) rfl ?_
 refine E8 (nS ?_)
 (refine E9 Pk.here (fun G5 hle5 hsl5 hno5 => ?_))
 refine tT (rB (rS ?_))
 refine D9 (rT rfl) (rC rfl (A4 rfl rfl)) (rT rfl) ?_
 (have hk1 : k = 6 := (by omega); subst hk1; refine L6.two hsl5 (hrB.mono hle5) (hma'.mono hle5) (hmb'.mono hle5) ?_; rw [mW6]; cases hq : R0 4 (h.getD 0 B2) with | none => (rw [hq] at hmi; cases hmi) | some q => (have hq2 := hmm q hq; subst hq2; dsimp only; split <;> first | rfl | (exfalso; simp_all; done)))
 refine aP 13 rfl (N7 rfl rfl) rfl ?_
 refine A3 4 ?_
 (refine E6 rfl (C9 rfl rfl rfl (by omega) (by unfold maxLen; omega) rfl) rfl rfl ?_; rintro _ ⟨b319, rfl⟩)
 refine aP 14 rfl (qA rfl) rfl ?_
 refine A3 15 ?_
 refine H8 rfl ?_
 refine aP 16 rfl (qA rfl) rfl ?_
 refine E8 (nS ?_)
 (refine E9 Pk.here (fun G5 hle5 hsl5 hno5 => ?_))
 refine tT (rB (rS ?_))
 refine D9 (rT rfl) (rC rfl (A4 rfl rfl)) (rT rfl) ?_
 (have hk1 : k = 6 := (by omega); subst hk1; refine L6.two hsl5 (hrB.mono hle5) (hma'.mono hle5) (hmb'.mono hle5) ?_; rw [mW6]; cases hq : R0 4 (h.getD 0 B2) with | none => (rw [hq] at hmi; cases hmi) | some q => (have hq2 := hmm q hq; subst hq2; dsimp only; split <;> first | rfl | (exfalso; simp_all; done)))
 refine B4 ?_
 refine sB (qE rfl rfl) rfl rfl (fun h339 => ?_) (fun h339 => ?_)
 refine J5 ?_
 refine sE (A6 rfl) rfl (fun b350 => ?_)
 refine D6 ?_
 refine sP (J3 rfl rfl (by omega)) rfl rfl ?_
 refine A7 ?_
 (have hl2 : n = 2 := hop.1 (by omega); obtain ⟨b0, o0, q0, d0, hp0, hat0, hre0, hg0⟩ := hsl.kidD hkl (i := 0) (by omega) (by omega); obtain ⟨b1, o1, q1, d1, hp1, hat1, hre1, hg1⟩ := hsl.kidD hkl (i := 1) (by omega) (by omega); cases hp0; cases hp1; refine E0 E1 rfl ?_)
 refine L7 (i := 0) (l' := [tt,ff,ff,ff,ff,ff,ff,ff,ff,ff,ff,ff,ff,ff,ff,ff,ff,ff,ff]) rfl D2 (A4 rfl rfl) rfl (by kernel_rfl) rfl rfl ?_
 refine aL 1 rfl (A4 rfl rfl) rfl ?_
 refine aL 3 rfl (A4 rfl rfl) rfl ?_
 refine aP 4 rfl (qM rfl) rfl ?_
 refine aP 5 rfl (B3 (j := 0) rfl rfl rfl (by omega)) rfl ?_
 refine aL 6 rfl (A2 rfl rfl (hat0 _) rfl) rfl ?_
 refine aL 7 rfl (A4 rfl rfl) rfl ?_
 refine R2 (j := 2) (j' := 8) (by kernel_rfl) ?_ ?_
 (refine E6 rfl (C9 rfl rfl rfl (by omega) (by unfold maxLen; omega) rfl) rfl rfl ?_; rintro _ ⟨b375, rfl⟩)
 refine A3 8 ?_
 refine U5 rfl rfl ((Z7 _ _ _ _ _ hre0 (K4 _))) rfl rfl rfl (fun h377 => ?_) (fun h377 => ?_)
 refine aP 9 rfl (qM rfl) rfl ?_
 refine aP 10 rfl (qM rfl) rfl ?_
 refine aP 11 rfl (B3 (j := 1) rfl rfl rfl (by omega)) rfl ?_
 refine aL 12 rfl (A2 rfl rfl (hat1 _) rfl) rfl ?_
 refine aL 13 rfl (A4 rfl rfl) rfl ?_
 refine A3 14 ?_
 refine U5 rfl rfl ((Z7 _ _ _ _ _ hre1 (K4 _))) rfl rfl rfl (fun h384 => ?_) (fun h384 => ?_)
 refine aP 15 rfl (N7 rfl rfl) rfl ?_
 refine aP 16 rfl (qA rfl) rfl ?_
 refine A3 17 ?_
 refine H8 rfl ?_
 refine aP 18 rfl (qA rfl) rfl ?_
 refine E8 (nS ?_)
 (refine E9 Pk.here (fun G5 hle5 hsl5 hno5 => ?_))
 refine tT (rB (rS ?_))
 refine D9 (rT rfl) (rC rfl (A4 rfl rfl)) (rT rfl) ?_
 (refine L6.two hsl5 (K4 _) (K4 _) (K4 _) ?_; rw [V8 (by omega)]; first | (rw [if_pos ⟨by assumption, by assumption⟩, if_neg (by omega)]; rfl) | (rw [if_neg (fun hc => by first | exact Bool.noConfusion (hc.1.symm.trans (by assumption)) | exact Bool.noConfusion (hc.2.symm.trans (by assumption)) | exact Bool.noConfusion (hc.symm.trans (by assumption)))]; rfl))
 refine aP 15 rfl (N7 rfl rfl) rfl ?_
 refine aP 16 rfl (qA rfl) rfl ?_
 refine A3 17 ?_
 refine H8 rfl ?_
 refine aP 18 rfl (qA rfl) rfl ?_
 refine E8 (nS ?_)
 (refine E9 Pk.here (fun G5 hle5 hsl5 hno5 => ?_))
 refine tT (rB (rS ?_))
 refine D9 (rT rfl) (rC rfl (A4 rfl rfl)) (rT rfl) ?_
 (refine L6.two hsl5 (K4 _) (K4 _) (K4 _) ?_; rw [V8 (by omega)]; first | (rw [if_pos ⟨by assumption, by assumption⟩, if_neg (by omega)]; rfl) | (rw [if_neg (fun hc => by first | exact Bool.noConfusion (hc.1.symm.trans (by assumption)) | exact Bool.noConfusion (hc.2.symm.trans (by assumption)) | exact Bool.noConfusion (hc.symm.trans (by assumption)))]; rfl))
 refine aP 9 rfl (qM rfl) rfl ?_
 refine C3 10 rfl rfl rfl ?_
 refine C3 11 rfl rfl rfl ?_
 refine C3 12 rfl rfl rfl ?_
 refine C3 13 rfl rfl rfl ?_
 refine C3 14 rfl rfl rfl ?_
 refine aP 15 rfl (N4 rfl rfl) rfl ?_
 refine aP 16 rfl (qA rfl) rfl ?_
 refine A3 17 ?_
 refine H8 rfl ?_
 refine aP 18 rfl (qA rfl) rfl ?_
 refine E8 (nS ?_)
 (refine E9 Pk.here (fun G5 hle5 hsl5 hno5 => ?_))
 refine tT (rB (rS ?_))
 refine D9 (rT rfl) (rC rfl (A4 rfl rfl)) (rT rfl) ?_
 (refine L6.two hsl5 (K4 _) (K4 _) (K4 _) ?_; rw [V8 (by omega)]; first | (rw [if_pos ⟨by assumption, by assumption⟩, if_neg (by omega)]; rfl) | (rw [if_neg (fun hc => by first | exact Bool.noConfusion (hc.1.symm.trans (by assumption)) | exact Bool.noConfusion (hc.2.symm.trans (by assumption)) | exact Bool.noConfusion (hc.symm.trans (by assumption)))]; rfl))
 refine U5 rfl rfl ((Z7 _ _ _ _ _ hre0 (K4 _))) rfl rfl rfl (fun h430 => ?_) (fun h430 => ?_)
 refine aP 9 rfl (qM rfl) rfl ?_
 refine aP 10 rfl (qM rfl) rfl ?_
 refine aP 11 rfl (B3 (j := 1) rfl rfl rfl (by omega)) rfl ?_
 refine aL 12 rfl (A2 rfl rfl (hat1 _) rfl) rfl ?_
 refine aL 13 rfl (A4 rfl rfl) rfl ?_
 refine R2 (j := 2) (j' := 14) (by kernel_rfl) ?_ ?_
 (refine E6 rfl (C9 rfl rfl rfl (by omega) (by unfold maxLen; omega) rfl) rfl rfl ?_; rintro _ ⟨b437, rfl⟩)
 refine A3 14 ?_
 refine U5 rfl rfl ((Z7 _ _ _ _ _ hre1 (K4 _))) rfl rfl rfl (fun h439 => ?_) (fun h439 => ?_)
 refine aP 15 rfl (N7 rfl rfl) rfl ?_
 refine aP 16 rfl (qA rfl) rfl ?_
 refine A3 17 ?_
 refine H8 rfl ?_
 refine aP 18 rfl (qA rfl) rfl ?_
 refine E8 (nS ?_)
 (refine E9 Pk.here (fun G5 hle5 hsl5 hno5 => ?_))
 refine tT (rB (rS ?_))
 refine D9 (rT rfl) (rC rfl (A4 rfl rfl)) (rT rfl) ?_
 (refine L6.two hsl5 (K4 _) (K4 _) (K4 _) ?_; rw [V8 (by omega)]; first | (rw [if_pos ⟨by assumption, by assumption⟩, if_neg (by omega)]; rfl) | (rw [if_neg (fun hc => by first | exact Bool.noConfusion (hc.1.symm.trans (by assumption)) | exact Bool.noConfusion (hc.2.symm.trans (by assumption)) | exact Bool.noConfusion (hc.symm.trans (by assumption)))]; rfl))
 refine aP 15 rfl (N7 rfl rfl) rfl ?_
 refine aP 16 rfl (qA rfl) rfl ?_
 refine A3 17 ?_
 refine H8 rfl ?_
 refine aP 18 rfl (qA rfl) rfl ?_
 refine E8 (nS ?_)
 (refine E9 Pk.here (fun G5 hle5 hsl5 hno5 => ?_))
 refine tT (rB (rS ?_))
 refine D9 (rT rfl) (rC rfl (A4 rfl rfl)) (rT rfl) ?_
 (refine L6.two hsl5 (K4 _) (K4 _) (K4 _) ?_; rw [V8 (by omega)]; first | (rw [if_pos ⟨by assumption, by assumption⟩, if_neg (by omega)]; rfl) | (rw [if_neg (fun hc => by first | exact Bool.noConfusion (hc.1.symm.trans (by assumption)) | exact Bool.noConfusion (hc.2.symm.trans (by assumption)) | exact Bool.noConfusion (hc.symm.trans (by assumption)))]; rfl))
 refine U5 rfl rfl ((Z7 _ _ _ _ _ hre1 (K4 _))) rfl rfl rfl (fun h466 => ?_) (fun h466 => ?_)
 refine aP 15 rfl (N7 rfl rfl) rfl ?_
 refine A3 2 ?_
 (refine E6 rfl (C9 rfl rfl rfl (by omega) (by unfold maxLen; omega) rfl) rfl rfl ?_; rintro _ ⟨b469, rfl⟩)
 refine aP 16 rfl (qA rfl) rfl ?_
 refine A3 17 ?_
 refine H8 rfl ?_
 refine aP 18 rfl (qA rfl) rfl ?_
 refine E8 (nS ?_)
 (refine E9 Pk.here (fun G5 hle5 hsl5 hno5 => ?_))
 refine tT (rB (rS ?_))
 refine D9 (rT rfl) (rC rfl (A4 rfl rfl)) (rT rfl) ?_
 (refine L6.two hsl5 (K4 _) (K4 _) (K4 _) ?_; rw [V8 (by omega)]; first | (rw [if_pos ⟨by assumption, by assumption⟩, if_neg (by omega)]; rfl) | (rw [if_neg (fun hc => by first | exact Bool.noConfusion (hc.1.symm.trans (by assumption)) | exact Bool.noConfusion (hc.2.symm.trans (by assumption)) | exact Bool.noConfusion (hc.symm.trans (by assumption)))]; rfl))
 refine aP 15 rfl (N7 rfl rfl) rfl ?_
 refine A3 2 ?_
 (refine E6 rfl (C9 rfl rfl rfl (by omega) (by unfold maxLen; omega) rfl) rfl rfl ?_; rintro _ ⟨b484, rfl⟩)
 refine aP 16 rfl (qA rfl) rfl ?_
 refine A3 17 ?_
 refine H8 rfl ?_
 refine aP 18 rfl (qA rfl) rfl ?_
 refine E8 (nS ?_)
 (refine E9 Pk.here (fun G5 hle5 hsl5 hno5 => ?_))
 refine tT (rB (rS ?_))
 refine D9 (rT rfl) (rC rfl (A4 rfl rfl)) (rT rfl) ?_
 (refine L6.two hsl5 (K4 _) (K4 _) (K4 _) ?_; rw [V8 (by omega)]; first | (rw [if_pos ⟨by assumption, by assumption⟩, if_neg (by omega)]; rfl) | (rw [if_neg (fun hc => by first | exact Bool.noConfusion (hc.1.symm.trans (by assumption)) | exact Bool.noConfusion (hc.2.symm.trans (by assumption)) | exact Bool.noConfusion (hc.symm.trans (by assumption)))]; rfl))
 refine aP 9 rfl (qM rfl) rfl ?_
 refine C3 10 rfl rfl rfl ?_
 refine C3 11 rfl rfl rfl ?_
 refine C3 12 rfl rfl rfl ?_
 refine C3 13 rfl rfl rfl ?_
 refine R2 (j := 2) (j' := 14) (by kernel_rfl) ?_ ?_
 (refine E6 rfl (C9 rfl rfl rfl (by omega) (by unfold maxLen; omega) rfl) rfl rfl ?_; rintro _ ⟨b503, rfl⟩)
 refine C3 14 rfl rfl rfl ?_
 refine aP 15 rfl (N4 rfl rfl) rfl ?_
 refine aP 16 rfl (qA rfl) rfl ?_
 refine A3 17 ?_
 refine H8 rfl ?_
 refine aP 18 rfl (qA rfl) rfl ?_
 refine E8 (nS ?_)
 (refine E9 Pk.here (fun G5 hle5 hsl5 hno5 => ?_))
 refine tT (rB (rS ?_))
 refine D9 (rT rfl) (rC rfl (A4 rfl rfl)) (rT rfl) ?_
 (refine L6.two hsl5 (K4 _) (K4 _) (K4 _) ?_; rw [V8 (by omega)]; first | (rw [if_pos ⟨by assumption, by assumption⟩, if_neg (by omega)]; rfl) | (rw [if_neg (fun hc => by first | exact Bool.noConfusion (hc.1.symm.trans (by assumption)) | exact Bool.noConfusion (hc.2.symm.trans (by assumption)) | exact Bool.noConfusion (hc.symm.trans (by assumption)))]; rfl))
 refine A5H (l' := [tt,tt,ff,tt,tt,tt,tt,tt,tt,tt,tt,tt,tt,tt,tt,ff,ff,ff,ff]) rfl rfl rfl rfl ?_
 refine aP 15 rfl (N4 rfl rfl) rfl ?_
 refine A3 2 ?_
 (refine E6 rfl (C9 rfl rfl rfl (by omega) (by unfold maxLen; omega) rfl) rfl rfl ?_; rintro _ ⟨b521, rfl⟩)
 refine aP 16 rfl (qA rfl) rfl ?_
 refine A3 17 ?_
 refine H8 rfl ?_
 refine aP 18 rfl (qA rfl) rfl ?_
 refine E8 (nS ?_)
 (refine E9 Pk.here (fun G5 hle5 hsl5 hno5 => ?_))
 refine tT (rB (rS ?_))
 refine D9 (rT rfl) (rC rfl (A4 rfl rfl)) (rT rfl) ?_
 (refine L6.two hsl5 (K4 _) (K4 _) (K4 _) ?_; rw [V8 (by omega)]; first | (rw [if_pos ⟨by assumption, by assumption⟩, if_neg (by omega)]; rfl) | (rw [if_neg (fun hc => by first | exact Bool.noConfusion (hc.1.symm.trans (by assumption)) | exact Bool.noConfusion (hc.2.symm.trans (by assumption)) | exact Bool.noConfusion (hc.symm.trans (by assumption)))]; rfl))
 refine B0 ?_
 refine sB (qE rfl rfl) rfl rfl (fun h539 => ?_) (fun h539 => ?_)
 refine B4 ?_
 refine sE (A6 rfl) rfl (fun b547 => ?_)
 refine D6 ?_
 refine sP (Z5 rfl rfl (by omega)) rfl rfl ?_
 refine E4 ?_
 (have hl2 : n = 2 := hop.1 (by omega); obtain ⟨b0, o0, q0, d0, hp0, hat0, hre0, hg0⟩ := hsl.kidD hkl (i := 0) (by omega) (by omega); obtain ⟨b1, o1, q1, d1, hp1, hat1, hre1, hg1⟩ := hsl.kidD hkl (i := 1) (by omega) (by omega); cases hp0; cases hp1; refine E0 E1 rfl ?_)
 refine L7 (i := 0) (l' := [tt,ff,ff,ff,ff,ff,ff,ff,ff,ff,ff,ff,ff,ff,ff,ff,ff,ff,ff]) rfl D2 (A4 rfl rfl) rfl (by kernel_rfl) rfl rfl ?_
 refine aL 1 rfl (A4 rfl rfl) rfl ?_
 refine aL 3 rfl (A4 rfl rfl) rfl ?_
 refine aP 4 rfl (qM rfl) rfl ?_
 refine aP 5 rfl (B3 (j := 0) rfl rfl rfl (by omega)) rfl ?_
 refine aL 6 rfl (A2 rfl rfl (hat0 _) rfl) rfl ?_
 refine aL 7 rfl (A4 rfl rfl) rfl ?_
 refine R2 (j := 2) (j' := 8) (by kernel_rfl) ?_ ?_
 (refine E6 rfl (C9 rfl rfl rfl (by omega) (by unfold maxLen; omega) rfl) rfl rfl ?_; rintro _ ⟨b575, rfl⟩)
 refine A3 8 ?_
 refine U5 rfl rfl ((Z7 _ _ _ _ _ hre0 (K4 _))) rfl rfl rfl (fun h577 => ?_) (fun h577 => ?_)
 refine aP 9 rfl (qM rfl) rfl ?_
 refine aP 10 rfl (qM rfl) rfl ?_
 refine aP 11 rfl (B3 (j := 1) rfl rfl rfl (by omega)) rfl ?_
 refine aL 12 rfl (A2 rfl rfl (hat1 _) rfl) rfl ?_
 refine aL 13 rfl (A4 rfl rfl) rfl ?_
 refine A3 14 ?_
 refine U5 rfl rfl ((Z7 _ _ _ _ _ hre1 (K4 _))) rfl rfl rfl (fun h584 => ?_) (fun h584 => ?_)
 refine aP 15 rfl (N7 rfl rfl) rfl ?_
 refine aP 16 rfl (qA rfl) rfl ?_
 refine A3 17 ?_
 refine H8 rfl ?_
 refine aP 18 rfl (qA rfl) rfl ?_
 refine E8 (nS ?_)
 (refine E9 Pk.here (fun G5 hle5 hsl5 hno5 => ?_))
 refine tT (rB (rS ?_))
 refine D9 (rT rfl) (rC rfl (A4 rfl rfl)) (rT rfl) ?_
 (refine L6.two hsl5 (K4 _) (K4 _) (A0a _) ?_; rw [V8 (by omega)]; first | (rw [if_pos ⟨by assumption, by assumption⟩, if_pos (by omega)]; rfl) | (rw [if_neg (fun hc => by first | exact Bool.noConfusion (hc.1.symm.trans (by assumption)) | exact Bool.noConfusion (hc.2.symm.trans (by assumption)) | exact Bool.noConfusion (hc.symm.trans (by assumption)))]; rfl))
 refine aP 15 rfl (N7 rfl rfl) rfl ?_
 refine aP 16 rfl (qA rfl) rfl ?_
 refine A3 17 ?_
 refine H8 rfl ?_
 refine aP 18 rfl (qA rfl) rfl ?_
 refine E8 (nS ?_)
 (refine E9 Pk.here (fun G5 hle5 hsl5 hno5 => ?_))
 refine tT (rB (rS ?_))
 refine D9 (rT rfl) (rC rfl (A4 rfl rfl)) (rT rfl) ?_
 (refine L6.two hsl5 (K4 _) (K4 _) (A0a _) ?_; rw [V8 (by omega)]; first | (rw [if_pos ⟨by assumption, by assumption⟩, if_pos (by omega)]; rfl) | (rw [if_neg (fun hc => by first | exact Bool.noConfusion (hc.1.symm.trans (by assumption)) | exact Bool.noConfusion (hc.2.symm.trans (by assumption)) | exact Bool.noConfusion (hc.symm.trans (by assumption)))]; rfl))
 refine aP 9 rfl (qM rfl) rfl ?_
 refine C3 10 rfl rfl rfl ?_
 refine C3 11 rfl rfl rfl ?_
 refine C3 12 rfl rfl rfl ?_
 refine C3 13 rfl rfl rfl ?_
 refine C3 14 rfl rfl rfl ?_
 refine aP 15 rfl (N4 rfl rfl) rfl ?_
 refine aP 16 rfl (qA rfl) rfl ?_
 refine A3 17 ?_
 refine H8 rfl ?_
 refine aP 18 rfl (qA rfl) rfl ?_
 refine E8 (nS ?_)
 (refine E9 Pk.here (fun G5 hle5 hsl5 hno5 => ?_))
 refine tT (rB (rS ?_))
 refine D9 (rT rfl) (rC rfl (A4 rfl rfl)) (rT rfl) ?_
 (refine L6.two hsl5 (K4 _) (K4 _) (A0a _) ?_; rw [V8 (by omega)]; first | (rw [if_pos ⟨by assumption, by assumption⟩, if_pos (by omega)]; rfl) | (rw [if_neg (fun hc => by first | exact Bool.noConfusion (hc.1.symm.trans (by assumption)) | exact Bool.noConfusion (hc.2.symm.trans (by assumption)) | exact Bool.noConfusion (hc.symm.trans (by assumption)))]; rfl))
 refine U5 rfl rfl ((Z7 _ _ _ _ _ hre0 (K4 _))) rfl rfl rfl (fun h630 => ?_) (fun h630 => ?_)
 refine aP 9 rfl (qM rfl) rfl ?_
 refine aP 10 rfl (qM rfl) rfl ?_
 refine aP 11 rfl (B3 (j := 1) rfl rfl rfl (by omega)) rfl ?_
 refine aL 12 rfl (A2 rfl rfl (hat1 _) rfl) rfl ?_
 refine aL 13 rfl (A4 rfl rfl) rfl ?_
 refine R2 (j := 2) (j' := 14) (by kernel_rfl) ?_ ?_
 (refine E6 rfl (C9 rfl rfl rfl (by omega) (by unfold maxLen; omega) rfl) rfl rfl ?_; rintro _ ⟨b637, rfl⟩)
 refine A3 14 ?_
 refine U5 rfl rfl ((Z7 _ _ _ _ _ hre1 (K4 _))) rfl rfl rfl (fun h639 => ?_) (fun h639 => ?_)
 refine aP 15 rfl (N7 rfl rfl) rfl ?_
 refine aP 16 rfl (qA rfl) rfl ?_
 refine A3 17 ?_
 refine H8 rfl ?_
 refine aP 18 rfl (qA rfl) rfl ?_
 refine E8 (nS ?_)
 (refine E9 Pk.here (fun G5 hle5 hsl5 hno5 => ?_))
 refine tT (rB (rS ?_))
 refine D9 (rT rfl) (rC rfl (A4 rfl rfl)) (rT rfl) ?_
 (refine L6.two hsl5 (K4 _) (K4 _) (A0a _) ?_; rw [V8 (by omega)]; first | (rw [if_pos ⟨by assumption, by assumption⟩, if_pos (by omega)]; rfl) | (rw [if_neg (fun hc => by first | exact Bool.noConfusion (hc.1.symm.trans (by assumption)) | exact Bool.noConfusion (hc.2.symm.trans (by assumption)) | exact Bool.noConfusion (hc.symm.trans (by assumption)))]; rfl))
 refine aP 15 rfl (N7 rfl rfl) rfl ?_
 refine aP 16 rfl (qA rfl) rfl ?_
 refine A3 17 ?_
 refine H8 rfl ?_
 refine aP 18 rfl (qA rfl) rfl ?_
 refine E8 (nS ?_)
 (refine E9 Pk.here (fun G5 hle5 hsl5 hno5 => ?_))
 refine tT (rB (rS ?_))
 refine D9 (rT rfl) (rC rfl (A4 rfl rfl)) (rT rfl) ?_
 (refine L6.two hsl5 (K4 _) (K4 _) (A0a _) ?_; rw [V8 (by omega)]; first | (rw [if_pos ⟨by assumption, by assumption⟩, if_pos (by omega)]; rfl) | (rw [if_neg (fun hc => by first | exact Bool.noConfusion (hc.1.symm.trans (by assumption)) | exact Bool.noConfusion (hc.2.symm.trans (by assumption)) | exact Bool.noConfusion (hc.symm.trans (by assumption)))]; rfl))
 refine U5 rfl rfl ((Z7 _ _ _ _ _ hre1 (K4 _))) rfl rfl rfl (fun h666 => ?_) (fun h666 => ?_)
 refine aP 15 rfl (N7 rfl rfl) rfl ?_
 refine A3 2 ?_
 (refine E6 rfl (C9 rfl rfl rfl (by omega) (by unfold maxLen; omega) rfl) rfl rfl ?_; rintro _ ⟨b669, rfl⟩)
 refine aP 16 rfl (qA rfl) rfl ?_
 refine A3 17 ?_
 refine H8 rfl ?_
 refine aP 18 rfl (qA rfl) rfl ?_
 refine E8 (nS ?_)
 (refine E9 Pk.here (fun G5 hle5 hsl5 hno5 => ?_))
 refine tT (rB (rS ?_))
 refine D9 (rT rfl) (rC rfl (A4 rfl rfl)) (rT rfl) ?_
 (refine L6.two hsl5 (K4 _) (K4 _) (A0a _) ?_; rw [V8 (by omega)]; first | (rw [if_pos ⟨by assumption, by assumption⟩, if_pos (by omega)]; rfl) | (rw [if_neg (fun hc => by first | exact Bool.noConfusion (hc.1.symm.trans (by assumption)) | exact Bool.noConfusion (hc.2.symm.trans (by assumption)) | exact Bool.noConfusion (hc.symm.trans (by assumption)))]; rfl))
 refine aP 15 rfl (N7 rfl rfl) rfl ?_
 refine A3 2 ?_
 (refine E6 rfl (C9 rfl rfl rfl (by omega) (by unfold maxLen; omega) rfl) rfl rfl ?_; rintro _ ⟨b684, rfl⟩)
 refine aP 16 rfl (qA rfl) rfl ?_
 refine A3 17 ?_
 refine H8 rfl ?_
 refine aP 18 rfl (qA rfl) rfl ?_
 refine E8 (nS ?_)
 (refine E9 Pk.here (fun G5 hle5 hsl5 hno5 => ?_))
 refine tT (rB (rS ?_))
 refine D9 (rT rfl) (rC rfl (A4 rfl rfl)) (rT rfl) ?_
 (refine L6.two hsl5 (K4 _) (K4 _) (A0a _) ?_; rw [V8 (by omega)]; first | (rw [if_pos ⟨by assumption, by assumption⟩, if_pos (by omega)]; rfl) | (rw [if_neg (fun hc => by first | exact Bool.noConfusion (hc.1.symm.trans (by assumption)) | exact Bool.noConfusion (hc.2.symm.trans (by assumption)) | exact Bool.noConfusion (hc.symm.trans (by assumption)))]; rfl))
 refine aP 9 rfl (qM rfl) rfl ?_
 refine C3 10 rfl rfl rfl ?_
 refine C3 11 rfl rfl rfl ?_
 refine C3 12 rfl rfl rfl ?_
 refine C3 13 rfl rfl rfl ?_
 refine R2 (j := 2) (j' := 14) (by kernel_rfl) ?_ ?_
 (refine E6 rfl (C9 rfl rfl rfl (by omega) (by unfold maxLen; omega) rfl) rfl rfl ?_; rintro _ ⟨b703, rfl⟩)
 refine C3 14 rfl rfl rfl ?_
 refine aP 15 rfl (N4 rfl rfl) rfl ?_
 refine aP 16 rfl (qA rfl) rfl ?_
 refine A3 17 ?_
 refine H8 rfl ?_
 refine aP 18 rfl (qA rfl) rfl ?_
 refine E8 (nS ?_)
 (refine E9 Pk.here (fun G5 hle5 hsl5 hno5 => ?_))
 refine tT (rB (rS ?_))
 refine D9 (rT rfl) (rC rfl (A4 rfl rfl)) (rT rfl) ?_
 (refine L6.two hsl5 (K4 _) (K4 _) (A0a _) ?_; rw [V8 (by omega)]; first | (rw [if_pos ⟨by assumption, by assumption⟩, if_pos (by omega)]; rfl) | (rw [if_neg (fun hc => by first | exact Bool.noConfusion (hc.1.symm.trans (by assumption)) | exact Bool.noConfusion (hc.2.symm.trans (by assumption)) | exact Bool.noConfusion (hc.symm.trans (by assumption)))]; rfl))
 refine A5H (l' := [tt,tt,ff,tt,tt,tt,tt,tt,tt,tt,tt,tt,tt,tt,tt,ff,ff,ff,ff]) rfl rfl rfl rfl ?_
 refine aP 15 rfl (N4 rfl rfl) rfl ?_
 refine A3 2 ?_
 (refine E6 rfl (C9 rfl rfl rfl (by omega) (by unfold maxLen; omega) rfl) rfl rfl ?_; rintro _ ⟨b721, rfl⟩)
 refine aP 16 rfl (qA rfl) rfl ?_
 refine A3 17 ?_
 refine H8 rfl ?_
 refine aP 18 rfl (qA rfl) rfl ?_
 refine E8 (nS ?_)
 (refine E9 Pk.here (fun G5 hle5 hsl5 hno5 => ?_))
 refine tT (rB (rS ?_))
 refine D9 (rT rfl) (rC rfl (A4 rfl rfl)) (rT rfl) ?_
 (refine L6.two hsl5 (K4 _) (K4 _) (A0a _) ?_; rw [V8 (by omega)]; first | (rw [if_pos ⟨by assumption, by assumption⟩, if_pos (by omega)]; rfl) | (rw [if_neg (fun hc => by first | exact Bool.noConfusion (hc.1.symm.trans (by assumption)) | exact Bool.noConfusion (hc.2.symm.trans (by assumption)) | exact Bool.noConfusion (hc.symm.trans (by assumption)))]; rfl))
 refine A7 ?_
 refine sB (qE rfl rfl) rfl rfl (fun h740 => ?_) (fun h740 => ?_)
 refine A7 ?_
 (have hl3 : n = 3 := hop.2.1 (by omega); obtain ⟨b0, o0, q0, d0, hp0, hat0, hre0, hg0⟩ := hsl.kidD hkl (i := 0) (by omega) (by omega); obtain ⟨b1, o1, q1, d1, hp1, hat1, hre1, hg1⟩ := hsl.kidD hkl (i := 1) (by omega) (by omega); cases hp0; cases hp1; obtain ⟨b2, o2, q2, d2, hp2, hat2, hre2, hg2⟩ := hsl.kidD hkl (i := 2) (by omega) (by omega); cases hp2; refine E0 E1 rfl ?_)
 refine I8 (i := 0) (l' := [tt,ff,ff,ff,ff,ff,ff,ff,ff,ff,ff,ff,ff,ff,ff,ff]) rfl D2 (qM rfl) rfl (by kernel_rfl) rfl rfl ?_
 refine aP 1 rfl (B3 (j := 0) rfl rfl rfl (by omega)) rfl ?_
 refine aL 2 rfl (A2 rfl rfl (hat0 _) rfl) rfl ?_
 refine aL 3 rfl (A4 rfl rfl) rfl ?_
 refine A3 4 ?_
 refine U5 rfl rfl ((Z7 _ _ _ _ _ hre0 (A0a _))) rfl rfl rfl (fun h753 => ?_) (fun h753 => ?_)
 refine aP 5 rfl (pNt rfl) rfl ?_
 refine aP 6 rfl (qM rfl) rfl ?_
 refine aP 7 rfl (qM rfl) rfl ?_
 refine aP 8 rfl (B3 (j := 1) rfl rfl rfl (by omega)) rfl ?_
 refine aL 9 rfl (A2 rfl rfl (hat1 _) rfl) rfl ?_
 refine aP 10 rfl (qM rfl) rfl ?_
 refine aP 11 rfl (B3 (j := 2) rfl rfl rfl (by omega)) rfl ?_
 refine aL 12 rfl (A2 rfl rfl (hat2 _) rfl) rfl ?_
 refine A3 13 ?_
 refine U5 rfl rfl ((Z7 _ _ _ _ _ hre1 hre2)) rfl rfl rfl (fun h763 => ?_) (fun h763 => ?_)
 refine aP 14 rfl (pNt rfl) rfl ?_
 refine aP 15 rfl (N4 rfl rfl) rfl ?_
 refine A7 ?_
 (have hl3 : n = 3 := hop.2.1 (by omega); obtain ⟨b0, o0, q0, d0, hp0, hat0, hre0, hg0⟩ := hsl.kidD hkl (i := 0) (by omega) (by omega); obtain ⟨b1, o1, q1, d1, hp1, hat1, hre1, hg1⟩ := hsl.kidD hkl (i := 1) (by omega) (by omega); cases hp0; cases hp1; obtain ⟨b2, o2, q2, d2, hp2, hat2, hre2, hg2⟩ := hsl.kidD hkl (i := 2) (by omega) (by omega); cases hp2; refine E0 E1 rfl ?_)
 refine I8 (i := 0) (l' := [tt,ff,ff,ff,ff,ff,ff,ff,ff]) rfl D2 (qM rfl) rfl (by kernel_rfl) rfl rfl ?_
 refine aP 1 rfl (B3 (j := 1) rfl rfl rfl (by omega)) rfl ?_
 refine aL 2 rfl (A2 rfl rfl (hat1 _) rfl) rfl ?_
 refine aP 3 rfl (qM rfl) rfl ?_
 refine aP 4 rfl (B3 (j := 2) rfl rfl rfl (by omega)) rfl ?_
 refine aL 5 rfl (A2 rfl rfl (hat2 _) rfl) rfl ?_
 refine R2 (j := 6) (j' := 7) (by kernel_rfl) ?_ ?_
 (refine H1 rfl rfl (A8S _ _ _ _ _ (by assumption) (A3a har (by omega)) (A3a har (by omega)) hre1 hre2) rfl rfl rfl (fun v GM hleM hh => ?_); obtain ⟨cM, rfl, hrM⟩ := hh; obtain ⟨p7, c7, e7, rfl, _⟩ := hrM.open)
 refine A3 7 ?_
 (refine E6 rfl (A6 rfl) rfl rfl ?_; rintro _ ⟨b782, rfl⟩)
 refine A3 8 ?_
 refine H8 rfl ?_
 refine E8 (nS (tS ?_))
 (have hl3 : n = 3 := hop.2.1 (by omega); obtain ⟨b0, o0, q0, d0, hp0, hat0, hre0, hg0⟩ := hsl.kidD hkl (i := 0) (by omega) (by omega); obtain ⟨b1, o1, q1, d1, hp1, hat1, hre1, hg1⟩ := hsl.kidD hkl (i := 1) (by omega) (by omega); cases hp0; cases hp1; obtain ⟨b2, o2, q2, d2, hp2, hat2, hre2, hg2⟩ := hsl.kidD hkl (i := 2) (by omega) (by omega); cases hp2; refine E0 E1 rfl ?_)
 refine L7 (i := 0) (l' := [tt,ff,ff,ff,ff,ff,ff,ff]) rfl D2 (A4 rfl rfl) rfl (by kernel_rfl) rfl rfl ?_
 refine aL 1 rfl (A4 rfl rfl) rfl ?_
 refine aL 2 rfl (A4 rfl rfl) rfl ?_
 refine aL 4 rfl (A4 rfl rfl) rfl ?_
 refine A3 3 ?_
 (refine E6 rfl (C9 rfl rfl rfl (by omega) (by unfold maxLen; omega) rfl) rfl rfl ?_; rintro _ ⟨b794, rfl⟩)
 refine aP 5 rfl (qA rfl) rfl ?_
 refine A3 6 ?_
 refine H8 rfl ?_
 refine aP 7 rfl (qA rfl) rfl ?_
 refine E8 (nS ?_)
 (refine E9 Pk.here (fun G5 hle5 hsl5 hno5 => ?_))
 refine tT (rB (rS ?_))
 refine D9 (rT rfl) (rC rfl (A4 rfl rfl)) (rT rfl) ?_
 (have hk1 : k = 9 := (by omega); subst hk1; exact L6.three hsl5 (A0a _) (hrM.mono hle5) (hrM.mono hle5) (hrM.mono hle5) (by rw [mW9, if_pos ⟨by assumption, by assumption⟩]; rfl))
 (refine E6 rfl (A6 rfl) rfl rfl ?_; rintro _ ⟨b807, rfl⟩)
 refine A3 6 ?_
 (refine H1 rfl rfl (A8S _ _ _ _ _ (by assumption) (A3a har (by omega)) (A3a har (by omega)) hre1 hre2) rfl rfl rfl (fun v GM hleM hh => ?_); obtain ⟨cM, rfl, hrM⟩ := hh; obtain ⟨p7, c7, e7, rfl, _⟩ := hrM.open)
 refine A3 8 ?_
 refine H8 rfl ?_
 refine E8 (nS (tS ?_))
 (have hl3 : n = 3 := hop.2.1 (by omega); obtain ⟨b0, o0, q0, d0, hp0, hat0, hre0, hg0⟩ := hsl.kidD hkl (i := 0) (by omega) (by omega); obtain ⟨b1, o1, q1, d1, hp1, hat1, hre1, hg1⟩ := hsl.kidD hkl (i := 1) (by omega) (by omega); cases hp0; cases hp1; obtain ⟨b2, o2, q2, d2, hp2, hat2, hre2, hg2⟩ := hsl.kidD hkl (i := 2) (by omega) (by omega); cases hp2; refine E0 E1 rfl ?_)
 refine L7 (i := 0) (l' := [tt,ff,ff,ff,ff,ff,ff,ff]) rfl D2 (A4 rfl rfl) rfl (by kernel_rfl) rfl rfl ?_
 refine aL 1 rfl (A4 rfl rfl) rfl ?_
 refine aL 2 rfl (A4 rfl rfl) rfl ?_
 refine aL 4 rfl (A4 rfl rfl) rfl ?_
 refine A3 3 ?_
 (refine E6 rfl (C9 rfl rfl rfl (by omega) (by unfold maxLen; omega) rfl) rfl rfl ?_; rintro _ ⟨b821, rfl⟩)
 refine aP 5 rfl (qA rfl) rfl ?_
 refine A3 6 ?_
 refine H8 rfl ?_
 refine aP 7 rfl (qA rfl) rfl ?_
 refine E8 (nS ?_)
 (refine E9 Pk.here (fun G5 hle5 hsl5 hno5 => ?_))
 refine tT (rB (rS ?_))
 refine D9 (rT rfl) (rC rfl (A4 rfl rfl)) (rT rfl) ?_
 (have hk1 : k = 9 := (by omega); subst hk1; exact L6.three hsl5 (A0a _) (hrM.mono hle5) (hrM.mono hle5) (hrM.mono hle5) (by rw [mW9, if_pos ⟨by assumption, by assumption⟩]; rfl))
 refine aP 14 rfl (pNf rfl) rfl ?_
 refine aP 15 rfl (N4 rfl rfl) rfl ?_
 refine I6 ?_
 refine D9 (rT rfl) (rC rfl (A4 rfl rfl)) (rT rfl) ?_
 (have hk1 : k = 9 := (by omega); subst hk1; exact L6.nil (u := B2) (M7 _ ⟨by omega, by omega⟩) (by rw [mW9, if_neg (fun hc => by first | exact Bool.noConfusion (hc.1.symm.trans (by assumption)) | exact Bool.noConfusion (hc.2.symm.trans (by assumption)) | exact Bool.noConfusion (hc.symm.trans (by assumption)))]; rfl))
 refine aP 5 rfl (pNf rfl) rfl ?_
 refine aP 6 rfl (qM rfl) rfl ?_
 refine C3 7 rfl rfl rfl ?_
 refine C3 8 rfl rfl rfl ?_
 refine C3 9 rfl rfl rfl ?_
 refine C3 10 rfl rfl rfl ?_
 refine C3 11 rfl rfl rfl ?_
 refine C3 12 rfl rfl rfl ?_
 refine C3 13 rfl rfl rfl ?_
 refine C3 14 rfl rfl rfl ?_
 refine aP 15 rfl (N7 rfl rfl) rfl ?_
 refine I6 ?_
 refine D9 (rT rfl) (rC rfl (A4 rfl rfl)) (rT rfl) ?_
 (have hk1 : k = 9 := (by omega); subst hk1; exact L6.nil (u := B2) (M7 _ ⟨by omega, by omega⟩) (by rw [mW9, if_neg (fun hc => by first | exact Bool.noConfusion (hc.1.symm.trans (by assumption)) | exact Bool.noConfusion (hc.2.symm.trans (by assumption)) | exact Bool.noConfusion (hc.symm.trans (by assumption)))]; rfl))
 refine A7 ?_
 refine sB (qE rfl rfl) rfl rfl (fun h887 => ?_) (fun h887 => ?_)
 refine B0 ?_
 (have hl2 : n = 2 := hop.1 (by omega); obtain ⟨b0, o0, q0, d0, hp0, hat0, hre0, hg0⟩ := hsl.kidD hkl (i := 0) (by omega) (by omega); obtain ⟨b1, o1, q1, d1, hp1, hat1, hre1, hg1⟩ := hsl.kidD hkl (i := 1) (by omega) (by omega); cases hp0; cases hp1; refine E0 E1 rfl ?_)
 refine I8 (i := 0) (l' := [tt,ff,ff,ff,ff,ff,ff,ff,ff,ff]) rfl D2 (qM rfl) rfl (by kernel_rfl) rfl rfl ?_
 refine aP 1 rfl (B3 (j := 0) rfl rfl rfl (by omega)) rfl ?_
 refine aL 2 rfl (A2 rfl rfl (hat0 _) rfl) rfl ?_
 refine aP 3 rfl (qM rfl) rfl ?_
 refine aP 4 rfl (B3 (j := 1) rfl rfl rfl (by omega)) rfl ?_
 refine aL 5 rfl (A2 rfl rfl (hat1 _) rfl) rfl ?_
 refine A3 6 ?_
 (refine H1 rfl rfl (A17 5 _ _ _ _ _ ⟨by omega, by omega⟩ hre0 hre1) rfl rfl rfl (fun v GB hleB hh => ?_); obtain ⟨cB, rfl, hrB⟩ := hh; obtain ⟨p7, c7, e7, rfl, _⟩ := hrB.open)
 refine aP 7 rfl (qA rfl) rfl ?_
 refine A3 8 ?_
 refine H8 rfl ?_
 refine aP 9 rfl (qA rfl) rfl ?_
 refine B0 ?_
 refine D9 (rT rfl) (rC rfl (A4 rfl rfl)) (rT rfl) ?_
 (have hk1 : k = 10 := (by omega); subst hk1; exact L6.nil hrB A4W)
 refine A7 ?_
 refine sB (qE rfl rfl) rfl rfl (fun h919 => ?_) (fun h919 => ?_)
 refine B0 ?_
 (have hl1 : n = 1 := hop.2.2 (by omega); obtain ⟨b0, o0, q0, d0, hp0, hat0, hre0, hg0⟩ := hsl.kidD hkl (i := 0) (by omega) (by omega); cases hp0; refine E0 E1 rfl ?_)
 refine I8 (i := 0) (l' := [tt,ff,ff,ff,ff,ff,ff,ff,ff,ff,ff,ff,ff,ff]) rfl D2 (B7 rfl) rfl (by kernel_rfl) rfl rfl ?_
 refine aL 1 rfl (A4 rfl rfl) rfl ?_
 refine aP 3 rfl (B7 rfl) rfl ?_
 refine aL 4 rfl (A4 rfl rfl) rfl ?_
 refine aP 5 rfl (qM rfl) rfl ?_
 refine aP 6 rfl (B3 (j := 0) rfl rfl rfl (by omega)) rfl ?_
 refine aL 7 rfl (A2 rfl rfl (hat0 _) rfl) rfl ?_
 refine aP 8 rfl (B7 rfl) rfl ?_
 refine aL 9 rfl (A4 rfl rfl) rfl ?_
 refine R2 (j := 2) (j' := 10) (by kernel_rfl) ?_ ?_
 (refine E6 rfl (C9 rfl rfl rfl (by omega) (by unfold maxLen; omega) rfl) rfl rfl ?_; rintro _ ⟨b936, rfl⟩)
 refine A3 10 ?_
 refine U5 rfl rfl ((Z7 _ _ _ _ _ hre0 hrty)) rfl rfl rfl (fun h938 => ?_) (fun h938 => ?_)
 refine aP 11 rfl (qA rfl) rfl ?_
 refine A3 12 ?_
 refine H8 rfl ?_
 refine aP 13 rfl (qA rfl) rfl ?_
 refine E8 (nS ?_)
 (refine E9 Pk.here (fun G5 hle5 hsl5 hno5 => ?_))
 refine tT (rB (rS ?_))
 refine D9 (rT rfl) (rC rfl (A4 rfl rfl)) (rT rfl) ?_
 (have hk1 : k = 13 := (by omega); subst hk1; refine L6.one hsl5 (hrty.mono hle5) (hrty.mono hle5) ?_; rw [A2C]; split <;> first | rfl | (exfalso; simp_all; done))
 refine aP 11 rfl (qA rfl) rfl ?_
 refine A3 12 ?_
 refine H8 rfl ?_
 refine aP 13 rfl (qA rfl) rfl ?_
 refine E8 (nS ?_)
 (refine E9 Pk.here (fun G5 hle5 hsl5 hno5 => ?_))
 refine tT (rB (rS ?_))
 refine D9 (rT rfl) (rC rfl (A4 rfl rfl)) (rT rfl) ?_
 (have hk1 : k = 13 := (by omega); subst hk1; refine L6.one hsl5 (hrty.mono hle5) (hrty.mono hle5) ?_; rw [A2C]; split <;> first | rfl | (exfalso; simp_all; done))
 refine U5 rfl rfl ((Z7 _ _ _ _ _ hre0 hrty)) rfl rfl rfl (fun h963 => ?_) (fun h963 => ?_)
 refine A3 2 ?_
 (refine E6 rfl (C9 rfl rfl rfl (by omega) (by unfold maxLen; omega) rfl) rfl rfl ?_; rintro _ ⟨b965, rfl⟩)
 refine aP 11 rfl (qA rfl) rfl ?_
 refine A3 12 ?_
 refine H8 rfl ?_
 refine aP 13 rfl (qA rfl) rfl ?_
 refine E8 (nS ?_)
 (refine E9 Pk.here (fun G5 hle5 hsl5 hno5 => ?_))
 refine tT (rB (rS ?_))
 refine D9 (rT rfl) (rC rfl (A4 rfl rfl)) (rT rfl) ?_
 (have hk1 : k = 13 := (by omega); subst hk1; refine L6.one hsl5 (hrty.mono hle5) (hrty.mono hle5) ?_; rw [A2C]; split <;> first | rfl | (exfalso; simp_all; done))
 refine A3 2 ?_
 (refine E6 rfl (C9 rfl rfl rfl (by omega) (by unfold maxLen; omega) rfl) rfl rfl ?_; rintro _ ⟨b979, rfl⟩)
 refine aP 11 rfl (qA rfl) rfl ?_
 refine A3 12 ?_
 refine H8 rfl ?_
 refine aP 13 rfl (qA rfl) rfl ?_
 refine E8 (nS ?_)
 (refine E9 Pk.here (fun G5 hle5 hsl5 hno5 => ?_))
 refine tT (rB (rS ?_))
 refine D9 (rT rfl) (rC rfl (A4 rfl rfl)) (rT rfl) ?_
 (have hk1 : k = 13 := (by omega); subst hk1; refine L6.one hsl5 (hrty.mono hle5) (hrty.mono hle5) ?_; rw [A2C]; split <;> first | rfl | (exfalso; simp_all; done))
 refine J5 ?_
 (have hk11 : k = 11 ∨ k = 12 := (by omega); have hl1 : n = 1 := hop.2.2 (by omega); obtain ⟨b0, o0, q0, d0, hp0, hat0, hre0, hg0⟩ := hsl.kidD hkl (i := 0) (by omega) (by omega); cases hp0; refine sP (B3 (j := 0) rfl rfl rfl (by omega)) rfl rfl ?_)
 refine sL (A2 rfl rfl (hat0 _) rfl) rfl rfl ?_
 (refine D8 rfl (A8R 5 (h.getD 0 B2) G _ (.inr rfl) (A3a har (by omega)) hre0) rfl rfl (fun v G1 hle1 hh => ?_); obtain ⟨ma, mca, mb, mcb, rfl, hma, hmb, hma2, hmb2, hmm⟩ := hh; obtain ⟨p1, c1, e1, rfl, _⟩ := hma.open; obtain ⟨p2, c2, e2, rfl, _⟩ := hmb.open)
 refine B6 ?_
 refine sE (A6 rfl) rfl (fun b1009 => ?_)
 refine sE (A6 rfl) rfl (fun b1010 => ?_)
 refine D6 ?_
 refine sE (A6 rfl) rfl (fun b1019 => ?_)
 refine D6 ?_
 refine sB (qE rfl rfl) rfl rfl (fun h1028 => ?_) (fun h1028 => ?_)
 refine E4 ?_
 (have hl1 : n = 1 := hop.2.2 (by omega); obtain ⟨b0, o0, q0, d0, hp0, hat0, hre0, hg0⟩ := hsl.kidD hkl (i := 0) (by omega) (by omega); cases hp0; refine E0 E1 rfl ?_)
 refine L7 (i := 0) (l' := [tt,ff,ff,ff,ff,ff,ff,ff,ff]) rfl D2 (A4 rfl rfl) rfl (by kernel_rfl) rfl rfl ?_
 refine aL 1 rfl (A4 rfl rfl) rfl ?_
 refine aL 4 rfl (A4 rfl rfl) rfl ?_
 refine aP 5 rfl (qM rfl) rfl ?_
 refine A3 2 ?_
 (refine H1 rfl rfl (A17 _ ma mb _ _ _ ⟨by omega, by omega⟩ hma hmb) rfl rfl rfl (fun v GB hleB hh => ?_); obtain ⟨cB, rfl, hrB⟩ := hh; obtain ⟨p7, c7, e7, rfl, _⟩ := hrB.open; have hma' := hma.mono hleB; have hmb' := hmb.mono hleB)
 refine A3 3 ?_
 (refine E6 rfl (C9 rfl rfl rfl (by omega) (by unfold maxLen; omega) rfl) rfl rfl ?_; rintro _ ⟨b1046, rfl⟩)
 refine aP 6 rfl (qA rfl) rfl ?_
 refine A3 7 ?_
 refine H8 rfl ?_
 refine aP 8 rfl (qA rfl) rfl ?_
 refine E8 (nS ?_)
 (refine E9 Pk.here (fun G5 hle5 hsl5 hno5 => ?_))
 refine tT ?_
 refine D9 (rT rfl) (rC rfl (A4 rfl rfl)) (rT rfl) ?_
 (refine L6.one hsl5 (hrB.mono hle5) (hmb'.mono hle5) ?_; rw [A3b (by omega)]; cases hq : R0 5 (h.getD 0 B2) with | none => rfl | some q => (have hq2 := hmm q hq; subst hq2; dsimp only; rw [if_pos (by omega)]; rfl))
 refine A7 ?_
 (have hl1 : n = 1 := hop.2.2 (by omega); obtain ⟨b0, o0, q0, d0, hp0, hat0, hre0, hg0⟩ := hsl.kidD hkl (i := 0) (by omega) (by omega); cases hp0; refine E0 E1 rfl ?_)
 refine L7 (i := 0) (l' := [tt,ff,ff,ff,ff,ff,ff,ff,ff]) rfl D2 (A4 rfl rfl) rfl (by kernel_rfl) rfl rfl ?_
 refine aL 1 rfl (A4 rfl rfl) rfl ?_
 refine aL 4 rfl (A4 rfl rfl) rfl ?_
 refine aP 5 rfl (qM rfl) rfl ?_
 refine A3 2 ?_
 (refine H1 rfl rfl (A17 _ ma mb _ _ _ ⟨by omega, by omega⟩ hma hmb) rfl rfl rfl (fun v GB hleB hh => ?_); obtain ⟨cB, rfl, hrB⟩ := hh; obtain ⟨p7, c7, e7, rfl, _⟩ := hrB.open; have hma' := hma.mono hleB; have hmb' := hmb.mono hleB)
 refine A3 3 ?_
 (refine E6 rfl (C9 rfl rfl rfl (by omega) (by unfold maxLen; omega) rfl) rfl rfl ?_; rintro _ ⟨b1071, rfl⟩)
 refine aP 6 rfl (qA rfl) rfl ?_
 refine A3 7 ?_
 refine H8 rfl ?_
 refine aP 8 rfl (qA rfl) rfl ?_
 refine E8 (nS ?_)
 (refine E9 Pk.here (fun G5 hle5 hsl5 hno5 => ?_))
 refine tT ?_
 refine D9 (rT rfl) (rC rfl (A4 rfl rfl)) (rT rfl) ?_
 (refine L6.one hsl5 (hrB.mono hle5) (hma'.mono hle5) ?_; rw [A3b (by omega)]; cases hq : R0 5 (h.getD 0 B2) with | none => rfl | some q => (have hq2 := hmm q hq; subst hq2; dsimp only; rw [if_neg (by omega)]; rfl))
theorem A6h {cx : Cx} {k : Int} {nm : ByteArray} {ty : Ty} {h w : List Ty} {t : Ty} (he : Y4 cx k nm ty h = some (w, t)) : F9 t = true ∧ L8 cx k nm ty h = some (w, t) := by
 unfold Y4 at he
 split at he
 ·rename_i w' t' hw
  split at he
  ·cases he; exact ⟨by assumption, hw⟩
  ·cases he
 ·cases he
theorem B28 {cx : Cx} {k : Int} {nm : ByteArray} {ty : Ty} {h w : List Ty} {t : Ty} (hop : (k = 6 ∨ k = 7 ∨ k = 8 ∨ k = 10 → h.length = 2) ∧ (k = 9 → h.length = 3) ∧ (k = 5 ∨ k = 11 ∨ k = 12 ∨ k = 13 → h.length = 1)) (hk : 1 ≤ k ∧ k ≤ 14) (h14 : k ≠ 14) (he : L8 cx k nm ty h = some (w, t)) : w.length ≤ h.length := by
 have hkk : k = 1 ∨ k = 2 ∨ (k = 3 ∨ k = 4) ∨ k = 5 ∨ k = 6 ∨ (k = 7 ∨ k = 8) ∨ k = 9 ∨ k = 10 ∨ (k = 11 ∨ k = 12) ∨ k = 13 := by omega
 rcases hkk with rfl | rfl | hk | rfl | rfl | hk | rfl | rfl | hk | rfl
 ·rw [mW1] at he; split at he <;> cases he; simp
 ·rw [mW2] at he; cases he; simp
 ·rw [A3P hk] at he; cases he; simp
 ·rw [mW5] at he; cases he; simp
 ·rw [mW6] at he
  split at he
  ·split at he <;> cases he
   have := hop.1 (by omega); simp [this]
  ·cases he
 ·rw [V8 hk] at he
  split at he <;> cases he
  have := hop.1 (by omega); simp [this]
 ·rw [mW9] at he
  split at he <;> cases he
  have := hop.2.1 (by omega); simp [this]
 ·rw [A4W] at he; cases he; simp
 ·rw [A3b hk] at he
  split at he
  ·cases he; have := hop.2.2 (by omega); simp [this]
  ·cases he
 ·rw [A2C] at he
  split at he <;> cases he
  have := hop.2.2 (by omega); simp [this]
theorem S0.snoc {G G' : IM} {cx : Cx} {n : Nat} {p' : Option Addr} {c' : Nat} {es : List (List Value)} {e : List Value} {nm : ByteArray} {t : Ty} (h1 : n = cx.length) (hl : es.length = n) (h2 : ∀ x ∈ es, x.length = 3) (h3 : ∀ x ∈ es, x.all (·.oneCell') = true)
  (h4 : ∀ (i : Nat) (b : ByteArray × Ty), cx[i]? = some b → ∃ e, es[i]? = some e ∧ A29 G b e) (hg : B9 G G') (he : A29 G' (nm, t) e) (hs : Sl G' p' (n + 1) c' 3 (es.flatten ++ e)) : S0 G' (cx ++ [(nm, t)]) p' (n + 1) c' := by
 have hel : e.length = 3 ∧ e.all (·.oneCell') = true := by obtain ⟨q, d, rfl, _⟩ := he; exact ⟨rfl, rfl⟩
 refine ⟨by simp [h1], es ++ [e], D1.of (by simpa using hs) (by simp [hl]) ?_ ?_, ?_⟩
 ·simp only [List.forall_mem_append, List.forall_mem_singleton]; exact ⟨h2, hel.1⟩
 ·simp only [List.forall_mem_append, List.forall_mem_singleton]; exact ⟨h3, hel.2⟩
 ·intro i b hb
  rw [List.getElem?_append] at hb ⊢
  split at hb
  ·rename_i hi
   obtain ⟨e', he', hr⟩ := h4 i b hb
   rw [if_pos (by omega)]
   exact ⟨e', he', hr.mono hg⟩
  ·rename_i hi
   have : i - cx.length = 0 := by
    apply Classical.byContradiction; intro hc
    rw [List.getElem?_eq_none (by simp; omega)] at hb; cases hb
   rw [this] at hb
   simp only [List.getElem?_cons_zero, Option.some.injEq] at hb
   subst hb
   rw [if_neg (by omega)]
   exact ⟨e, by rw [show i - es.length = 0 by omega]; rfl, he⟩
theorem B29 (G : IM) (p : Option Addr) (n c : Nat) (es : List (List Value)) (h : D1 G p n c 3 es) (hn : n ≤ 4294967296) :
  Fn Tryz.prog 90 [.slice p n c] [] G (fun G' v outs => G' = G ∧ ∃ p' c', v = .slice p' n c' ∧ outs = [.slc p' c' 106 3 n es.flatten]) := by
 have hp := h.sl.nn
 have hS := h.sl
 have hone : ∀ u ∈ es.flatten, u.oneCell' = true := by
  intro u hu
  obtain ⟨e, he, hue⟩ := List.mem_flatten.1 hu
  exact List.all_eq_true.1 (h.one e he) u hue
 refine C0 Tryz.func90 rfl Tryz.ntmps90 Tryz.results90 rfl ?_
 intro w0
 cases p with
 | none =>
  obtain rfl := hp rfl
  obtain rfl : es = [] := List.length_eq_zero_iff.1 h.len
  refine Q7 106 3 ?_
  refine E4 ?_
  refine sQ (B1l rfl rfl rfl) rfl ?_
  refine J5 ?_
  refine H7 (rT rfl) A0.refl ?_
  exact ⟨rfl, _, _, rfl, rfl⟩
 | some a =>
  refine E4 ?_
  refine sQ (A7h rfl rfl rfl) rfl ?_
  refine B4 ?_
  (refine I1 (C9 rfl rfl rfl (by omega) (by unfold maxLen; omega) rfl) rfl ?_; rintro _ ⟨b18, rfl⟩)
  refine sQ (qM rfl) rfl ?_
  refine A2v rfl rfl rfl rfl rfl (fun _ _ => by repeat (first | exact Sw.here | apply Sw.there)) hS hone (Nat.zero_le _) (by unfold maxLen; omega) (by omega) rfl (fun pn cn => ?_)
  refine B6 ?_
  refine H7 (rT rfl) A0.refl ?_
  exact ⟨rfl, _, _, by rw [Nat.zero_add], by rw [Nat.zero_add]; rfl⟩
theorem X7.no {r : Option Ty} {G G' : IM} {cu : List Value} {u : Ty} {b : Bool} (hu : C1 G' u cu) (hb : b = false) (h : r = none) : X7 r G G' (.tuple ⟨[.agg ⟨cu⟩, .bool b]⟩) [] := by
 subst hb h
 exact ⟨rfl, cu, u, rfl, hu, by simp⟩
theorem X7.yes {r : Option Ty} {G G' : IM} {cu : List Value} {u : Ty} {b : Bool} (hu : C1 G' u cu) (hb : b = true) (h : r = some u) : X7 r G G' (.tuple ⟨[.agg ⟨cu⟩, .bool b]⟩) [] := by
 subst hb h
 exact ⟨rfl, cu, u, rfl, hu, fun t ht => by cases ht; rfl⟩
section
variable {cx : Cx} {k : Int} {nm : ByteArray} {num : Int} {ty fr : Ty} {lb : Int} {ks : List Tm}
theorem A3Q {us w : List Ty} {t : Ty} (h : L8 cx k nm ty us = some (w, t)) {b : Bool} (hb : F9 t = b) : Y4 cx k nm ty us = if b = true then some (w, t) else none := by
 unfold Y4; rw [h]; simp only [hb]
theorem B3a {us : List Ty} (h : L8 cx k nm ty us = none) : Y4 cx k nm ty us = none := by
 unfold Y4; rw [h]
end
def B3b (r : Tm) : Tm × Bool := if P0 r = true then (r, true) else (K1, false)
def B6R (t : Tm) (path : List Int) (x : Tm) : Tm × Bool := if P0 t = true ∧ P0 x = true ∧ tAt t path ≠ none then B3b (A8I t path x) else (K1, false)
mutual
theorem A6i (D N : Int) : ∀ (t : Tm) (d d' : Int), d' ≤ d → M5 D N t d = true → M5 D N t d' = true
 | .mk k nm num ty fr lb ks, d, d', hd, h => by
  obtain ⟨h1, h2, h3, h4⟩ := A0A h
  rw [A08 (by omega) h2 h3]
  exact A4X D N ks _ _ (by omega) h4
theorem A4X (D N : Int) : ∀ (ts : List Tm) (d d' : Int), d' ≤ d → M3 D N ts d = true → M3 D N ts d' = true
 | [], d, d', hd, h => by rw [M3]
 | t :: ts, d, d', hd, h => by
  rw [M3, Bool.and_eq_true] at h ⊢
  exact ⟨A6i D N t d d' hd h.1, A4X D N ts d d' hd h.2⟩
end
def E5 : List Tm → List Ty → List Ty → Int → List Tm × Int
 | u :: us, a :: h, b :: w, l => if N0 a b = true then (u :: (E5 us h w l).1, (E5 us h w l).2) else (L3 u a b (l + 1) :: (E5 us h w (l + 1)).1, (E5 us h w (l + 1)).2)
 | us, _, _, l => (us, l)
def Q5 (cx : Cx) (k : Int) (nm : ByteArray) (num : Int) (ty fr : Ty) (lb : Int) (us : List Tm) (h : List Ty) (l : Int) : Option (Tm × Ty × Int) :=
 match Y4 cx k nm ty h with
 | none => none
 | some (w, t) => some (if k = 13 then (E5 us h w l).1.getD 0 K1 else .mk k nm num ty fr lb (E5 us h w l).1, t, (E5 us h w l).2)
mutual
def M0 (cx : Cx) : Tm → Int → Option (Tm × Ty × Int)
 | .mk k nm num ty fr lb ks, l => match L0 (N2 cx k nm ty) ks l with
  | none => none
  | some (us, h, l') => Q5 cx k nm num ty fr lb us h l'
def L0 (cx : Cx) : List Tm → Int → Option (List Tm × List Ty × Int)
 | [], l => some ([], [], l)
 | t :: ts, l => match M0 cx t l with
  | none => none
  | some (u, a, l') => match L0 cx ts l' with
   | none => none
   | some (us, h, l'') => some (u :: us, a :: h, l'')
end
def S1 (e : Tm) : Option (Tm × Ty) := if N8 e = true then (match M0 [] e 0 with | some (u, t, _) => some (u, t) | none => none) else none
def W8 (cx : Cx) (k : Int) (nm : ByteArray) (ty : Ty) (h : List Ty) : Option Ty := match L8 cx k nm ty h with
 | some (_, t) => if (k = 5 ∨ k = 10) ∧ F9 t = false then none else some t
 | none => none
mutual
def Q6 (cx : Cx) : Tm → Option Ty
 | .mk k nm num ty fr lb ks => match V9 (N2 cx k nm ty) ks with
  | none => none
  | some h => W8 cx k nm ty h
def V9 (cx : Cx) : List Tm → Option (List Ty)
 | [] => some []
 | t :: ts => match Q6 cx t with
  | none => none
  | some a => match V9 cx ts with
   | none => none
   | some h => some (a :: h)
end
theorem A18 (k : Int) (ks : List Ty) (d : Int) : K9 (.mk k ks) d = (decide (d ≤ 4) && decide (V0 k = ks.length) && U1 ks (d + 1)) := by rw [K9]
mutual
theorem A3R : ∀ (t : Ty) (d e : Int), e ≤ d → K9 t d = true → K9 t e = true
 | .mk k ks, d, e, h, hs => by
  rw [A18, Bool.and_eq_true, Bool.and_eq_true, decide_eq_true_eq, decide_eq_true_eq] at hs ⊢
  exact ⟨⟨by omega, hs.1.2⟩, A8T ks (d + 1) (e + 1) (by omega) hs.2⟩
theorem A8T : ∀ (ts : List Ty) (d e : Int), e ≤ d → U1 ts d = true → U1 ts e = true
 | [], d, e, h, hs => by rw [U1]
 | t :: ts, d, e, h, hs => by
  rw [U1, Bool.and_eq_true] at hs ⊢
  exact ⟨A3R t d e h hs.1, A8T ts d e h hs.2⟩
end
mutual
theorem A6j : ∀ (a b : Ty) (d : Int), K0 a b = true → K9 a d = true → K9 b d = true → K9 (U7 a b) d = true
 | .mk k ks, .mk k' ks', d, hc, ha, hb => by
  rw [A09]
  split
  ·exact hb
  ·split
   ·exact ha
   ·rw [S7] at hc
    rw [A18, Bool.and_eq_true, Bool.and_eq_true, decide_eq_true_eq, decide_eq_true_eq] at ha hb ⊢
    simp only [Bool.or_eq_true, Bool.and_eq_true, decide_eq_true_eq] at hc
    obtain ⟨hk, hl⟩ : k = k' ∧ M9 ks ks' = true := by
     rcases hc with (h | h) | h
     ·contradiction
     ·contradiction
     ·exact h
    subst hk
    obtain ⟨m1, m2⟩ := A8U ks ks' (d + 1) hl ha.2 hb.2
    exact ⟨⟨ha.1.1, by rw [m2]; exact ha.1.2⟩, m1⟩
theorem A8U : ∀ (xs ys : List Ty) (d : Int), M9 xs ys = true → U1 xs d = true → U1 ys d = true → U1 (T6 xs ys) d = true ∧ (T6 xs ys).length = xs.length
 | [], [], d, _, _, _ => by simp [T6, U1]
 | [], b :: ys, d, hc, _, _ => by simp [M9] at hc
 | a :: xs, [], d, hc, _, _ => by simp [M9] at hc
 | a :: xs, b :: ys, d, hc, ha, hb => by
  rw [M9, Bool.and_eq_true] at hc
  rw [U1, Bool.and_eq_true] at ha hb
  obtain ⟨m1, m2⟩ := A8U xs ys d hc.2 ha.2 hb.2
  rw [T6, U1, Bool.and_eq_true]
  exact ⟨⟨A6j a b d hc.1 ha.1 hb.1, m1⟩, by simp [m2]⟩
end
theorem A6k {cx : Cx} (h : ∀ b ∈ cx, F9 b.2 = true) {nm : ByteArray} {t : Ty} : ∀ {n : Nat}, W6 cx nm n = some t → F9 t = true
 | 0, hl => by simp [W6] at hl
 | n + 1, hl => by
  rw [W6] at hl
  split at hl
  ·rename_i b hb
   split at hl
   ·cases hl; exact h b (List.mem_of_getElem? hb)
   ·exact A6k h hl
  ·exact A6k h hl
theorem A8V {k : Int} {t a b : Ty} (hk : k = 4 ∨ k = 5) (ht : F9 t = true) (h : R0 k t = some (a, b)) : F9 a = true ∧ F9 b = true := by
 obtain ⟨tk, ks⟩ := t
 rw [show R0 k (.mk tk ks) = (if tk = k then some (ks.getD 0 B2, ks.getD 1 B2) else if tk = 1 then some (P8, P8) else none) from rfl] at h
 by_cases he : tk = k
 ·rw [if_pos he] at h
  cases h
  unfold F9 at ht ⊢
  rw [A18, Bool.and_eq_true, Bool.and_eq_true, decide_eq_true_eq, decide_eq_true_eq] at ht
  have h2 : ks.length = 2 := by
   have : V0 tk = 2 := by rw [he]; rcases hk with rfl | rfl <;> rfl
   omega
  match ks, h2, ht.2 with
  | [x, y], _, hL =>
   simp only [U1, Bool.and_eq_true] at hL
   exact ⟨A3R _ 2 1 (by omega) hL.1, A3R _ 2 1 (by omega) hL.2.1⟩
 ·rw [if_neg he] at h
  by_cases h1 : tk = 1
  ·rw [if_pos h1] at h
   cases h
   exact ⟨by decide, by decide⟩
  ·rw [if_neg h1] at h; cases h
theorem B3c {l : List Ty} {i : Nat} (h : i < l.length) : l.getD i B2 ∈ l := by
 rw [List.getD_eq_getElem?_getD, List.getElem?_eq_getElem h, Option.getD_some]; exact List.getElem_mem h
theorem B3d {cx : Cx} {k : Int} {nm : ByteArray} {ty : Ty} {h w : List Ty} {t : Ty} (hcx : ∀ b ∈ cx, F9 b.2 = true) (hh : ∀ a ∈ h, F9 a = true) (hd : F9 (h.getD 0 B2) = true ∨ h = []) (hty : k = 13 → F9 ty = true) (hn : E2 k = (h.length : Int)) (hw : L8 cx k nm ty h = some (w, t)) (h510 : k ≠ 5 ∧ k ≠ 10) : F9 t = true := by
 have hg : ∀ i, i < h.length → F9 (h.getD i B2) = true := fun i hi => hh _ (B3c hi)
 unfold L8 at hw
 split at hw
 ·split at hw
  ·rename_i u hu; cases hw; exact A6k hcx hu
  ·cases hw
 split at hw
 ·cases hw; decide
 split at hw
 ·cases hw; decide
 split at hw
 ·exact absurd (by assumption) h510.1
 split at hw
 ·rename_i hk6
  have hl : h.length = 2 := by have : E2 k = 2 := (by rw [hk6]; rfl); omega
  split at hw
  ·rename_i a b hm
   split at hw
   ·cases hw; exact (A8V (.inl rfl) (hg 0 (by omega)) hm).2
   ·cases hw
  ·cases hw
 split at hw
 ·split at hw
  ·cases hw; split <;> decide
  ·cases hw
 split at hw
 ·rename_i hk9
  have hl : h.length = 3 := by have : E2 k = 3 := (by rw [hk9]; rfl); omega
  split at hw
  ·rename_i hc
   cases hw
   exact A6j _ _ 1 hc.2 (hg 1 (by omega)) (hg 2 (by omega))
  ·cases hw
 split at hw
 ·exact absurd (by assumption) h510.2
 split at hw
 ·split at hw
  ·cases hw; exact hty (by assumption)
  ·cases hw
 ·split at hw
  ·rename_i a b hm
   have hl : h.length ≠ 0 := by
    intro h0
    rw [List.length_eq_zero_iff] at h0
    subst h0
    rw [show R0 5 (([] : List Ty).getD 0 B2) = none from rfl] at hm
    cases hm
   cases hw
   have := A8V (.inr rfl) (hg 0 (by omega)) hm
   split
   ·exact this.2
   ·exact this.1
  ·cases hw
def W2 (cx : Cx) : Prop := ∀ b ∈ cx, F9 b.2 = true
theorem A2D : W2 [] := by intro b hb; simp at hb
theorem A3c {cx : Cx} {k : Int} {nm : ByteArray} {ty : Ty} (h : W2 cx) (ht : k = 5 → F9 ty = true) : W2 (N2 cx k nm ty) := by
 unfold N2
 split
 ·intro b hb
  rcases List.mem_append.1 hb with hb | hb
  ·exact h b hb
  ·obtain rfl := List.mem_singleton.1 hb; exact ht (by assumption)
 ·exact h
theorem B3e {cx : Cx} {k : Int} {nm : ByteArray} {ty : Ty} {h : List Ty} (hcx : W2 cx) (hh : ∀ a ∈ h, F9 a = true) (hty : k = 13 → F9 ty = true) (hn : E2 k = (h.length : Int)) :
  (∀ w t, Y4 cx k nm ty h = some (w, t) → W8 cx k nm ty h = some t ∧ F9 t = true) ∧ (Y4 cx k nm ty h = none → W8 cx k nm ty h = none) := by
 unfold Y4 W8
 have hv := fun w t (e : L8 cx k nm ty h = some (w, t)) (h5 : k ≠ 5 ∧ k ≠ 10) => B3d hcx hh (by cases h with | nil => exact .inr rfl | cons x xs => exact .inl (hh _ (by simp))) hty hn e h5
 cases hw : L8 cx k nm ty h with
 | none => simp
 | some p =>
  obtain ⟨w, t⟩ := p
  have hv := hv w t hw
  simp only
  by_cases h5 : k = 5 ∨ k = 10
  ·cases ht : F9 t with
   | true => simp [ht]
   | false => simp [h5]
  ·have := hv (by omega)
   simp [this]
theorem A6l (ks : List Tm) (ih : ∀ t ∈ ks, ∀ d cx l, M5 12 14 t d = true → W2 cx → (∀ u a l', M0 cx t l = some (u, a, l') → Q6 cx t = some a ∧ F9 a = true) ∧ (M0 cx t l = none → Q6 cx t = none)) :
  ∀ d cx l, M3 12 14 ks d = true → W2 cx → (∀ us h l', L0 cx ks l = some (us, h, l') → V9 cx ks = some h ∧ (∀ a ∈ h, F9 a = true) ∧ h.length = ks.length ∧ us.length = ks.length) ∧ (L0 cx ks l = none → V9 cx ks = none) := by
 induction ks with
 | nil =>
  intro d cx l _ _
  refine ⟨fun us h l' he => ?_, fun he => by simp [L0] at he⟩
  simp only [L0, Option.some.injEq, Prod.mk.injEq] at he
  obtain ⟨rfl, rfl, _⟩ := he
  exact ⟨by rw [V9], by simp, rfl, rfl⟩
 | cons t ts ihl =>
  intro d cx l hs hcx
  rw [M3, Bool.and_eq_true] at hs
  obtain ⟨a1, a2⟩ := ih t List.mem_cons_self d cx l hs.1 hcx
  rw [L0, V9]
  cases he : M0 cx t l with
  | none => rw [a2 he]; exact ⟨fun _ _ _ h => by simp at h, fun _ => rfl⟩
  | some p =>
   obtain ⟨u, a, l1⟩ := p
   obtain ⟨b1, b2⟩ := a1 u a l1 he
   rw [b1]
   obtain ⟨c1, c2⟩ := ihl (fun x hx => ih x (List.mem_cons_of_mem _ hx)) d cx l1 hs.2 hcx
   simp only
   cases hL : L0 cx ts l1 with
   | none => rw [c2 hL]; exact ⟨fun _ _ _ h => by simp at h, fun _ => rfl⟩
   | some q =>
    obtain ⟨us, h, l2⟩ := q
    obtain ⟨d1, d2, d3, d4⟩ := c1 us h l2 hL
    rw [d1]
    refine ⟨fun us' h' l' e => ?_, fun e => by simp at e⟩
    simp only [Option.some.injEq, Prod.mk.injEq] at e
    obtain ⟨rfl, rfl, _⟩ := e
    refine ⟨rfl, fun x hx => ?_, by simp [d3], by simp [d4]⟩
    rcases List.mem_cons.1 hx with rfl | hx
    ·exact b2
    ·exact d2 x hx
theorem A2E : ∀ (t : Tm) (d : Int) (cx : Cx) (l : Int), M5 12 14 t d = true → W2 cx → (∀ u a l', M0 cx t l = some (u, a, l') → Q6 cx t = some a ∧ F9 a = true) ∧ (M0 cx t l = none → Q6 cx t = none) := by
 refine Tm.ind fun k nm num ty fr lb ks ih d cx l hs hcx => ?_
 obtain ⟨_, _, h3, h4⟩ := A0A hs
 obtain ⟨n1, _, _, _, _, n6, _⟩ := U2.1 h3
 obtain ⟨L1, L2⟩ := A6l ks ih (d + 1) (N2 cx k nm ty) l h4 (A3c hcx fun hk => n6 (by omega))
 rw [M0, Q6]
 cases hL : L0 (N2 cx k nm ty) ks l with
 | none => rw [L2 hL]; exact ⟨fun _ _ _ h => by simp at h, fun _ => rfl⟩
 | some q =>
  obtain ⟨us, h, l2⟩ := q
  obtain ⟨d1, d2, d3, d4⟩ := L1 us h l2 hL
  rw [d1]
  obtain ⟨e1, e2⟩ := B3e (k := k) (nm := nm) (ty := ty) hcx d2 (fun hk => n6 (.inr (.inl hk))) (by rw [d3]; exact n1)
  simp only [Q5]
  cases hN : Y4 cx k nm ty h with
  | none => rw [e2 hN]; exact ⟨fun _ _ _ h => by simp at h, fun _ => rfl⟩
  | some p =>
   obtain ⟨w, t⟩ := p
   obtain ⟨f1, f2⟩ := e1 w t hN
   rw [f1]
   refine ⟨fun u a l' e => ?_, fun e => by simp at e⟩
   simp only [Option.some.injEq, Prod.mk.injEq] at e
   obtain ⟨_, rfl, _⟩ := e
   exact ⟨rfl, f2⟩
theorem B3f {cx : Cx} {k : Int} {nm : ByteArray} {num : Int} {ty fr : Ty} {lb : Int} {ks : List Tm} {T : Ty} {us w : List Ty} (hu : Y5 (N2 cx k nm ty) ks = some us) (hk : k ≠ 14) (hv : F9 T = true) (hw : L8 cx k nm ty us = some (w, T)) (hs : A3L w us = true) : A0Q cx (.mk k nm num ty fr lb ks) = some T := by
 rw [A0Q, hu]
 simp only [if_neg hk]
 unfold Y4
 rw [hw]
 simp only [hv, if_true, hs]
theorem B3g {cx : Cx} {a : Tm} {us : List Ty} (h : Y5 cx [a] = some us) : ∃ x, A0Q cx a = some x ∧ us = [x] := by
 rw [Y5] at h
 split at h
 ·cases h
 ·rename_i x hx
  rw [Y5] at h
  simp only [Option.some.injEq] at h
  exact ⟨x, hx, h.symm⟩
theorem B3h {cx : Cx} {a : Tm} {x : Ty} (h : A0Q cx a = some x) : Y5 cx [a] = some [x] := by rw [Y5, h]; rfl
mutual
theorem A2F : ∀ a : Ty, K0 a a = true
 | .mk k ks => by rw [S7, A8W ks]; simp
theorem A8W : ∀ xs : List Ty, M9 xs xs = true
 | [] => rfl
 | a :: xs => by rw [M9, A2F a, A8W xs]; rfl
end
mutual
theorem A6m : ∀ a : Ty, U7 a a = a
 | .mk k ks => by
  rw [A09, A8X ks]
  by_cases h : k = 1
  ·rw [if_pos h]
  ·rw [if_neg h, if_neg h]
theorem A8X : ∀ xs : List Ty, T6 xs xs = xs
 | [] => rfl
 | a :: xs => by rw [T6, A6m a, A8X xs]
end
theorem A4Y {k : Int} {ks : List Ty} (hk : k = 4 ∨ k = 5) (h : F9 (.mk k ks) = true) : ∃ a b, ks = [a, b] ∧ F9 a = true ∧ F9 b = true := by
 unfold F9 at h ⊢
 rw [A18, Bool.and_eq_true, Bool.and_eq_true, decide_eq_true_eq, decide_eq_true_eq] at h
 have h2 : ks.length = 2 := by
  have : V0 k = 2 := by rcases hk with rfl | rfl <;> rfl
  omega
 match ks, h2, h.2 with
 | [x, y], _, hL =>
  simp only [U1, Bool.and_eq_true] at hL
  exact ⟨x, y, rfl, A3R _ 2 1 (by omega) hL.1, A3R _ 2 1 (by omega) hL.2.1⟩
theorem B3i {k : Int} {ks : List Ty} (h : F9 (.mk k ks) = true) (hk : k ≠ 4) (hk5 : k ≠ 5) : (k = 1 ∨ k = 2 ∨ k = 3) ∧ ks = [] := by
 unfold F9 at h
 rw [A18, Bool.and_eq_true, Bool.and_eq_true, decide_eq_true_eq, decide_eq_true_eq] at h
 obtain ⟨h1, h2, h3⟩ := N5 k
 have hl := h.1.2
 have hk3 : k = 1 ∨ k = 2 ∨ k = 3 := by
  apply Classical.byContradiction
  intro hc
  rw [h3 (by omega) (by omega) (by omega) hk hk5] at hl; omega
 rw [h1 hk3] at hl
 exact ⟨hk3, List.length_eq_zero_iff.1 (by omega)⟩
section inv
variable {cx : Cx} {nm : ByteArray} {num : Int} {ty fr : Ty} {lb : Int} {a b c : Tm} {T : Ty}
theorem A8Y : ∀ xs : List Ty, A3L xs xs = true
 | [] => rfl
 | a :: xs => by rw [A3L, A4J, A8Y xs]; rfl
theorem B3j (h : A0Q cx a = some fr) : A0Q cx (.mk 14 nm num ty fr lb [a]) = some ty := by
 rw [A0Q, show N2 cx 14 nm ty = cx from rfl, B3h h]
 simp only [if_true, List.getD_cons_zero, A4J]
end inv
theorem A8Z (cx : Cx) (x nm : ByteArray) (t : Ty) : V6 (cx ++ [(x, t)]) nm = if x = nm then some t else V6 cx nm := by
 unfold V6
 rw [List.length_append, show ([(x, t)] : Cx).length = 1 from rfl]
 have hl : (cx ++ [(x, t)])[cx.length]? = some (x, t) := by rw [List.getElem?_append_right (Nat.le_refl _)]; simp
 by_cases h : x = nm
 ·rw [A5X hl h, if_pos h]
 ·rw [A5Y hl h, if_neg h]
  have : ∀ n, n ≤ cx.length → W6 (cx ++ [(x, t)]) nm n = W6 cx nm n := by
   intro n
   induction n with
   | zero => intro _; rfl
   | succ n ih =>
    intro hn
    rw [W6, W6, List.getElem?_append_left (by omega), ih (by omega)]
  exact this _ (Nat.le_refl _)
theorem A3S {cx : Cx} : ∀ {ks : List Tm} {i : Nat} (hi : i < ks.length) {l l' l2 : Int} {us : List Tm} {h : List Ty} {u : Tm} {a : Ty}, L0 cx (ks.take i) l = some (us, h, l') → M0 cx ks[i] l' = some (u, a, l2) → L0 cx (ks.take (i + 1)) l = some (us ++ [u], h ++ [a], l2)
 | [], i, hi, _, _, _, _, _, _, _, _, _ => by simp at hi
 | t :: ts, 0, _, l, l', l2, us, h, u, a, h1, h2 => by
  simp only [List.take_zero, L0, Option.some.injEq, Prod.mk.injEq] at h1
  obtain ⟨rfl, rfl, rfl⟩ := h1
  simp only [List.getElem_cons_zero] at h2
  simp [L0, h2]
 | t :: ts, i + 1, hi, l, l', l2, us, h, u, a, h1, h2 => by
  simp only [List.take_succ_cons, L0] at h1 ⊢
  split at h1
  ·cases h1
  ·rename_i u1 a1 l1 he
   split at h1
   ·cases h1
   ·rename_i us1 h1' l1' hL
    simp only [Option.some.injEq, Prod.mk.injEq] at h1
    obtain ⟨rfl, rfl, rfl⟩ := h1
    simp only [List.getElem_cons_succ] at h2
    have := A3S (ks := ts) (i := i) (by simpa using hi) hL h2
    simp only [this, List.cons_append]
theorem A6n {cx : Cx} : ∀ {ks : List Tm} {i : Nat} (hi : i < ks.length) {l l' : Int} {us : List Tm} {h : List Ty}, L0 cx (ks.take i) l = some (us, h, l') → M0 cx ks[i] l' = none → L0 cx ks l = none
 | [], i, hi, _, _, _, _, _, _ => by simp at hi
 | t :: ts, 0, _, l, l', us, h, h1, h2 => by
  simp only [List.take_zero, L0, Option.some.injEq, Prod.mk.injEq] at h1
  obtain ⟨rfl, rfl, rfl⟩ := h1
  simp only [List.getElem_cons_zero] at h2
  simp [L0, h2]
 | t :: ts, i + 1, hi, l, l', us, h, h1, h2 => by
  simp only [List.take_succ_cons, L0] at h1 ⊢
  split at h1
  ·cases h1
  ·rename_i u1 a1 l1 he
   split at h1
   ·cases h1
   ·rename_i us1 h1' l1' hL
    simp only [Option.some.injEq, Prod.mk.injEq] at h1
    obtain ⟨rfl, rfl, rfl⟩ := h1
    simp only [List.getElem_cons_succ] at h2
    have := A6n (ks := ts) (i := i) (by simpa using hi) hL h2
    simp only [this]
theorem V1 (us : List Tm) (h : List Ty) (l : Int) : E5 us h [] l = (us, l) := by
 cases us with
 | nil => rfl
 | cons u us => cases h <;> rfl
theorem A3T : ∀ (us : List Tm) (h w : List Ty) (l : Int) (j : Nat) (hj : j < w.length) (hu : w.length ≤ us.length) (hh : w.length ≤ h.length),
  (E5 us h (w.take j) l).1.length = us.length ∧ (∀ (hq : j < (E5 us h (w.take j) l).1.length), (E5 us h (w.take j) l).1[j] = us[j]'(by omega)) ∧
  E5 us h (w.take (j + 1)) l = if N0 (h[j]'(by omega)) w[j] = true then E5 us h (w.take j) l else ((E5 us h (w.take j) l).1.set j (L3 (us[j]'(by omega)) (h[j]'(by omega)) w[j] ((E5 us h (w.take j) l).2 + 1)), (E5 us h (w.take j) l).2 + 1)
 | us, h, [], l, j, hj, _, _ => by simp at hj
 | [], h, b :: w, l, j, _, hu, _ => by simp at hu
 | u :: us, [], b :: w, l, j, _, _, hh => by simp at hh
 | u :: us, a :: h, b :: w, l, 0, _, _, _ => by
  refine ⟨by simp [E5], by simp [E5], ?_⟩
  simp only [List.take_succ_cons, List.take_zero, E5, V1, List.getElem_cons_zero, List.set_cons_zero]
 | u :: us, a :: h, b :: w, l, j + 1, hj, hu, hh => by
  simp only [List.take_succ_cons, List.getElem_cons_succ]
  by_cases hs : N0 a b = true
  ·have ih := A3T us h w l j (by simpa using hj) (by simpa using hu) (by simpa using hh)
   simp only [E5, if_pos hs]
   obtain ⟨i1, i2, i3⟩ := ih
   refine ⟨by simp [i1], fun hq => by simp [i2], ?_⟩
   rw [i3]
   split <;> simp
  ·have ih := A3T us h w (l + 1) j (by simpa using hj) (by simpa using hu) (by simpa using hh)
   simp only [E5, if_neg hs]
   obtain ⟨i1, i2, i3⟩ := ih
   refine ⟨by simp [i1], fun hq => by simp [i2], ?_⟩
   rw [i3]
   split <;> simp
theorem A1Q : ∀ (us : List Tm) (h w : List Ty) (l : Int), (E5 us h w l).1.length = us.length
 | [], h, w, l => by simp [E5]
 | u :: us, [], w, l => by simp [E5]
 | u :: us, a :: h, [], l => by simp [E5]
 | u :: us, a :: h, b :: w, l => by
  simp only [E5]
  split
  ·simp [A1Q us h w l]
  ·simp [A1Q us h w (l + 1)]
theorem A80 {us : List Tm} {h w : List Ty} {l : Int} {j : Nat} (hj : j < w.length) (hu : w.length ≤ us.length) (hh : w.length ≤ h.length) :
  (E5 us h (w.take (j + 1)) l).1 = (E5 us h (w.take j) l).1.set j (if N0 (h[j]'(by omega)) w[j] = true then us[j]'(by omega) else L3 (us[j]'(by omega)) (h[j]'(by omega)) w[j] ((E5 us h (w.take j) l).2 + 1)) ∧
  (E5 us h (w.take (j + 1)) l).2 = (if N0 (h[j]'(by omega)) w[j] = true then (E5 us h (w.take j) l).2 else (E5 us h (w.take j) l).2 + 1) := by
 obtain ⟨h1, h2, h3⟩ := A3T us h w l j hj hu hh
 by_cases hs : N0 (h[j]'(by omega)) w[j] = true
 ·rw [h3, if_pos hs, if_pos hs, if_pos hs]
  refine ⟨?_, rfl⟩
  rw [← h2 (by omega), List.set_getElem_self]
 ·rw [h3, if_neg hs, if_neg hs, if_neg hs]
  exact ⟨rfl, rfl⟩
theorem A1p : ∀ (us : List Tm) (h w : List Ty) (l : Int), l ≤ (E5 us h w l).2 ∧ (E5 us h w l).2 ≤ l + us.length
 | [], h, w, l => by simp [E5]
 | u :: us, [], w, l => by simp [E5]; omega
 | u :: us, a :: h, [], l => by simp [E5]; omega
 | u :: us, a :: h, b :: w, l => by
  simp only [E5]
  split
  ·have := A1p us h w l; simp only [List.length_cons]; omega
  ·have := A1p us h w (l + 1); simp only [List.length_cons]; omega
mutual
def A1q : Ty → Ty → Bool
 | .mk k ks, t => decide (t.k = 1) || (decide (k = t.k) && A0F ks t.ks)
def A0F : List Ty → List Ty → Bool
 | [], [] => true
 | a :: xs, b :: ys => A1q a b && A0F xs ys
 | _, _ => false
end
theorem A1b (k k' : Int) (ks ks' : List Ty) : A1q (.mk k ks) (.mk k' ks') = (decide (k' = 1) || (decide (k = k') && A0F ks ks')) := by rw [A1q]; rfl
mutual
def A2G : Tm → Tm → Bool
 | .mk k nm num ty _ _ ks, u => decide (k = u.k ∧ nm = u.nm ∧ num = u.num) && (decide (k ≠ 5 ∧ k ≠ 13) || A1q ty u.ty) && A19 ks u.ks
def A19 : List Tm → List Tm → Bool
 | [], [] => true
 | a :: xs, b :: ys => A2G a b && A19 xs ys
 | _, _ => false
end
theorem A81 {k k' : Int} {nm nm' : ByteArray} {num num' : Int} {ty ty' fr fr' : Ty} {lb lb' : Int} {ks ks' : List Tm} :
  A2G (.mk k nm num ty fr lb ks) (.mk k' nm' num' ty' fr' lb' ks') = true ↔ k = k' ∧ nm = nm' ∧ num = num' ∧ (k = 5 ∨ k = 13 → A1q ty ty' = true) ∧ A19 ks ks' = true := by
 rw [A2G]
 show (decide (k = k' ∧ nm = nm' ∧ num = num') && (decide (k ≠ 5 ∧ k ≠ 13) || A1q ty ty') && A19 ks ks') = true ↔ _
 simp only [Bool.and_eq_true, Bool.or_eq_true, decide_eq_true_eq]
 constructor
 ·rintro ⟨⟨⟨a, b, c⟩, e⟩, d⟩
  exact ⟨a, b, c, fun h => e.resolve_left (by omega), d⟩
 ·rintro ⟨a, b, c, e, d⟩
  refine ⟨⟨⟨a, b, c⟩, ?_⟩, d⟩
  by_cases h : k = 5 ∨ k = 13
  ·exact .inr (e h)
  ·exact .inl (by omega)
def A3d (a b : Tm) : Bool := N8 a && (N8 b && A2G a b)
theorem A2a : ∀ (t : Ty), F9 t = true → ∃ a : GT, t = a.ty
 | .mk k ks, h => by
  by_cases h4 : k = 4
  ·obtain ⟨x, y, hxy, hx, hy⟩ := A4Y (.inl h4) h
   have : SizeOf.sizeOf x < SizeOf.sizeOf ks ∧ SizeOf.sizeOf y < SizeOf.sizeOf ks := by subst hxy; simp; omega
   obtain ⟨a, ha⟩ := A2a x hx
   obtain ⟨b, hb⟩ := A2a y hy
   exact ⟨.fn a b, by rw [h4, hxy, ha, hb]; rfl⟩
  ·by_cases h5 : k = 5
   ·obtain ⟨x, y, hxy, hx, hy⟩ := A4Y (.inr h5) h
    have : SizeOf.sizeOf x < SizeOf.sizeOf ks ∧ SizeOf.sizeOf y < SizeOf.sizeOf ks := by subst hxy; simp; omega
    obtain ⟨a, ha⟩ := A2a x hx
    obtain ⟨b, hb⟩ := A2a y hy
    exact ⟨.pr a b, by rw [h5, hxy, ha, hb]; rfl⟩
   ·obtain ⟨h1, rfl⟩ := B3i h h4 h5
    rcases h1 with rfl | rfl | rfl
    ·exact ⟨.any, rfl⟩
    ·exact ⟨.int, rfl⟩
    ·exact ⟨.bool, rfl⟩
 termination_by t => SizeOf.sizeOf t
 decreasing_by all_goals (simp only [Ty.mk.sizeOf_spec]; omega)
theorem A82 : ∀ (a b : GT), A1q a.ty b.ty = true ↔ Le a b := by
 intro a
 induction a with
 | any => intro b; cases b <;> simp [GT.ty, A1b, A0F] <;> first | exact .any | (intro h; cases h)
 | int => intro b; cases b <;> simp [GT.ty, A1b, A0F] <;> first | exact .any | exact .int | (intro h; cases h)
 | bool => intro b; cases b <;> simp [GT.ty, A1b, A0F] <;> first | exact .any | exact .bool | (intro h; cases h)
 | fn x y i j =>
  intro b
  cases b with
  | fn z w => simp only [GT.ty, A1b, A0F, i, j, Bool.or_eq_true, Bool.and_eq_true, decide_eq_true_eq, Bool.and_true, true_and]; exact ⟨fun h => by rcases h with h | h; exact absurd h (by decide); exact .fn h.1 h.2, fun h => by cases h with | fn a b => exact .inr ⟨a, b⟩⟩
  | any => simp [GT.ty, A1b, A0F]; exact .any
  | _ => simp [GT.ty, A1b, A0F]; intro h; cases h
 | pr x y i j =>
  intro b
  cases b with
  | pr z w => simp only [GT.ty, A1b, A0F, i, j, Bool.or_eq_true, Bool.and_eq_true, decide_eq_true_eq, Bool.and_true, true_and]; exact ⟨fun h => by rcases h with h | h; exact absurd h (by decide); exact .pr h.1 h.2, fun h => by cases h with | pr a b => exact .inr ⟨a, b⟩⟩
  | any => simp [GT.ty, A1b, A0F]; exact .any
  | _ => simp [GT.ty, A1b, A0F]; intro h; cases h
theorem A0S : ∀ (a b : GT), K0 a.ty b.ty = true ↔ Co a b := by
 intro a
 induction a with
 | any => intro b; cases b <;> simp [GT.ty, S7, M9] <;> exact .l
 | int => intro b; cases b <;> simp [GT.ty, S7, M9] <;> first | exact .r | exact .int | (intro h; cases h)
 | bool => intro b; cases b <;> simp [GT.ty, S7, M9] <;> first | exact .r | exact .bool | (intro h; cases h)
 | fn x y i j =>
  intro b
  cases b with
  | fn z w => simp only [GT.ty, S7, M9, i, j, Bool.or_eq_true, Bool.and_eq_true, decide_eq_true_eq, Bool.and_true, true_and]; exact ⟨fun h => by rcases h with h | h; exact absurd h (by decide); exact .fn h.1 h.2, fun h => by cases h with | fn a b => exact .inr ⟨a, b⟩⟩
  | any => simp [GT.ty, S7, M9]; exact .r
  | _ => simp [GT.ty, S7, M9]; intro h; cases h
 | pr x y i j =>
  intro b
  cases b with
  | pr z w => simp only [GT.ty, S7, M9, i, j, Bool.or_eq_true, Bool.and_eq_true, decide_eq_true_eq, Bool.and_true, true_and]; exact ⟨fun h => by rcases h with h | h; exact absurd h (by decide); exact .pr h.1 h.2, fun h => by cases h with | pr a b => exact .inr ⟨a, b⟩⟩
  | any => simp [GT.ty, S7, M9]; exact .r
  | _ => simp [GT.ty, S7, M9]; intro h; cases h
def S2 : GT → GT → GT
 | .any, b => b
 | .fn a b, .fn c d => .fn (S2 a c) (S2 b d)
 | .pr a b, .pr c d => .pr (S2 a c) (S2 b d)
 | a, _ => a
theorem A3e (a : GT) : S2 a .any = a := by cases a <;> rfl
theorem A83 {a b : GT} (h : Co a b) : U7 a.ty b.ty = (S2 a b).ty := by
 induction h with
 | l => simp [GT.ty, U7, S2]
 | @r a => rw [A3e]; cases a <;> simp [GT.ty, A09]
 | int => simp [GT.ty, A09, T6, S2]
 | bool => simp [GT.ty, A09, T6, S2]
 | fn _ _ i j => simp [GT.ty, A09, T6, S2, i, j]
 | pr _ _ i j => simp [GT.ty, A09, T6, S2, i, j]
theorem A4Z {a b : GT} (h : Co a b) : Le (S2 a b) a := by
 induction h with
 | l => exact .any
 | r => rw [A3e]; exact Le.refl
 | int => exact .int
 | bool => exact .bool
 | fn _ _ i j => exact .fn i j
 | pr _ _ i j => exact .pr i j
theorem A40 {a b : GT} (h : Co a b) : Le (S2 a b) b := by
 induction h with
 | l => exact Le.refl
 | r => exact .any
 | int => exact .int
 | bool => exact .bool
 | fn _ _ i j => exact .fn i j
 | pr _ _ i j => exact .pr i j
theorem B3k {a b : GT} (h : Co a b) : ∀ {a' b' : GT}, Le a a' → Le b b' → Le (S2 a b) (S2 a' b') := by
 induction h with
 | l => intro a' b' h1 h2; cases h1; exact h2
 | r => intro a' b' h1 h2; cases h2; rw [A3e, A3e]; exact h1
 | int => intro a' b' h1 h2; cases h1 <;> cases h2 <;> first | exact .int | exact .any
 | bool => intro a' b' h1 h2; cases h1 <;> cases h2 <;> first | exact .bool | exact .any
 | fn c d i j =>
  intro a' b' h1 h2
  cases h1 with
  | any => exact (A40 (.fn c d)).trans h2
  | fn p q => cases h2 with
   | any => rw [A3e]; exact (A4Z (.fn c d)).trans (.fn p q)
   | fn r s => exact .fn (i p r) (j q s)
 | pr c d i j =>
  intro a' b' h1 h2
  cases h1 with
  | any => exact (A40 (.pr c d)).trans h2
  | pr p q => cases h2 with
   | any => rw [A3e]; exact (A4Z (.pr c d)).trans (.pr p q)
   | pr r s => exact .pr (i p r) (j q s)
theorem B3l {a b : GT} (h : Le a b) : ∀ (d : Int), K9 a.ty d = true → K9 b.ty d = true := by
 induction h with
 | @any a => intro d h; cases a <;> (simp only [GT.ty, A18, Bool.and_eq_true, decide_eq_true_eq] at h ⊢; exact ⟨⟨h.1.1, rfl⟩, by rw [U1]⟩)
 | int => exact fun _ h => h
 | bool => exact fun _ h => h
 | fn _ _ i j =>
  intro d h
  simp only [GT.ty, A18, U1, Bool.and_eq_true, decide_eq_true_eq] at h ⊢
  exact ⟨⟨h.1.1, rfl⟩, i _ h.2.1, j _ h.2.2.1, trivial⟩
 | pr _ _ i j =>
  intro d h
  simp only [GT.ty, A18, U1, Bool.and_eq_true, decide_eq_true_eq] at h ⊢
  exact ⟨⟨h.1.1, rfl⟩, i _ h.2.1, j _ h.2.2.1, trivial⟩
theorem A2H {a b : GT} (h : Le a b) (hv : F9 a.ty = true) : F9 b.ty = true := B3l h 1 hv
def gmF : GT → Option (GT × GT)
 | .fn a b => some (a, b)
 | .any => some (.any, .any)
 | _ => none
def gmP : GT → Option (GT × GT)
 | .pr a b => some (a, b)
 | .any => some (.any, .any)
 | _ => none
theorem A84 (a : GT) : R0 4 a.ty = (gmF a).map fun p => (p.1.ty, p.2.ty) := by cases a <;> rfl
theorem A85 (a : GT) : R0 5 a.ty = (gmP a).map fun p => (p.1.ty, p.2.ty) := by cases a <;> rfl
theorem B3m {a b p q : GT} (h : Le a b) (hm : gmF a = some (p, q)) : Co a (.fn p q) ∧ ∃ p' q', gmF b = some (p', q') ∧ Le p p' ∧ Le q q' ∧ Co b (.fn p' q') := by
 cases h with
 | any =>
  refine ⟨?_, .any, .any, rfl, .any, .any, .l⟩
  cases a with
  | fn _ _ => cases hm; exact Co.refl
  | any => exact .l
  | _ => cases hm
 | fn h1 h2 => cases hm; exact ⟨Co.refl, _, _, rfl, h1, h2, Co.refl⟩
 | _ => cases hm
theorem B3n {a b p q : GT} (h : Le a b) (hm : gmP a = some (p, q)) : Co a (.pr p q) ∧ ∃ p' q', gmP b = some (p', q') ∧ Le p p' ∧ Le q q' ∧ Co b (.pr p' q') := by
 cases h with
 | any =>
  refine ⟨?_, .any, .any, rfl, .any, .any, .l⟩
  cases a with
  | pr _ _ => cases hm; exact Co.refl
  | any => exact .l
  | _ => cases hm
 | pr h1 h2 => cases hm; exact ⟨Co.refl, _, _, rfl, h1, h2, Co.refl⟩
 | _ => cases hm
def CxR (cx cx' : Cx) (Γ : GC) : Prop := ∀ x a, V6 cx x = some a → ∃ A A', a = A.ty ∧ V6 cx' x = some A'.ty ∧ Γ x = some (A, A') ∧ Le A A'
theorem B3o : CxR [] [] emp := by intro x a h; simp [V6, W6] at h
theorem B3p {cx cx' : Cx} {Γ : GC} (h : CxR cx cx' Γ) {A A' : GT} (hl : Le A A') (x : ByteArray) : CxR (cx ++ [(x, A.ty)]) (cx' ++ [(x, A'.ty)]) (gup Γ x A A') := by
 intro y a ha
 rw [A8Z] at ha ⊢
 unfold gup
 by_cases hy : x = y
 ·rw [if_pos hy] at ha ⊢
  rw [if_pos hy]
  cases ha
  exact ⟨A, A', rfl, rfl, rfl, hl⟩
 ·rw [if_neg hy] at ha ⊢
  rw [if_neg hy]
  exact h y a ha
def T1 (A B : GT) (l : Int) (e : GE) : GE := if N0 A.ty B.ty = true then e else .cast A B l e
theorem A1R {Γ : GC} {e e' : GE} {A A' B B' : GT} {l l' : Int} (h : GP Γ e e' A A') (h1 : Co A B) (h2 : Co A' B') (h3 : Le B B') : GP Γ (T1 A B l e) (T1 A' B' l' e') B B' := by
 unfold T1
 by_cases hs : N0 A.ty B.ty = true
 ·rw [if_pos hs]
  obtain rfl := GT.inj ((A1K _ _).1 hs)
  by_cases ht : N0 A'.ty B'.ty = true
  ·rw [if_pos ht]
   obtain rfl := GT.inj ((A1K _ _).1 ht)
   exact h
  ·rw [if_neg ht]; exact .castR h h2 h3
 ·rw [if_neg hs]
  by_cases ht : N0 A'.ty B'.ty = true
  ·rw [if_pos ht]
   obtain rfl := GT.inj ((A1K _ _).1 ht)
   exact .castL h h1 h3
  ·rw [if_neg ht]; exact .castB h h1 h2 h3
theorem A6o (e : GE) (us : List Tm) (A B : GT) (h w : List Ty) (l : Int) : ∃ m l1, E5 (e.tm :: us) (A.ty :: h) (B.ty :: w) l = ((T1 A B m e).tm :: (E5 us h w l1).1, (E5 us h w l1).2) := by
 rw [E5]
 unfold T1
 by_cases hs : N0 A.ty B.ty = true
 ·rw [if_pos hs]; exact ⟨0, l, by rw [if_pos hs]⟩
 ·rw [if_neg hs]; exact ⟨l + 1, l + 1, by rw [if_neg hs]; rfl⟩
theorem A3U (e : GE) (A B : GT) (l : Int) : ∃ m l1, E5 [e.tm] [A.ty] [B.ty] l = ([(T1 A B m e).tm], l1) := by
 obtain ⟨m, l1, h⟩ := A6o e [] A B [] [] l
 rw [V1] at h
 exact ⟨m, l1, h⟩
theorem A3V (e f : GE) (A B C D : GT) (l : Int) : ∃ m n l1, E5 [e.tm, f.tm] [A.ty, C.ty] [B.ty, D.ty] l = ([(T1 A B m e).tm, (T1 C D n f).tm], l1) := by
 obtain ⟨m, l1, h⟩ := A6o e [f.tm] A B [C.ty] [D.ty] l
 obtain ⟨n, l2, h2⟩ := A3U f C D l1
 rw [h2] at h
 exact ⟨m, n, l2, h⟩
theorem A86 (e f g : GE) (A B C D E F : GT) (l : Int) : ∃ m n o l1, E5 [e.tm, f.tm, g.tm] [A.ty, C.ty, E.ty] [B.ty, D.ty, F.ty] l = ([(T1 A B m e).tm, (T1 C D n f).tm, (T1 E F o g).tm], l1) := by
 obtain ⟨m, l1, h⟩ := A6o e [f.tm, g.tm] A B [C.ty, E.ty] [D.ty, F.ty] l
 obtain ⟨n, o, l2, h2⟩ := A3V f g C D E F l1
 rw [h2] at h
 exact ⟨m, n, o, l2, h⟩
inductive GPL (Γ : GC) : List GE → List GE → List GT → List GT → Prop
 | nil : GPL Γ [] [] [] []
 | cons {e e' A A' es es' As As'} : GP Γ e e' A A' → GPL Γ es es' As As' → GPL Γ (e :: es) (e' :: es') (A :: As) (A' :: As')
theorem GPL.one {Γ : GC} {es es' : List GE} {As As' : List GT} (h : GPL Γ es es' As As') (hl : es.length = 1) : ∃ e e' A A', es = [e] ∧ es' = [e'] ∧ As = [A] ∧ As' = [A'] ∧ GP Γ e e' A A' := by
 cases h with
 | nil => simp at hl
 | cons h h2 => cases h2 with
  | nil => exact ⟨_, _, _, _, rfl, rfl, rfl, rfl, h⟩
  | cons _ _ => simp at hl
theorem GPL.two {Γ : GC} {es es' : List GE} {As As' : List GT} (h : GPL Γ es es' As As') (hl : es.length = 2) : ∃ e e' A A' f f' B B', es = [e, f] ∧ es' = [e', f'] ∧ As = [A, B] ∧ As' = [A', B'] ∧ GP Γ e e' A A' ∧ GP Γ f f' B B' := by
 cases h with
 | nil => simp at hl
 | cons h h2 =>
  obtain ⟨f, f', B, B', rfl, rfl, rfl, rfl, h3⟩ := h2.one (by simpa using hl)
  exact ⟨_, _, _, _, f, f', B, B', rfl, rfl, rfl, rfl, h, h3⟩
theorem GPL.three {Γ : GC} {es es' : List GE} {As As' : List GT} (h : GPL Γ es es' As As') (hl : es.length = 3) : ∃ e e' A A' f f' B B' g g' C C', es = [e, f, g] ∧ es' = [e', f', g'] ∧ As = [A, B, C] ∧ As' = [A', B', C'] ∧ GP Γ e e' A A' ∧ GP Γ f f' B B' ∧ GP Γ g g' C C' := by
 cases h with
 | nil => simp at hl
 | cons h h2 =>
  obtain ⟨f, f', B, B', g, g', C, C', rfl, rfl, rfl, rfl, h3, h4⟩ := h2.two (by simpa using hl)
  exact ⟨_, _, _, _, f, f', B, B', g, g', C, C', rfl, rfl, rfl, rfl, h, h3, h4⟩
theorem GPL.zero {Γ : GC} {es es' : List GE} {As As' : List GT} (h : GPL Γ es es' As As') (hl : es.length = 0) : es = [] ∧ es' = [] ∧ As = [] ∧ As' = [] := by
 cases h with
 | nil => exact ⟨rfl, rfl, rfl, rfl⟩
 | cons _ _ => simp at hl
theorem A1c {cx : Cx} {k : Int} {nm : ByteArray} {num : Int} {ty fr : Ty} {lb : Int} {us : List Tm} {h : List Ty} {l : Int} {u : Tm} {a : Ty} {l2 : Int} (he : Q5 cx k nm num ty fr lb us h l = some (u, a, l2)) :
  ∃ w, L8 cx k nm ty h = some (w, a) ∧ F9 a = true ∧ u = if k = 13 then (E5 us h w l).1.getD 0 K1 else .mk k nm num ty fr lb (E5 us h w l).1 := by
 unfold Q5 at he
 split at he
 ·cases he
 ·rename_i w t hn
  simp only [Option.some.injEq, Prod.mk.injEq] at he
  obtain ⟨rfl, rfl, rfl⟩ := he
  obtain ⟨h1, h2⟩ := A6h hn
  exact ⟨w, h2, h1, rfl⟩
theorem A1r {cx : Cx} {k : Int} {nm : ByteArray} {num : Int} {ty fr : Ty} {lb : Int} {us : List Tm} {h : List Ty} {l : Int} {w : List Ty} {a : Ty} (hw : L8 cx k nm ty h = some (w, a)) (hv : F9 a = true) :
  Q5 cx k nm num ty fr lb us h l = some (if k = 13 then (E5 us h w l).1.getD 0 K1 else .mk k nm num ty fr lb (E5 us h w l).1, a, (E5 us h w l).2) := by
 unfold Q5 Y4
 rw [hw]
 simp only [hv, if_true]
theorem A6p {k : Int} {nm : ByteArray} {num : Int} {ty fr : Ty} {lb : Int} {ks : List Tm} {d : Int} (h : M5 12 14 (.mk k nm num ty fr lb ks) d = true) :
  E2 k = ks.length ∧ k ≠ 14 ∧ (¬(k = 1 ∨ k = 5) → nm = ⟨#[]⟩) ∧ (k ≠ 2 → num = 0) ∧ (k = 5 ∨ k = 13 → F9 ty = true) ∧ (¬(k = 5 ∨ k = 13) → ty = B2) ∧ fr = B2 ∧ lb = 0 ∧ M3 12 14 ks (d + 1) = true := by
 obtain ⟨_, h2, h3, h4⟩ := A0A h
 obtain ⟨n1, n2, n3, n4, n5, n6, n7, n8, n9⟩ := U2.1 h3
 exact ⟨n1, h2, n3, fun hk => by have := A14.1 (n5 hk); omega, fun hk => n6 (by omega), fun hk => A11 (n7 (by omega)), A11 (n9 h2).1, (n9 h2).2, h4⟩
abbrev ElR (Γ : GC) (u : Tm) (a : Ty) (r : Option (Tm × Ty × Int)) : Prop := ∃ e A e' A' l2, u = e.tm ∧ a = A.ty ∧ r = some (e'.tm, A'.ty, l2) ∧ GP Γ e e' A A'
section
variable {cx cx' : Cx} {Γ : GC} {es es' : List GE} {As As' : List GT} {l l' : Int} {u : Tm} {a : Ty} {l2 : Int} {nm : ByteArray} {num : Int}
theorem B3q (hc : CxR cx cx' Γ) (he : Q5 cx 1 nm 0 B2 B2 0 [] [] l = some (u, a, l2)) : ElR Γ u a (Q5 cx' 1 nm 0 B2 B2 0 [] [] l') := by
 obtain ⟨w, hw, hv, rfl⟩ := A1c he
 unfold L8 at hw
 rw [if_pos rfl] at hw
 split at hw
 ·rename_i t ht
  cases hw
  obtain ⟨A, A', rfl, h2, h3, h4⟩ := hc _ _ ht
  refine ⟨.var nm, A, .var nm, A', l', ?_, rfl, ?_, .var h3 h4⟩
  ·rw [V1, if_neg (by decide)]; rfl
  ·rw [A1r (w := []) (a := A'.ty) (by unfold L8; rw [if_pos rfl, h2]) (A2H h4 hv), V1, if_neg (by decide)]; rfl
 ·cases hw
theorem B3r (he : Q5 cx 2 ⟨#[]⟩ num B2 B2 0 [] [] l = some (u, a, l2)) : ElR Γ u a (Q5 cx' 2 ⟨#[]⟩ num B2 B2 0 [] [] l') := by
 obtain ⟨w, hw, hv, rfl⟩ := A1c he
 cases hw
 exact ⟨.num num, .int, .num num, .int, l', by rw [V1, if_neg (by decide)]; rfl, rfl, by rw [A1r (w := []) (a := S8) rfl hv, V1, if_neg (by decide)]; rfl, .num⟩
theorem B3s (b : Bool) (he : Q5 cx (if b = true then 3 else 4) ⟨#[]⟩ 0 B2 B2 0 [] [] l = some (u, a, l2)) : ElR Γ u a (Q5 cx' (if b = true then 3 else 4) ⟨#[]⟩ 0 B2 B2 0 [] [] l') := by
 obtain ⟨w, hw, hv, rfl⟩ := A1c he
 cases b <;> (cases hw; exact ⟨.tru _, .bool, .tru _, .bool, l', by rw [V1, if_neg (by decide)]; rfl, rfl, by rw [A1r (w := []) (a := W5) rfl hv, V1, if_neg (by decide)]; rfl, .tru⟩)
theorem B3t {A A' B B' : GT} {e e' : GE} (hA : Le A A') (hp : GP (gup Γ nm A A') e e' B B') (he : Q5 cx 5 nm 0 A.ty B2 0 [e.tm] [B.ty] l = some (u, a, l2)) : ElR Γ u a (Q5 cx' 5 nm 0 A'.ty B2 0 [e'.tm] [B'.ty] l') := by
 obtain ⟨w, hw, hv, rfl⟩ := A1c he
 cases hw
 exact ⟨.lam nm A e, .fn A B, .lam nm A' e', .fn A' B', l', by rw [V1, if_neg (by decide)]; rfl, rfl, by rw [A1r (w := []) (a := .mk 4 [A'.ty, B'.ty]) rfl (A2H (.fn hA hp.le) hv), V1, if_neg (by decide)]; rfl, .lam hA hp⟩
theorem B3u {A A' B B' : GT} {e e' f f' : GE} (hp : GP Γ e e' A A') (hq : GP Γ f f' B B') (he : Q5 cx 6 ⟨#[]⟩ 0 B2 B2 0 [e.tm, f.tm] [A.ty, B.ty] l = some (u, a, l2)) : ElR Γ u a (Q5 cx' 6 ⟨#[]⟩ 0 B2 B2 0 [e'.tm, f'.tm] [A'.ty, B'.ty] l') := by
 obtain ⟨w, hw, hv, rfl⟩ := A1c he
 unfold L8 at hw
 rw [if_neg (by decide), if_neg (by decide), if_neg (by decide), if_neg (by decide), if_pos rfl] at hw
 simp only [List.getD_cons_zero, List.getD_cons_succ, A84] at hw
 cases hm : gmF A with
 | none => rw [hm] at hw; cases hw
 | some pq =>
  obtain ⟨p, q⟩ := pq
  rw [hm] at hw
  simp only [Option.map_some] at hw
  split at hw
  ·rename_i hc
   cases hw
   obtain ⟨c1, p', q', hm', h1, h2, c2⟩ := B3m hp.le hm
   have hco := (A0S _ _).1 hc
   have hco' := hco.up hq.le h1
   obtain ⟨m, n, l1, h3⟩ := A3V e f A (.fn p q) B p l
   obtain ⟨m', n', l1', h3'⟩ := A3V e' f' A' (.fn p' q') B' p' l'
   refine ⟨.app (T1 A (.fn p q) m e) (T1 B p n f), q, .app (T1 A' (.fn p' q') m' e') (T1 B' p' n' f'), q', l1', ?_, rfl, ?_, .app (A1R hp c1 c2 (.fn h1 h2)) (A1R hq hco hco' h1)⟩
   ·rw [if_neg (by decide)]
    show Tm.mk _ _ _ _ _ _ (E5 [e.tm, f.tm] [A.ty, B.ty] [(GT.fn p q).ty, p.ty] l).1 = _
    rw [h3]; rfl
   ·rw [A1r (w := [(GT.fn p' q').ty, p'.ty]) (a := q'.ty) ?_ (A2H h2 hv), if_neg (by decide), h3']
    ·rfl
    ·unfold L8
     rw [if_neg (by decide), if_neg (by decide), if_neg (by decide), if_neg (by decide), if_pos rfl]
     simp only [List.getD_cons_zero, List.getD_cons_succ, A84, hm', Option.map_some]
     rw [if_pos ((A0S _ _).2 hco')]; rfl
  ·cases hw
theorem B3v (s : Bool) {A A' B B' : GT} {e e' f f' : GE} (hp : GP Γ e e' A A') (hq : GP Γ f f' B B') (he : Q5 cx (if s = true then 8 else 7) ⟨#[]⟩ 0 B2 B2 0 [e.tm, f.tm] [A.ty, B.ty] l = some (u, a, l2)) : ElR Γ u a (Q5 cx' (if s = true then 8 else 7) ⟨#[]⟩ 0 B2 B2 0 [e'.tm, f'.tm] [A'.ty, B'.ty] l') := by
 have hk : (if s = true then (8 : Int) else 7) = 7 ∨ (if s = true then (8 : Int) else 7) = 8 := by cases s <;> simp
 have hT : (if (if s = true then (8 : Int) else 7) = 8 then W5 else S8) = GT.ty (if s = true then .bool else .int) := by cases s <;> rfl
 obtain ⟨w, hw, hv, rfl⟩ := A1c he
 unfold L8 at hw
 rw [if_neg (by omega), if_neg (by omega), if_neg (by omega), if_neg (by omega), if_neg (by omega), if_pos hk] at hw
 simp only [List.getD_cons_zero, List.getD_cons_succ] at hw
 split at hw
 ·rename_i hc
  rw [hT] at hw
  cases hw
  have c1 := (A0S A .int).1 hc.1
  have c2 := (A0S B .int).1 hc.2
  have d1 := c1.up hp.le Le.refl
  have d2 := c2.up hq.le Le.refl
  obtain ⟨m, n, l1, h3⟩ := A3V e f A .int B .int l
  obtain ⟨m', n', l1', h3'⟩ := A3V e' f' A' .int B' .int l'
  refine ⟨.ar s (T1 A .int m e) (T1 B .int n f), _, .ar s (T1 A' .int m' e') (T1 B' .int n' f'), _, l1', ?_, rfl, ?_, .ar (A1R hp c1 d1 .int) (A1R hq c2 d2 .int)⟩
  ·rw [if_neg (by omega)]
   show Tm.mk _ _ _ _ _ _ (E5 [e.tm, f.tm] [A.ty, B.ty] [GT.int.ty, GT.int.ty] l).1 = _
   rw [h3]; rfl
  ·rw [A1r (w := [GT.int.ty, GT.int.ty]) (a := GT.ty (if s = true then .bool else .int)) ?_ hv, if_neg (by omega), h3']
   ·rfl
   ·unfold L8
    rw [if_neg (by omega), if_neg (by omega), if_neg (by omega), if_neg (by omega), if_neg (by omega), if_pos hk]
    simp only [List.getD_cons_zero, List.getD_cons_succ]
    rw [if_pos ⟨(A0S A' .int).2 d1, (A0S B' .int).2 d2⟩, hT]; rfl
 ·cases hw
theorem B3w {A A' B B' C C' : GT} {e e' f f' g g' : GE} (hp : GP Γ e e' A A') (hq : GP Γ f f' B B') (hr : GP Γ g g' C C') (he : Q5 cx 9 ⟨#[]⟩ 0 B2 B2 0 [e.tm, f.tm, g.tm] [A.ty, B.ty, C.ty] l = some (u, a, l2)) :
  ElR Γ u a (Q5 cx' 9 ⟨#[]⟩ 0 B2 B2 0 [e'.tm, f'.tm, g'.tm] [A'.ty, B'.ty, C'.ty] l') := by
 obtain ⟨w, hw, hv, rfl⟩ := A1c he
 unfold L8 at hw
 rw [if_neg (by decide), if_neg (by decide), if_neg (by decide), if_neg (by decide), if_neg (by decide), if_neg (by decide), if_pos rfl] at hw
 simp only [List.getD_cons_zero, List.getD_cons_succ] at hw
 split at hw
 ·rename_i hc
  have c1 := (A0S A .bool).1 hc.1
  have c2 := (A0S B C).1 hc.2
  have d1 := c1.up hp.le Le.refl
  have d2 := c2.up hq.le hr.le
  rw [A83 c2] at hw
  cases hw
  have hM := B3k c2 hq.le hr.le
  obtain ⟨m, n, o, l1, h3⟩ := A86 e f g A .bool B (S2 B C) C (S2 B C) l
  obtain ⟨m', n', o', l1', h3'⟩ := A86 e' f' g' A' .bool B' (S2 B' C') C' (S2 B' C') l'
  refine ⟨.ite (T1 A .bool m e) (T1 B (S2 B C) n f) (T1 C (S2 B C) o g), S2 B C, .ite (T1 A' .bool m' e') (T1 B' (S2 B' C') n' f') (T1 C' (S2 B' C') o' g'), S2 B' C', l1', ?_, rfl, ?_,
   .ite (A1R hp c1 d1 .bool) (A1R hq (A4Z c2).co.symm (A4Z d2).co.symm hM) (A1R hr (A40 c2).co.symm (A40 d2).co.symm hM)⟩
  ·rw [if_neg (by decide)]
   show Tm.mk _ _ _ _ _ _ (E5 [e.tm, f.tm, g.tm] [A.ty, B.ty, C.ty] [GT.bool.ty, (S2 B C).ty, (S2 B C).ty] l).1 = _
   rw [h3]; rfl
  ·rw [A1r (w := [GT.bool.ty, (S2 B' C').ty, (S2 B' C').ty]) (a := (S2 B' C').ty) ?_ (A2H hM hv), if_neg (by decide), h3']
   ·rfl
   ·unfold L8
    rw [if_neg (by decide), if_neg (by decide), if_neg (by decide), if_neg (by decide), if_neg (by decide), if_neg (by decide), if_pos rfl]
    simp only [List.getD_cons_zero, List.getD_cons_succ]
    rw [if_pos ⟨(A0S A' .bool).2 d1, (A0S B' C').2 d2⟩, A83 d2]; rfl
 ·cases hw
theorem B3x {A A' B B' : GT} {e e' f f' : GE} (hp : GP Γ e e' A A') (hq : GP Γ f f' B B') (he : Q5 cx 10 ⟨#[]⟩ 0 B2 B2 0 [e.tm, f.tm] [A.ty, B.ty] l = some (u, a, l2)) : ElR Γ u a (Q5 cx' 10 ⟨#[]⟩ 0 B2 B2 0 [e'.tm, f'.tm] [A'.ty, B'.ty] l') := by
 obtain ⟨w, hw, hv, rfl⟩ := A1c he
 cases hw
 exact ⟨.pair e f, .pr A B, .pair e' f', .pr A' B', l', by rw [V1, if_neg (by decide)]; rfl, rfl, by rw [A1r (w := []) (a := .mk 5 [A'.ty, B'.ty]) rfl (A2H (.pr hp.le hq.le) hv), V1, if_neg (by decide)]; rfl, .pair hp hq⟩
theorem B3y (s : Bool) {A A' : GT} {e e' : GE} (hp : GP Γ e e' A A') (he : Q5 cx (if s = true then 12 else 11) ⟨#[]⟩ 0 B2 B2 0 [e.tm] [A.ty] l = some (u, a, l2)) : ElR Γ u a (Q5 cx' (if s = true then 12 else 11) ⟨#[]⟩ 0 B2 B2 0 [e'.tm] [A'.ty] l') := by
 have hk : (if s = true then (12 : Int) else 11) = 11 ∨ (if s = true then (12 : Int) else 11) = 12 := by cases s <;> simp
 have hT : ∀ p q : GT, (if (if s = true then (12 : Int) else 11) = 12 then q.ty else p.ty) = GT.ty (if s = true then q else p) := by intro p q; cases s <;> rfl
 obtain ⟨w, hw, hv, rfl⟩ := A1c he
 unfold L8 at hw
 rw [if_neg (by omega), if_neg (by omega), if_neg (by omega), if_neg (by omega), if_neg (by omega), if_neg (by omega), if_neg (by omega), if_neg (by omega), if_neg (by omega)] at hw
 simp only [List.getD_cons_zero, A85] at hw
 cases hm : gmP A with
 | none => rw [hm] at hw; cases hw
 | some pq =>
  obtain ⟨p, q⟩ := pq
  rw [hm] at hw
  simp only [Option.map_some, hT] at hw
  cases hw
  obtain ⟨c1, p', q', hm', h1, h2, c2⟩ := B3n hp.le hm
  obtain ⟨m, l1, h3⟩ := A3U e A (.pr p q) l
  obtain ⟨m', l1', h3'⟩ := A3U e' A' (.pr p' q') l'
  refine ⟨.part s (T1 A (.pr p q) m e), _, .part s (T1 A' (.pr p' q') m' e'), _, l1', ?_, rfl, ?_, .part (A1R hp c1 c2 (.pr h1 h2))⟩
  ·rw [if_neg (by omega)]
   show Tm.mk _ _ _ _ _ _ (E5 [e.tm] [A.ty] [(GT.pr p q).ty] l).1 = _
   rw [h3]; rfl
  ·rw [A1r (w := [(GT.pr p' q').ty]) (a := GT.ty (if s = true then q' else p')) ?_ (A2H (by cases s; exact h1; exact h2) hv), if_neg (by omega), h3']
   ·rfl
   ·unfold L8
    rw [if_neg (by omega), if_neg (by omega), if_neg (by omega), if_neg (by omega), if_neg (by omega), if_neg (by omega), if_neg (by omega), if_neg (by omega), if_neg (by omega)]
    simp only [List.getD_cons_zero, A85, hm', Option.map_some, hT]; rfl
theorem B3z {A A' B B' : GT} {e e' : GE} (hB : Le B B') (hp : GP Γ e e' A A') (he : Q5 cx 13 ⟨#[]⟩ 0 B.ty B2 0 [e.tm] [A.ty] l = some (u, a, l2)) : ElR Γ u a (Q5 cx' 13 ⟨#[]⟩ 0 B'.ty B2 0 [e'.tm] [A'.ty] l') := by
 obtain ⟨w, hw, hv, rfl⟩ := A1c he
 unfold L8 at hw
 rw [if_neg (by decide), if_neg (by decide), if_neg (by decide), if_neg (by decide), if_neg (by decide), if_neg (by decide), if_neg (by decide), if_neg (by decide), if_pos rfl] at hw
 simp only [List.getD_cons_zero] at hw
 split at hw
 ·rename_i hc
  cases hw
  have c1 := (A0S A B).1 hc
  have d1 := c1.up hp.le hB
  obtain ⟨m, l1, h3⟩ := A3U e A B l
  obtain ⟨m', l1', h3'⟩ := A3U e' A' B' l'
  refine ⟨T1 A B m e, B, T1 A' B' m' e', B', l1', ?_, rfl, ?_, A1R hp c1 d1 hB⟩
  ·rw [if_pos rfl, h3]; rfl
  ·rw [A1r (w := [B'.ty]) (a := B'.ty) ?_ (A2H hB hv), if_pos rfl, h3']
   ·rfl
   ·unfold L8
    rw [if_neg (by decide), if_neg (by decide), if_neg (by decide), if_neg (by decide), if_neg (by decide), if_neg (by decide), if_neg (by decide), if_neg (by decide), if_pos rfl]
    simp only [List.getD_cons_zero]
    rw [if_pos ((A0S A' B').2 d1)]
 ·cases hw
end
theorem B3A (ks : List Tm) (ih : ∀ t ∈ ks, ∀ (t' : Tm) (d : Int) (cx cx' : Cx) (Γ : GC) (l l' : Int) (u : Tm) (a : Ty) (l2 : Int), M5 12 14 t d = true → M5 12 14 t' d = true → A2G t t' = true → CxR cx cx' Γ → M0 cx t l = some (u, a, l2) → ElR Γ u a (M0 cx' t' l')) :
  ∀ (ks' : List Tm) (d : Int) (cx cx' : Cx) (Γ : GC) (l l' : Int) (us : List Tm) (h : List Ty) (l2 : Int), M3 12 14 ks d = true → M3 12 14 ks' d = true → A19 ks ks' = true → CxR cx cx' Γ → L0 cx ks l = some (us, h, l2) →
   ∃ es As es' As' l2', us = es.map GE.tm ∧ h = As.map GT.ty ∧ L0 cx' ks' l' = some (es'.map GE.tm, As'.map GT.ty, l2') ∧ GPL Γ es es' As As' := by
 induction ks with
 | nil =>
  intro ks' d cx cx' Γ l l' us h l2 _ _ hp _ he
  cases ks' with
  | cons _ _ => cases hp
  | nil =>
   rw [L0] at he
   cases he
   exact ⟨[], [], [], [], l', rfl, rfl, by rw [L0]; rfl, .nil⟩
 | cons t ts ihl =>
  intro ks' d cx cx' Γ l l' us h l2 hs hs' hp hc he
  cases ks' with
  | nil => cases hp
  | cons t' ts' =>
   rw [M3, Bool.and_eq_true] at hs hs'
   rw [A19, Bool.and_eq_true] at hp
   rw [L0] at he ⊢
   split at he
   ·cases he
   ·rename_i u a l1 h1
    split at he
    ·cases he
    ·rename_i us' h' l3 h2
     cases he
     obtain ⟨e, A, e', A', m, rfl, rfl, h3, h4⟩ := ih t List.mem_cons_self t' d cx cx' Γ l l' u a l1 hs.1 hs'.1 hp.1 hc h1
     obtain ⟨es, As, es', As', m2, rfl, rfl, h5, h6⟩ := ihl (fun x hx => ih x (List.mem_cons_of_mem _ hx)) ts' d cx cx' Γ l1 m us' h' l2 hs.2 hs'.2 hp.2 hc h2
     rw [h3]
     simp only [h5]
     exact ⟨e :: es, A :: As, e' :: es', A' :: As', m2, rfl, rfl, rfl, .cons h4 h6⟩
theorem A6q {cx : Cx} : ∀ {ks : List Tm} {l : Int} {us : List Tm} {h : List Ty} {l2 : Int}, L0 cx ks l = some (us, h, l2) → us.length = ks.length
 | [], _, _, _, _, h => by rw [L0] at h; cases h; rfl
 | t :: ts, _, _, _, _, h => by
  rw [L0] at h
  split at h
  ·cases h
  ·split at h
   ·cases h
   ·rename_i h2; cases h; simp [A6q h2]
theorem B3B : ∀ (t t' : Tm) (d : Int) (cx cx' : Cx) (Γ : GC) (l l' : Int) (u : Tm) (a : Ty) (l2 : Int), M5 12 14 t d = true → M5 12 14 t' d = true → A2G t t' = true → CxR cx cx' Γ → M0 cx t l = some (u, a, l2) → ElR Γ u a (M0 cx' t' l') := by
 refine Tm.ind fun k nm num ty fr lb ks ih t' d cx cx' Γ l l' u a l2 hs hs' hp hc he => ?_
 obtain ⟨k', nm', num', ty', fr', lb', ks'⟩ := t'
 obtain ⟨rfl, rfl, rfl, hty, hpk⟩ := A81.1 hp
 obtain ⟨n1, n2, n3, n4, n5, n6, n7, n8, n9⟩ := A6p hs
 obtain ⟨m1, m2, m3, m4, m5, m6, m7, m8, m9⟩ := A6p hs'
 subst n7 n8 m7 m8
 rw [M0] at he ⊢
 split at he
 ·cases he
 ·rename_i us h l1 hL
  
  have key : ∀ Δ, CxR (N2 cx k nm ty) (N2 cx' k nm ty') Δ → ∃ es As es' As' l2', us = es.map GE.tm ∧ h = As.map GT.ty ∧ L0 (N2 cx' k nm ty') ks' l' = some (es'.map GE.tm, As'.map GT.ty, l2') ∧ GPL Δ es es' As As' :=
   fun Δ hD => B3A ks ih ks' (d + 1) _ _ Δ l l' us h l1 n9 m9 hpk hD hL
  by_cases h5 : k = 5
  ·subst h5
   obtain ⟨A, rfl⟩ := A2a ty (n5 (.inl rfl))
   obtain ⟨A', rfl⟩ := A2a ty' (m5 (.inl rfl))
   have hA := (A82 A A').1 (hty (.inl rfl))
   obtain rfl := n4 (by decide)
   obtain ⟨es, As, es', As', l3, rfl, rfl, e1, e2⟩ := key (gup Γ nm A A') (by rw [N2, N2, if_pos rfl, if_pos rfl]; exact B3p hc hA nm)
   have hlen : es.length = 1 := by
    have h1 := A6q hL
    rw [List.length_map] at h1
    have : E2 5 = 1 := rfl
    omega
   obtain ⟨e, e', B, B', rfl, rfl, rfl, rfl, hq⟩ := e2.one hlen
   rw [e1]
   exact B3t hA hq he
  ·obtain ⟨es, As, es', As', l3, rfl, rfl, e1, e2⟩ := key Γ (by rw [N2, N2, if_neg h5, if_neg h5]; exact hc)
   have hlen : (es.length : Int) = E2 k := by
    have h1 := A6q hL
    rw [List.length_map] at h1
    omega
   rw [e1]
   have hk : 1 ≤ k ∧ k ≤ 14 := by
    apply Classical.byContradiction
    intro hk
    rw [A4u hk] at n1; omega
   by_cases h1 : k = 1
   ·subst h1
    obtain rfl := n4 (by decide)
    obtain rfl := n6 (by decide)
    obtain rfl := m6 (by decide)
    obtain ⟨rfl, rfl, rfl, rfl⟩ := e2.zero (by have : E2 1 = 0 := rfl; omega)
    exact B3q hc he
   obtain rfl := n3 (by omega)
   by_cases h2 : k = 2
   ·subst h2
    obtain rfl := n6 (by decide)
    obtain rfl := m6 (by decide)
    obtain ⟨rfl, rfl, rfl, rfl⟩ := e2.zero (by have : E2 2 = 0 := rfl; omega)
    exact B3r he
   obtain rfl := n4 h2
   by_cases h13 : k = 13
   ·subst h13
    obtain ⟨B, rfl⟩ := A2a ty (n5 (.inr rfl))
    obtain ⟨B', rfl⟩ := A2a ty' (m5 (.inr rfl))
    obtain ⟨e, e', A, A', rfl, rfl, rfl, rfl, hq⟩ := e2.one (by have : E2 13 = 1 := rfl; omega)
    exact B3z ((A82 B B').1 (hty (.inr rfl))) hq he
   obtain rfl := n6 (by omega)
   obtain rfl := m6 (by omega)
   by_cases h34 : k = 3 ∨ k = 4
   ·obtain ⟨b, rfl⟩ : ∃ b : Bool, k = if b = true then 3 else 4 := by rcases h34 with h | h; exact ⟨true, h⟩; exact ⟨false, h⟩
    obtain ⟨rfl, rfl, rfl, rfl⟩ := e2.zero (by have : E2 (if b = true then 3 else 4) = 0 := (by cases b <;> rfl); omega)
    exact B3s b he
   by_cases h6 : k = 6
   ·subst h6
    obtain ⟨e, e', A, A', f, f', B, B', rfl, rfl, rfl, rfl, hp1, hp2⟩ := e2.two (by have : E2 6 = 2 := rfl; omega)
    exact B3u hp1 hp2 he
   by_cases h78 : k = 7 ∨ k = 8
   ·obtain ⟨b, rfl⟩ : ∃ b : Bool, k = if b = true then 8 else 7 := by rcases h78 with h | h; exact ⟨false, h⟩; exact ⟨true, h⟩
    obtain ⟨e, e', A, A', f, f', B, B', rfl, rfl, rfl, rfl, hp1, hp2⟩ := e2.two (by have : E2 (if b = true then 8 else 7) = 2 := (by cases b <;> rfl); omega)
    exact B3v b hp1 hp2 he
   by_cases h9 : k = 9
   ·subst h9
    obtain ⟨e, e', A, A', f, f', B, B', g, g', C, C', rfl, rfl, rfl, rfl, hp1, hp2, hp3⟩ := e2.three (by have : E2 9 = 3 := rfl; omega)
    exact B3w hp1 hp2 hp3 he
   by_cases h10 : k = 10
   ·subst h10
    obtain ⟨e, e', A, A', f, f', B, B', rfl, rfl, rfl, rfl, hp1, hp2⟩ := e2.two (by have : E2 10 = 2 := rfl; omega)
    exact B3x hp1 hp2 he
   have h11 : k = 11 ∨ k = 12 := by omega
   obtain ⟨b, rfl⟩ : ∃ b : Bool, k = if b = true then 12 else 11 := by rcases h11 with h | h; exact ⟨false, h⟩; exact ⟨true, h⟩
   obtain ⟨e, e', A, A', rfl, rfl, rfl, rfl, hp1⟩ := e2.one (by have : E2 (if b = true then 12 else 11) = 1 := (by cases b <;> rfl); omega)
   exact B3y b hp1 he
theorem B3C {a b u : Tm} {t : Ty} (ha : S1 a = some (u, t)) (hp : A3d a b = true) : ∃ e e' A A', u = e.tm ∧ t = A.ty ∧ S1 b = some (e'.tm, A'.ty) ∧ GP emp e e' A A' := by
 unfold A3d at hp
 rw [Bool.and_eq_true, Bool.and_eq_true] at hp
 unfold S1 at ha ⊢
 rw [if_pos hp.1] at ha
 rw [if_pos hp.2.1]
 split at ha
 ·rename_i u' t' l' he
  cases ha
  obtain ⟨e, A, e', A', l2, rfl, rfl, h1, h2⟩ := B3B a b 1 [] [] emp 0 0 u t l' ((Z8 a).1 hp.1).1 ((Z8 b).1 hp.2.1).1 hp.2.2 B3o he
  rw [h1]
  exact ⟨e, e', A, A', rfl, rfl, rfl, h2⟩
 ·cases ha
variable {P : Program} {G : IM}
theorem Fn.forget {f : FuncId} {args : List Value} {v0 : Value} {post : IM → Value → List A5 → Prop} (h : Fn P f args [] G post) (hv : ∀ G' v outs, post G' v outs → v = v0) : Fn P f args [] G (I5 v0 G) := by
 refine ⟨fun w hw => (h.run w hw).mono ?_⟩
 rintro e w' ⟨u, G', outs, rfl, hres, hp⟩
 refine ⟨u, G, [], rfl, ⟨⟨fun b l hb => hres.own.inn b l (hres.le b l hb), by simp, by simp [Fp], by simp [Fp]⟩, hres.ext, B9.refl _, fun _ _ h => .inl h, by simp [Fp], fun b l h h0 => absurd h (by rw [h0]; simp)⟩, rfl, hv _ _ _ hp, rfl⟩
def S3 (t : Tm) : IM → Value → List A5 → Prop := J4 fun G' v => ∃ cells, v = .agg ⟨cells⟩ ∧ A8 G' t cells
theorem S3.mk {G : IM} {t : Tm} {cells : List Value} (h : A8 G t cells) : S3 t G (.agg ⟨cells⟩) [] := ⟨rfl, cells, rfl, h⟩
def mGk (k : Int) : Ty := if k = 4 ∨ k = 5 then .mk k [P8, P8] else .mk k []
theorem A0T {G : IM} {k : Int} {ks : List Tm} {p : Option Addr} {n c : Nat} {es : List (List Value)} (hk : F8 k) (hn : n = ks.length) (hs : D1 G p n c 9 es) (hr : C6 G ks es) : A8 G (A0r k ks) [.int .i64 k, .string ⟨⟨[]⟩⟩, .int .i64 0, .int .i64 0, .slice none 0 0, .int .i64 0, .slice none 0 0, .int .i64 0, .slice p n c] := by
 subst hn
 simp only [A0r, A8]
 exact ⟨[.int .i64 0, .slice none 0 0], [.int .i64 0, .slice none 0 0], p, c, es, rfl, hk, ⟨by decide, by decide⟩, ⟨by decide, by decide⟩, A1n G, A1n G, hs, hr⟩
theorem A6r (k : Int) (G : IM) (hk : F8 k) : Fn Tryz.prog 232 [.int .i64 k] [] G (J4 fun G' v => ∃ cells, v = .agg ⟨cells⟩ ∧ C1 G' (mGk k) cells) := by
 have hB := A17 k P8 P8 G _ _ hk (A0M G) (A0M G)
 refine C0 Tryz.func232 rfl Tryz.ntmps232 Tryz.results232 rfl ?_
 intro w0
 refine tS (tR ?_)
 refine sE (A6 rfl) rfl (fun b3 => ?_)
 refine A7 ?_
 refine sB (qE rfl rfl) rfl rfl (fun h10 => ?_) (fun h10 => ?_)
 refine J5 ?_
 refine H3 rfl ((A1k _ _)) rfl rfl ?_
 refine H3 rfl ((A1k _ _)) rfl rfl ?_
 (refine D8 rfl hB rfl rfl (fun v G1 hle1 hh => ?_); obtain ⟨cb, rfl, hrb⟩ := hh; obtain ⟨p1, c1, e1, rfl, _⟩ := hrb.open)
 refine B0 ?_
 refine K7 (rC rfl (A4 rfl rfl)) ?_
 (exact ⟨rfl, _, rfl, by unfold mGk; rw [if_pos (by omega)]; exact hrb⟩)
 refine D7 ?_
 refine sB (qE rfl rfl) rfl rfl (fun h33 => ?_) (fun h33 => ?_)
 refine B4 ?_
 refine H3 rfl ((A1k _ _)) rfl rfl ?_
 refine H3 rfl ((A1k _ _)) rfl rfl ?_
 (refine D8 rfl hB rfl rfl (fun v G1 hle1 hh => ?_); obtain ⟨cb, rfl, hrb⟩ := hh; obtain ⟨p1, c1, e1, rfl, _⟩ := hrb.open)
 refine B0 ?_
 refine K7 (rC rfl (A4 rfl rfl)) ?_
 (exact ⟨rfl, _, rfl, by unfold mGk; rw [if_pos (by omega)]; exact hrb⟩)
 refine E4 ?_
 refine H3 rfl ((A1k _ _)) rfl rfl ?_
 refine B6 ?_
 refine K7 (rC rfl (A4 rfl rfl)) ?_
 (exact ⟨rfl, _, rfl, by unfold mGk; rw [if_neg (by omega)]; exact M7 _ hk⟩)
theorem A87 (t : Ty) (G : IM) (cells : List Value) (hr : C1 G t cells) : Fn Tryz.prog 221 [.agg ⟨cells⟩] [] G (I5 (.bool (W7 t)) G) := by
 refine Fn.forget (post := J4 fun _ v => v = .bool (W7 t)) ?_ (fun _ _ _ h => h.2)
 have hr0 := hr
 obtain ⟨tk, tks⟩ := t
 obtain ⟨p, c, es, rfl, hk, _⟩ := hr.open
 simp only [Ty.k, Ty.ks] at hk hr0 ⊢
 rw [show W7 (.mk tk tks) = (decide (tk ≠ 1) && N0 (.mk tk tks) (mGk tk)) from rfl]
 refine C0 Tryz.func221 rfl Tryz.ntmps221 Tryz.results221 rfl ?_
 intro w0
 refine tS (tR ?_)
 refine sE (C5 rfl rfl) rfl (fun b3 => ?_)
 refine B6 ?_
 refine E0 E1 rfl ?_
 refine I8 (i := 0) (l' := [tt,ff,ff,ff,ff,ff,ff,ff,ff,ff,ff]) rfl D2 (B7 rfl) rfl (by kernel_rfl) rfl rfl ?_
 refine aL 1 rfl (C7 rfl rfl) rfl ?_
 refine A0w (i := 2) (l' := [tt,tt,tt,ff,ff,ff,ff,ff,ff,ff,ff]) rfl D2 (O9 rfl rfl) rfl (by kernel_rfl) rfl rfl (fun h11 => ?_) (fun h11 => ?_)
 refine aP 3 rfl (qM rfl) rfl ?_
 refine aL 4 rfl (A4 rfl rfl) rfl ?_
 refine aP 5 rfl (B7 rfl) rfl ?_
 refine aL 6 rfl (C7 rfl rfl) rfl ?_
 refine A3 7 ?_
 (refine H1 rfl rfl (A6r tk G hk) rfl rfl rfl (fun v G1 hle1 hh => ?_); obtain ⟨cg, rfl, hrg⟩ := hh; have hT := A6g (.mk tk tks) (mGk tk) G1 _ _ (hr0.mono hle1) hrg; obtain ⟨pg, cgg, eg, rfl, _⟩ := hrg.open)
 refine A3 8 ?_
 refine O2 rfl rfl (hT) rfl rfl rfl ?_
 refine aP 9 rfl (N7 rfl rfl) rfl ?_
 refine aP 10 rfl (qA rfl) rfl ?_
 refine B6 ?_
 (exact ⟨rfl, by rw [decide_eq_true (by omega), Bool.true_and]⟩)
 refine aP 3 rfl (qM rfl) rfl ?_
 refine C3 4 rfl rfl rfl ?_
 refine C3 5 rfl rfl rfl ?_
 refine C3 6 rfl rfl rfl ?_
 refine C3 7 rfl rfl rfl ?_
 refine C3 8 rfl rfl rfl ?_
 refine aP 9 rfl (N4 rfl rfl) rfl ?_
 refine aP 10 rfl (qA rfl) rfl ?_
 refine B6 ?_
 (exact ⟨rfl, by rw [decide_eq_false (by omega), Bool.false_and]⟩)
theorem A3f (t : Tm) (G : IM) (cells : List Value) (hr : A8 G t cells) : Fn Tryz.prog 170 [.agg ⟨cells⟩] [] G (I5 (.bool (X6 t)) G) := by
 obtain ⟨k, nm, num, ⟨tk, tks⟩, ⟨fk, fks⟩, lb, ks⟩ := t
 obtain ⟨pt, ct, pf, cf, p, c, es, rfl, hk, hnum, hlb, hty, hfr, hsl, hkl⟩ := hr.open9
 have hd : X6 (.mk k nm num (.mk tk tks) (.mk fk fks) lb ks) = decide (k = 14 ∧ fk = tk ∧ (tk = 4 ∨ tk = 5)) := rfl
 rw [hd]
 refine C0 Tryz.func170 rfl Tryz.ntmps170 Tryz.results170 rfl ?_
 intro w0
 refine tS (tR ?_)
 refine sE (C5 rfl rfl) rfl (fun b3 => ?_)
 refine B4 ?_
 refine sB (qE rfl rfl) rfl rfl (fun h11 => ?_) (fun h11 => ?_)
 refine B4 ?_
 refine sB (qE rfl rfl) rfl rfl (fun h19 => ?_) (fun h19 => ?_)
 refine B0 ?_
 refine sB (qE rfl rfl) rfl rfl (fun h25 => ?_) (fun h25 => ?_)
 refine K8 ?_
 (exact ⟨rfl, by rw [decide_eq_true (by omega)], rfl⟩)
 refine B6 ?_
 refine sB (qE rfl rfl) rfl rfl (fun h43 => ?_) (fun h43 => ?_)
 refine B4 ?_
 (exact ⟨rfl, by rw [decide_eq_true (by omega)], rfl⟩)
 refine B4 ?_
 (exact ⟨rfl, by rw [decide_eq_false (by omega)], rfl⟩)
 refine U4 ?_
 (exact ⟨rfl, by rw [decide_eq_false (by omega)], rfl⟩)
 refine A4p ?_
 (exact ⟨rfl, by rw [decide_eq_false (by omega)], rfl⟩)
theorem A3W (t : Tm) (G : IM) (cells : List Value) (hr : A8 G t cells) : Fn Tryz.prog 171 [.agg ⟨cells⟩] [] G (I5 (.bool (inj t)) G) := by
 obtain ⟨k, nm, num, ⟨tk, tks⟩, ⟨fk, fks⟩, lb, ks⟩ := t
 obtain ⟨pt, ct, pf, cf, p, c, es, rfl, hk, hnum, hlb, hty, hfr, hsl, hkl⟩ := hr.open9
 have hd : inj (.mk k nm num (.mk tk tks) (.mk fk fks) lb ks) = (decide (k = 14 ∧ tk = 1) && W7 (.mk fk fks)) := rfl
 rw [hd]
 refine C0 Tryz.func171 rfl Tryz.ntmps171 Tryz.results171 rfl ?_
 intro w0
 refine tS (tR ?_)
 refine sE (C5 rfl rfl) rfl (fun b3 => ?_)
 refine B4 ?_
 refine sB (qE rfl rfl) rfl rfl (fun h11 => ?_) (fun h11 => ?_)
 refine B6 ?_
 refine sB (qE rfl rfl) rfl rfl (fun h16 => ?_) (fun h16 => ?_)
 refine B6 ?_
 refine H3 rfl ((A87 (.mk fk fks) G _ hfr)) rfl rfl ?_
 refine A7 ?_
 (exact ⟨rfl, by rw [decide_eq_true (by omega), Bool.true_and], rfl⟩)
 refine J2 ?_
 (exact ⟨rfl, by rw [decide_eq_false (by omega), Bool.false_and], rfl⟩)
 refine J9 ?_
 (exact ⟨rfl, by rw [decide_eq_false (by omega), Bool.false_and], rfl⟩)
theorem B3D (t : Tm) (G : IM) (cells : List Value) (hr : A8 G t cells) : Fn Tryz.prog 174 [.agg ⟨cells⟩] [] G (I5 (.bool (decide (t.k = 2 ∨ t.k = 3 ∨ t.k = 4 ∨ t.k = 5))) G) := by
 obtain ⟨k, nm, num, ⟨tk, tks⟩, ⟨fk, fks⟩, lb, ks⟩ := t
 obtain ⟨pt, ct, pf, cf, p, c, es, rfl, hk, hnum, hlb, hty, hfr, hsl, hkl⟩ := hr.open9
 rw [show (Tm.mk k nm num (.mk tk tks) (.mk fk fks) lb ks).k = k from rfl]
 refine C0 Tryz.func174 rfl Tryz.ntmps174 Tryz.results174 rfl ?_
 intro w0
 refine tS (tR ?_)
 refine sE (C5 rfl rfl) rfl (fun b3 => ?_)
 refine B4 ?_
 refine sB (qE rfl rfl) rfl rfl (fun h11 => ?_) (fun h11 => ?_)
 refine A0n ?_
 (exact ⟨rfl, by rw [decide_eq_true (by omega)], rfl⟩)
 refine E3 ?_
 refine sB (qE rfl rfl) rfl rfl (fun h36 => ?_) (fun h36 => ?_)
 refine J9 ?_
 (exact ⟨rfl, by rw [decide_eq_true (by omega)], rfl⟩)
 refine B6 ?_
 refine sB (qE rfl rfl) rfl rfl (fun h58 => ?_) (fun h58 => ?_)
 refine J2 ?_
 (exact ⟨rfl, by rw [decide_eq_true (by omega)], rfl⟩)
 refine B6 ?_
 refine sB (qE rfl rfl) rfl rfl (fun h75 => ?_) (fun h75 => ?_)
 refine A7 ?_
 (exact ⟨rfl, by rw [decide_eq_true (by omega)], rfl⟩)
 refine A7 ?_
 (exact ⟨rfl, by rw [decide_eq_false (by omega)], rfl⟩)
theorem B3E (G : IM) (p : Option Addr) (n c : Nat) (es : List (List Value)) (hsl : D1 G p n c 9 es) (fid : FuncId) [B5 Tryz.prog fid] (us cs : List Value) (ins : List A5) (q : Nat → Bool)
  (hq : ∀ i e, es[i]? = some e → Fn Tryz.prog fid (us ++ [.agg ⟨e⟩] ++ cs) ins G (U9 (.bool (q i)) ins G)) :
  Fn Tryz.prog 222 [.slice p n c, .func (.func fid) ⟨us⟩ ⟨cs⟩] ins G (U9 (.int .i64 (A0L q n)) ins G) := by
 have hn := hsl.le
 refine C0 Tryz.func222 rfl Tryz.ntmps222 Tryz.results222 rfl ?_
 intro w0
 refine K3 ?_
 refine B8 ?_
 refine I2 (fun i : Nat => ⟨[(8, .int .i64 i), (7, .int .i64 n), (1, .func (.func fid) ⟨us⟩ ⟨cs⟩), (0, .slice p n c)], ins, G⟩) (fun i => i ≤ n ∧ ∀ j, j < i → q j = false) (fun i => n - i) 0 ?_ ?_ ?_
 exact D3
 exact ⟨by omega, by omega⟩
 rintro i ⟨hi, hf⟩
 refine tS (tR ?_)
 refine sB (I0 rfl rfl) rfl rfl (fun h21 => ?_) (fun h21 => ?_)
 refine B4 ?_
 refine B8 ?_
 refine J2 ?_
 (obtain ⟨e, b, o, he, rfl, hl, _, hat, _⟩ := hsl.get (i := i) (by omega); refine sP (B3 rfl rfl rfl (by omega)) rfl rfl ?_)
 refine sL (A2 rfl rfl (hat _) hl) rfl rfl ?_
 refine A5G rfl rfl (hq i e he) A0l rfl rfl (fun h43 => ?_) (fun h43 => ?_)
 refine I6 ?_
 refine H7 (rT rfl) A0.refl ?_
 exact ⟨rfl, by rw [A7E (by omega) hf (by assumption)], rfl⟩
 refine B4 ?_
 refine sP (H2 rfl rfl (by omega) (by omega)) rfl rfl ?_
 refine D7 ?_
 refine H9 (i + 1) ?_ ?_ ?_
 exact D3
 exact ⟨by omega, fun j hj => by by_cases hji : j = i; (subst hji; assumption); exact hf j (by omega)⟩
 omega
 refine I6 ?_
 refine H7 (rT rfl) A0.refl ?_
 exact ⟨rfl, by rw [A5I (fun j hj => hf j (by omega))], rfl⟩
theorem B3F (G : IM) (p : Option Addr) (n c : Nat) (es : List (List Value)) (hsl : D1 G p n c 9 es) (fid : FuncId) [B5 Tryz.prog fid] (us cs : List Value) (ins : List A5) (q : Nat → Bool)
  (hq : ∀ i e, es[i]? = some e → Fn Tryz.prog fid (us ++ [.agg ⟨e⟩] ++ cs) ins G (U9 (.bool (q i)) ins G)) :
  Fn Tryz.prog 172 [.slice p n c, .func (.func fid) ⟨us⟩ ⟨cs⟩] ins G (U9 (.bool (decide (0 ≤ A0L q n))) ins G) := by
 refine C0 Tryz.func172 rfl Tryz.ntmps172 Tryz.results172 rfl ?_
 intro w0
 refine E4 ?_
 refine A2p rfl (B3E G p n c es hsl fid us cs ins q hq) A0l rfl rfl ?_
 refine sQ (A0J rfl rfl) rfl ?_
 refine B6 ?_
 refine H7 (rT rfl) A0.refl ?_
 exact ⟨rfl, rfl, rfl⟩
theorem B3G (G : IM) (p : Option Addr) (n c : Nat) (es : List (List Value)) (hsl : D1 G p n c 9 es) (fid : FuncId) [B5 Tryz.prog fid] (us cs : List Value) (ins : List A5) (f : Tm → Bool) (ks : List Tm)
  (hn : ks.length = n) {A : Bool} (hA : ks.all f = A) (hq : ∀ i e, es[i]? = some e → Fn Tryz.prog fid (us ++ [.agg ⟨e⟩] ++ cs) ins G (U9 (.bool (!f (ks.getD i K1))) ins G)) :
  Fn Tryz.prog 172 [.slice p n c, .func (.func fid) ⟨us⟩ ⟨cs⟩] ins G (U9 (.bool (!A)) ins G) := by
 subst hn hA
 rw [← A7H f ks K1]
 exact B3F G p _ c es hsl fid us cs ins _ hq
theorem A88 : ∀ ks, A4R ks = ks.all K6
 | [] => rfl
 | t :: ts => by rw [A4R, A88 ts, List.all_cons]
theorem B3H (t : Tm) (G : IM) (cells : List Value) (hl : cells.length = 9) (ho : cells.all (·.oneCell') = true) (h : Fn Tryz.prog 124 [.agg ⟨cells⟩] [] G (I5 (.bool (K6 t)) G)) :
  Fn Tryz.prog 173 [.agg ⟨cells⟩] [] G (U9 (.bool (!K6 t)) [] G) := by
 refine C0 Tryz.func173 rfl Tryz.ntmps173 Tryz.results173 rfl ?_
 intro w0
 refine tS (tR ?_)
 refine sE (C5 rfl rfl) rfl (fun b3 => ?_)
 refine B0 ?_
 refine sL (A2 rfl rfl (A9 (by repeat first | exact mH | apply mT)) hl) rfl rfl ?_
 refine H3 rfl (h) rfl rfl ?_
 refine sQ (A2P rfl) rfl ?_
 refine B0 ?_
 (exact ⟨rfl, rfl, rfl⟩)
theorem A2I (k : Int) (nm : ByteArray) (num : Int) (ty fr : Ty) (lb : Int) (ks : List Tm) : X6 (.mk k nm num ty fr lb ks) = decide (k = 14 ∧ fr.k = ty.k ∧ (ty.k = 4 ∨ ty.k = 5)) := rfl
theorem A89 (k : Int) (nm : ByteArray) (num : Int) (ty fr : Ty) (lb : Int) (ks : List Tm) : inj (.mk k nm num ty fr lb ks) = (decide (k = 14 ∧ ty.k = 1) && W7 fr) := rfl
theorem A41 {k : Int} {nm : ByteArray} {num : Int} {ty fr : Ty} {lb : Int} {ks : List Tm} (h : k = 10 ∨ X6 (.mk k nm num ty fr lb ks) = true ∨ inj (.mk k nm num ty fr lb ks) = true) : K6 (.mk k nm num ty fr lb ks) = ks.all K6 := by
 rw [K6, if_pos, A88]
 rw [A2I, A89] at h
 simp only [Bool.and_eq_true, decide_eq_true_eq] at h
 rcases h with h | h | h
 ·exact .inl h
 ·exact .inr (.inl h)
 ·exact .inr (.inr ⟨h.1.1, h.1.2, h.2⟩)
theorem A9a {k : Int} {nm : ByteArray} {num : Int} {ty fr : Ty} {lb : Int} {ks : List Tm} (h : ¬k = 10) (h2 : X6 (.mk k nm num ty fr lb ks) = false) (h3 : inj (.mk k nm num ty fr lb ks) = false) : K6 (.mk k nm num ty fr lb ks) = decide (k = 2 ∨ k = 3 ∨ k = 4 ∨ k = 5) := by
 rw [K6, if_neg]
 rw [A2I] at h2
 rw [A89] at h3
 simp only [Bool.and_eq_false_iff, decide_eq_false_iff_not] at h2 h3
 rintro (h' | h' | h')
 ·exact h h'
 ·exact h2 h'
 ·rcases h3 with h3 | h3
  ·exact h3 ⟨h'.1, h'.2.1⟩
  ·rw [h3] at h'; cases h'.2.2
theorem A9b : ∀ (t : Tm) (G : IM) (cells : List Value), A8 G t cells → Fn Tryz.prog 124 [.agg ⟨cells⟩] [] G (I5 (.bool (K6 t)) G) := by
 refine Tm.ind fun k nm num ty fr lb ks ih G cells hr => ?_
 have hr0 := hr
 have hP := A3f _ G _ hr
 have hI := A3W _ G _ hr
 have hPl := B3D _ G _ hr
 have hy := @A41 k nm num ty fr lb ks
 have hn := @A9a k nm num ty fr lb ks
 rw [show (Tm.mk k nm num ty fr lb ks).k = k from rfl] at hPl
 obtain ⟨A, hA⟩ : ∃ A, ks.all K6 = A := ⟨_, rfl⟩
 rw [hA] at hy
 generalize hpx : X6 (.mk k nm num ty fr lb ks) = bp at hP hy hn
 generalize hij : inj (.mk k nm num ty fr lb ks) = bi at hI hy hn
 generalize K6 (.mk k nm num ty fr lb ks) = R at hy hn ⊢
 obtain ⟨tk, tks⟩ := ty
 obtain ⟨fk, fks⟩ := fr
 obtain ⟨pt, ct, pf, cf, p, c, es, rfl, hk, hnum, hlb, hty, hfr, hsl, hkl⟩ := hr.open9
 have hC := B3G G p ks.length c es hsl 173 [] [] [] K6 ks rfl hA (fun i e he => by
  have hx := hkl.inv he K1
  exact B3H _ G e hx.2.len hx.2.one (ih _ hx.1 G e hx.2))
 refine C0 Tryz.func124 rfl Tryz.ntmps124 Tryz.results124 rfl ?_
 intro w0
 refine tS (tR ?_)
 refine sE (C5 rfl rfl) rfl (fun b3 => ?_)
 refine D6 ?_
 refine sB (qE rfl rfl) rfl rfl (fun h12 => ?_) (fun h12 => ?_)
 refine I6 ?_
 refine A2p rfl hC A0l rfl rfl ?_
 refine sQ (A2P rfl) rfl ?_
 refine A7 ?_
 (exact ⟨rfl, by rw [hy (by first | exact .inl (by omega) | exact .inr (.inl (by assumption)) | exact .inr (.inr (by assumption)))]; cases A <;> rfl, rfl⟩)
 refine D7 ?_
 refine H4 rfl (hP) rfl rfl (fun h39 => ?_) (fun h39 => ?_)
 refine K8 ?_
 refine A2p rfl hC A0l rfl rfl ?_
 refine sQ (A2P rfl) rfl ?_
 refine A7 ?_
 (exact ⟨rfl, by rw [hy (by first | exact .inl (by omega) | exact .inr (.inl (by assumption)) | exact .inr (.inr (by assumption)))]; cases A <;> rfl, rfl⟩)
 refine E3 ?_
 refine H4 rfl (hI) rfl rfl (fun h64 => ?_) (fun h64 => ?_)
 refine D6 ?_
 refine A2p rfl hC A0l rfl rfl ?_
 refine sQ (A2P rfl) rfl ?_
 refine A7 ?_
 (exact ⟨rfl, by rw [hy (by first | exact .inl (by omega) | exact .inr (.inl (by assumption)) | exact .inr (.inr (by assumption)))]; cases A <;> rfl, rfl⟩)
 refine E4 ?_
 refine H3 rfl (hPl) rfl rfl ?_
 refine B0 ?_
 (exact ⟨rfl, by rw [hn (by omega) (by assumption) (by assumption)], rfl⟩)
theorem A8.put {G : IM} {k : Int} {nm : ByteArray} {num tk fk lb : Int} {tks fks : List Ty} {us : List Tm} {pt pf p : Option Addr} {ct cf n c : Nat} {es : List (List Value)} (hk : F8 k) (hnum : F8 num) (hlb : F8 lb) (hty : C1 G (.mk tk tks) [.int .i64 tk, .slice pt tks.length ct]) (hfr : C1 G (.mk fk fks) [.int .i64 fk, .slice pf fks.length cf])
  (hn : n = us.length) (hs : D1 G p n c 9 es) (hr : C6 G us es) : A8 G (.mk k nm num (.mk tk tks) (.mk fk fks) lb us) [.int .i64 k, .string nm, .int .i64 num, .int .i64 tk, .slice pt tks.length ct, .int .i64 fk, .slice pf fks.length cf, .int .i64 lb, .slice p n c] := by
 subst hn
 simp only [A8]
 exact ⟨_, _, p, c, es, rfl, hk, hnum, hlb, hty, hfr, hs, hr⟩
theorem nine {uc : List Value} (h : uc.length = 9) : ∃ v1 v2 v3 v4 v5 v6 v7 v8 v9, uc = [v1, v2, v3, v4, v5, v6, v7, v8, v9] := by
 match uc, h with
 | [a, b, c, d, e, f, g, i, j], _ => exact ⟨a, b, c, d, e, f, g, i, j, rfl⟩
theorem A3g {x : ByteArray} {v : Tm} {ks : List Tm} {i : Nat} (h : i < ks.length) : (Z9 x v ks).take (i + 1) = (Z9 x v ks).take i ++ [A0D x v ks[i]] := by
 rw [A4S, List.take_succ_eq_append_getElem (by rw [List.length_map]; exact h), List.getElem_map]
theorem Y9 (x : ByteArray) (v : Tm) (ks : List Tm) : (Z9 x v ks).length = ks.length := by rw [A4S, List.length_map]
theorem B3I (y : ByteArray) (v : Tm) (vc : List Value) : ∀ (t : Tm) (G : IM) (cells : List Value), t.small → A8 G t cells → A8 G v vc → Fn Tryz.prog 223 [.agg ⟨cells⟩, .string y, .agg ⟨vc⟩] [] G (S3 (A0D y v t)) := by
 refine Tm.ind fun k nm num ty fr lb ks ih G cells hts hr hv => ?_
 have hr0 := hr
 obtain ⟨_, _, _, hsm, hks⟩ := A0t.1 hts
 have hvl := hv.len
 have hvo := hv.one
 have hRl := hr.len
 have hRo := hr.one
 rw [A0D]
 obtain ⟨tk, tks⟩ := ty
 obtain ⟨fk, fks⟩ := fr
 obtain ⟨pt, ct, pf, cf, p, c, es, rfl, hk, hnum, hlb, hty, hfr, hsl, hkl⟩ := hr.open9
 have hn := hsl.le
 refine C0 Tryz.func223 rfl Tryz.ntmps223 Tryz.results223 rfl ?_
 intro w0
 refine tS (tR ?_)
 refine sE (C5 rfl rfl) rfl (fun b3 => ?_)
 refine sE (C5 rfl rfl) rfl (fun b4 => ?_)
 refine sE (A6 rfl) rfl (fun b5 => ?_)
 refine sD (nS (tS ?_))
 refine B8 ?_
 refine B6 ?_
 refine sB (qE rfl rfl) rfl rfl (fun h14 => ?_) (fun h14 => ?_)
 refine B6 ?_
 refine sB (A1B rfl rfl) rfl rfl (fun h19 => ?_) (fun h19 => ?_)
 refine B4 ?_
 refine sL (A2 rfl rfl (A9 (by repeat first | exact mH | apply mT)) hvl) rfl rfl ?_
 refine sS rfl rfl rfl hvl hvo rfl ?_ (hu := by exact D5 hvl.symm)
 refine B0 ?_
 refine K7 (rC rfl (A2 rfl rfl (A9 (by repeat first | exact mH | apply mT)) hvl)) ?_
 (rw [if_pos (by refine ⟨by omega, by assumption⟩)]; exact S3.mk hv)
 refine E4 ?_
 refine sP (J3 rfl rfl (by omega)) rfl rfl ?_
 refine J9 ?_
 refine sE (A6 rfl) rfl (fun b62 => ?_)
 refine U4 ?_
 refine B8 ?_
 (refine Q7 28 9 ?_; refine I2 (fun (x : Nat × Option Addr × Nat × List (List Value) × IM) => ⟨[(37, .int .i64 x.1), (36, .int .i64 ks.length), (35, .slice p ks.length c), (1, .string y), (3, .pointer (some ⟨b3, 0, none⟩)), (5, .pointer (some ⟨b4, 0, none⟩)), (6, .pointer (some ⟨b5, 0, none⟩)), (7, .pointer (some ⟨b62, 0, none⟩))], [.blk b62 [.int .i64 k, .string nm, .int .i64 num, .int .i64 tk, .slice pt tks.length ct, .int .i64 fk, .slice pf fks.length cf, .int .i64 lb, .slice x.2.1 x.1 x.2.2.1], .slc x.2.1 x.2.2.1 28 9 x.1 x.2.2.2.1.flatten, .blk b5 [.int .i64 0, .string ⟨⟨[]⟩⟩, .int .i64 0, .int .i64 0, .slice none 0 0, .int .i64 0, .slice none 0 0, .int .i64 0, .slice none 0 0], .blk b4 vc, .blk b3 [.int .i64 k, .string nm, .int .i64 num, .int .i64 tk, .slice pt tks.length ct, .int .i64 fk, .slice pf fks.length cf, .int .i64 lb, .slice p ks.length c]], x.2.2.2.2⟩) (fun x => x.1 ≤ ks.length ∧ B9 G x.2.2.2.2 ∧ C6 x.2.2.2.2 ((Z9 y v ks).take x.1) x.2.2.2.1) (fun x => ks.length - x.1) (0, none, 0, [], G) ?_ ?_ ?_)
 (simp only [H6]; exact D3)
 (exact ⟨Nat.zero_le _, B9.refl _, by simp [C6]⟩)
 (rintro ⟨i, pn, cn, es', Gi⟩ ⟨hi, hle, hst⟩; simp only [] at hi hle hst ⊢; replace hsl := hsl.mono hle; replace hkl := hkl.mono hle; replace hv := hv.mono hle; replace hty := hty.mono hle; replace hfr := hfr.mono hle; have hsl' := hst.len; rw [List.length_take, Y9] at hsl')
 refine tS (tR ?_)
 refine sB (I0 rfl rfl) rfl rfl (fun h88 => ?_) (fun h88 => ?_)
 refine B4 ?_
 refine B8 ?_
 refine tS (tR ?_)
 (have hil : i < ks.length := (by omega); obtain ⟨bx, ox, e, rfl, hl, hat, hre, hgb⟩ := hsl.kidTm hkl (i := i) (by omega) (by omega); have hel := hre.len; have heo := hre.one; refine sP (B3 (j := i) rfl rfl rfl (by omega)) rfl rfl ?_)
 refine sL (A2 rfl rfl (hat _) hl) rfl rfl ?_
 refine sE (A6 rfl) rfl (fun b101 => ?_)
 refine sS rfl rfl rfl hel heo rfl ?_ (hu := by exact D5 hel.symm)
 refine sD (nS ?_)
 refine E0 E1 rfl ?_
 refine L7 (i := 2) (l' := [ff,ff,tt,ff,ff,ff,ff,ff,ff,ff]) rfl D2 (A2 rfl rfl (A9 (by repeat first | exact mH | apply mT)) hel) rfl (by kernel_rfl) rfl rfl ?_
 refine aL 4 rfl (A2 rfl rfl (A9 (by repeat first | exact mH | apply mT)) hvl) rfl ?_
 refine aP 0 rfl (B7 rfl) rfl ?_
 refine aL 1 rfl (C7 rfl rfl) rfl ?_
 refine aP 3 rfl (qM rfl) rfl ?_
 refine A3 5 ?_
 (refine H1 rfl rfl (ih ks[i] (List.getElem_mem (by omega)) Gi _ (Tm.smallL_mem hks _ (List.getElem_mem (by omega))) hre hv) rfl rfl rfl (fun u G1 hle1 hh => ?_); obtain ⟨uc, rfl, hru⟩ := hh; have hul := hru.len; have huo := hru.one; obtain ⟨v1, v2, v3, v4, v5, v6, v7, v8, v9, rfl⟩ := nine hul)
 refine A3 6 ?_
 (refine E6 rfl (C9 rfl rfl rfl (by omega) (by unfold maxLen; omega) rfl) rfl rfl ?_; rintro _ ⟨b114, rfl⟩)
 refine A3 7 ?_
 (refine R4 rfl rfl rfl rfl rfl rfl (fun _ _ => by repeat (first | exact Sw.here | apply Sw.there)) (M6 (by repeat first | exact mH | apply mT)) rfl (fun u hu => List.all_eq_true.1 huo u hu) (by unfold maxLen; omega) (by omega) rfl rfl (by repeat (first | exact B1.nil | apply B1.dep (by decide +kernel) | apply B1.im (by decide +kernel) (by assumption) (by repeat first | exact mH | apply mT) | apply B1.blk (by decide +kernel) (by repeat (first | exact Pk.here | apply Pk.there)) (by repeat first | exact mH | apply mT))) (fun p7 c7 => ?_))
 refine aP 8 rfl (B7 rfl) rfl ?_
 refine A3 9 ?_
 refine R7 rfl rfl rfl rfl rfl rfl rfl rfl (by decide +kernel) (by repeat first | exact Sw.here | apply Sw.there) (by rfl) ?_
 refine B6 ?_
 refine sP (H2 rfl rfl (by omega) (by omega)) rfl rfl ?_
 refine D7 ?_
 refine H9 (i + 1, p7, c7, es' ++ [[v1, v2, v3, v4, v5, v6, v7, v8, v9]], G1) ?_ ?_ ?_
 (simp only [H6]; exact D3)
 (dsimp only; exact ⟨by omega, hle.trans hle1, by rw [A3g (by omega)]; exact C6.snoc (hst.mono hle1) hru⟩)
 (show ks.length - (i + 1) < ks.length - i; omega)
 refine I6 ?_
 (refine E9 (cs := es'.flatten) (by repeat (first | exact Pk.here | apply Pk.there)) (fun G2 hle2 hsl2 hno2 => ?_); obtain rfl : i = ks.length := (by omega))
 refine tT ?_
 refine K7 (rC rfl (A4 rfl rfl)) ?_
 (rw [if_neg (by rintro ⟨h1, h2⟩; first | omega | contradiction), if_neg (by rintro ⟨h1, h2⟩; first | omega | contradiction)]; rw [List.take_of_length_le (by rw [Y9]; omega)] at hst; exact S3.mk (A8.put hk hnum hlb (hty.mono hle2) (hfr.mono hle2) (by rw [Y9]) (D1.of hsl2 (by omega) hst.all (fun e he => (hst.each e he).2)) (hst.mono hle2)))
 refine K5 ?_
 refine sB (qE rfl rfl) rfl rfl (fun h164 => ?_) (fun h164 => ?_)
 refine B6 ?_
 refine sB (A1B rfl rfl) rfl rfl (fun h169 => ?_) (fun h169 => ?_)
 refine K5 ?_
 refine K7 (rC rfl (A4 rfl rfl)) ?_
 (rw [if_neg (by rintro ⟨h1, h2⟩; first | omega | contradiction), if_pos (by refine ⟨by omega, by assumption⟩)]; exact S3.mk hr0)
 refine J2 ?_
 refine sE (A6 rfl) rfl (fun b197 => ?_)
 refine U4 ?_
 refine B8 ?_
 (refine Q7 28 9 ?_; refine I2 (fun (x : Nat × Option Addr × Nat × List (List Value) × IM) => ⟨[(37, .int .i64 x.1), (36, .int .i64 ks.length), (35, .slice p ks.length c), (1, .string y), (3, .pointer (some ⟨b3, 0, none⟩)), (5, .pointer (some ⟨b4, 0, none⟩)), (6, .pointer (some ⟨b5, 0, none⟩)), (7, .pointer (some ⟨b197, 0, none⟩))], [.blk b197 [.int .i64 k, .string nm, .int .i64 num, .int .i64 tk, .slice pt tks.length ct, .int .i64 fk, .slice pf fks.length cf, .int .i64 lb, .slice x.2.1 x.1 x.2.2.1], .slc x.2.1 x.2.2.1 28 9 x.1 x.2.2.2.1.flatten, .blk b5 [.int .i64 0, .string ⟨⟨[]⟩⟩, .int .i64 0, .int .i64 0, .slice none 0 0, .int .i64 0, .slice none 0 0, .int .i64 0, .slice none 0 0], .blk b4 vc, .blk b3 [.int .i64 k, .string nm, .int .i64 num, .int .i64 tk, .slice pt tks.length ct, .int .i64 fk, .slice pf fks.length cf, .int .i64 lb, .slice p ks.length c]], x.2.2.2.2⟩) (fun x => x.1 ≤ ks.length ∧ B9 G x.2.2.2.2 ∧ C6 x.2.2.2.2 ((Z9 y v ks).take x.1) x.2.2.2.1) (fun x => ks.length - x.1) (0, none, 0, [], G) ?_ ?_ ?_)
 (simp only [H6]; exact D3)
 (exact ⟨Nat.zero_le _, B9.refl _, by simp [C6]⟩)
 (rintro ⟨i, pn, cn, es', Gi⟩ ⟨hi, hle, hst⟩; simp only [] at hi hle hst ⊢; replace hsl := hsl.mono hle; replace hkl := hkl.mono hle; replace hv := hv.mono hle; replace hty := hty.mono hle; replace hfr := hfr.mono hle; have hsl' := hst.len; rw [List.length_take, Y9] at hsl')
 refine tS (tR ?_)
 refine sB (I0 rfl rfl) rfl rfl (fun h223 => ?_) (fun h223 => ?_)
 refine B4 ?_
 refine B8 ?_
 refine tS (tR ?_)
 (have hil : i < ks.length := (by omega); obtain ⟨bx, ox, e, rfl, hl, hat, hre, hgb⟩ := hsl.kidTm hkl (i := i) (by omega) (by omega); have hel := hre.len; have heo := hre.one; refine sP (B3 (j := i) rfl rfl rfl (by omega)) rfl rfl ?_)
 refine sL (A2 rfl rfl (hat _) hl) rfl rfl ?_
 refine sE (A6 rfl) rfl (fun b236 => ?_)
 refine sS rfl rfl rfl hel heo rfl ?_ (hu := by exact D5 hel.symm)
 refine sD (nS ?_)
 refine E0 E1 rfl ?_
 refine L7 (i := 2) (l' := [ff,ff,tt,ff,ff,ff,ff,ff,ff,ff]) rfl D2 (A2 rfl rfl (A9 (by repeat first | exact mH | apply mT)) hel) rfl (by kernel_rfl) rfl rfl ?_
 refine aL 4 rfl (A2 rfl rfl (A9 (by repeat first | exact mH | apply mT)) hvl) rfl ?_
 refine aP 0 rfl (B7 rfl) rfl ?_
 refine aL 1 rfl (C7 rfl rfl) rfl ?_
 refine aP 3 rfl (qM rfl) rfl ?_
 refine A3 5 ?_
 (refine H1 rfl rfl (ih ks[i] (List.getElem_mem (by omega)) Gi _ (Tm.smallL_mem hks _ (List.getElem_mem (by omega))) hre hv) rfl rfl rfl (fun u G1 hle1 hh => ?_); obtain ⟨uc, rfl, hru⟩ := hh; have hul := hru.len; have huo := hru.one; obtain ⟨v1, v2, v3, v4, v5, v6, v7, v8, v9, rfl⟩ := nine hul)
 refine A3 6 ?_
 (refine E6 rfl (C9 rfl rfl rfl (by omega) (by unfold maxLen; omega) rfl) rfl rfl ?_; rintro _ ⟨b249, rfl⟩)
 refine A3 7 ?_
 (refine R4 rfl rfl rfl rfl rfl rfl (fun _ _ => by repeat (first | exact Sw.here | apply Sw.there)) (M6 (by repeat first | exact mH | apply mT)) rfl (fun u hu => List.all_eq_true.1 huo u hu) (by unfold maxLen; omega) (by omega) rfl rfl (by repeat (first | exact B1.nil | apply B1.dep (by decide +kernel) | apply B1.im (by decide +kernel) (by assumption) (by repeat first | exact mH | apply mT) | apply B1.blk (by decide +kernel) (by repeat (first | exact Pk.here | apply Pk.there)) (by repeat first | exact mH | apply mT))) (fun p7 c7 => ?_))
 refine aP 8 rfl (B7 rfl) rfl ?_
 refine A3 9 ?_
 refine R7 rfl rfl rfl rfl rfl rfl rfl rfl (by decide +kernel) (by repeat first | exact Sw.here | apply Sw.there) (by rfl) ?_
 refine B6 ?_
 refine sP (H2 rfl rfl (by omega) (by omega)) rfl rfl ?_
 refine D7 ?_
 refine H9 (i + 1, p7, c7, es' ++ [[v1, v2, v3, v4, v5, v6, v7, v8, v9]], G1) ?_ ?_ ?_
 (simp only [H6]; exact D3)
 (dsimp only; exact ⟨by omega, hle.trans hle1, by rw [A3g (by omega)]; exact C6.snoc (hst.mono hle1) hru⟩)
 (show ks.length - (i + 1) < ks.length - i; omega)
 refine I6 ?_
 (refine E9 (cs := es'.flatten) (by repeat (first | exact Pk.here | apply Pk.there)) (fun G2 hle2 hsl2 hno2 => ?_); obtain rfl : i = ks.length := (by omega))
 refine tT ?_
 refine K7 (rC rfl (A4 rfl rfl)) ?_
 (rw [if_neg (by rintro ⟨h1, h2⟩; first | omega | contradiction), if_neg (by rintro ⟨h1, h2⟩; first | omega | contradiction)]; rw [List.take_of_length_le (by rw [Y9]; omega)] at hst; exact S3.mk (A8.put hk hnum hlb (hty.mono hle2) (hfr.mono hle2) (by rw [Y9]) (D1.of hsl2 (by omega) hst.all (fun e he => (hst.each e he).2)) (hst.mono hle2)))
 refine J9 ?_
 refine sE (A6 rfl) rfl (fun b301 => ?_)
 refine U4 ?_
 refine B8 ?_
 (refine Q7 28 9 ?_; refine I2 (fun (x : Nat × Option Addr × Nat × List (List Value) × IM) => ⟨[(37, .int .i64 x.1), (36, .int .i64 ks.length), (35, .slice p ks.length c), (1, .string y), (3, .pointer (some ⟨b3, 0, none⟩)), (5, .pointer (some ⟨b4, 0, none⟩)), (6, .pointer (some ⟨b5, 0, none⟩)), (7, .pointer (some ⟨b301, 0, none⟩))], [.blk b301 [.int .i64 k, .string nm, .int .i64 num, .int .i64 tk, .slice pt tks.length ct, .int .i64 fk, .slice pf fks.length cf, .int .i64 lb, .slice x.2.1 x.1 x.2.2.1], .slc x.2.1 x.2.2.1 28 9 x.1 x.2.2.2.1.flatten, .blk b5 [.int .i64 0, .string ⟨⟨[]⟩⟩, .int .i64 0, .int .i64 0, .slice none 0 0, .int .i64 0, .slice none 0 0, .int .i64 0, .slice none 0 0], .blk b4 vc, .blk b3 [.int .i64 k, .string nm, .int .i64 num, .int .i64 tk, .slice pt tks.length ct, .int .i64 fk, .slice pf fks.length cf, .int .i64 lb, .slice p ks.length c]], x.2.2.2.2⟩) (fun x => x.1 ≤ ks.length ∧ B9 G x.2.2.2.2 ∧ C6 x.2.2.2.2 ((Z9 y v ks).take x.1) x.2.2.2.1) (fun x => ks.length - x.1) (0, none, 0, [], G) ?_ ?_ ?_)
 (simp only [H6]; exact D3)
 (exact ⟨Nat.zero_le _, B9.refl _, by simp [C6]⟩)
 (rintro ⟨i, pn, cn, es', Gi⟩ ⟨hi, hle, hst⟩; simp only [] at hi hle hst ⊢; replace hsl := hsl.mono hle; replace hkl := hkl.mono hle; replace hv := hv.mono hle; replace hty := hty.mono hle; replace hfr := hfr.mono hle; have hsl' := hst.len; rw [List.length_take, Y9] at hsl')
 refine tS (tR ?_)
 refine sB (I0 rfl rfl) rfl rfl (fun h327 => ?_) (fun h327 => ?_)
 refine B4 ?_
 refine B8 ?_
 refine tS (tR ?_)
 (have hil : i < ks.length := (by omega); obtain ⟨bx, ox, e, rfl, hl, hat, hre, hgb⟩ := hsl.kidTm hkl (i := i) (by omega) (by omega); have hel := hre.len; have heo := hre.one; refine sP (B3 (j := i) rfl rfl rfl (by omega)) rfl rfl ?_)
 refine sL (A2 rfl rfl (hat _) hl) rfl rfl ?_
 refine sE (A6 rfl) rfl (fun b340 => ?_)
 refine sS rfl rfl rfl hel heo rfl ?_ (hu := by exact D5 hel.symm)
 refine sD (nS ?_)
 refine E0 E1 rfl ?_
 refine L7 (i := 2) (l' := [ff,ff,tt,ff,ff,ff,ff,ff,ff,ff]) rfl D2 (A2 rfl rfl (A9 (by repeat first | exact mH | apply mT)) hel) rfl (by kernel_rfl) rfl rfl ?_
 refine aL 4 rfl (A2 rfl rfl (A9 (by repeat first | exact mH | apply mT)) hvl) rfl ?_
 refine aP 0 rfl (B7 rfl) rfl ?_
 refine aL 1 rfl (C7 rfl rfl) rfl ?_
 refine aP 3 rfl (qM rfl) rfl ?_
 refine A3 5 ?_
 (refine H1 rfl rfl (ih ks[i] (List.getElem_mem (by omega)) Gi _ (Tm.smallL_mem hks _ (List.getElem_mem (by omega))) hre hv) rfl rfl rfl (fun u G1 hle1 hh => ?_); obtain ⟨uc, rfl, hru⟩ := hh; have hul := hru.len; have huo := hru.one; obtain ⟨v1, v2, v3, v4, v5, v6, v7, v8, v9, rfl⟩ := nine hul)
 refine A3 6 ?_
 (refine E6 rfl (C9 rfl rfl rfl (by omega) (by unfold maxLen; omega) rfl) rfl rfl ?_; rintro _ ⟨b353, rfl⟩)
 refine A3 7 ?_
 (refine R4 rfl rfl rfl rfl rfl rfl (fun _ _ => by repeat (first | exact Sw.here | apply Sw.there)) (M6 (by repeat first | exact mH | apply mT)) rfl (fun u hu => List.all_eq_true.1 huo u hu) (by unfold maxLen; omega) (by omega) rfl rfl (by repeat (first | exact B1.nil | apply B1.dep (by decide +kernel) | apply B1.im (by decide +kernel) (by assumption) (by repeat first | exact mH | apply mT) | apply B1.blk (by decide +kernel) (by repeat (first | exact Pk.here | apply Pk.there)) (by repeat first | exact mH | apply mT))) (fun p7 c7 => ?_))
 refine aP 8 rfl (B7 rfl) rfl ?_
 refine A3 9 ?_
 refine R7 rfl rfl rfl rfl rfl rfl rfl rfl (by decide +kernel) (by repeat first | exact Sw.here | apply Sw.there) (by rfl) ?_
 refine B6 ?_
 refine sP (H2 rfl rfl (by omega) (by omega)) rfl rfl ?_
 refine D7 ?_
 refine H9 (i + 1, p7, c7, es' ++ [[v1, v2, v3, v4, v5, v6, v7, v8, v9]], G1) ?_ ?_ ?_
 (simp only [H6]; exact D3)
 (dsimp only; exact ⟨by omega, hle.trans hle1, by rw [A3g (by omega)]; exact C6.snoc (hst.mono hle1) hru⟩)
 (show ks.length - (i + 1) < ks.length - i; omega)
 refine I6 ?_
 (refine E9 (cs := es'.flatten) (by repeat (first | exact Pk.here | apply Pk.there)) (fun G2 hle2 hsl2 hno2 => ?_); obtain rfl : i = ks.length := (by omega))
 refine tT ?_
 refine K7 (rC rfl (A4 rfl rfl)) ?_
 (rw [if_neg (by rintro ⟨h1, h2⟩; first | omega | contradiction), if_neg (by rintro ⟨h1, h2⟩; first | omega | contradiction)]; rw [List.take_of_length_le (by rw [Y9]; omega)] at hst; exact S3.mk (A8.put hk hnum hlb (hty.mono hle2) (hfr.mono hle2) (by rw [Y9]) (D1.of hsl2 (by omega) hst.all (fun e he => (hst.each e he).2)) (hst.mono hle2)))
theorem A1s (e : Tm) (a b : Ty) (l : Int) (G : IM) (ce ca cb : List Value) (hl : F8 l) (he : A8 G e ce) (ha : C1 G a ca) (hb : C1 G b cb) : Fn Tryz.prog 230 [.agg ⟨ce⟩, .agg ⟨ca⟩, .agg ⟨cb⟩, .int .i64 l] [] G (S3 (L3 e a b l)) := by
 have hel := he.len
 have heo := he.one
 obtain ⟨v1, v2, v3, v4, v5, v6, v7, v8, v9, rfl⟩ := nine hel
 obtain ⟨ak, aks⟩ := a
 obtain ⟨bk, bks⟩ := b
 obtain ⟨pa, cca, ea, rfl, _⟩ := ha.open
 obtain ⟨pb, ccb, eb, rfl, _⟩ := hb.open
 refine C0 Tryz.func230 rfl Tryz.ntmps230 Tryz.results230 rfl ?_
 intro w0
 refine tS (tR ?_)
 refine sE (C5 rfl rfl) rfl (fun b3 => ?_)
 refine sE (C5 rfl rfl) rfl (fun b4 => ?_)
 refine sE (C5 rfl rfl) rfl (fun b5 => ?_)
 refine sE (A6 rfl) rfl (fun b6 => ?_)
 refine sD (nS (tS (tR ?_)))
 refine sL (A2 rfl rfl (A9 (by repeat first | exact mH | apply mT)) rfl) rfl rfl ?_
 refine sL (A2 rfl rfl (A9 (by repeat first | exact mH | apply mT)) rfl) rfl rfl ?_
 refine sQ (qM rfl) rfl ?_
 refine sL (A2 rfl rfl (A9 (by repeat first | exact mH | apply mT)) rfl) rfl rfl ?_
 (refine I1 (C9 rfl rfl rfl (by omega) (by unfold maxLen; omega) rfl) rfl ?_; rintro _ ⟨b15, rfl⟩)
 refine B6 ?_
 (refine E9 (cs := [v1, v2, v3, v4, v5, v6, v7, v8, v9]) (by repeat (first | exact Pk.here | apply Pk.there)) (fun G2 hle2 hsl2 hno2 => ?_))
 refine tT ?_
 refine K7 (rC rfl (A4 rfl rfl)) ?_
 (exact S3.mk (A8.put (us := [e]) (es := [[v1, v2, v3, v4, v5, v6, v7, v8, v9]]) ⟨by decide, by decide⟩ ⟨by decide, by decide⟩ hl (hb.mono hle2) (ha.mono hle2) rfl (D1.of hsl2 rfl (by intro x hx; obtain rfl := List.mem_singleton.1 hx; rfl) (by intro x hx; obtain rfl := List.mem_singleton.1 hx; exact heo)) (by simp only [C6]; exact ⟨_, _, rfl, he.mono hle2, rfl⟩)))
theorem A3h (k : Int) (p : Option Addr) (n c : Nat) (G : IM) : Fn Tryz.prog 231 [.int .i64 k, .slice p n c] [] G (I5 (.agg ⟨[.int .i64 k, .string ⟨⟨[]⟩⟩, .int .i64 0, .int .i64 0, .slice none 0 0, .int .i64 0, .slice none 0 0, .int .i64 0, .slice p n c]⟩) G) := by
 refine C0 Tryz.func231 rfl Tryz.ntmps231 Tryz.results231 rfl ?_
 intro w0
 refine tS (tR ?_)
 refine sE (A6 rfl) rfl (fun b3 => ?_)
 refine J2 ?_
 refine K7 (rC rfl (A4 rfl rfl)) ?_
 (exact ⟨rfl, rfl, rfl⟩)
theorem A42 (G : IM) {k : Int} (hk : F8 k) : A8 G (A0r k []) [.int .i64 k, .string ⟨⟨[]⟩⟩, .int .i64 0, .int .i64 0, .slice none 0 0, .int .i64 0, .slice none 0 0, .int .i64 0, .slice none 0 0] := A0T hk rfl (D1.nil _ _) rfl
theorem B3J (G : IM) : Fn Tryz.prog 224 [.bool true] [] G (S3 (A0s (true = true))) := by
 refine C0 Tryz.func224 rfl Tryz.ntmps224 Tryz.results224 rfl ?_
 intro w0
 refine tS (tR ?_)
 refine sE (A6 rfl) rfl (fun b3 => ?_)
 refine J2 ?_
 refine H3 rfl ((A3h _ _ _ _ _)) rfl rfl ?_
 refine B0 ?_
 refine K7 (rC rfl (A4 rfl rfl)) ?_
 (exact S3.mk (A42 _ ⟨by decide, by decide⟩))
theorem B3K (G : IM) : Fn Tryz.prog 224 [.bool false] [] G (S3 (A0s (false = true))) := by
 refine C0 Tryz.func224 rfl Tryz.ntmps224 Tryz.results224 rfl ?_
 intro w0
 refine tS (tR ?_)
 refine sE (A6 rfl) rfl (fun b3 => ?_)
 refine K3 ?_
 refine H3 rfl ((A3h _ _ _ _ _)) rfl rfl ?_
 refine B6 ?_
 refine K7 (rC rfl (A4 rfl rfl)) ?_
 (exact S3.mk (A42 _ ⟨by decide, by decide⟩))
theorem A9c (b : Bool) (G : IM) : Fn Tryz.prog 224 [.bool b] [] G (S3 (A0s (b = true))) := by
 cases b
 ·exact B3K G
 ·exact B3J G
theorem A9d {a b : Int} (h : 0 ≤ a ∧ a ≤ 999) (h' : 0 ≤ b ∧ b ≤ 999) : (a + b).tmod 1000 = (a + b) % 1000 := by
 rw [Int.tmod_eq_emod_of_nonneg (by omega)]
def X8 (k : Int) (ks : List Tm) : Option Tm :=
 if k = 6 then (if (kd ks 0).k = 5 then some (A0D (kd ks 0).nm (kd ks 1) (kd (kd ks 0).ks 0)) else none)
 else if k = 7 ∨ k = 8 then (if (kd ks 0).k = 2 ∧ (kd ks 1).k = 2 then some (if k = 7 then A2y (((kd ks 0).num + (kd ks 1).num) % 1000) else A0s ((kd ks 0).num < (kd ks 1).num)) else none)
 else if k = 9 then (if (kd ks 0).k = 3 then some (kd ks 1) else if (kd ks 0).k = 4 then some (kd ks 2) else none)
 else if k = 11 ∨ k = 12 then (if (kd ks 0).k = 10 then some (kd (kd ks 0).ks (k - 11).toNat) else none)
 else none
def S4 (o : Option Tm) : IM → Value → List A5 → Prop := J4 fun G' v => ∃ u cells c, v = .tuple ⟨[.agg ⟨cells⟩, .int .i64 c]⟩ ∧ A8 G' u cells ∧ (∀ x, o = some x → c = 1 ∧ u = x) ∧ (o = none → c = 3)
theorem S4.yes {G : IM} {o : Option Tm} {u : Tm} {cells : List Value} (h : o = some u) (hr : A8 G u cells) : S4 o G (.tuple ⟨[.agg ⟨cells⟩, .int .i64 1]⟩) [] := by
 subst h; exact ⟨rfl, u, cells, 1, rfl, hr, fun x hx => (by cases hx; exact ⟨rfl, rfl⟩), fun h => (by cases h)⟩
theorem S4.no {G : IM} {o : Option Tm} {u : Tm} {cells : List Value} (h : o = none) (hr : A8 G u cells) : S4 o G (.tuple ⟨[.agg ⟨cells⟩, .int .i64 3]⟩) [] := by
 subst h; exact ⟨rfl, u, cells, 3, rfl, hr, fun x hx => (by cases hx), fun _ => rfl⟩
theorem M8 (G : IM) : A8 G K1 [.int .i64 0, .string ⟨⟨[]⟩⟩, .int .i64 0, .int .i64 0, .slice none 0 0, .int .i64 0, .slice none 0 0, .int .i64 0, .slice none 0 0] := (Q1.zero G).R
theorem B3L (a b : Tm) (nm : ByteArray) (num : Int) (ty fr : Ty) (lb : Int) (G : IM) (cells : List Value) (hca : cv a) (hr : A8 G (.mk 6 nm num ty fr lb [a, b]) cells) : Fn Tryz.prog 177 [.agg ⟨cells⟩] [] G (S4 (X8 6 [a, b])) := by
 have hsm := A2z a hca
 obtain ⟨ak, anm, anum, ⟨atk, atks⟩, ⟨afk, afks⟩, alb, aks⟩ := a
 obtain ⟨tk, tks⟩ := ty
 obtain ⟨fk, fks⟩ := fr
 obtain ⟨pt, ct, pf, cf, p, c, es, rfl, hk, hnum, hlb, hty, hfr, hsl, hkl⟩ := hr.open9
 obtain ⟨bx, ox, e0, rfl, hl0, hat0, hre0, hgb0⟩ := hsl.kidTm hkl (i := 0) (by simp) (by simp)
 replace hre0 : A8 G (.mk ak anm anum (.mk atk atks) (.mk afk afks) alb aks) e0 := hre0
 obtain ⟨apt, act, apf, acf, ap, ac, aes, rfl, hak, hanum, halb, haty, hafr, hasl, hakl⟩ := hre0.open9
 obtain ⟨_, _, e1, hp1, hl1, hat1, hre1, hgb1⟩ := hsl.kidTm hkl (i := 1) (by simp) (by simp)
 cases hp1
 replace hre1 : A8 G b e1 := hre1
 have ho1 := hre1.one
 obtain ⟨hN, _⟩ := hca.node
 have hops := hN.ops
 obtain ⟨_, _, _, _, hksm⟩ := A0t.1 hsm
 have h1 : ak = 5 → aks.length = 1 := fun h => by rw [h] at hops; have : E2 5 = 1 := rfl; omega
 have hL : ([Tm.mk ak anm anum (.mk atk atks) (.mk afk afks) alb aks, b] : List Tm).length = 2 := rfl
 rw [show X8 6 [Tm.mk ak anm anum (.mk atk atks) (.mk afk afks) alb aks, b] = (if ak = 5 then some (A0D anm b (kd aks 0)) else none) from rfl]
 refine C0 Tryz.func177 rfl Tryz.ntmps177 Tryz.results177 rfl ?_
 intro w0
 refine tS (tR ?_)
 refine sE (C5 rfl rfl) rfl (fun b3 => ?_)
 refine sE (A6 rfl) rfl (fun b4 => ?_)
 refine A7 ?_
 refine sE (A6 rfl) rfl (fun b11 => ?_)
 refine E4 ?_
 refine sP (A3w rfl rfl (by omega)) rfl rfl ?_
 refine A7 ?_
 refine sP (B3 (j := 0) rfl rfl rfl (by simp)) rfl rfl ?_
 refine sL (A2 rfl rfl (hat0 _) rfl) rfl rfl ?_
 refine J5 ?_
 refine B8 ?_
 refine tS (tR ?_)
 refine sP (Z5 rfl rfl (by omega)) rfl rfl ?_
 refine D6 ?_
 refine sB (qE rfl rfl) rfl rfl (fun h52 => ?_) (fun h52 => ?_)
 refine B6 ?_
 (have hq : ak = 5 := (by omega); have hq1 := h1 hq; obtain ⟨bq, oq, e3, rfl, hl3, hat3, hre3, hgb3⟩ := hasl.kidTm hakl (i := 0) (by omega) (by omega); have hS := B3I anm b e1 aks[0] G e3 (Tm.smallL_mem hksm _ (List.getElem_mem (by omega))) hre3 hre1; refine E0 E1 rfl ?_)
 refine I8 (i := 0) (l' := [tt,ff,ff,ff,ff,ff,ff,ff,ff,ff,ff,ff,ff]) rfl D2 (B7 rfl) rfl (by kernel_rfl) rfl rfl ?_
 refine aL 1 rfl (C7 rfl rfl) rfl ?_
 refine aP 2 rfl (B3 (j := 0) rfl rfl rfl (by omega)) rfl ?_
 refine aL 3 rfl (A2 rfl rfl (hat3 _) hl3) rfl ?_
 refine aP 4 rfl (B7 rfl) rfl ?_
 refine aL 5 rfl (C7 rfl rfl) rfl ?_
 refine aP 6 rfl (B7 rfl) rfl ?_
 refine aL 7 rfl (C7 rfl rfl) rfl ?_
 refine aP 8 rfl (B3 (j := 1) rfl rfl rfl (by simp)) rfl ?_
 refine aL 9 rfl (A2 rfl rfl (hat1 _) hl1) rfl ?_
 refine A3 10 ?_
 (refine H1 rfl rfl hS rfl rfl rfl (fun u G1 hle1 hh => ?_); obtain ⟨uc, rfl, hru⟩ := hh; have hul := hru.len; have huo := hru.one)
 refine A3 11 ?_
 (refine oS rfl rfl rfl rfl hul huo rfl rfl ?_ (hu := by exact D5 hul.symm))
 refine aP 12 rfl (qA rfl) rfl ?_
 refine B0 ?_
 refine F0 (rC rfl (A2 rfl rfl (A9 (by repeat first | exact mH | apply mT)) hul)) (rT rfl) ?_
 (exact S4.yes (by rw [if_pos (by omega)]; unfold kd; rw [List.getD_eq_getElem?_getD, List.getElem?_eq_getElem (by omega), Option.getD_some]) hru)
 refine K5 ?_
 refine F0 (rC rfl (A4 rfl rfl)) (rT rfl) ?_
 (exact S4.no (by rw [if_neg (by omega)]) (M8 _))
theorem A9e (k : Int) (a b : Tm) (nm : ByteArray) (num : Int) (ty fr : Ty) (lb : Int) (G : IM) (cells : List Value) (hk78 : k = 7 ∨ k = 8) (hca : cv a) (hcb : cv b) (hr : A8 G (.mk k nm num ty fr lb [a, b]) cells) : Fn Tryz.prog 177 [.agg ⟨cells⟩] [] G (S4 (X8 k [a, b])) := by
 obtain ⟨ak, anm, anum, ⟨atk, atks⟩, ⟨afk, afks⟩, alb, aks⟩ := a
 obtain ⟨tk, tks⟩ := ty
 obtain ⟨fk, fks⟩ := fr
 obtain ⟨pt, ct, pf, cf, p, c, es, rfl, hk, hnum, hlb, hty, hfr, hsl, hkl⟩ := hr.open9
 obtain ⟨bx, ox, e0, rfl, hl0, hat0, hre0, hgb0⟩ := hsl.kidTm hkl (i := 0) (by simp) (by simp)
 replace hre0 : A8 G (.mk ak anm anum (.mk atk atks) (.mk afk afks) alb aks) e0 := hre0
 obtain ⟨apt, act, apf, acf, ap, ac, aes, rfl, hak, hanum, halb, haty, hafr, hasl, hakl⟩ := hre0.open9
 obtain ⟨bk, bnm, bnum, ⟨btk, btks⟩, ⟨bfk, bfks⟩, blb, bks⟩ := b
 obtain ⟨_, _, e1, hp1, hl1, hat1, hre1, hgb1⟩ := hsl.kidTm hkl (i := 1) (by simp) (by simp)
 cases hp1
 replace hre1 : A8 G (.mk bk bnm bnum (.mk btk btks) (.mk bfk bfks) blb bks) e1 := hre1
 obtain ⟨bpt, bct, bpf, bcf, bp, bc, bes, rfl, hbk, hbnum, hblb, hbty, hbfr, hbsl, hbkl⟩ := hre1.open9
 obtain ⟨hN, _⟩ := hca.node
 obtain ⟨hM, _⟩ := hcb.node
 obtain ⟨hn1, hn2⟩ := hN.num0
 obtain ⟨hm1, hm2⟩ := hM.num0
 have hL : ([Tm.mk ak anm anum (.mk atk atks) (.mk afk afks) alb aks, Tm.mk bk bnm bnum (.mk btk btks) (.mk bfk bfks) blb bks] : List Tm).length = 2 := rfl
 have hR : X8 k [Tm.mk ak anm anum (.mk atk atks) (.mk afk afks) alb aks, Tm.mk bk bnm bnum (.mk btk btks) (.mk bfk bfks) blb bks] = (if ak = 2 ∧ bk = 2 then some (if k = 7 then A2y ((anum + bnum) % 1000) else A0s (anum < bnum)) else none) := by
  unfold X8; rw [if_neg (by omega), if_pos hk78]; rfl
 rw [hR]
 have htm : (anum + bnum).tmod 1000 = (anum + bnum) % 1000 := A9d ⟨hn1, hn2⟩ ⟨hm1, hm2⟩
 have hb : F8 ((anum + bnum) % 1000) := ⟨by omega, by omega⟩
 refine C0 Tryz.func177 rfl Tryz.ntmps177 Tryz.results177 rfl ?_
 intro w0
 refine tS (tR ?_)
 refine sE (C5 rfl rfl) rfl (fun b3 => ?_)
 refine sE (A6 rfl) rfl (fun b4 => ?_)
 refine A7 ?_
 refine sE (A6 rfl) rfl (fun b11 => ?_)
 refine E4 ?_
 refine sP (A3w rfl rfl (by omega)) rfl rfl ?_
 refine A7 ?_
 refine sP (B3 (j := 0) rfl rfl rfl (by simp)) rfl rfl ?_
 refine sL (A2 rfl rfl (hat0 _) rfl) rfl rfl ?_
 refine J5 ?_
 refine B8 ?_
 refine tS (tR ?_)
 refine sP (J3 rfl rfl (by omega)) rfl rfl ?_
 refine B4 ?_
 refine sB (qE rfl rfl) rfl rfl (fun h51 => ?_) (fun h51 => ?_)
 refine J2 ?_
 refine sP (B3 (j := 1) rfl rfl rfl (by simp)) rfl rfl ?_
 refine sL (A2 rfl rfl (hat1 _) rfl) rfl rfl ?_
 refine sE (A6 rfl) rfl (fun b65 => ?_)
 refine sS' ?_
 refine sD (nS ?_)
 refine B8 ?_
 refine B6 ?_
 refine sB (O9 rfl rfl) rfl rfl (fun h74 => ?_) (fun h74 => ?_)
 refine A0K ?_
 refine F0 (rC rfl (A4 rfl rfl)) (rT rfl) ?_
 (exact S4.no (by rw [if_neg (by omega)]) (M8 _))
 refine E3 ?_
 refine sB (O9 rfl rfl) rfl rfl (fun h101 => ?_) (fun h101 => ?_)
 refine S6 ?_
 refine F0 (rC rfl (A4 rfl rfl)) (rT rfl) ?_
 (exact S4.no (by rw [if_neg (by omega)]) (M8 _))
 refine E4 ?_
 refine sP (Z5 rfl rfl (by omega)) rfl rfl ?_
 refine J5 ?_
 refine sP (H2 rfl rfl (by omega) (by omega)) rfl rfl ?_
 refine sP (A3v rfl rfl (by omega)) rfl rfl ?_
 refine P3 ?_
 (rw [htm]; refine sS' ?_)
 refine B4 ?_
 refine F0 (rC rfl (A4 rfl rfl)) (rT rfl) ?_
 (exact S4.yes (u := A2y (HMod.hMod (anum + bnum) 1000)) (by rw [if_pos ⟨by omega, by omega⟩, if_pos (by omega)]) (A8.put (us := []) ⟨by decide, by decide⟩ hb ⟨by decide, by decide⟩ (A1n _) (A1n _) rfl (D1.nil _ _) rfl))
 refine B0 ?_
 refine sP (Z5 rfl rfl (by omega)) rfl rfl ?_
 refine D6 ?_
 refine sP (B3 (j := 1) rfl rfl rfl (by simp)) rfl rfl ?_
 refine sL (A2 rfl rfl (hat1 _) rfl) rfl rfl ?_
 refine sE (A6 rfl) rfl (fun b170 => ?_)
 refine sS' ?_
 refine sD (nS ?_)
 refine B8 ?_
 refine B6 ?_
 refine sB (O9 rfl rfl) rfl rfl (fun h179 => ?_) (fun h179 => ?_)
 refine A0K ?_
 refine F0 (rC rfl (A4 rfl rfl)) (rT rfl) ?_
 (exact S4.no (by rw [if_neg (by omega)]) (M8 _))
 refine E3 ?_
 refine sB (O9 rfl rfl) rfl rfl (fun h206 => ?_) (fun h206 => ?_)
 refine S6 ?_
 refine F0 (rC rfl (A4 rfl rfl)) (rT rfl) ?_
 (exact S4.no (by rw [if_neg (by omega)]) (M8 _))
 refine E4 ?_
 refine sP (J3 rfl rfl (by omega)) rfl rfl ?_
 refine J5 ?_
 (refine sB (I0 rfl rfl) rfl rfl (fun h246 => ?_) (fun h246 => ?_))
 (refine D8 rfl (A9c _ _) rfl rfl (fun u G1 hle1 hh => ?_); obtain ⟨uc, rfl, hru⟩ := hh; have hul := hru.len; have huo := hru.one)
 refine sS rfl rfl rfl hul huo rfl ?_ (hu := by exact D5 hul.symm)
 refine B4 ?_
 refine F0 (rC rfl (A2 rfl rfl (A9 (by repeat first | exact mH | apply mT)) hul)) (rT rfl) ?_
 (exact S4.yes (by rw [if_pos ⟨by omega, by omega⟩, if_neg (by omega)]; unfold A0s; rw [if_pos (by omega), if_pos rfl]) hru)
 (refine D8 rfl (A9c _ _) rfl rfl (fun u G1 hle1 hh => ?_); obtain ⟨uc, rfl, hru⟩ := hh; have hul := hru.len; have huo := hru.one)
 refine sS rfl rfl rfl hul huo rfl ?_ (hu := by exact D5 hul.symm)
 refine B4 ?_
 refine F0 (rC rfl (A2 rfl rfl (A9 (by repeat first | exact mH | apply mT)) hul)) (rT rfl) ?_
 (exact S4.yes (by rw [if_pos ⟨by omega, by omega⟩, if_neg (by omega)]; unfold A0s; rw [if_neg (by omega), if_neg (by decide)]) hru)
theorem B3M (a b c0 : Tm) (nm : ByteArray) (num : Int) (ty fr : Ty) (lb : Int) (G : IM) (cells : List Value) (hr : A8 G (.mk 9 nm num ty fr lb [a, b, c0]) cells) : Fn Tryz.prog 177 [.agg ⟨cells⟩] [] G (S4 (X8 9 [a, b, c0])) := by
 obtain ⟨ak, anm, anum, ⟨atk, atks⟩, ⟨afk, afks⟩, alb, aks⟩ := a
 obtain ⟨tk, tks⟩ := ty
 obtain ⟨fk, fks⟩ := fr
 obtain ⟨pt, ct, pf, cf, p, c, es, rfl, hk, hnum, hlb, hty, hfr, hsl, hkl⟩ := hr.open9
 obtain ⟨bx, ox, e0, rfl, hl0, hat0, hre0, hgb0⟩ := hsl.kidTm hkl (i := 0) (by simp) (by simp)
 replace hre0 : A8 G (.mk ak anm anum (.mk atk atks) (.mk afk afks) alb aks) e0 := hre0
 obtain ⟨apt, act, apf, acf, ap, ac, aes, rfl, hak, hanum, halb, haty, hafr, hasl, hakl⟩ := hre0.open9
 obtain ⟨_, _, e1, hp1, hl1, hat1, hre1, hgb1⟩ := hsl.kidTm hkl (i := 1) (by simp) (by simp)
 cases hp1
 replace hre1 : A8 G b e1 := hre1
 have ho1 := hre1.one
 obtain ⟨_, _, e2, hp2, hl2, hat2, hre2, hgb2⟩ := hsl.kidTm hkl (i := 2) (by simp) (by simp)
 cases hp2
 replace hre2 : A8 G c0 e2 := hre2
 have ho2 := hre2.one
 have hL : ([Tm.mk ak anm anum (.mk atk atks) (.mk afk afks) alb aks, b, c0] : List Tm).length = 3 := rfl
 rw [show X8 9 [Tm.mk ak anm anum (.mk atk atks) (.mk afk afks) alb aks, b, c0] = (if ak = 3 then some b else if ak = 4 then some c0 else none) from rfl]
 refine C0 Tryz.func177 rfl Tryz.ntmps177 Tryz.results177 rfl ?_
 intro w0
 refine tS (tR ?_)
 refine sE (C5 rfl rfl) rfl (fun b3 => ?_)
 refine sE (A6 rfl) rfl (fun b4 => ?_)
 refine A7 ?_
 refine sE (A6 rfl) rfl (fun b11 => ?_)
 refine E4 ?_
 refine sP (A3w rfl rfl (by omega)) rfl rfl ?_
 refine A7 ?_
 refine sP (B3 (j := 0) rfl rfl rfl (by simp)) rfl rfl ?_
 refine sL (A2 rfl rfl (hat0 _) rfl) rfl rfl ?_
 refine J5 ?_
 refine B8 ?_
 refine tS (tR ?_)
 refine sP (J3 rfl rfl (by omega)) rfl rfl ?_
 refine B4 ?_
 refine sP (J3 rfl rfl (by omega)) rfl rfl ?_
 refine B0 ?_
 refine sP (J3 rfl rfl (by omega)) rfl rfl ?_
 refine A7 ?_
 refine sP (Z5 rfl rfl (by omega)) rfl rfl ?_
 refine J5 ?_
 refine B8 (tS (tR (sB (qE rfl rfl) rfl rfl (fun h78 => ?_) (fun h78 => ?_))))
 refine D6 ?_
 refine sP (B3 (j := 1) rfl rfl rfl (by simp)) rfl rfl ?_
 refine sL (A2 rfl rfl (hat1 _) hl1) rfl rfl ?_
 refine sS rfl rfl rfl hl1 ho1 rfl ?_ (hu := by exact D5 hl1.symm)
 refine B4 ?_
 refine F0 (rC rfl (A2 rfl rfl (A9 (by repeat first | exact mH | apply mT)) hl1)) (rT rfl) ?_
 (exact S4.yes (by rw [if_pos (by omega)]) hre1)
 refine A7 ?_
 refine sB (qE rfl rfl) rfl rfl (fun h105 => ?_) (fun h105 => ?_)
 refine D6 ?_
 refine sP (B3 (j := 2) rfl rfl rfl (by simp)) rfl rfl ?_
 refine sL (A2 rfl rfl (hat2 _) hl2) rfl rfl ?_
 refine sS rfl rfl rfl hl2 ho2 rfl ?_ (hu := by exact D5 hl2.symm)
 refine B4 ?_
 refine F0 (rC rfl (A2 rfl rfl (A9 (by repeat first | exact mH | apply mT)) hl2)) (rT rfl) ?_
 (exact S4.yes (by rw [if_neg (by omega), if_pos (by omega)]) hre2)
 refine J9 ?_
 refine F0 (rC rfl (A4 rfl rfl)) (rT rfl) ?_
 (exact S4.no (by rw [if_neg (by omega), if_neg (by omega)]) (M8 _))
theorem A9f (k : Int) (a : Tm) (nm : ByteArray) (num : Int) (ty fr : Ty) (lb : Int) (G : IM) (cells : List Value) (hk1 : k = 11 ∨ k = 12) (hca : cv a) (hr : A8 G (.mk k nm num ty fr lb [a]) cells) : Fn Tryz.prog 177 [.agg ⟨cells⟩] [] G (S4 (X8 k [a])) := by
 obtain ⟨ak, anm, anum, ⟨atk, atks⟩, ⟨afk, afks⟩, alb, aks⟩ := a
 obtain ⟨tk, tks⟩ := ty
 obtain ⟨fk, fks⟩ := fr
 obtain ⟨pt, ct, pf, cf, p, c, es, rfl, hk, hnum, hlb, hty, hfr, hsl, hkl⟩ := hr.open9
 obtain ⟨bx, ox, e0, rfl, hl0, hat0, hre0, hgb0⟩ := hsl.kidTm hkl (i := 0) (by simp) (by simp)
 replace hre0 : A8 G (.mk ak anm anum (.mk atk atks) (.mk afk afks) alb aks) e0 := hre0
 obtain ⟨apt, act, apf, acf, ap, ac, aes, rfl, hak, hanum, halb, haty, hafr, hasl, hakl⟩ := hre0.open9
 obtain ⟨hN, _⟩ := hca.node
 have hops := hN.ops
 have h2 : ak = 10 → aks.length = 2 := fun h => by rw [h] at hops; have : E2 10 = 2 := rfl; omega
 have hL : ([Tm.mk ak anm anum (.mk atk atks) (.mk afk afks) alb aks] : List Tm).length = 1 := rfl
 have hR : X8 k [Tm.mk ak anm anum (.mk atk atks) (.mk afk afks) alb aks] = (if ak = 10 then some (kd aks (k - 11).toNat) else none) := by
  unfold X8; rw [if_neg (by omega), if_neg (by omega), if_neg (by omega), if_pos hk1]; rfl
 rw [hR]
 obtain ⟨i, hi⟩ : ∃ i : Nat, (k - 11).toNat = i := ⟨_, rfl⟩
 rw [hi]
 refine C0 Tryz.func177 rfl Tryz.ntmps177 Tryz.results177 rfl ?_
 intro w0
 refine tS (tR ?_)
 refine sE (C5 rfl rfl) rfl (fun b3 => ?_)
 refine sE (A6 rfl) rfl (fun b4 => ?_)
 refine A7 ?_
 refine sE (A6 rfl) rfl (fun b11 => ?_)
 refine E4 ?_
 refine sP (A3w rfl rfl (by omega)) rfl rfl ?_
 refine A7 ?_
 refine sP (B3 (j := 0) rfl rfl rfl (by simp)) rfl rfl ?_
 refine sL (A2 rfl rfl (hat0 _) rfl) rfl rfl ?_
 refine J5 ?_
 refine B8 ?_
 refine tS (tR ?_)
 refine sP (J3 rfl rfl (by omega)) rfl rfl ?_
 refine B4 ?_
 refine sP (J3 rfl rfl (by omega)) rfl rfl ?_
 refine B0 ?_
 refine sP (J3 rfl rfl (by omega)) rfl rfl ?_
 refine A7 ?_
 refine sP (J3 rfl rfl (by omega)) rfl rfl ?_
 refine B4 ?_
 refine sB (qE rfl rfl) rfl rfl (fun h72 => ?_) (fun h72 => ?_)
 refine J2 ?_
 refine sB (qE rfl rfl) rfl rfl (fun h84 => ?_) (fun h84 => ?_)
 refine B6 ?_
 (have hq : ak = 10 := (by omega); have hq1 := h2 hq; obtain ⟨bq, oq, e3, rfl, hl3, hat3, hre3, hgb3⟩ := hasl.kidTm hakl (i := i) (by omega) (by omega); have ho3 := hre3.one)
 refine B0 ?_
 refine sP (P2 rfl rfl (by omega) (by omega)) rfl rfl ?_
 (rw [show (k - 11 : Int) = ((i : Nat) : Int) from (by omega)]; refine sP (B3 (j := i) rfl rfl rfl (by omega)) rfl rfl ?_)
 refine sL (A2 rfl rfl (hat3 _) hl3) rfl rfl ?_
 refine sS rfl rfl rfl hl3 ho3 rfl ?_ (hu := by exact D5 hl3.symm)
 refine A7 ?_
 refine F0 (rC rfl (A2 rfl rfl (A9 (by repeat first | exact mH | apply mT)) hl3)) (rT rfl) ?_
 (exact S4.yes (by rw [if_pos (by omega)]; unfold kd; rw [List.getD_eq_getElem?_getD, List.getElem?_eq_getElem (by omega), Option.getD_some]) hre3)
 refine K5 ?_
 refine F0 (rC rfl (A4 rfl rfl)) (rT rfl) ?_
 (exact S4.no (by rw [if_neg (by omega)]) (M8 _))
 refine B0 ?_
 refine sP (Z5 rfl rfl (by omega)) rfl rfl ?_
 refine D6 ?_
 refine sB (qE rfl rfl) rfl rfl (fun h137 => ?_) (fun h137 => ?_)
 refine B6 ?_
 (have hq : ak = 10 := (by omega); have hq1 := h2 hq; obtain ⟨bq, oq, e3, rfl, hl3, hat3, hre3, hgb3⟩ := hasl.kidTm hakl (i := i) (by omega) (by omega); have ho3 := hre3.one)
 refine B0 ?_
 refine sP (P2 rfl rfl (by omega) (by omega)) rfl rfl ?_
 (rw [show (k - 11 : Int) = ((i : Nat) : Int) from (by omega)]; refine sP (B3 (j := i) rfl rfl rfl (by omega)) rfl rfl ?_)
 refine sL (A2 rfl rfl (hat3 _) hl3) rfl rfl ?_
 refine sS rfl rfl rfl hl3 ho3 rfl ?_ (hu := by exact D5 hl3.symm)
 refine A7 ?_
 refine F0 (rC rfl (A2 rfl rfl (A9 (by repeat first | exact mH | apply mT)) hl3)) (rT rfl) ?_
 (exact S4.yes (by rw [if_pos (by omega)]; unfold kd; rw [List.getD_eq_getElem?_getD, List.getElem?_eq_getElem (by omega), Option.getD_some]) hre3)
 refine K5 ?_
 refine F0 (rC rfl (A4 rfl rfl)) (rT rfl) ?_
 (exact S4.no (by rw [if_neg (by omega)]) (M8 _))
end Gw
end Go.Proofs.YtfpgncjeejickaaGreat
