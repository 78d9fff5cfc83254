/-
  What a node wants of its operands. The type of a term with casts. castType and CastTypeOf compute the type of a term with casts. ReplaceAt: the program's and the reference model's. Nodes at paths, in plain words: paths concatenate. Replacing a node, in plain words: what is put is found, and putting back undoes. A closed term's type is its type everywhere; a node replaced by one of its type leaves the type. Casts put into a term, in plain words. The reference's types are those of the insertion. Terms with casts: what a type says of a node. Casts put into a term: operand by operand. Precision of types and terms, on both sides. Casts put into terms of which one is more precise: the results are so, too. The program's evaluator: casts, nodes, the rules without casts. The program's evaluator: the rules of casts. The program's evaluator: the rules of casts, selections and casts themselves. The program's evaluator: a step.
-/
import Derived.Test.YtfpgncjeejickaaGreatDoorKb4
import Derived.Test.YtfpgncjeejickaaGreatDoorKb3
import Derived.Test.YtfpgncjeejickaaGreatDoorKb2
import Derived.Test.YtfpgncjeejickaaGreatDoorKb1
set_option linter.unusedVariables false
set_option linter.unusedSimpArgs false
set_option maxHeartbeats 0
set_option maxRecDepth 100000
set_option synthInstance.maxSize 4000
set_option synthInstance.maxHeartbeats 0
namespace Go.Proofs.YtfpgncjeejickaaGreatDoor
open Go Go.RowKit
namespace Gw
theorem C5.kidD {G : IM} {p : Option Addr} {n c : Nat} {es : List (List Value)} {ks : List Ty} (h : C5 G p n c 2 es) (hk : E3 G ks es) {i : Nat} (hi : i < n) (hn : i < ks.length) :
  ∃ b o q d, p = some ⟨b, o, none⟩ ∧ (∀ hp, At hp G b (o + i * 2) [.int .i64 (ks.getD i B1).k, .slice q (ks.getD i B1).ks.length d]) ∧ B3 G (ks.getD i B1) [.int .i64 (ks.getD i B1).k, .slice q (ks.getD i B1).ks.length d] ∧ G b ≠ none := by
 obtain ⟨b, o, q, d, h1, h2, h3, h4⟩ := h.kidTy hk hi hn
 rw [List.getD_eq_getElem?_getD, List.getElem?_eq_getElem hn, Option.getD_some]
 exact ⟨b, o, q, d, h1, h2, h3, h4⟩
theorem A2T {hs : List Ty} (h : ∀ t ∈ hs, D4 t) {i : Nat} (hi : i < hs.length) : D4 (hs.getD i B1) := by
 rw [List.getD_eq_getElem?_getD, List.getElem?_eq_getElem hi, Option.getD_some]
 exact h _ (List.getElem_mem hi)
def L3 (r : Option (List Ty × Ty)) (G : IM) : IM → Value → List A4 → Prop := K4 fun G' v => ∃ p n c es w cu u, v = .tuple ⟨[.slice p n c, .agg ⟨cu⟩, .bool r.isSome]⟩ ∧ n = w.length ∧ C5 G' p n c 2 es ∧ E3 G' w es ∧ B3 G' u cu ∧ ∀ q, r = some q → q = (w, u)
theorem L3.mk {r : Option (List Ty × Ty)} {G G' : IM} {p : Option Addr} {n c : Nat} {es : List (List Value)} {w : List Ty} {cu : List Value} {u : Ty} {b : Bool} (hl : n = w.length) (hs : Sl G' p n c 2 es.flatten) (hw : E3 G' w es) (hu : B3 G' u cu) (h : r = if b = true then some (w, u) else none) :
  L3 r G G' (.tuple ⟨[.slice p n c, .agg ⟨cu⟩, .bool b]⟩) [] := by
 refine ⟨rfl, p, n, c, es, w, cu, u, ?_, hl, C5.of hs (by rw [hw.len, hl]) hw.all (fun e he => (hw.each e he).2), hw, hu, ?_⟩
 ·subst h; cases b <;> rfl
 ·subst h; cases b
  ·simp
  ·intro q hq; simpa using hq.symm
theorem L3.nil {r : Option (List Ty × Ty)} {G G' : IM} {cu : List Value} {u : Ty} {b : Bool} (hu : B3 G' u cu) (h : r = if b = true then some ([], u) else none) :
  L3 r G G' (.tuple ⟨[.slice none 0 0, .agg ⟨cu⟩, .bool b]⟩) [] := L3.mk (es := []) rfl (Sl.nil _ _) (by simp [E3]) hu h
theorem L3.one {r : Option (List Ty × Ty)} {G G' : IM} {p : Option Addr} {c : Nat} {a : Ty} {ca : List Value} {cu : List Value} {u : Ty} {b : Bool} (hs : Sl G' p 1 c 2 ca) (ha : B3 G' a ca) (hu : B3 G' u cu) (h : r = if b = true then some ([a], u) else none) :
  L3 r G G' (.tuple ⟨[.slice p 1 c, .agg ⟨cu⟩, .bool b]⟩) [] := L3.mk (es := [ca]) (w := [a]) rfl (by simpa using hs) ⟨_, _, rfl, ha, rfl⟩ hu h
theorem L3.two {r : Option (List Ty × Ty)} {G G' : IM} {p : Option Addr} {c : Nat} {a a2 : Ty} {ca ca2 : List Value} {cu : List Value} {u : Ty} {b : Bool} (hs : Sl G' p 2 c 2 (ca ++ ca2)) (ha : B3 G' a ca) (ha2 : B3 G' a2 ca2) (hu : B3 G' u cu) (h : r = if b = true then some ([a, a2], u) else none) :
  L3 r G G' (.tuple ⟨[.slice p 2 c, .agg ⟨cu⟩, .bool b]⟩) [] := L3.mk (es := [ca, ca2]) (w := [a, a2]) rfl (by simpa using hs) ⟨_, _, rfl, ha, _, _, rfl, ha2, rfl⟩ hu h
theorem L3.three {r : Option (List Ty × Ty)} {G G' : IM} {p : Option Addr} {c : Nat} {a a2 a3 : Ty} {ca ca2 ca3 : List Value} {cu : List Value} {u : Ty} {b : Bool} (hs : Sl G' p 3 c 2 (ca ++ (ca2 ++ ca3))) (ha : B3 G' a ca) (ha2 : B3 G' a2 ca2) (ha3 : B3 G' a3 ca3) (hu : B3 G' u cu) (h : r = if b = true then some ([a, a2, a3], u) else none) :
  L3 r G G' (.tuple ⟨[.slice p 3 c, .agg ⟨cu⟩, .bool b]⟩) [] := L3.mk (es := [ca, ca2, ca3]) (w := [a, a2, a3]) rfl (by simpa using hs) ⟨_, _, rfl, ha, _, _, rfl, ha2, _, _, rfl, ha3, rfl⟩ hu h
section
variable {cx : Cx} {nm : ByteArray} {ty : Ty} {h : List Ty}
theorem mW1 : Q5 cx 1 nm ty h = match X4 cx nm with | some t => some ([], t) | none => none := rfl
theorem mW2 : Q5 cx 2 nm ty h = some ([], O7) := rfl
theorem A5Q {k : Int} (hk : k = 3 ∨ k = 4) : Q5 cx k nm ty h = some ([], U9) := by rcases hk with rfl | rfl <;> rfl
theorem mW5 : Q5 cx 5 nm ty h = some ([], .mk 4 [ty, h.getD 0 B1]) := rfl
theorem mW6 : Q5 cx 6 nm ty h = match Z4 4 (h.getD 0 B1) with | some (a, b) => if O9 (h.getD 1 B1) a = true then some ([.mk 4 [a, b], a], b) else none | none => none := rfl
theorem W6 {k : Int} (hk : k = 7 ∨ k = 8) : Q5 cx k nm ty h = if O9 (h.getD 0 B1) O7 = true ∧ O9 (h.getD 1 B1) O7 = true then some ([O7, O7], if k = 8 then U9 else O7) else none := by rcases hk with rfl | rfl <;> rfl
theorem mW9 : Q5 cx 9 nm ty h = if O9 (h.getD 0 B1) U9 = true ∧ O9 (h.getD 1 B1) (h.getD 2 B1) = true then some ([U9, A0w (h.getD 1 B1) (h.getD 2 B1), A0w (h.getD 1 B1) (h.getD 2 B1)], A0w (h.getD 1 B1) (h.getD 2 B1)) else none := rfl
theorem A8A : Q5 cx 10 nm ty h = some ([], .mk 5 [h.getD 0 B1, h.getD 1 B1]) := rfl
theorem A3z : Q5 cx 13 nm ty h = if O9 (h.getD 0 B1) ty = true then some ([ty], ty) else none := rfl
theorem A5R {k : Int} (hk : k = 11 ∨ k = 12) : Q5 cx k nm ty h = match Z4 5 (h.getD 0 B1) with | some (a, b) => some ([.mk 5 [a, b]], if k = 12 then b else a) | none => none := by rcases hk with rfl | rfl <;> rfl
end
theorem K6 (G : IM) : B3 G O7 [.int .i64 2, .slice none 0 0] := J8 G ⟨by omega, by omega⟩
theorem W7 (G : IM) : B3 G U9 [.int .i64 3, .slice none 0 0] := J8 G ⟨by omega, by omega⟩
theorem B2P (cx : Cx) (k : Int) (nm : ByteArray) (num : Int) (ty fr : Ty) (lb : Int) (ks : List Tm) (h : List Ty) (G : IM) (pc : Option Addr) (nc cc : Nat) (cells : List Value) (p : Option Addr) (n c : Nat) (es : List (List Value))
  (hx : S1 G cx pc nc cc) (hops : E0 k = n) (hnl : n = h.length) (hk14 : k ≠ 14) (hta : D4 ty) (hr : A7 G (.mk k nm num ty fr lb ks) cells) (hsl : C5 G p n c 2 es) (hkl : E3 G h es) (har : ∀ t ∈ h, D4 t) :
  Fn Tryz.prog 117 [.slice pc nc cc, .agg ⟨cells⟩, .slice p n c] [] G (L3 (Q5 cx k nm ty h) G) := by
 have hone := hr.one
 have hop := A2i hops
 have hkr : 1 ≤ k ∧ k ≤ 14 := by
  apply Classical.byContradiction
  intro hc
  rw [A3i hc] at hops; omega
 obtain ⟨tyk, tyks⟩ := ty
 obtain ⟨fk, fks⟩ := fr
 obtain ⟨pt, ct, pf, cf, pk, ck, ek, rfl, hk, hnum, hlb, hrty, hrfr, _, _⟩ := hr.open9
 refine B5 Tryz.func117 rfl Tryz.ntmps117 Tryz.results117 rfl ?_
 intro w0
 refine tS (tR ?_)
 refine sE (C0 rfl rfl) rfl (fun b3 => ?_)
 refine sQ (qA rfl) rfl ?_
 refine sE (A5 rfl) rfl (fun b5 => ?_)
 refine sQ (qA rfl) rfl (sD (nS (tS (tR ?_))))
 refine E8 rfl ((A1w _ _)) rfl rfl ?_
 refine E8 rfl ((A1w _ _)) rfl rfl ?_
 refine sE (A5 rfl) rfl (fun b13 => ?_)
 refine sE (A5 rfl) rfl (fun b14 => ?_)
 refine J7 ?_
 refine B9 (tS (tR (sB (qE rfl rfl) rfl rfl (fun h29 => ?_) (fun h29 => ?_))))
 refine D7 ?_
 (refine D3 rfl (B2v G cx pc nc cc nm hx) rfl rfl (fun v G1 hle1 hh => ?_); obtain ⟨cu, u, rfl, hru, hu⟩ := hh; obtain ⟨p1, c1, e1, rfl, _⟩ := hru.open)
 refine I6 ?_
 refine sE (A5 rfl) rfl (fun b43 => ?_)
 refine F8 ?_
 refine sQ (qA rfl) rfl (sD (nS (tS ?_)))
 refine C9 D1 rfl ?_
 refine L0 (i := 0) (l' := [tt,ff,ff,ff,ff]) rfl C4 (A3 rfl rfl) rfl (by kernel_rfl) rfl rfl ?_
 refine aP 1 rfl (qM rfl) rfl ?_
 refine aP 2 rfl (qA rfl) rfl ?_
 refine A1 3 ?_
 refine F0 rfl ?_
 refine aP 4 rfl (qA rfl) rfl ?_
 refine B8 (nS (tT (rB (rS ?_))))
 refine D2 (rT rfl) (rC rfl (A3 rfl rfl)) (rT rfl) ?_
 (have hk1 : k = 1 := (by omega); subst hk1; rw [mW1]; refine L3.nil hru ?_; generalize X4 cx nm = r at hu ⊢; cases r with | none => rfl | some t => (rw [hu t rfl]; rfl))
 refine sQ (qA rfl) rfl (sD (nS (cF rfl (tS (tR ?_)))))
 refine sB (qE rfl rfl) rfl rfl (fun h69 => ?_) (fun h69 => ?_)
 refine sQ (qA rfl) rfl (sD (nS (qT rfl (tS ?_))))
 refine C9 D1 rfl ?_
 refine L0 (i := 0) (l' := [tt,ff,ff,ff]) rfl C4 (A3 rfl rfl) rfl (by kernel_rfl) rfl rfl ?_
 refine aP 1 rfl (qA rfl) rfl ?_
 refine A1 2 ?_
 refine F0 rfl ?_
 refine aP 3 rfl (qA rfl) rfl ?_
 refine B8 (nS (tT (rB (rS ?_))))
 refine D2 (rT rfl) (rC rfl (A3 rfl rfl)) (rT rfl) ?_
 (have hk1 : k = 2 := (by omega); subst hk1; exact L3.nil (K6 _) mW2)
 refine sQ (qA rfl) rfl (sD (nS (cF rfl (tS (tS (tR ?_))))))
 refine sB (qE rfl rfl) rfl rfl (fun h95 => ?_) (fun h95 => ?_)
 refine D8 ?_
 refine C9 D1 rfl ?_
 refine L0 (i := 0) (l' := [tt,ff,ff,ff]) rfl C4 (A3 rfl rfl) rfl (by kernel_rfl) rfl rfl ?_
 refine aP 1 rfl (qA rfl) rfl ?_
 refine A1 2 ?_
 refine F0 rfl ?_
 refine aP 3 rfl (qA rfl) rfl ?_
 refine B8 (nS (tT (rB (rS ?_))))
 refine D2 (rT rfl) (rC rfl (A3 rfl rfl)) (rT rfl) ?_
 (exact L3.nil (W7 _) (by rw [A5Q (by omega)]; rfl))
 refine sQ (qA rfl) rfl (sD (nS (cF rfl (tR ?_))))
 refine sB (qE rfl rfl) rfl rfl (fun h122 => ?_) (fun h122 => ?_)
 refine sQ (qA rfl) rfl (sD (nS (qT rfl (tS ?_))))
 refine C9 D1 rfl ?_
 refine L0 (i := 0) (l' := [tt,ff,ff,ff]) rfl C4 (A3 rfl rfl) rfl (by kernel_rfl) rfl rfl ?_
 refine aP 1 rfl (qA rfl) rfl ?_
 refine A1 2 ?_
 refine F0 rfl ?_
 refine aP 3 rfl (qA rfl) rfl ?_
 refine B8 (nS (tT (rB (rS ?_))))
 refine D2 (rT rfl) (rC rfl (A3 rfl rfl)) (rT rfl) ?_
 (exact L3.nil (W7 _) (by rw [A5Q (by omega)]; rfl))
 refine sQ (qA rfl) rfl (sD (nS (cF rfl (tS (tR ?_)))))
 refine sB (qE rfl rfl) rfl rfl (fun h147 => ?_) (fun h147 => ?_)
 refine sQ (qA rfl) rfl (sD (nS (qT rfl (tS ?_))))
 (have hl1 : n = 1 := hop.2.2 (by omega); obtain ⟨b0, o0, q0, d0, hp0, hat0, hre0, hg0⟩ := hsl.kidD hkl (i := 0) (by omega) (by omega); cases hp0; refine C9 D1 rfl ?_)
 refine H6 (i := 0) (l' := [tt,ff,ff,ff,ff,ff,ff,ff,ff]) rfl C4 (A9 rfl) rfl (by kernel_rfl) rfl rfl ?_
 refine aL 1 rfl (A3 rfl rfl) rfl ?_
 refine aP 2 rfl (qM rfl) rfl ?_
 refine aP 3 rfl (B0 (j := 0) rfl rfl rfl (by omega)) rfl ?_
 refine aL 4 rfl (A2 rfl rfl (hat0 _) rfl) rfl ?_
 refine A1 5 ?_
 (refine E1 rfl rfl (A1R 4 _ _ _ _ _ ⟨by omega, by omega⟩ hrty hre0) rfl rfl rfl (fun v GB hleB hh => ?_); obtain ⟨cB, rfl, hrB⟩ := hh; obtain ⟨p7, c7, e7, rfl, _⟩ := hrB.open)
 refine aP 6 rfl (qA rfl) rfl ?_
 refine A1 7 ?_
 refine F0 rfl ?_
 refine aP 8 rfl (qA rfl) rfl ?_
 refine B8 (nS (tT (rB (rS ?_))))
 refine D2 (rT rfl) (rC rfl (A3 rfl rfl)) (rT rfl) ?_
 (have hk1 : k = 5 := (by omega); subst hk1; exact L3.nil hrB mW5)
 refine sQ (qA rfl) rfl (sD (nS (cF rfl (tS (tR ?_)))))
 refine sB (qE rfl rfl) rfl rfl (fun h178 => ?_) (fun h178 => ?_)
 refine D0 ?_
 (have hl2 : n = 2 := hop.1 (by omega); obtain ⟨b0, o0, q0, d0, hp0, hat0, hre0, hg0⟩ := hsl.kidD hkl (i := 0) (by omega) (by omega); cases hp0; refine sP (B0 (j := 0) rfl rfl rfl (by omega)) rfl rfl ?_)
 refine sL (A2 rfl rfl (hat0 _) rfl) rfl rfl ?_
 (refine D3 rfl (A8r 4 (h.getD 0 B1) G _ (.inl rfl) (A2T har (by omega)) hre0) rfl rfl (fun v G1 hle1 hh => ?_); obtain ⟨ma, mca, mb, mcb, rfl, hma, hmb, hma2, hmb2, hmm⟩ := hh; obtain ⟨p1, c1, e1, rfl, _⟩ := hma.open; obtain ⟨p2, c2, e2, rfl, _⟩ := hmb.open; replace hsl := hsl.mono hle1; replace hkl := hkl.mono hle1; generalize hmi : (Z4 4 (h.getD 0 B1)).isSome = mi; cases mi)
 refine I8 ?_
 refine sE (A5 rfl) rfl (fun b193 => ?_)
 refine sE (A5 rfl) rfl (fun b194 => ?_)
 refine F8 ?_
 refine F8 ?_
 refine sQ (qA rfl) rfl (sD (nS (tS ?_)))
 (have hl2 : n = 2 := hop.1 (by omega); obtain ⟨b0, o0, q0, d0, hp0, hat0, hre0, hg0⟩ := hsl.kidD hkl (i := 0) (by omega) (by omega); obtain ⟨b1, o1, q1, d1, hp1, hat1, hre1, hg1⟩ := hsl.kidD hkl (i := 1) (by omega) (by omega); cases hp0; cases hp1; refine C9 D1 rfl ?_)
 refine L0 (i := 0) (l' := [tt,ff,ff,ff,ff,ff,ff,ff,ff,ff,ff,ff,ff,ff,ff,ff,ff]) rfl C4 (A3 rfl rfl) rfl (by kernel_rfl) rfl rfl ?_
 refine aL 1 rfl (A3 rfl rfl) rfl ?_
 refine aL 3 rfl (A3 rfl rfl) rfl ?_
 refine aL 5 rfl (A3 rfl rfl) rfl ?_
 refine aP 6 rfl (qM rfl) rfl ?_
 refine A1 2 ?_
 (refine E1 rfl rfl (A1R _ ma mb _ _ _ ⟨by omega, by omega⟩ hma hmb) rfl rfl rfl (fun v GB hleB hh => ?_); obtain ⟨cB, rfl, hrB⟩ := hh; obtain ⟨p7, c7, e7, rfl, _⟩ := hrB.open; have hma' := hma.mono hleB; have hmb' := hmb.mono hleB)
 refine aP 7 rfl (qM rfl) rfl ?_
 refine B2 8 rfl rfl rfl ?_
 refine B2 9 rfl rfl rfl ?_
 refine B2 10 rfl rfl rfl ?_
 refine B2 11 rfl rfl rfl ?_
 refine P5 (j := 4) (j' := 12) (by kernel_rfl) ?_ ?_
 (refine D9 rfl (C8 rfl rfl rfl (by omega) (by unfold maxLen; omega) rfl) rfl rfl ?_; rintro _ ⟨b215, rfl⟩)
 refine B2 12 rfl rfl rfl ?_
 refine aP 13 rfl (M0 rfl rfl) rfl ?_
 refine aP 14 rfl (qA rfl) rfl ?_
 refine A1 15 ?_
 refine F0 rfl ?_
 refine aP 16 rfl (qA rfl) rfl ?_
 refine B8 (nS ?_)
 (refine H7 Pk.here (fun G5 hle5 hsl5 hno5 => ?_))
 refine tT (rB (rS ?_))
 refine D2 (rT rfl) (rC rfl (A3 rfl rfl)) (rT rfl) ?_
 (have hk1 : k = 6 := (by omega); subst hk1; refine L3.two hsl5 (hrB.mono hle5) (hma'.mono hle5) (hmb'.mono hle5) ?_; rw [mW6]; cases hq : Z4 4 (h.getD 0 B1) with | none => rfl | some q => (rw [hq] at hmi; cases hmi))
 refine A47 (l' := [tt,tt,tt,tt,ff,tt,tt,tt,tt,tt,tt,tt,tt,ff,ff,ff,ff]) rfl rfl rfl rfl ?_
 refine aP 13 rfl (M0 rfl rfl) rfl ?_
 refine A1 4 ?_
 (refine D9 rfl (C8 rfl rfl rfl (by omega) (by unfold maxLen; omega) rfl) rfl rfl ?_; rintro _ ⟨b233, rfl⟩)
 refine aP 14 rfl (qA rfl) rfl ?_
 refine A1 15 ?_
 refine F0 rfl ?_
 refine aP 16 rfl (qA rfl) rfl ?_
 refine B8 (nS ?_)
 (refine H7 Pk.here (fun G5 hle5 hsl5 hno5 => ?_))
 refine tT (rB (rS ?_))
 refine D2 (rT rfl) (rC rfl (A3 rfl rfl)) (rT rfl) ?_
 (have hk1 : k = 6 := (by omega); subst hk1; refine L3.two hsl5 (hrB.mono hle5) (hma'.mono hle5) (hmb'.mono hle5) ?_; rw [mW6]; cases hq : Z4 4 (h.getD 0 B1) with | none => rfl | some q => (rw [hq] at hmi; cases hmi))
 refine I8 ?_
 refine sE (A5 rfl) rfl (fun b250 => ?_)
 refine sE (A5 rfl) rfl (fun b251 => ?_)
 refine F8 ?_
 refine F8 ?_
 refine sQ (qA rfl) rfl (sD (nS (tS ?_)))
 (have hl2 : n = 2 := hop.1 (by omega); obtain ⟨b0, o0, q0, d0, hp0, hat0, hre0, hg0⟩ := hsl.kidD hkl (i := 0) (by omega) (by omega); obtain ⟨b1, o1, q1, d1, hp1, hat1, hre1, hg1⟩ := hsl.kidD hkl (i := 1) (by omega) (by omega); cases hp0; cases hp1; refine C9 D1 rfl ?_)
 refine L0 (i := 0) (l' := [tt,ff,ff,ff,ff,ff,ff,ff,ff,ff,ff,ff,ff,ff,ff,ff,ff]) rfl C4 (A3 rfl rfl) rfl (by kernel_rfl) rfl rfl ?_
 refine aL 1 rfl (A3 rfl rfl) rfl ?_
 refine aL 3 rfl (A3 rfl rfl) rfl ?_
 refine aL 5 rfl (A3 rfl rfl) rfl ?_
 refine aP 6 rfl (qM rfl) rfl ?_
 refine A1 2 ?_
 (refine E1 rfl rfl (A1R _ ma mb _ _ _ ⟨by omega, by omega⟩ hma hmb) rfl rfl rfl (fun v GB hleB hh => ?_); obtain ⟨cB, rfl, hrB⟩ := hh; obtain ⟨p7, c7, e7, rfl, _⟩ := hrB.open; have hma' := hma.mono hleB; have hmb' := hmb.mono hleB)
 refine aP 7 rfl (qM rfl) rfl ?_
 refine aP 8 rfl (qM rfl) rfl ?_
 refine aP 9 rfl (B0 (j := 1) rfl rfl rfl (by omega)) rfl ?_
 refine aL 10 rfl (A2 rfl rfl (At.mono' hleB (hat1 _)) rfl) rfl ?_
 refine aL 11 rfl (A3 rfl rfl) rfl ?_
 refine P5 (j := 4) (j' := 12) (by kernel_rfl) ?_ ?_
 (refine D9 rfl (C8 rfl rfl rfl (by omega) (by unfold maxLen; omega) rfl) rfl rfl ?_; rintro _ ⟨b272, rfl⟩)
 refine A1 12 ?_
 refine R3 rfl rfl ((Y4 _ _ _ _ _ (hre1.mono hleB) hma')) rfl rfl rfl (fun h274 => ?_) (fun h274 => ?_)
 refine aP 13 rfl (H9 rfl rfl) rfl ?_
 refine aP 14 rfl (qA rfl) rfl ?_
 refine A1 15 ?_
 refine F0 rfl ?_
 refine aP 16 rfl (qA rfl) rfl ?_
 refine B8 (nS ?_)
 (refine H7 Pk.here (fun G5 hle5 hsl5 hno5 => ?_))
 refine tT (rB (rS ?_))
 refine D2 (rT rfl) (rC rfl (A3 rfl rfl)) (rT rfl) ?_
 (have hk1 : k = 6 := (by omega); subst hk1; refine L3.two hsl5 (hrB.mono hle5) (hma'.mono hle5) (hmb'.mono hle5) ?_; rw [mW6]; cases hq : Z4 4 (h.getD 0 B1) with | none => (rw [hq] at hmi; cases hmi) | some q => (have hq2 := hmm q hq; subst hq2; dsimp only; split <;> first | rfl | (exfalso; simp_all; done)))
 refine aP 13 rfl (H9 rfl rfl) rfl ?_
 refine aP 14 rfl (qA rfl) rfl ?_
 refine A1 15 ?_
 refine F0 rfl ?_
 refine aP 16 rfl (qA rfl) rfl ?_
 refine B8 (nS ?_)
 (refine H7 Pk.here (fun G5 hle5 hsl5 hno5 => ?_))
 refine tT (rB (rS ?_))
 refine D2 (rT rfl) (rC rfl (A3 rfl rfl)) (rT rfl) ?_
 (have hk1 : k = 6 := (by omega); subst hk1; refine L3.two hsl5 (hrB.mono hle5) (hma'.mono hle5) (hmb'.mono hle5) ?_; rw [mW6]; cases hq : Z4 4 (h.getD 0 B1) with | none => (rw [hq] at hmi; cases hmi) | some q => (have hq2 := hmm q hq; subst hq2; dsimp only; split <;> first | rfl | (exfalso; simp_all; done)))
 refine R3 rfl rfl ((Y4 _ _ _ _ _ (hre1.mono hleB) hma')) rfl rfl rfl (fun h301 => ?_) (fun h301 => ?_)
 refine aP 13 rfl (H9 rfl rfl) rfl ?_
 refine A1 4 ?_
 (refine D9 rfl (C8 rfl rfl rfl (by omega) (by unfold maxLen; omega) rfl) rfl rfl ?_; rintro _ ⟨b304, rfl⟩)
 refine aP 14 rfl (qA rfl) rfl ?_
 refine A1 15 ?_
 refine F0 rfl ?_
 refine aP 16 rfl (qA rfl) rfl ?_
 refine B8 (nS ?_)
 (refine H7 Pk.here (fun G5 hle5 hsl5 hno5 => ?_))
 refine tT (rB (rS ?_))
 refine D2 (rT rfl) (rC rfl (A3 rfl rfl)) (rT rfl) ?_
 (have hk1 : k = 6 := (by omega); subst hk1; refine L3.two hsl5 (hrB.mono hle5) (hma'.mono hle5) (hmb'.mono hle5) ?_; rw [mW6]; cases hq : Z4 4 (h.getD 0 B1) with | none => (rw [hq] at hmi; cases hmi) | some q => (have hq2 := hmm q hq; subst hq2; dsimp only; split <;> first | rfl | (exfalso; simp_all; done)))
 refine aP 13 rfl (H9 rfl rfl) rfl ?_
 refine A1 4 ?_
 (refine D9 rfl (C8 rfl rfl rfl (by omega) (by unfold maxLen; omega) rfl) rfl rfl ?_; rintro _ ⟨b319, rfl⟩)
 refine aP 14 rfl (qA rfl) rfl ?_
 refine A1 15 ?_
 refine F0 rfl ?_
 refine aP 16 rfl (qA rfl) rfl ?_
 refine B8 (nS ?_)
 (refine H7 Pk.here (fun G5 hle5 hsl5 hno5 => ?_))
 refine tT (rB (rS ?_))
 refine D2 (rT rfl) (rC rfl (A3 rfl rfl)) (rT rfl) ?_
 (have hk1 : k = 6 := (by omega); subst hk1; refine L3.two hsl5 (hrB.mono hle5) (hma'.mono hle5) (hmb'.mono hle5) ?_; rw [mW6]; cases hq : Z4 4 (h.getD 0 B1) with | none => (rw [hq] at hmi; cases hmi) | some q => (have hq2 := hmm q hq; subst hq2; dsimp only; split <;> first | rfl | (exfalso; simp_all; done)))
 refine sQ (qA rfl) rfl (sD (nS (cF rfl (tS (tS (tR ?_))))))
 refine sB (qE rfl rfl) rfl rfl (fun h339 => ?_) (fun h339 => ?_)
 refine H8 ?_
 refine sE (A5 rfl) rfl (fun b350 => ?_)
 refine D8 ?_
 refine sP (E4 rfl rfl (by omega)) rfl rfl ?_
 refine sD (nS (cF rfl (tK (nS (tS ?_)))))
 (have hl2 : n = 2 := hop.1 (by omega); obtain ⟨b0, o0, q0, d0, hp0, hat0, hre0, hg0⟩ := hsl.kidD hkl (i := 0) (by omega) (by omega); obtain ⟨b1, o1, q1, d1, hp1, hat1, hre1, hg1⟩ := hsl.kidD hkl (i := 1) (by omega) (by omega); cases hp0; cases hp1; refine C9 D1 rfl ?_)
 refine L0 (i := 0) (l' := [tt,ff,ff,ff,ff,ff,ff,ff,ff,ff,ff,ff,ff,ff,ff,ff,ff,ff,ff]) rfl C4 (A3 rfl rfl) rfl (by kernel_rfl) rfl rfl ?_
 refine aL 1 rfl (A3 rfl rfl) rfl ?_
 refine aL 3 rfl (A3 rfl rfl) rfl ?_
 refine aP 4 rfl (qM rfl) rfl ?_
 refine aP 5 rfl (B0 (j := 0) rfl rfl rfl (by omega)) rfl ?_
 refine aL 6 rfl (A2 rfl rfl (hat0 _) rfl) rfl ?_
 refine aL 7 rfl (A3 rfl rfl) rfl ?_
 refine P5 (j := 2) (j' := 8) (by kernel_rfl) ?_ ?_
 (refine D9 rfl (C8 rfl rfl rfl (by omega) (by unfold maxLen; omega) rfl) rfl rfl ?_; rintro _ ⟨b375, rfl⟩)
 refine A1 8 ?_
 refine R3 rfl rfl ((Y4 _ _ _ _ _ hre0 (K6 _))) rfl rfl rfl (fun h377 => ?_) (fun h377 => ?_)
 refine aP 9 rfl (qM rfl) rfl ?_
 refine aP 10 rfl (qM rfl) rfl ?_
 refine aP 11 rfl (B0 (j := 1) rfl rfl rfl (by omega)) rfl ?_
 refine aL 12 rfl (A2 rfl rfl (hat1 _) rfl) rfl ?_
 refine aL 13 rfl (A3 rfl rfl) rfl ?_
 refine A1 14 ?_
 refine R3 rfl rfl ((Y4 _ _ _ _ _ hre1 (K6 _))) rfl rfl rfl (fun h384 => ?_) (fun h384 => ?_)
 refine aP 15 rfl (H9 rfl rfl) rfl ?_
 refine aP 16 rfl (qA rfl) rfl ?_
 refine A1 17 ?_
 refine F0 rfl ?_
 refine aP 18 rfl (qA rfl) rfl ?_
 refine B8 (nS ?_)
 (refine H7 Pk.here (fun G5 hle5 hsl5 hno5 => ?_))
 refine tT (rB (rS ?_))
 refine D2 (rT rfl) (rC rfl (A3 rfl rfl)) (rT rfl) ?_
 (refine L3.two hsl5 (K6 _) (K6 _) (K6 _) ?_; rw [W6 (by omega)]; first | (rw [if_pos ⟨by assumption, by assumption⟩, if_neg (by omega)]; rfl) | (rw [if_neg (fun hc => by first | exact Bool.noConfusion (hc.1.symm.trans (by assumption)) | exact Bool.noConfusion (hc.2.symm.trans (by assumption)) | exact Bool.noConfusion (hc.symm.trans (by assumption)))]; rfl))
 refine aP 15 rfl (H9 rfl rfl) rfl ?_
 refine aP 16 rfl (qA rfl) rfl ?_
 refine A1 17 ?_
 refine F0 rfl ?_
 refine aP 18 rfl (qA rfl) rfl ?_
 refine B8 (nS ?_)
 (refine H7 Pk.here (fun G5 hle5 hsl5 hno5 => ?_))
 refine tT (rB (rS ?_))
 refine D2 (rT rfl) (rC rfl (A3 rfl rfl)) (rT rfl) ?_
 (refine L3.two hsl5 (K6 _) (K6 _) (K6 _) ?_; rw [W6 (by omega)]; first | (rw [if_pos ⟨by assumption, by assumption⟩, if_neg (by omega)]; rfl) | (rw [if_neg (fun hc => by first | exact Bool.noConfusion (hc.1.symm.trans (by assumption)) | exact Bool.noConfusion (hc.2.symm.trans (by assumption)) | exact Bool.noConfusion (hc.symm.trans (by assumption)))]; rfl))
 refine aP 9 rfl (qM rfl) rfl ?_
 refine B2 10 rfl rfl rfl ?_
 refine B2 11 rfl rfl rfl ?_
 refine B2 12 rfl rfl rfl ?_
 refine B2 13 rfl rfl rfl ?_
 refine B2 14 rfl rfl rfl ?_
 refine aP 15 rfl (M0 rfl rfl) rfl ?_
 refine aP 16 rfl (qA rfl) rfl ?_
 refine A1 17 ?_
 refine F0 rfl ?_
 refine aP 18 rfl (qA rfl) rfl ?_
 refine B8 (nS ?_)
 (refine H7 Pk.here (fun G5 hle5 hsl5 hno5 => ?_))
 refine tT (rB (rS ?_))
 refine D2 (rT rfl) (rC rfl (A3 rfl rfl)) (rT rfl) ?_
 (refine L3.two hsl5 (K6 _) (K6 _) (K6 _) ?_; rw [W6 (by omega)]; first | (rw [if_pos ⟨by assumption, by assumption⟩, if_neg (by omega)]; rfl) | (rw [if_neg (fun hc => by first | exact Bool.noConfusion (hc.1.symm.trans (by assumption)) | exact Bool.noConfusion (hc.2.symm.trans (by assumption)) | exact Bool.noConfusion (hc.symm.trans (by assumption)))]; rfl))
 refine R3 rfl rfl ((Y4 _ _ _ _ _ hre0 (K6 _))) rfl rfl rfl (fun h430 => ?_) (fun h430 => ?_)
 refine aP 9 rfl (qM rfl) rfl ?_
 refine aP 10 rfl (qM rfl) rfl ?_
 refine aP 11 rfl (B0 (j := 1) rfl rfl rfl (by omega)) rfl ?_
 refine aL 12 rfl (A2 rfl rfl (hat1 _) rfl) rfl ?_
 refine aL 13 rfl (A3 rfl rfl) rfl ?_
 refine P5 (j := 2) (j' := 14) (by kernel_rfl) ?_ ?_
 (refine D9 rfl (C8 rfl rfl rfl (by omega) (by unfold maxLen; omega) rfl) rfl rfl ?_; rintro _ ⟨b437, rfl⟩)
 refine A1 14 ?_
 refine R3 rfl rfl ((Y4 _ _ _ _ _ hre1 (K6 _))) rfl rfl rfl (fun h439 => ?_) (fun h439 => ?_)
 refine aP 15 rfl (H9 rfl rfl) rfl ?_
 refine aP 16 rfl (qA rfl) rfl ?_
 refine A1 17 ?_
 refine F0 rfl ?_
 refine aP 18 rfl (qA rfl) rfl ?_
 refine B8 (nS ?_)
 (refine H7 Pk.here (fun G5 hle5 hsl5 hno5 => ?_))
 refine tT (rB (rS ?_))
 refine D2 (rT rfl) (rC rfl (A3 rfl rfl)) (rT rfl) ?_
 (refine L3.two hsl5 (K6 _) (K6 _) (K6 _) ?_; rw [W6 (by omega)]; first | (rw [if_pos ⟨by assumption, by assumption⟩, if_neg (by omega)]; rfl) | (rw [if_neg (fun hc => by first | exact Bool.noConfusion (hc.1.symm.trans (by assumption)) | exact Bool.noConfusion (hc.2.symm.trans (by assumption)) | exact Bool.noConfusion (hc.symm.trans (by assumption)))]; rfl))
 refine aP 15 rfl (H9 rfl rfl) rfl ?_
 refine aP 16 rfl (qA rfl) rfl ?_
 refine A1 17 ?_
 refine F0 rfl ?_
 refine aP 18 rfl (qA rfl) rfl ?_
 refine B8 (nS ?_)
 (refine H7 Pk.here (fun G5 hle5 hsl5 hno5 => ?_))
 refine tT (rB (rS ?_))
 refine D2 (rT rfl) (rC rfl (A3 rfl rfl)) (rT rfl) ?_
 (refine L3.two hsl5 (K6 _) (K6 _) (K6 _) ?_; rw [W6 (by omega)]; first | (rw [if_pos ⟨by assumption, by assumption⟩, if_neg (by omega)]; rfl) | (rw [if_neg (fun hc => by first | exact Bool.noConfusion (hc.1.symm.trans (by assumption)) | exact Bool.noConfusion (hc.2.symm.trans (by assumption)) | exact Bool.noConfusion (hc.symm.trans (by assumption)))]; rfl))
 refine R3 rfl rfl ((Y4 _ _ _ _ _ hre1 (K6 _))) rfl rfl rfl (fun h466 => ?_) (fun h466 => ?_)
 refine aP 15 rfl (H9 rfl rfl) rfl ?_
 refine A1 2 ?_
 (refine D9 rfl (C8 rfl rfl rfl (by omega) (by unfold maxLen; omega) rfl) rfl rfl ?_; rintro _ ⟨b469, rfl⟩)
 refine aP 16 rfl (qA rfl) rfl ?_
 refine A1 17 ?_
 refine F0 rfl ?_
 refine aP 18 rfl (qA rfl) rfl ?_
 refine B8 (nS ?_)
 (refine H7 Pk.here (fun G5 hle5 hsl5 hno5 => ?_))
 refine tT (rB (rS ?_))
 refine D2 (rT rfl) (rC rfl (A3 rfl rfl)) (rT rfl) ?_
 (refine L3.two hsl5 (K6 _) (K6 _) (K6 _) ?_; rw [W6 (by omega)]; first | (rw [if_pos ⟨by assumption, by assumption⟩, if_neg (by omega)]; rfl) | (rw [if_neg (fun hc => by first | exact Bool.noConfusion (hc.1.symm.trans (by assumption)) | exact Bool.noConfusion (hc.2.symm.trans (by assumption)) | exact Bool.noConfusion (hc.symm.trans (by assumption)))]; rfl))
 refine aP 15 rfl (H9 rfl rfl) rfl ?_
 refine A1 2 ?_
 (refine D9 rfl (C8 rfl rfl rfl (by omega) (by unfold maxLen; omega) rfl) rfl rfl ?_; rintro _ ⟨b484, rfl⟩)
 refine aP 16 rfl (qA rfl) rfl ?_
 refine A1 17 ?_
 refine F0 rfl ?_
 refine aP 18 rfl (qA rfl) rfl ?_
 refine B8 (nS ?_)
 (refine H7 Pk.here (fun G5 hle5 hsl5 hno5 => ?_))
 refine tT (rB (rS ?_))
 refine D2 (rT rfl) (rC rfl (A3 rfl rfl)) (rT rfl) ?_
 (refine L3.two hsl5 (K6 _) (K6 _) (K6 _) ?_; rw [W6 (by omega)]; first | (rw [if_pos ⟨by assumption, by assumption⟩, if_neg (by omega)]; rfl) | (rw [if_neg (fun hc => by first | exact Bool.noConfusion (hc.1.symm.trans (by assumption)) | exact Bool.noConfusion (hc.2.symm.trans (by assumption)) | exact Bool.noConfusion (hc.symm.trans (by assumption)))]; rfl))
 refine aP 9 rfl (qM rfl) rfl ?_
 refine B2 10 rfl rfl rfl ?_
 refine B2 11 rfl rfl rfl ?_
 refine B2 12 rfl rfl rfl ?_
 refine B2 13 rfl rfl rfl ?_
 refine P5 (j := 2) (j' := 14) (by kernel_rfl) ?_ ?_
 (refine D9 rfl (C8 rfl rfl rfl (by omega) (by unfold maxLen; omega) rfl) rfl rfl ?_; rintro _ ⟨b503, rfl⟩)
 refine B2 14 rfl rfl rfl ?_
 refine aP 15 rfl (M0 rfl rfl) rfl ?_
 refine aP 16 rfl (qA rfl) rfl ?_
 refine A1 17 ?_
 refine F0 rfl ?_
 refine aP 18 rfl (qA rfl) rfl ?_
 refine B8 (nS ?_)
 (refine H7 Pk.here (fun G5 hle5 hsl5 hno5 => ?_))
 refine tT (rB (rS ?_))
 refine D2 (rT rfl) (rC rfl (A3 rfl rfl)) (rT rfl) ?_
 (refine L3.two hsl5 (K6 _) (K6 _) (K6 _) ?_; rw [W6 (by omega)]; first | (rw [if_pos ⟨by assumption, by assumption⟩, if_neg (by omega)]; rfl) | (rw [if_neg (fun hc => by first | exact Bool.noConfusion (hc.1.symm.trans (by assumption)) | exact Bool.noConfusion (hc.2.symm.trans (by assumption)) | exact Bool.noConfusion (hc.symm.trans (by assumption)))]; rfl))
 refine A47 (l' := [tt,tt,ff,tt,tt,tt,tt,tt,tt,tt,tt,tt,tt,tt,tt,ff,ff,ff,ff]) rfl rfl rfl rfl ?_
 refine aP 15 rfl (M0 rfl rfl) rfl ?_
 refine A1 2 ?_
 (refine D9 rfl (C8 rfl rfl rfl (by omega) (by unfold maxLen; omega) rfl) rfl rfl ?_; rintro _ ⟨b521, rfl⟩)
 refine aP 16 rfl (qA rfl) rfl ?_
 refine A1 17 ?_
 refine F0 rfl ?_
 refine aP 18 rfl (qA rfl) rfl ?_
 refine B8 (nS ?_)
 (refine H7 Pk.here (fun G5 hle5 hsl5 hno5 => ?_))
 refine tT (rB (rS ?_))
 refine D2 (rT rfl) (rC rfl (A3 rfl rfl)) (rT rfl) ?_
 (refine L3.two hsl5 (K6 _) (K6 _) (K6 _) ?_; rw [W6 (by omega)]; first | (rw [if_pos ⟨by assumption, by assumption⟩, if_neg (by omega)]; rfl) | (rw [if_neg (fun hc => by first | exact Bool.noConfusion (hc.1.symm.trans (by assumption)) | exact Bool.noConfusion (hc.2.symm.trans (by assumption)) | exact Bool.noConfusion (hc.symm.trans (by assumption)))]; rfl))
 refine sQ (qA rfl) rfl (sD (nS (cF rfl (tR ?_))))
 refine sB (qE rfl rfl) rfl rfl (fun h539 => ?_) (fun h539 => ?_)
 refine D0 ?_
 refine sE (A5 rfl) rfl (fun b547 => ?_)
 refine D8 ?_
 refine sP (Q0 rfl rfl (by omega)) rfl rfl ?_
 refine D7 ?_
 (have hl2 : n = 2 := hop.1 (by omega); obtain ⟨b0, o0, q0, d0, hp0, hat0, hre0, hg0⟩ := hsl.kidD hkl (i := 0) (by omega) (by omega); obtain ⟨b1, o1, q1, d1, hp1, hat1, hre1, hg1⟩ := hsl.kidD hkl (i := 1) (by omega) (by omega); cases hp0; cases hp1; refine C9 D1 rfl ?_)
 refine L0 (i := 0) (l' := [tt,ff,ff,ff,ff,ff,ff,ff,ff,ff,ff,ff,ff,ff,ff,ff,ff,ff,ff]) rfl C4 (A3 rfl rfl) rfl (by kernel_rfl) rfl rfl ?_
 refine aL 1 rfl (A3 rfl rfl) rfl ?_
 refine aL 3 rfl (A3 rfl rfl) rfl ?_
 refine aP 4 rfl (qM rfl) rfl ?_
 refine aP 5 rfl (B0 (j := 0) rfl rfl rfl (by omega)) rfl ?_
 refine aL 6 rfl (A2 rfl rfl (hat0 _) rfl) rfl ?_
 refine aL 7 rfl (A3 rfl rfl) rfl ?_
 refine P5 (j := 2) (j' := 8) (by kernel_rfl) ?_ ?_
 (refine D9 rfl (C8 rfl rfl rfl (by omega) (by unfold maxLen; omega) rfl) rfl rfl ?_; rintro _ ⟨b575, rfl⟩)
 refine A1 8 ?_
 refine R3 rfl rfl ((Y4 _ _ _ _ _ hre0 (K6 _))) rfl rfl rfl (fun h577 => ?_) (fun h577 => ?_)
 refine aP 9 rfl (qM rfl) rfl ?_
 refine aP 10 rfl (qM rfl) rfl ?_
 refine aP 11 rfl (B0 (j := 1) rfl rfl rfl (by omega)) rfl ?_
 refine aL 12 rfl (A2 rfl rfl (hat1 _) rfl) rfl ?_
 refine aL 13 rfl (A3 rfl rfl) rfl ?_
 refine A1 14 ?_
 refine R3 rfl rfl ((Y4 _ _ _ _ _ hre1 (K6 _))) rfl rfl rfl (fun h584 => ?_) (fun h584 => ?_)
 refine aP 15 rfl (H9 rfl rfl) rfl ?_
 refine aP 16 rfl (qA rfl) rfl ?_
 refine A1 17 ?_
 refine F0 rfl ?_
 refine aP 18 rfl (qA rfl) rfl ?_
 refine B8 (nS ?_)
 (refine H7 Pk.here (fun G5 hle5 hsl5 hno5 => ?_))
 refine tT (rB (rS ?_))
 refine D2 (rT rfl) (rC rfl (A3 rfl rfl)) (rT rfl) ?_
 (refine L3.two hsl5 (K6 _) (K6 _) (W7 _) ?_; rw [W6 (by omega)]; first | (rw [if_pos ⟨by assumption, by assumption⟩, if_pos (by omega)]; rfl) | (rw [if_neg (fun hc => by first | exact Bool.noConfusion (hc.1.symm.trans (by assumption)) | exact Bool.noConfusion (hc.2.symm.trans (by assumption)) | exact Bool.noConfusion (hc.symm.trans (by assumption)))]; rfl))
 refine aP 15 rfl (H9 rfl rfl) rfl ?_
 refine aP 16 rfl (qA rfl) rfl ?_
 refine A1 17 ?_
 refine F0 rfl ?_
 refine aP 18 rfl (qA rfl) rfl ?_
 refine B8 (nS ?_)
 (refine H7 Pk.here (fun G5 hle5 hsl5 hno5 => ?_))
 refine tT (rB (rS ?_))
 refine D2 (rT rfl) (rC rfl (A3 rfl rfl)) (rT rfl) ?_
 (refine L3.two hsl5 (K6 _) (K6 _) (W7 _) ?_; rw [W6 (by omega)]; first | (rw [if_pos ⟨by assumption, by assumption⟩, if_pos (by omega)]; rfl) | (rw [if_neg (fun hc => by first | exact Bool.noConfusion (hc.1.symm.trans (by assumption)) | exact Bool.noConfusion (hc.2.symm.trans (by assumption)) | exact Bool.noConfusion (hc.symm.trans (by assumption)))]; rfl))
 refine aP 9 rfl (qM rfl) rfl ?_
 refine B2 10 rfl rfl rfl ?_
 refine B2 11 rfl rfl rfl ?_
 refine B2 12 rfl rfl rfl ?_
 refine B2 13 rfl rfl rfl ?_
 refine B2 14 rfl rfl rfl ?_
 refine aP 15 rfl (M0 rfl rfl) rfl ?_
 refine aP 16 rfl (qA rfl) rfl ?_
 refine A1 17 ?_
 refine F0 rfl ?_
 refine aP 18 rfl (qA rfl) rfl ?_
 refine B8 (nS ?_)
 (refine H7 Pk.here (fun G5 hle5 hsl5 hno5 => ?_))
 refine tT (rB (rS ?_))
 refine D2 (rT rfl) (rC rfl (A3 rfl rfl)) (rT rfl) ?_
 (refine L3.two hsl5 (K6 _) (K6 _) (W7 _) ?_; rw [W6 (by omega)]; first | (rw [if_pos ⟨by assumption, by assumption⟩, if_pos (by omega)]; rfl) | (rw [if_neg (fun hc => by first | exact Bool.noConfusion (hc.1.symm.trans (by assumption)) | exact Bool.noConfusion (hc.2.symm.trans (by assumption)) | exact Bool.noConfusion (hc.symm.trans (by assumption)))]; rfl))
 refine R3 rfl rfl ((Y4 _ _ _ _ _ hre0 (K6 _))) rfl rfl rfl (fun h630 => ?_) (fun h630 => ?_)
 refine aP 9 rfl (qM rfl) rfl ?_
 refine aP 10 rfl (qM rfl) rfl ?_
 refine aP 11 rfl (B0 (j := 1) rfl rfl rfl (by omega)) rfl ?_
 refine aL 12 rfl (A2 rfl rfl (hat1 _) rfl) rfl ?_
 refine aL 13 rfl (A3 rfl rfl) rfl ?_
 refine P5 (j := 2) (j' := 14) (by kernel_rfl) ?_ ?_
 (refine D9 rfl (C8 rfl rfl rfl (by omega) (by unfold maxLen; omega) rfl) rfl rfl ?_; rintro _ ⟨b637, rfl⟩)
 refine A1 14 ?_
 refine R3 rfl rfl ((Y4 _ _ _ _ _ hre1 (K6 _))) rfl rfl rfl (fun h639 => ?_) (fun h639 => ?_)
 refine aP 15 rfl (H9 rfl rfl) rfl ?_
 refine aP 16 rfl (qA rfl) rfl ?_
 refine A1 17 ?_
 refine F0 rfl ?_
 refine aP 18 rfl (qA rfl) rfl ?_
 refine B8 (nS ?_)
 (refine H7 Pk.here (fun G5 hle5 hsl5 hno5 => ?_))
 refine tT (rB (rS ?_))
 refine D2 (rT rfl) (rC rfl (A3 rfl rfl)) (rT rfl) ?_
 (refine L3.two hsl5 (K6 _) (K6 _) (W7 _) ?_; rw [W6 (by omega)]; first | (rw [if_pos ⟨by assumption, by assumption⟩, if_pos (by omega)]; rfl) | (rw [if_neg (fun hc => by first | exact Bool.noConfusion (hc.1.symm.trans (by assumption)) | exact Bool.noConfusion (hc.2.symm.trans (by assumption)) | exact Bool.noConfusion (hc.symm.trans (by assumption)))]; rfl))
 refine aP 15 rfl (H9 rfl rfl) rfl ?_
 refine aP 16 rfl (qA rfl) rfl ?_
 refine A1 17 ?_
 refine F0 rfl ?_
 refine aP 18 rfl (qA rfl) rfl ?_
 refine B8 (nS ?_)
 (refine H7 Pk.here (fun G5 hle5 hsl5 hno5 => ?_))
 refine tT (rB (rS ?_))
 refine D2 (rT rfl) (rC rfl (A3 rfl rfl)) (rT rfl) ?_
 (refine L3.two hsl5 (K6 _) (K6 _) (W7 _) ?_; rw [W6 (by omega)]; first | (rw [if_pos ⟨by assumption, by assumption⟩, if_pos (by omega)]; rfl) | (rw [if_neg (fun hc => by first | exact Bool.noConfusion (hc.1.symm.trans (by assumption)) | exact Bool.noConfusion (hc.2.symm.trans (by assumption)) | exact Bool.noConfusion (hc.symm.trans (by assumption)))]; rfl))
 refine R3 rfl rfl ((Y4 _ _ _ _ _ hre1 (K6 _))) rfl rfl rfl (fun h666 => ?_) (fun h666 => ?_)
 refine aP 15 rfl (H9 rfl rfl) rfl ?_
 refine A1 2 ?_
 (refine D9 rfl (C8 rfl rfl rfl (by omega) (by unfold maxLen; omega) rfl) rfl rfl ?_; rintro _ ⟨b669, rfl⟩)
 refine aP 16 rfl (qA rfl) rfl ?_
 refine A1 17 ?_
 refine F0 rfl ?_
 refine aP 18 rfl (qA rfl) rfl ?_
 refine B8 (nS ?_)
 (refine H7 Pk.here (fun G5 hle5 hsl5 hno5 => ?_))
 refine tT (rB (rS ?_))
 refine D2 (rT rfl) (rC rfl (A3 rfl rfl)) (rT rfl) ?_
 (refine L3.two hsl5 (K6 _) (K6 _) (W7 _) ?_; rw [W6 (by omega)]; first | (rw [if_pos ⟨by assumption, by assumption⟩, if_pos (by omega)]; rfl) | (rw [if_neg (fun hc => by first | exact Bool.noConfusion (hc.1.symm.trans (by assumption)) | exact Bool.noConfusion (hc.2.symm.trans (by assumption)) | exact Bool.noConfusion (hc.symm.trans (by assumption)))]; rfl))
 refine aP 15 rfl (H9 rfl rfl) rfl ?_
 refine A1 2 ?_
 (refine D9 rfl (C8 rfl rfl rfl (by omega) (by unfold maxLen; omega) rfl) rfl rfl ?_; rintro _ ⟨b684, rfl⟩)
 refine aP 16 rfl (qA rfl) rfl ?_
 refine A1 17 ?_
 refine F0 rfl ?_
 refine aP 18 rfl (qA rfl) rfl ?_
 refine B8 (nS ?_)
 (refine H7 Pk.here (fun G5 hle5 hsl5 hno5 => ?_))
 refine tT (rB (rS ?_))
 refine D2 (rT rfl) (rC rfl (A3 rfl rfl)) (rT rfl) ?_
 (refine L3.two hsl5 (K6 _) (K6 _) (W7 _) ?_; rw [W6 (by omega)]; first | (rw [if_pos ⟨by assumption, by assumption⟩, if_pos (by omega)]; rfl) | (rw [if_neg (fun hc => by first | exact Bool.noConfusion (hc.1.symm.trans (by assumption)) | exact Bool.noConfusion (hc.2.symm.trans (by assumption)) | exact Bool.noConfusion (hc.symm.trans (by assumption)))]; rfl))
 refine aP 9 rfl (qM rfl) rfl ?_
 refine B2 10 rfl rfl rfl ?_
 refine B2 11 rfl rfl rfl ?_
 refine B2 12 rfl rfl rfl ?_
 refine B2 13 rfl rfl rfl ?_
 refine P5 (j := 2) (j' := 14) (by kernel_rfl) ?_ ?_
 (refine D9 rfl (C8 rfl rfl rfl (by omega) (by unfold maxLen; omega) rfl) rfl rfl ?_; rintro _ ⟨b703, rfl⟩)
 refine B2 14 rfl rfl rfl ?_
 refine aP 15 rfl (M0 rfl rfl) rfl ?_
 refine aP 16 rfl (qA rfl) rfl ?_
 refine A1 17 ?_
 refine F0 rfl ?_
 refine aP 18 rfl (qA rfl) rfl ?_
 refine B8 (nS ?_)
 (refine H7 Pk.here (fun G5 hle5 hsl5 hno5 => ?_))
 refine tT (rB (rS ?_))
 refine D2 (rT rfl) (rC rfl (A3 rfl rfl)) (rT rfl) ?_
 (refine L3.two hsl5 (K6 _) (K6 _) (W7 _) ?_; rw [W6 (by omega)]; first | (rw [if_pos ⟨by assumption, by assumption⟩, if_pos (by omega)]; rfl) | (rw [if_neg (fun hc => by first | exact Bool.noConfusion (hc.1.symm.trans (by assumption)) | exact Bool.noConfusion (hc.2.symm.trans (by assumption)) | exact Bool.noConfusion (hc.symm.trans (by assumption)))]; rfl))
 refine A47 (l' := [tt,tt,ff,tt,tt,tt,tt,tt,tt,tt,tt,tt,tt,tt,tt,ff,ff,ff,ff]) rfl rfl rfl rfl ?_
 refine aP 15 rfl (M0 rfl rfl) rfl ?_
 refine A1 2 ?_
 (refine D9 rfl (C8 rfl rfl rfl (by omega) (by unfold maxLen; omega) rfl) rfl rfl ?_; rintro _ ⟨b721, rfl⟩)
 refine aP 16 rfl (qA rfl) rfl ?_
 refine A1 17 ?_
 refine F0 rfl ?_
 refine aP 18 rfl (qA rfl) rfl ?_
 refine B8 (nS ?_)
 (refine H7 Pk.here (fun G5 hle5 hsl5 hno5 => ?_))
 refine tT (rB (rS ?_))
 refine D2 (rT rfl) (rC rfl (A3 rfl rfl)) (rT rfl) ?_
 (refine L3.two hsl5 (K6 _) (K6 _) (W7 _) ?_; rw [W6 (by omega)]; first | (rw [if_pos ⟨by assumption, by assumption⟩, if_pos (by omega)]; rfl) | (rw [if_neg (fun hc => by first | exact Bool.noConfusion (hc.1.symm.trans (by assumption)) | exact Bool.noConfusion (hc.2.symm.trans (by assumption)) | exact Bool.noConfusion (hc.symm.trans (by assumption)))]; rfl))
 refine sQ (qA rfl) rfl (sD (nS (cF rfl (tS (tR ?_)))))
 refine sB (qE rfl rfl) rfl rfl (fun h740 => ?_) (fun h740 => ?_)
 refine sQ (qA rfl) rfl (sD (nS (qT rfl (tS (tS ?_)))))
 (have hl3 : n = 3 := hop.2.1 (by omega); obtain ⟨b0, o0, q0, d0, hp0, hat0, hre0, hg0⟩ := hsl.kidD hkl (i := 0) (by omega) (by omega); obtain ⟨b1, o1, q1, d1, hp1, hat1, hre1, hg1⟩ := hsl.kidD hkl (i := 1) (by omega) (by omega); cases hp0; cases hp1; obtain ⟨b2, o2, q2, d2, hp2, hat2, hre2, hg2⟩ := hsl.kidD hkl (i := 2) (by omega) (by omega); cases hp2; refine C9 D1 rfl ?_)
 refine H6 (i := 0) (l' := [tt,ff,ff,ff,ff,ff,ff,ff,ff,ff,ff,ff,ff,ff,ff,ff]) rfl C4 (qM rfl) rfl (by kernel_rfl) rfl rfl ?_
 refine aP 1 rfl (B0 (j := 0) rfl rfl rfl (by omega)) rfl ?_
 refine aL 2 rfl (A2 rfl rfl (hat0 _) rfl) rfl ?_
 refine aL 3 rfl (A3 rfl rfl) rfl ?_
 refine A1 4 ?_
 refine R3 rfl rfl ((Y4 _ _ _ _ _ hre0 (W7 _))) rfl rfl rfl (fun h753 => ?_) (fun h753 => ?_)
 refine aP 5 rfl (S6 rfl) rfl ?_
 refine aP 6 rfl (qM rfl) rfl ?_
 refine aP 7 rfl (qM rfl) rfl ?_
 refine aP 8 rfl (B0 (j := 1) rfl rfl rfl (by omega)) rfl ?_
 refine aL 9 rfl (A2 rfl rfl (hat1 _) rfl) rfl ?_
 refine aP 10 rfl (qM rfl) rfl ?_
 refine aP 11 rfl (B0 (j := 2) rfl rfl rfl (by omega)) rfl ?_
 refine aL 12 rfl (A2 rfl rfl (hat2 _) rfl) rfl ?_
 refine A1 13 ?_
 refine R3 rfl rfl ((Y4 _ _ _ _ _ hre1 hre2)) rfl rfl rfl (fun h763 => ?_) (fun h763 => ?_)
 refine aP 14 rfl (S6 rfl) rfl ?_
 refine aP 15 rfl (M0 rfl rfl) rfl ?_
 refine B8 (nS (cF rfl (tK (nS (tS ?_)))))
 (have hl3 : n = 3 := hop.2.1 (by omega); obtain ⟨b0, o0, q0, d0, hp0, hat0, hre0, hg0⟩ := hsl.kidD hkl (i := 0) (by omega) (by omega); obtain ⟨b1, o1, q1, d1, hp1, hat1, hre1, hg1⟩ := hsl.kidD hkl (i := 1) (by omega) (by omega); cases hp0; cases hp1; obtain ⟨b2, o2, q2, d2, hp2, hat2, hre2, hg2⟩ := hsl.kidD hkl (i := 2) (by omega) (by omega); cases hp2; refine C9 D1 rfl ?_)
 refine H6 (i := 0) (l' := [tt,ff,ff,ff,ff,ff,ff,ff,ff]) rfl C4 (qM rfl) rfl (by kernel_rfl) rfl rfl ?_
 refine aP 1 rfl (B0 (j := 1) rfl rfl rfl (by omega)) rfl ?_
 refine aL 2 rfl (A2 rfl rfl (hat1 _) rfl) rfl ?_
 refine aP 3 rfl (qM rfl) rfl ?_
 refine aP 4 rfl (B0 (j := 2) rfl rfl rfl (by omega)) rfl ?_
 refine aL 5 rfl (A2 rfl rfl (hat2 _) rfl) rfl ?_
 refine P5 (j := 6) (j' := 7) (by kernel_rfl) ?_ ?_
 (refine E1 rfl rfl (A8s _ _ _ _ _ (by assumption) (A2T har (by omega)) (A2T har (by omega)) hre1 hre2) rfl rfl rfl (fun v GM hleM hh => ?_); obtain ⟨cM, rfl, hrM⟩ := hh; obtain ⟨p7, c7, e7, rfl, _⟩ := hrM.open)
 refine A1 7 ?_
 (refine D9 rfl (A5 rfl) rfl rfl ?_; rintro _ ⟨b782, rfl⟩)
 refine A1 8 ?_
 refine F0 rfl ?_
 refine B8 (nS (tS ?_))
 (have hl3 : n = 3 := hop.2.1 (by omega); obtain ⟨b0, o0, q0, d0, hp0, hat0, hre0, hg0⟩ := hsl.kidD hkl (i := 0) (by omega) (by omega); obtain ⟨b1, o1, q1, d1, hp1, hat1, hre1, hg1⟩ := hsl.kidD hkl (i := 1) (by omega) (by omega); cases hp0; cases hp1; obtain ⟨b2, o2, q2, d2, hp2, hat2, hre2, hg2⟩ := hsl.kidD hkl (i := 2) (by omega) (by omega); cases hp2; refine C9 D1 rfl ?_)
 refine L0 (i := 0) (l' := [tt,ff,ff,ff,ff,ff,ff,ff]) rfl C4 (A3 rfl rfl) rfl (by kernel_rfl) rfl rfl ?_
 refine aL 1 rfl (A3 rfl rfl) rfl ?_
 refine aL 2 rfl (A3 rfl rfl) rfl ?_
 refine aL 4 rfl (A3 rfl rfl) rfl ?_
 refine A1 3 ?_
 (refine D9 rfl (C8 rfl rfl rfl (by omega) (by unfold maxLen; omega) rfl) rfl rfl ?_; rintro _ ⟨b794, rfl⟩)
 refine aP 5 rfl (qA rfl) rfl ?_
 refine A1 6 ?_
 refine F0 rfl ?_
 refine aP 7 rfl (qA rfl) rfl ?_
 refine B8 (nS ?_)
 (refine H7 Pk.here (fun G5 hle5 hsl5 hno5 => ?_))
 refine tT (rB (rS ?_))
 refine D2 (rT rfl) (rC rfl (A3 rfl rfl)) (rT rfl) ?_
 (have hk1 : k = 9 := (by omega); subst hk1; exact L3.three hsl5 (W7 _) (hrM.mono hle5) (hrM.mono hle5) (hrM.mono hle5) (by rw [mW9, if_pos ⟨by assumption, by assumption⟩]; rfl))
 (refine D9 rfl (A5 rfl) rfl rfl ?_; rintro _ ⟨b807, rfl⟩)
 refine A1 6 ?_
 (refine E1 rfl rfl (A8s _ _ _ _ _ (by assumption) (A2T har (by omega)) (A2T har (by omega)) hre1 hre2) rfl rfl rfl (fun v GM hleM hh => ?_); obtain ⟨cM, rfl, hrM⟩ := hh; obtain ⟨p7, c7, e7, rfl, _⟩ := hrM.open)
 refine A1 8 ?_
 refine F0 rfl ?_
 refine B8 (nS (tS ?_))
 (have hl3 : n = 3 := hop.2.1 (by omega); obtain ⟨b0, o0, q0, d0, hp0, hat0, hre0, hg0⟩ := hsl.kidD hkl (i := 0) (by omega) (by omega); obtain ⟨b1, o1, q1, d1, hp1, hat1, hre1, hg1⟩ := hsl.kidD hkl (i := 1) (by omega) (by omega); cases hp0; cases hp1; obtain ⟨b2, o2, q2, d2, hp2, hat2, hre2, hg2⟩ := hsl.kidD hkl (i := 2) (by omega) (by omega); cases hp2; refine C9 D1 rfl ?_)
 refine L0 (i := 0) (l' := [tt,ff,ff,ff,ff,ff,ff,ff]) rfl C4 (A3 rfl rfl) rfl (by kernel_rfl) rfl rfl ?_
 refine aL 1 rfl (A3 rfl rfl) rfl ?_
 refine aL 2 rfl (A3 rfl rfl) rfl ?_
 refine aL 4 rfl (A3 rfl rfl) rfl ?_
 refine A1 3 ?_
 (refine D9 rfl (C8 rfl rfl rfl (by omega) (by unfold maxLen; omega) rfl) rfl rfl ?_; rintro _ ⟨b821, rfl⟩)
 refine aP 5 rfl (qA rfl) rfl ?_
 refine A1 6 ?_
 refine F0 rfl ?_
 refine aP 7 rfl (qA rfl) rfl ?_
 refine B8 (nS ?_)
 (refine H7 Pk.here (fun G5 hle5 hsl5 hno5 => ?_))
 refine tT (rB (rS ?_))
 refine D2 (rT rfl) (rC rfl (A3 rfl rfl)) (rT rfl) ?_
 (have hk1 : k = 9 := (by omega); subst hk1; exact L3.three hsl5 (W7 _) (hrM.mono hle5) (hrM.mono hle5) (hrM.mono hle5) (by rw [mW9, if_pos ⟨by assumption, by assumption⟩]; rfl))
 refine aP 14 rfl (Z9 rfl) rfl ?_
 refine aP 15 rfl (M0 rfl rfl) rfl ?_
 refine I7 ?_
 refine D2 (rT rfl) (rC rfl (A3 rfl rfl)) (rT rfl) ?_
 (have hk1 : k = 9 := (by omega); subst hk1; exact L3.nil (u := B1) (J8 _ ⟨by omega, by omega⟩) (by rw [mW9, if_neg (fun hc => by first | exact Bool.noConfusion (hc.1.symm.trans (by assumption)) | exact Bool.noConfusion (hc.2.symm.trans (by assumption)) | exact Bool.noConfusion (hc.symm.trans (by assumption)))]; rfl))
 refine aP 5 rfl (Z9 rfl) rfl ?_
 refine aP 6 rfl (qM rfl) rfl ?_
 refine B2 7 rfl rfl rfl ?_
 refine B2 8 rfl rfl rfl ?_
 refine B2 9 rfl rfl rfl ?_
 refine B2 10 rfl rfl rfl ?_
 refine B2 11 rfl rfl rfl ?_
 refine B2 12 rfl rfl rfl ?_
 refine B2 13 rfl rfl rfl ?_
 refine B2 14 rfl rfl rfl ?_
 refine aP 15 rfl (H9 rfl rfl) rfl ?_
 refine I7 ?_
 refine D2 (rT rfl) (rC rfl (A3 rfl rfl)) (rT rfl) ?_
 (have hk1 : k = 9 := (by omega); subst hk1; exact L3.nil (u := B1) (J8 _ ⟨by omega, by omega⟩) (by rw [mW9, if_neg (fun hc => by first | exact Bool.noConfusion (hc.1.symm.trans (by assumption)) | exact Bool.noConfusion (hc.2.symm.trans (by assumption)) | exact Bool.noConfusion (hc.symm.trans (by assumption)))]; rfl))
 refine sQ (qA rfl) rfl (sD (nS (cF rfl (tS (tR ?_)))))
 refine sB (qE rfl rfl) rfl rfl (fun h887 => ?_) (fun h887 => ?_)
 refine sQ (qA rfl) rfl (sD (nS (qT rfl (tS ?_))))
 (have hl2 : n = 2 := hop.1 (by omega); obtain ⟨b0, o0, q0, d0, hp0, hat0, hre0, hg0⟩ := hsl.kidD hkl (i := 0) (by omega) (by omega); obtain ⟨b1, o1, q1, d1, hp1, hat1, hre1, hg1⟩ := hsl.kidD hkl (i := 1) (by omega) (by omega); cases hp0; cases hp1; refine C9 D1 rfl ?_)
 refine H6 (i := 0) (l' := [tt,ff,ff,ff,ff,ff,ff,ff,ff,ff]) rfl C4 (qM rfl) rfl (by kernel_rfl) rfl rfl ?_
 refine aP 1 rfl (B0 (j := 0) rfl rfl rfl (by omega)) rfl ?_
 refine aL 2 rfl (A2 rfl rfl (hat0 _) rfl) rfl ?_
 refine aP 3 rfl (qM rfl) rfl ?_
 refine aP 4 rfl (B0 (j := 1) rfl rfl rfl (by omega)) rfl ?_
 refine aL 5 rfl (A2 rfl rfl (hat1 _) rfl) rfl ?_
 refine A1 6 ?_
 (refine E1 rfl rfl (A1R 5 _ _ _ _ _ ⟨by omega, by omega⟩ hre0 hre1) rfl rfl rfl (fun v GB hleB hh => ?_); obtain ⟨cB, rfl, hrB⟩ := hh; obtain ⟨p7, c7, e7, rfl, _⟩ := hrB.open)
 refine aP 7 rfl (qA rfl) rfl ?_
 refine A1 8 ?_
 refine F0 rfl ?_
 refine aP 9 rfl (qA rfl) rfl ?_
 refine B8 (nS (tT (rB (rS ?_))))
 refine D2 (rT rfl) (rC rfl (A3 rfl rfl)) (rT rfl) ?_
 (have hk1 : k = 10 := (by omega); subst hk1; exact L3.nil hrB A8A)
 refine sQ (qA rfl) rfl (sD (nS (cF rfl (tS (tR ?_)))))
 refine sB (qE rfl rfl) rfl rfl (fun h919 => ?_) (fun h919 => ?_)
 refine sQ (qA rfl) rfl (sD (nS (qT rfl (tS ?_))))
 (have hl1 : n = 1 := hop.2.2 (by omega); obtain ⟨b0, o0, q0, d0, hp0, hat0, hre0, hg0⟩ := hsl.kidD hkl (i := 0) (by omega) (by omega); cases hp0; refine C9 D1 rfl ?_)
 refine H6 (i := 0) (l' := [tt,ff,ff,ff,ff,ff,ff,ff,ff,ff,ff,ff,ff,ff]) rfl C4 (A9 rfl) rfl (by kernel_rfl) rfl rfl ?_
 refine aL 1 rfl (A3 rfl rfl) rfl ?_
 refine aP 3 rfl (A9 rfl) rfl ?_
 refine aL 4 rfl (A3 rfl rfl) rfl ?_
 refine aP 5 rfl (qM rfl) rfl ?_
 refine aP 6 rfl (B0 (j := 0) rfl rfl rfl (by omega)) rfl ?_
 refine aL 7 rfl (A2 rfl rfl (hat0 _) rfl) rfl ?_
 refine aP 8 rfl (A9 rfl) rfl ?_
 refine aL 9 rfl (A3 rfl rfl) rfl ?_
 refine P5 (j := 2) (j' := 10) (by kernel_rfl) ?_ ?_
 (refine D9 rfl (C8 rfl rfl rfl (by omega) (by unfold maxLen; omega) rfl) rfl rfl ?_; rintro _ ⟨b936, rfl⟩)
 refine A1 10 ?_
 refine R3 rfl rfl ((Y4 _ _ _ _ _ hre0 hrty)) rfl rfl rfl (fun h938 => ?_) (fun h938 => ?_)
 refine aP 11 rfl (qA rfl) rfl ?_
 refine A1 12 ?_
 refine F0 rfl ?_
 refine aP 13 rfl (qA rfl) rfl ?_
 refine B8 (nS ?_)
 (refine H7 Pk.here (fun G5 hle5 hsl5 hno5 => ?_))
 refine tT (rB (rS ?_))
 refine D2 (rT rfl) (rC rfl (A3 rfl rfl)) (rT rfl) ?_
 (have hk1 : k = 13 := (by omega); subst hk1; refine L3.one hsl5 (hrty.mono hle5) (hrty.mono hle5) ?_; rw [A3z]; split <;> first | rfl | (exfalso; simp_all; done))
 refine aP 11 rfl (qA rfl) rfl ?_
 refine A1 12 ?_
 refine F0 rfl ?_
 refine aP 13 rfl (qA rfl) rfl ?_
 refine B8 (nS ?_)
 (refine H7 Pk.here (fun G5 hle5 hsl5 hno5 => ?_))
 refine tT (rB (rS ?_))
 refine D2 (rT rfl) (rC rfl (A3 rfl rfl)) (rT rfl) ?_
 (have hk1 : k = 13 := (by omega); subst hk1; refine L3.one hsl5 (hrty.mono hle5) (hrty.mono hle5) ?_; rw [A3z]; split <;> first | rfl | (exfalso; simp_all; done))
 refine R3 rfl rfl ((Y4 _ _ _ _ _ hre0 hrty)) rfl rfl rfl (fun h963 => ?_) (fun h963 => ?_)
 refine A1 2 ?_
 (refine D9 rfl (C8 rfl rfl rfl (by omega) (by unfold maxLen; omega) rfl) rfl rfl ?_; rintro _ ⟨b965, rfl⟩)
 refine aP 11 rfl (qA rfl) rfl ?_
 refine A1 12 ?_
 refine F0 rfl ?_
 refine aP 13 rfl (qA rfl) rfl ?_
 refine B8 (nS ?_)
 (refine H7 Pk.here (fun G5 hle5 hsl5 hno5 => ?_))
 refine tT (rB (rS ?_))
 refine D2 (rT rfl) (rC rfl (A3 rfl rfl)) (rT rfl) ?_
 (have hk1 : k = 13 := (by omega); subst hk1; refine L3.one hsl5 (hrty.mono hle5) (hrty.mono hle5) ?_; rw [A3z]; split <;> first | rfl | (exfalso; simp_all; done))
 refine A1 2 ?_
 (refine D9 rfl (C8 rfl rfl rfl (by omega) (by unfold maxLen; omega) rfl) rfl rfl ?_; rintro _ ⟨b979, rfl⟩)
 refine aP 11 rfl (qA rfl) rfl ?_
 refine A1 12 ?_
 refine F0 rfl ?_
 refine aP 13 rfl (qA rfl) rfl ?_
 refine B8 (nS ?_)
 (refine H7 Pk.here (fun G5 hle5 hsl5 hno5 => ?_))
 refine tT (rB (rS ?_))
 refine D2 (rT rfl) (rC rfl (A3 rfl rfl)) (rT rfl) ?_
 (have hk1 : k = 13 := (by omega); subst hk1; refine L3.one hsl5 (hrty.mono hle5) (hrty.mono hle5) ?_; rw [A3z]; split <;> first | rfl | (exfalso; simp_all; done))
 refine H8 ?_
 (have hk11 : k = 11 ∨ k = 12 := (by omega); have hl1 : n = 1 := hop.2.2 (by omega); obtain ⟨b0, o0, q0, d0, hp0, hat0, hre0, hg0⟩ := hsl.kidD hkl (i := 0) (by omega) (by omega); cases hp0; refine sP (B0 (j := 0) rfl rfl rfl (by omega)) rfl rfl ?_)
 refine sL (A2 rfl rfl (hat0 _) rfl) rfl rfl ?_
 (refine D3 rfl (A8r 5 (h.getD 0 B1) G _ (.inr rfl) (A2T har (by omega)) hre0) rfl rfl (fun v G1 hle1 hh => ?_); obtain ⟨ma, mca, mb, mcb, rfl, hma, hmb, hma2, hmb2, hmm⟩ := hh; obtain ⟨p1, c1, e1, rfl, _⟩ := hma.open; obtain ⟨p2, c2, e2, rfl, _⟩ := hmb.open)
 refine I8 ?_
 refine sE (A5 rfl) rfl (fun b1009 => ?_)
 refine sE (A5 rfl) rfl (fun b1010 => ?_)
 refine D8 ?_
 refine sE (A5 rfl) rfl (fun b1019 => ?_)
 refine D8 ?_
 refine sB (qE rfl rfl) rfl rfl (fun h1028 => ?_) (fun h1028 => ?_)
 refine D7 ?_
 (have hl1 : n = 1 := hop.2.2 (by omega); obtain ⟨b0, o0, q0, d0, hp0, hat0, hre0, hg0⟩ := hsl.kidD hkl (i := 0) (by omega) (by omega); cases hp0; refine C9 D1 rfl ?_)
 refine L0 (i := 0) (l' := [tt,ff,ff,ff,ff,ff,ff,ff,ff]) rfl C4 (A3 rfl rfl) rfl (by kernel_rfl) rfl rfl ?_
 refine aL 1 rfl (A3 rfl rfl) rfl ?_
 refine aL 4 rfl (A3 rfl rfl) rfl ?_
 refine aP 5 rfl (qM rfl) rfl ?_
 refine A1 2 ?_
 (refine E1 rfl rfl (A1R _ ma mb _ _ _ ⟨by omega, by omega⟩ hma hmb) rfl rfl rfl (fun v GB hleB hh => ?_); obtain ⟨cB, rfl, hrB⟩ := hh; obtain ⟨p7, c7, e7, rfl, _⟩ := hrB.open; have hma' := hma.mono hleB; have hmb' := hmb.mono hleB)
 refine A1 3 ?_
 (refine D9 rfl (C8 rfl rfl rfl (by omega) (by unfold maxLen; omega) rfl) rfl rfl ?_; rintro _ ⟨b1046, rfl⟩)
 refine aP 6 rfl (qA rfl) rfl ?_
 refine A1 7 ?_
 refine F0 rfl ?_
 refine aP 8 rfl (qA rfl) rfl ?_
 refine B8 (nS ?_)
 (refine H7 Pk.here (fun G5 hle5 hsl5 hno5 => ?_))
 refine tT ?_
 refine D2 (rT rfl) (rC rfl (A3 rfl rfl)) (rT rfl) ?_
 (refine L3.one hsl5 (hrB.mono hle5) (hmb'.mono hle5) ?_; rw [A5R (by omega)]; cases hq : Z4 5 (h.getD 0 B1) with | none => rfl | some q => (have hq2 := hmm q hq; subst hq2; dsimp only; rw [if_pos (by omega)]; rfl))
 refine sD (nS (cF rfl (tK (nS (tS ?_)))))
 (have hl1 : n = 1 := hop.2.2 (by omega); obtain ⟨b0, o0, q0, d0, hp0, hat0, hre0, hg0⟩ := hsl.kidD hkl (i := 0) (by omega) (by omega); cases hp0; refine C9 D1 rfl ?_)
 refine L0 (i := 0) (l' := [tt,ff,ff,ff,ff,ff,ff,ff,ff]) rfl C4 (A3 rfl rfl) rfl (by kernel_rfl) rfl rfl ?_
 refine aL 1 rfl (A3 rfl rfl) rfl ?_
 refine aL 4 rfl (A3 rfl rfl) rfl ?_
 refine aP 5 rfl (qM rfl) rfl ?_
 refine A1 2 ?_
 (refine E1 rfl rfl (A1R _ ma mb _ _ _ ⟨by omega, by omega⟩ hma hmb) rfl rfl rfl (fun v GB hleB hh => ?_); obtain ⟨cB, rfl, hrB⟩ := hh; obtain ⟨p7, c7, e7, rfl, _⟩ := hrB.open; have hma' := hma.mono hleB; have hmb' := hmb.mono hleB)
 refine A1 3 ?_
 (refine D9 rfl (C8 rfl rfl rfl (by omega) (by unfold maxLen; omega) rfl) rfl rfl ?_; rintro _ ⟨b1071, rfl⟩)
 refine aP 6 rfl (qA rfl) rfl ?_
 refine A1 7 ?_
 refine F0 rfl ?_
 refine aP 8 rfl (qA rfl) rfl ?_
 refine B8 (nS ?_)
 (refine H7 Pk.here (fun G5 hle5 hsl5 hno5 => ?_))
 refine tT ?_
 refine D2 (rT rfl) (rC rfl (A3 rfl rfl)) (rT rfl) ?_
 (refine L3.one hsl5 (hrB.mono hle5) (hma'.mono hle5) ?_; rw [A5R (by omega)]; cases hq : Z4 5 (h.getD 0 B1) with | none => rfl | some q => (have hq2 := hmm q hq; subst hq2; dsimp only; rw [if_neg (by omega)]; rfl))
theorem A5S {cx : Cx} : ∀ {ks : List Tm} {i : Nat} {us : List Ty} {u : Ty} (hi : i < ks.length), N8 cx (ks.take i) = some us → E6 cx ks[i] = some u → N8 cx (ks.take (i + 1)) = some (us ++ [u])
 | [], i, us, u, hi, _, _ => by simp at hi
 | t :: ts, 0, us, u, hi, h, h2 => by
  simp only [List.take_zero, N8] at h
  cases h
  simp only [List.getElem_cons_zero] at h2
  simp [N8, h2]
 | t :: ts, i + 1, us, u, hi, h, h2 => by
  simp only [List.take_succ_cons, N8] at h ⊢
  simp only [List.getElem_cons_succ] at h2
  split at h
  ·cases h
  ·rename_i v hv
   split at h
   ·cases h
   ·rename_i vs hvs
    cases h
    rw [A5S (by simpa using hi) hvs h2]
    rfl
theorem A5T {cx : Cx} : ∀ {ks : List Tm} {i : Nat} (hi : i < ks.length), E6 cx ks[i] = none → N8 cx ks = none
 | [], i, hi, _ => by simp at hi
 | t :: ts, 0, hi, h2 => by
  simp only [List.getElem_cons_zero] at h2
  simp [N8, h2]
 | t :: ts, i + 1, hi, h2 => by
  simp only [List.getElem_cons_succ] at h2
  have := A5T (ks := ts) (i := i) (by simpa using hi) h2
  rw [N8, this]
  split <;> rfl
theorem A8B {cx : Cx} {k : Int} {nm : ByteArray} {ty : Ty} {h w : List Ty} {t : Ty} (he : A0J cx k nm ty h = some (w, t)) : M1 t = true ∧ Q5 cx k nm ty h = some (w, t) := by
 unfold A0J at he
 split at he
 ·rename_i w' t' hw
  split at he
  ·cases he; exact ⟨by assumption, hw⟩
  ·cases he
 ·cases he
theorem A5U {cx : Cx} {k : Int} {nm : ByteArray} {num : Int} {ty fr : Ty} {lb : Int} {ks : List Tm} {t : Ty} (h14 : k = 14 → M1 ty = true) (h : E6 cx (.mk k nm num ty fr lb ks) = some t) : M1 t = true := by
 rw [E6] at h
 split at h
 ·cases h
 ·split at h
  ·rename_i hk
   split at h
   ·cases h; exact h14 hk
   ·cases h
  ·split at h
   ·cases h
   ·rename_i w u hw
    split at h
    ·cases h; exact (A8B hw).1
    ·cases h
theorem A4v {cx : Cx} {e : Tm} {D N d : Int} {t : Ty} (hv : P2 D N e d = true) (h : E6 cx e = some t) : D4 t := by
 obtain ⟨k, nm, num, ty, fr, lb, ks⟩ := e
 have hn := V7.1 (A00 hv).2.2.1
 exact (A4n (A5U (fun hk => hn.2.2.2.2.2.1 (by omega)) h)).1
theorem B2Q {cx : Cx} {k : Int} {nm : ByteArray} {ty : Ty} {h w : List Ty} {t : Ty} (hop : (k = 6 ∨ k = 7 ∨ k = 8 ∨ k = 10 → h.length = 2) ∧ (k = 9 → h.length = 3) ∧ (k = 5 ∨ k = 11 ∨ k = 12 ∨ k = 13 → h.length = 1)) (hk : 1 ≤ k ∧ k ≤ 14) (h14 : k ≠ 14) (he : Q5 cx k nm ty h = some (w, t)) : w.length ≤ h.length := by
 have hkk : k = 1 ∨ k = 2 ∨ (k = 3 ∨ k = 4) ∨ k = 5 ∨ k = 6 ∨ (k = 7 ∨ k = 8) ∨ k = 9 ∨ k = 10 ∨ (k = 11 ∨ k = 12) ∨ k = 13 := by omega
 rcases hkk with rfl | rfl | hk | rfl | rfl | hk | rfl | rfl | hk | rfl
 ·rw [mW1] at he; split at he <;> cases he; simp
 ·rw [mW2] at he; cases he; simp
 ·rw [A5Q hk] at he; cases he; simp
 ·rw [mW5] at he; cases he; simp
 ·rw [mW6] at he
  split at he
  ·split at he <;> cases he
   have := hop.1 (by omega); simp [this]
  ·cases he
 ·rw [W6 hk] at he
  split at he <;> cases he
  have := hop.1 (by omega); simp [this]
 ·rw [mW9] at he
  split at he <;> cases he
  have := hop.2.1 (by omega); simp [this]
 ·rw [A8A] at he; cases he; simp
 ·rw [A5R hk] at he
  split at he
  ·cases he; have := hop.2.2 (by omega); simp [this]
  ·cases he
 ·rw [A3z] at he
  split at he <;> cases he
  have := hop.2.2 (by omega); simp [this]
theorem B2R {w h : List Ty} {i : Nat} (hw : i < w.length) (hh : i < h.length) (hs : K9 w[i] h[i] = true) : R5 (w.drop i) (h.drop i) = R5 (w.drop (i + 1)) (h.drop (i + 1)) := by
 rw [List.drop_eq_getElem_cons hw, List.drop_eq_getElem_cons hh, R5, hs, Bool.true_and]
theorem B2S {w h : List Ty} {i : Nat} (hw : i < w.length) (hh : i < h.length) (hs : K9 w[i] h[i] = false) : R5 (w.drop i) (h.drop i) = false := by
 rw [List.drop_eq_getElem_cons hw, List.drop_eq_getElem_cons hh, R5, hs, Bool.false_and]
theorem B2T {w h : List Ty} {i : Nat} (hw : i = w.length) : R5 (w.drop i) (h.drop i) = true := by
 subst hw; rw [List.drop_length, R5]
theorem S1.snoc {G G' : IM} {cx : Cx} {n : Nat} {p' : Option Addr} {c' : Nat} {es : List (List Value)} {e : List Value} {nm : ByteArray} {t : Ty} (h1 : n = cx.length) (hl : es.length = n) (h2 : ∀ x ∈ es, x.length = 3) (h3 : ∀ x ∈ es, x.all (·.oneCell') = true)
  (h4 : ∀ (i : Nat) (b : ByteArray × Ty), cx[i]? = some b → ∃ e, es[i]? = some e ∧ A2N G b e) (hg : B6 G G') (he : A2N G' (nm, t) e) (hs : Sl G' p' (n + 1) c' 3 (es.flatten ++ e)) : S1 G' (cx ++ [(nm, t)]) p' (n + 1) c' := by
 have hel : e.length = 3 ∧ e.all (·.oneCell') = true := by obtain ⟨q, d, rfl, _⟩ := he; exact ⟨rfl, rfl⟩
 refine ⟨by simp [h1], es ++ [e], C5.of (by simpa using hs) (by simp [hl]) ?_ ?_, ?_⟩
 ·simp only [List.forall_mem_append, List.forall_mem_singleton]; exact ⟨h2, hel.1⟩
 ·simp only [List.forall_mem_append, List.forall_mem_singleton]; exact ⟨h3, hel.2⟩
 ·intro i b hb
  rw [List.getElem?_append] at hb ⊢
  split at hb
  ·rename_i hi
   obtain ⟨e', he', hr⟩ := h4 i b hb
   rw [if_pos (by omega)]
   exact ⟨e', he', hr.mono hg⟩
  ·rename_i hi
   have : i - cx.length = 0 := by
    apply Classical.byContradiction; intro hc
    rw [List.getElem?_eq_none (by simp; omega)] at hb; cases hb
   rw [this] at hb
   simp only [List.getElem?_cons_zero, Option.some.injEq] at hb
   subst hb
   rw [if_neg (by omega)]
   exact ⟨e, by rw [show i - es.length = 0 by omega]; rfl, he⟩
theorem B2U (G : IM) (p : Option Addr) (n c : Nat) (es : List (List Value)) (h : C5 G p n c 3 es) (hn : n ≤ 4294967296) :
  Fn Tryz.prog 116 [.slice p n c] [] G (fun G' v outs => G' = G ∧ ∃ p' c', v = .slice p' n c' ∧ outs = [.slc p' c' 93 3 n es.flatten]) := by
 have hp := h.sl.nn
 have hS := h.sl
 have hone : ∀ u ∈ es.flatten, u.oneCell' = true := by
  intro u hu
  obtain ⟨e, he, hue⟩ := List.mem_flatten.1 hu
  exact List.all_eq_true.1 (h.one e he) u hue
 refine B5 Tryz.func116 rfl Tryz.ntmps116 Tryz.results116 rfl ?_
 intro w0
 cases p with
 | none =>
  obtain rfl := hp rfl
  obtain rfl : es = [] := List.length_eq_zero_iff.1 h.len
  refine T9 93 3 ?_
  refine D7 ?_
  refine sQ (B0y rfl rfl rfl) rfl ?_
  refine H8 ?_
  refine H4 (rT rfl) A0.refl ?_
  exact ⟨rfl, _, _, rfl, rfl⟩
 | some a =>
  refine D7 ?_
  refine sQ (A6K rfl rfl rfl) rfl ?_
  refine sD (nS (cF rfl (tK (nS (tS (tR ?_))))))
  (refine J5 (C8 rfl rfl rfl (by omega) (by unfold maxLen; omega) rfl) rfl ?_; rintro _ ⟨b18, rfl⟩)
  refine sQ (qM rfl) rfl ?_
  refine A3r rfl rfl rfl rfl rfl (fun _ _ => by repeat (first | exact Sw.here | apply Sw.there)) hS hone (Nat.zero_le _) (by unfold maxLen; omega) (by omega) rfl (fun pn cn => ?_)
  refine sQ (qA rfl) rfl (sD (nS (tT ?_)))
  refine H4 (rT rfl) A0.refl ?_
  exact ⟨rfl, _, _, by rw [Nat.zero_add], by rw [Nat.zero_add]; rfl⟩
theorem V1.no {r : Option Ty} {G G' : IM} {cu : List Value} {u : Ty} {b : Bool} (hu : B3 G' u cu) (hb : b = false) (h : r = none) : V1 r G G' (.tuple ⟨[.agg ⟨cu⟩, .bool b]⟩) [] := by
 subst hb h
 exact ⟨rfl, cu, u, rfl, hu, by simp⟩
theorem V1.yes {r : Option Ty} {G G' : IM} {cu : List Value} {u : Ty} {b : Bool} (hu : B3 G' u cu) (hb : b = true) (h : r = some u) : V1 r G G' (.tuple ⟨[.agg ⟨cu⟩, .bool b]⟩) [] := by
 subst hb h
 exact ⟨rfl, cu, u, rfl, hu, fun t ht => by cases ht; rfl⟩
section
variable {cx : Cx} {k : Int} {nm : ByteArray} {num : Int} {ty fr : Ty} {lb : Int} {ks : List Tm}
theorem A8C (h : N8 (R6 cx k nm ty) ks = none) : E6 cx (.mk k nm num ty fr lb ks) = none := by rw [E6, h]
theorem A8D {us : List Ty} (h : N8 (R6 cx k nm ty) ks = some us) (hk : k = 14) {b : Bool} (hb : K9 (us.getD 0 B1) fr = b) : E6 cx (.mk k nm num ty fr lb ks) = if b = true then some ty else none := by
 rw [E6, h]; simp only [hk, if_true, hb]
theorem A8E {us : List Ty} (h : N8 (R6 cx k nm ty) ks = some us) (hk : k ≠ 14) (hn : A0J cx k nm ty us = none) : E6 cx (.mk k nm num ty fr lb ks) = none := by
 rw [E6, h]; simp only [hk, if_false, hn]
theorem A8F {us w : List Ty} {t : Ty} (h : N8 (R6 cx k nm ty) ks = some us) (hk : k ≠ 14) (hn : A0J cx k nm ty us = some (w, t)) {b : Bool} (hb : R5 w us = b) : E6 cx (.mk k nm num ty fr lb ks) = if b = true then some t else none := by
 rw [E6, h]; simp only [hk, if_false, hn, hb]
theorem A5V {us w : List Ty} {t : Ty} (h : Q5 cx k nm ty us = some (w, t)) {b : Bool} (hb : M1 t = b) : A0J cx k nm ty us = if b = true then some (w, t) else none := by
 unfold A0J; rw [h]; simp only [hb]
theorem B2V {us : List Ty} (h : Q5 cx k nm ty us = none) : A0J cx k nm ty us = none := by
 unfold A0J; rw [h]
end
theorem A8G : ∀ (e : Tm) (d : Int) (cx : Cx) (G : IM) (pc : Option Addr) (nc cc : Nat) (cells : List Value), P2 40 13 e d = true → (nc : Int) ≤ d → S1 G cx pc nc cc → A7 G e cells →
  Fn Tryz.prog 49 [.slice pc nc cc, .agg ⟨cells⟩] [] G (V1 (E6 cx e) G) := by
 refine Tm.ind fun k nm num ty fr lb ks ih d cx G pc nc cc cells hv hnd hx hr => ?_
 have hr0 := hr
 have hone := hr.one
 obtain ⟨hv1, hv2, hv3, hv4⟩ := A00 hv
 have hvk := (A0Y 40 13 ks _).1 hv4
 have har := (V7.1 hv3).1
 have hop := A2i har
 obtain ⟨hta, hts⟩ := A2L hv3
 have hkr : 1 ≤ k ∧ k ≤ 14 := by
  apply Classical.byContradiction
  intro hc
  rw [A3i hc] at har; omega
 have h14 : k = 14 → ks.length = 1 := by
  rintro rfl
  have : E0 14 = 1 := rfl
  omega
 obtain ⟨tk, tks⟩ := ty
 obtain ⟨fk, fks⟩ := fr
 obtain ⟨pt, ct, pf, cf, q, cq, es, rfl, hk, hnum, hlb, hty, hfr, hsl, hkl⟩ := hr.open9
 have hlen : ks.length ≤ 3 := by have := A1e k; omega
 obtain ⟨hx1, esx, hx2, hx3⟩ := id hx
 have hcl := B2U G pc nc cc esx hx2 (by omega)
 refine B5 Tryz.func49 rfl Tryz.ntmps49 Tryz.results49 rfl ?_
 intro w0
 refine tS (tR ?_)
 refine sE (C0 rfl rfl) rfl (fun b3 => ?_)
 refine sE (A5 rfl) rfl (fun b4 => ?_)
 refine H8 ?_
 (show I9 _ _ (.seq (.region 2 _ _) (.cond (.tmp 20) _ _)) _ _; refine Z6 (fun (x : Option Addr × Nat × Nat × IM) => ⟨[(6, .slice x.1 x.2.1 x.2.2.1), (0, .slice pc nc cc), (3, .pointer (some ⟨b3, 0, none⟩)), (4, .pointer (some ⟨b4, 0, none⟩))], [.blk b4 [.int .i64 0, .slice none 0 0], .blk b3 [.int .i64 k, .string nm, .int .i64 num, .int .i64 tk, .slice pt tks.length ct, .int .i64 fk, .slice pf fks.length cf, .int .i64 lb, .slice q ks.length cq]], x.2.2.2⟩) (fun x => B6 G x.2.2.2 ∧ S1 x.2.2.2 (R6 cx k nm (.mk tk tks)) x.1 x.2.1 x.2.2.1 ∧ x.2.1 ≤ nc + 1) ?_ ?_)
 refine tS (tR (sQ (A9 rfl) rfl (sL (B7 rfl rfl) rfl rfl ?_)))
 refine sB (qE rfl rfl) rfl rfl (fun h20 => ?_) (fun h20 => ?_)
 refine sD (nS (qT rfl ?_))
 refine C9 D1 rfl ?_
 refine H6 (i := 0) (l' := [tt,ff,ff,ff,ff,ff,ff,ff,ff,ff]) rfl C4 (qM rfl) rfl (by kernel_rfl) rfl rfl ?_
 refine aP 2 rfl (A9 rfl) rfl ?_
 refine aL 3 rfl (B7 rfl rfl) rfl ?_
 refine aP 4 rfl (A9 rfl) rfl ?_
 refine aL 5 rfl (A3 rfl rfl) rfl ?_
 refine aP 6 rfl (Q1 rfl rfl) rfl ?_
 refine P5 (j := 1) (j' := 7) (by kernel_rfl) ?_ ?_
 (refine A46 rfl rfl hcl rfl rfl rfl (fun v32 G32 outs32 hle32 h32 => ?_); obtain ⟨hG, p1, c1, rfl, rfl⟩ := h32; replace hG := hG.symm; subst hG)
 replace hr := hr.mono hle32
 replace hr0 := hr0.mono hle32
 replace hty := hty.mono hle32
 replace hfr := hfr.mono hle32
 replace hsl := hsl.mono hle32
 replace hkl := hkl.mono hle32
 replace hx2 := hx2.mono hle32
 refine A1 7 ?_
 (refine D9 rfl (C8 rfl rfl rfl (by omega) (by unfold maxLen; omega) rfl) rfl rfl ?_; rintro _ ⟨b34, rfl⟩)
 refine A1 8 ?_
 (refine T5 rfl rfl rfl rfl rfl rfl (fun _ _ => by repeat (first | exact Sw.here | apply Sw.there)) (P9 (by repeat first | exact mH | apply mT)) rfl (by simp [Value.oneCell']) (by unfold maxLen; omega) (by omega) rfl rfl (by repeat (first | exact A8.nil | apply A8.dep (by decide +kernel) | apply A8.blk (by decide +kernel) (by repeat (first | exact Pk.here | apply Pk.there)) (by repeat first | exact mH | apply mT))) (fun p5 c5 => ?_); refine A3Z (cs := esx.flatten ++ [.string nm, .int .i64 tk, .slice pt tks.length ct]) (by repeat (first | exact Pk.here | apply Pk.there)) (fun Gf hleF hslF hnoF => ?_); have hxF := S1.snoc (nm := nm) (t := .mk tk tks) hx1 hx2.len hx2.all hx2.one hx3 hleF ⟨_, _, rfl, hty.mono hleF⟩ hslF)
 refine aP 9 rfl (qA rfl) rfl ?_
 refine B8 ?_
 refine P4 (p5, nc + 1, c5, Gf) (N3 (by repeat (first | exact E9.nil | refine E9.cons rfl ?_)) (by repeat (first | exact A0.refl | exact A0.nil | refine A0.cons (by repeat (first | exact Pk.here | apply Pk.there)) ?_ | apply A0.drop))) ⟨hleF, by (dsimp only; rw [R6, if_pos (by omega)]; exact hxF), by (dsimp only; omega)⟩
 (refine D9 rfl (C8 rfl rfl rfl (by omega) (by unfold maxLen; omega) rfl) rfl rfl ?_; rintro _ ⟨b40, rfl⟩)
 refine A1 1 ?_
 (refine A46 rfl rfl hcl rfl rfl rfl (fun v42 G42 outs42 hle42 h42 => ?_); obtain ⟨hG, p1, c1, rfl, rfl⟩ := h42; replace hG := hG.symm; subst hG)
 replace hr := hr.mono hle42
 replace hr0 := hr0.mono hle42
 replace hty := hty.mono hle42
 replace hfr := hfr.mono hle42
 replace hsl := hsl.mono hle42
 replace hkl := hkl.mono hle42
 replace hx2 := hx2.mono hle42
 refine A1 8 ?_
 (refine T5 rfl rfl rfl rfl rfl rfl (fun _ _ => by repeat (first | exact Sw.here | apply Sw.there)) (P9 (by repeat first | exact mH | apply mT)) rfl (by simp [Value.oneCell']) (by unfold maxLen; omega) (by omega) rfl rfl (by repeat (first | exact A8.nil | apply A8.dep (by decide +kernel) | apply A8.blk (by decide +kernel) (by repeat (first | exact Pk.here | apply Pk.there)) (by repeat first | exact mH | apply mT))) (fun p5 c5 => ?_); refine A3Z (cs := esx.flatten ++ [.string nm, .int .i64 tk, .slice pt tks.length ct]) (by repeat (first | exact Pk.here | apply Pk.there)) (fun Gf hleF hslF hnoF => ?_); have hxF := S1.snoc (nm := nm) (t := .mk tk tks) hx1 hx2.len hx2.all hx2.one hx3 hleF ⟨_, _, rfl, hty.mono hleF⟩ hslF)
 refine aP 9 rfl (qA rfl) rfl ?_
 refine B8 ?_
 refine P4 (p5, nc + 1, c5, Gf) (N3 (by repeat (first | exact E9.nil | refine E9.cons rfl ?_)) (by repeat (first | exact A0.refl | exact A0.nil | refine A0.cons (by repeat (first | exact Pk.here | apply Pk.there)) ?_ | apply A0.drop))) ⟨hleF, by (dsimp only; rw [R6, if_pos (by omega)]; exact hxF), by (dsimp only; omega)⟩
 refine sD (nS (cF rfl (tK ?_)))
 refine P4 (pc, nc, cc, G) (N3 (by repeat (first | exact E9.nil | refine E9.cons rfl ?_)) (by repeat (first | exact A0.refl | exact A0.nil | refine A0.cons (by repeat (first | exact Pk.here | apply Pk.there)) ?_ | apply A0.drop))) ⟨B6.refl _, by (dsimp only; rw [R6, if_neg (by omega)]; exact hx), by (dsimp only; omega)⟩
 (rintro ⟨p6, n6, c6, Gx⟩ ⟨hleX, hxX, hn6⟩; simp only [] at hleX hxX hn6 ⊢; replace hsl := hsl.mono hleX; replace hkl := hkl.mono hleX; replace hx := hx.mono hleX; replace hr0 := hr0.mono hleX; replace hty := hty.mono hleX; replace hfr := hfr.mono hleX)
 refine L1 ?_
 refine B9 ?_
 (refine T9 25 2 ?_; refine K3 (fun (x : Nat × Option Addr × Nat × List Ty × List (List Value) × IM) => ⟨[(33, .int .i64 x.1), (32, .int .i64 ks.length), (31, .slice q ks.length cq), (7, .slice x.2.1 x.1 x.2.2.1), (6, .slice p6 n6 c6), (0, .slice pc nc cc), (3, .pointer (some ⟨b3, 0, none⟩)), (4, .pointer (some ⟨b4, 0, none⟩))], [.slc x.2.1 x.2.2.1 25 2 x.1 x.2.2.2.2.1.flatten, .blk b4 [.int .i64 0, .slice none 0 0], .blk b3 [.int .i64 k, .string nm, .int .i64 num, .int .i64 tk, .slice pt tks.length ct, .int .i64 fk, .slice pf fks.length cf, .int .i64 lb, .slice q ks.length cq]], x.2.2.2.2.2⟩) (fun x => x.1 ≤ ks.length ∧ B6 Gx x.2.2.2.2.2 ∧ x.2.2.2.1.length = x.1 ∧ E3 x.2.2.2.2.2 x.2.2.2.1 x.2.2.2.2.1 ∧ (∀ u ∈ x.2.2.2.1, D4 u) ∧ N8 (R6 cx k nm (.mk tk tks)) (ks.take x.1) = some x.2.2.2.1) (fun x => ks.length - x.1) (0, none, 0, [], [], Gx) ?_ ?_ ?_)
 (simp only [I5]; exact D5)
 (exact ⟨by simp, B6.refl _, rfl, by simp [E3], by simp, by simp [N8]⟩)
 (rintro ⟨i, pn, cn, us, es', Gi⟩ ⟨hi, hle, hlu, hst, hau, hct⟩; simp only [] at hi hle hlu hst hau hct ⊢; replace hsl := hsl.mono hle; replace hkl := hkl.mono hle; replace hx := hx.mono hle; replace hxX := hxX.mono hle; replace hr0 := hr0.mono hle; replace hty := hty.mono hle; replace hfr := hfr.mono hle)
 refine tS (tR ?_)
 refine sB (K1 rfl rfl) rfl rfl (fun h75 => ?_) (fun h75 => ?_)
 refine sD (nS (tS (qT rfl (tK (nS (tS ?_))))))
 refine B9 ?_
 refine tS (tR ?_)
 (obtain ⟨b, o, e, rfl, hl, hat, hre, hgb⟩ := hsl.kidTm hkl (i := i) (by omega) (by omega); have hon := hre.one; refine sP (B0 rfl rfl rfl (by omega)) rfl rfl ?_)
 refine sL (A2 rfl rfl (hat _) hl) rfl rfl ?_
 refine sE (A5 rfl) rfl (fun b88 => ?_)
 refine sS rfl rfl rfl hl hon rfl ?_ (hu := by exact C2 hl.symm)
 refine sD (nS (tS (tR (sQ (qM rfl) rfl ?_))))
 refine sL (A2 rfl rfl (A6 (by repeat first | exact mH | apply mT)) hl) rfl rfl ?_
 (refine D3 rfl (ih ks[i] (List.getElem_mem (by omega)) (d + 1) _ Gi p6 n6 c6 _ (hvk i (by omega)) (by omega) hxX hre) rfl rfl (fun v G2 hle2 hh => ?_); obtain ⟨uc, u, rfl, hru, hu⟩ := hh; obtain ⟨p3, c3, e3, rfl, _⟩ := hru.open; rcases hcu : E6 (R6 cx k nm (Ty.mk tk tks)) ks[i] with _ | u2)
 refine I6 ?_
 refine sE (A5 rfl) rfl (fun b100 => ?_)
 refine A2B ?_
 refine D6 (rC rfl (A3 rfl rfl)) (rT rfl) ?_
 (exact V1.no (u := B1) (J8 _ ⟨by omega, by omega⟩) rfl (A8C (A5T (by omega) hcu)))
 refine I6 ?_
 refine sE (A5 rfl) rfl (fun b132 => ?_)
 refine R2 ?_
 (refine J5 (C8 rfl rfl rfl (by omega) (by unfold maxLen; omega) rfl) rfl ?_; rintro _ ⟨b150, rfl⟩)
 refine A07 rfl rfl rfl rfl rfl (fun _ _ => by repeat (first | exact Sw.here | apply Sw.there)) (P9 (by repeat first | exact mH | apply mT)) rfl (by simp [Value.oneCell']) (by unfold maxLen; omega) (by omega) rfl (fun pn' cn' => ?_)
 refine sQ (qA rfl) rfl (sD (M8 (nS (tR ?_))))
 refine sP (J6 rfl rfl (by omega) (by omega)) rfl rfl ?_
 refine sQ (qM rfl) rfl (sD ?_)
 (obtain rfl := hu u2 hcu; refine K0 (i + 1, pn', cn', us ++ [u], es' ++ [[.int .i64 u.k, .slice p3 u.ks.length c3]], G2) ?_ ?_ ?_)
 (simp only [I5]; exact D5)
 (dsimp only; exact ⟨by omega, hle.trans hle2, by simp [hlu], E3.snoc (hst.mono hle2) hru, A1N hau (A4v (hvk i (by omega)) hcu), A5S (by omega) hct hcu⟩)
 (show ks.length - (i + 1) < ks.length - i; omega)
 refine L1 ?_
 refine sB (qE rfl rfl) rfl rfl (fun h178 => ?_) (fun h178 => ?_)
 refine sD (nS (qT rfl (tS ?_)))
 (have hk14 : k = 14 := (by omega); have hl1 := h14 hk14; obtain rfl : i = ks.length := (by omega); refine A0j (cs := es'.flatten) Pk.here (fun G3 hle3 hsl3 hno3 => ?_); have hst3 := hst.mono hle3; have hslU : C5 G3 pn ks.length cn 2 es' := C5.of hsl3 (by rw [hst3.len, hlu]) hst3.all (fun e he => (hst3.each e he).2); obtain ⟨b0, o0, q0, d0, hp0, hat0, hre0, hg0⟩ := hslU.kidD hst3 (i := 0) (by omega) (by omega); cases hp0; have hfr0 := hfr.mono hle3; have hty0 := hty.mono hle3; refine C9 D1 rfl ?_)
 refine H6 (i := 0) (l' := [tt,ff,ff,ff,ff,ff,ff,ff,ff,ff]) rfl C4 (A9 rfl) rfl (by kernel_rfl) rfl rfl ?_
 refine aL 1 rfl (A3 rfl rfl) rfl ?_
 refine aP 2 rfl (qM rfl) rfl ?_
 refine aP 3 rfl (B0 (j := 0) rfl rfl rfl (by omega)) rfl ?_
 refine aL 4 rfl (A2 rfl rfl (hat0 _) rfl) rfl ?_
 refine aP 5 rfl (A9 rfl) rfl ?_
 refine aL 6 rfl (A3 rfl rfl) rfl ?_
 refine A1 7 ?_
 refine R3 rfl rfl ((A4t _ _ _ _ _ hre0 hfr0)) rfl rfl rfl (fun h192 => ?_) (fun h192 => ?_)
 refine A1 8 ?_
 refine F0 rfl ?_
 refine aP 9 rfl (qA rfl) rfl ?_
 refine B8 (nS (tT (rS ?_)))
 refine D6 (rC rfl (A3 rfl rfl)) (rT rfl) ?_
 (exact V1.yes (hty0) rfl ((A8D (by rw [List.take_length] at hct; exact hct) hk14 (by assumption)).trans rfl))
 refine A1 8 ?_
 refine F0 rfl ?_
 refine aP 9 rfl (qA rfl) rfl ?_
 refine B8 (nS (tT (rS ?_)))
 refine D6 (rC rfl (A3 rfl rfl)) (rT rfl) ?_
 (exact V1.no (hty0) rfl ((A8D (by rw [List.take_length] at hct; exact hct) hk14 (by assumption)).trans rfl))
 refine H8 ?_
 focus (obtain rfl : i = ks.length := (by omega); have hk14 : k ≠ 14 := (by omega); refine S7 (cs := es'.flatten) Pk.here (fun G3 hle3 hsl3 hno3 => ?_); have hst3 := hst.mono hle3; have hslU : C5 G3 pn ks.length cn 2 es' := C5.of hsl3 (by rw [hst3.len, hlu]) hst3.all (fun e he => (hst3.each e he).2); refine D3 rfl (B2P cx k nm num (.mk tk tks) (.mk fk fks) lb ks us G3 pc nc cc _ pn ks.length cn es' (hx.mono hle3) har hlu.symm hk14 hta (hr0.mono hle3) hslU hst3 hau) rfl rfl (fun v G4 hle4 hh => ?_); obtain ⟨pw, nw, cw, ew, w, wc, wt, rfl, hnw, hslw, hstw, hrt, hw⟩ := hh; obtain ⟨p3, c3, e3, rfl, _⟩ := hrt.open; replace hst3 := hst3.mono hle4; replace hslU := hslU.mono hle4; rcases hmw : Q5 cx k nm (Ty.mk tk tks) us with _ | ⟨w2, t2⟩; rotate_left; have hwe := hw _ hmw; simp only [Prod.mk.injEq] at hwe; obtain ⟨rfl, rfl⟩ := hwe; rw [List.take_length] at hct; have hwl := B2Q (by rw [hlu]; exact hop) hkr hk14 hmw; rotate_left)
 refine I8 ?_
 refine sE (A5 rfl) rfl (fun b226 => ?_)
 refine A6Z ?_
 refine D6 (rC rfl (A3 rfl rfl)) (rT rfl) ?_
 (exact V1.no (u := B1) (J8 _ ⟨by omega, by omega⟩) rfl (A8E (by rw [List.take_length] at hct; exact hct) hk14 (B2V hmw)))
 refine I8 ?_
 refine sE (A5 rfl) rfl (fun b260 => ?_)
 refine M9 ?_
 refine F9 rfl ((A4a _ _ _ hrt)) rfl rfl (fun h273 => ?_) (fun h273 => ?_)
 refine I7 ?_
 refine B9 ?_
 (have hslw2 := hslw; refine K3 (fun (i : Nat) => ⟨[(80, .int .i64 i), (79, .int .i64 nw), (78, .slice pw nw cw), (7, .slice pn ks.length cn), (13, .pointer (some ⟨b260, 0, none⟩)), (4, .pointer (some ⟨b4, 0, none⟩))], [.blk b260 [.int .i64 t2.k, .slice p3 t2.ks.length c3], .blk b4 [.int .i64 0, .slice none 0 0]], G4⟩) (fun i => i ≤ nw ∧ R5 w2 us = R5 (w2.drop i) (us.drop i)) (fun i => nw - i) 0 ?_ ?_ ?_)
 exact D5
 (exact ⟨Nat.zero_le _, rfl⟩)
 (rintro j ⟨hj, hsm⟩)
 refine tS (tR ?_)
 refine sB (K1 rfl rfl) rfl rfl (fun h296 => ?_) (fun h296 => ?_)
 refine sD (nS (tS (qT rfl (tK (nS (tS ?_))))))
 refine B9 ?_
 refine tS (tR (sQ (qM rfl) rfl ?_))
 (obtain ⟨b, o, q5, d5, hp5, hat, hrw, hgb⟩ := hslw.kidTy hstw (i := j) (by omega) (by omega); cases hp5; obtain ⟨b0, o0, q0, d0, hp0, hat0, hre0, hg0⟩ := hslU.kidTy hst3 (i := j) (by omega) (by omega); cases hp0; refine sP (B0 rfl rfl rfl (by omega)) rfl rfl ?_)
 refine sL (A2 rfl rfl (hat _) rfl) rfl rfl ?_
 refine sE (A5 rfl) rfl (fun b310 => ?_)
 refine sQ (qA rfl) rfl (F8 ?_)
 refine sD (nS (tS ?_))
 refine C9 D1 rfl ?_
 refine L0 (i := 0) (l' := [tt,ff,ff,ff,ff,ff,ff]) rfl C4 (A3 rfl rfl) rfl (by kernel_rfl) rfl rfl ?_
 refine aP 1 rfl (qM rfl) rfl ?_
 refine aP 2 rfl (qM rfl) rfl ?_
 refine aP 3 rfl (B0 (j := j) rfl rfl rfl (by omega)) rfl ?_
 refine aL 4 rfl (A2 rfl rfl (hat0 _) rfl) rfl ?_
 refine A1 5 ?_
 refine R3 rfl rfl ((A4t _ _ _ _ _ hrw hre0)) rfl rfl rfl (fun h323 => ?_) (fun h323 => ?_)
 refine aP 6 rfl (S6 rfl) rfl ?_
 refine B8 (nS (cF rfl (tK (M8 (nS (tR ?_))))))
 refine sP (J6 rfl rfl (by omega) (by omega)) rfl rfl ?_
 refine sQ (qM rfl) rfl (sD ?_)
 refine K0 (j + 1) ?_ ?_ ?_
 exact D5
 (show j + 1 ≤ nw ∧ R5 w2 us = R5 (List.drop (j + 1) w2) (List.drop (j + 1) us); exact ⟨by omega, hsm.trans (B2R (by omega) (by omega) (by assumption))⟩)
 (show nw - (j + 1) < nw - j; omega)
 refine aP 6 rfl (Z9 rfl) rfl ?_
 refine K5 ?_
 refine D6 (rC rfl (A3 rfl rfl)) (rT rfl) ?_
 (exact V1.no (u := B1) (J8 _ ⟨by omega, by omega⟩) rfl (A8F hct hk14 (A5V hmw (b := true) (by assumption)) (b := false) (hsm.trans (B2S (by omega) (by omega) (by assumption)))))
 refine R2 ?_
 refine D6 (rC rfl (A3 rfl rfl)) (rT rfl) ?_
 (exact V1.yes hrt rfl (A8F hct hk14 (A5V hmw (b := true) (by assumption)) (b := true) (hsm.trans (B2T (by omega)))))
 refine L1 ?_
 refine D6 (rC rfl (A3 rfl rfl)) (rT rfl) ?_
 (exact V1.no (u := B1) (J8 _ ⟨by omega, by omega⟩) rfl (A8E hct hk14 (A5V hmw (b := false) (by assumption))))
def A5W (r : Tm) : Tm × Bool := if I2 r = true then (r, true) else (I3, false)
def B6i (t : Tm) (path : List Int) (x : Tm) : Tm × Bool := if I2 t = true ∧ I2 x = true ∧ tAt t path ≠ none then A5W (A8c t path x) else (I3, false)
def A2n : List Tm → List Ty → List Ty → Int → List Tm × Int
 | u :: us, a :: h, b :: w, l => if K9 a b = true then (u :: (A2n us h w l).1, (A2n us h w l).2) else (K8 u a b (l + 1) :: (A2n us h w (l + 1)).1, (A2n us h w (l + 1)).2)
 | us, _, _, l => (us, l)
def B2W (cx : Cx) (k : Int) (nm : ByteArray) (num : Int) (ty fr : Ty) (lb : Int) (us : List Tm) (h : List Ty) (l : Int) : Option (Tm × Ty × Int) :=
 match A0J cx k nm ty h with
 | none => none
 | some (w, t) => some (if k = 13 then (A2n us h w l).1.getD 0 I3 else .mk k nm num ty fr lb (A2n us h w l).1, t, (A2n us h w l).2)
mutual
def mEl (cx : Cx) : Tm → Int → Option (Tm × Ty × Int)
 | .mk k nm num ty fr lb ks, l => match A8H (R6 cx k nm ty) ks l with
  | none => none
  | some (us, h, l') => B2W cx k nm num ty fr lb us h l'
def A8H (cx : Cx) : List Tm → Int → Option (List Tm × List Ty × Int)
 | [], l => some ([], [], l)
 | t :: ts, l => match mEl cx t l with
  | none => none
  | some (u, a, l') => match A8H cx ts l' with
   | none => none
   | some (us, h, l'') => some (u :: us, a :: h, l'')
end
def A8I (e : Tm) : Option (Tm × Ty) := if A0E e = true then (match mEl [] e 0 with | some (u, t, _) => some (u, t) | none => none) else none
def B2X (cx : Cx) (k : Int) (nm : ByteArray) (ty : Ty) (h : List Ty) : Option Ty := match Q5 cx k nm ty h with
 | some (_, t) => if (k = 5 ∨ k = 10) ∧ M1 t = false then none else some t
 | none => none
mutual
def B2Y (cx : Cx) : Tm → Option Ty
 | .mk k nm num ty fr lb ks => match A8J (R6 cx k nm ty) ks with
  | none => none
  | some h => B2X cx k nm ty h
def A8J (cx : Cx) : List Tm → Option (List Ty)
 | [] => some []
 | t :: ts => match B2Y cx t with
  | none => none
  | some a => match A8J cx ts with
   | none => none
   | some h => some (a :: h)
end
theorem A5X (k : Int) (ks : List Ty) (d : Int) : L6 (.mk k ks) d = (decide (d ≤ 4) && decide (U6 k = ks.length) && Z0 ks (d + 1)) := by rw [L6]
mutual
theorem A5Y : ∀ (t : Ty) (d e : Int), e ≤ d → L6 t d = true → L6 t e = true
 | .mk k ks, d, e, h, hs => by
  rw [A5X, Bool.and_eq_true, Bool.and_eq_true, decide_eq_true_eq, decide_eq_true_eq] at hs ⊢
  exact ⟨⟨by omega, hs.1.2⟩, A8K ks (d + 1) (e + 1) (by omega) hs.2⟩
theorem A8K : ∀ (ts : List Ty) (d e : Int), e ≤ d → Z0 ts d = true → Z0 ts e = true
 | [], d, e, h, hs => by rw [Z0]
 | t :: ts, d, e, h, hs => by
  rw [Z0, Bool.and_eq_true] at hs ⊢
  exact ⟨A5Y t d e h hs.1, A8K ts d e h hs.2⟩
end
def cxV (cx : Cx) : Prop := ∀ b ∈ cx, M1 b.2 = true
theorem B2Z : cxV [] := by intro b hb; simp at hb
theorem B20 {cx : Cx} {k : Int} {nm : ByteArray} {ty : Ty} (h : cxV cx) (ht : k = 5 → M1 ty = true) : cxV (R6 cx k nm ty) := by
 unfold R6
 split
 ·intro b hb
  rcases List.mem_append.1 hb with hb | hb
  ·exact h b hb
  ·obtain rfl := List.mem_singleton.1 hb; exact ht (by assumption)
 ·exact h
theorem A1h {cx : Cx} {k : Int} {nm : ByteArray} {num : Int} {ty fr : Ty} {lb : Int} {ks : List Tm} {T : Ty} (h : E6 cx (.mk k nm num ty fr lb ks) = some T) :
  ∃ us, N8 (R6 cx k nm ty) ks = some us ∧ (k = 14 → us.getD 0 B1 = fr ∧ T = ty) ∧ (k ≠ 14 → M1 T = true ∧ ∃ w, Q5 cx k nm ty us = some (w, T) ∧ R5 w us = true) := by
 rw [E6] at h
 split at h
 ·cases h
 ·rename_i us hu
  refine ⟨us, hu, fun hk => ?_, fun hk => ?_⟩
  ·rw [if_pos hk] at h
   split at h
   ·rename_i hs; cases h; exact ⟨(V8 _ _).1 hs, rfl⟩
   ·cases h
  ·rw [if_neg hk] at h
   split at h
   ·cases h
   ·rename_i w t hn
    split at h
    ·rename_i hs
     cases h
     obtain ⟨h1, h2⟩ := A8B hn
     exact ⟨h1, w, h2, hs⟩
    ·cases h
theorem A1i {cx : Cx} {k : Int} {nm : ByteArray} {num : Int} {ty fr : Ty} {lb : Int} {ks : List Tm} {T : Ty} {us w : List Ty} (hu : N8 (R6 cx k nm ty) ks = some us) (hk : k ≠ 14) (hv : M1 T = true) (hw : Q5 cx k nm ty us = some (w, T)) (hs : R5 w us = true) : E6 cx (.mk k nm num ty fr lb ks) = some T := by
 rw [E6, hu]
 simp only [if_neg hk]
 unfold A0J
 rw [hw]
 simp only [hv, if_true, hs]
theorem A2U {cx : Cx} {a : Tm} {us : List Ty} (h : N8 cx [a] = some us) : ∃ x, E6 cx a = some x ∧ us = [x] := by
 rw [N8] at h
 split at h
 ·cases h
 ·rename_i x hx
  rw [N8] at h
  simp only [Option.some.injEq] at h
  exact ⟨x, hx, h.symm⟩
theorem A1T {cx : Cx} {a b : Tm} {us : List Ty} (h : N8 cx [a, b] = some us) : ∃ x y, E6 cx a = some x ∧ E6 cx b = some y ∧ us = [x, y] := by
 rw [N8] at h
 split at h
 ·cases h
 ·rename_i x hx
  split at h
  ·cases h
  ·rename_i vs hv
   obtain ⟨y, hy, rfl⟩ := A2U hv
   simp only [Option.some.injEq] at h
   exact ⟨x, y, hx, hy, h.symm⟩
theorem A8L {cx : Cx} {a b c : Tm} {us : List Ty} (h : N8 cx [a, b, c] = some us) : ∃ x y z, E6 cx a = some x ∧ E6 cx b = some y ∧ E6 cx c = some z ∧ us = [x, y, z] := by
 rw [N8] at h
 split at h
 ·cases h
 ·rename_i x hx
  split at h
  ·cases h
  ·rename_i vs hv
   obtain ⟨y, z, hy, hz, rfl⟩ := A1T hv
   simp only [Option.some.injEq] at h
   exact ⟨x, y, z, hx, hy, hz, h.symm⟩
theorem A5Z {cx : Cx} {a : Tm} {x : Ty} (h : E6 cx a = some x) : N8 cx [a] = some [x] := by rw [N8, h]; rfl
theorem B21 {cx : Cx} {a b : Tm} {x y : Ty} (h : E6 cx a = some x) (h2 : E6 cx b = some y) : N8 cx [a, b] = some [x, y] := by rw [N8, h, A5Z h2]
mutual
theorem A4w : ∀ a : Ty, O9 a a = true
 | .mk k ks => by rw [V2, A8M ks]; simp
theorem A8M : ∀ xs : List Ty, U1 xs xs = true
 | [] => rfl
 | a :: xs => by rw [U1, A4w a, A8M xs]; rfl
end
mutual
theorem A8N : ∀ a : Ty, A0w a a = a
 | .mk k ks => by
  rw [A7S, A8O ks]
  by_cases h : k = 1
  ·rw [if_pos h]
  ·rw [if_neg h, if_neg h]
theorem A8O : ∀ xs : List Ty, A1K xs xs = xs
 | [] => rfl
 | a :: xs => by rw [A1K, A8N a, A8O xs]
end
theorem A4x {k : Int} {ks : List Ty} (hk : k = 4 ∨ k = 5) (h : M1 (.mk k ks) = true) : ∃ a b, ks = [a, b] ∧ M1 a = true ∧ M1 b = true := by
 unfold M1 at h ⊢
 rw [A5X, Bool.and_eq_true, Bool.and_eq_true, decide_eq_true_eq, decide_eq_true_eq] at h
 have h2 : ks.length = 2 := by
  have : U6 k = 2 := by rcases hk with rfl | rfl <;> rfl
  omega
 match ks, h2, h.2 with
 | [x, y], _, hL =>
  simp only [Z0, Bool.and_eq_true] at hL
  exact ⟨x, y, rfl, A5Y _ 2 1 (by omega) hL.1, A5Y _ 2 1 (by omega) hL.2.1⟩
theorem B22 {k : Int} {ks : List Ty} (h : M1 (.mk k ks) = true) (hk : k ≠ 4) (hk5 : k ≠ 5) : (k = 1 ∨ k = 2 ∨ k = 3) ∧ ks = [] := by
 unfold M1 at h
 rw [A5X, Bool.and_eq_true, Bool.and_eq_true, decide_eq_true_eq, decide_eq_true_eq] at h
 obtain ⟨h1, h2, h3⟩ := N1 k
 have hl := h.1.2
 have hk3 : k = 1 ∨ k = 2 ∨ k = 3 := by
  apply Classical.byContradiction
  intro hc
  rw [h3 (by omega) (by omega) (by omega) hk hk5] at hl; omega
 rw [h1 hk3] at hl
 exact ⟨hk3, List.length_eq_zero_iff.1 (by omega)⟩
section inv
variable {cx : Cx} {nm : ByteArray} {num : Int} {ty fr : Ty} {lb : Int} {a b c : Tm} {T : Ty}
theorem B23 {x y : Ty} (h : R5 [x] [y] = true) : x = y := by
 simp only [R5, Bool.and_true] at h; exact (V8 _ _).1 h
theorem A8P {x y x' y' : Ty} (h : R5 [x, y] [x', y'] = true) : x = x' ∧ y = y' := by
 simp only [R5, Bool.and_true, Bool.and_eq_true] at h; exact ⟨(V8 _ _).1 h.1, (V8 _ _).1 h.2⟩
theorem B24 {x y z x' y' z' : Ty} (h : R5 [x, y, z] [x', y', z'] = true) : x = x' ∧ y = y' ∧ z = z' := by
 simp only [R5, Bool.and_true, Bool.and_eq_true] at h; exact ⟨(V8 _ _).1 h.1, (V8 _ _).1 h.2.1, (V8 _ _).1 h.2.2⟩
theorem A2V : ∀ xs : List Ty, R5 xs xs = true
 | [] => rfl
 | a :: xs => by rw [R5, A4f, A2V xs]; rfl
theorem A8Q (h : E6 cx (.mk 6 nm num ty fr lb [a, b]) = some T) : ∃ A, E6 cx a = some (.mk 4 [A, T]) ∧ E6 cx b = some A := by
 obtain ⟨us, hu, _, hn⟩ := A1h h
 rw [R6, if_neg (by omega)] at hu
 obtain ⟨x, y, hx, hy, rfl⟩ := A1T hu
 obtain ⟨_, w, hw, hs⟩ := hn (by decide)
 unfold Q5 at hw
 simp only [show ¬((6 : Int) = 1) by decide, show ¬((6 : Int) = 2) by decide, show ¬((6 : Int) = 3 ∨ (6 : Int) = 4) by decide, show ¬((6 : Int) = 5) by decide, if_false, if_true, List.getD_cons_zero, List.getD_cons_succ] at hw
 split at hw
 ·rename_i p q hm
  split at hw
  ·cases hw
   obtain ⟨h1, h2⟩ := A8P hs
   subst h1 h2
   exact ⟨_, hx, hy⟩
  ·cases hw
 ·cases hw
theorem B25 {A : Ty} (hv : M1 T = true) (ha : E6 cx a = some (.mk 4 [A, T])) (hb : E6 cx b = some A) : E6 cx (.mk 6 nm num ty fr lb [a, b]) = some T := by
 refine A1i (us := [.mk 4 [A, T], A]) (w := [.mk 4 [A, T], A]) (B21 ha hb) (by decide) hv ?_ (A2V _)
 unfold Q5
 simp only [show ¬((6 : Int) = 1) by decide, show ¬((6 : Int) = 2) by decide, show ¬((6 : Int) = 3 ∨ (6 : Int) = 4) by decide, show ¬((6 : Int) = 5) by decide, if_false, if_true, List.getD_cons_zero, List.getD_cons_succ, A3w, A4w]
theorem A50 {k : Int} (hk : k = 7 ∨ k = 8) (h : E6 cx (.mk k nm num ty fr lb [a, b]) = some T) : E6 cx a = some O7 ∧ E6 cx b = some O7 ∧ T = if k = 8 then U9 else O7 := by
 obtain ⟨us, hu, _, hn⟩ := A1h h
 rw [R6, if_neg (by omega)] at hu
 obtain ⟨x, y, hx, hy, rfl⟩ := A1T hu
 obtain ⟨_, w, hw, hs⟩ := hn (by omega)
 unfold Q5 at hw
 rw [if_neg (by omega), if_neg (by omega), if_neg (by omega), if_neg (by omega), if_neg (by omega), if_pos hk] at hw
 split at hw
 ·cases hw
  obtain ⟨h1, h2⟩ := A8P hs
  subst h1 h2
  exact ⟨hx, hy, rfl⟩
 ·cases hw
theorem A8R (h : E6 cx (.mk 9 nm num ty fr lb [a, b, c]) = some T) : E6 cx a = some U9 ∧ E6 cx b = some T ∧ E6 cx c = some T := by
 obtain ⟨us, hu, _, hn⟩ := A1h h
 rw [R6, if_neg (by omega)] at hu
 obtain ⟨x, y, z, hx, hy, hz, rfl⟩ := A8L hu
 obtain ⟨_, w, hw, hs⟩ := hn (by decide)
 unfold Q5 at hw
 rw [if_neg (by omega), if_neg (by omega), if_neg (by omega), if_neg (by omega), if_neg (by omega), if_neg (by omega), if_pos rfl] at hw
 split at hw
 ·cases hw
  obtain ⟨h1, h2, h3⟩ := B24 hs
  simp only [List.getD_cons_zero, List.getD_cons_succ] at h2 h3 ⊢
  refine ⟨by rw [hx, h1], by rw [hy]; congr 1; exact h2.symm, by rw [hz]; congr 1; exact h3.symm⟩
 ·cases hw
theorem A8S (h : E6 cx (.mk 10 nm num ty fr lb [a, b]) = some T) : ∃ A B, E6 cx a = some A ∧ E6 cx b = some B ∧ T = .mk 5 [A, B] := by
 obtain ⟨us, hu, _, hn⟩ := A1h h
 rw [R6, if_neg (by omega)] at hu
 obtain ⟨x, y, hx, hy, rfl⟩ := A1T hu
 obtain ⟨_, w, hw, hs⟩ := hn (by decide)
 unfold Q5 at hw
 rw [if_neg (by omega), if_neg (by omega), if_neg (by omega), if_neg (by omega), if_neg (by omega), if_neg (by omega), if_neg (by omega), if_pos rfl] at hw
 cases hw
 exact ⟨x, y, hx, hy, rfl⟩
theorem A8T {k : Int} (hk : k = 11 ∨ k = 12) (h : E6 cx (.mk k nm num ty fr lb [a]) = some T) : ∃ A B, E6 cx a = some (.mk 5 [A, B]) ∧ T = if k = 12 then B else A := by
 obtain ⟨us, hu, _, hn⟩ := A1h h
 rw [R6, if_neg (by omega)] at hu
 obtain ⟨x, hx, rfl⟩ := A2U hu
 obtain ⟨_, w, hw, hs⟩ := hn (by omega)
 unfold Q5 at hw
 rw [if_neg (by omega), if_neg (by omega), if_neg (by omega), if_neg (by omega), if_neg (by omega), if_neg (by omega), if_neg (by omega), if_neg (by omega), if_neg (by omega)] at hw
 split at hw
 ·rename_i p q hm
  cases hw
  have h1 := B23 hs
  subst h1
  exact ⟨p, q, hx, rfl⟩
 ·cases hw
theorem B26 {k : Int} {A B : Ty} (hk : k = 11 ∨ k = 12) (hv : M1 (if k = 12 then B else A) = true) (h : E6 cx a = some (.mk 5 [A, B])) : E6 cx (.mk k nm num ty fr lb [a]) = some (if k = 12 then B else A) := by
 refine A1i (us := [.mk 5 [A, B]]) (w := [.mk 5 [A, B]]) (by rw [R6, if_neg (by omega)]; exact A5Z h) (by omega) hv ?_ (A2V _)
 unfold Q5
 rw [if_neg (by omega), if_neg (by omega), if_neg (by omega), if_neg (by omega), if_neg (by omega), if_neg (by omega), if_neg (by omega), if_neg (by omega), if_neg (by omega)]
 simp only [List.getD_cons_zero, A3w, if_true, List.getD_cons_succ]
theorem B27 (h : E6 cx (.mk 14 nm num ty fr lb [a]) = some T) : E6 cx a = some fr ∧ T = ty := by
 obtain ⟨us, hu, hn, _⟩ := A1h h
 obtain ⟨x, hx, rfl⟩ := A2U hu
 obtain ⟨h1, h2⟩ := hn rfl
 simp only [List.getD_cons_zero] at h1
 subst h1
 exact ⟨hx, h2⟩
theorem B28 (h : E6 cx (.mk 5 nm num ty fr lb [a]) = some T) : ∃ B, E6 (cx ++ [(nm, ty)]) a = some B ∧ T = .mk 4 [ty, B] := by
 obtain ⟨us, hu, _, hn⟩ := A1h h
 rw [R6, if_pos rfl] at hu
 obtain ⟨x, hx, rfl⟩ := A2U hu
 obtain ⟨_, w, hw, hs⟩ := hn (by decide)
 unfold Q5 at hw
 rw [if_neg (by omega), if_neg (by omega), if_neg (by omega), if_pos rfl] at hw
 cases hw
 exact ⟨x, hx, rfl⟩
theorem A51 (h : E6 cx (.mk 1 nm num ty fr lb []) = some T) : X4 cx nm = some T := by
 obtain ⟨us, hu, _, hn⟩ := A1h h
 obtain ⟨_, w, hw, hs⟩ := hn (by decide)
 unfold Q5 at hw
 rw [if_pos rfl] at hw
 split at hw
 ·rename_i t ht; cases hw; exact ht
 ·cases hw
theorem B29 (h : E6 cx (.mk 2 nm num ty fr lb []) = some T) : T = O7 := by
 obtain ⟨us, hu, _, hn⟩ := A1h h
 obtain ⟨_, w, hw, hs⟩ := hn (by decide)
 cases hw; rfl
theorem B3a {k : Int} (hk : k = 3 ∨ k = 4) (h : E6 cx (.mk k nm num ty fr lb []) = some T) : T = U9 := by
 obtain ⟨us, hu, _, hn⟩ := A1h h
 obtain ⟨_, w, hw, hs⟩ := hn (by omega)
 rcases hk with rfl | rfl <;> (cases hw; rfl)
end inv
theorem B3b (cx : Cx) (x nm : ByteArray) (t : Ty) : X4 (cx ++ [(x, t)]) nm = if x = nm then some t else X4 cx nm := by
 unfold X4
 rw [List.length_append, show ([(x, t)] : Cx).length = 1 from rfl]
 have hl : (cx ++ [(x, t)])[cx.length]? = some (x, t) := by rw [List.getElem?_append_right (Nat.le_refl _)]; simp
 by_cases h : x = nm
 ·rw [A4g hl h, if_pos h]
 ·rw [A4h hl h, if_neg h]
  have : ∀ n, n ≤ cx.length → W4 (cx ++ [(x, t)]) nm n = W4 cx nm n := by
   intro n
   induction n with
   | zero => intro _; rfl
   | succ n ih =>
    intro hn
    rw [W4, W4, List.getElem?_append_left (by omega), ih (by omega)]
  exact this _ (Nat.le_refl _)
mutual
def A52 : Ty → Ty → Bool
 | .mk k ks, t => decide (t.k = 1) || (decide (k = t.k) && A8U ks t.ks)
def A8U : List Ty → List Ty → Bool
 | [], [] => true
 | a :: xs, b :: ys => A52 a b && A8U xs ys
 | _, _ => false
end
mutual
def A8V : Tm → Tm → Bool
 | .mk k nm num ty _ _ ks, u => decide (k = u.k ∧ nm = u.nm ∧ num = u.num) && (decide (k ≠ 5 ∧ k ≠ 13) || A52 ty u.ty) && A8W ks u.ks
def A8W : List Tm → List Tm → Bool
 | [], [] => true
 | a :: xs, b :: ys => A8V a b && A8W xs ys
 | _, _ => false
end
def B3c (a b : Tm) : Bool := A0E a && (A0E b && A8V a b)
theorem A2W : ∀ (t : Ty), M1 t = true → ∃ a : GT, t = a.ty
 | .mk k ks, h => by
  by_cases h4 : k = 4
  ·obtain ⟨x, y, hxy, hx, hy⟩ := A4x (.inl h4) h
   have : SizeOf.sizeOf x < SizeOf.sizeOf ks ∧ SizeOf.sizeOf y < SizeOf.sizeOf ks := by subst hxy; simp; omega
   obtain ⟨a, ha⟩ := A2W x hx
   obtain ⟨b, hb⟩ := A2W y hy
   exact ⟨.fn a b, by rw [h4, hxy, ha, hb]; rfl⟩
  ·by_cases h5 : k = 5
   ·obtain ⟨x, y, hxy, hx, hy⟩ := A4x (.inr h5) h
    have : SizeOf.sizeOf x < SizeOf.sizeOf ks ∧ SizeOf.sizeOf y < SizeOf.sizeOf ks := by subst hxy; simp; omega
    obtain ⟨a, ha⟩ := A2W x hx
    obtain ⟨b, hb⟩ := A2W y hy
    exact ⟨.pr a b, by rw [h5, hxy, ha, hb]; rfl⟩
   ·obtain ⟨h1, rfl⟩ := B22 h h4 h5
    rcases h1 with rfl | rfl | rfl
    ·exact ⟨.any, rfl⟩
    ·exact ⟨.int, rfl⟩
    ·exact ⟨.bool, rfl⟩
 termination_by t => SizeOf.sizeOf t
 decreasing_by all_goals (simp only [Ty.mk.sizeOf_spec]; omega)
theorem B3d : ∀ (a b : GT), O9 a.ty b.ty = true ↔ Co a b := by
 intro a
 induction a with
 | any => intro b; cases b <;> simp [GT.ty, V2, U1] <;> exact .l
 | int => intro b; cases b <;> simp [GT.ty, V2, U1] <;> first | exact .r | exact .int | (intro h; cases h)
 | bool => intro b; cases b <;> simp [GT.ty, V2, U1] <;> first | exact .r | exact .bool | (intro h; cases h)
 | fn x y i j =>
  intro b
  cases b with
  | fn z w => simp only [GT.ty, V2, U1, i, j, Bool.or_eq_true, Bool.and_eq_true, decide_eq_true_eq, Bool.and_true, true_and]; exact ⟨fun h => by rcases h with h | h; exact absurd h (by decide); exact .fn h.1 h.2, fun h => by cases h with | fn a b => exact .inr ⟨a, b⟩⟩
  | any => simp [GT.ty, V2, U1]; exact .r
  | _ => simp [GT.ty, V2, U1]; intro h; cases h
 | pr x y i j =>
  intro b
  cases b with
  | pr z w => simp only [GT.ty, V2, U1, i, j, Bool.or_eq_true, Bool.and_eq_true, decide_eq_true_eq, Bool.and_true, true_and]; exact ⟨fun h => by rcases h with h | h; exact absurd h (by decide); exact .pr h.1 h.2, fun h => by cases h with | pr a b => exact .inr ⟨a, b⟩⟩
  | any => simp [GT.ty, V2, U1]; exact .r
  | _ => simp [GT.ty, V2, U1]; intro h; cases h
def A4y : GT → GT → GT
 | .any, b => b
 | .fn a b, .fn c d => .fn (A4y a c) (A4y b d)
 | .pr a b, .pr c d => .pr (A4y a c) (A4y b d)
 | a, _ => a
def gmF : GT → Option (GT × GT)
 | .fn a b => some (a, b)
 | .any => some (.any, .any)
 | _ => none
def gmP : GT → Option (GT × GT)
 | .pr a b => some (a, b)
 | .any => some (.any, .any)
 | _ => none
def CxR (cx cx' : Cx) (Γ : GC) : Prop := ∀ x a, X4 cx x = some a → ∃ A A', a = A.ty ∧ X4 cx' x = some A'.ty ∧ Γ x = some (A, A') ∧ Le A A'
theorem B3e : CxR [] [] emp := by intro x a h; simp [X4, W4] at h
theorem B3f {cx cx' : Cx} {Γ : GC} (h : CxR cx cx' Γ) {A A' : GT} (hl : Le A A') (x : ByteArray) : CxR (cx ++ [(x, A.ty)]) (cx' ++ [(x, A'.ty)]) (gup Γ x A A') := by
 intro y a ha
 rw [B3b] at ha ⊢
 unfold gup
 by_cases hy : x = y
 ·rw [if_pos hy] at ha ⊢
  rw [if_pos hy]
  cases ha
  exact ⟨A, A', rfl, rfl, rfl, hl⟩
 ·rw [if_neg hy] at ha ⊢
  rw [if_neg hy]
  exact h y a ha
def B6j (A B : GT) (l : Int) (e : GE) : GE := if K9 A.ty B.ty = true then e else .cast A B l e
inductive GPL (Γ : GC) : List GE → List GE → List GT → List GT → Prop
 | nil : GPL Γ [] [] [] []
 | cons {e e' A A' es es' As As'} : GP Γ e e' A A' → GPL Γ es es' As As' → GPL Γ (e :: es) (e' :: es') (A :: As) (A' :: As')
abbrev ElR (Γ : GC) (u : Tm) (a : Ty) (r : Option (Tm × Ty × Int)) : Prop := ∃ e A e' A' l2, u = e.tm ∧ a = A.ty ∧ r = some (e'.tm, A'.ty, l2) ∧ GP Γ e e' A A'
section
variable {cx cx' : Cx} {Γ : GC} {es es' : List GE} {As As' : List GT} {l l' : Int} {u : Tm} {a : Ty} {l2 : Int} {nm : ByteArray} {num : Int}
end
theorem A1j (e : Tm) (a b : Ty) (l : Int) (G : IM) (ce ca cb : List Value) (hl : F4 l) (he : A7 G e ce) (ha : B3 G a ca) (hb : B3 G b cb) : Fn Tryz.prog 148 [.agg ⟨ce⟩, .agg ⟨ca⟩, .agg ⟨cb⟩, .int .i64 l] [] G (R4 (K8 e a b l)) := by
 have hel := he.len
 have heo := he.one
 obtain ⟨v1, v2, v3, v4, v5, v6, v7, v8, v9, rfl⟩ := nine hel
 obtain ⟨ak, aks⟩ := a
 obtain ⟨bk, bks⟩ := b
 obtain ⟨pa, cca, ea, rfl, _⟩ := ha.open
 obtain ⟨pb, ccb, eb, rfl, _⟩ := hb.open
 refine B5 Tryz.func148 rfl Tryz.ntmps148 Tryz.results148 rfl ?_
 intro w0
 refine tS (tR ?_)
 refine sE (C0 rfl rfl) rfl (fun b3 => ?_)
 refine sE (C0 rfl rfl) rfl (fun b4 => ?_)
 refine sE (C0 rfl rfl) rfl (fun b5 => ?_)
 refine sE (A5 rfl) rfl (fun b6 => ?_)
 refine sD (nS (tS (tR ?_)))
 refine sL (A2 rfl rfl (A6 (by repeat first | exact mH | apply mT)) rfl) rfl rfl ?_
 refine sL (A2 rfl rfl (A6 (by repeat first | exact mH | apply mT)) rfl) rfl rfl ?_
 refine sQ (qM rfl) rfl ?_
 refine sL (A2 rfl rfl (A6 (by repeat first | exact mH | apply mT)) rfl) rfl rfl ?_
 (refine J5 (C8 rfl rfl rfl (by omega) (by unfold maxLen; omega) rfl) rfl ?_; rintro _ ⟨b15, rfl⟩)
 refine sQ (Q1 rfl rfl) rfl (F8 ?_)
 refine sD (nS ?_)
 (refine H7 (cs := [v1, v2, v3, v4, v5, v6, v7, v8, v9]) (by repeat (first | exact Pk.here | apply Pk.there)) (fun G2 hle2 hsl2 hno2 => ?_))
 refine tT ?_
 refine E2 (rC rfl (A3 rfl rfl)) ?_
 (exact R4.mk (A7.put (us := [e]) (es := [[v1, v2, v3, v4, v5, v6, v7, v8, v9]]) ⟨by decide, by decide⟩ ⟨by decide, by decide⟩ hl (hb.mono hle2) (ha.mono hle2) rfl (C5.of hsl2 rfl (by intro x hx; obtain rfl := List.mem_singleton.1 hx; rfl) (by intro x hx; obtain rfl := List.mem_singleton.1 hx; exact heo)) (by simp only [C6]; exact ⟨_, _, rfl, he.mono hle2, rfl⟩)))
theorem A2X (k : Int) (p : Option Addr) (n c : Nat) (G : IM) : Fn Tryz.prog 243 [.int .i64 k, .slice p n c] [] G (I0 (.agg ⟨[.int .i64 k, .string ⟨⟨[]⟩⟩, .int .i64 0, .int .i64 0, .slice none 0 0, .int .i64 0, .slice none 0 0, .int .i64 0, .slice p n c]⟩) G) := by
 refine B5 Tryz.func243 rfl Tryz.ntmps243 Tryz.results243 rfl ?_
 intro w0
 refine tS (tR ?_)
 refine sE (A5 rfl) rfl (fun b3 => ?_)
 refine J7 ?_
 refine E2 (rC rfl (A3 rfl rfl)) ?_
 (exact ⟨rfl, rfl, rfl⟩)
theorem A4z (G : IM) {k : Int} (hk : F4 k) : A7 G (V4 k []) [.int .i64 k, .string ⟨⟨[]⟩⟩, .int .i64 0, .int .i64 0, .slice none 0 0, .int .i64 0, .slice none 0 0, .int .i64 0, .slice none 0 0] := A0K hk rfl (C5.nil _ _) rfl
theorem B3g (G : IM) : Fn Tryz.prog 242 [.bool true] [] G (R4 (X6 (true = true))) := by
 refine B5 Tryz.func242 rfl Tryz.ntmps242 Tryz.results242 rfl ?_
 intro w0
 refine tS (tR ?_)
 refine sE (A5 rfl) rfl (fun b3 => ?_)
 refine J7 ?_
 refine E8 rfl ((A2X _ _ _ _ _)) rfl rfl ?_
 refine F8 ?_
 refine sD (nS (tT (rS ?_)))
 refine E2 (rC rfl (A3 rfl rfl)) ?_
 (exact R4.mk (A4z _ ⟨by decide, by decide⟩))
theorem B3h (G : IM) : Fn Tryz.prog 242 [.bool false] [] G (R4 (X6 (false = true))) := by
 refine B5 Tryz.func242 rfl Tryz.ntmps242 Tryz.results242 rfl ?_
 intro w0
 refine tS (tR ?_)
 refine sE (A5 rfl) rfl (fun b3 => ?_)
 refine J4 ?_
 refine E8 rfl ((A2X _ _ _ _ _)) rfl rfl ?_
 refine F8 ?_
 refine sD (nS (tT ?_))
 refine E2 (rC rfl (A3 rfl rfl)) ?_
 (exact R4.mk (A4z _ ⟨by decide, by decide⟩))
theorem A8X (b : Bool) (G : IM) : Fn Tryz.prog 242 [.bool b] [] G (R4 (X6 (b = true))) := by
 cases b
 ·exact B3h G
 ·exact B3g G
theorem A8Y {a b : Int} (h : 0 ≤ a ∧ a ≤ 999) (h' : 0 ≤ b ∧ b ≤ 999) : (a + b).tmod 1000 = (a + b) % 1000 := by
 rw [Int.tmod_eq_emod_of_nonneg (by omega)]
def W8 (k : Int) (ks : List Tm) : Option Tm :=
 if k = 6 then (if (kd ks 0).k = 5 then some (Q8 (kd ks 0).nm (kd ks 1) (kd (kd ks 0).ks 0)) else none)
 else if k = 7 ∨ k = 8 then (if (kd ks 0).k = 2 ∧ (kd ks 1).k = 2 then some (if k = 7 then A2k (((kd ks 0).num + (kd ks 1).num) % 1000) else X6 ((kd ks 0).num < (kd ks 1).num)) else none)
 else if k = 9 then (if (kd ks 0).k = 3 then some (kd ks 1) else if (kd ks 0).k = 4 then some (kd ks 2) else none)
 else if k = 11 ∨ k = 12 then (if (kd ks 0).k = 10 then some (kd (kd ks 0).ks (k - 11).toNat) else none)
 else none
def R7 (o : Option Tm) : IM → Value → List A4 → Prop := K4 fun G' v => ∃ u cells c, v = .tuple ⟨[.agg ⟨cells⟩, .int .i64 c]⟩ ∧ A7 G' u cells ∧ (∀ x, o = some x → c = 1 ∧ u = x) ∧ (o = none → c = 3)
theorem R7.yes {G : IM} {o : Option Tm} {u : Tm} {cells : List Value} (h : o = some u) (hr : A7 G u cells) : R7 o G (.tuple ⟨[.agg ⟨cells⟩, .int .i64 1]⟩) [] := by
 subst h; exact ⟨rfl, u, cells, 1, rfl, hr, fun x hx => (by cases hx; exact ⟨rfl, rfl⟩), fun h => (by cases h)⟩
theorem R7.no {G : IM} {o : Option Tm} {u : Tm} {cells : List Value} (h : o = none) (hr : A7 G u cells) : R7 o G (.tuple ⟨[.agg ⟨cells⟩, .int .i64 3]⟩) [] := by
 subst h; exact ⟨rfl, u, cells, 3, rfl, hr, fun x hx => (by cases hx), fun _ => rfl⟩
theorem M5 (G : IM) : A7 G I3 [.int .i64 0, .string ⟨⟨[]⟩⟩, .int .i64 0, .int .i64 0, .slice none 0 0, .int .i64 0, .slice none 0 0, .int .i64 0, .slice none 0 0] := (P7.zero G).R
theorem B3i (a b : Tm) (nm : ByteArray) (num : Int) (ty fr : Ty) (lb : Int) (G : IM) (cells : List Value) (hca : cv a) (hr : A7 G (.mk 6 nm num ty fr lb [a, b]) cells) : Fn Tryz.prog 220 [.agg ⟨cells⟩] [] G (R7 (W8 6 [a, b])) := by
 have hsm := A2l a hca
 obtain ⟨ak, anm, anum, ⟨atk, atks⟩, ⟨afk, afks⟩, alb, aks⟩ := a
 obtain ⟨tk, tks⟩ := ty
 obtain ⟨fk, fks⟩ := fr
 obtain ⟨pt, ct, pf, cf, p, c, es, rfl, hk, hnum, hlb, hty, hfr, hsl, hkl⟩ := hr.open9
 obtain ⟨bx, ox, e0, rfl, hl0, hat0, hre0, hgb0⟩ := hsl.kidTm hkl (i := 0) (by simp) (by simp)
 replace hre0 : A7 G (.mk ak anm anum (.mk atk atks) (.mk afk afks) alb aks) e0 := hre0
 obtain ⟨apt, act, apf, acf, ap, ac, aes, rfl, hak, hanum, halb, haty, hafr, hasl, hakl⟩ := hre0.open9
 obtain ⟨_, _, e1, hp1, hl1, hat1, hre1, hgb1⟩ := hsl.kidTm hkl (i := 1) (by simp) (by simp)
 cases hp1
 replace hre1 : A7 G b e1 := hre1
 have ho1 := hre1.one
 obtain ⟨hN, _⟩ := hca.node
 have hops := hN.ops
 obtain ⟨_, _, _, _, hksm⟩ := A0z.1 hsm
 have h1 : ak = 5 → aks.length = 1 := fun h => by rw [h] at hops; have : E0 5 = 1 := rfl; omega
 have hL : ([Tm.mk ak anm anum (.mk atk atks) (.mk afk afks) alb aks, b] : List Tm).length = 2 := rfl
 rw [show W8 6 [Tm.mk ak anm anum (.mk atk atks) (.mk afk afks) alb aks, b] = (if ak = 5 then some (Q8 anm b (kd aks 0)) else none) from rfl]
 refine B5 Tryz.func220 rfl Tryz.ntmps220 Tryz.results220 rfl ?_
 intro w0
 refine tS (tR ?_)
 refine sE (C0 rfl rfl) rfl (fun b3 => ?_)
 refine sE (A5 rfl) rfl (fun b4 => ?_)
 refine I1 ?_
 refine sE (A5 rfl) rfl (fun b11 => ?_)
 refine D7 ?_
 refine sP (A3e rfl rfl (by omega)) rfl rfl ?_
 refine I1 ?_
 refine sP (B0 (j := 0) rfl rfl rfl (by simp)) rfl rfl ?_
 refine sL (A2 rfl rfl (hat0 _) rfl) rfl rfl ?_
 refine H8 ?_
 refine B9 ?_
 refine tS (tR ?_)
 refine sP (Q0 rfl rfl (by omega)) rfl rfl ?_
 refine D8 ?_
 refine sB (qE rfl rfl) rfl rfl (fun h52 => ?_) (fun h52 => ?_)
 refine sD (nS (qT rfl (tS ?_)))
 (have hq : ak = 5 := (by omega); have hq1 := h1 hq; obtain ⟨bq, oq, e3, rfl, hl3, hat3, hre3, hgb3⟩ := hasl.kidTm hakl (i := 0) (by omega) (by omega); have hS := B2D anm b e1 aks[0] G e3 (Tm.smallL_mem hksm _ (List.getElem_mem (by omega))) hre3 hre1; refine C9 D1 rfl ?_)
 refine H6 (i := 0) (l' := [tt,ff,ff,ff,ff,ff,ff,ff,ff,ff,ff,ff,ff]) rfl C4 (A9 rfl) rfl (by kernel_rfl) rfl rfl ?_
 refine aL 1 rfl (B7 rfl rfl) rfl ?_
 refine aP 2 rfl (B0 (j := 0) rfl rfl rfl (by omega)) rfl ?_
 refine aL 3 rfl (A2 rfl rfl (hat3 _) hl3) rfl ?_
 refine aP 4 rfl (A9 rfl) rfl ?_
 refine aL 5 rfl (B7 rfl rfl) rfl ?_
 refine aP 6 rfl (A9 rfl) rfl ?_
 refine aL 7 rfl (B7 rfl rfl) rfl ?_
 refine aP 8 rfl (B0 (j := 1) rfl rfl rfl (by simp)) rfl ?_
 refine aL 9 rfl (A2 rfl rfl (hat1 _) hl1) rfl ?_
 refine A1 10 ?_
 (refine E1 rfl rfl hS rfl rfl rfl (fun u G1 hle1 hh => ?_); obtain ⟨uc, rfl, hru⟩ := hh; have hul := hru.len; have huo := hru.one)
 refine A1 11 ?_
 (refine oS rfl rfl rfl rfl hul huo rfl rfl ?_ (hu := by exact C2 hul.symm))
 refine aP 12 rfl (qA rfl) rfl ?_
 refine B8 (nS (tT (rB (rS ?_))))
 refine D6 (rC rfl (A2 rfl rfl (A6 (by repeat first | exact mH | apply mT)) hul)) (rT rfl) ?_
 (exact R7.yes (by rw [if_pos (by omega)]; unfold kd; rw [List.getD_eq_getElem?_getD, List.getElem?_eq_getElem (by omega), Option.getD_some]) hru)
 refine L1 ?_
 refine D6 (rC rfl (A3 rfl rfl)) (rT rfl) ?_
 (exact R7.no (by rw [if_neg (by omega)]) (M5 _))
theorem A8Z (k : Int) (a b : Tm) (nm : ByteArray) (num : Int) (ty fr : Ty) (lb : Int) (G : IM) (cells : List Value) (hk78 : k = 7 ∨ k = 8) (hca : cv a) (hcb : cv b) (hr : A7 G (.mk k nm num ty fr lb [a, b]) cells) : Fn Tryz.prog 220 [.agg ⟨cells⟩] [] G (R7 (W8 k [a, b])) := by
 obtain ⟨ak, anm, anum, ⟨atk, atks⟩, ⟨afk, afks⟩, alb, aks⟩ := a
 obtain ⟨tk, tks⟩ := ty
 obtain ⟨fk, fks⟩ := fr
 obtain ⟨pt, ct, pf, cf, p, c, es, rfl, hk, hnum, hlb, hty, hfr, hsl, hkl⟩ := hr.open9
 obtain ⟨bx, ox, e0, rfl, hl0, hat0, hre0, hgb0⟩ := hsl.kidTm hkl (i := 0) (by simp) (by simp)
 replace hre0 : A7 G (.mk ak anm anum (.mk atk atks) (.mk afk afks) alb aks) e0 := hre0
 obtain ⟨apt, act, apf, acf, ap, ac, aes, rfl, hak, hanum, halb, haty, hafr, hasl, hakl⟩ := hre0.open9
 obtain ⟨bk, bnm, bnum, ⟨btk, btks⟩, ⟨bfk, bfks⟩, blb, bks⟩ := b
 obtain ⟨_, _, e1, hp1, hl1, hat1, hre1, hgb1⟩ := hsl.kidTm hkl (i := 1) (by simp) (by simp)
 cases hp1
 replace hre1 : A7 G (.mk bk bnm bnum (.mk btk btks) (.mk bfk bfks) blb bks) e1 := hre1
 obtain ⟨bpt, bct, bpf, bcf, bp, bc, bes, rfl, hbk, hbnum, hblb, hbty, hbfr, hbsl, hbkl⟩ := hre1.open9
 obtain ⟨hN, _⟩ := hca.node
 obtain ⟨hM, _⟩ := hcb.node
 obtain ⟨hn1, hn2⟩ := hN.num0
 obtain ⟨hm1, hm2⟩ := hM.num0
 have hL : ([Tm.mk ak anm anum (.mk atk atks) (.mk afk afks) alb aks, Tm.mk bk bnm bnum (.mk btk btks) (.mk bfk bfks) blb bks] : List Tm).length = 2 := rfl
 have hR : W8 k [Tm.mk ak anm anum (.mk atk atks) (.mk afk afks) alb aks, Tm.mk bk bnm bnum (.mk btk btks) (.mk bfk bfks) blb bks] = (if ak = 2 ∧ bk = 2 then some (if k = 7 then A2k ((anum + bnum) % 1000) else X6 (anum < bnum)) else none) := by
  unfold W8; rw [if_neg (by omega), if_pos hk78]; rfl
 rw [hR]
 have htm : (anum + bnum).tmod 1000 = (anum + bnum) % 1000 := A8Y ⟨hn1, hn2⟩ ⟨hm1, hm2⟩
 have hb : F4 ((anum + bnum) % 1000) := ⟨by omega, by omega⟩
 refine B5 Tryz.func220 rfl Tryz.ntmps220 Tryz.results220 rfl ?_
 intro w0
 refine tS (tR ?_)
 refine sE (C0 rfl rfl) rfl (fun b3 => ?_)
 refine sE (A5 rfl) rfl (fun b4 => ?_)
 refine I1 ?_
 refine sE (A5 rfl) rfl (fun b11 => ?_)
 refine D7 ?_
 refine sP (A3e rfl rfl (by omega)) rfl rfl ?_
 refine I1 ?_
 refine sP (B0 (j := 0) rfl rfl rfl (by simp)) rfl rfl ?_
 refine sL (A2 rfl rfl (hat0 _) rfl) rfl rfl ?_
 refine H8 ?_
 refine B9 ?_
 refine tS (tR ?_)
 refine sP (E4 rfl rfl (by omega)) rfl rfl ?_
 refine sQ (qA rfl) rfl (sD (nS (cF rfl (tS (tS (tR ?_))))))
 refine sB (qE rfl rfl) rfl rfl (fun h51 => ?_) (fun h51 => ?_)
 refine J7 ?_
 refine sP (B0 (j := 1) rfl rfl rfl (by simp)) rfl rfl ?_
 refine sL (A2 rfl rfl (hat1 _) rfl) rfl rfl ?_
 refine sE (A5 rfl) rfl (fun b65 => ?_)
 refine F8 ?_
 refine sD (nS ?_)
 refine B9 ?_
 refine tS (tR (sQ (A9 rfl) rfl (sL (B7 rfl rfl) rfl rfl ?_)))
 refine sB (O5 rfl rfl) rfl rfl (fun h74 => ?_) (fun h74 => ?_)
 refine Y1 ?_
 refine D6 (rC rfl (A3 rfl rfl)) (rT rfl) ?_
 (exact R7.no (by rw [if_neg (by omega)]) (M5 _))
 refine I6 ?_
 refine sB (O5 rfl rfl) rfl rfl (fun h101 => ?_) (fun h101 => ?_)
 refine R2 ?_
 refine D6 (rC rfl (A3 rfl rfl)) (rT rfl) ?_
 (exact R7.no (by rw [if_neg (by omega)]) (M5 _))
 refine D7 ?_
 refine sP (Q0 rfl rfl (by omega)) rfl rfl ?_
 refine H8 ?_
 refine sP (J6 rfl rfl (by omega) (by omega)) rfl rfl ?_
 refine sP (A3c rfl rfl (by omega)) rfl rfl ?_
 refine sQ (Q1 rfl rfl) rfl ?_
 (rw [htm]; refine F8 ?_)
 refine sQ (qA rfl) rfl (sD (nS (tT (rB (rB (rS ?_))))))
 refine D6 (rC rfl (A3 rfl rfl)) (rT rfl) ?_
 (exact R7.yes (u := A2k (HMod.hMod (anum + bnum) 1000)) (by rw [if_pos ⟨by omega, by omega⟩, if_pos (by omega)]) (A7.put (us := []) ⟨by decide, by decide⟩ hb ⟨by decide, by decide⟩ (A1c _) (A1c _) rfl (C5.nil _ _) rfl))
 refine sQ (qA rfl) rfl (sD (nS (cF rfl (tR ?_))))
 refine sP (Q0 rfl rfl (by omega)) rfl rfl ?_
 refine D8 ?_
 refine sP (B0 (j := 1) rfl rfl rfl (by simp)) rfl rfl ?_
 refine sL (A2 rfl rfl (hat1 _) rfl) rfl rfl ?_
 refine sE (A5 rfl) rfl (fun b170 => ?_)
 refine F8 ?_
 refine sD (nS ?_)
 refine B9 ?_
 refine tS (tR (sQ (A9 rfl) rfl (sL (B7 rfl rfl) rfl rfl ?_)))
 refine sB (O5 rfl rfl) rfl rfl (fun h179 => ?_) (fun h179 => ?_)
 refine Y1 ?_
 refine D6 (rC rfl (A3 rfl rfl)) (rT rfl) ?_
 (exact R7.no (by rw [if_neg (by omega)]) (M5 _))
 refine I6 ?_
 refine sB (O5 rfl rfl) rfl rfl (fun h206 => ?_) (fun h206 => ?_)
 refine R2 ?_
 refine D6 (rC rfl (A3 rfl rfl)) (rT rfl) ?_
 (exact R7.no (by rw [if_neg (by omega)]) (M5 _))
 refine D7 ?_
 refine sP (E4 rfl rfl (by omega)) rfl rfl ?_
 refine H8 ?_
 (refine sB (K1 rfl rfl) rfl rfl (fun h246 => ?_) (fun h246 => ?_))
 (refine D3 rfl (A8X _ _) rfl rfl (fun u G1 hle1 hh => ?_); obtain ⟨uc, rfl, hru⟩ := hh; have hul := hru.len; have huo := hru.one)
 refine sS rfl rfl rfl hul huo rfl ?_ (hu := by exact C2 hul.symm)
 refine sQ (qA rfl) rfl (sD (nS (tT (rB (rB (rS ?_))))))
 refine D6 (rC rfl (A2 rfl rfl (A6 (by repeat first | exact mH | apply mT)) hul)) (rT rfl) ?_
 (exact R7.yes (by rw [if_pos ⟨by omega, by omega⟩, if_neg (by omega)]; unfold X6; rw [if_pos (by omega), if_pos rfl]) hru)
 (refine D3 rfl (A8X _ _) rfl rfl (fun u G1 hle1 hh => ?_); obtain ⟨uc, rfl, hru⟩ := hh; have hul := hru.len; have huo := hru.one)
 refine sS rfl rfl rfl hul huo rfl ?_ (hu := by exact C2 hul.symm)
 refine sQ (qA rfl) rfl (sD (nS (tT (rB (rB (rS ?_))))))
 refine D6 (rC rfl (A2 rfl rfl (A6 (by repeat first | exact mH | apply mT)) hul)) (rT rfl) ?_
 (exact R7.yes (by rw [if_pos ⟨by omega, by omega⟩, if_neg (by omega)]; unfold X6; rw [if_neg (by omega), if_neg (by decide)]) hru)
theorem B3j (a b c0 : Tm) (nm : ByteArray) (num : Int) (ty fr : Ty) (lb : Int) (G : IM) (cells : List Value) (hr : A7 G (.mk 9 nm num ty fr lb [a, b, c0]) cells) : Fn Tryz.prog 220 [.agg ⟨cells⟩] [] G (R7 (W8 9 [a, b, c0])) := by
 obtain ⟨ak, anm, anum, ⟨atk, atks⟩, ⟨afk, afks⟩, alb, aks⟩ := a
 obtain ⟨tk, tks⟩ := ty
 obtain ⟨fk, fks⟩ := fr
 obtain ⟨pt, ct, pf, cf, p, c, es, rfl, hk, hnum, hlb, hty, hfr, hsl, hkl⟩ := hr.open9
 obtain ⟨bx, ox, e0, rfl, hl0, hat0, hre0, hgb0⟩ := hsl.kidTm hkl (i := 0) (by simp) (by simp)
 replace hre0 : A7 G (.mk ak anm anum (.mk atk atks) (.mk afk afks) alb aks) e0 := hre0
 obtain ⟨apt, act, apf, acf, ap, ac, aes, rfl, hak, hanum, halb, haty, hafr, hasl, hakl⟩ := hre0.open9
 obtain ⟨_, _, e1, hp1, hl1, hat1, hre1, hgb1⟩ := hsl.kidTm hkl (i := 1) (by simp) (by simp)
 cases hp1
 replace hre1 : A7 G b e1 := hre1
 have ho1 := hre1.one
 obtain ⟨_, _, e2, hp2, hl2, hat2, hre2, hgb2⟩ := hsl.kidTm hkl (i := 2) (by simp) (by simp)
 cases hp2
 replace hre2 : A7 G c0 e2 := hre2
 have ho2 := hre2.one
 have hL : ([Tm.mk ak anm anum (.mk atk atks) (.mk afk afks) alb aks, b, c0] : List Tm).length = 3 := rfl
 rw [show W8 9 [Tm.mk ak anm anum (.mk atk atks) (.mk afk afks) alb aks, b, c0] = (if ak = 3 then some b else if ak = 4 then some c0 else none) from rfl]
 refine B5 Tryz.func220 rfl Tryz.ntmps220 Tryz.results220 rfl ?_
 intro w0
 refine tS (tR ?_)
 refine sE (C0 rfl rfl) rfl (fun b3 => ?_)
 refine sE (A5 rfl) rfl (fun b4 => ?_)
 refine I1 ?_
 refine sE (A5 rfl) rfl (fun b11 => ?_)
 refine D7 ?_
 refine sP (A3e rfl rfl (by omega)) rfl rfl ?_
 refine I1 ?_
 refine sP (B0 (j := 0) rfl rfl rfl (by simp)) rfl rfl ?_
 refine sL (A2 rfl rfl (hat0 _) rfl) rfl rfl ?_
 refine H8 ?_
 refine B9 ?_
 refine tS (tR ?_)
 refine sP (E4 rfl rfl (by omega)) rfl rfl ?_
 refine sQ (qA rfl) rfl (sD (nS (cF rfl (tS (tS (tR ?_))))))
 refine sP (E4 rfl rfl (by omega)) rfl rfl ?_
 refine sQ (qA rfl) rfl (sD (nS (cF rfl (tR ?_))))
 refine sP (E4 rfl rfl (by omega)) rfl rfl ?_
 refine sQ (qA rfl) rfl (sD (nS (cF rfl (tS (tR ?_)))))
 refine sP (Q0 rfl rfl (by omega)) rfl rfl ?_
 refine H8 ?_
 refine B9 (tS (tR (sB (qE rfl rfl) rfl rfl (fun h78 => ?_) (fun h78 => ?_))))
 refine D8 ?_
 refine sP (B0 (j := 1) rfl rfl rfl (by simp)) rfl rfl ?_
 refine sL (A2 rfl rfl (hat1 _) hl1) rfl rfl ?_
 refine sS rfl rfl rfl hl1 ho1 rfl ?_ (hu := by exact C2 hl1.symm)
 refine sQ (qA rfl) rfl (sD (nS (tT (rB (rB (rS ?_))))))
 refine D6 (rC rfl (A2 rfl rfl (A6 (by repeat first | exact mH | apply mT)) hl1)) (rT rfl) ?_
 (exact R7.yes (by rw [if_pos (by omega)]) hre1)
 refine sQ (qA rfl) rfl (sD (nS (cF rfl (tS (tR ?_)))))
 refine sB (qE rfl rfl) rfl rfl (fun h105 => ?_) (fun h105 => ?_)
 refine D8 ?_
 refine sP (B0 (j := 2) rfl rfl rfl (by simp)) rfl rfl ?_
 refine sL (A2 rfl rfl (hat2 _) hl2) rfl rfl ?_
 refine sS rfl rfl rfl hl2 ho2 rfl ?_ (hu := by exact C2 hl2.symm)
 refine sQ (qA rfl) rfl (sD (nS (tT (rB (rB (rS ?_))))))
 refine D6 (rC rfl (A2 rfl rfl (A6 (by repeat first | exact mH | apply mT)) hl2)) (rT rfl) ?_
 (exact R7.yes (by rw [if_neg (by omega), if_pos (by omega)]) hre2)
 refine K5 ?_
 refine D6 (rC rfl (A3 rfl rfl)) (rT rfl) ?_
 (exact R7.no (by rw [if_neg (by omega), if_neg (by omega)]) (M5 _))
theorem A80 (k : Int) (a : Tm) (nm : ByteArray) (num : Int) (ty fr : Ty) (lb : Int) (G : IM) (cells : List Value) (hk1 : k = 11 ∨ k = 12) (hca : cv a) (hr : A7 G (.mk k nm num ty fr lb [a]) cells) : Fn Tryz.prog 220 [.agg ⟨cells⟩] [] G (R7 (W8 k [a])) := by
 obtain ⟨ak, anm, anum, ⟨atk, atks⟩, ⟨afk, afks⟩, alb, aks⟩ := a
 obtain ⟨tk, tks⟩ := ty
 obtain ⟨fk, fks⟩ := fr
 obtain ⟨pt, ct, pf, cf, p, c, es, rfl, hk, hnum, hlb, hty, hfr, hsl, hkl⟩ := hr.open9
 obtain ⟨bx, ox, e0, rfl, hl0, hat0, hre0, hgb0⟩ := hsl.kidTm hkl (i := 0) (by simp) (by simp)
 replace hre0 : A7 G (.mk ak anm anum (.mk atk atks) (.mk afk afks) alb aks) e0 := hre0
 obtain ⟨apt, act, apf, acf, ap, ac, aes, rfl, hak, hanum, halb, haty, hafr, hasl, hakl⟩ := hre0.open9
 obtain ⟨hN, _⟩ := hca.node
 have hops := hN.ops
 have h2 : ak = 10 → aks.length = 2 := fun h => by rw [h] at hops; have : E0 10 = 2 := rfl; omega
 have hL : ([Tm.mk ak anm anum (.mk atk atks) (.mk afk afks) alb aks] : List Tm).length = 1 := rfl
 have hR : W8 k [Tm.mk ak anm anum (.mk atk atks) (.mk afk afks) alb aks] = (if ak = 10 then some (kd aks (k - 11).toNat) else none) := by
  unfold W8; rw [if_neg (by omega), if_neg (by omega), if_neg (by omega), if_pos hk1]; rfl
 rw [hR]
 obtain ⟨i, hi⟩ : ∃ i : Nat, (k - 11).toNat = i := ⟨_, rfl⟩
 rw [hi]
 refine B5 Tryz.func220 rfl Tryz.ntmps220 Tryz.results220 rfl ?_
 intro w0
 refine tS (tR ?_)
 refine sE (C0 rfl rfl) rfl (fun b3 => ?_)
 refine sE (A5 rfl) rfl (fun b4 => ?_)
 refine I1 ?_
 refine sE (A5 rfl) rfl (fun b11 => ?_)
 refine D7 ?_
 refine sP (A3e rfl rfl (by omega)) rfl rfl ?_
 refine I1 ?_
 refine sP (B0 (j := 0) rfl rfl rfl (by simp)) rfl rfl ?_
 refine sL (A2 rfl rfl (hat0 _) rfl) rfl rfl ?_
 refine H8 ?_
 refine B9 ?_
 refine tS (tR ?_)
 refine sP (E4 rfl rfl (by omega)) rfl rfl ?_
 refine sQ (qA rfl) rfl (sD (nS (cF rfl (tS (tS (tR ?_))))))
 refine sP (E4 rfl rfl (by omega)) rfl rfl ?_
 refine sQ (qA rfl) rfl (sD (nS (cF rfl (tR ?_))))
 refine sP (E4 rfl rfl (by omega)) rfl rfl ?_
 refine sQ (qA rfl) rfl (sD (nS (cF rfl (tS (tR ?_)))))
 refine sP (E4 rfl rfl (by omega)) rfl rfl ?_
 refine sQ (qA rfl) rfl (sD (nS (cF rfl (tS (tS (tR ?_))))))
 refine sB (qE rfl rfl) rfl rfl (fun h72 => ?_) (fun h72 => ?_)
 refine J7 ?_
 refine sB (qE rfl rfl) rfl rfl (fun h84 => ?_) (fun h84 => ?_)
 refine sD (nS (qT rfl (tS ?_)))
 (have hq : ak = 10 := (by omega); have hq1 := h2 hq; obtain ⟨bq, oq, e3, rfl, hl3, hat3, hre3, hgb3⟩ := hasl.kidTm hakl (i := i) (by omega) (by omega); have ho3 := hre3.one)
 refine P6 ?_
 refine sP (O4 rfl rfl (by omega) (by omega)) rfl rfl ?_
 (rw [show (k - 11 : Int) = ((i : Nat) : Int) from (by omega)]; refine sP (B0 (j := i) rfl rfl rfl (by omega)) rfl rfl ?_)
 refine sL (A2 rfl rfl (hat3 _) hl3) rfl rfl ?_
 refine sS rfl rfl rfl hl3 ho3 rfl ?_ (hu := by exact C2 hl3.symm)
 refine sQ (qA rfl) rfl (sD (nS (tT (rB (rS ?_)))))
 refine D6 (rC rfl (A2 rfl rfl (A6 (by repeat first | exact mH | apply mT)) hl3)) (rT rfl) ?_
 (exact R7.yes (by rw [if_pos (by omega)]; unfold kd; rw [List.getD_eq_getElem?_getD, List.getElem?_eq_getElem (by omega), Option.getD_some]) hre3)
 refine L1 ?_
 refine D6 (rC rfl (A3 rfl rfl)) (rT rfl) ?_
 (exact R7.no (by rw [if_neg (by omega)]) (M5 _))
 refine sQ (qA rfl) rfl (sD (nS (cF rfl (tR ?_))))
 refine sP (Q0 rfl rfl (by omega)) rfl rfl ?_
 refine D8 ?_
 refine sB (qE rfl rfl) rfl rfl (fun h137 => ?_) (fun h137 => ?_)
 refine sD (nS (qT rfl (tS ?_)))
 (have hq : ak = 10 := (by omega); have hq1 := h2 hq; obtain ⟨bq, oq, e3, rfl, hl3, hat3, hre3, hgb3⟩ := hasl.kidTm hakl (i := i) (by omega) (by omega); have ho3 := hre3.one)
 refine P6 ?_
 refine sP (O4 rfl rfl (by omega) (by omega)) rfl rfl ?_
 (rw [show (k - 11 : Int) = ((i : Nat) : Int) from (by omega)]; refine sP (B0 (j := i) rfl rfl rfl (by omega)) rfl rfl ?_)
 refine sL (A2 rfl rfl (hat3 _) hl3) rfl rfl ?_
 refine sS rfl rfl rfl hl3 ho3 rfl ?_ (hu := by exact C2 hl3.symm)
 refine sQ (qA rfl) rfl (sD (nS (tT (rB (rS ?_)))))
 refine D6 (rC rfl (A2 rfl rfl (A6 (by repeat first | exact mH | apply mT)) hl3)) (rT rfl) ?_
 (exact R7.yes (by rw [if_pos (by omega)]; unfold kd; rw [List.getD_eq_getElem?_getD, List.getElem?_eq_getElem (by omega), Option.getD_some]) hre3)
 refine L1 ?_
 refine D6 (rC rfl (A3 rfl rfl)) (rT rfl) ?_
 (exact R7.no (by rw [if_neg (by omega)]) (M5 _))
section
variable {P : Program} {Γ : L7} {K : Po} {ops : Array Oper} {env : M2} {hp : List A4} {G : IM}
theorem A03 {H : List (Nat × Nat)} {fuel j : Nat} {listed : List Bool} {hp' : List A4} {p : Option Addr} {c el sz n : Nat} {cs : List Value} (hk : Pk hp (.slc p c el sz n cs) hp')
  (h : ∀ G', B6 G G' → Sl G' p n c sz cs → (∀ b ∈ J2 p, G b = none ∧ G' b ≠ none) → U4 P Γ ops K H fuel listed j ⟨env, hp', G'⟩) : U4 P Γ ops K H fuel listed j ⟨env, hp, G⟩ :=
 ⟨fun a w hs => let ⟨G', h1, h2, h3, h4⟩ := hs.freeze hk; (h G' h2 h3 h4).run a w h1⟩
end
theorem B3.kids {G : IM} {t : Ty} {a : Value} {p : Option Addr} {n c : Nat} (h : B3 G t [a, .slice p n c]) : ∃ es, C5 G p t.ks.length c 2 es ∧ E3 G t.ks es := by
 obtain ⟨p', c', es, he, _, h1, h2⟩ := h.open
 simp only [List.cons.injEq, Value.slice.injEq, and_true] at he
 obtain ⟨_, rfl, _, rfl⟩ := he
 exact ⟨es, h1, h2⟩
def X8 (k : Int) (ty fr : Ty) (lb : Int) (ks : List Tm) : Stp :=
 if k = 6 then
  (if Q7 (kd ks 0) = true ∧ (kd ks 0).ty.k = 4 then (K8 (V4 6 [kd (kd ks 0).ks 0, K8 (kd ks 1) (kt (kd ks 0).ty.ks 0) (kt (kd ks 0).fr.ks 0) (-(kd ks 0).lb)]) (kt (kd ks 0).fr.ks 1) (kt (kd ks 0).ty.ks 1) (kd ks 0).lb, 1, 0) else Q9)
 else if k = 11 ∨ k = 12 then
  (if Q7 (kd ks 0) = true ∧ (kd ks 0).ty.k = 5 then (K8 (V4 k [kd (kd ks 0).ks 0]) (kt (kd ks 0).fr.ks (k - 11).toNat) (kt (kd ks 0).ty.ks (k - 11).toNat) (kd ks 0).lb, 1, 0) else Q9)
 else if k = 14 then
  (if fr.k = ty.k then (kd ks 0, 1, 0)
   else if ty.k = 1 then (K8 (K8 (kd ks 0) fr (U2 fr) lb) (U2 fr) ty lb, 1, 0)
   else if T8 ty = false then (K8 (K8 (kd ks 0) fr (U2 ty) lb) (U2 ty) ty lb, 1, 0)
   else if inj (kd ks 0) = false then Q9
   else if (kd ks 0).fr.k = ty.k then (kd (kd ks 0).ks 0, 1, 0)
   else (I3, 2, lb))
 else Q9
theorem B3k (k : Int) (ty fr : Ty) (lb : Int) (ks : List Tm) : N0 k ty fr lb ks = match W8 k ks with | some u => (u, 1, 0) | none => X8 k ty fr lb ks := by
 unfold N0 W8 X8
 by_cases h6 : k = 6
 ·rw [if_pos h6, if_pos h6, if_pos h6]
  by_cases h : (kd ks 0).k = 5
  ·rw [if_pos h, if_pos h]
  ·rw [if_neg h, if_neg h]
 rw [if_neg h6, if_neg h6, if_neg h6]
 by_cases h7 : k = 7 ∨ k = 8
 ·rw [if_pos h7, if_pos h7]
  by_cases h : (kd ks 0).k = 2 ∧ (kd ks 1).k = 2
  ·rw [if_pos h, if_pos h]
  ·rw [if_neg h, if_neg h]; simp only; rw [if_neg (by omega), if_neg (by omega)]
 rw [if_neg h7, if_neg h7]
 by_cases h9 : k = 9
 ·rw [if_pos h9, if_pos h9]
  by_cases h : (kd ks 0).k = 3
  ·rw [if_pos h, if_pos h]
  ·rw [if_neg h, if_neg h]
   by_cases h' : (kd ks 0).k = 4
   ·rw [if_pos h', if_pos h']
   ·rw [if_neg h', if_neg h']; simp only; rw [if_neg (by omega), if_neg (by omega)]
 rw [if_neg h9, if_neg h9]
 by_cases h11 : k = 11 ∨ k = 12
 ·rw [if_pos h11, if_pos h11, if_pos h11]
  by_cases h : (kd ks 0).k = 10
  ·rw [if_pos h, if_pos h]
  ·rw [if_neg h, if_neg h]
 rw [if_neg h11, if_neg h11, if_neg h11]
def R8 (r : Stp) : IM → Value → List A4 → Prop := K4 fun G' v => ∃ u cells, v = .tuple ⟨[.agg ⟨cells⟩, .int .i64 r.2.1, .int .i64 r.2.2]⟩ ∧ A7 G' u cells ∧ (r.2.1 = 1 → u = r.1)
theorem R8.mk {G : IM} {r : Stp} {u : Tm} {cells : List Value} {c l : Int} (h : r = (u, c, l)) (hr : A7 G u cells) : R8 r G (.tuple ⟨[.agg ⟨cells⟩, .int .i64 c, .int .i64 l]⟩) [] := by
 subst h; exact ⟨rfl, u, cells, rfl, hr, fun _ => rfl⟩
theorem A0f {ks : List Tm} {i : Nat} (h : i < ks.length) : kd ks i = ks[i] := by unfold kd; rw [List.getD_eq_getElem?_getD, List.getElem?_eq_getElem h, Option.getD_some]
theorem P0 {ks : List Ty} {i : Nat} (h : i < ks.length) : kt ks i = ks[i] := by unfold kt; rw [List.getD_eq_getElem?_getD, List.getElem?_eq_getElem h, Option.getD_some]
theorem A81 {t : Ty} (h : T8 t = true) : t = U2 t := by
 unfold T8 at h
 rw [Bool.and_eq_true] at h
 exact (V8 _ _).1 h.2
theorem B3l (a b : Tm) (nm : ByteArray) (num : Int) (ty fr : Ty) (lb : Int) (G : IM) (cells : List Value) (hca : cv a) (hr : A7 G (.mk 6 nm num ty fr lb [a, b]) cells) : Fn Tryz.prog 221 [.agg ⟨cells⟩] [] G (R8 (X8 6 ty fr lb [a, b])) := by
 obtain ⟨ak, anm, anum, ⟨atk, atks⟩, ⟨afk, afks⟩, alb, aks⟩ := a
 obtain ⟨hN, hkk⟩ := hca.node
 have hops := hN.ops
 have hbl := hN.lbB
 have htyA := hN.tyA
 have hfrA := hN.frA
 rw [D4] at htyA hfrA
 have h14 : ak = 14 → aks.length = 1 := fun h => by rw [h] at hops; have : E0 14 = 1 := rfl; omega
 obtain ⟨tk, tks⟩ := ty
 obtain ⟨fk, fks⟩ := fr
 obtain ⟨pt, ct, pf, cf, p, c, es, rfl, hk, hnum, hlb, hty, hfr, hsl, hkl⟩ := hr.open9
 obtain ⟨bx, ox, e0, rfl, hl0, hat0, hre0, hgb0⟩ := hsl.kidTm hkl (i := 0) (by simp) (by simp)
 replace hre0 : A7 G (Tm.mk ak anm anum (.mk atk atks) (.mk afk afks) alb aks) e0 := hre0
 have hP : Fn Tryz.prog 111 [.agg ⟨e0⟩] [] G (I0 (.bool (decide (ak = 14 ∧ afk = atk ∧ (atk = 4 ∨ atk = 5)))) G) := A2m _ G _ hre0
 obtain ⟨apt, act, apf, acf, ap, ac, aes, rfl, hak, hanum, halb, haty, hafr, hasl, hakl⟩ := hre0.open9
 obtain ⟨tes, htS, htL⟩ := haty.kids
 obtain ⟨fes, hfS, hfL⟩ := hafr.kids
 simp only [Ty.ks] at htS htL hfS hfL
 obtain ⟨_, _, e1, hp1, hl1, hat1, hre1, hgb1⟩ := hsl.kidTm hkl (i := 1) (by simp) (by simp)
 cases hp1
 replace hre1 : A7 G b e1 := hre1
 have ho1 := hre1.one
 have hR : X8 6 (.mk tk tks) (.mk fk fks) lb [Tm.mk ak anm anum (.mk atk atks) (.mk afk afks) alb aks, b] = (if (ak = 14 ∧ afk = atk ∧ (atk = 4 ∨ atk = 5)) ∧ atk = 4 then (K8 (V4 6 [kd aks 0, K8 b (kt atks 0) (kt afks 0) (-alb)]) (kt afks 1) (kt atks 1) alb, 1, 0) else Q9) := by
  unfold X8
  rw [if_pos rfl, show kd [Tm.mk ak anm anum (.mk atk atks) (.mk afk afks) alb aks, b] 0 = Tm.mk ak anm anum (.mk atk atks) (.mk afk afks) alb aks from rfl, A1C]
  simp only [decide_eq_true_eq]
  rfl
 rw [hR]
 refine B5 Tryz.func221 rfl Tryz.ntmps221 Tryz.results221 rfl ?_
 intro w0
 refine tS (tR ?_)
 refine sE (C0 rfl rfl) rfl (fun b3 => ?_)
 refine sE (A5 rfl) rfl (fun b4 => ?_)
 refine D8 ?_
 refine sP (B0 (j := 0) rfl rfl rfl (by simp)) rfl rfl ?_
 refine sL (A2 rfl rfl (hat0 _) rfl) rfl rfl ?_
 refine sE (A5 rfl) rfl (fun b15 => ?_)
 refine F8 ?_
 refine sD (nS (tS ?_))
 refine B9 ?_
 refine tS (tR (sQ (A9 rfl) rfl (sL (B7 rfl rfl) rfl rfl ?_)))
 refine sP (Q0 rfl rfl (by omega)) rfl rfl ?_
 refine sQ (qM rfl) rfl (sL (A3 rfl rfl) rfl rfl ?_)
 focus (by_cases hpx : (ak = 14 ∧ afk = atk ∧ (atk = 4 ∨ atk = 5)); rw [decide_eq_true hpx] at hP; rotate_left; rw [decide_eq_false hpx] at hP; rotate_left; all_goals (refine E8 rfl hP rfl rfl ?_))
 refine P6 ?_
 refine sB (qE rfl rfl) rfl rfl (fun h34 => ?_) (fun h34 => ?_)
 refine I1 ?_
 (have hq : (ak = 14 ∧ afk = atk ∧ (atk = 4 ∨ atk = 5)) ∧ atk = 4 := ⟨hpx, by omega⟩; have hq1 := h14 hq.1.1; have hq2 := htyA.1 (by omega); have hq3 := hfrA.1 (by omega); obtain ⟨bq, oq, e3, rfl, hl3, hat3, hre3, hgb3⟩ := hasl.kidTm hakl (i := 0) (by omega) (by omega); have ho3 := hre3.one; obtain ⟨b5, o5, q5, d5, rfl, hat5, hre5, hgb5⟩ := htS.kidTy htL (i := 0) (by omega) (by omega); obtain ⟨_, _, q6, d6, hp6, hat6, hre6, hgb6⟩ := htS.kidTy htL (i := 1) (by omega) (by omega); cases hp6; obtain ⟨b7, o7, q7, d7, rfl, hat7, hre7, hgb7⟩ := hfS.kidTy hfL (i := 0) (by omega) (by omega); obtain ⟨_, _, q8, d8, hp8, hat8, hre8, hgb8⟩ := hfS.kidTy hfL (i := 1) (by omega) (by omega); cases hp8; obtain ⟨x1, x2, x3, x4, x5, x6, x7, x8, x9, rfl⟩ := nine hl3; obtain ⟨y1, y2, y3, y4, y5, y6, y7, y8, y9, rfl⟩ := nine hl1; refine C9 D1 rfl ?_)
 refine H6 (i := 0) (l' := [tt,ff,ff,ff,ff,ff,ff,ff,ff,ff,ff,ff]) rfl C4 (A9 rfl) rfl (by kernel_rfl) rfl rfl ?_
 refine aL 1 rfl (B7 rfl rfl) rfl ?_
 refine aP 2 rfl (B0 (j := 0) rfl rfl rfl (by omega)) rfl ?_
 refine aL 3 rfl (A2 rfl rfl (hat3 _) rfl) rfl ?_
 refine aP 4 rfl (A9 rfl) rfl ?_
 refine aL 5 rfl (B7 rfl rfl) rfl ?_
 refine aP 6 rfl (B0 (j := 1) rfl rfl rfl (by simp)) rfl ?_
 refine aL 7 rfl (A2 rfl rfl (hat1 _) rfl) rfl ?_
 refine P5 (j := 8) (j' := 9) (by kernel_rfl) ?_ ?_
 (refine D9 rfl (A5 rfl) rfl rfl ?_; rintro _ ⟨b51, rfl⟩)
 refine A1 9 ?_
 (refine D9 rfl (A5 rfl) rfl rfl ?_; rintro _ ⟨b53, rfl⟩)
 refine A1 10 ?_
 (refine oS rfl rfl rfl rfl rfl ho3 rfl rfl ?_ (hu := by exact C2 rfl.symm))
 refine A1 11 ?_
 (refine oS rfl rfl rfl rfl rfl ho1 rfl rfl ?_ (hu := by exact C2 rfl.symm))
 refine B8 (nS (tS ?_))
 refine C9 D1 rfl ?_
 refine L0 (i := 0) (l' := [tt,ff,ff,ff,ff,ff,ff,ff,ff,ff,ff,ff,ff,ff,ff,ff,ff,ff,ff,ff,ff,ff,ff,ff,ff,ff,ff,ff,ff,ff,ff,ff,ff,ff]) rfl C4 (A2 rfl rfl (A6 (by repeat first | exact mH | apply mT)) rfl) rfl (by kernel_rfl) rfl rfl ?_
 refine aL 1 rfl (A2 rfl rfl (A6 (by repeat first | exact mH | apply mT)) rfl) rfl ?_
 refine aP 2 rfl (A9 rfl) rfl ?_
 refine aP 3 rfl (qF rfl) rfl ?_
 refine aL 4 rfl (B7 rfl rfl) rfl ?_
 refine aP 5 rfl (B0 (j := 0) rfl rfl rfl (by omega)) rfl ?_
 refine aL 6 rfl (A2 rfl rfl (hat5 _) rfl) rfl ?_
 refine aP 7 rfl (A9 rfl) rfl ?_
 refine aP 8 rfl (qF rfl) rfl ?_
 refine aL 9 rfl (B7 rfl rfl) rfl ?_
 refine aP 10 rfl (B0 (j := 0) rfl rfl rfl (by omega)) rfl ?_
 refine aL 11 rfl (A2 rfl rfl (hat7 _) rfl) rfl ?_
 refine aP 12 rfl (A9 rfl) rfl ?_
 refine aL 13 rfl (B7 rfl rfl) rfl ?_
 refine aP 14 rfl (A2w rfl (by omega) (by omega)) rfl ?_
 refine aP 18 rfl (A9 rfl) rfl ?_
 refine aP 19 rfl (qF rfl) rfl ?_
 refine aL 20 rfl (B7 rfl rfl) rfl ?_
 refine aP 21 rfl (B0 (j := 1) rfl rfl rfl (by omega)) rfl ?_
 refine aL 22 rfl (A2 rfl rfl (hat8 _) rfl) rfl ?_
 refine aP 23 rfl (A9 rfl) rfl ?_
 refine aP 24 rfl (qF rfl) rfl ?_
 refine aL 25 rfl (B7 rfl rfl) rfl ?_
 refine aP 26 rfl (B0 (j := 1) rfl rfl rfl (by omega)) rfl ?_
 refine aL 27 rfl (A2 rfl rfl (hat6 _) rfl) rfl ?_
 refine aP 28 rfl (A9 rfl) rfl ?_
 refine aL 29 rfl (B7 rfl rfl) rfl ?_
 refine A1 15 ?_
 (refine E1 rfl rfl (A1j b atks[0] afks[0] (-alb) G _ _ _ ⟨by omega, by omega⟩ hre1 hre5 hre7) rfl rfl rfl (fun u G1 hle1 hh => ?_); obtain ⟨uc, rfl, hru⟩ := hh; have hul := hru.len; have huo := hru.one; obtain ⟨z1, z2, z3, z4, z5, z6, z7, z8, z9, rfl⟩ := nine hul; replace hre3 := hre3.mono hle1; replace hre6 := hre6.mono hle1; replace hre8 := hre8.mono hle1)
 refine A1 16 ?_
 (refine D9 rfl (C8 rfl rfl rfl (by omega) (by unfold maxLen; omega) rfl) rfl rfl ?_; rintro _ ⟨b92, rfl⟩)
 refine A1 17 ?_
 (refine A03 (cs := [x1, x2, x3, x4, x5, x6, x7, x8, x9, z1, z2, z3, z4, z5, z6, z7, z8, z9]) (by repeat (first | exact Pk.here | apply Pk.there)) (fun G2 hle2 hsl2 hno2 => ?_); have hrN := A0K (k := 6) (ks := [aks[0], K8 b atks[0] afks[0] (-alb)]) (es := [[x1, x2, x3, x4, x5, x6, x7, x8, x9], [z1, z2, z3, z4, z5, z6, z7, z8, z9]]) ⟨by decide, by decide⟩ rfl (C5.of hsl2 rfl (by simp) (by intro x hx; rcases List.mem_cons.1 hx with rfl | hx; exact ho3; obtain rfl := List.mem_singleton.1 hx; exact huo)) (by simp only [C6]; exact ⟨_, _, rfl, hre3.mono hle2, _, _, rfl, hru.mono hle2, rfl⟩); replace hre6 := hre6.mono hle2; replace hre8 := hre8.mono hle2; refine J0 rfl rfl (A2X _ _ _ _ _) rfl rfl rfl ?_)
 refine A1 30 ?_
 (refine E1 rfl rfl (A1j _ afks[1] atks[1] alb G2 _ _ _ ⟨by omega, by omega⟩ hrN hre8 hre6) rfl rfl rfl (fun u G3 hle3 hh => ?_); obtain ⟨wc, rfl, hrw⟩ := hh; have hwl := hrw.len; have hwo := hrw.one)
 refine A1 31 ?_
 (refine oS rfl rfl rfl rfl hwl hwo rfl rfl ?_ (hu := by exact C2 hwl.symm))
 refine aP 32 rfl (qA rfl) rfl ?_
 refine aP 33 rfl (qA rfl) rfl ?_
 refine B8 (nS (tT (rB (rS ?_))))
 refine D2 (rC rfl (A2 rfl rfl (A6 (by repeat first | exact mH | apply mT)) hwl)) (rT rfl) (rT rfl) ?_
 (exact R8.mk (by rw [if_pos hq, A0f (by omega), P0 (by omega), P0 (by omega), P0 (by omega), P0 (by omega)]) hrw)
 (refine D9 rfl (A5 rfl) rfl rfl ?_; rintro _ ⟨b108, rfl⟩)
 refine A1 8 ?_
 (refine D9 rfl (A5 rfl) rfl rfl ?_; rintro _ ⟨b110, rfl⟩)
 refine A1 10 ?_
 (refine oS rfl rfl rfl rfl rfl ho3 rfl rfl ?_ (hu := by exact C2 rfl.symm))
 refine A1 11 ?_
 (refine oS rfl rfl rfl rfl rfl ho1 rfl rfl ?_ (hu := by exact C2 rfl.symm))
 refine B8 (nS (tS ?_))
 refine C9 D1 rfl ?_
 refine L0 (i := 0) (l' := [tt,ff,ff,ff,ff,ff,ff,ff,ff,ff,ff,ff,ff,ff,ff,ff,ff,ff,ff,ff,ff,ff,ff,ff,ff,ff,ff,ff,ff,ff,ff,ff,ff,ff]) rfl C4 (A2 rfl rfl (A6 (by repeat first | exact mH | apply mT)) rfl) rfl (by kernel_rfl) rfl rfl ?_
 refine aL 1 rfl (A2 rfl rfl (A6 (by repeat first | exact mH | apply mT)) rfl) rfl ?_
 refine aP 2 rfl (A9 rfl) rfl ?_
 refine aP 3 rfl (qF rfl) rfl ?_
 refine aL 4 rfl (B7 rfl rfl) rfl ?_
 refine aP 5 rfl (B0 (j := 0) rfl rfl rfl (by omega)) rfl ?_
 refine aL 6 rfl (A2 rfl rfl (hat5 _) rfl) rfl ?_
 refine aP 7 rfl (A9 rfl) rfl ?_
 refine aP 8 rfl (qF rfl) rfl ?_
 refine aL 9 rfl (B7 rfl rfl) rfl ?_
 refine aP 10 rfl (B0 (j := 0) rfl rfl rfl (by omega)) rfl ?_
 refine aL 11 rfl (A2 rfl rfl (hat7 _) rfl) rfl ?_
 refine aP 12 rfl (A9 rfl) rfl ?_
 refine aL 13 rfl (B7 rfl rfl) rfl ?_
 refine aP 14 rfl (A2w rfl (by omega) (by omega)) rfl ?_
 refine aP 18 rfl (A9 rfl) rfl ?_
 refine aP 19 rfl (qF rfl) rfl ?_
 refine aL 20 rfl (B7 rfl rfl) rfl ?_
 refine aP 21 rfl (B0 (j := 1) rfl rfl rfl (by omega)) rfl ?_
 refine aL 22 rfl (A2 rfl rfl (hat8 _) rfl) rfl ?_
 refine aP 23 rfl (A9 rfl) rfl ?_
 refine aP 24 rfl (qF rfl) rfl ?_
 refine aL 25 rfl (B7 rfl rfl) rfl ?_
 refine aP 26 rfl (B0 (j := 1) rfl rfl rfl (by omega)) rfl ?_
 refine aL 27 rfl (A2 rfl rfl (hat6 _) rfl) rfl ?_
 refine aP 28 rfl (A9 rfl) rfl ?_
 refine aL 29 rfl (B7 rfl rfl) rfl ?_
 refine A1 15 ?_
 (refine E1 rfl rfl (A1j b atks[0] afks[0] (-alb) G _ _ _ ⟨by omega, by omega⟩ hre1 hre5 hre7) rfl rfl rfl (fun u G1 hle1 hh => ?_); obtain ⟨uc, rfl, hru⟩ := hh; have hul := hru.len; have huo := hru.one; obtain ⟨z1, z2, z3, z4, z5, z6, z7, z8, z9, rfl⟩ := nine hul; replace hre3 := hre3.mono hle1; replace hre6 := hre6.mono hle1; replace hre8 := hre8.mono hle1)
 refine A1 16 ?_
 (refine D9 rfl (C8 rfl rfl rfl (by omega) (by unfold maxLen; omega) rfl) rfl rfl ?_; rintro _ ⟨b149, rfl⟩)
 refine A1 17 ?_
 (refine A03 (cs := [x1, x2, x3, x4, x5, x6, x7, x8, x9, z1, z2, z3, z4, z5, z6, z7, z8, z9]) (by repeat (first | exact Pk.here | apply Pk.there)) (fun G2 hle2 hsl2 hno2 => ?_); have hrN := A0K (k := 6) (ks := [aks[0], K8 b atks[0] afks[0] (-alb)]) (es := [[x1, x2, x3, x4, x5, x6, x7, x8, x9], [z1, z2, z3, z4, z5, z6, z7, z8, z9]]) ⟨by decide, by decide⟩ rfl (C5.of hsl2 rfl (by simp) (by intro x hx; rcases List.mem_cons.1 hx with rfl | hx; exact ho3; obtain rfl := List.mem_singleton.1 hx; exact huo)) (by simp only [C6]; exact ⟨_, _, rfl, hre3.mono hle2, _, _, rfl, hru.mono hle2, rfl⟩); replace hre6 := hre6.mono hle2; replace hre8 := hre8.mono hle2; refine J0 rfl rfl (A2X _ _ _ _ _) rfl rfl rfl ?_)
 refine A1 30 ?_
 (refine E1 rfl rfl (A1j _ afks[1] atks[1] alb G2 _ _ _ ⟨by omega, by omega⟩ hrN hre8 hre6) rfl rfl rfl (fun u G3 hle3 hh => ?_); obtain ⟨wc, rfl, hrw⟩ := hh; have hwl := hrw.len; have hwo := hrw.one)
 refine A1 31 ?_
 (refine oS rfl rfl rfl rfl hwl hwo rfl rfl ?_ (hu := by exact C2 hwl.symm))
 refine aP 32 rfl (qA rfl) rfl ?_
 refine aP 33 rfl (qA rfl) rfl ?_
 refine B8 (nS (tT (rB (rS ?_))))
 refine D2 (rC rfl (A2 rfl rfl (A6 (by repeat first | exact mH | apply mT)) hwl)) (rT rfl) (rT rfl) ?_
 (exact R8.mk (by rw [if_pos hq, A0f (by omega), P0 (by omega), P0 (by omega), P0 (by omega), P0 (by omega)]) hrw)
 refine D7 ?_
 refine sP (E4 rfl rfl (by omega)) rfl rfl ?_
 refine I6 ?_
 refine sP (E4 rfl rfl (by omega)) rfl rfl ?_
 refine A0b ?_
 refine sP (Y8 rfl rfl (by omega)) rfl rfl ?_
 refine I7 ?_
 refine D2 (rC rfl (A3 rfl rfl)) (rT rfl) (rT rfl) ?_
 (exact R8.mk (by rw [if_neg (by omega)]; rfl) (M5 _))
 refine I7 ?_
 refine sP (E4 rfl rfl (by omega)) rfl rfl ?_
 refine I6 ?_
 refine sP (E4 rfl rfl (by omega)) rfl rfl ?_
 refine A0b ?_
 refine sP (Y8 rfl rfl (by omega)) rfl rfl ?_
 refine I7 ?_
 refine D2 (rC rfl (A3 rfl rfl)) (rT rfl) (rT rfl) ?_
 (exact R8.mk (by rw [if_neg (by omega)]; rfl) (M5 _))
theorem A82 (k : Int) (a : Tm) (nm : ByteArray) (num : Int) (ty fr : Ty) (lb : Int) (G : IM) (cells : List Value) (hk1 : k = 11 ∨ k = 12) (hca : cv a) (hr : A7 G (.mk k nm num ty fr lb [a]) cells) : Fn Tryz.prog 221 [.agg ⟨cells⟩] [] G (R8 (X8 k ty fr lb [a])) := by
 obtain ⟨ak, anm, anum, ⟨atk, atks⟩, ⟨afk, afks⟩, alb, aks⟩ := a
 obtain ⟨hN, hkk⟩ := hca.node
 have hops := hN.ops
 have hbl := hN.lbB
 have htyA := hN.tyA
 have hfrA := hN.frA
 rw [D4] at htyA hfrA
 have h14 : ak = 14 → aks.length = 1 := fun h => by rw [h] at hops; have : E0 14 = 1 := rfl; omega
 obtain ⟨tk, tks⟩ := ty
 obtain ⟨fk, fks⟩ := fr
 obtain ⟨pt, ct, pf, cf, p, c, es, rfl, hk, hnum, hlb, hty, hfr, hsl, hkl⟩ := hr.open9
 obtain ⟨bx, ox, e0, rfl, hl0, hat0, hre0, hgb0⟩ := hsl.kidTm hkl (i := 0) (by simp) (by simp)
 replace hre0 : A7 G (Tm.mk ak anm anum (.mk atk atks) (.mk afk afks) alb aks) e0 := hre0
 have hP : Fn Tryz.prog 111 [.agg ⟨e0⟩] [] G (I0 (.bool (decide (ak = 14 ∧ afk = atk ∧ (atk = 4 ∨ atk = 5)))) G) := A2m _ G _ hre0
 have hI := A3x _ G _ hre0
 have ho0 := hre0.one
 obtain ⟨apt, act, apf, acf, ap, ac, aes, rfl, hak, hanum, halb, haty, hafr, hasl, hakl⟩ := hre0.open9
 have hfk64 : F4 fk := by obtain ⟨_, _, _, _, h, _⟩ := hfr.open; exact h
 have htk64 : F4 tk := by obtain ⟨_, _, _, _, h, _⟩ := hty.open; exact h
 obtain ⟨tes, htS, htL⟩ := haty.kids
 obtain ⟨fes, hfS, hfL⟩ := hafr.kids
 simp only [Ty.ks] at htS htL hfS hfL
 obtain ⟨i, hi⟩ : ∃ i : Nat, (k - 11).toNat = i := ⟨_, rfl⟩
 have hR : X8 k (.mk tk tks) (.mk fk fks) lb [Tm.mk ak anm anum (.mk atk atks) (.mk afk afks) alb aks] = (if (ak = 14 ∧ afk = atk ∧ (atk = 4 ∨ atk = 5)) ∧ atk = 5 then (K8 (V4 k [kd aks 0]) (kt afks i) (kt atks i) alb, 1, 0) else Q9) := by
  unfold X8
  rw [if_neg (by omega), if_pos hk1, hi, show kd [Tm.mk ak anm anum (.mk atk atks) (.mk afk afks) alb aks] 0 = Tm.mk ak anm anum (.mk atk atks) (.mk afk afks) alb aks from rfl, A1C]
  simp only [decide_eq_true_eq]
  rfl
 rw [hR]
 refine B5 Tryz.func221 rfl Tryz.ntmps221 Tryz.results221 rfl ?_
 intro w0
 refine tS (tR ?_)
 refine sE (C0 rfl rfl) rfl (fun b3 => ?_)
 refine sE (A5 rfl) rfl (fun b4 => ?_)
 refine D8 ?_
 refine sP (B0 (j := 0) rfl rfl rfl (by simp)) rfl rfl ?_
 refine sL (A2 rfl rfl (hat0 _) rfl) rfl rfl ?_
 refine sE (A5 rfl) rfl (fun b15 => ?_)
 refine F8 ?_
 refine sD (nS (tS ?_))
 refine B9 ?_
 refine tS (tR (sQ (A9 rfl) rfl (sL (B7 rfl rfl) rfl rfl ?_)))
 refine sP (E4 rfl rfl (by omega)) rfl rfl ?_
 refine T4 ?_
 refine sB (qE rfl rfl) rfl rfl (fun h44 => ?_) (fun h44 => ?_)
 refine D0 ?_
 focus (by_cases hpx : (ak = 14 ∧ afk = atk ∧ (atk = 4 ∨ atk = 5)); rw [decide_eq_true hpx] at hP; rotate_left; rw [decide_eq_false hpx] at hP; rotate_left; all_goals (refine E8 rfl hP rfl rfl ?_))
 refine P6 ?_
 refine sB (qE rfl rfl) rfl rfl (fun h58 => ?_) (fun h58 => ?_)
 refine D7 ?_
 refine sP (O4 rfl rfl (by omega) (by omega)) rfl rfl ?_
 refine sQ (qA rfl) rfl (sD (nS (tS ?_)))
 (have hq : (ak = 14 ∧ afk = atk ∧ (atk = 4 ∨ atk = 5)) ∧ atk = 5 := ⟨hpx, by omega⟩; have hq1 := h14 hq.1.1; have hq2 := htyA.1 (by omega); have hq3 := hfrA.1 (by omega); rw [show (k - 11 : Int) = ((i : Nat) : Int) from (by omega)]; obtain ⟨bq, oq, e3, rfl, hl3, hat3, hre3, hgb3⟩ := hasl.kidTm hakl (i := 0) (by omega) (by omega); have ho3 := hre3.one; obtain ⟨b5, o5, q5, d5, rfl, hat5, hre5, hgb5⟩ := htS.kidTy htL (i := i) (by omega) (by omega); obtain ⟨b7, o7, q7, d7, rfl, hat7, hre7, hgb7⟩ := hfS.kidTy hfL (i := i) (by omega) (by omega); obtain ⟨x1, x2, x3, x4, x5, x6, x7, x8, x9, rfl⟩ := nine hl3; refine C9 D1 rfl ?_)
 refine H6 (i := 0) (l' := [tt,ff,ff,ff,ff,ff,ff,ff,ff,ff,ff,ff,ff,ff,ff,ff,ff,ff,ff,ff,ff,ff,ff,ff,ff,ff]) rfl C4 (A9 rfl) rfl (by kernel_rfl) rfl rfl ?_
 refine aL 1 rfl (B7 rfl rfl) rfl ?_
 refine aP 2 rfl (A9 rfl) rfl ?_
 refine aL 3 rfl (B7 rfl rfl) rfl ?_
 refine aP 4 rfl (B0 (j := 0) rfl rfl rfl (by omega)) rfl ?_
 refine aL 5 rfl (A2 rfl rfl (hat3 _) rfl) rfl ?_
 refine aP 8 rfl (A9 rfl) rfl ?_
 refine aP 9 rfl (qF rfl) rfl ?_
 refine aL 10 rfl (B7 rfl rfl) rfl ?_
 refine aP 11 rfl (qM rfl) rfl ?_
 refine aP 12 rfl (B0 (j := i) rfl rfl rfl (by omega)) rfl ?_
 refine aL 13 rfl (A2 rfl rfl (hat7 _) rfl) rfl ?_
 refine aP 14 rfl (A9 rfl) rfl ?_
 refine aP 15 rfl (qF rfl) rfl ?_
 refine aL 16 rfl (B7 rfl rfl) rfl ?_
 refine aP 17 rfl (qM rfl) rfl ?_
 refine aP 18 rfl (B0 (j := i) rfl rfl rfl (by omega)) rfl ?_
 refine aL 19 rfl (A2 rfl rfl (hat5 _) rfl) rfl ?_
 refine aP 20 rfl (A9 rfl) rfl ?_
 refine aL 21 rfl (B7 rfl rfl) rfl ?_
 refine A1 6 ?_
 (refine D9 rfl (C8 rfl rfl rfl (by omega) (by unfold maxLen; omega) rfl) rfl rfl ?_; rintro _ ⟨b95, rfl⟩)
 refine A1 7 ?_
 (refine A03 (cs := [x1, x2, x3, x4, x5, x6, x7, x8, x9]) (by repeat (first | exact Pk.here | apply Pk.there)) (fun G2 hle2 hsl2 hno2 => ?_); have hrN := A0K (k := k) (ks := [aks[0]]) (es := [[x1, x2, x3, x4, x5, x6, x7, x8, x9]]) hk rfl (C5.of hsl2 rfl (by simp) (by intro x hx; obtain rfl := List.mem_singleton.1 hx; exact ho3)) (by simp only [C6]; exact ⟨_, _, rfl, hre3.mono hle2, rfl⟩); replace hre5 := hre5.mono hle2; replace hre7 := hre7.mono hle2; refine J0 rfl rfl (A2X _ _ _ _ _) rfl rfl rfl ?_)
 refine A1 22 ?_
 (refine E1 rfl rfl (A1j _ afks[i] atks[i] alb G2 _ _ _ ⟨by omega, by omega⟩ hrN hre7 hre5) rfl rfl rfl (fun u G3 hle3 hh => ?_); obtain ⟨wc, rfl, hrw⟩ := hh; have hwl := hrw.len; have hwo := hrw.one)
 refine A1 23 ?_
 (refine oS rfl rfl rfl rfl hwl hwo rfl rfl ?_ (hu := by exact C2 hwl.symm))
 refine aP 24 rfl (qA rfl) rfl ?_
 refine aP 25 rfl (qA rfl) rfl ?_
 refine B8 (nS (tT (rB (rS ?_))))
 refine D2 (rC rfl (A2 rfl rfl (A6 (by repeat first | exact mH | apply mT)) hwl)) (rT rfl) (rT rfl) ?_
 (exact R8.mk (by rw [if_pos hq, A0f (by omega), P0 (by omega), P0 (by omega)]) hrw)
 refine D7 ?_
 refine sP (Y8 rfl rfl (by omega)) rfl rfl ?_
 refine I7 ?_
 refine D2 (rC rfl (A3 rfl rfl)) (rT rfl) (rT rfl) ?_
 (exact R8.mk (by rw [if_neg (by omega)]; rfl) (M5 _))
 refine I7 ?_
 refine sP (Y8 rfl rfl (by omega)) rfl rfl ?_
 refine I7 ?_
 refine D2 (rC rfl (A3 rfl rfl)) (rT rfl) (rT rfl) ?_
 (exact R8.mk (by rw [if_neg (by omega)]; rfl) (M5 _))
 refine I6 ?_
 refine sP (Q0 rfl rfl (by omega)) rfl rfl ?_
 refine I6 ?_
 focus (by_cases hpx : (ak = 14 ∧ afk = atk ∧ (atk = 4 ∨ atk = 5)); rw [decide_eq_true hpx] at hP; rotate_left; rw [decide_eq_false hpx] at hP; rotate_left; all_goals (refine E8 rfl hP rfl rfl ?_))
 refine P6 ?_
 refine sB (qE rfl rfl) rfl rfl (fun h184 => ?_) (fun h184 => ?_)
 refine D7 ?_
 refine sP (O4 rfl rfl (by omega) (by omega)) rfl rfl ?_
 refine sQ (qA rfl) rfl (sD (nS (tS ?_)))
 (have hq : (ak = 14 ∧ afk = atk ∧ (atk = 4 ∨ atk = 5)) ∧ atk = 5 := ⟨hpx, by omega⟩; have hq1 := h14 hq.1.1; have hq2 := htyA.1 (by omega); have hq3 := hfrA.1 (by omega); rw [show (k - 11 : Int) = ((i : Nat) : Int) from (by omega)]; obtain ⟨bq, oq, e3, rfl, hl3, hat3, hre3, hgb3⟩ := hasl.kidTm hakl (i := 0) (by omega) (by omega); have ho3 := hre3.one; obtain ⟨b5, o5, q5, d5, rfl, hat5, hre5, hgb5⟩ := htS.kidTy htL (i := i) (by omega) (by omega); obtain ⟨b7, o7, q7, d7, rfl, hat7, hre7, hgb7⟩ := hfS.kidTy hfL (i := i) (by omega) (by omega); obtain ⟨x1, x2, x3, x4, x5, x6, x7, x8, x9, rfl⟩ := nine hl3; refine C9 D1 rfl ?_)
 refine H6 (i := 0) (l' := [tt,ff,ff,ff,ff,ff,ff,ff,ff,ff,ff,ff,ff,ff,ff,ff,ff,ff,ff,ff,ff,ff,ff,ff,ff,ff]) rfl C4 (A9 rfl) rfl (by kernel_rfl) rfl rfl ?_
 refine aL 1 rfl (B7 rfl rfl) rfl ?_
 refine aP 2 rfl (A9 rfl) rfl ?_
 refine aL 3 rfl (B7 rfl rfl) rfl ?_
 refine aP 4 rfl (B0 (j := 0) rfl rfl rfl (by omega)) rfl ?_
 refine aL 5 rfl (A2 rfl rfl (hat3 _) rfl) rfl ?_
 refine aP 8 rfl (A9 rfl) rfl ?_
 refine aP 9 rfl (qF rfl) rfl ?_
 refine aL 10 rfl (B7 rfl rfl) rfl ?_
 refine aP 11 rfl (qM rfl) rfl ?_
 refine aP 12 rfl (B0 (j := i) rfl rfl rfl (by omega)) rfl ?_
 refine aL 13 rfl (A2 rfl rfl (hat7 _) rfl) rfl ?_
 refine aP 14 rfl (A9 rfl) rfl ?_
 refine aP 15 rfl (qF rfl) rfl ?_
 refine aL 16 rfl (B7 rfl rfl) rfl ?_
 refine aP 17 rfl (qM rfl) rfl ?_
 refine aP 18 rfl (B0 (j := i) rfl rfl rfl (by omega)) rfl ?_
 refine aL 19 rfl (A2 rfl rfl (hat5 _) rfl) rfl ?_
 refine aP 20 rfl (A9 rfl) rfl ?_
 refine aL 21 rfl (B7 rfl rfl) rfl ?_
 refine A1 6 ?_
 (refine D9 rfl (C8 rfl rfl rfl (by omega) (by unfold maxLen; omega) rfl) rfl rfl ?_; rintro _ ⟨b221, rfl⟩)
 refine A1 7 ?_
 (refine A03 (cs := [x1, x2, x3, x4, x5, x6, x7, x8, x9]) (by repeat (first | exact Pk.here | apply Pk.there)) (fun G2 hle2 hsl2 hno2 => ?_); have hrN := A0K (k := k) (ks := [aks[0]]) (es := [[x1, x2, x3, x4, x5, x6, x7, x8, x9]]) hk rfl (C5.of hsl2 rfl (by simp) (by intro x hx; obtain rfl := List.mem_singleton.1 hx; exact ho3)) (by simp only [C6]; exact ⟨_, _, rfl, hre3.mono hle2, rfl⟩); replace hre5 := hre5.mono hle2; replace hre7 := hre7.mono hle2; refine J0 rfl rfl (A2X _ _ _ _ _) rfl rfl rfl ?_)
 refine A1 22 ?_
 (refine E1 rfl rfl (A1j _ afks[i] atks[i] alb G2 _ _ _ ⟨by omega, by omega⟩ hrN hre7 hre5) rfl rfl rfl (fun u G3 hle3 hh => ?_); obtain ⟨wc, rfl, hrw⟩ := hh; have hwl := hrw.len; have hwo := hrw.one)
 refine A1 23 ?_
 (refine oS rfl rfl rfl rfl hwl hwo rfl rfl ?_ (hu := by exact C2 hwl.symm))
 refine aP 24 rfl (qA rfl) rfl ?_
 refine aP 25 rfl (qA rfl) rfl ?_
 refine B8 (nS (tT (rB (rS ?_))))
 refine D2 (rC rfl (A2 rfl rfl (A6 (by repeat first | exact mH | apply mT)) hwl)) (rT rfl) (rT rfl) ?_
 (exact R8.mk (by rw [if_pos hq, A0f (by omega), P0 (by omega), P0 (by omega)]) hrw)
 refine D7 ?_
 refine sP (Y8 rfl rfl (by omega)) rfl rfl ?_
 refine I7 ?_
 refine D2 (rC rfl (A3 rfl rfl)) (rT rfl) (rT rfl) ?_
 (exact R8.mk (by rw [if_neg (by omega)]; rfl) (M5 _))
 refine I7 ?_
 refine sP (Y8 rfl rfl (by omega)) rfl rfl ?_
 refine I7 ?_
 refine D2 (rC rfl (A3 rfl rfl)) (rT rfl) (rT rfl) ?_
 (exact R8.mk (by rw [if_neg (by omega)]; rfl) (M5 _))
theorem A53 {t : Tm} (h : inj t = true) : t.k = 14 := by
 unfold inj at h
 simp only [Bool.and_eq_true, decide_eq_true_eq] at h
 exact h.1.1
theorem B3m {t u : Ty} (h : T8 t = true) (h' : T8 u = true) : K9 t u = decide (t.k = u.k) := by
 have e1 := A81 h
 have e2 := A81 h'
 by_cases hk : t.k = u.k
 ·rw [decide_eq_true hk, V8, e1, e2]
  unfold U2; rw [hk]
 ·rw [decide_eq_false hk]
  cases hs : K9 t u with
  | false => rfl
  | true => exact absurd (congrArg Ty.k ((V8 _ _).1 hs)) hk
theorem A83 {t : Tm} (h : inj t = true) : T8 t.fr = true := by
 unfold inj at h
 rw [Bool.and_eq_true] at h
 exact h.2
theorem B3n (a : Tm) (nm : ByteArray) (num : Int) (ty fr : Ty) (lb : Int) (G : IM) (cells : List Value) (hca : cv a) (hlb9 : -99 ≤ lb ∧ lb ≤ 99) (hr : A7 G (.mk 14 nm num ty fr lb [a]) cells) : Fn Tryz.prog 221 [.agg ⟨cells⟩] [] G (R8 (X8 14 ty fr lb [a])) := by
 have hji := @A83 a
 have hjk := @A53 a
 obtain ⟨ak, anm, anum, ⟨atk, atks⟩, ⟨afk, afks⟩, alb, aks⟩ := a
 obtain ⟨hN, hkk⟩ := hca.node
 have hops := hN.ops
 have hbl := hN.lbB
 have htyA := hN.tyA
 have hfrA := hN.frA
 rw [D4] at htyA hfrA
 have h14 : ak = 14 → aks.length = 1 := fun h => by rw [h] at hops; have : E0 14 = 1 := rfl; omega
 obtain ⟨tk, tks⟩ := ty
 obtain ⟨fk, fks⟩ := fr
 obtain ⟨pt, ct, pf, cf, p, c, es, rfl, hk, hnum, hlb, hty, hfr, hsl, hkl⟩ := hr.open9
 obtain ⟨bx, ox, e0, rfl, hl0, hat0, hre0, hgb0⟩ := hsl.kidTm hkl (i := 0) (by simp) (by simp)
 replace hre0 : A7 G (Tm.mk ak anm anum (.mk atk atks) (.mk afk afks) alb aks) e0 := hre0
 have hP : Fn Tryz.prog 111 [.agg ⟨e0⟩] [] G (I0 (.bool (decide (ak = 14 ∧ afk = atk ∧ (atk = 4 ∨ atk = 5)))) G) := A2m _ G _ hre0
 have hI := A3x _ G _ hre0
 have ho0 := hre0.one
 obtain ⟨apt, act, apf, acf, ap, ac, aes, rfl, hak, hanum, halb, haty, hafr, hasl, hakl⟩ := hre0.open9
 have hfk64 : F4 fk := by obtain ⟨_, _, _, _, h, _⟩ := hfr.open; exact h
 have htk64 : F4 tk := by obtain ⟨_, _, _, _, h, _⟩ := hty.open; exact h
 obtain ⟨tes, htS, htL⟩ := haty.kids
 obtain ⟨fes, hfS, hfL⟩ := hafr.kids
 simp only [Ty.ks] at htS htL hfS hfL
 obtain ⟨J, hJ⟩ : ∃ J, inj (Tm.mk ak anm anum (.mk atk atks) (.mk afk afks) alb aks) = J := ⟨_, rfl⟩
 obtain ⟨D, hD⟩ : ∃ D, T8 (.mk tk tks) = D := ⟨_, rfl⟩
 have hGr := A8t _ G _ hty
 rw [hD] at hGr
 rw [hJ] at hI hji hjk
 have hR : X8 14 (.mk tk tks) (.mk fk fks) lb [Tm.mk ak anm anum (.mk atk atks) (.mk afk afks) alb aks] = (if fk = tk then (Tm.mk ak anm anum (.mk atk atks) (.mk afk afks) alb aks, 1, 0)
   else if tk = 1 then (K8 (K8 (Tm.mk ak anm anum (.mk atk atks) (.mk afk afks) alb aks) (.mk fk fks) (mGk fk) lb) (mGk fk) (.mk tk tks) lb, 1, 0)
   else if D = false then (K8 (K8 (Tm.mk ak anm anum (.mk atk atks) (.mk afk afks) alb aks) (.mk fk fks) (mGk tk) lb) (mGk tk) (.mk tk tks) lb, 1, 0)
   else if J = false then Q9
   else if afk = tk then (kd aks 0, 1, 0)
   else (I3, 2, lb)) := by
  rw [← hJ, ← hD]; rfl
 rw [hR]
 have hSm : J = true → D = true → K9 (.mk afk afks) (.mk tk tks) = decide (afk = tk) := fun h1 h2 => B3m (hji h1) (hD.trans h2)
 have hTS := A4t (.mk afk afks) (.mk tk tks) G _ _ hafr hty
 refine B5 Tryz.func221 rfl Tryz.ntmps221 Tryz.results221 rfl ?_
 intro w0
 refine tS (tR ?_)
 refine sE (C0 rfl rfl) rfl (fun b3 => ?_)
 refine sE (A5 rfl) rfl (fun b4 => ?_)
 refine D8 ?_
 refine sP (B0 (j := 0) rfl rfl rfl (by simp)) rfl rfl ?_
 refine sL (A2 rfl rfl (hat0 _) rfl) rfl rfl ?_
 refine sE (A5 rfl) rfl (fun b15 => ?_)
 refine F8 ?_
 refine sD (nS (tS ?_))
 refine B9 ?_
 refine tS (tR (sQ (A9 rfl) rfl (sL (B7 rfl rfl) rfl rfl ?_)))
 refine sP (E4 rfl rfl (by omega)) rfl rfl ?_
 refine T4 ?_
 refine sP (E4 rfl rfl (by omega)) rfl rfl ?_
 refine I6 ?_
 refine sP (E4 rfl rfl (by omega)) rfl rfl ?_
 refine A0b ?_
 refine sP (A06 rfl rfl (by omega)) rfl rfl ?_
 refine M9 ?_
 refine sB (qE rfl rfl) rfl rfl (fun h81 => ?_) (fun h81 => ?_)
 refine I7 ?_
 refine D2 (rC rfl (A3 rfl rfl)) (rT rfl) (rT rfl) ?_
 (exact R8.mk (by rw [if_pos (by omega)]) hre0)
 refine D7 ?_
 refine sB (qE rfl rfl) rfl rfl (fun h108 => ?_) (fun h108 => ?_)
 refine D7 ?_
 (refine D3 rfl (A5J fk G hfk64) rfl rfl (fun u G1 hle1 hh => ?_); obtain ⟨gc, rfl, hrg⟩ := hh; obtain ⟨pg, cg, eg, rfl, _⟩ := hrg.open; have hgk : tk = 1 := (by omega); replace hre0 := hre0.mono hle1; replace hfr := hfr.mono hle1; replace hty := hty.mono hle1)
 refine sE (A5 rfl) rfl (fun b119 => ?_)
 refine F8 ?_
 refine sD (nS (tS ?_))
 refine C9 D1 rfl ?_
 refine L0 (i := 0) (l' := [tt,ff,ff,ff,ff,ff,ff,ff,ff,ff,ff,ff,ff,ff,ff,ff]) rfl C4 (A2 rfl rfl (A6 (by repeat first | exact mH | apply mT)) rfl) rfl (by kernel_rfl) rfl rfl ?_
 refine aL 3 rfl (A2 rfl rfl (A6 (by repeat first | exact mH | apply mT)) rfl) rfl ?_
 refine aL 7 rfl (A2 rfl rfl (A6 (by repeat first | exact mH | apply mT)) rfl) rfl ?_
 refine aP 1 rfl (A9 rfl) rfl ?_
 refine aL 2 rfl (A3 rfl rfl) rfl ?_
 refine aP 4 rfl (A9 rfl) rfl ?_
 refine aL 5 rfl (B7 rfl rfl) rfl ?_
 refine aP 8 rfl (A9 rfl) rfl ?_
 refine aL 9 rfl (A3 rfl rfl) rfl ?_
 refine aP 10 rfl (A9 rfl) rfl ?_
 refine aL 11 rfl (B7 rfl rfl) rfl ?_
 refine A1 6 ?_
 (refine E1 rfl rfl (A1j _ (.mk fk fks) _ lb G1 _ _ _ ⟨by omega, by omega⟩ hre0 hfr hrg) rfl rfl rfl (fun u G3 hle3 hh => ?_); obtain ⟨wc, rfl, hrw⟩ := hh; have hwl := hrw.len; have hwo := hrw.one; replace hrg := hrg.mono hle3; replace hty := hty.mono hle3)
 refine A1 12 ?_
 (refine E1 rfl rfl (A1j _ _ (.mk tk tks) lb G3 _ _ _ ⟨by omega, by omega⟩ hrw hrg hty) rfl rfl rfl (fun u G4 hle4 hh => ?_); obtain ⟨xc, rfl, hrx⟩ := hh; have hxl := hrx.len; have hxo := hrx.one)
 refine A1 13 ?_
 (refine oS rfl rfl rfl rfl hxl hxo rfl rfl ?_ (hu := by exact C2 hxl.symm))
 refine aP 14 rfl (qA rfl) rfl ?_
 refine aP 15 rfl (qA rfl) rfl ?_
 refine B8 (nS (tT (rB (rS ?_))))
 refine D2 (rC rfl (A2 rfl rfl (A6 (by repeat first | exact mH | apply mT)) hxl)) (rT rfl) (rT rfl) ?_
 (exact R8.mk (by rw [if_neg (by omega), if_pos (by omega)]) hrx)
 refine D8 ?_
 focus (cases hDD : D; all_goals (rw [hDD] at hGr; refine E8 rfl hGr rfl rfl ?_))
 refine H8 ?_
 (refine D3 rfl (A5J tk G htk64) rfl rfl (fun u G1 hle1 hh => ?_); obtain ⟨gc, rfl, hrg⟩ := hh; obtain ⟨pg, cg, eg, rfl, _⟩ := hrg.open; replace hre0 := hre0.mono hle1; replace hfr := hfr.mono hle1; replace hty := hty.mono hle1)
 refine sE (A5 rfl) rfl (fun b171 => ?_)
 refine F8 ?_
 refine sD (nS (tS ?_))
 refine C9 D1 rfl ?_
 refine L0 (i := 0) (l' := [tt,ff,ff,ff,ff,ff,ff,ff,ff,ff,ff,ff,ff,ff,ff,ff]) rfl C4 (A2 rfl rfl (A6 (by repeat first | exact mH | apply mT)) rfl) rfl (by kernel_rfl) rfl rfl ?_
 refine aL 3 rfl (A2 rfl rfl (A6 (by repeat first | exact mH | apply mT)) rfl) rfl ?_
 refine aL 7 rfl (A2 rfl rfl (A6 (by repeat first | exact mH | apply mT)) rfl) rfl ?_
 refine aP 1 rfl (A9 rfl) rfl ?_
 refine aL 2 rfl (A3 rfl rfl) rfl ?_
 refine aP 4 rfl (A9 rfl) rfl ?_
 refine aL 5 rfl (B7 rfl rfl) rfl ?_
 refine aP 8 rfl (A9 rfl) rfl ?_
 refine aL 9 rfl (A3 rfl rfl) rfl ?_
 refine aP 10 rfl (A9 rfl) rfl ?_
 refine aL 11 rfl (B7 rfl rfl) rfl ?_
 refine A1 6 ?_
 (refine E1 rfl rfl (A1j _ (.mk fk fks) _ lb G1 _ _ _ ⟨by omega, by omega⟩ hre0 hfr hrg) rfl rfl rfl (fun u G3 hle3 hh => ?_); obtain ⟨wc, rfl, hrw⟩ := hh; have hwl := hrw.len; have hwo := hrw.one; replace hrg := hrg.mono hle3; replace hty := hty.mono hle3)
 refine A1 12 ?_
 (refine E1 rfl rfl (A1j _ _ (.mk tk tks) lb G3 _ _ _ ⟨by omega, by omega⟩ hrw hrg hty) rfl rfl rfl (fun u G4 hle4 hh => ?_); obtain ⟨xc, rfl, hrx⟩ := hh; have hxl := hrx.len; have hxo := hrx.one)
 refine A1 13 ?_
 (refine oS rfl rfl rfl rfl hxl hxo rfl rfl ?_ (hu := by exact C2 hxl.symm))
 refine aP 14 rfl (qA rfl) rfl ?_
 refine aP 15 rfl (qA rfl) rfl ?_
 refine B8 (nS (tT (rB (rS ?_))))
 refine D2 (rC rfl (A2 rfl rfl (A6 (by repeat first | exact mH | apply mT)) hxl)) (rT rfl) (rT rfl) ?_
 (exact R8.mk (by rw [if_neg (by omega), if_neg (by omega), if_pos rfl]) hrx)
 refine D8 ?_
 focus (cases hJJ : J; all_goals (rw [hJJ] at hI; refine E8 rfl hI rfl rfl ?_))
 refine K5 ?_
 refine D2 (rC rfl (A3 rfl rfl)) (rT rfl) (rT rfl) ?_
 (exact R8.mk (by rw [if_neg (by omega), if_neg (by omega), if_neg (by decide), if_pos rfl]; rfl) (M5 _))
 refine J7 ?_
 focus (rw [hSm hJJ hDD] at hTS; by_cases hfk : afk = tk; rw [decide_eq_true hfk] at hTS; rotate_left; rw [decide_eq_false hfk] at hTS; rotate_left; all_goals (refine E8 rfl hTS rfl rfl ?_))
 refine D8 ?_
 (have hq1 := h14 (hjk (by assumption)); obtain ⟨bq, oq, e3, rfl, hl3, hat3, hre3, hgb3⟩ := hasl.kidTm hakl (i := 0) (by omega) (by omega); have ho3 := hre3.one; refine sP (B0 (j := 0) rfl rfl rfl (by omega)) rfl rfl ?_)
 refine sL (A2 rfl rfl (hat3 _) hl3) rfl rfl ?_
 refine sS rfl rfl rfl hl3 ho3 rfl ?_ (hu := by exact C2 hl3.symm)
 refine D0 ?_
 refine D2 (rC rfl (A2 rfl rfl (A6 (by repeat first | exact mH | apply mT)) hl3)) (rT rfl) (rT rfl) ?_
 (exact R8.mk (by rw [if_neg (by omega), if_neg (by omega), if_neg (by decide), if_neg (by decide), if_pos hfk, A0f (by omega)]) hre3)
 refine D8 ?_
 refine C9 D1 rfl ?_
 refine H6 (i := 0) (l' := [tt,ff,ff,ff,ff,ff]) rfl C4 (Q1 rfl rfl) rfl (by kernel_rfl) rfl rfl ?_
 refine aP 1 rfl (A9 rfl) rfl ?_
 refine aL 2 rfl (B7 rfl rfl) rfl ?_
 refine A1 3 ?_
 refine F0 rfl ?_
 refine aP 4 rfl (qA rfl) rfl ?_
 refine aP 5 rfl (qA rfl) rfl ?_
 refine B8 (nS (tT ?_))
 refine D2 (rC rfl (A3 rfl rfl)) (rT rfl) (rT rfl) ?_
 (exact R8.mk (by rw [if_neg (by omega), if_neg (by omega), if_neg (by decide), if_neg (by decide), if_neg hfk]) (M5 _))
theorem A84 (k : Int) (a b : Tm) (nm : ByteArray) (num : Int) (ty fr : Ty) (lb : Int) (G : IM) (cells : List Value) (hk1 : k = 7 ∨ k = 8) (hca : cv a) (hr : A7 G (.mk k nm num ty fr lb [a, b]) cells) : Fn Tryz.prog 221 [.agg ⟨cells⟩] [] G (R8 (X8 k ty fr lb [a, b])) := by
 have hR : X8 k ty fr lb [a, b] = Q9 := by unfold X8; rw [if_neg (by omega), if_neg (by omega), if_neg (by omega)]
 rw [hR]
 obtain ⟨ak, anm, anum, ⟨atk, atks⟩, ⟨afk, afks⟩, alb, aks⟩ := a
 obtain ⟨hN, hkk⟩ := hca.node
 have hops := hN.ops
 have hbl := hN.lbB
 have htyA := hN.tyA
 have hfrA := hN.frA
 rw [D4] at htyA hfrA
 have h14 : ak = 14 → aks.length = 1 := fun h => by rw [h] at hops; have : E0 14 = 1 := rfl; omega
 obtain ⟨tk, tks⟩ := ty
 obtain ⟨fk, fks⟩ := fr
 obtain ⟨pt, ct, pf, cf, p, c, es, rfl, hk, hnum, hlb, hty, hfr, hsl, hkl⟩ := hr.open9
 obtain ⟨bx, ox, e0, rfl, hl0, hat0, hre0, hgb0⟩ := hsl.kidTm hkl (i := 0) (by simp) (by simp)
 replace hre0 : A7 G (Tm.mk ak anm anum (.mk atk atks) (.mk afk afks) alb aks) e0 := hre0
 have hP : Fn Tryz.prog 111 [.agg ⟨e0⟩] [] G (I0 (.bool (decide (ak = 14 ∧ afk = atk ∧ (atk = 4 ∨ atk = 5)))) G) := A2m _ G _ hre0
 have hI := A3x _ G _ hre0
 have ho0 := hre0.one
 obtain ⟨apt, act, apf, acf, ap, ac, aes, rfl, hak, hanum, halb, haty, hafr, hasl, hakl⟩ := hre0.open9
 have hfk64 : F4 fk := by obtain ⟨_, _, _, _, h, _⟩ := hfr.open; exact h
 have htk64 : F4 tk := by obtain ⟨_, _, _, _, h, _⟩ := hty.open; exact h
 obtain ⟨tes, htS, htL⟩ := haty.kids
 obtain ⟨fes, hfS, hfL⟩ := hafr.kids
 simp only [Ty.ks] at htS htL hfS hfL
 refine B5 Tryz.func221 rfl Tryz.ntmps221 Tryz.results221 rfl ?_
 intro w0
 refine tS (tR ?_)
 refine sE (C0 rfl rfl) rfl (fun b3 => ?_)
 refine sE (A5 rfl) rfl (fun b4 => ?_)
 refine D8 ?_
 refine sP (B0 (j := 0) rfl rfl rfl (by simp)) rfl rfl ?_
 refine sL (A2 rfl rfl (hat0 _) rfl) rfl rfl ?_
 refine sE (A5 rfl) rfl (fun b15 => ?_)
 refine F8 ?_
 refine sD (nS (tS ?_))
 refine B9 ?_
 refine tS (tR (sQ (A9 rfl) rfl (sL (B7 rfl rfl) rfl rfl ?_)))
 refine sP (E4 rfl rfl (by omega)) rfl rfl ?_
 refine T4 ?_
 refine sP (E4 rfl rfl (by omega)) rfl rfl ?_
 refine I6 ?_
 refine sP (E4 rfl rfl (by omega)) rfl rfl ?_
 refine A0b ?_
 refine sP (Y8 rfl rfl (by omega)) rfl rfl ?_
 refine I7 ?_
 refine D2 (rC rfl (A3 rfl rfl)) (rT rfl) (rT rfl) ?_
 (exact R8.mk rfl (M5 _))
theorem B3o (a b c0 : Tm) (nm : ByteArray) (num : Int) (ty fr : Ty) (lb : Int) (G : IM) (cells : List Value) (hca : cv a) (hr : A7 G (.mk 9 nm num ty fr lb [a, b, c0]) cells) : Fn Tryz.prog 221 [.agg ⟨cells⟩] [] G (R8 (X8 9 ty fr lb [a, b, c0])) := by
 have hR : X8 9 ty fr lb [a, b, c0] = Q9 := by unfold X8; rw [if_neg (by omega), if_neg (by omega), if_neg (by omega)]
 rw [hR]
 obtain ⟨ak, anm, anum, ⟨atk, atks⟩, ⟨afk, afks⟩, alb, aks⟩ := a
 obtain ⟨hN, hkk⟩ := hca.node
 have hops := hN.ops
 have hbl := hN.lbB
 have htyA := hN.tyA
 have hfrA := hN.frA
 rw [D4] at htyA hfrA
 have h14 : ak = 14 → aks.length = 1 := fun h => by rw [h] at hops; have : E0 14 = 1 := rfl; omega
 obtain ⟨tk, tks⟩ := ty
 obtain ⟨fk, fks⟩ := fr
 obtain ⟨pt, ct, pf, cf, p, c, es, rfl, hk, hnum, hlb, hty, hfr, hsl, hkl⟩ := hr.open9
 obtain ⟨bx, ox, e0, rfl, hl0, hat0, hre0, hgb0⟩ := hsl.kidTm hkl (i := 0) (by simp) (by simp)
 replace hre0 : A7 G (Tm.mk ak anm anum (.mk atk atks) (.mk afk afks) alb aks) e0 := hre0
 have hP : Fn Tryz.prog 111 [.agg ⟨e0⟩] [] G (I0 (.bool (decide (ak = 14 ∧ afk = atk ∧ (atk = 4 ∨ atk = 5)))) G) := A2m _ G _ hre0
 have hI := A3x _ G _ hre0
 have ho0 := hre0.one
 obtain ⟨apt, act, apf, acf, ap, ac, aes, rfl, hak, hanum, halb, haty, hafr, hasl, hakl⟩ := hre0.open9
 have hfk64 : F4 fk := by obtain ⟨_, _, _, _, h, _⟩ := hfr.open; exact h
 have htk64 : F4 tk := by obtain ⟨_, _, _, _, h, _⟩ := hty.open; exact h
 obtain ⟨tes, htS, htL⟩ := haty.kids
 obtain ⟨fes, hfS, hfL⟩ := hafr.kids
 simp only [Ty.ks] at htS htL hfS hfL
 refine B5 Tryz.func221 rfl Tryz.ntmps221 Tryz.results221 rfl ?_
 intro w0
 refine tS (tR ?_)
 refine sE (C0 rfl rfl) rfl (fun b3 => ?_)
 refine sE (A5 rfl) rfl (fun b4 => ?_)
 refine D8 ?_
 refine sP (B0 (j := 0) rfl rfl rfl (by simp)) rfl rfl ?_
 refine sL (A2 rfl rfl (hat0 _) rfl) rfl rfl ?_
 refine sE (A5 rfl) rfl (fun b15 => ?_)
 refine F8 ?_
 refine sD (nS (tS ?_))
 refine B9 ?_
 refine tS (tR (sQ (A9 rfl) rfl (sL (B7 rfl rfl) rfl rfl ?_)))
 refine sP (E4 rfl rfl (by omega)) rfl rfl ?_
 refine T4 ?_
 refine sP (E4 rfl rfl (by omega)) rfl rfl ?_
 refine I6 ?_
 refine sP (E4 rfl rfl (by omega)) rfl rfl ?_
 refine A0b ?_
 refine sP (Y8 rfl rfl (by omega)) rfl rfl ?_
 refine I7 ?_
 refine D2 (rC rfl (A3 rfl rfl)) (rT rfl) (rT rfl) ?_
 (exact R8.mk rfl (M5 _))
theorem B3p (nm : ByteArray) (num : Int) (ty fr : Ty) (lb : Int) (G : IM) (cells : List Value) (hr : A7 G (.mk 1 nm num ty fr lb []) cells) : Fn Tryz.prog 220 [.agg ⟨cells⟩] [] G (R7 (W8 1 [])) := by
 rw [show W8 1 [] = none from rfl]
 obtain ⟨tk, tks⟩ := ty
 obtain ⟨fk, fks⟩ := fr
 obtain ⟨pt, ct, pf, cf, p, c, es, rfl, hk, hnum, hlb, hty, hfr, hsl, hkl⟩ := hr.open9
 have hL : ([] : List Tm).length = 0 := rfl
 refine B5 Tryz.func220 rfl Tryz.ntmps220 Tryz.results220 rfl ?_
 intro w0
 refine tS (tR ?_)
 refine sE (C0 rfl rfl) rfl (fun b3 => ?_)
 refine sE (A5 rfl) rfl (fun b4 => ?_)
 refine I1 ?_
 refine sE (A5 rfl) rfl (fun b11 => ?_)
 refine D7 ?_
 refine sP (B0L rfl rfl (by omega)) rfl rfl ?_
 refine M9 ?_
 refine B9 ?_
 refine tS (tR ?_)
 refine sP (E4 rfl rfl (by omega)) rfl rfl ?_
 refine sQ (qA rfl) rfl (sD (nS (cF rfl (tS (tS (tR ?_))))))
 refine sP (E4 rfl rfl (by omega)) rfl rfl ?_
 refine sQ (qA rfl) rfl (sD (nS (cF rfl (tR ?_))))
 refine sP (E4 rfl rfl (by omega)) rfl rfl ?_
 refine sQ (qA rfl) rfl (sD (nS (cF rfl (tS (tR ?_)))))
 refine sP (E4 rfl rfl (by omega)) rfl rfl ?_
 refine sQ (qA rfl) rfl (sD (nS (cF rfl (tS (tS (tR ?_))))))
 refine sP (E4 rfl rfl (by omega)) rfl rfl ?_
 refine sQ (qA rfl) rfl (sD (nS (cF rfl (tR ?_))))
 refine sP (E4 rfl rfl (by omega)) rfl rfl ?_
 refine I7 ?_
 refine D6 (rC rfl (A3 rfl rfl)) (rT rfl) ?_
 (exact R7.no rfl (M5 _))
theorem B3q (a : Tm) (nm : ByteArray) (num : Int) (ty fr : Ty) (lb : Int) (G : IM) (cells : List Value) (hr : A7 G (.mk 14 nm num ty fr lb [a]) cells) : Fn Tryz.prog 220 [.agg ⟨cells⟩] [] G (R7 (W8 14 [a])) := by
 rw [show W8 14 [a] = none from rfl]
 obtain ⟨tk, tks⟩ := ty
 obtain ⟨fk, fks⟩ := fr
 obtain ⟨pt, ct, pf, cf, p, c, es, rfl, hk, hnum, hlb, hty, hfr, hsl, hkl⟩ := hr.open9
 obtain ⟨bx, ox, e0, rfl, hl0, hat0, hre0, hgb0⟩ := hsl.kidTm hkl (i := 0) (by simp) (by simp)
 have ho0 : e0.all (·.oneCell') = true := (show A7 G a e0 from hre0).one
 refine B5 Tryz.func220 rfl Tryz.ntmps220 Tryz.results220 rfl ?_
 intro w0
 refine tS (tR ?_)
 refine sE (C0 rfl rfl) rfl (fun b3 => ?_)
 refine sE (A5 rfl) rfl (fun b4 => ?_)
 refine I1 ?_
 refine sE (A5 rfl) rfl (fun b11 => ?_)
 refine D7 ?_
 refine sB (W2 rfl rfl) rfl rfl (fun h21 => ?_) (fun h21 => ?_)
 refine I1 ?_
 refine sP (B0 (j := 0) rfl rfl rfl (by simp)) rfl rfl ?_
 refine sL (A2 rfl rfl (hat0 _) hl0) rfl rfl ?_
 refine sS rfl rfl rfl hl0 ho0 rfl ?_ (hu := by exact C2 hl0.symm)
 refine D7 ?_
 refine B9 ?_
 refine tS (tR ?_)
 refine sP (E4 rfl rfl (by omega)) rfl rfl ?_
 refine sQ (qA rfl) rfl (sD (nS (cF rfl (tS (tS (tR ?_))))))
 refine sP (E4 rfl rfl (by omega)) rfl rfl ?_
 refine sQ (qA rfl) rfl (sD (nS (cF rfl (tR ?_))))
 refine sP (E4 rfl rfl (by omega)) rfl rfl ?_
 refine sQ (qA rfl) rfl (sD (nS (cF rfl (tS (tR ?_)))))
 refine sP (E4 rfl rfl (by omega)) rfl rfl ?_
 refine sQ (qA rfl) rfl (sD (nS (cF rfl (tS (tS (tR ?_))))))
 refine sP (E4 rfl rfl (by omega)) rfl rfl ?_
 refine sQ (qA rfl) rfl (sD (nS (cF rfl (tR ?_))))
 refine sP (E4 rfl rfl (by omega)) rfl rfl ?_
 refine I7 ?_
 refine D6 (rC rfl (A3 rfl rfl)) (rT rfl) ?_
 (exact R7.no rfl (M5 _))
 refine M9 ?_
 refine B9 ?_
 refine tS (tR ?_)
 refine sP (E4 rfl rfl (by omega)) rfl rfl ?_
 refine sQ (qA rfl) rfl (sD (nS (cF rfl (tS (tS (tR ?_))))))
 refine sP (E4 rfl rfl (by omega)) rfl rfl ?_
 refine sQ (qA rfl) rfl (sD (nS (cF rfl (tR ?_))))
 refine sP (E4 rfl rfl (by omega)) rfl rfl ?_
 refine sQ (qA rfl) rfl (sD (nS (cF rfl (tS (tR ?_)))))
 refine sP (E4 rfl rfl (by omega)) rfl rfl ?_
 refine sQ (qA rfl) rfl (sD (nS (cF rfl (tS (tS (tR ?_))))))
 refine sP (E4 rfl rfl (by omega)) rfl rfl ?_
 refine sQ (qA rfl) rfl (sD (nS (cF rfl (tR ?_))))
 refine sP (E4 rfl rfl (by omega)) rfl rfl ?_
 refine I7 ?_
 refine D6 (rC rfl (A3 rfl rfl)) (rT rfl) ?_
 (exact R7.no rfl (M5 _))
theorem ks1 {ks : List Tm} (h : ks.length = 1) : ∃ a, ks = [a] := by
 match ks, h with
 | [a], _ => exact ⟨a, rfl⟩
theorem ks2 {ks : List Tm} (h : ks.length = 2) : ∃ a b, ks = [a, b] := by
 match ks, h with
 | [a, b], _ => exact ⟨a, b, rfl⟩
theorem ks3 {ks : List Tm} (h : ks.length = 3) : ∃ a b c, ks = [a, b, c] := by
 match ks, h with
 | [a, b, c], _ => exact ⟨a, b, c, rfl⟩
theorem B3r {k : Int} {nm : ByteArray} {num : Int} {ty fr : Ty} {lb : Int} {ks : List Tm} {G : IM} {cells : List Value} (hc : cv (.mk k nm num ty fr lb ks)) (hk : k = 1 ∨ k = 6 ∨ k = 7 ∨ k = 8 ∨ k = 9 ∨ k = 11 ∨ k = 12 ∨ k = 14) (hr : A7 G (.mk k nm num ty fr lb ks) cells) :
  Fn Tryz.prog 220 [.agg ⟨cells⟩] [] G (R7 (W8 k ks)) := by
 obtain ⟨hN, hkk⟩ := hc.node
 have hops := hN.ops
 rcases hk with rfl | rfl | rfl | rfl | rfl | rfl | rfl | rfl
 ·obtain rfl : ks = [] := List.length_eq_zero_iff.1 (by have : E0 1 = 0 := rfl; omega)
  exact B3p _ _ _ _ _ _ _ hr
 ·obtain ⟨a, b, rfl⟩ := ks2 (ks := ks) (by have : E0 6 = 2 := rfl; omega)
  exact B3i a b _ _ _ _ _ _ _ (hkk a (by simp)) hr
 ·obtain ⟨a, b, rfl⟩ := ks2 (ks := ks) (by have : E0 7 = 2 := rfl; omega)
  exact A8Z 7 a b _ _ _ _ _ _ _ (.inl rfl) (hkk a (by simp)) (hkk b (by simp)) hr
 ·obtain ⟨a, b, rfl⟩ := ks2 (ks := ks) (by have : E0 8 = 2 := rfl; omega)
  exact A8Z 8 a b _ _ _ _ _ _ _ (.inr rfl) (hkk a (by simp)) (hkk b (by simp)) hr
 ·obtain ⟨a, b, c, rfl⟩ := ks3 (ks := ks) (by have : E0 9 = 3 := rfl; omega)
  exact B3j a b c _ _ _ _ _ _ _ hr
 ·obtain ⟨a, rfl⟩ := ks1 (ks := ks) (by have : E0 11 = 1 := rfl; omega)
  exact A80 11 a _ _ _ _ _ _ _ (.inl rfl) (hkk a (by simp)) hr
 ·obtain ⟨a, rfl⟩ := ks1 (ks := ks) (by have : E0 12 = 1 := rfl; omega)
  exact A80 12 a _ _ _ _ _ _ _ (.inr rfl) (hkk a (by simp)) hr
 ·obtain ⟨a, rfl⟩ := ks1 (ks := ks) (by have : E0 14 = 1 := rfl; omega)
  exact B3q a _ _ _ _ _ _ _ hr
theorem B3s {k : Int} {nm : ByteArray} {num : Int} {ty fr : Ty} {lb : Int} {ks : List Tm} {G : IM} {cells : List Value} (hc : cv (.mk k nm num ty fr lb ks)) (hk : k = 6 ∨ k = 7 ∨ k = 8 ∨ k = 9 ∨ k = 11 ∨ k = 12 ∨ k = 14) (hr : A7 G (.mk k nm num ty fr lb ks) cells) :
  Fn Tryz.prog 221 [.agg ⟨cells⟩] [] G (R8 (X8 k ty fr lb ks)) := by
 obtain ⟨hN, hkk⟩ := hc.node
 have hops := hN.ops
 rcases hk with rfl | rfl | rfl | rfl | rfl | rfl | rfl
 ·obtain ⟨a, b, rfl⟩ := ks2 (ks := ks) (by have : E0 6 = 2 := rfl; omega)
  exact B3l a b _ _ _ _ _ _ _ (hkk a (by simp)) hr
 ·obtain ⟨a, b, rfl⟩ := ks2 (ks := ks) (by have : E0 7 = 2 := rfl; omega)
  exact A84 7 a b _ _ _ _ _ _ _ (.inl rfl) (hkk a (by simp)) hr
 ·obtain ⟨a, b, rfl⟩ := ks2 (ks := ks) (by have : E0 8 = 2 := rfl; omega)
  exact A84 8 a b _ _ _ _ _ _ _ (.inr rfl) (hkk a (by simp)) hr
 ·obtain ⟨a, b, c, rfl⟩ := ks3 (ks := ks) (by have : E0 9 = 3 := rfl; omega)
  exact B3o a b c _ _ _ _ _ _ _ (hkk a (by simp)) hr
 ·obtain ⟨a, rfl⟩ := ks1 (ks := ks) (by have : E0 11 = 1 := rfl; omega)
  exact A82 11 a _ _ _ _ _ _ _ (.inl rfl) (hkk a (by simp)) hr
 ·obtain ⟨a, rfl⟩ := ks1 (ks := ks) (by have : E0 12 = 1 := rfl; omega)
  exact A82 12 a _ _ _ _ _ _ _ (.inr rfl) (hkk a (by simp)) hr
 ·obtain ⟨a, rfl⟩ := ks1 (ks := ks) (by have : E0 14 = 1 := rfl; omega)
  exact B3n a _ _ _ _ _ _ _ (hkk a (by simp)) hN.lbB hr
theorem A2o (n : Nat) (t : Tm) (ts : List Tm) : Q6 (n + 1) (t :: ts) = if E7 t = true then (match Q6 n ts with | some (us, c, l) => some (t :: us, c, l) | none => none) else some ((H0 t).1 :: ts, (H0 t).2.1, (H0 t).2.2) := by
 rw [Q6]; rfl
theorem A54 : ∀ (n : Nat) (ks : List Tm), (∀ i, i < n → (h : i < ks.length) → E7 ks[i] = true) → Q6 n ks = none
 | n, [], _ => by cases n <;> rfl
 | 0, t :: ts, _ => rfl
 | n + 1, t :: ts, h => by
  rw [A2o, if_pos (show E7 t = true from h 0 (by omega) (by simp)), A54 n ts (fun i hi hl => h (i + 1) (by omega) (by simpa using hl))]
theorem A55 : ∀ (n : Nat) (ks : List Tm) (i : Nat) (hi : i < ks.length), i < n → (∀ j, j < i → (h : j < ks.length) → E7 ks[j] = true) → E7 ks[i] = false → Q6 n ks = some (ks.set i (H0 ks[i]).1, (H0 ks[i]).2.1, (H0 ks[i]).2.2)
 | n, [], i, hi, _, _, _ => by simp at hi
 | 0, t :: ts, i, _, hn, _, _ => by omega
 | n + 1, t :: ts, 0, _, _, _, hv => by
  rw [A2o, if_neg (by rw [show E7 t = false from hv]; decide)]; rfl
 | n + 1, t :: ts, i + 1, hi, hn, hj, hv => by
  rw [A2o, if_pos (show E7 t = true from hj 0 (by omega) (by simp)), A55 n ts i (by simpa using hi) (by omega) (fun j hji hl => hj (j + 1) (by omega) (by simpa using hl)) hv]
  rfl
theorem B3t {k : Int} {ty fr : Ty} {lb : Int} {ks : List Tm} (h : (N0 k ty fr lb ks).2.1 = 1) : (N0 k ty fr lb ks).2.2 = 0 := by
 revert h
 unfold N0 Q9
 repeat' split
 all_goals first | (intro _; rfl) | (intro h; exfalso; revert h; simp)
theorem B3u {k : Int} {nm : ByteArray} {num : Int} {ty fr : Ty} {lb : Int} {ks : List Tm} (h : (H0 (.mk k nm num ty fr lb ks)).2.1 = 1) : (H0 (.mk k nm num ty fr lb ks)).2.2 = 0 := by
 rw [H0] at h ⊢
 cases hL : Q6 (if k = 9 then 1 else ks.length) ks with
 | none => rw [hL] at h; exact B3t h
 | some p =>
  obtain ⟨us, c, l⟩ := p
  rw [hL] at h
  simp only at h ⊢
  by_cases hc : c = 1
  ·rw [if_pos hc]
  ·rw [if_neg hc] at h; exact absurd h hc
theorem B3v {t : Tm} (h : (H0 t).2.1 = 1) : (H0 t).2.2 = 0 := by cases t; exact B3u h
theorem B3w {k : Int} {nm : ByteArray} {num : Int} {ty fr : Ty} {lb : Int} {ks : List Tm} {i : Nat} (hi : i < ks.length) (hn : i < (if k = 9 then 1 else ks.length)) (hj : ∀ j, j < i → (h : j < ks.length) → E7 ks[j] = true) (hv : E7 ks[i] = false) :
  (H0 (.mk k nm num ty fr lb ks)).2.1 = (H0 ks[i]).2.1 ∧ (H0 (.mk k nm num ty fr lb ks)).2.2 = (H0 ks[i]).2.2 ∧ ((H0 ks[i]).2.1 = 1 → (H0 (.mk k nm num ty fr lb ks)).1 = .mk k nm num ty fr lb (ks.set i (H0 ks[i]).1)) := by
 rw [H0, A55 _ ks i hi hn hj hv]
 simp only
 by_cases hc : (H0 ks[i]).2.1 = 1
 ·rw [if_pos hc]
  exact ⟨hc.symm, (B3v hc).symm, fun _ => rfl⟩
 ·rw [if_neg hc]
  exact ⟨rfl, rfl, fun h => absurd h hc⟩
theorem B3x {k : Int} {nm : ByteArray} {num : Int} {ty fr : Ty} {lb : Int} {ks : List Tm} (h : ∀ i, i < (if k = 9 then 1 else ks.length) → (hl : i < ks.length) → E7 ks[i] = true) : H0 (.mk k nm num ty fr lb ks) = match W8 k ks with | some u => (u, 1, 0) | none => X8 k ty fr lb ks := by
 rw [H0, A54 _ _ h]
 exact B3k k ty fr lb ks
theorem A85 {k : Int} (h : 0 ≤ E0 k) : 1 ≤ k ∧ k ≤ 14 := by
 by_cases hk : 1 ≤ k ∧ k ≤ 14
 ·exact hk
 ·rw [A3i hk] at h; omega
theorem A86 {k : Int} {nm : ByteArray} {num : Int} {ty fr : Ty} {lb : Int} {ks : List Tm} (hc : cv (.mk k nm num ty fr lb ks)) (hv : E7 (.mk k nm num ty fr lb ks) = false) (h : ∀ i, i < (if k = 9 then 1 else ks.length) → (hl : i < ks.length) → E7 ks[i] = true) : k = 1 ∨ k = 6 ∨ k = 7 ∨ k = 8 ∨ k = 9 ∨ k = 11 ∨ k = 12 ∨ k = 14 := by
 obtain ⟨hN, _⟩ := hc.node
 have hr := A85 (by rw [hN.ops]; omega : 0 ≤ E0 k)
 have h13 := hN.ne
 have h25 : ¬(k = 2 ∨ k = 3 ∨ k = 4 ∨ k = 5) := by
  intro hk
  rw [E7, if_neg (by omega)] at hv
  rw [decide_eq_true hk] at hv
  cases hv
 have h10 : k ≠ 10 := by
  rintro rfl
  rw [A3y (.inl rfl), List.all_eq_false] at hv
  obtain ⟨t, ht, hn⟩ := hv
  obtain ⟨i, hi, rfl⟩ := List.mem_iff_getElem.1 ht
  exact hn (h i (by rw [if_neg (by decide)]; exact hi) hi)
 omega
end Gw
end Go.Proofs.YtfpgncjeejickaaGreatDoor
