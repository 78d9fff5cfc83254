/-
  Nodes replaced: the program's put, the reference model's l16Replace. The reference model's replacing of nodes. What a node wants of its operands. The type of a term with casts. castType and CastTypeOf compute the type of a term with casts. ReplaceAt: the program's and the reference model's. Nodes at paths, in plain words: paths concatenate. Replacing a node, in plain words: what is put is found, and putting back undoes. A closed term's type is its type everywhere; a node replaced by one of its type leaves the type. Casts put into a term, in plain words. The reference's types are those of the insertion. Terms with casts: what a type says of a node. Casts put into a term: operand by operand. Precision of types and terms, on both sides. Casts put into terms of which one is more precise: the results are so, too. The program's evaluator: casts, nodes, the rules without casts. The program's evaluator: the rules of casts. The program's evaluator: the rules of casts, selections and casts themselves.
-/
import Derived.Test.YtfpgncjeejickaaGreatDoorKa3
import Derived.Test.YtfpgncjeejickaaGreatDoorKa2
import Derived.Test.YtfpgncjeejickaaGreatDoorKa4
import Derived.Test.YtfpgncjeejickaaGreatDoorKa1
set_option linter.unusedVariables false
set_option linter.unusedSimpArgs false
set_option maxHeartbeats 0
set_option maxRecDepth 100000
set_option synthInstance.maxSize 4000
set_option synthInstance.maxHeartbeats 0
namespace Go.Proofs.YtfpgncjeejickaaGreatDoor
open Go Go.RowKit
namespace Gw
theorem B3L (G : IM) (p : Option Addr) (n c : Nat) (es : List (List Value)) (h : C9 G p n c 9 es) (h0 : 0 < n) (hn : n ≤ 4294967296) :
  Fn Tryz.prog 219 [.slice p n c] [] G (fun G' v outs => G' = G ∧ ∃ p' c', v = .slice p' n c' ∧ outs = [.slc p' c' 28 9 n es.flatten]) := by
 obtain ⟨hl, hc, hm, hat⟩ := h.sl
 obtain ⟨b, o, full, rfl, hg, hv⟩ := hat.resolve_left (by omega)
 have ho : ∀ u ∈ es.flatten, u.oneCell' = true := by
  intro u hu
  obtain ⟨e, he, hue⟩ := List.mem_flatten.1 hu
  exact List.all_eq_true.1 (h.one e he) u hue
 refine B6 Tryz.func219 rfl Tryz.ntmps219 Tryz.results219 rfl ?_
 intro w0
 refine D8 ?_
 refine sQ (A7m rfl rfl rfl) rfl ?_
 refine sD (nS (cF rfl (tK (nS (tS (tR ?_))))))
 (refine K7 (D0 rfl rfl rfl (by omega) (by unfold maxLen; omega) rfl) rfl ?_; rintro _ ⟨b18, rfl⟩)
 refine sQ (qM rfl) rfl ?_
 refine A1S rfl rfl rfl rfl rfl (fun _ _ => by repeat (first | exact Sw.here | apply Sw.there)) (A4a hg hv) hl ho (by unfold maxLen; omega) (by omega) rfl (fun pn cn => ?_)
 refine sQ (qA rfl) rfl (sD (nS (tT ?_)))
 refine I1 (rT rfl) A1.refl ?_
 exact ⟨rfl, _, _, by rw [Nat.zero_add], by rw [Nat.zero_add]; rfl⟩
theorem B3M {A C : List Value} {es : List (List Value)} {vs : List Value} {j sz : Nat} (hj : j < es.length) (ha : ∀ e ∈ es, e.length = sz) (hv : vs.length = sz) : Q7 (A ++ (es.flatten ++ C)) (A.length + j * sz) vs = some (A ++ ((es.set j vs).flatten ++ C)) := by
 have h := B2c (A := A) (D := es.take j) (e := es[j]) (e' := vs) (R := (es.drop (j + 1)).flatten ++ C) (vs := vs) (i := j) (sz := sz) (off := 0)
  (by rw [List.length_take]; omega) (fun e he => ha e (List.mem_of_mem_take he)) (C1 (by rw [ha _ (List.getElem_mem hj), hv]))
 rw [A56 hj, A8N hj]
 simp only [List.append_assoc, Nat.add_zero] at h ⊢
 exact h
theorem At.mono' {hp : List A5} {G G' : IM} {b o : Nat} {vs : List Value} (hg : B8 G G') (h : At [] G b o vs) : At hp G' b o vs := by
 rcases h with ⟨cs, hm, hv⟩ | ⟨n, c, el, sz, cs, hm, hv⟩ | ⟨full, hx, hv⟩
 ·cases hm
 ·cases hm
 ·exact .inr (.inr ⟨full, hg _ _ hx, hv⟩)
theorem C9.kidD {G : IM} {p : Option Addr} {n c : Nat} {es : List (List Value)} {ks : List Ty} (h : C9 G p n c 2 es) (hk : E0 G ks es) {i : Nat} (hi : i < n) (hn : i < ks.length) :
  ∃ b o q d, p = some ⟨b, o, none⟩ ∧ (∀ hp, At hp G b (o + i * 2) [.int .i64 (ks.getD i B1).k, .slice q (ks.getD i B1).ks.length d]) ∧ B2 G (ks.getD i B1) [.int .i64 (ks.getD i B1).k, .slice q (ks.getD i B1).ks.length d] ∧ G b ≠ none := by
 obtain ⟨b, o, q, d, h1, h2, h3, h4⟩ := h.kidTy hk hi hn
 rw [List.getD_eq_getElem?_getD, List.getElem?_eq_getElem hn, Option.getD_some]
 exact ⟨b, o, q, d, h1, h2, h3, h4⟩
theorem A21 {hs : List Ty} (h : ∀ t ∈ hs, D4 t) {i : Nat} (hi : i < hs.length) : D4 (hs.getD i B1) := by
 rw [List.getD_eq_getElem?_getD, List.getElem?_eq_getElem hi, Option.getD_some]
 exact h _ (List.getElem_mem hi)
def L5 (r : Option (List Ty × Ty)) (G : IM) : IM → Value → List A5 → Prop := L2 fun G' v => ∃ p n c es w cu u, v = .tuple ⟨[.slice p n c, .agg ⟨cu⟩, .bool r.isSome]⟩ ∧ n = w.length ∧ C9 G' p n c 2 es ∧ E0 G' w es ∧ B2 G' u cu ∧ ∀ q, r = some q → q = (w, u)
theorem L5.mk {r : Option (List Ty × Ty)} {G G' : IM} {p : Option Addr} {n c : Nat} {es : List (List Value)} {w : List Ty} {cu : List Value} {u : Ty} {b : Bool} (hl : n = w.length) (hs : Sl G' p n c 2 es.flatten) (hw : E0 G' w es) (hu : B2 G' u cu) (h : r = if b = true then some (w, u) else none) :
  L5 r G G' (.tuple ⟨[.slice p n c, .agg ⟨cu⟩, .bool b]⟩) [] := by
 refine ⟨rfl, p, n, c, es, w, cu, u, ?_, hl, C9.of hs (by rw [hw.len, hl]) hw.all (fun e he => (hw.each e he).2), hw, hu, ?_⟩
 ·subst h; cases b <;> rfl
 ·subst h; cases b
  ·simp
  ·intro q hq; simpa using hq.symm
theorem L5.nil {r : Option (List Ty × Ty)} {G G' : IM} {cu : List Value} {u : Ty} {b : Bool} (hu : B2 G' u cu) (h : r = if b = true then some ([], u) else none) :
  L5 r G G' (.tuple ⟨[.slice none 0 0, .agg ⟨cu⟩, .bool b]⟩) [] := L5.mk (es := []) rfl (Sl.nil _ _) (by simp [E0]) hu h
theorem L5.one {r : Option (List Ty × Ty)} {G G' : IM} {p : Option Addr} {c : Nat} {a : Ty} {ca : List Value} {cu : List Value} {u : Ty} {b : Bool} (hs : Sl G' p 1 c 2 ca) (ha : B2 G' a ca) (hu : B2 G' u cu) (h : r = if b = true then some ([a], u) else none) :
  L5 r G G' (.tuple ⟨[.slice p 1 c, .agg ⟨cu⟩, .bool b]⟩) [] := L5.mk (es := [ca]) (w := [a]) rfl (by simpa using hs) ⟨_, _, rfl, ha, rfl⟩ hu h
theorem L5.two {r : Option (List Ty × Ty)} {G G' : IM} {p : Option Addr} {c : Nat} {a a2 : Ty} {ca ca2 : List Value} {cu : List Value} {u : Ty} {b : Bool} (hs : Sl G' p 2 c 2 (ca ++ ca2)) (ha : B2 G' a ca) (ha2 : B2 G' a2 ca2) (hu : B2 G' u cu) (h : r = if b = true then some ([a, a2], u) else none) :
  L5 r G G' (.tuple ⟨[.slice p 2 c, .agg ⟨cu⟩, .bool b]⟩) [] := L5.mk (es := [ca, ca2]) (w := [a, a2]) rfl (by simpa using hs) ⟨_, _, rfl, ha, _, _, rfl, ha2, rfl⟩ hu h
theorem L5.three {r : Option (List Ty × Ty)} {G G' : IM} {p : Option Addr} {c : Nat} {a a2 a3 : Ty} {ca ca2 ca3 : List Value} {cu : List Value} {u : Ty} {b : Bool} (hs : Sl G' p 3 c 2 (ca ++ (ca2 ++ ca3))) (ha : B2 G' a ca) (ha2 : B2 G' a2 ca2) (ha3 : B2 G' a3 ca3) (hu : B2 G' u cu) (h : r = if b = true then some ([a, a2, a3], u) else none) :
  L5 r G G' (.tuple ⟨[.slice p 3 c, .agg ⟨cu⟩, .bool b]⟩) [] := L5.mk (es := [ca, ca2, ca3]) (w := [a, a2, a3]) rfl (by simpa using hs) ⟨_, _, rfl, ha, _, _, rfl, ha2, _, _, rfl, ha3, rfl⟩ hu h
section
variable {cx : Cx} {nm : ByteArray} {ty : Ty} {h : List Ty}
theorem mW1 : O7 cx 1 nm ty h = match P2 cx nm with | some t => some ([], t) | none => none := rfl
theorem mW2 : O7 cx 2 nm ty h = some ([], O1) := rfl
theorem A6k {k : Int} (hk : k = 3 ∨ k = 4) : O7 cx k nm ty h = some ([], S5) := by rcases hk with rfl | rfl <;> rfl
theorem mW5 : O7 cx 5 nm ty h = some ([], .mk 4 [ty, h.getD 0 B1]) := rfl
theorem mW6 : O7 cx 6 nm ty h = match Z8 4 (h.getD 0 B1) with | some (a, b) => if P1 (h.getD 1 B1) a = true then some ([.mk 4 [a, b], a], b) else none | none => none := rfl
theorem W9 {k : Int} (hk : k = 7 ∨ k = 8) : O7 cx k nm ty h = if P1 (h.getD 0 B1) O1 = true ∧ P1 (h.getD 1 B1) O1 = true then some ([O1, O1], if k = 8 then S5 else O1) else none := by rcases hk with rfl | rfl <;> rfl
theorem mW9 : O7 cx 9 nm ty h = if P1 (h.getD 0 B1) S5 = true ∧ P1 (h.getD 1 B1) (h.getD 2 B1) = true then some ([S5, A0D (h.getD 1 B1) (h.getD 2 B1), A0D (h.getD 1 B1) (h.getD 2 B1)], A0D (h.getD 1 B1) (h.getD 2 B1)) else none := rfl
theorem A9r : O7 cx 10 nm ty h = some ([], .mk 5 [h.getD 0 B1, h.getD 1 B1]) := rfl
theorem A3Q : O7 cx 13 nm ty h = if P1 (h.getD 0 B1) ty = true then some ([ty], ty) else none := rfl
theorem A6l {k : Int} (hk : k = 11 ∨ k = 12) : O7 cx k nm ty h = match Z8 5 (h.getD 0 B1) with | some (a, b) => some ([.mk 5 [a, b]], if k = 12 then b else a) | none => none := by rcases hk with rfl | rfl <;> rfl
end
theorem K8 (G : IM) : B2 G O1 [.int .i64 2, .slice none 0 0] := K5 G ⟨by omega, by omega⟩
theorem X0 (G : IM) : B2 G S5 [.int .i64 3, .slice none 0 0] := K5 G ⟨by omega, by omega⟩
theorem B3N (cx : Cx) (k : Int) (nm : ByteArray) (num : Int) (ty fr : Ty) (lb : Int) (ks : List Tm) (h : List Ty) (G : IM) (pc : Option Addr) (nc cc : Nat) (cells : List Value) (p : Option Addr) (n c : Nat) (es : List (List Value))
  (hx : S7 G cx pc nc cc) (hops : D3 k = n) (hnl : n = h.length) (hk14 : k ≠ 14) (hta : D4 ty) (hr : A8 G (.mk k nm num ty fr lb ks) cells) (hsl : C9 G p n c 2 es) (hkl : E0 G h es) (har : ∀ t ∈ h, D4 t) :
  Fn Tryz.prog 117 [.slice pc nc cc, .agg ⟨cells⟩, .slice p n c] [] G (L5 (O7 cx k nm ty h) G) := by
 have hone := hr.one
 have hop := A2t hops
 have hkr : 1 ≤ k ∧ k ≤ 14 := by
  apply Classical.byContradiction
  intro hc
  rw [A3w hc] at hops; omega
 obtain ⟨tyk, tyks⟩ := ty
 obtain ⟨fk, fks⟩ := fr
 obtain ⟨pt, ct, pf, cf, pk, ck, ek, rfl, hk, hnum, hlb, hrty, hrfr, _, _⟩ := hr.open9
 refine B6 Tryz.func117 rfl Tryz.ntmps117 Tryz.results117 rfl ?_
 intro w0
 refine tS (tR ?_)
 refine sE (C4 rfl rfl) rfl (fun b3 => ?_)
 refine sQ (qA rfl) rfl ?_
 refine sE (A6 rfl) rfl (fun b5 => ?_)
 refine sQ (qA rfl) rfl (sD (nS (tS (tR ?_))))
 refine E8 rfl ((A05 _ _)) rfl rfl ?_
 refine E8 rfl ((A05 _ _)) rfl rfl ?_
 refine sE (A6 rfl) rfl (fun b13 => ?_)
 refine sE (A6 rfl) rfl (fun b14 => ?_)
 refine J6 ?_
 refine C3 (tS (tR (sB (qE rfl rfl) rfl rfl (fun h29 => ?_) (fun h29 => ?_))))
 refine D8 ?_
 (refine D7 rfl (B3m G cx pc nc cc nm hx) rfl rfl (fun v G1 hle1 hh => ?_); obtain ⟨cu, u, rfl, hru, hu⟩ := hh; obtain ⟨p1, c1, e1, rfl, _⟩ := hru.open)
 refine H9 ?_
 refine sE (A6 rfl) rfl (fun b43 => ?_)
 refine H6 ?_
 refine sQ (qA rfl) rfl (sD (nS (tS ?_)))
 refine D1 D2 rfl ?_
 refine N8 (i := 0) (l' := [tt,ff,ff,ff,ff]) rfl C8 (A4 rfl rfl) rfl (by kernel_rfl) rfl rfl ?_
 refine aP 1 rfl (qM rfl) rfl ?_
 refine aP 2 rfl (qA rfl) rfl ?_
 refine A2 3 ?_
 refine H0 rfl ?_
 refine aP 4 rfl (qA rfl) rfl ?_
 refine C0 (nS (tT (rB (rS ?_))))
 refine I0 (rT rfl) (rC rfl (A4 rfl rfl)) (rT rfl) ?_
 (have hk1 : k = 1 := (by omega); subst hk1; rw [mW1]; refine L5.nil hru ?_; generalize P2 cx nm = r at hu ⊢; cases r with | none => rfl | some t => (rw [hu t rfl]; rfl))
 refine sQ (qA rfl) rfl (sD (nS (cF rfl (tS (tR ?_)))))
 refine sB (qE rfl rfl) rfl rfl (fun h69 => ?_) (fun h69 => ?_)
 refine sQ (qA rfl) rfl (sD (nS (qT rfl (tS ?_))))
 refine D1 D2 rfl ?_
 refine N8 (i := 0) (l' := [tt,ff,ff,ff]) rfl C8 (A4 rfl rfl) rfl (by kernel_rfl) rfl rfl ?_
 refine aP 1 rfl (qA rfl) rfl ?_
 refine A2 2 ?_
 refine H0 rfl ?_
 refine aP 3 rfl (qA rfl) rfl ?_
 refine C0 (nS (tT (rB (rS ?_))))
 refine I0 (rT rfl) (rC rfl (A4 rfl rfl)) (rT rfl) ?_
 (have hk1 : k = 2 := (by omega); subst hk1; exact L5.nil (K8 _) mW2)
 refine sQ (qA rfl) rfl (sD (nS (cF rfl (tS (tS (tR ?_))))))
 refine sB (qE rfl rfl) rfl rfl (fun h95 => ?_) (fun h95 => ?_)
 refine F8 ?_
 refine D1 D2 rfl ?_
 refine N8 (i := 0) (l' := [tt,ff,ff,ff]) rfl C8 (A4 rfl rfl) rfl (by kernel_rfl) rfl rfl ?_
 refine aP 1 rfl (qA rfl) rfl ?_
 refine A2 2 ?_
 refine H0 rfl ?_
 refine aP 3 rfl (qA rfl) rfl ?_
 refine C0 (nS (tT (rB (rS ?_))))
 refine I0 (rT rfl) (rC rfl (A4 rfl rfl)) (rT rfl) ?_
 (exact L5.nil (X0 _) (by rw [A6k (by omega)]; rfl))
 refine sQ (qA rfl) rfl (sD (nS (cF rfl (tR ?_))))
 refine sB (qE rfl rfl) rfl rfl (fun h122 => ?_) (fun h122 => ?_)
 refine sQ (qA rfl) rfl (sD (nS (qT rfl (tS ?_))))
 refine D1 D2 rfl ?_
 refine N8 (i := 0) (l' := [tt,ff,ff,ff]) rfl C8 (A4 rfl rfl) rfl (by kernel_rfl) rfl rfl ?_
 refine aP 1 rfl (qA rfl) rfl ?_
 refine A2 2 ?_
 refine H0 rfl ?_
 refine aP 3 rfl (qA rfl) rfl ?_
 refine C0 (nS (tT (rB (rS ?_))))
 refine I0 (rT rfl) (rC rfl (A4 rfl rfl)) (rT rfl) ?_
 (exact L5.nil (X0 _) (by rw [A6k (by omega)]; rfl))
 refine sQ (qA rfl) rfl (sD (nS (cF rfl (tS (tR ?_)))))
 refine sB (qE rfl rfl) rfl rfl (fun h147 => ?_) (fun h147 => ?_)
 refine sQ (qA rfl) rfl (sD (nS (qT rfl (tS ?_))))
 (have hl1 : n = 1 := hop.2.2 (by omega); obtain ⟨b0, o0, q0, d0, hp0, hat0, hre0, hg0⟩ := hsl.kidD hkl (i := 0) (by omega) (by omega); cases hp0; refine D1 D2 rfl ?_)
 refine I4 (i := 0) (l' := [tt,ff,ff,ff,ff,ff,ff,ff,ff]) rfl C8 (B5 rfl) rfl (by kernel_rfl) rfl rfl ?_
 refine aL 1 rfl (A4 rfl rfl) rfl ?_
 refine aP 2 rfl (qM rfl) rfl ?_
 refine aP 3 rfl (B4 (j := 0) rfl rfl rfl (by omega)) rfl ?_
 refine aL 4 rfl (A3 rfl rfl (hat0 _) rfl) rfl ?_
 refine A2 5 ?_
 (refine E3 rfl rfl (A10 4 _ _ _ _ _ ⟨by omega, by omega⟩ hrty hre0) rfl rfl rfl (fun v GB hleB hh => ?_); obtain ⟨cB, rfl, hrB⟩ := hh; obtain ⟨p7, c7, e7, rfl, _⟩ := hrB.open)
 refine aP 6 rfl (qA rfl) rfl ?_
 refine A2 7 ?_
 refine H0 rfl ?_
 refine aP 8 rfl (qA rfl) rfl ?_
 refine C0 (nS (tT (rB (rS ?_))))
 refine I0 (rT rfl) (rC rfl (A4 rfl rfl)) (rT rfl) ?_
 (have hk1 : k = 5 := (by omega); subst hk1; exact L5.nil hrB mW5)
 refine sQ (qA rfl) rfl (sD (nS (cF rfl (tS (tR ?_)))))
 refine sB (qE rfl rfl) rfl rfl (fun h178 => ?_) (fun h178 => ?_)
 refine D5 ?_
 (have hl2 : n = 2 := hop.1 (by omega); obtain ⟨b0, o0, q0, d0, hp0, hat0, hre0, hg0⟩ := hsl.kidD hkl (i := 0) (by omega) (by omega); cases hp0; refine sP (B4 (j := 0) rfl rfl rfl (by omega)) rfl rfl ?_)
 refine sL (A3 rfl rfl (hat0 _) rfl) rfl rfl ?_
 (refine D7 rfl (A81 4 (h.getD 0 B1) G _ (.inl rfl) (A21 har (by omega)) hre0) rfl rfl (fun v G1 hle1 hh => ?_); obtain ⟨ma, mca, mb, mcb, rfl, hma, hmb, hma2, hmb2, hmm⟩ := hh; obtain ⟨p1, c1, e1, rfl, _⟩ := hma.open; obtain ⟨p2, c2, e2, rfl, _⟩ := hmb.open; replace hsl := hsl.mono hle1; replace hkl := hkl.mono hle1; generalize hmi : (Z8 4 (h.getD 0 B1)).isSome = mi; cases mi)
 refine J8 ?_
 refine sE (A6 rfl) rfl (fun b193 => ?_)
 refine sE (A6 rfl) rfl (fun b194 => ?_)
 refine H6 ?_
 refine H6 ?_
 refine sQ (qA rfl) rfl (sD (nS (tS ?_)))
 (have hl2 : n = 2 := hop.1 (by omega); obtain ⟨b0, o0, q0, d0, hp0, hat0, hre0, hg0⟩ := hsl.kidD hkl (i := 0) (by omega) (by omega); obtain ⟨b1, o1, q1, d1, hp1, hat1, hre1, hg1⟩ := hsl.kidD hkl (i := 1) (by omega) (by omega); cases hp0; cases hp1; refine D1 D2 rfl ?_)
 refine N8 (i := 0) (l' := [tt,ff,ff,ff,ff,ff,ff,ff,ff,ff,ff,ff,ff,ff,ff,ff,ff]) rfl C8 (A4 rfl rfl) rfl (by kernel_rfl) rfl rfl ?_
 refine aL 1 rfl (A4 rfl rfl) rfl ?_
 refine aL 3 rfl (A4 rfl rfl) rfl ?_
 refine aL 5 rfl (A4 rfl rfl) rfl ?_
 refine aP 6 rfl (qM rfl) rfl ?_
 refine A2 2 ?_
 (refine E3 rfl rfl (A10 _ ma mb _ _ _ ⟨by omega, by omega⟩ hma hmb) rfl rfl rfl (fun v GB hleB hh => ?_); obtain ⟨cB, rfl, hrB⟩ := hh; obtain ⟨p7, c7, e7, rfl, _⟩ := hrB.open; have hma' := hma.mono hleB; have hmb' := hmb.mono hleB)
 refine aP 7 rfl (qM rfl) rfl ?_
 refine B3 8 rfl rfl rfl ?_
 refine B3 9 rfl rfl rfl ?_
 refine B3 10 rfl rfl rfl ?_
 refine B3 11 rfl rfl rfl ?_
 refine Q0 (j := 4) (j' := 12) (by kernel_rfl) ?_ ?_
 (refine D9 rfl (D0 rfl rfl rfl (by omega) (by unfold maxLen; omega) rfl) rfl rfl ?_; rintro _ ⟨b215, rfl⟩)
 refine B3 12 rfl rfl rfl ?_
 refine aP 13 rfl (L6 rfl rfl) rfl ?_
 refine aP 14 rfl (qA rfl) rfl ?_
 refine A2 15 ?_
 refine H0 rfl ?_
 refine aP 16 rfl (qA rfl) rfl ?_
 refine C0 (nS ?_)
 (refine I6 Pk.here (fun G5 hle5 hsl5 hno5 => ?_))
 refine tT (rB (rS ?_))
 refine I0 (rT rfl) (rC rfl (A4 rfl rfl)) (rT rfl) ?_
 (have hk1 : k = 6 := (by omega); subst hk1; refine L5.two hsl5 (hrB.mono hle5) (hma'.mono hle5) (hmb'.mono hle5) ?_; rw [mW6]; cases hq : Z8 4 (h.getD 0 B1) with | none => rfl | some q => (rw [hq] at hmi; cases hmi))
 refine A5v (l' := [tt,tt,tt,tt,ff,tt,tt,tt,tt,tt,tt,tt,tt,ff,ff,ff,ff]) rfl rfl rfl rfl ?_
 refine aP 13 rfl (L6 rfl rfl) rfl ?_
 refine A2 4 ?_
 (refine D9 rfl (D0 rfl rfl rfl (by omega) (by unfold maxLen; omega) rfl) rfl rfl ?_; rintro _ ⟨b233, rfl⟩)
 refine aP 14 rfl (qA rfl) rfl ?_
 refine A2 15 ?_
 refine H0 rfl ?_
 refine aP 16 rfl (qA rfl) rfl ?_
 refine C0 (nS ?_)
 (refine I6 Pk.here (fun G5 hle5 hsl5 hno5 => ?_))
 refine tT (rB (rS ?_))
 refine I0 (rT rfl) (rC rfl (A4 rfl rfl)) (rT rfl) ?_
 (have hk1 : k = 6 := (by omega); subst hk1; refine L5.two hsl5 (hrB.mono hle5) (hma'.mono hle5) (hmb'.mono hle5) ?_; rw [mW6]; cases hq : Z8 4 (h.getD 0 B1) with | none => rfl | some q => (rw [hq] at hmi; cases hmi))
 refine J8 ?_
 refine sE (A6 rfl) rfl (fun b250 => ?_)
 refine sE (A6 rfl) rfl (fun b251 => ?_)
 refine H6 ?_
 refine H6 ?_
 refine sQ (qA rfl) rfl (sD (nS (tS ?_)))
 (have hl2 : n = 2 := hop.1 (by omega); obtain ⟨b0, o0, q0, d0, hp0, hat0, hre0, hg0⟩ := hsl.kidD hkl (i := 0) (by omega) (by omega); obtain ⟨b1, o1, q1, d1, hp1, hat1, hre1, hg1⟩ := hsl.kidD hkl (i := 1) (by omega) (by omega); cases hp0; cases hp1; refine D1 D2 rfl ?_)
 refine N8 (i := 0) (l' := [tt,ff,ff,ff,ff,ff,ff,ff,ff,ff,ff,ff,ff,ff,ff,ff,ff]) rfl C8 (A4 rfl rfl) rfl (by kernel_rfl) rfl rfl ?_
 refine aL 1 rfl (A4 rfl rfl) rfl ?_
 refine aL 3 rfl (A4 rfl rfl) rfl ?_
 refine aL 5 rfl (A4 rfl rfl) rfl ?_
 refine aP 6 rfl (qM rfl) rfl ?_
 refine A2 2 ?_
 (refine E3 rfl rfl (A10 _ ma mb _ _ _ ⟨by omega, by omega⟩ hma hmb) rfl rfl rfl (fun v GB hleB hh => ?_); obtain ⟨cB, rfl, hrB⟩ := hh; obtain ⟨p7, c7, e7, rfl, _⟩ := hrB.open; have hma' := hma.mono hleB; have hmb' := hmb.mono hleB)
 refine aP 7 rfl (qM rfl) rfl ?_
 refine aP 8 rfl (qM rfl) rfl ?_
 refine aP 9 rfl (B4 (j := 1) rfl rfl rfl (by omega)) rfl ?_
 refine aL 10 rfl (A3 rfl rfl (At.mono' hleB (hat1 _)) rfl) rfl ?_
 refine aL 11 rfl (A4 rfl rfl) rfl ?_
 refine Q0 (j := 4) (j' := 12) (by kernel_rfl) ?_ ?_
 (refine D9 rfl (D0 rfl rfl rfl (by omega) (by unfold maxLen; omega) rfl) rfl rfl ?_; rintro _ ⟨b272, rfl⟩)
 refine A2 12 ?_
 refine R1 rfl rfl ((Y5 _ _ _ _ _ (hre1.mono hleB) hma')) rfl rfl rfl (fun h274 => ?_) (fun h274 => ?_)
 refine aP 13 rfl (K1 rfl rfl) rfl ?_
 refine aP 14 rfl (qA rfl) rfl ?_
 refine A2 15 ?_
 refine H0 rfl ?_
 refine aP 16 rfl (qA rfl) rfl ?_
 refine C0 (nS ?_)
 (refine I6 Pk.here (fun G5 hle5 hsl5 hno5 => ?_))
 refine tT (rB (rS ?_))
 refine I0 (rT rfl) (rC rfl (A4 rfl rfl)) (rT rfl) ?_
 (have hk1 : k = 6 := (by omega); subst hk1; refine L5.two hsl5 (hrB.mono hle5) (hma'.mono hle5) (hmb'.mono hle5) ?_; rw [mW6]; cases hq : Z8 4 (h.getD 0 B1) with | none => (rw [hq] at hmi; cases hmi) | some q => (have hq2 := hmm q hq; subst hq2; dsimp only; split <;> first | rfl | (exfalso; simp_all; done)))
 refine aP 13 rfl (K1 rfl rfl) rfl ?_
 refine aP 14 rfl (qA rfl) rfl ?_
 refine A2 15 ?_
 refine H0 rfl ?_
 refine aP 16 rfl (qA rfl) rfl ?_
 refine C0 (nS ?_)
 (refine I6 Pk.here (fun G5 hle5 hsl5 hno5 => ?_))
 refine tT (rB (rS ?_))
 refine I0 (rT rfl) (rC rfl (A4 rfl rfl)) (rT rfl) ?_
 (have hk1 : k = 6 := (by omega); subst hk1; refine L5.two hsl5 (hrB.mono hle5) (hma'.mono hle5) (hmb'.mono hle5) ?_; rw [mW6]; cases hq : Z8 4 (h.getD 0 B1) with | none => (rw [hq] at hmi; cases hmi) | some q => (have hq2 := hmm q hq; subst hq2; dsimp only; split <;> first | rfl | (exfalso; simp_all; done)))
 refine R1 rfl rfl ((Y5 _ _ _ _ _ (hre1.mono hleB) hma')) rfl rfl rfl (fun h301 => ?_) (fun h301 => ?_)
 refine aP 13 rfl (K1 rfl rfl) rfl ?_
 refine A2 4 ?_
 (refine D9 rfl (D0 rfl rfl rfl (by omega) (by unfold maxLen; omega) rfl) rfl rfl ?_; rintro _ ⟨b304, rfl⟩)
 refine aP 14 rfl (qA rfl) rfl ?_
 refine A2 15 ?_
 refine H0 rfl ?_
 refine aP 16 rfl (qA rfl) rfl ?_
 refine C0 (nS ?_)
 (refine I6 Pk.here (fun G5 hle5 hsl5 hno5 => ?_))
 refine tT (rB (rS ?_))
 refine I0 (rT rfl) (rC rfl (A4 rfl rfl)) (rT rfl) ?_
 (have hk1 : k = 6 := (by omega); subst hk1; refine L5.two hsl5 (hrB.mono hle5) (hma'.mono hle5) (hmb'.mono hle5) ?_; rw [mW6]; cases hq : Z8 4 (h.getD 0 B1) with | none => (rw [hq] at hmi; cases hmi) | some q => (have hq2 := hmm q hq; subst hq2; dsimp only; split <;> first | rfl | (exfalso; simp_all; done)))
 refine aP 13 rfl (K1 rfl rfl) rfl ?_
 refine A2 4 ?_
 (refine D9 rfl (D0 rfl rfl rfl (by omega) (by unfold maxLen; omega) rfl) rfl rfl ?_; rintro _ ⟨b319, rfl⟩)
 refine aP 14 rfl (qA rfl) rfl ?_
 refine A2 15 ?_
 refine H0 rfl ?_
 refine aP 16 rfl (qA rfl) rfl ?_
 refine C0 (nS ?_)
 (refine I6 Pk.here (fun G5 hle5 hsl5 hno5 => ?_))
 refine tT (rB (rS ?_))
 refine I0 (rT rfl) (rC rfl (A4 rfl rfl)) (rT rfl) ?_
 (have hk1 : k = 6 := (by omega); subst hk1; refine L5.two hsl5 (hrB.mono hle5) (hma'.mono hle5) (hmb'.mono hle5) ?_; rw [mW6]; cases hq : Z8 4 (h.getD 0 B1) with | none => (rw [hq] at hmi; cases hmi) | some q => (have hq2 := hmm q hq; subst hq2; dsimp only; split <;> first | rfl | (exfalso; simp_all; done)))
 refine sQ (qA rfl) rfl (sD (nS (cF rfl (tS (tS (tR ?_))))))
 refine sB (qE rfl rfl) rfl rfl (fun h339 => ?_) (fun h339 => ?_)
 refine I8 ?_
 refine sE (A6 rfl) rfl (fun b350 => ?_)
 refine F8 ?_
 refine sP (E6 rfl rfl (by omega)) rfl rfl ?_
 refine sD (nS (cF rfl (tK (nS (tS ?_)))))
 (have hl2 : n = 2 := hop.1 (by omega); obtain ⟨b0, o0, q0, d0, hp0, hat0, hre0, hg0⟩ := hsl.kidD hkl (i := 0) (by omega) (by omega); obtain ⟨b1, o1, q1, d1, hp1, hat1, hre1, hg1⟩ := hsl.kidD hkl (i := 1) (by omega) (by omega); cases hp0; cases hp1; refine D1 D2 rfl ?_)
 refine N8 (i := 0) (l' := [tt,ff,ff,ff,ff,ff,ff,ff,ff,ff,ff,ff,ff,ff,ff,ff,ff,ff,ff]) rfl C8 (A4 rfl rfl) rfl (by kernel_rfl) rfl rfl ?_
 refine aL 1 rfl (A4 rfl rfl) rfl ?_
 refine aL 3 rfl (A4 rfl rfl) rfl ?_
 refine aP 4 rfl (qM rfl) rfl ?_
 refine aP 5 rfl (B4 (j := 0) rfl rfl rfl (by omega)) rfl ?_
 refine aL 6 rfl (A3 rfl rfl (hat0 _) rfl) rfl ?_
 refine aL 7 rfl (A4 rfl rfl) rfl ?_
 refine Q0 (j := 2) (j' := 8) (by kernel_rfl) ?_ ?_
 (refine D9 rfl (D0 rfl rfl rfl (by omega) (by unfold maxLen; omega) rfl) rfl rfl ?_; rintro _ ⟨b375, rfl⟩)
 refine A2 8 ?_
 refine R1 rfl rfl ((Y5 _ _ _ _ _ hre0 (K8 _))) rfl rfl rfl (fun h377 => ?_) (fun h377 => ?_)
 refine aP 9 rfl (qM rfl) rfl ?_
 refine aP 10 rfl (qM rfl) rfl ?_
 refine aP 11 rfl (B4 (j := 1) rfl rfl rfl (by omega)) rfl ?_
 refine aL 12 rfl (A3 rfl rfl (hat1 _) rfl) rfl ?_
 refine aL 13 rfl (A4 rfl rfl) rfl ?_
 refine A2 14 ?_
 refine R1 rfl rfl ((Y5 _ _ _ _ _ hre1 (K8 _))) rfl rfl rfl (fun h384 => ?_) (fun h384 => ?_)
 refine aP 15 rfl (K1 rfl rfl) rfl ?_
 refine aP 16 rfl (qA rfl) rfl ?_
 refine A2 17 ?_
 refine H0 rfl ?_
 refine aP 18 rfl (qA rfl) rfl ?_
 refine C0 (nS ?_)
 (refine I6 Pk.here (fun G5 hle5 hsl5 hno5 => ?_))
 refine tT (rB (rS ?_))
 refine I0 (rT rfl) (rC rfl (A4 rfl rfl)) (rT rfl) ?_
 (refine L5.two hsl5 (K8 _) (K8 _) (K8 _) ?_; rw [W9 (by omega)]; first | (rw [if_pos ⟨by assumption, by assumption⟩, if_neg (by omega)]; rfl) | (rw [if_neg (fun hc => by first | exact Bool.noConfusion (hc.1.symm.trans (by assumption)) | exact Bool.noConfusion (hc.2.symm.trans (by assumption)) | exact Bool.noConfusion (hc.symm.trans (by assumption)))]; rfl))
 refine aP 15 rfl (K1 rfl rfl) rfl ?_
 refine aP 16 rfl (qA rfl) rfl ?_
 refine A2 17 ?_
 refine H0 rfl ?_
 refine aP 18 rfl (qA rfl) rfl ?_
 refine C0 (nS ?_)
 (refine I6 Pk.here (fun G5 hle5 hsl5 hno5 => ?_))
 refine tT (rB (rS ?_))
 refine I0 (rT rfl) (rC rfl (A4 rfl rfl)) (rT rfl) ?_
 (refine L5.two hsl5 (K8 _) (K8 _) (K8 _) ?_; rw [W9 (by omega)]; first | (rw [if_pos ⟨by assumption, by assumption⟩, if_neg (by omega)]; rfl) | (rw [if_neg (fun hc => by first | exact Bool.noConfusion (hc.1.symm.trans (by assumption)) | exact Bool.noConfusion (hc.2.symm.trans (by assumption)) | exact Bool.noConfusion (hc.symm.trans (by assumption)))]; rfl))
 refine aP 9 rfl (qM rfl) rfl ?_
 refine B3 10 rfl rfl rfl ?_
 refine B3 11 rfl rfl rfl ?_
 refine B3 12 rfl rfl rfl ?_
 refine B3 13 rfl rfl rfl ?_
 refine B3 14 rfl rfl rfl ?_
 refine aP 15 rfl (L6 rfl rfl) rfl ?_
 refine aP 16 rfl (qA rfl) rfl ?_
 refine A2 17 ?_
 refine H0 rfl ?_
 refine aP 18 rfl (qA rfl) rfl ?_
 refine C0 (nS ?_)
 (refine I6 Pk.here (fun G5 hle5 hsl5 hno5 => ?_))
 refine tT (rB (rS ?_))
 refine I0 (rT rfl) (rC rfl (A4 rfl rfl)) (rT rfl) ?_
 (refine L5.two hsl5 (K8 _) (K8 _) (K8 _) ?_; rw [W9 (by omega)]; first | (rw [if_pos ⟨by assumption, by assumption⟩, if_neg (by omega)]; rfl) | (rw [if_neg (fun hc => by first | exact Bool.noConfusion (hc.1.symm.trans (by assumption)) | exact Bool.noConfusion (hc.2.symm.trans (by assumption)) | exact Bool.noConfusion (hc.symm.trans (by assumption)))]; rfl))
 refine R1 rfl rfl ((Y5 _ _ _ _ _ hre0 (K8 _))) rfl rfl rfl (fun h430 => ?_) (fun h430 => ?_)
 refine aP 9 rfl (qM rfl) rfl ?_
 refine aP 10 rfl (qM rfl) rfl ?_
 refine aP 11 rfl (B4 (j := 1) rfl rfl rfl (by omega)) rfl ?_
 refine aL 12 rfl (A3 rfl rfl (hat1 _) rfl) rfl ?_
 refine aL 13 rfl (A4 rfl rfl) rfl ?_
 refine Q0 (j := 2) (j' := 14) (by kernel_rfl) ?_ ?_
 (refine D9 rfl (D0 rfl rfl rfl (by omega) (by unfold maxLen; omega) rfl) rfl rfl ?_; rintro _ ⟨b437, rfl⟩)
 refine A2 14 ?_
 refine R1 rfl rfl ((Y5 _ _ _ _ _ hre1 (K8 _))) rfl rfl rfl (fun h439 => ?_) (fun h439 => ?_)
 refine aP 15 rfl (K1 rfl rfl) rfl ?_
 refine aP 16 rfl (qA rfl) rfl ?_
 refine A2 17 ?_
 refine H0 rfl ?_
 refine aP 18 rfl (qA rfl) rfl ?_
 refine C0 (nS ?_)
 (refine I6 Pk.here (fun G5 hle5 hsl5 hno5 => ?_))
 refine tT (rB (rS ?_))
 refine I0 (rT rfl) (rC rfl (A4 rfl rfl)) (rT rfl) ?_
 (refine L5.two hsl5 (K8 _) (K8 _) (K8 _) ?_; rw [W9 (by omega)]; first | (rw [if_pos ⟨by assumption, by assumption⟩, if_neg (by omega)]; rfl) | (rw [if_neg (fun hc => by first | exact Bool.noConfusion (hc.1.symm.trans (by assumption)) | exact Bool.noConfusion (hc.2.symm.trans (by assumption)) | exact Bool.noConfusion (hc.symm.trans (by assumption)))]; rfl))
 refine aP 15 rfl (K1 rfl rfl) rfl ?_
 refine aP 16 rfl (qA rfl) rfl ?_
 refine A2 17 ?_
 refine H0 rfl ?_
 refine aP 18 rfl (qA rfl) rfl ?_
 refine C0 (nS ?_)
 (refine I6 Pk.here (fun G5 hle5 hsl5 hno5 => ?_))
 refine tT (rB (rS ?_))
 refine I0 (rT rfl) (rC rfl (A4 rfl rfl)) (rT rfl) ?_
 (refine L5.two hsl5 (K8 _) (K8 _) (K8 _) ?_; rw [W9 (by omega)]; first | (rw [if_pos ⟨by assumption, by assumption⟩, if_neg (by omega)]; rfl) | (rw [if_neg (fun hc => by first | exact Bool.noConfusion (hc.1.symm.trans (by assumption)) | exact Bool.noConfusion (hc.2.symm.trans (by assumption)) | exact Bool.noConfusion (hc.symm.trans (by assumption)))]; rfl))
 refine R1 rfl rfl ((Y5 _ _ _ _ _ hre1 (K8 _))) rfl rfl rfl (fun h466 => ?_) (fun h466 => ?_)
 refine aP 15 rfl (K1 rfl rfl) rfl ?_
 refine A2 2 ?_
 (refine D9 rfl (D0 rfl rfl rfl (by omega) (by unfold maxLen; omega) rfl) rfl rfl ?_; rintro _ ⟨b469, rfl⟩)
 refine aP 16 rfl (qA rfl) rfl ?_
 refine A2 17 ?_
 refine H0 rfl ?_
 refine aP 18 rfl (qA rfl) rfl ?_
 refine C0 (nS ?_)
 (refine I6 Pk.here (fun G5 hle5 hsl5 hno5 => ?_))
 refine tT (rB (rS ?_))
 refine I0 (rT rfl) (rC rfl (A4 rfl rfl)) (rT rfl) ?_
 (refine L5.two hsl5 (K8 _) (K8 _) (K8 _) ?_; rw [W9 (by omega)]; first | (rw [if_pos ⟨by assumption, by assumption⟩, if_neg (by omega)]; rfl) | (rw [if_neg (fun hc => by first | exact Bool.noConfusion (hc.1.symm.trans (by assumption)) | exact Bool.noConfusion (hc.2.symm.trans (by assumption)) | exact Bool.noConfusion (hc.symm.trans (by assumption)))]; rfl))
 refine aP 15 rfl (K1 rfl rfl) rfl ?_
 refine A2 2 ?_
 (refine D9 rfl (D0 rfl rfl rfl (by omega) (by unfold maxLen; omega) rfl) rfl rfl ?_; rintro _ ⟨b484, rfl⟩)
 refine aP 16 rfl (qA rfl) rfl ?_
 refine A2 17 ?_
 refine H0 rfl ?_
 refine aP 18 rfl (qA rfl) rfl ?_
 refine C0 (nS ?_)
 (refine I6 Pk.here (fun G5 hle5 hsl5 hno5 => ?_))
 refine tT (rB (rS ?_))
 refine I0 (rT rfl) (rC rfl (A4 rfl rfl)) (rT rfl) ?_
 (refine L5.two hsl5 (K8 _) (K8 _) (K8 _) ?_; rw [W9 (by omega)]; first | (rw [if_pos ⟨by assumption, by assumption⟩, if_neg (by omega)]; rfl) | (rw [if_neg (fun hc => by first | exact Bool.noConfusion (hc.1.symm.trans (by assumption)) | exact Bool.noConfusion (hc.2.symm.trans (by assumption)) | exact Bool.noConfusion (hc.symm.trans (by assumption)))]; rfl))
 refine aP 9 rfl (qM rfl) rfl ?_
 refine B3 10 rfl rfl rfl ?_
 refine B3 11 rfl rfl rfl ?_
 refine B3 12 rfl rfl rfl ?_
 refine B3 13 rfl rfl rfl ?_
 refine Q0 (j := 2) (j' := 14) (by kernel_rfl) ?_ ?_
 (refine D9 rfl (D0 rfl rfl rfl (by omega) (by unfold maxLen; omega) rfl) rfl rfl ?_; rintro _ ⟨b503, rfl⟩)
 refine B3 14 rfl rfl rfl ?_
 refine aP 15 rfl (L6 rfl rfl) rfl ?_
 refine aP 16 rfl (qA rfl) rfl ?_
 refine A2 17 ?_
 refine H0 rfl ?_
 refine aP 18 rfl (qA rfl) rfl ?_
 refine C0 (nS ?_)
 (refine I6 Pk.here (fun G5 hle5 hsl5 hno5 => ?_))
 refine tT (rB (rS ?_))
 refine I0 (rT rfl) (rC rfl (A4 rfl rfl)) (rT rfl) ?_
 (refine L5.two hsl5 (K8 _) (K8 _) (K8 _) ?_; rw [W9 (by omega)]; first | (rw [if_pos ⟨by assumption, by assumption⟩, if_neg (by omega)]; rfl) | (rw [if_neg (fun hc => by first | exact Bool.noConfusion (hc.1.symm.trans (by assumption)) | exact Bool.noConfusion (hc.2.symm.trans (by assumption)) | exact Bool.noConfusion (hc.symm.trans (by assumption)))]; rfl))
 refine A5v (l' := [tt,tt,ff,tt,tt,tt,tt,tt,tt,tt,tt,tt,tt,tt,tt,ff,ff,ff,ff]) rfl rfl rfl rfl ?_
 refine aP 15 rfl (L6 rfl rfl) rfl ?_
 refine A2 2 ?_
 (refine D9 rfl (D0 rfl rfl rfl (by omega) (by unfold maxLen; omega) rfl) rfl rfl ?_; rintro _ ⟨b521, rfl⟩)
 refine aP 16 rfl (qA rfl) rfl ?_
 refine A2 17 ?_
 refine H0 rfl ?_
 refine aP 18 rfl (qA rfl) rfl ?_
 refine C0 (nS ?_)
 (refine I6 Pk.here (fun G5 hle5 hsl5 hno5 => ?_))
 refine tT (rB (rS ?_))
 refine I0 (rT rfl) (rC rfl (A4 rfl rfl)) (rT rfl) ?_
 (refine L5.two hsl5 (K8 _) (K8 _) (K8 _) ?_; rw [W9 (by omega)]; first | (rw [if_pos ⟨by assumption, by assumption⟩, if_neg (by omega)]; rfl) | (rw [if_neg (fun hc => by first | exact Bool.noConfusion (hc.1.symm.trans (by assumption)) | exact Bool.noConfusion (hc.2.symm.trans (by assumption)) | exact Bool.noConfusion (hc.symm.trans (by assumption)))]; rfl))
 refine sQ (qA rfl) rfl (sD (nS (cF rfl (tR ?_))))
 refine sB (qE rfl rfl) rfl rfl (fun h539 => ?_) (fun h539 => ?_)
 refine D5 ?_
 refine sE (A6 rfl) rfl (fun b547 => ?_)
 refine F8 ?_
 refine sP (Q8 rfl rfl (by omega)) rfl rfl ?_
 refine D8 ?_
 (have hl2 : n = 2 := hop.1 (by omega); obtain ⟨b0, o0, q0, d0, hp0, hat0, hre0, hg0⟩ := hsl.kidD hkl (i := 0) (by omega) (by omega); obtain ⟨b1, o1, q1, d1, hp1, hat1, hre1, hg1⟩ := hsl.kidD hkl (i := 1) (by omega) (by omega); cases hp0; cases hp1; refine D1 D2 rfl ?_)
 refine N8 (i := 0) (l' := [tt,ff,ff,ff,ff,ff,ff,ff,ff,ff,ff,ff,ff,ff,ff,ff,ff,ff,ff]) rfl C8 (A4 rfl rfl) rfl (by kernel_rfl) rfl rfl ?_
 refine aL 1 rfl (A4 rfl rfl) rfl ?_
 refine aL 3 rfl (A4 rfl rfl) rfl ?_
 refine aP 4 rfl (qM rfl) rfl ?_
 refine aP 5 rfl (B4 (j := 0) rfl rfl rfl (by omega)) rfl ?_
 refine aL 6 rfl (A3 rfl rfl (hat0 _) rfl) rfl ?_
 refine aL 7 rfl (A4 rfl rfl) rfl ?_
 refine Q0 (j := 2) (j' := 8) (by kernel_rfl) ?_ ?_
 (refine D9 rfl (D0 rfl rfl rfl (by omega) (by unfold maxLen; omega) rfl) rfl rfl ?_; rintro _ ⟨b575, rfl⟩)
 refine A2 8 ?_
 refine R1 rfl rfl ((Y5 _ _ _ _ _ hre0 (K8 _))) rfl rfl rfl (fun h577 => ?_) (fun h577 => ?_)
 refine aP 9 rfl (qM rfl) rfl ?_
 refine aP 10 rfl (qM rfl) rfl ?_
 refine aP 11 rfl (B4 (j := 1) rfl rfl rfl (by omega)) rfl ?_
 refine aL 12 rfl (A3 rfl rfl (hat1 _) rfl) rfl ?_
 refine aL 13 rfl (A4 rfl rfl) rfl ?_
 refine A2 14 ?_
 refine R1 rfl rfl ((Y5 _ _ _ _ _ hre1 (K8 _))) rfl rfl rfl (fun h584 => ?_) (fun h584 => ?_)
 refine aP 15 rfl (K1 rfl rfl) rfl ?_
 refine aP 16 rfl (qA rfl) rfl ?_
 refine A2 17 ?_
 refine H0 rfl ?_
 refine aP 18 rfl (qA rfl) rfl ?_
 refine C0 (nS ?_)
 (refine I6 Pk.here (fun G5 hle5 hsl5 hno5 => ?_))
 refine tT (rB (rS ?_))
 refine I0 (rT rfl) (rC rfl (A4 rfl rfl)) (rT rfl) ?_
 (refine L5.two hsl5 (K8 _) (K8 _) (X0 _) ?_; rw [W9 (by omega)]; first | (rw [if_pos ⟨by assumption, by assumption⟩, if_pos (by omega)]; rfl) | (rw [if_neg (fun hc => by first | exact Bool.noConfusion (hc.1.symm.trans (by assumption)) | exact Bool.noConfusion (hc.2.symm.trans (by assumption)) | exact Bool.noConfusion (hc.symm.trans (by assumption)))]; rfl))
 refine aP 15 rfl (K1 rfl rfl) rfl ?_
 refine aP 16 rfl (qA rfl) rfl ?_
 refine A2 17 ?_
 refine H0 rfl ?_
 refine aP 18 rfl (qA rfl) rfl ?_
 refine C0 (nS ?_)
 (refine I6 Pk.here (fun G5 hle5 hsl5 hno5 => ?_))
 refine tT (rB (rS ?_))
 refine I0 (rT rfl) (rC rfl (A4 rfl rfl)) (rT rfl) ?_
 (refine L5.two hsl5 (K8 _) (K8 _) (X0 _) ?_; rw [W9 (by omega)]; first | (rw [if_pos ⟨by assumption, by assumption⟩, if_pos (by omega)]; rfl) | (rw [if_neg (fun hc => by first | exact Bool.noConfusion (hc.1.symm.trans (by assumption)) | exact Bool.noConfusion (hc.2.symm.trans (by assumption)) | exact Bool.noConfusion (hc.symm.trans (by assumption)))]; rfl))
 refine aP 9 rfl (qM rfl) rfl ?_
 refine B3 10 rfl rfl rfl ?_
 refine B3 11 rfl rfl rfl ?_
 refine B3 12 rfl rfl rfl ?_
 refine B3 13 rfl rfl rfl ?_
 refine B3 14 rfl rfl rfl ?_
 refine aP 15 rfl (L6 rfl rfl) rfl ?_
 refine aP 16 rfl (qA rfl) rfl ?_
 refine A2 17 ?_
 refine H0 rfl ?_
 refine aP 18 rfl (qA rfl) rfl ?_
 refine C0 (nS ?_)
 (refine I6 Pk.here (fun G5 hle5 hsl5 hno5 => ?_))
 refine tT (rB (rS ?_))
 refine I0 (rT rfl) (rC rfl (A4 rfl rfl)) (rT rfl) ?_
 (refine L5.two hsl5 (K8 _) (K8 _) (X0 _) ?_; rw [W9 (by omega)]; first | (rw [if_pos ⟨by assumption, by assumption⟩, if_pos (by omega)]; rfl) | (rw [if_neg (fun hc => by first | exact Bool.noConfusion (hc.1.symm.trans (by assumption)) | exact Bool.noConfusion (hc.2.symm.trans (by assumption)) | exact Bool.noConfusion (hc.symm.trans (by assumption)))]; rfl))
 refine R1 rfl rfl ((Y5 _ _ _ _ _ hre0 (K8 _))) rfl rfl rfl (fun h630 => ?_) (fun h630 => ?_)
 refine aP 9 rfl (qM rfl) rfl ?_
 refine aP 10 rfl (qM rfl) rfl ?_
 refine aP 11 rfl (B4 (j := 1) rfl rfl rfl (by omega)) rfl ?_
 refine aL 12 rfl (A3 rfl rfl (hat1 _) rfl) rfl ?_
 refine aL 13 rfl (A4 rfl rfl) rfl ?_
 refine Q0 (j := 2) (j' := 14) (by kernel_rfl) ?_ ?_
 (refine D9 rfl (D0 rfl rfl rfl (by omega) (by unfold maxLen; omega) rfl) rfl rfl ?_; rintro _ ⟨b637, rfl⟩)
 refine A2 14 ?_
 refine R1 rfl rfl ((Y5 _ _ _ _ _ hre1 (K8 _))) rfl rfl rfl (fun h639 => ?_) (fun h639 => ?_)
 refine aP 15 rfl (K1 rfl rfl) rfl ?_
 refine aP 16 rfl (qA rfl) rfl ?_
 refine A2 17 ?_
 refine H0 rfl ?_
 refine aP 18 rfl (qA rfl) rfl ?_
 refine C0 (nS ?_)
 (refine I6 Pk.here (fun G5 hle5 hsl5 hno5 => ?_))
 refine tT (rB (rS ?_))
 refine I0 (rT rfl) (rC rfl (A4 rfl rfl)) (rT rfl) ?_
 (refine L5.two hsl5 (K8 _) (K8 _) (X0 _) ?_; rw [W9 (by omega)]; first | (rw [if_pos ⟨by assumption, by assumption⟩, if_pos (by omega)]; rfl) | (rw [if_neg (fun hc => by first | exact Bool.noConfusion (hc.1.symm.trans (by assumption)) | exact Bool.noConfusion (hc.2.symm.trans (by assumption)) | exact Bool.noConfusion (hc.symm.trans (by assumption)))]; rfl))
 refine aP 15 rfl (K1 rfl rfl) rfl ?_
 refine aP 16 rfl (qA rfl) rfl ?_
 refine A2 17 ?_
 refine H0 rfl ?_
 refine aP 18 rfl (qA rfl) rfl ?_
 refine C0 (nS ?_)
 (refine I6 Pk.here (fun G5 hle5 hsl5 hno5 => ?_))
 refine tT (rB (rS ?_))
 refine I0 (rT rfl) (rC rfl (A4 rfl rfl)) (rT rfl) ?_
 (refine L5.two hsl5 (K8 _) (K8 _) (X0 _) ?_; rw [W9 (by omega)]; first | (rw [if_pos ⟨by assumption, by assumption⟩, if_pos (by omega)]; rfl) | (rw [if_neg (fun hc => by first | exact Bool.noConfusion (hc.1.symm.trans (by assumption)) | exact Bool.noConfusion (hc.2.symm.trans (by assumption)) | exact Bool.noConfusion (hc.symm.trans (by assumption)))]; rfl))
 refine R1 rfl rfl ((Y5 _ _ _ _ _ hre1 (K8 _))) rfl rfl rfl (fun h666 => ?_) (fun h666 => ?_)
 refine aP 15 rfl (K1 rfl rfl) rfl ?_
 refine A2 2 ?_
 (refine D9 rfl (D0 rfl rfl rfl (by omega) (by unfold maxLen; omega) rfl) rfl rfl ?_; rintro _ ⟨b669, rfl⟩)
 refine aP 16 rfl (qA rfl) rfl ?_
 refine A2 17 ?_
 refine H0 rfl ?_
 refine aP 18 rfl (qA rfl) rfl ?_
 refine C0 (nS ?_)
 (refine I6 Pk.here (fun G5 hle5 hsl5 hno5 => ?_))
 refine tT (rB (rS ?_))
 refine I0 (rT rfl) (rC rfl (A4 rfl rfl)) (rT rfl) ?_
 (refine L5.two hsl5 (K8 _) (K8 _) (X0 _) ?_; rw [W9 (by omega)]; first | (rw [if_pos ⟨by assumption, by assumption⟩, if_pos (by omega)]; rfl) | (rw [if_neg (fun hc => by first | exact Bool.noConfusion (hc.1.symm.trans (by assumption)) | exact Bool.noConfusion (hc.2.symm.trans (by assumption)) | exact Bool.noConfusion (hc.symm.trans (by assumption)))]; rfl))
 refine aP 15 rfl (K1 rfl rfl) rfl ?_
 refine A2 2 ?_
 (refine D9 rfl (D0 rfl rfl rfl (by omega) (by unfold maxLen; omega) rfl) rfl rfl ?_; rintro _ ⟨b684, rfl⟩)
 refine aP 16 rfl (qA rfl) rfl ?_
 refine A2 17 ?_
 refine H0 rfl ?_
 refine aP 18 rfl (qA rfl) rfl ?_
 refine C0 (nS ?_)
 (refine I6 Pk.here (fun G5 hle5 hsl5 hno5 => ?_))
 refine tT (rB (rS ?_))
 refine I0 (rT rfl) (rC rfl (A4 rfl rfl)) (rT rfl) ?_
 (refine L5.two hsl5 (K8 _) (K8 _) (X0 _) ?_; rw [W9 (by omega)]; first | (rw [if_pos ⟨by assumption, by assumption⟩, if_pos (by omega)]; rfl) | (rw [if_neg (fun hc => by first | exact Bool.noConfusion (hc.1.symm.trans (by assumption)) | exact Bool.noConfusion (hc.2.symm.trans (by assumption)) | exact Bool.noConfusion (hc.symm.trans (by assumption)))]; rfl))
 refine aP 9 rfl (qM rfl) rfl ?_
 refine B3 10 rfl rfl rfl ?_
 refine B3 11 rfl rfl rfl ?_
 refine B3 12 rfl rfl rfl ?_
 refine B3 13 rfl rfl rfl ?_
 refine Q0 (j := 2) (j' := 14) (by kernel_rfl) ?_ ?_
 (refine D9 rfl (D0 rfl rfl rfl (by omega) (by unfold maxLen; omega) rfl) rfl rfl ?_; rintro _ ⟨b703, rfl⟩)
 refine B3 14 rfl rfl rfl ?_
 refine aP 15 rfl (L6 rfl rfl) rfl ?_
 refine aP 16 rfl (qA rfl) rfl ?_
 refine A2 17 ?_
 refine H0 rfl ?_
 refine aP 18 rfl (qA rfl) rfl ?_
 refine C0 (nS ?_)
 (refine I6 Pk.here (fun G5 hle5 hsl5 hno5 => ?_))
 refine tT (rB (rS ?_))
 refine I0 (rT rfl) (rC rfl (A4 rfl rfl)) (rT rfl) ?_
 (refine L5.two hsl5 (K8 _) (K8 _) (X0 _) ?_; rw [W9 (by omega)]; first | (rw [if_pos ⟨by assumption, by assumption⟩, if_pos (by omega)]; rfl) | (rw [if_neg (fun hc => by first | exact Bool.noConfusion (hc.1.symm.trans (by assumption)) | exact Bool.noConfusion (hc.2.symm.trans (by assumption)) | exact Bool.noConfusion (hc.symm.trans (by assumption)))]; rfl))
 refine A5v (l' := [tt,tt,ff,tt,tt,tt,tt,tt,tt,tt,tt,tt,tt,tt,tt,ff,ff,ff,ff]) rfl rfl rfl rfl ?_
 refine aP 15 rfl (L6 rfl rfl) rfl ?_
 refine A2 2 ?_
 (refine D9 rfl (D0 rfl rfl rfl (by omega) (by unfold maxLen; omega) rfl) rfl rfl ?_; rintro _ ⟨b721, rfl⟩)
 refine aP 16 rfl (qA rfl) rfl ?_
 refine A2 17 ?_
 refine H0 rfl ?_
 refine aP 18 rfl (qA rfl) rfl ?_
 refine C0 (nS ?_)
 (refine I6 Pk.here (fun G5 hle5 hsl5 hno5 => ?_))
 refine tT (rB (rS ?_))
 refine I0 (rT rfl) (rC rfl (A4 rfl rfl)) (rT rfl) ?_
 (refine L5.two hsl5 (K8 _) (K8 _) (X0 _) ?_; rw [W9 (by omega)]; first | (rw [if_pos ⟨by assumption, by assumption⟩, if_pos (by omega)]; rfl) | (rw [if_neg (fun hc => by first | exact Bool.noConfusion (hc.1.symm.trans (by assumption)) | exact Bool.noConfusion (hc.2.symm.trans (by assumption)) | exact Bool.noConfusion (hc.symm.trans (by assumption)))]; rfl))
 refine sQ (qA rfl) rfl (sD (nS (cF rfl (tS (tR ?_)))))
 refine sB (qE rfl rfl) rfl rfl (fun h740 => ?_) (fun h740 => ?_)
 refine sQ (qA rfl) rfl (sD (nS (qT rfl (tS (tS ?_)))))
 (have hl3 : n = 3 := hop.2.1 (by omega); obtain ⟨b0, o0, q0, d0, hp0, hat0, hre0, hg0⟩ := hsl.kidD hkl (i := 0) (by omega) (by omega); obtain ⟨b1, o1, q1, d1, hp1, hat1, hre1, hg1⟩ := hsl.kidD hkl (i := 1) (by omega) (by omega); cases hp0; cases hp1; obtain ⟨b2, o2, q2, d2, hp2, hat2, hre2, hg2⟩ := hsl.kidD hkl (i := 2) (by omega) (by omega); cases hp2; refine D1 D2 rfl ?_)
 refine I4 (i := 0) (l' := [tt,ff,ff,ff,ff,ff,ff,ff,ff,ff,ff,ff,ff,ff,ff,ff]) rfl C8 (qM rfl) rfl (by kernel_rfl) rfl rfl ?_
 refine aP 1 rfl (B4 (j := 0) rfl rfl rfl (by omega)) rfl ?_
 refine aL 2 rfl (A3 rfl rfl (hat0 _) rfl) rfl ?_
 refine aL 3 rfl (A4 rfl rfl) rfl ?_
 refine A2 4 ?_
 refine R1 rfl rfl ((Y5 _ _ _ _ _ hre0 (X0 _))) rfl rfl rfl (fun h753 => ?_) (fun h753 => ?_)
 refine aP 5 rfl (Q5 rfl) rfl ?_
 refine aP 6 rfl (qM rfl) rfl ?_
 refine aP 7 rfl (qM rfl) rfl ?_
 refine aP 8 rfl (B4 (j := 1) rfl rfl rfl (by omega)) rfl ?_
 refine aL 9 rfl (A3 rfl rfl (hat1 _) rfl) rfl ?_
 refine aP 10 rfl (qM rfl) rfl ?_
 refine aP 11 rfl (B4 (j := 2) rfl rfl rfl (by omega)) rfl ?_
 refine aL 12 rfl (A3 rfl rfl (hat2 _) rfl) rfl ?_
 refine A2 13 ?_
 refine R1 rfl rfl ((Y5 _ _ _ _ _ hre1 hre2)) rfl rfl rfl (fun h763 => ?_) (fun h763 => ?_)
 refine aP 14 rfl (Q5 rfl) rfl ?_
 refine aP 15 rfl (L6 rfl rfl) rfl ?_
 refine C0 (nS (cF rfl (tK (nS (tS ?_)))))
 (have hl3 : n = 3 := hop.2.1 (by omega); obtain ⟨b0, o0, q0, d0, hp0, hat0, hre0, hg0⟩ := hsl.kidD hkl (i := 0) (by omega) (by omega); obtain ⟨b1, o1, q1, d1, hp1, hat1, hre1, hg1⟩ := hsl.kidD hkl (i := 1) (by omega) (by omega); cases hp0; cases hp1; obtain ⟨b2, o2, q2, d2, hp2, hat2, hre2, hg2⟩ := hsl.kidD hkl (i := 2) (by omega) (by omega); cases hp2; refine D1 D2 rfl ?_)
 refine I4 (i := 0) (l' := [tt,ff,ff,ff,ff,ff,ff,ff,ff]) rfl C8 (qM rfl) rfl (by kernel_rfl) rfl rfl ?_
 refine aP 1 rfl (B4 (j := 1) rfl rfl rfl (by omega)) rfl ?_
 refine aL 2 rfl (A3 rfl rfl (hat1 _) rfl) rfl ?_
 refine aP 3 rfl (qM rfl) rfl ?_
 refine aP 4 rfl (B4 (j := 2) rfl rfl rfl (by omega)) rfl ?_
 refine aL 5 rfl (A3 rfl rfl (hat2 _) rfl) rfl ?_
 refine Q0 (j := 6) (j' := 7) (by kernel_rfl) ?_ ?_
 (refine E3 rfl rfl (A82 _ _ _ _ _ (by assumption) (A21 har (by omega)) (A21 har (by omega)) hre1 hre2) rfl rfl rfl (fun v GM hleM hh => ?_); obtain ⟨cM, rfl, hrM⟩ := hh; obtain ⟨p7, c7, e7, rfl, _⟩ := hrM.open)
 refine A2 7 ?_
 (refine D9 rfl (A6 rfl) rfl rfl ?_; rintro _ ⟨b782, rfl⟩)
 refine A2 8 ?_
 refine H0 rfl ?_
 refine C0 (nS (tS ?_))
 (have hl3 : n = 3 := hop.2.1 (by omega); obtain ⟨b0, o0, q0, d0, hp0, hat0, hre0, hg0⟩ := hsl.kidD hkl (i := 0) (by omega) (by omega); obtain ⟨b1, o1, q1, d1, hp1, hat1, hre1, hg1⟩ := hsl.kidD hkl (i := 1) (by omega) (by omega); cases hp0; cases hp1; obtain ⟨b2, o2, q2, d2, hp2, hat2, hre2, hg2⟩ := hsl.kidD hkl (i := 2) (by omega) (by omega); cases hp2; refine D1 D2 rfl ?_)
 refine N8 (i := 0) (l' := [tt,ff,ff,ff,ff,ff,ff,ff]) rfl C8 (A4 rfl rfl) rfl (by kernel_rfl) rfl rfl ?_
 refine aL 1 rfl (A4 rfl rfl) rfl ?_
 refine aL 2 rfl (A4 rfl rfl) rfl ?_
 refine aL 4 rfl (A4 rfl rfl) rfl ?_
 refine A2 3 ?_
 (refine D9 rfl (D0 rfl rfl rfl (by omega) (by unfold maxLen; omega) rfl) rfl rfl ?_; rintro _ ⟨b794, rfl⟩)
 refine aP 5 rfl (qA rfl) rfl ?_
 refine A2 6 ?_
 refine H0 rfl ?_
 refine aP 7 rfl (qA rfl) rfl ?_
 refine C0 (nS ?_)
 (refine I6 Pk.here (fun G5 hle5 hsl5 hno5 => ?_))
 refine tT (rB (rS ?_))
 refine I0 (rT rfl) (rC rfl (A4 rfl rfl)) (rT rfl) ?_
 (have hk1 : k = 9 := (by omega); subst hk1; exact L5.three hsl5 (X0 _) (hrM.mono hle5) (hrM.mono hle5) (hrM.mono hle5) (by rw [mW9, if_pos ⟨by assumption, by assumption⟩]; rfl))
 (refine D9 rfl (A6 rfl) rfl rfl ?_; rintro _ ⟨b807, rfl⟩)
 refine A2 6 ?_
 (refine E3 rfl rfl (A82 _ _ _ _ _ (by assumption) (A21 har (by omega)) (A21 har (by omega)) hre1 hre2) rfl rfl rfl (fun v GM hleM hh => ?_); obtain ⟨cM, rfl, hrM⟩ := hh; obtain ⟨p7, c7, e7, rfl, _⟩ := hrM.open)
 refine A2 8 ?_
 refine H0 rfl ?_
 refine C0 (nS (tS ?_))
 (have hl3 : n = 3 := hop.2.1 (by omega); obtain ⟨b0, o0, q0, d0, hp0, hat0, hre0, hg0⟩ := hsl.kidD hkl (i := 0) (by omega) (by omega); obtain ⟨b1, o1, q1, d1, hp1, hat1, hre1, hg1⟩ := hsl.kidD hkl (i := 1) (by omega) (by omega); cases hp0; cases hp1; obtain ⟨b2, o2, q2, d2, hp2, hat2, hre2, hg2⟩ := hsl.kidD hkl (i := 2) (by omega) (by omega); cases hp2; refine D1 D2 rfl ?_)
 refine N8 (i := 0) (l' := [tt,ff,ff,ff,ff,ff,ff,ff]) rfl C8 (A4 rfl rfl) rfl (by kernel_rfl) rfl rfl ?_
 refine aL 1 rfl (A4 rfl rfl) rfl ?_
 refine aL 2 rfl (A4 rfl rfl) rfl ?_
 refine aL 4 rfl (A4 rfl rfl) rfl ?_
 refine A2 3 ?_
 (refine D9 rfl (D0 rfl rfl rfl (by omega) (by unfold maxLen; omega) rfl) rfl rfl ?_; rintro _ ⟨b821, rfl⟩)
 refine aP 5 rfl (qA rfl) rfl ?_
 refine A2 6 ?_
 refine H0 rfl ?_
 refine aP 7 rfl (qA rfl) rfl ?_
 refine C0 (nS ?_)
 (refine I6 Pk.here (fun G5 hle5 hsl5 hno5 => ?_))
 refine tT (rB (rS ?_))
 refine I0 (rT rfl) (rC rfl (A4 rfl rfl)) (rT rfl) ?_
 (have hk1 : k = 9 := (by omega); subst hk1; exact L5.three hsl5 (X0 _) (hrM.mono hle5) (hrM.mono hle5) (hrM.mono hle5) (by rw [mW9, if_pos ⟨by assumption, by assumption⟩]; rfl))
 refine aP 14 rfl (pNf rfl) rfl ?_
 refine aP 15 rfl (L6 rfl rfl) rfl ?_
 refine K0 ?_
 refine I0 (rT rfl) (rC rfl (A4 rfl rfl)) (rT rfl) ?_
 (have hk1 : k = 9 := (by omega); subst hk1; exact L5.nil (u := B1) (K5 _ ⟨by omega, by omega⟩) (by rw [mW9, if_neg (fun hc => by first | exact Bool.noConfusion (hc.1.symm.trans (by assumption)) | exact Bool.noConfusion (hc.2.symm.trans (by assumption)) | exact Bool.noConfusion (hc.symm.trans (by assumption)))]; rfl))
 refine aP 5 rfl (pNf rfl) rfl ?_
 refine aP 6 rfl (qM rfl) rfl ?_
 refine B3 7 rfl rfl rfl ?_
 refine B3 8 rfl rfl rfl ?_
 refine B3 9 rfl rfl rfl ?_
 refine B3 10 rfl rfl rfl ?_
 refine B3 11 rfl rfl rfl ?_
 refine B3 12 rfl rfl rfl ?_
 refine B3 13 rfl rfl rfl ?_
 refine B3 14 rfl rfl rfl ?_
 refine aP 15 rfl (K1 rfl rfl) rfl ?_
 refine K0 ?_
 refine I0 (rT rfl) (rC rfl (A4 rfl rfl)) (rT rfl) ?_
 (have hk1 : k = 9 := (by omega); subst hk1; exact L5.nil (u := B1) (K5 _ ⟨by omega, by omega⟩) (by rw [mW9, if_neg (fun hc => by first | exact Bool.noConfusion (hc.1.symm.trans (by assumption)) | exact Bool.noConfusion (hc.2.symm.trans (by assumption)) | exact Bool.noConfusion (hc.symm.trans (by assumption)))]; rfl))
 refine sQ (qA rfl) rfl (sD (nS (cF rfl (tS (tR ?_)))))
 refine sB (qE rfl rfl) rfl rfl (fun h887 => ?_) (fun h887 => ?_)
 refine sQ (qA rfl) rfl (sD (nS (qT rfl (tS ?_))))
 (have hl2 : n = 2 := hop.1 (by omega); obtain ⟨b0, o0, q0, d0, hp0, hat0, hre0, hg0⟩ := hsl.kidD hkl (i := 0) (by omega) (by omega); obtain ⟨b1, o1, q1, d1, hp1, hat1, hre1, hg1⟩ := hsl.kidD hkl (i := 1) (by omega) (by omega); cases hp0; cases hp1; refine D1 D2 rfl ?_)
 refine I4 (i := 0) (l' := [tt,ff,ff,ff,ff,ff,ff,ff,ff,ff]) rfl C8 (qM rfl) rfl (by kernel_rfl) rfl rfl ?_
 refine aP 1 rfl (B4 (j := 0) rfl rfl rfl (by omega)) rfl ?_
 refine aL 2 rfl (A3 rfl rfl (hat0 _) rfl) rfl ?_
 refine aP 3 rfl (qM rfl) rfl ?_
 refine aP 4 rfl (B4 (j := 1) rfl rfl rfl (by omega)) rfl ?_
 refine aL 5 rfl (A3 rfl rfl (hat1 _) rfl) rfl ?_
 refine A2 6 ?_
 (refine E3 rfl rfl (A10 5 _ _ _ _ _ ⟨by omega, by omega⟩ hre0 hre1) rfl rfl rfl (fun v GB hleB hh => ?_); obtain ⟨cB, rfl, hrB⟩ := hh; obtain ⟨p7, c7, e7, rfl, _⟩ := hrB.open)
 refine aP 7 rfl (qA rfl) rfl ?_
 refine A2 8 ?_
 refine H0 rfl ?_
 refine aP 9 rfl (qA rfl) rfl ?_
 refine C0 (nS (tT (rB (rS ?_))))
 refine I0 (rT rfl) (rC rfl (A4 rfl rfl)) (rT rfl) ?_
 (have hk1 : k = 10 := (by omega); subst hk1; exact L5.nil hrB A9r)
 refine sQ (qA rfl) rfl (sD (nS (cF rfl (tS (tR ?_)))))
 refine sB (qE rfl rfl) rfl rfl (fun h919 => ?_) (fun h919 => ?_)
 refine sQ (qA rfl) rfl (sD (nS (qT rfl (tS ?_))))
 (have hl1 : n = 1 := hop.2.2 (by omega); obtain ⟨b0, o0, q0, d0, hp0, hat0, hre0, hg0⟩ := hsl.kidD hkl (i := 0) (by omega) (by omega); cases hp0; refine D1 D2 rfl ?_)
 refine I4 (i := 0) (l' := [tt,ff,ff,ff,ff,ff,ff,ff,ff,ff,ff,ff,ff,ff]) rfl C8 (B5 rfl) rfl (by kernel_rfl) rfl rfl ?_
 refine aL 1 rfl (A4 rfl rfl) rfl ?_
 refine aP 3 rfl (B5 rfl) rfl ?_
 refine aL 4 rfl (A4 rfl rfl) rfl ?_
 refine aP 5 rfl (qM rfl) rfl ?_
 refine aP 6 rfl (B4 (j := 0) rfl rfl rfl (by omega)) rfl ?_
 refine aL 7 rfl (A3 rfl rfl (hat0 _) rfl) rfl ?_
 refine aP 8 rfl (B5 rfl) rfl ?_
 refine aL 9 rfl (A4 rfl rfl) rfl ?_
 refine Q0 (j := 2) (j' := 10) (by kernel_rfl) ?_ ?_
 (refine D9 rfl (D0 rfl rfl rfl (by omega) (by unfold maxLen; omega) rfl) rfl rfl ?_; rintro _ ⟨b936, rfl⟩)
 refine A2 10 ?_
 refine R1 rfl rfl ((Y5 _ _ _ _ _ hre0 hrty)) rfl rfl rfl (fun h938 => ?_) (fun h938 => ?_)
 refine aP 11 rfl (qA rfl) rfl ?_
 refine A2 12 ?_
 refine H0 rfl ?_
 refine aP 13 rfl (qA rfl) rfl ?_
 refine C0 (nS ?_)
 (refine I6 Pk.here (fun G5 hle5 hsl5 hno5 => ?_))
 refine tT (rB (rS ?_))
 refine I0 (rT rfl) (rC rfl (A4 rfl rfl)) (rT rfl) ?_
 (have hk1 : k = 13 := (by omega); subst hk1; refine L5.one hsl5 (hrty.mono hle5) (hrty.mono hle5) ?_; rw [A3Q]; split <;> first | rfl | (exfalso; simp_all; done))
 refine aP 11 rfl (qA rfl) rfl ?_
 refine A2 12 ?_
 refine H0 rfl ?_
 refine aP 13 rfl (qA rfl) rfl ?_
 refine C0 (nS ?_)
 (refine I6 Pk.here (fun G5 hle5 hsl5 hno5 => ?_))
 refine tT (rB (rS ?_))
 refine I0 (rT rfl) (rC rfl (A4 rfl rfl)) (rT rfl) ?_
 (have hk1 : k = 13 := (by omega); subst hk1; refine L5.one hsl5 (hrty.mono hle5) (hrty.mono hle5) ?_; rw [A3Q]; split <;> first | rfl | (exfalso; simp_all; done))
 refine R1 rfl rfl ((Y5 _ _ _ _ _ hre0 hrty)) rfl rfl rfl (fun h963 => ?_) (fun h963 => ?_)
 refine A2 2 ?_
 (refine D9 rfl (D0 rfl rfl rfl (by omega) (by unfold maxLen; omega) rfl) rfl rfl ?_; rintro _ ⟨b965, rfl⟩)
 refine aP 11 rfl (qA rfl) rfl ?_
 refine A2 12 ?_
 refine H0 rfl ?_
 refine aP 13 rfl (qA rfl) rfl ?_
 refine C0 (nS ?_)
 (refine I6 Pk.here (fun G5 hle5 hsl5 hno5 => ?_))
 refine tT (rB (rS ?_))
 refine I0 (rT rfl) (rC rfl (A4 rfl rfl)) (rT rfl) ?_
 (have hk1 : k = 13 := (by omega); subst hk1; refine L5.one hsl5 (hrty.mono hle5) (hrty.mono hle5) ?_; rw [A3Q]; split <;> first | rfl | (exfalso; simp_all; done))
 refine A2 2 ?_
 (refine D9 rfl (D0 rfl rfl rfl (by omega) (by unfold maxLen; omega) rfl) rfl rfl ?_; rintro _ ⟨b979, rfl⟩)
 refine aP 11 rfl (qA rfl) rfl ?_
 refine A2 12 ?_
 refine H0 rfl ?_
 refine aP 13 rfl (qA rfl) rfl ?_
 refine C0 (nS ?_)
 (refine I6 Pk.here (fun G5 hle5 hsl5 hno5 => ?_))
 refine tT (rB (rS ?_))
 refine I0 (rT rfl) (rC rfl (A4 rfl rfl)) (rT rfl) ?_
 (have hk1 : k = 13 := (by omega); subst hk1; refine L5.one hsl5 (hrty.mono hle5) (hrty.mono hle5) ?_; rw [A3Q]; split <;> first | rfl | (exfalso; simp_all; done))
 refine I8 ?_
 (have hk11 : k = 11 ∨ k = 12 := (by omega); have hl1 : n = 1 := hop.2.2 (by omega); obtain ⟨b0, o0, q0, d0, hp0, hat0, hre0, hg0⟩ := hsl.kidD hkl (i := 0) (by omega) (by omega); cases hp0; refine sP (B4 (j := 0) rfl rfl rfl (by omega)) rfl rfl ?_)
 refine sL (A3 rfl rfl (hat0 _) rfl) rfl rfl ?_
 (refine D7 rfl (A81 5 (h.getD 0 B1) G _ (.inr rfl) (A21 har (by omega)) hre0) rfl rfl (fun v G1 hle1 hh => ?_); obtain ⟨ma, mca, mb, mcb, rfl, hma, hmb, hma2, hmb2, hmm⟩ := hh; obtain ⟨p1, c1, e1, rfl, _⟩ := hma.open; obtain ⟨p2, c2, e2, rfl, _⟩ := hmb.open)
 refine J8 ?_
 refine sE (A6 rfl) rfl (fun b1009 => ?_)
 refine sE (A6 rfl) rfl (fun b1010 => ?_)
 refine F8 ?_
 refine sE (A6 rfl) rfl (fun b1019 => ?_)
 refine F8 ?_
 refine sB (qE rfl rfl) rfl rfl (fun h1028 => ?_) (fun h1028 => ?_)
 refine D8 ?_
 (have hl1 : n = 1 := hop.2.2 (by omega); obtain ⟨b0, o0, q0, d0, hp0, hat0, hre0, hg0⟩ := hsl.kidD hkl (i := 0) (by omega) (by omega); cases hp0; refine D1 D2 rfl ?_)
 refine N8 (i := 0) (l' := [tt,ff,ff,ff,ff,ff,ff,ff,ff]) rfl C8 (A4 rfl rfl) rfl (by kernel_rfl) rfl rfl ?_
 refine aL 1 rfl (A4 rfl rfl) rfl ?_
 refine aL 4 rfl (A4 rfl rfl) rfl ?_
 refine aP 5 rfl (qM rfl) rfl ?_
 refine A2 2 ?_
 (refine E3 rfl rfl (A10 _ ma mb _ _ _ ⟨by omega, by omega⟩ hma hmb) rfl rfl rfl (fun v GB hleB hh => ?_); obtain ⟨cB, rfl, hrB⟩ := hh; obtain ⟨p7, c7, e7, rfl, _⟩ := hrB.open; have hma' := hma.mono hleB; have hmb' := hmb.mono hleB)
 refine A2 3 ?_
 (refine D9 rfl (D0 rfl rfl rfl (by omega) (by unfold maxLen; omega) rfl) rfl rfl ?_; rintro _ ⟨b1046, rfl⟩)
 refine aP 6 rfl (qA rfl) rfl ?_
 refine A2 7 ?_
 refine H0 rfl ?_
 refine aP 8 rfl (qA rfl) rfl ?_
 refine C0 (nS ?_)
 (refine I6 Pk.here (fun G5 hle5 hsl5 hno5 => ?_))
 refine tT ?_
 refine I0 (rT rfl) (rC rfl (A4 rfl rfl)) (rT rfl) ?_
 (refine L5.one hsl5 (hrB.mono hle5) (hmb'.mono hle5) ?_; rw [A6l (by omega)]; cases hq : Z8 5 (h.getD 0 B1) with | none => rfl | some q => (have hq2 := hmm q hq; subst hq2; dsimp only; rw [if_pos (by omega)]; rfl))
 refine sD (nS (cF rfl (tK (nS (tS ?_)))))
 (have hl1 : n = 1 := hop.2.2 (by omega); obtain ⟨b0, o0, q0, d0, hp0, hat0, hre0, hg0⟩ := hsl.kidD hkl (i := 0) (by omega) (by omega); cases hp0; refine D1 D2 rfl ?_)
 refine N8 (i := 0) (l' := [tt,ff,ff,ff,ff,ff,ff,ff,ff]) rfl C8 (A4 rfl rfl) rfl (by kernel_rfl) rfl rfl ?_
 refine aL 1 rfl (A4 rfl rfl) rfl ?_
 refine aL 4 rfl (A4 rfl rfl) rfl ?_
 refine aP 5 rfl (qM rfl) rfl ?_
 refine A2 2 ?_
 (refine E3 rfl rfl (A10 _ ma mb _ _ _ ⟨by omega, by omega⟩ hma hmb) rfl rfl rfl (fun v GB hleB hh => ?_); obtain ⟨cB, rfl, hrB⟩ := hh; obtain ⟨p7, c7, e7, rfl, _⟩ := hrB.open; have hma' := hma.mono hleB; have hmb' := hmb.mono hleB)
 refine A2 3 ?_
 (refine D9 rfl (D0 rfl rfl rfl (by omega) (by unfold maxLen; omega) rfl) rfl rfl ?_; rintro _ ⟨b1071, rfl⟩)
 refine aP 6 rfl (qA rfl) rfl ?_
 refine A2 7 ?_
 refine H0 rfl ?_
 refine aP 8 rfl (qA rfl) rfl ?_
 refine C0 (nS ?_)
 (refine I6 Pk.here (fun G5 hle5 hsl5 hno5 => ?_))
 refine tT ?_
 refine I0 (rT rfl) (rC rfl (A4 rfl rfl)) (rT rfl) ?_
 (refine L5.one hsl5 (hrB.mono hle5) (hma'.mono hle5) ?_; rw [A6l (by omega)]; cases hq : Z8 5 (h.getD 0 B1) with | none => rfl | some q => (have hq2 := hmm q hq; subst hq2; dsimp only; rw [if_neg (by omega)]; rfl))
theorem A6m {cx : Cx} : ∀ {ks : List Tm} {i : Nat} {us : List Ty} {u : Ty} (hi : i < ks.length), K3 cx (ks.take i) = some us → B9 cx ks[i] = some u → K3 cx (ks.take (i + 1)) = some (us ++ [u])
 | [], i, us, u, hi, _, _ => by simp at hi
 | t :: ts, 0, us, u, hi, h, h2 => by
  simp only [List.take_zero, K3] at h
  cases h
  simp only [List.getElem_cons_zero] at h2
  simp [K3, h2]
 | t :: ts, i + 1, us, u, hi, h, h2 => by
  simp only [List.take_succ_cons, K3] at h ⊢
  simp only [List.getElem_cons_succ] at h2
  split at h
  ·cases h
  ·rename_i v hv
   split at h
   ·cases h
   ·rename_i vs hvs
    cases h
    rw [A6m (by simpa using hi) hvs h2]
    rfl
theorem A6n {cx : Cx} : ∀ {ks : List Tm} {i : Nat} (hi : i < ks.length), B9 cx ks[i] = none → K3 cx ks = none
 | [], i, hi, _ => by simp at hi
 | t :: ts, 0, hi, h2 => by
  simp only [List.getElem_cons_zero] at h2
  simp [K3, h2]
 | t :: ts, i + 1, hi, h2 => by
  simp only [List.getElem_cons_succ] at h2
  have := A6n (ks := ts) (i := i) (by simpa using hi) h2
  rw [K3, this]
  split <;> rfl
theorem A9s {cx : Cx} {k : Int} {nm : ByteArray} {ty : Ty} {h w : List Ty} {t : Ty} (he : W0 cx k nm ty h = some (w, t)) : M5 t = true ∧ O7 cx k nm ty h = some (w, t) := by
 unfold W0 at he
 split at he
 ·rename_i w' t' hw
  split at he
  ·cases he; exact ⟨by assumption, hw⟩
  ·cases he
 ·cases he
theorem A4P {cx : Cx} {k : Int} {nm : ByteArray} {num : Int} {ty fr : Ty} {lb : Int} {ks : List Tm} {t : Ty} (h14 : k = 14 → M5 ty = true) (h : B9 cx (.mk k nm num ty fr lb ks) = some t) : M5 t = true := by
 rw [B9] at h
 split at h
 ·cases h
 ·split at h
  ·rename_i hk
   split at h
   ·cases h; exact h14 hk
   ·cases h
  ·split at h
   ·cases h
   ·rename_i w u hw
    split at h
    ·cases h; exact (A9s hw).1
    ·cases h
theorem A6o {cx : Cx} {e : Tm} {D N d : Int} {t : Ty} (hv : L4 D N e d = true) (h : B9 cx e = some t) : D4 t := by
 obtain ⟨k, nm, num, ty, fr, lb, ks⟩ := e
 have hn := X8.1 (Z9 hv).2.2.1
 exact (A4E (A4P (fun hk => hn.2.2.2.2.2.1 (by omega)) h)).1
theorem B3O {cx : Cx} {k : Int} {nm : ByteArray} {ty : Ty} {h w : List Ty} {t : Ty} (hop : (k = 6 ∨ k = 7 ∨ k = 8 ∨ k = 10 → h.length = 2) ∧ (k = 9 → h.length = 3) ∧ (k = 5 ∨ k = 11 ∨ k = 12 ∨ k = 13 → h.length = 1)) (hk : 1 ≤ k ∧ k ≤ 14) (h14 : k ≠ 14) (he : O7 cx k nm ty h = some (w, t)) : w.length ≤ h.length := by
 have hkk : k = 1 ∨ k = 2 ∨ (k = 3 ∨ k = 4) ∨ k = 5 ∨ k = 6 ∨ (k = 7 ∨ k = 8) ∨ k = 9 ∨ k = 10 ∨ (k = 11 ∨ k = 12) ∨ k = 13 := by omega
 rcases hkk with rfl | rfl | hk | rfl | rfl | hk | rfl | rfl | hk | rfl
 ·rw [mW1] at he; split at he <;> cases he; simp
 ·rw [mW2] at he; cases he; simp
 ·rw [A6k hk] at he; cases he; simp
 ·rw [mW5] at he; cases he; simp
 ·rw [mW6] at he
  split at he
  ·split at he <;> cases he
   have := hop.1 (by omega); simp [this]
  ·cases he
 ·rw [W9 hk] at he
  split at he <;> cases he
  have := hop.1 (by omega); simp [this]
 ·rw [mW9] at he
  split at he <;> cases he
  have := hop.2.1 (by omega); simp [this]
 ·rw [A9r] at he; cases he; simp
 ·rw [A6l hk] at he
  split at he
  ·cases he; have := hop.2.2 (by omega); simp [this]
  ·cases he
 ·rw [A3Q] at he
  split at he <;> cases he
  have := hop.2.2 (by omega); simp [this]
theorem B3P {w h : List Ty} {i : Nat} (hw : i < w.length) (hh : i < h.length) (hs : H7 w[i] h[i] = true) : R4 (w.drop i) (h.drop i) = R4 (w.drop (i + 1)) (h.drop (i + 1)) := by
 rw [List.drop_eq_getElem_cons hw, List.drop_eq_getElem_cons hh, R4, hs, Bool.true_and]
theorem B3Q {w h : List Ty} {i : Nat} (hw : i < w.length) (hh : i < h.length) (hs : H7 w[i] h[i] = false) : R4 (w.drop i) (h.drop i) = false := by
 rw [List.drop_eq_getElem_cons hw, List.drop_eq_getElem_cons hh, R4, hs, Bool.false_and]
theorem B3R {w h : List Ty} {i : Nat} (hw : i = w.length) : R4 (w.drop i) (h.drop i) = true := by
 subst hw; rw [List.drop_length, R4]
theorem S7.snoc {G G' : IM} {cx : Cx} {n : Nat} {p' : Option Addr} {c' : Nat} {es : List (List Value)} {e : List Value} {nm : ByteArray} {t : Ty} (h1 : n = cx.length) (hl : es.length = n) (h2 : ∀ x ∈ es, x.length = 3) (h3 : ∀ x ∈ es, x.all (·.oneCell') = true)
  (h4 : ∀ (i : Nat) (b : ByteArray × Ty), cx[i]? = some b → ∃ e, es[i]? = some e ∧ A2X G b e) (hg : B8 G G') (he : A2X G' (nm, t) e) (hs : Sl G' p' (n + 1) c' 3 (es.flatten ++ e)) : S7 G' (cx ++ [(nm, t)]) p' (n + 1) c' := by
 have hel : e.length = 3 ∧ e.all (·.oneCell') = true := by obtain ⟨q, d, rfl, _⟩ := he; exact ⟨rfl, rfl⟩
 refine ⟨by simp [h1], es ++ [e], C9.of (by simpa using hs) (by simp [hl]) ?_ ?_, ?_⟩
 ·simp only [List.forall_mem_append, List.forall_mem_singleton]; exact ⟨h2, hel.1⟩
 ·simp only [List.forall_mem_append, List.forall_mem_singleton]; exact ⟨h3, hel.2⟩
 ·intro i b hb
  rw [List.getElem?_append] at hb ⊢
  split at hb
  ·rename_i hi
   obtain ⟨e', he', hr⟩ := h4 i b hb
   rw [if_pos (by omega)]
   exact ⟨e', he', hr.mono hg⟩
  ·rename_i hi
   have : i - cx.length = 0 := by
    apply Classical.byContradiction; intro hc
    rw [List.getElem?_eq_none (by simp; omega)] at hb; cases hb
   rw [this] at hb
   simp only [List.getElem?_cons_zero, Option.some.injEq] at hb
   subst hb
   rw [if_neg (by omega)]
   exact ⟨e, by rw [show i - es.length = 0 by omega]; rfl, he⟩
theorem B3S (G : IM) (p : Option Addr) (n c : Nat) (es : List (List Value)) (h : C9 G p n c 3 es) (hn : n ≤ 4294967296) :
  Fn Tryz.prog 116 [.slice p n c] [] G (fun G' v outs => G' = G ∧ ∃ p' c', v = .slice p' n c' ∧ outs = [.slc p' c' 93 3 n es.flatten]) := by
 have hp := h.sl.nn
 have hS := h.sl
 have hone : ∀ u ∈ es.flatten, u.oneCell' = true := by
  intro u hu
  obtain ⟨e, he, hue⟩ := List.mem_flatten.1 hu
  exact List.all_eq_true.1 (h.one e he) u hue
 refine B6 Tryz.func116 rfl Tryz.ntmps116 Tryz.results116 rfl ?_
 intro w0
 cases p with
 | none =>
  obtain rfl := hp rfl
  obtain rfl : es = [] := List.length_eq_zero_iff.1 h.len
  refine Y3 93 3 ?_
  refine D8 ?_
  refine sQ (B1y rfl rfl rfl) rfl ?_
  refine I8 ?_
  refine I1 (rT rfl) A1.refl ?_
  exact ⟨rfl, _, _, rfl, rfl⟩
 | some a =>
  refine D8 ?_
  refine sQ (A7m rfl rfl rfl) rfl ?_
  refine sD (nS (cF rfl (tK (nS (tS (tR ?_))))))
  (refine K7 (D0 rfl rfl rfl (by omega) (by unfold maxLen; omega) rfl) rfl ?_; rintro _ ⟨b18, rfl⟩)
  refine sQ (qM rfl) rfl ?_
  refine B2N rfl rfl rfl rfl rfl (fun _ _ => by repeat (first | exact Sw.here | apply Sw.there)) hS hone (Nat.zero_le _) (by unfold maxLen; omega) (by omega) rfl (fun pn cn => ?_)
  refine sQ (qA rfl) rfl (sD (nS (tT ?_)))
  refine I1 (rT rfl) A1.refl ?_
  exact ⟨rfl, _, _, by rw [Nat.zero_add], by rw [Nat.zero_add]; rfl⟩
theorem V6.no {r : Option Ty} {G G' : IM} {cu : List Value} {u : Ty} {b : Bool} (hu : B2 G' u cu) (hb : b = false) (h : r = none) : V6 r G G' (.tuple ⟨[.agg ⟨cu⟩, .bool b]⟩) [] := by
 subst hb h
 exact ⟨rfl, cu, u, rfl, hu, by simp⟩
theorem V6.yes {r : Option Ty} {G G' : IM} {cu : List Value} {u : Ty} {b : Bool} (hu : B2 G' u cu) (hb : b = true) (h : r = some u) : V6 r G G' (.tuple ⟨[.agg ⟨cu⟩, .bool b]⟩) [] := by
 subst hb h
 exact ⟨rfl, cu, u, rfl, hu, fun t ht => by cases ht; rfl⟩
section
variable {cx : Cx} {k : Int} {nm : ByteArray} {num : Int} {ty fr : Ty} {lb : Int} {ks : List Tm}
theorem A9t (h : K3 (N3 cx k nm ty) ks = none) : B9 cx (.mk k nm num ty fr lb ks) = none := by rw [B9, h]
theorem A9u {us : List Ty} (h : K3 (N3 cx k nm ty) ks = some us) (hk : k = 14) {b : Bool} (hb : H7 (us.getD 0 B1) fr = b) : B9 cx (.mk k nm num ty fr lb ks) = if b = true then some ty else none := by
 rw [B9, h]; simp only [hk, if_true, hb]
theorem A9v {us : List Ty} (h : K3 (N3 cx k nm ty) ks = some us) (hk : k ≠ 14) (hn : W0 cx k nm ty us = none) : B9 cx (.mk k nm num ty fr lb ks) = none := by
 rw [B9, h]; simp only [hk, if_false, hn]
theorem A9w {us w : List Ty} {t : Ty} (h : K3 (N3 cx k nm ty) ks = some us) (hk : k ≠ 14) (hn : W0 cx k nm ty us = some (w, t)) {b : Bool} (hb : R4 w us = b) : B9 cx (.mk k nm num ty fr lb ks) = if b = true then some t else none := by
 rw [B9, h]; simp only [hk, if_false, hn, hb]
theorem A6p {us w : List Ty} {t : Ty} (h : O7 cx k nm ty us = some (w, t)) {b : Bool} (hb : M5 t = b) : W0 cx k nm ty us = if b = true then some (w, t) else none := by
 unfold W0; rw [h]; simp only [hb]
theorem B3T {us : List Ty} (h : O7 cx k nm ty us = none) : W0 cx k nm ty us = none := by
 unfold W0; rw [h]
end
theorem B3U : ∀ (e : Tm) (d : Int) (cx : Cx) (G : IM) (pc : Option Addr) (nc cc : Nat) (cells : List Value), L4 40 13 e d = true → (nc : Int) ≤ d → S7 G cx pc nc cc → A8 G e cells →
  Fn Tryz.prog 49 [.slice pc nc cc, .agg ⟨cells⟩] [] G (V6 (B9 cx e) G) := by
 refine Tm.ind fun k nm num ty fr lb ks ih d cx G pc nc cc cells hv hnd hx hr => ?_
 have hr0 := hr
 have hone := hr.one
 obtain ⟨hv1, hv2, hv3, hv4⟩ := Z9 hv
 have hvk := (A06 40 13 ks _).1 hv4
 have har := (X8.1 hv3).1
 have hop := A2t har
 obtain ⟨hta, hts⟩ := A2V hv3
 have hkr : 1 ≤ k ∧ k ≤ 14 := by
  apply Classical.byContradiction
  intro hc
  rw [A3w hc] at har; omega
 have h14 : k = 14 → ks.length = 1 := by
  rintro rfl
  have : D3 14 = 1 := rfl
  omega
 obtain ⟨tk, tks⟩ := ty
 obtain ⟨fk, fks⟩ := fr
 obtain ⟨pt, ct, pf, cf, q, cq, es, rfl, hk, hnum, hlb, hty, hfr, hsl, hkl⟩ := hr.open9
 have hlen : ks.length ≤ 3 := by have := A1F k; omega
 obtain ⟨hx1, esx, hx2, hx3⟩ := id hx
 have hcl := B3S G pc nc cc esx hx2 (by omega)
 refine B6 Tryz.func49 rfl Tryz.ntmps49 Tryz.results49 rfl ?_
 intro w0
 refine tS (tR ?_)
 refine sE (C4 rfl rfl) rfl (fun b3 => ?_)
 refine sE (A6 rfl) rfl (fun b4 => ?_)
 refine I8 ?_
 (show J5 _ _ (.seq (.region 2 _ _) (.cond (.tmp 20) _ _)) _ _; refine A0q (fun (x : Option Addr × Nat × Nat × IM) => ⟨[(6, .slice x.1 x.2.1 x.2.2.1), (0, .slice pc nc cc), (3, .pointer (some ⟨b3, 0, none⟩)), (4, .pointer (some ⟨b4, 0, none⟩))], [.blk b4 [.int .i64 0, .slice none 0 0], .blk b3 [.int .i64 k, .string nm, .int .i64 num, .int .i64 tk, .slice pt tks.length ct, .int .i64 fk, .slice pf fks.length cf, .int .i64 lb, .slice q ks.length cq]], x.2.2.2⟩) (fun x => B8 G x.2.2.2 ∧ S7 x.2.2.2 (N3 cx k nm (.mk tk tks)) x.1 x.2.1 x.2.2.1 ∧ x.2.1 ≤ nc + 1) ?_ ?_)
 refine tS (tR (sQ (B5 rfl) rfl (sL (C7 rfl rfl) rfl rfl ?_)))
 refine sB (qE rfl rfl) rfl rfl (fun h20 => ?_) (fun h20 => ?_)
 refine sD (nS (qT rfl ?_))
 refine D1 D2 rfl ?_
 refine I4 (i := 0) (l' := [tt,ff,ff,ff,ff,ff,ff,ff,ff,ff]) rfl C8 (qM rfl) rfl (by kernel_rfl) rfl rfl ?_
 refine aP 2 rfl (B5 rfl) rfl ?_
 refine aL 3 rfl (C7 rfl rfl) rfl ?_
 refine aP 4 rfl (B5 rfl) rfl ?_
 refine aL 5 rfl (A4 rfl rfl) rfl ?_
 refine aP 6 rfl (Q9 rfl rfl) rfl ?_
 refine Q0 (j := 1) (j' := 7) (by kernel_rfl) ?_ ?_
 (refine A5u rfl rfl hcl rfl rfl rfl (fun v32 G32 outs32 hle32 h32 => ?_); obtain ⟨hG, p1, c1, rfl, rfl⟩ := h32; replace hG := hG.symm; subst hG)
 replace hr := hr.mono hle32
 replace hr0 := hr0.mono hle32
 replace hty := hty.mono hle32
 replace hfr := hfr.mono hle32
 replace hsl := hsl.mono hle32
 replace hkl := hkl.mono hle32
 replace hx2 := hx2.mono hle32
 refine A2 7 ?_
 (refine D9 rfl (D0 rfl rfl rfl (by omega) (by unfold maxLen; omega) rfl) rfl rfl ?_; rintro _ ⟨b34, rfl⟩)
 refine A2 8 ?_
 (refine V8 rfl rfl rfl rfl rfl rfl (fun _ _ => by repeat (first | exact Sw.here | apply Sw.there)) (R9 (by repeat first | exact mH | apply mT)) rfl (by simp [Value.oneCell']) (by unfold maxLen; omega) (by omega) rfl rfl (by repeat (first | exact A9.nil | apply A9.dep (by decide +kernel) | apply A9.blk (by decide +kernel) (by repeat (first | exact Pk.here | apply Pk.there)) (by repeat first | exact mH | apply mT))) (fun p5 c5 => ?_); refine A3s (cs := esx.flatten ++ [.string nm, .int .i64 tk, .slice pt tks.length ct]) (by repeat (first | exact Pk.here | apply Pk.there)) (fun Gf hleF hslF hnoF => ?_); have hxF := S7.snoc (nm := nm) (t := .mk tk tks) hx1 hx2.len hx2.all hx2.one hx3 hleF ⟨_, _, rfl, hty.mono hleF⟩ hslF)
 refine aP 9 rfl (qA rfl) rfl ?_
 refine C0 ?_
 refine Q2 (p5, nc + 1, c5, Gf) (O9 (by repeat (first | exact H8.nil | refine H8.cons rfl ?_)) (by repeat (first | exact A1.refl | exact A1.nil | refine A1.cons (by repeat (first | exact Pk.here | apply Pk.there)) ?_ | apply A1.drop))) ⟨hleF, by (dsimp only; rw [N3, if_pos (by omega)]; exact hxF), by (dsimp only; omega)⟩
 (refine D9 rfl (D0 rfl rfl rfl (by omega) (by unfold maxLen; omega) rfl) rfl rfl ?_; rintro _ ⟨b40, rfl⟩)
 refine A2 1 ?_
 (refine A5u rfl rfl hcl rfl rfl rfl (fun v42 G42 outs42 hle42 h42 => ?_); obtain ⟨hG, p1, c1, rfl, rfl⟩ := h42; replace hG := hG.symm; subst hG)
 replace hr := hr.mono hle42
 replace hr0 := hr0.mono hle42
 replace hty := hty.mono hle42
 replace hfr := hfr.mono hle42
 replace hsl := hsl.mono hle42
 replace hkl := hkl.mono hle42
 replace hx2 := hx2.mono hle42
 refine A2 8 ?_
 (refine V8 rfl rfl rfl rfl rfl rfl (fun _ _ => by repeat (first | exact Sw.here | apply Sw.there)) (R9 (by repeat first | exact mH | apply mT)) rfl (by simp [Value.oneCell']) (by unfold maxLen; omega) (by omega) rfl rfl (by repeat (first | exact A9.nil | apply A9.dep (by decide +kernel) | apply A9.blk (by decide +kernel) (by repeat (first | exact Pk.here | apply Pk.there)) (by repeat first | exact mH | apply mT))) (fun p5 c5 => ?_); refine A3s (cs := esx.flatten ++ [.string nm, .int .i64 tk, .slice pt tks.length ct]) (by repeat (first | exact Pk.here | apply Pk.there)) (fun Gf hleF hslF hnoF => ?_); have hxF := S7.snoc (nm := nm) (t := .mk tk tks) hx1 hx2.len hx2.all hx2.one hx3 hleF ⟨_, _, rfl, hty.mono hleF⟩ hslF)
 refine aP 9 rfl (qA rfl) rfl ?_
 refine C0 ?_
 refine Q2 (p5, nc + 1, c5, Gf) (O9 (by repeat (first | exact H8.nil | refine H8.cons rfl ?_)) (by repeat (first | exact A1.refl | exact A1.nil | refine A1.cons (by repeat (first | exact Pk.here | apply Pk.there)) ?_ | apply A1.drop))) ⟨hleF, by (dsimp only; rw [N3, if_pos (by omega)]; exact hxF), by (dsimp only; omega)⟩
 refine sD (nS (cF rfl (tK ?_)))
 refine Q2 (pc, nc, cc, G) (O9 (by repeat (first | exact H8.nil | refine H8.cons rfl ?_)) (by repeat (first | exact A1.refl | exact A1.nil | refine A1.cons (by repeat (first | exact Pk.here | apply Pk.there)) ?_ | apply A1.drop))) ⟨B8.refl _, by (dsimp only; rw [N3, if_neg (by omega)]; exact hx), by (dsimp only; omega)⟩
 (rintro ⟨p6, n6, c6, Gx⟩ ⟨hleX, hxX, hn6⟩; simp only [] at hleX hxX hn6 ⊢; replace hsl := hsl.mono hleX; replace hkl := hkl.mono hleX; replace hx := hx.mono hleX; replace hr0 := hr0.mono hleX; replace hty := hty.mono hleX; replace hfr := hfr.mono hleX)
 refine O0 ?_
 refine C3 ?_
 (refine Y3 25 2 ?_; refine M6 (fun (x : Nat × Option Addr × Nat × List Ty × List (List Value) × IM) => ⟨[(33, .int .i64 x.1), (32, .int .i64 ks.length), (31, .slice q ks.length cq), (7, .slice x.2.1 x.1 x.2.2.1), (6, .slice p6 n6 c6), (0, .slice pc nc cc), (3, .pointer (some ⟨b3, 0, none⟩)), (4, .pointer (some ⟨b4, 0, none⟩))], [.slc x.2.1 x.2.2.1 25 2 x.1 x.2.2.2.2.1.flatten, .blk b4 [.int .i64 0, .slice none 0 0], .blk b3 [.int .i64 k, .string nm, .int .i64 num, .int .i64 tk, .slice pt tks.length ct, .int .i64 fk, .slice pf fks.length cf, .int .i64 lb, .slice q ks.length cq]], x.2.2.2.2.2⟩) (fun x => x.1 ≤ ks.length ∧ B8 Gx x.2.2.2.2.2 ∧ x.2.2.2.1.length = x.1 ∧ E0 x.2.2.2.2.2 x.2.2.2.1 x.2.2.2.2.1 ∧ (∀ u ∈ x.2.2.2.1, D4 u) ∧ K3 (N3 cx k nm (.mk tk tks)) (ks.take x.1) = some x.2.2.2.1) (fun x => ks.length - x.1) (0, none, 0, [], [], Gx) ?_ ?_ ?_)
 (simp only [K4]; exact E1)
 (exact ⟨by simp, B8.refl _, rfl, by simp [E0], by simp, by simp [K3]⟩)
 (rintro ⟨i, pn, cn, us, es', Gi⟩ ⟨hi, hle, hlu, hst, hau, hct⟩; simp only [] at hi hle hlu hst hau hct ⊢; replace hsl := hsl.mono hle; replace hkl := hkl.mono hle; replace hx := hx.mono hle; replace hxX := hxX.mono hle; replace hr0 := hr0.mono hle; replace hty := hty.mono hle; replace hfr := hfr.mono hle)
 refine tS (tR ?_)
 refine sB (M2 rfl rfl) rfl rfl (fun h75 => ?_) (fun h75 => ?_)
 refine sD (nS (tS (qT rfl (tK (nS (tS ?_))))))
 refine C3 ?_
 refine tS (tR ?_)
 (obtain ⟨b, o, e, rfl, hl, hat, hre, hgb⟩ := hsl.kidTm hkl (i := i) (by omega) (by omega); have hon := hre.one; refine sP (B4 rfl rfl rfl (by omega)) rfl rfl ?_)
 refine sL (A3 rfl rfl (hat _) hl) rfl rfl ?_
 refine sE (A6 rfl) rfl (fun b88 => ?_)
 refine sS rfl rfl rfl hl hon rfl ?_ (hu := by exact C1 hl.symm)
 refine sD (nS (tS (tR (sQ (qM rfl) rfl ?_))))
 refine sL (A3 rfl rfl (A7 (by repeat first | exact mH | apply mT)) hl) rfl rfl ?_
 (refine D7 rfl (ih ks[i] (List.getElem_mem (by omega)) (d + 1) _ Gi p6 n6 c6 _ (hvk i (by omega)) (by omega) hxX hre) rfl rfl (fun v G2 hle2 hh => ?_); obtain ⟨uc, u, rfl, hru, hu⟩ := hh; obtain ⟨p3, c3, e3, rfl, _⟩ := hru.open; rcases hcu : B9 (N3 cx k nm (Ty.mk tk tks)) ks[i] with _ | u2)
 refine H9 ?_
 refine sE (A6 rfl) rfl (fun b100 => ?_)
 refine A2h ?_
 refine C5 (rC rfl (A4 rfl rfl)) (rT rfl) ?_
 (exact V6.no (u := B1) (K5 _ ⟨by omega, by omega⟩) rfl (A9t (A6n (by omega) hcu)))
 refine H9 ?_
 refine sE (A6 rfl) rfl (fun b132 => ?_)
 refine P7 ?_
 (refine K7 (D0 rfl rfl rfl (by omega) (by unfold maxLen; omega) rfl) rfl ?_; rintro _ ⟨b150, rfl⟩)
 refine A1S rfl rfl rfl rfl rfl (fun _ _ => by repeat (first | exact Sw.here | apply Sw.there)) (R9 (by repeat first | exact mH | apply mT)) rfl (by simp [Value.oneCell']) (by unfold maxLen; omega) (by omega) rfl (fun pn' cn' => ?_)
 refine sQ (qA rfl) rfl (sD (O2 (nS (tR ?_))))
 refine sP (M8 rfl rfl (by omega) (by omega)) rfl rfl ?_
 refine sQ (qM rfl) rfl (sD ?_)
 (obtain rfl := hu u2 hcu; refine L8 (i + 1, pn', cn', us ++ [u], es' ++ [[.int .i64 u.k, .slice p3 u.ks.length c3]], G2) ?_ ?_ ?_)
 (simp only [K4]; exact E1)
 (dsimp only; exact ⟨by omega, hle.trans hle2, by simp [hlu], E0.snoc (hst.mono hle2) hru, A1Z hau (A6o (hvk i (by omega)) hcu), A6m (by omega) hct hcu⟩)
 (show ks.length - (i + 1) < ks.length - i; omega)
 refine O0 ?_
 refine sB (qE rfl rfl) rfl rfl (fun h178 => ?_) (fun h178 => ?_)
 refine sD (nS (qT rfl (tS ?_)))
 (have hk14 : k = 14 := (by omega); have hl1 := h14 hk14; obtain rfl : i = ks.length := (by omega); refine A0l (cs := es'.flatten) Pk.here (fun G3 hle3 hsl3 hno3 => ?_); have hst3 := hst.mono hle3; have hslU : C9 G3 pn ks.length cn 2 es' := C9.of hsl3 (by rw [hst3.len, hlu]) hst3.all (fun e he => (hst3.each e he).2); obtain ⟨b0, o0, q0, d0, hp0, hat0, hre0, hg0⟩ := hslU.kidD hst3 (i := 0) (by omega) (by omega); cases hp0; have hfr0 := hfr.mono hle3; have hty0 := hty.mono hle3; refine D1 D2 rfl ?_)
 refine I4 (i := 0) (l' := [tt,ff,ff,ff,ff,ff,ff,ff,ff,ff]) rfl C8 (B5 rfl) rfl (by kernel_rfl) rfl rfl ?_
 refine aL 1 rfl (A4 rfl rfl) rfl ?_
 refine aP 2 rfl (qM rfl) rfl ?_
 refine aP 3 rfl (B4 (j := 0) rfl rfl rfl (by omega)) rfl ?_
 refine aL 4 rfl (A3 rfl rfl (hat0 _) rfl) rfl ?_
 refine aP 5 rfl (B5 rfl) rfl ?_
 refine aL 6 rfl (A4 rfl rfl) rfl ?_
 refine A2 7 ?_
 refine R1 rfl rfl ((A2W _ _ _ _ _ hre0 hfr0)) rfl rfl rfl (fun h192 => ?_) (fun h192 => ?_)
 refine A2 8 ?_
 refine H0 rfl ?_
 refine aP 9 rfl (qA rfl) rfl ?_
 refine C0 (nS (tT (rS ?_)))
 refine C5 (rC rfl (A4 rfl rfl)) (rT rfl) ?_
 (exact V6.yes (hty0) rfl ((A9u (by rw [List.take_length] at hct; exact hct) hk14 (by assumption)).trans rfl))
 refine A2 8 ?_
 refine H0 rfl ?_
 refine aP 9 rfl (qA rfl) rfl ?_
 refine C0 (nS (tT (rS ?_)))
 refine C5 (rC rfl (A4 rfl rfl)) (rT rfl) ?_
 (exact V6.no (hty0) rfl ((A9u (by rw [List.take_length] at hct; exact hct) hk14 (by assumption)).trans rfl))
 refine I8 ?_
 focus (obtain rfl : i = ks.length := (by omega); have hk14 : k ≠ 14 := (by omega); refine U1 (cs := es'.flatten) Pk.here (fun G3 hle3 hsl3 hno3 => ?_); have hst3 := hst.mono hle3; have hslU : C9 G3 pn ks.length cn 2 es' := C9.of hsl3 (by rw [hst3.len, hlu]) hst3.all (fun e he => (hst3.each e he).2); refine D7 rfl (B3N cx k nm num (.mk tk tks) (.mk fk fks) lb ks us G3 pc nc cc _ pn ks.length cn es' (hx.mono hle3) har hlu.symm hk14 hta (hr0.mono hle3) hslU hst3 hau) rfl rfl (fun v G4 hle4 hh => ?_); obtain ⟨pw, nw, cw, ew, w, wc, wt, rfl, hnw, hslw, hstw, hrt, hw⟩ := hh; obtain ⟨p3, c3, e3, rfl, _⟩ := hrt.open; replace hst3 := hst3.mono hle4; replace hslU := hslU.mono hle4; rcases hmw : O7 cx k nm (Ty.mk tk tks) us with _ | ⟨w2, t2⟩; rotate_left; have hwe := hw _ hmw; simp only [Prod.mk.injEq] at hwe; obtain ⟨rfl, rfl⟩ := hwe; rw [List.take_length] at hct; have hwl := B3O (by rw [hlu]; exact hop) hkr hk14 hmw; rotate_left)
 refine J8 ?_
 refine sE (A6 rfl) rfl (fun b226 => ?_)
 refine A7B ?_
 refine C5 (rC rfl (A4 rfl rfl)) (rT rfl) ?_
 (exact V6.no (u := B1) (K5 _ ⟨by omega, by omega⟩) rfl (A9v (by rw [List.take_length] at hct; exact hct) hk14 (B3T hmw)))
 refine J8 ?_
 refine sE (A6 rfl) rfl (fun b260 => ?_)
 refine N2 ?_
 refine F4 rfl ((A4u _ _ _ hrt)) rfl rfl (fun h273 => ?_) (fun h273 => ?_)
 refine K0 ?_
 refine C3 ?_
 (have hslw2 := hslw; refine M6 (fun (i : Nat) => ⟨[(80, .int .i64 i), (79, .int .i64 nw), (78, .slice pw nw cw), (7, .slice pn ks.length cn), (13, .pointer (some ⟨b260, 0, none⟩)), (4, .pointer (some ⟨b4, 0, none⟩))], [.blk b260 [.int .i64 t2.k, .slice p3 t2.ks.length c3], .blk b4 [.int .i64 0, .slice none 0 0]], G4⟩) (fun i => i ≤ nw ∧ R4 w2 us = R4 (w2.drop i) (us.drop i)) (fun i => nw - i) 0 ?_ ?_ ?_)
 exact E1
 (exact ⟨Nat.zero_le _, rfl⟩)
 (rintro j ⟨hj, hsm⟩)
 refine tS (tR ?_)
 refine sB (M2 rfl rfl) rfl rfl (fun h296 => ?_) (fun h296 => ?_)
 refine sD (nS (tS (qT rfl (tK (nS (tS ?_))))))
 refine C3 ?_
 refine tS (tR (sQ (qM rfl) rfl ?_))
 (obtain ⟨b, o, q5, d5, hp5, hat, hrw, hgb⟩ := hslw.kidTy hstw (i := j) (by omega) (by omega); cases hp5; obtain ⟨b0, o0, q0, d0, hp0, hat0, hre0, hg0⟩ := hslU.kidTy hst3 (i := j) (by omega) (by omega); cases hp0; refine sP (B4 rfl rfl rfl (by omega)) rfl rfl ?_)
 refine sL (A3 rfl rfl (hat _) rfl) rfl rfl ?_
 refine sE (A6 rfl) rfl (fun b310 => ?_)
 refine sQ (qA rfl) rfl (H6 ?_)
 refine sD (nS (tS ?_))
 refine D1 D2 rfl ?_
 refine N8 (i := 0) (l' := [tt,ff,ff,ff,ff,ff,ff]) rfl C8 (A4 rfl rfl) rfl (by kernel_rfl) rfl rfl ?_
 refine aP 1 rfl (qM rfl) rfl ?_
 refine aP 2 rfl (qM rfl) rfl ?_
 refine aP 3 rfl (B4 (j := j) rfl rfl rfl (by omega)) rfl ?_
 refine aL 4 rfl (A3 rfl rfl (hat0 _) rfl) rfl ?_
 refine A2 5 ?_
 refine R1 rfl rfl ((A2W _ _ _ _ _ hrw hre0)) rfl rfl rfl (fun h323 => ?_) (fun h323 => ?_)
 refine aP 6 rfl (Q5 rfl) rfl ?_
 refine C0 (nS (cF rfl (tK (O2 (nS (tR ?_))))))
 refine sP (M8 rfl rfl (by omega) (by omega)) rfl rfl ?_
 refine sQ (qM rfl) rfl (sD ?_)
 refine L8 (j + 1) ?_ ?_ ?_
 exact E1
 (show j + 1 ≤ nw ∧ R4 w2 us = R4 (List.drop (j + 1) w2) (List.drop (j + 1) us); exact ⟨by omega, hsm.trans (B3P (by omega) (by omega) (by assumption))⟩)
 (show nw - (j + 1) < nw - j; omega)
 refine aP 6 rfl (pNf rfl) rfl ?_
 refine M9 ?_
 refine C5 (rC rfl (A4 rfl rfl)) (rT rfl) ?_
 (exact V6.no (u := B1) (K5 _ ⟨by omega, by omega⟩) rfl (A9w hct hk14 (A6p hmw (b := true) (by assumption)) (b := false) (hsm.trans (B3Q (by omega) (by omega) (by assumption)))))
 refine P7 ?_
 refine C5 (rC rfl (A4 rfl rfl)) (rT rfl) ?_
 (exact V6.yes hrt rfl (A9w hct hk14 (A6p hmw (b := true) (by assumption)) (b := true) (hsm.trans (B3R (by omega)))))
 refine O0 ?_
 refine C5 (rC rfl (A4 rfl rfl)) (rT rfl) ?_
 (exact V6.no (u := B1) (K5 _ ⟨by omega, by omega⟩) rfl (A9v hct hk14 (A6p hmw (b := false) (by assumption))))
def A14 (r : Tm) : Tm × Bool := if I3 r = true then (r, true) else (I9, false)
theorem A1j {r : Tm} (h : I3 r = true) : A14 r = (r, true) := if_pos h
theorem A1k {r : Tm} (h : I3 r = false) : A14 r = (I9, false) := if_neg (by rw [h]; simp)
def B6Q (t : Tm) (path : List Int) (x : Tm) : Tm × Bool := if I3 t = true ∧ I3 x = true ∧ tAt t path ≠ none then A14 (A8P t path x) else (I9, false)
theorem A9x (r : Tm) (G : IM) (cells : List Value) (hs : r.small) (hr : A8 G r cells) : Fn Tryz.prog 85 [.agg ⟨cells⟩] [] G (TbP (A14 r) G) := by
 have hl := hr.len
 have hone := hr.one
 have hv := A2m r G cells hr
 refine B6 Tryz.func85 rfl Tryz.ntmps85 Tryz.results85 rfl ?_
 intro w0
 refine tS (tR ?_)
 refine sE (C4 rfl rfl) rfl (fun b3 => ?_)
 refine sE (A6 rfl) rfl (fun b4 => ?_)
 refine sQ (qA rfl) rfl (sD (nS (tS (tS (tR ?_)))))
 refine sL (A3 rfl rfl (A7 (by repeat first | exact mH | apply mT)) (by assumption)) rfl rfl ?_
 refine F4 rfl (hv) rfl rfl (fun h12 => ?_) (fun h12 => ?_)
 refine sQ (Q5 rfl) rfl (sD (nS (cF rfl (tK (nS (tS (tR ?_)))))))
 refine sL (A3 rfl rfl (A7 (by repeat first | exact mH | apply mT)) (by assumption)) rfl rfl ?_
 (refine D7 rfl (A5N r G cells hs hr) rfl rfl (fun v G3 hle3 hh => ?_); obtain ⟨cells', F', rfl, hs', hnd'⟩ := hh; have hl' := hs'.R.len; have ho' := hs'.R.one)
 refine sS rfl rfl rfl hl' ho' rfl ?_ (hu := by exact C1 hl'.symm)
 refine sQ (qA rfl) rfl (sD (nS (tT ?_)))
 refine C5 (rC rfl (A3 rfl rfl (A7 (by repeat first | exact mH | apply mT)) hl')) (rT rfl) ?_
 exact TbP.mk (A1j (by assumption)) hs' hnd'
 refine J4 ?_
 refine C5 (rC rfl (A4 rfl rfl)) (rT rfl) ?_
 exact TbP.mk (A1k (by assumption)) (P6.zero _) (by simp)
theorem A9y (cy : Cx) (nm : ByteArray) : ∀ (cx : Cx) (n : Nat), n ≤ cx.length → ∀ t, V2 cx nm n = some t → V2 (cy ++ cx) nm (cy.length + n) = some t
 | cx, 0, _, t, h => by rw [V2] at h; cases h
 | cx, n + 1, hn, t, h => by
  have hb : cx[n]? = some cx[n] := List.getElem?_eq_getElem (by omega)
  have hb2 : (cy ++ cx)[cy.length + n]? = some (cx[n].1, cx[n].2) := by
   rw [List.getElem?_append_right (by omega), show cy.length + n - cy.length = n by omega]; exact hb
  by_cases he : cx[n].1 = nm
  ·rw [A2Q (x := cx[n].1) (t := cx[n].2) hb he] at h
   rw [← Nat.add_assoc, A2Q hb2 he]; exact h
  ·rw [A2R (x := cx[n].1) (t := cx[n].2) hb he] at h
   rw [← Nat.add_assoc, A2R hb2 he]
   exact A9y cy nm cx n (by omega) t h
theorem B3V {cy cx : Cx} {nm : ByteArray} {t : Ty} (h : P2 cx nm = some t) : P2 (cy ++ cx) nm = some t := by
 unfold P2 at h ⊢
 rw [List.length_append]
 exact A9y cy nm cx _ (Nat.le_refl _) t h
theorem B3W {cy cx : Cx} {k : Int} {nm : ByteArray} {ty : Ty} {h : List Ty} {r : List Ty × Ty} (hr : O7 cx k nm ty h = some r) : O7 (cy ++ cx) k nm ty h = some r := by
 unfold O7 at hr ⊢
 split
 ·rename_i hk
  rw [if_pos hk] at hr
  split at hr
  ·rename_i t ht; rw [B3V ht]; exact hr
  ·cases hr
 ·rename_i hk
  rw [if_neg hk] at hr
  exact hr
theorem B3X {cy cx : Cx} {k : Int} {nm : ByteArray} {ty : Ty} {h : List Ty} {r : List Ty × Ty} (hr : W0 cx k nm ty h = some r) : W0 (cy ++ cx) k nm ty h = some r := by
 unfold W0 at hr ⊢
 split at hr
 ·rename_i w t hw; rw [B3W hw]; exact hr
 ·cases hr
theorem B3Y (cy cx : Cx) (k : Int) (nm : ByteArray) (ty : Ty) : N3 (cy ++ cx) k nm ty = cy ++ N3 cx k nm ty := by
 unfold N3; split <;> simp
mutual
theorem A9z (cy : Cx) : ∀ (e : Tm) (cx : Cx) (t : Ty), B9 cx e = some t → B9 (cy ++ cx) e = some t
 | .mk k nm num ty fr lb ks, cx, t, h => by
  rw [B9] at h ⊢
  split at h
  ·cases h
  ·rename_i hs hh
   rw [B3Y, A9A cy ks _ hs hh]
   dsimp only
   split at h
   ·rename_i hk; rw [if_pos hk]; exact h
   ·rename_i hk
    rw [if_neg hk]
    split at h
    ·cases h
    ·rename_i w u hw
     rw [B3X hw]; exact h
theorem A9A (cy : Cx) : ∀ (ts : List Tm) (cx : Cx) (us : List Ty), K3 cx ts = some us → K3 (cy ++ cx) ts = some us
 | [], cx, us, h => by rw [K3] at h ⊢; exact h
 | t :: ts, cx, us, h => by
  rw [K3] at h ⊢
  split at h
  ·cases h
  ·rename_i u hu
   split at h
   ·cases h
   ·rename_i us' hus
    rw [A9z cy t cx u hu]
    dsimp only
    rw [A9A cy ts cx us' hus]
    exact h
end
theorem A9B {cx : Cx} : ∀ {ks : List Tm} {h : List Ty}, K3 cx ks = some h → ∀ (j : Nat) (hj : j < ks.length), ∃ u, B9 cx ks[j] = some u ∧ ∀ x, B9 cx x = some u → K3 cx (ks.set j x) = some h
 | [], h, _, j, hj => by simp at hj
 | t :: ts, h, he, j, hj => by
  rw [K3] at he
  split at he
  ·cases he
  ·rename_i u hu
   split at he
   ·cases he
   ·rename_i us hus
    cases he
    cases j with
    | zero => exact ⟨u, hu, fun x hx => by rw [List.set_cons_zero, K3, hx]; dsimp only; rw [hus]⟩
    | succ j =>
     obtain ⟨v, hv, hv2⟩ := A9B hus j (by simpa using hj)
     exact ⟨v, hv, fun x hx => by rw [List.set_cons_succ, K3, hu]; dsimp only; rw [hv2 x hx]⟩
def A2x : List Tm → List Ty → List Ty → Int → List Tm × Int
 | u :: us, a :: h, b :: w, l => if H7 a b = true then (u :: (A2x us h w l).1, (A2x us h w l).2) else (L1 u a b (l + 1) :: (A2x us h w (l + 1)).1, (A2x us h w (l + 1)).2)
 | us, _, _, l => (us, l)
def B3Z (cx : Cx) (k : Int) (nm : ByteArray) (num : Int) (ty fr : Ty) (lb : Int) (us : List Tm) (h : List Ty) (l : Int) : Option (Tm × Ty × Int) :=
 match W0 cx k nm ty h with
 | none => none
 | some (w, t) => some (if k = 13 then (A2x us h w l).1.getD 0 I9 else .mk k nm num ty fr lb (A2x us h w l).1, t, (A2x us h w l).2)
mutual
def mEl (cx : Cx) : Tm → Int → Option (Tm × Ty × Int)
 | .mk k nm num ty fr lb ks, l => match A9C (N3 cx k nm ty) ks l with
  | none => none
  | some (us, h, l') => B3Z cx k nm num ty fr lb us h l'
def A9C (cx : Cx) : List Tm → Int → Option (List Tm × List Ty × Int)
 | [], l => some ([], [], l)
 | t :: ts, l => match mEl cx t l with
  | none => none
  | some (u, a, l') => match A9C cx ts l' with
   | none => none
   | some (us, h, l'') => some (u :: us, a :: h, l'')
end
def A9D (e : Tm) : Option (Tm × Ty) := if A0L e = true then (match mEl [] e 0 with | some (u, t, _) => some (u, t) | none => none) else none
def B30 (cx : Cx) (k : Int) (nm : ByteArray) (ty : Ty) (h : List Ty) : Option Ty := match O7 cx k nm ty h with
 | some (_, t) => if (k = 5 ∨ k = 10) ∧ M5 t = false then none else some t
 | none => none
mutual
def B31 (cx : Cx) : Tm → Option Ty
 | .mk k nm num ty fr lb ks => match A9E (N3 cx k nm ty) ks with
  | none => none
  | some h => B30 cx k nm ty h
def A9E (cx : Cx) : List Tm → Option (List Ty)
 | [] => some []
 | t :: ts => match B31 cx t with
  | none => none
  | some a => match A9E cx ts with
   | none => none
   | some h => some (a :: h)
end
theorem A6q (k : Int) (ks : List Ty) (d : Int) : M0 (.mk k ks) d = (decide (d ≤ 4) && decide (V0 k = ks.length) && Z4 ks (d + 1)) := by rw [M0]
mutual
theorem A6r : ∀ (t : Ty) (d e : Int), e ≤ d → M0 t d = true → M0 t e = true
 | .mk k ks, d, e, h, hs => by
  rw [A6q, Bool.and_eq_true, Bool.and_eq_true, decide_eq_true_eq, decide_eq_true_eq] at hs ⊢
  exact ⟨⟨by omega, hs.1.2⟩, A9F ks (d + 1) (e + 1) (by omega) hs.2⟩
theorem A9F : ∀ (ts : List Ty) (d e : Int), e ≤ d → Z4 ts d = true → Z4 ts e = true
 | [], d, e, h, hs => by rw [Z4]
 | t :: ts, d, e, h, hs => by
  rw [Z4, Bool.and_eq_true] at hs ⊢
  exact ⟨A6r t d e h hs.1, A9F ts d e h hs.2⟩
end
def cxV (cx : Cx) : Prop := ∀ b ∈ cx, M5 b.2 = true
theorem B32 : cxV [] := by intro b hb; simp at hb
theorem B33 {cx : Cx} {k : Int} {nm : ByteArray} {ty : Ty} (h : cxV cx) (ht : k = 5 → M5 ty = true) : cxV (N3 cx k nm ty) := by
 unfold N3
 split
 ·intro b hb
  rcases List.mem_append.1 hb with hb | hb
  ·exact h b hb
  ·obtain rfl := List.mem_singleton.1 hb; exact ht (by assumption)
 ·exact h
theorem A1l {cx : Cx} {k : Int} {nm : ByteArray} {num : Int} {ty fr : Ty} {lb : Int} {ks : List Tm} {T : Ty} (h : B9 cx (.mk k nm num ty fr lb ks) = some T) :
  ∃ us, K3 (N3 cx k nm ty) ks = some us ∧ (k = 14 → us.getD 0 B1 = fr ∧ T = ty) ∧ (k ≠ 14 → M5 T = true ∧ ∃ w, O7 cx k nm ty us = some (w, T) ∧ R4 w us = true) := by
 rw [B9] at h
 split at h
 ·cases h
 ·rename_i us hu
  refine ⟨us, hu, fun hk => ?_, fun hk => ?_⟩
  ·rw [if_pos hk] at h
   split at h
   ·rename_i hs; cases h; exact ⟨(R2 _ _).1 hs, rfl⟩
   ·cases h
  ·rw [if_neg hk] at h
   split at h
   ·cases h
   ·rename_i w t hn
    split at h
    ·rename_i hs
     cases h
     obtain ⟨h1, h2⟩ := A9s hn
     exact ⟨h1, w, h2, hs⟩
    ·cases h
theorem A1m {cx : Cx} {k : Int} {nm : ByteArray} {num : Int} {ty fr : Ty} {lb : Int} {ks : List Tm} {T : Ty} {us w : List Ty} (hu : K3 (N3 cx k nm ty) ks = some us) (hk : k ≠ 14) (hv : M5 T = true) (hw : O7 cx k nm ty us = some (w, T)) (hs : R4 w us = true) : B9 cx (.mk k nm num ty fr lb ks) = some T := by
 rw [B9, hu]
 simp only [if_neg hk]
 unfold W0
 rw [hw]
 simp only [hv, if_true, hs]
theorem A2y {cx : Cx} {a : Tm} {us : List Ty} (h : K3 cx [a] = some us) : ∃ x, B9 cx a = some x ∧ us = [x] := by
 rw [K3] at h
 split at h
 ·cases h
 ·rename_i x hx
  rw [K3] at h
  simp only [Option.some.injEq] at h
  exact ⟨x, hx, h.symm⟩
theorem A1K {cx : Cx} {a b : Tm} {us : List Ty} (h : K3 cx [a, b] = some us) : ∃ x y, B9 cx a = some x ∧ B9 cx b = some y ∧ us = [x, y] := by
 rw [K3] at h
 split at h
 ·cases h
 ·rename_i x hx
  split at h
  ·cases h
  ·rename_i vs hv
   obtain ⟨y, hy, rfl⟩ := A2y hv
   simp only [Option.some.injEq] at h
   exact ⟨x, y, hx, hy, h.symm⟩
theorem A6s {cx : Cx} {a b c : Tm} {us : List Ty} (h : K3 cx [a, b, c] = some us) : ∃ x y z, B9 cx a = some x ∧ B9 cx b = some y ∧ B9 cx c = some z ∧ us = [x, y, z] := by
 rw [K3] at h
 split at h
 ·cases h
 ·rename_i x hx
  split at h
  ·cases h
  ·rename_i vs hv
   obtain ⟨y, z, hy, hz, rfl⟩ := A1K hv
   simp only [Option.some.injEq] at h
   exact ⟨x, y, z, hx, hy, hz, h.symm⟩
theorem A3R {cx : Cx} {a : Tm} {x : Ty} (h : B9 cx a = some x) : K3 cx [a] = some [x] := by rw [K3, h]; rfl
theorem A6t {cx : Cx} {a b : Tm} {x y : Ty} (h : B9 cx a = some x) (h2 : B9 cx b = some y) : K3 cx [a, b] = some [x, y] := by rw [K3, h, A3R h2]
theorem B34 {cx : Cx} {a b c : Tm} {x y z : Ty} (h : B9 cx a = some x) (h2 : B9 cx b = some y) (h3 : B9 cx c = some z) : K3 cx [a, b, c] = some [x, y, z] := by rw [K3, h, A6t h2 h3]
mutual
theorem A4Q : ∀ a : Ty, P1 a a = true
 | .mk k ks => by rw [V9, A9G ks]; simp
theorem A9G : ∀ xs : List Ty, U3 xs xs = true
 | [] => rfl
 | a :: xs => by rw [U3, A4Q a, A9G xs]; rfl
end
mutual
theorem A9H : ∀ a : Ty, A0D a a = a
 | .mk k ks => by
  rw [A8u, A9I ks]
  by_cases h : k = 1
  ·rw [if_pos h]
  ·rw [if_neg h, if_neg h]
theorem A9I : ∀ xs : List Ty, A1W xs xs = xs
 | [] => rfl
 | a :: xs => by rw [A1W, A9H a, A9I xs]
end
theorem A22 {k : Int} {ks : List Ty} (hk : k = 4 ∨ k = 5) (h : M5 (.mk k ks) = true) : ∃ a b, ks = [a, b] ∧ M5 a = true ∧ M5 b = true := by
 unfold M5 at h ⊢
 rw [A6q, Bool.and_eq_true, Bool.and_eq_true, decide_eq_true_eq, decide_eq_true_eq] at h
 have h2 : ks.length = 2 := by
  have : V0 k = 2 := by rcases hk with rfl | rfl <;> rfl
  omega
 match ks, h2, h.2 with
 | [x, y], _, hL =>
  simp only [Z4, Bool.and_eq_true] at hL
  exact ⟨x, y, rfl, A6r _ 2 1 (by omega) hL.1, A6r _ 2 1 (by omega) hL.2.1⟩
theorem A6u {k : Int} {ks : List Ty} (h : M5 (.mk k ks) = true) (hk : k ≠ 4) (hk5 : k ≠ 5) : (k = 1 ∨ k = 2 ∨ k = 3) ∧ ks = [] := by
 unfold M5 at h
 rw [A6q, Bool.and_eq_true, Bool.and_eq_true, decide_eq_true_eq, decide_eq_true_eq] at h
 obtain ⟨h1, h2, h3⟩ := N4 k
 have hl := h.1.2
 have hk3 : k = 1 ∨ k = 2 ∨ k = 3 := by
  apply Classical.byContradiction
  intro hc
  rw [h3 (by omega) (by omega) (by omega) hk hk5] at hl; omega
 rw [h1 hk3] at hl
 exact ⟨hk3, List.length_eq_zero_iff.1 (by omega)⟩
theorem A9J {cx : Cx} {e : Tm} {T : Ty} (hc : cv e) (h : B9 cx e = some T) : M5 T = true := by
 obtain ⟨k, nm, num, ty, fr, lb, ks⟩ := e
 exact A4P (fun hk => (hc.node.1.c14 hk).2.1) h
section inv
variable {cx : Cx} {nm : ByteArray} {num : Int} {ty fr : Ty} {lb : Int} {a b c : Tm} {T : Ty}
theorem B35 {x y : Ty} (h : R4 [x] [y] = true) : x = y := by
 simp only [R4, Bool.and_true] at h; exact (R2 _ _).1 h
theorem A9K {x y x' y' : Ty} (h : R4 [x, y] [x', y'] = true) : x = x' ∧ y = y' := by
 simp only [R4, Bool.and_true, Bool.and_eq_true] at h; exact ⟨(R2 _ _).1 h.1, (R2 _ _).1 h.2⟩
theorem B36 {x y z x' y' z' : Ty} (h : R4 [x, y, z] [x', y', z'] = true) : x = x' ∧ y = y' ∧ z = z' := by
 simp only [R4, Bool.and_true, Bool.and_eq_true] at h; exact ⟨(R2 _ _).1 h.1, (R2 _ _).1 h.2.1, (R2 _ _).1 h.2.2⟩
theorem A23 : ∀ xs : List Ty, R4 xs xs = true
 | [] => rfl
 | a :: xs => by rw [R4, A3F, A23 xs]; rfl
theorem A6v (h : B9 cx (.mk 6 nm num ty fr lb [a, b]) = some T) : ∃ A, B9 cx a = some (.mk 4 [A, T]) ∧ B9 cx b = some A := by
 obtain ⟨us, hu, _, hn⟩ := A1l h
 rw [N3, if_neg (by omega)] at hu
 obtain ⟨x, y, hx, hy, rfl⟩ := A1K hu
 obtain ⟨_, w, hw, hs⟩ := hn (by decide)
 unfold O7 at hw
 simp only [show ¬((6 : Int) = 1) by decide, show ¬((6 : Int) = 2) by decide, show ¬((6 : Int) = 3 ∨ (6 : Int) = 4) by decide, show ¬((6 : Int) = 5) by decide, if_false, if_true, List.getD_cons_zero, List.getD_cons_succ] at hw
 split at hw
 ·rename_i p q hm
  split at hw
  ·cases hw
   obtain ⟨h1, h2⟩ := A9K hs
   subst h1 h2
   exact ⟨_, hx, hy⟩
  ·cases hw
 ·cases hw
theorem A9L {A : Ty} (hv : M5 T = true) (ha : B9 cx a = some (.mk 4 [A, T])) (hb : B9 cx b = some A) : B9 cx (.mk 6 nm num ty fr lb [a, b]) = some T := by
 refine A1m (us := [.mk 4 [A, T], A]) (w := [.mk 4 [A, T], A]) (A6t ha hb) (by decide) hv ?_ (A23 _)
 unfold O7
 simp only [show ¬((6 : Int) = 1) by decide, show ¬((6 : Int) = 2) by decide, show ¬((6 : Int) = 3 ∨ (6 : Int) = 4) by decide, show ¬((6 : Int) = 5) by decide, if_false, if_true, List.getD_cons_zero, List.getD_cons_succ, A3N, A4Q]
theorem A4R {k : Int} (hk : k = 7 ∨ k = 8) (h : B9 cx (.mk k nm num ty fr lb [a, b]) = some T) : B9 cx a = some O1 ∧ B9 cx b = some O1 ∧ T = if k = 8 then S5 else O1 := by
 obtain ⟨us, hu, _, hn⟩ := A1l h
 rw [N3, if_neg (by omega)] at hu
 obtain ⟨x, y, hx, hy, rfl⟩ := A1K hu
 obtain ⟨_, w, hw, hs⟩ := hn (by omega)
 unfold O7 at hw
 rw [if_neg (by omega), if_neg (by omega), if_neg (by omega), if_neg (by omega), if_neg (by omega), if_pos hk] at hw
 split at hw
 ·cases hw
  obtain ⟨h1, h2⟩ := A9K hs
  subst h1 h2
  exact ⟨hx, hy, rfl⟩
 ·cases hw
theorem A6w (h : B9 cx (.mk 9 nm num ty fr lb [a, b, c]) = some T) : B9 cx a = some S5 ∧ B9 cx b = some T ∧ B9 cx c = some T := by
 obtain ⟨us, hu, _, hn⟩ := A1l h
 rw [N3, if_neg (by omega)] at hu
 obtain ⟨x, y, z, hx, hy, hz, rfl⟩ := A6s hu
 obtain ⟨_, w, hw, hs⟩ := hn (by decide)
 unfold O7 at hw
 rw [if_neg (by omega), if_neg (by omega), if_neg (by omega), if_neg (by omega), if_neg (by omega), if_neg (by omega), if_pos rfl] at hw
 split at hw
 ·cases hw
  obtain ⟨h1, h2, h3⟩ := B36 hs
  simp only [List.getD_cons_zero, List.getD_cons_succ] at h2 h3 ⊢
  refine ⟨by rw [hx, h1], by rw [hy]; congr 1; exact h2.symm, by rw [hz]; congr 1; exact h3.symm⟩
 ·cases hw
theorem A4S (h : B9 cx (.mk 10 nm num ty fr lb [a, b]) = some T) : ∃ A B, B9 cx a = some A ∧ B9 cx b = some B ∧ T = .mk 5 [A, B] := by
 obtain ⟨us, hu, _, hn⟩ := A1l h
 rw [N3, if_neg (by omega)] at hu
 obtain ⟨x, y, hx, hy, rfl⟩ := A1K hu
 obtain ⟨_, w, hw, hs⟩ := hn (by decide)
 unfold O7 at hw
 rw [if_neg (by omega), if_neg (by omega), if_neg (by omega), if_neg (by omega), if_neg (by omega), if_neg (by omega), if_neg (by omega), if_pos rfl] at hw
 cases hw
 exact ⟨x, y, hx, hy, rfl⟩
theorem A6x {k : Int} (hk : k = 11 ∨ k = 12) (h : B9 cx (.mk k nm num ty fr lb [a]) = some T) : ∃ A B, B9 cx a = some (.mk 5 [A, B]) ∧ T = if k = 12 then B else A := by
 obtain ⟨us, hu, _, hn⟩ := A1l h
 rw [N3, if_neg (by omega)] at hu
 obtain ⟨x, hx, rfl⟩ := A2y hu
 obtain ⟨_, w, hw, hs⟩ := hn (by omega)
 unfold O7 at hw
 rw [if_neg (by omega), if_neg (by omega), if_neg (by omega), if_neg (by omega), if_neg (by omega), if_neg (by omega), if_neg (by omega), if_neg (by omega), if_neg (by omega)] at hw
 split at hw
 ·rename_i p q hm
  cases hw
  have h1 := B35 hs
  subst h1
  exact ⟨p, q, hx, rfl⟩
 ·cases hw
theorem A6y {k : Int} {A B : Ty} (hk : k = 11 ∨ k = 12) (hv : M5 (if k = 12 then B else A) = true) (h : B9 cx a = some (.mk 5 [A, B])) : B9 cx (.mk k nm num ty fr lb [a]) = some (if k = 12 then B else A) := by
 refine A1m (us := [.mk 5 [A, B]]) (w := [.mk 5 [A, B]]) (by rw [N3, if_neg (by omega)]; exact A3R h) (by omega) hv ?_ (A23 _)
 unfold O7
 rw [if_neg (by omega), if_neg (by omega), if_neg (by omega), if_neg (by omega), if_neg (by omega), if_neg (by omega), if_neg (by omega), if_neg (by omega), if_neg (by omega)]
 simp only [List.getD_cons_zero, A3N, if_true, List.getD_cons_succ]
theorem A1L (h : B9 cx (.mk 14 nm num ty fr lb [a]) = some T) : B9 cx a = some fr ∧ T = ty := by
 obtain ⟨us, hu, hn, _⟩ := A1l h
 obtain ⟨x, hx, rfl⟩ := A2y hu
 obtain ⟨h1, h2⟩ := hn rfl
 simp only [List.getD_cons_zero] at h1
 subst h1
 exact ⟨hx, h2⟩
theorem A0Q (h : B9 cx a = some fr) : B9 cx (.mk 14 nm num ty fr lb [a]) = some ty := by
 rw [B9, show N3 cx 14 nm ty = cx from rfl, A3R h]
 simp only [if_true, List.getD_cons_zero, A3F]
theorem A6z (h : B9 cx (.mk 5 nm num ty fr lb [a]) = some T) : ∃ B, B9 (cx ++ [(nm, ty)]) a = some B ∧ T = .mk 4 [ty, B] := by
 obtain ⟨us, hu, _, hn⟩ := A1l h
 rw [N3, if_pos rfl] at hu
 obtain ⟨x, hx, rfl⟩ := A2y hu
 obtain ⟨_, w, hw, hs⟩ := hn (by decide)
 unfold O7 at hw
 rw [if_neg (by omega), if_neg (by omega), if_neg (by omega), if_pos rfl] at hw
 cases hw
 exact ⟨x, hx, rfl⟩
theorem A3S (h : B9 cx (.mk 1 nm num ty fr lb []) = some T) : P2 cx nm = some T := by
 obtain ⟨us, hu, _, hn⟩ := A1l h
 obtain ⟨_, w, hw, hs⟩ := hn (by decide)
 unfold O7 at hw
 rw [if_pos rfl] at hw
 split at hw
 ·rename_i t ht; cases hw; exact ht
 ·cases hw
theorem A9M (h : B9 cx (.mk 2 nm num ty fr lb []) = some T) : T = O1 := by
 obtain ⟨us, hu, _, hn⟩ := A1l h
 obtain ⟨_, w, hw, hs⟩ := hn (by decide)
 cases hw; rfl
theorem A9N {k : Int} (hk : k = 3 ∨ k = 4) (h : B9 cx (.mk k nm num ty fr lb []) = some T) : T = S5 := by
 obtain ⟨us, hu, _, hn⟩ := A1l h
 obtain ⟨_, w, hw, hs⟩ := hn (by omega)
 rcases hk with rfl | rfl <;> (cases hw; rfl)
end inv
theorem A1n (cx : Cx) (x nm : ByteArray) (t : Ty) : P2 (cx ++ [(x, t)]) nm = if x = nm then some t else P2 cx nm := by
 unfold P2
 rw [List.length_append, show ([(x, t)] : Cx).length = 1 from rfl]
 have hl : (cx ++ [(x, t)])[cx.length]? = some (x, t) := by rw [List.getElem?_append_right (Nat.le_refl _)]; simp
 by_cases h : x = nm
 ·rw [A2Q hl h, if_pos h]
 ·rw [A2R hl h, if_neg h]
  have : ∀ n, n ≤ cx.length → V2 (cx ++ [(x, t)]) nm n = V2 cx nm n := by
   intro n
   induction n with
   | zero => intro _; rfl
   | succ n ih =>
    intro hn
    rw [V2, V2, List.getElem?_append_left (by omega), ih (by omega)]
  exact this _ (Nat.le_refl _)
theorem B37 {cx cy : Cx} (h : ∀ x, P2 cx x = P2 cy x) (k : Int) (nm : ByteArray) (ty : Ty) : ∀ x, P2 (N3 cx k nm ty) x = P2 (N3 cy k nm ty) x := by
 intro x
 unfold N3
 split
 ·rw [A1n, A1n, h]
 ·exact h x
theorem A9O {cx cy : Cx} {k : Int} {nm : ByteArray} {ty : Ty} {h : List Ty} (he : P2 cx nm = P2 cy nm) : W0 cx k nm ty h = W0 cy k nm ty h := by
 unfold W0 O7
 rw [he]
mutual
theorem B38 : ∀ (e : Tm) (cx cy : Cx), (∀ x, P2 cx x = P2 cy x) → B9 cx e = B9 cy e
 | .mk k nm num ty fr lb ks, cx, cy, h => by
  rw [B9, B9, A6A ks _ _ (B37 h k nm ty)]
  split
  ·rfl
  ·rw [A9O (h nm)]
theorem A6A : ∀ (ts : List Tm) (cx cy : Cx), (∀ x, P2 cx x = P2 cy x) → K3 cx ts = K3 cy ts
 | [], _, _, _ => by rw [K3, K3]
 | t :: ts, cx, cy, h => by rw [K3, K3, B38 t cx cy h, A6A ts cx cy h]
end
theorem B39 {cx cy : Cx} {k : Int} {nm : ByteArray} {ty : Ty} {h : List Ty} (hk : k ≠ 1) : O7 cx k nm ty h = O7 cy k nm ty h := by
 unfold O7
 rw [if_neg hk, if_neg hk]
theorem A9P {cx cy : Cx} {k : Int} {nm : ByteArray} {ty : Ty} {h : List Ty} (hk : k ≠ 1) : W0 cx k nm ty h = W0 cy k nm ty h := by
 unfold W0; rw [B39 (cy := cy) hk]
mutual
theorem A9Q {x : ByteArray} {A : Ty} {v : Tm} (hv : B9 [] v = some A) : ∀ (e : Tm) (cx cy : Cx) (T : Ty), cv e → (∀ y, y ≠ x → P2 cx y = P2 cy y) → P2 cx x = some A → B9 cx e = some T → B9 cy (T6 x v e) = some T
 | .mk k nm num ty fr lb ks, cx, cy, T, hc, h, hx, ht => by
  have hkk := hc.node.2
  have hop := hc.node.1.ops
  rw [T6]
  by_cases h1 : k = 1 ∧ nm = x
  ·rw [if_pos h1]
   obtain ⟨rfl, rfl⟩ := h1
   have hks : ks = [] := List.length_eq_zero_iff.1 (by have : D3 1 = 0 := rfl; omega)
   subst hks
   have h2 := A3S ht
   rw [hx] at h2
   cases h2
   have h3 := A9z cy v [] A hv
   rwa [List.append_nil] at h3
  ·rw [if_neg h1]
   by_cases h5 : k = 5 ∧ nm = x
   ·rw [if_pos h5]
    obtain ⟨rfl, rfl⟩ := h5
    rw [B9] at ht ⊢
    rw [← A6A ks (N3 cx 5 nm ty) (N3 cy 5 nm ty) (fun y => by
     rw [N3, N3, if_pos rfl, if_pos rfl, A1n, A1n]
     by_cases hy : nm = y
     ·rw [if_pos hy, if_pos hy]
     ·rw [if_neg hy, if_neg hy]; exact h y (fun e => hy e.symm))]
    split at ht
    ·cases ht
    ·rename_i us hu
     rw [A9P (cy := cx) (by decide)]
     exact ht
   ·rw [if_neg h5]
    rw [B9] at ht ⊢
    have hin : ∀ us, K3 (N3 cx k nm ty) ks = some us → K3 (N3 cy k nm ty) (S1 x v ks) = some us := by
     intro us hu
     refine A9R hv ks _ _ us hkk ?_ ?_ hu
     ·intro y hy
      unfold N3
      split
      ·rw [A1n, A1n, h y hy]
      ·exact h y hy
     ·unfold N3
      split
      ·rename_i hk
       rw [A1n, if_neg (fun e => h5 ⟨hk, e⟩)]; exact hx
      ·exact hx
    split at ht
    ·cases ht
    ·rename_i us hu
     rw [hin us hu]
     simp only at ht ⊢
     by_cases hk1 : k = 1
     ·subst hk1
      have hn : nm ≠ x := fun e => h1 ⟨rfl, e⟩
      rw [A9O (h nm hn)] at ht
      exact ht
     ·rw [A9P (cy := cx) hk1]
      exact ht
theorem A9R {x : ByteArray} {A : Ty} {v : Tm} (hv : B9 [] v = some A) : ∀ (ts : List Tm) (cx cy : Cx) (us : List Ty), (∀ t ∈ ts, cv t) → (∀ y, y ≠ x → P2 cx y = P2 cy y) → P2 cx x = some A → K3 cx ts = some us → K3 cy (S1 x v ts) = some us
 | [], cx, cy, us, _, _, _, hu => by rw [K3] at hu; cases hu; rw [S1, K3]
 | t :: ts, cx, cy, us, hc, h, hx, hu => by
  rw [K3] at hu
  split at hu
  ·cases hu
  ·rename_i T hT
   split at hu
   ·cases hu
   ·rename_i Ts hTs
    cases hu
    rw [S1, K3, A9Q hv t cx cy T (hc t List.mem_cons_self) h hx hT, A9R hv ts cx cy Ts (fun u hu => hc u (List.mem_cons_of_mem _ hu)) h hx hTs]
end
mutual
def A6B : Ty → Ty → Bool
 | .mk k ks, t => decide (t.k = 1) || (decide (k = t.k) && A9S ks t.ks)
def A9S : List Ty → List Ty → Bool
 | [], [] => true
 | a :: xs, b :: ys => A6B a b && A9S xs ys
 | _, _ => false
end
mutual
def A9T : Tm → Tm → Bool
 | .mk k nm num ty _ _ ks, u => decide (k = u.k ∧ nm = u.nm ∧ num = u.num) && (decide (k ≠ 5 ∧ k ≠ 13) || A6B ty u.ty) && A9U ks u.ks
def A9U : List Tm → List Tm → Bool
 | [], [] => true
 | a :: xs, b :: ys => A9T a b && A9U xs ys
 | _, _ => false
end
def B4a (a b : Tm) : Bool := A0L a && (A0L b && A9T a b)
theorem A24 : ∀ (t : Ty), M5 t = true → ∃ a : GT, t = a.ty
 | .mk k ks, h => by
  by_cases h4 : k = 4
  ·obtain ⟨x, y, hxy, hx, hy⟩ := A22 (.inl h4) h
   have : SizeOf.sizeOf x < SizeOf.sizeOf ks ∧ SizeOf.sizeOf y < SizeOf.sizeOf ks := by subst hxy; simp; omega
   obtain ⟨a, ha⟩ := A24 x hx
   obtain ⟨b, hb⟩ := A24 y hy
   exact ⟨.fn a b, by rw [h4, hxy, ha, hb]; rfl⟩
  ·by_cases h5 : k = 5
   ·obtain ⟨x, y, hxy, hx, hy⟩ := A22 (.inr h5) h
    have : SizeOf.sizeOf x < SizeOf.sizeOf ks ∧ SizeOf.sizeOf y < SizeOf.sizeOf ks := by subst hxy; simp; omega
    obtain ⟨a, ha⟩ := A24 x hx
    obtain ⟨b, hb⟩ := A24 y hy
    exact ⟨.pr a b, by rw [h5, hxy, ha, hb]; rfl⟩
   ·obtain ⟨h1, rfl⟩ := A6u h h4 h5
    rcases h1 with rfl | rfl | rfl
    ·exact ⟨.any, rfl⟩
    ·exact ⟨.int, rfl⟩
    ·exact ⟨.bool, rfl⟩
 termination_by t => SizeOf.sizeOf t
 decreasing_by all_goals (simp only [Ty.mk.sizeOf_spec]; omega)
theorem B4b : ∀ (a b : GT), P1 a.ty b.ty = true ↔ Co a b := by
 intro a
 induction a with
 | any => intro b; cases b <;> simp [GT.ty, V9, U3] <;> exact .l
 | int => intro b; cases b <;> simp [GT.ty, V9, U3] <;> first | exact .r | exact .int | (intro h; cases h)
 | bool => intro b; cases b <;> simp [GT.ty, V9, U3] <;> first | exact .r | exact .bool | (intro h; cases h)
 | fn x y i j =>
  intro b
  cases b with
  | fn z w => simp only [GT.ty, V9, U3, i, j, Bool.or_eq_true, Bool.and_eq_true, decide_eq_true_eq, Bool.and_true, true_and]; exact ⟨fun h => by rcases h with h | h; exact absurd h (by decide); exact .fn h.1 h.2, fun h => by cases h with | fn a b => exact .inr ⟨a, b⟩⟩
  | any => simp [GT.ty, V9, U3]; exact .r
  | _ => simp [GT.ty, V9, U3]; intro h; cases h
 | pr x y i j =>
  intro b
  cases b with
  | pr z w => simp only [GT.ty, V9, U3, i, j, Bool.or_eq_true, Bool.and_eq_true, decide_eq_true_eq, Bool.and_true, true_and]; exact ⟨fun h => by rcases h with h | h; exact absurd h (by decide); exact .pr h.1 h.2, fun h => by cases h with | pr a b => exact .inr ⟨a, b⟩⟩
  | any => simp [GT.ty, V9, U3]; exact .r
  | _ => simp [GT.ty, V9, U3]; intro h; cases h
def A4T : GT → GT → GT
 | .any, b => b
 | .fn a b, .fn c d => .fn (A4T a c) (A4T b d)
 | .pr a b, .pr c d => .pr (A4T a c) (A4T b d)
 | a, _ => a
def gmF : GT → Option (GT × GT)
 | .fn a b => some (a, b)
 | .any => some (.any, .any)
 | _ => none
def gmP : GT → Option (GT × GT)
 | .pr a b => some (a, b)
 | .any => some (.any, .any)
 | _ => none
def CxR (cx cx' : Cx) (Γ : GC) : Prop := ∀ x a, P2 cx x = some a → ∃ A A', a = A.ty ∧ P2 cx' x = some A'.ty ∧ Γ x = some (A, A') ∧ Le A A'
theorem A6C : CxR [] [] I5 := by intro x a h; simp [P2, V2] at h
theorem B4c {cx cx' : Cx} {Γ : GC} (h : CxR cx cx' Γ) {A A' : GT} (hl : Le A A') (x : ByteArray) : CxR (cx ++ [(x, A.ty)]) (cx' ++ [(x, A'.ty)]) (Y9 Γ x A A') := by
 intro y a ha
 rw [A1n] at ha ⊢
 unfold Y9
 by_cases hy : x = y
 ·rw [if_pos hy] at ha ⊢
  rw [if_pos hy]
  cases ha
  exact ⟨A, A', rfl, rfl, rfl, hl⟩
 ·rw [if_neg hy] at ha ⊢
  rw [if_neg hy]
  exact h y a ha
def B6R (A B : GT) (l : Int) (e : GE) : GE := if H7 A.ty B.ty = true then e else .cast A B l e
inductive GPL (Γ : GC) : List GE → List GE → List GT → List GT → Prop
 | nil : GPL Γ [] [] [] []
 | cons {e e' A A' es es' As As'} : GP Γ e e' A A' → GPL Γ es es' As As' → GPL Γ (e :: es) (e' :: es') (A :: As) (A' :: As')
abbrev ElR (Γ : GC) (u : Tm) (a : Ty) (r : Option (Tm × Ty × Int)) : Prop := ∃ e A e' A' l2, u = e.tm ∧ a = A.ty ∧ r = some (e'.tm, A'.ty, l2) ∧ GP Γ e e' A A'
section
variable {cx cx' : Cx} {Γ : GC} {es es' : List GE} {As As' : List GT} {l l' : Int} {u : Tm} {a : Ty} {l2 : Int} {nm : ByteArray} {num : Int}
end
theorem A0R (e : Tm) (a b : Ty) (l : Int) (G : IM) (ce ca cb : List Value) (hl : E9 l) (he : A8 G e ce) (ha : B2 G a ca) (hb : B2 G b cb) : Fn Tryz.prog 148 [.agg ⟨ce⟩, .agg ⟨ca⟩, .agg ⟨cb⟩, .int .i64 l] [] G (S8 (L1 e a b l)) := by
 have hel := he.len
 have heo := he.one
 obtain ⟨v1, v2, v3, v4, v5, v6, v7, v8, v9, rfl⟩ := nine hel
 obtain ⟨ak, aks⟩ := a
 obtain ⟨bk, bks⟩ := b
 obtain ⟨pa, cca, ea, rfl, _⟩ := ha.open
 obtain ⟨pb, ccb, eb, rfl, _⟩ := hb.open
 refine B6 Tryz.func148 rfl Tryz.ntmps148 Tryz.results148 rfl ?_
 intro w0
 refine tS (tR ?_)
 refine sE (C4 rfl rfl) rfl (fun b3 => ?_)
 refine sE (C4 rfl rfl) rfl (fun b4 => ?_)
 refine sE (C4 rfl rfl) rfl (fun b5 => ?_)
 refine sE (A6 rfl) rfl (fun b6 => ?_)
 refine sD (nS (tS (tR ?_)))
 refine sL (A3 rfl rfl (A7 (by repeat first | exact mH | apply mT)) rfl) rfl rfl ?_
 refine sL (A3 rfl rfl (A7 (by repeat first | exact mH | apply mT)) rfl) rfl rfl ?_
 refine sQ (qM rfl) rfl ?_
 refine sL (A3 rfl rfl (A7 (by repeat first | exact mH | apply mT)) rfl) rfl rfl ?_
 (refine K7 (D0 rfl rfl rfl (by omega) (by unfold maxLen; omega) rfl) rfl ?_; rintro _ ⟨b15, rfl⟩)
 refine sQ (Q9 rfl rfl) rfl (H6 ?_)
 refine sD (nS ?_)
 (refine I6 (cs := [v1, v2, v3, v4, v5, v6, v7, v8, v9]) (by repeat (first | exact Pk.here | apply Pk.there)) (fun G2 hle2 hsl2 hno2 => ?_))
 refine tT ?_
 refine D6 (rC rfl (A4 rfl rfl)) ?_
 (exact S8.mk (A8.put (us := [e]) (es := [[v1, v2, v3, v4, v5, v6, v7, v8, v9]]) ⟨by decide, by decide⟩ ⟨by decide, by decide⟩ hl (hb.mono hle2) (ha.mono hle2) rfl (C9.of hsl2 rfl (by intro x hx; obtain rfl := List.mem_singleton.1 hx; rfl) (by intro x hx; obtain rfl := List.mem_singleton.1 hx; exact heo)) (by simp only [E5]; exact ⟨_, _, rfl, he.mono hle2, rfl⟩)))
theorem A25 (k : Int) (p : Option Addr) (n c : Nat) (G : IM) : Fn Tryz.prog 243 [.int .i64 k, .slice p n c] [] G (J3 (.agg ⟨[.int .i64 k, .string ⟨⟨[]⟩⟩, .int .i64 0, .int .i64 0, .slice none 0 0, .int .i64 0, .slice none 0 0, .int .i64 0, .slice p n c]⟩) G) := by
 refine B6 Tryz.func243 rfl Tryz.ntmps243 Tryz.results243 rfl ?_
 intro w0
 refine tS (tR ?_)
 refine sE (A6 rfl) rfl (fun b3 => ?_)
 refine J6 ?_
 refine D6 (rC rfl (A4 rfl rfl)) ?_
 (exact ⟨rfl, rfl, rfl⟩)
theorem A9V (G : IM) {k : Int} (hk : E9 k) : A8 G (A0r k []) [.int .i64 k, .string ⟨⟨[]⟩⟩, .int .i64 0, .int .i64 0, .slice none 0 0, .int .i64 0, .slice none 0 0, .int .i64 0, .slice none 0 0] := A3O hk rfl (C9.nil _ _) rfl
theorem B4d (G : IM) : Fn Tryz.prog 242 [.bool true] [] G (S8 (A0P (true = true))) := by
 refine B6 Tryz.func242 rfl Tryz.ntmps242 Tryz.results242 rfl ?_
 intro w0
 refine tS (tR ?_)
 refine sE (A6 rfl) rfl (fun b3 => ?_)
 refine J6 ?_
 refine E8 rfl ((A25 _ _ _ _ _)) rfl rfl ?_
 refine H6 ?_
 refine sD (nS (tT (rS ?_)))
 refine D6 (rC rfl (A4 rfl rfl)) ?_
 (exact S8.mk (A9V _ ⟨by decide, by decide⟩))
theorem B4e (G : IM) : Fn Tryz.prog 242 [.bool false] [] G (S8 (A0P (false = true))) := by
 refine B6 Tryz.func242 rfl Tryz.ntmps242 Tryz.results242 rfl ?_
 intro w0
 refine tS (tR ?_)
 refine sE (A6 rfl) rfl (fun b3 => ?_)
 refine J4 ?_
 refine E8 rfl ((A25 _ _ _ _ _)) rfl rfl ?_
 refine H6 ?_
 refine sD (nS (tT ?_))
 refine D6 (rC rfl (A4 rfl rfl)) ?_
 (exact S8.mk (A9V _ ⟨by decide, by decide⟩))
theorem A9W (b : Bool) (G : IM) : Fn Tryz.prog 242 [.bool b] [] G (S8 (A0P (b = true))) := by
 cases b
 ·exact B4e G
 ·exact B4d G
theorem B4f {a b : Int} (h : 0 ≤ a ∧ a ≤ 999) (h' : 0 ≤ b ∧ b ≤ 999) : (a + b).tmod 1000 = (a + b) % 1000 := by
 rw [Int.tmod_eq_emod_of_nonneg (by omega)]
def X1 (k : Int) (ks : List Tm) : Option Tm :=
 if k = 6 then (if (kd ks 0).k = 5 then some (T6 (kd ks 0).nm (kd ks 1) (kd (kd ks 0).ks 0)) else none)
 else if k = 7 ∨ k = 8 then (if (kd ks 0).k = 2 ∧ (kd ks 1).k = 2 then some (if k = 7 then A3K (((kd ks 0).num + (kd ks 1).num) % 1000) else A0P ((kd ks 0).num < (kd ks 1).num)) else none)
 else if k = 9 then (if (kd ks 0).k = 3 then some (kd ks 1) else if (kd ks 0).k = 4 then some (kd ks 2) else none)
 else if k = 11 ∨ k = 12 then (if (kd ks 0).k = 10 then some (kd (kd ks 0).ks (k - 11).toNat) else none)
 else none
def R6 (o : Option Tm) : IM → Value → List A5 → Prop := L2 fun G' v => ∃ u cells c, v = .tuple ⟨[.agg ⟨cells⟩, .int .i64 c]⟩ ∧ A8 G' u cells ∧ (∀ x, o = some x → c = 1 ∧ u = x) ∧ (o = none → c = 3)
theorem R6.yes {G : IM} {o : Option Tm} {u : Tm} {cells : List Value} (h : o = some u) (hr : A8 G u cells) : R6 o G (.tuple ⟨[.agg ⟨cells⟩, .int .i64 1]⟩) [] := by
 subst h; exact ⟨rfl, u, cells, 1, rfl, hr, fun x hx => (by cases hx; exact ⟨rfl, rfl⟩), fun h => (by cases h)⟩
theorem R6.no {G : IM} {o : Option Tm} {u : Tm} {cells : List Value} (h : o = none) (hr : A8 G u cells) : R6 o G (.tuple ⟨[.agg ⟨cells⟩, .int .i64 3]⟩) [] := by
 subst h; exact ⟨rfl, u, cells, 3, rfl, hr, fun x hx => (by cases hx), fun _ => rfl⟩
theorem O4 (G : IM) : A8 G I9 [.int .i64 0, .string ⟨⟨[]⟩⟩, .int .i64 0, .int .i64 0, .slice none 0 0, .int .i64 0, .slice none 0 0, .int .i64 0, .slice none 0 0] := (P6.zero G).R
theorem B4g (a b : Tm) (nm : ByteArray) (num : Int) (ty fr : Ty) (lb : Int) (G : IM) (cells : List Value) (hca : cv a) (hr : A8 G (.mk 6 nm num ty fr lb [a, b]) cells) : Fn Tryz.prog 220 [.agg ⟨cells⟩] [] G (R6 (X1 6 [a, b])) := by
 have hsm := A4F a hca
 obtain ⟨ak, anm, anum, ⟨atk, atks⟩, ⟨afk, afks⟩, alb, aks⟩ := a
 obtain ⟨tk, tks⟩ := ty
 obtain ⟨fk, fks⟩ := fr
 obtain ⟨pt, ct, pf, cf, p, c, es, rfl, hk, hnum, hlb, hty, hfr, hsl, hkl⟩ := hr.open9
 obtain ⟨bx, ox, e0, rfl, hl0, hat0, hre0, hgb0⟩ := hsl.kidTm hkl (i := 0) (by simp) (by simp)
 replace hre0 : A8 G (.mk ak anm anum (.mk atk atks) (.mk afk afks) alb aks) e0 := hre0
 obtain ⟨apt, act, apf, acf, ap, ac, aes, rfl, hak, hanum, halb, haty, hafr, hasl, hakl⟩ := hre0.open9
 obtain ⟨_, _, e1, hp1, hl1, hat1, hre1, hgb1⟩ := hsl.kidTm hkl (i := 1) (by simp) (by simp)
 cases hp1
 replace hre1 : A8 G b e1 := hre1
 have ho1 := hre1.one
 obtain ⟨hN, _⟩ := hca.node
 have hops := hN.ops
 obtain ⟨_, _, _, _, hksm⟩ := A4G.1 hsm
 have h1 : ak = 5 → aks.length = 1 := fun h => by rw [h] at hops; have : D3 5 = 1 := rfl; omega
 have hL : ([Tm.mk ak anm anum (.mk atk atks) (.mk afk afks) alb aks, b] : List Tm).length = 2 := rfl
 rw [show X1 6 [Tm.mk ak anm anum (.mk atk atks) (.mk afk afks) alb aks, b] = (if ak = 5 then some (T6 anm b (kd aks 0)) else none) from rfl]
 refine B6 Tryz.func220 rfl Tryz.ntmps220 Tryz.results220 rfl ?_
 intro w0
 refine tS (tR ?_)
 refine sE (C4 rfl rfl) rfl (fun b3 => ?_)
 refine sE (A6 rfl) rfl (fun b4 => ?_)
 refine J9 ?_
 refine sE (A6 rfl) rfl (fun b11 => ?_)
 refine D8 ?_
 refine sP (A3q rfl rfl (by omega)) rfl rfl ?_
 refine J9 ?_
 refine sP (B4 (j := 0) rfl rfl rfl (by simp)) rfl rfl ?_
 refine sL (A3 rfl rfl (hat0 _) rfl) rfl rfl ?_
 refine I8 ?_
 refine C3 ?_
 refine tS (tR ?_)
 refine sP (Q8 rfl rfl (by omega)) rfl rfl ?_
 refine F8 ?_
 refine sB (qE rfl rfl) rfl rfl (fun h52 => ?_) (fun h52 => ?_)
 refine sD (nS (qT rfl (tS ?_)))
 (have hq : ak = 5 := (by omega); have hq1 := h1 hq; obtain ⟨bq, oq, e3, rfl, hl3, hat3, hre3, hgb3⟩ := hasl.kidTm hakl (i := 0) (by omega) (by omega); have hS := B3u anm b e1 aks[0] G e3 (Tm.smallL_mem hksm _ (List.getElem_mem (by omega))) hre3 hre1; refine D1 D2 rfl ?_)
 refine I4 (i := 0) (l' := [tt,ff,ff,ff,ff,ff,ff,ff,ff,ff,ff,ff,ff]) rfl C8 (B5 rfl) rfl (by kernel_rfl) rfl rfl ?_
 refine aL 1 rfl (C7 rfl rfl) rfl ?_
 refine aP 2 rfl (B4 (j := 0) rfl rfl rfl (by omega)) rfl ?_
 refine aL 3 rfl (A3 rfl rfl (hat3 _) hl3) rfl ?_
 refine aP 4 rfl (B5 rfl) rfl ?_
 refine aL 5 rfl (C7 rfl rfl) rfl ?_
 refine aP 6 rfl (B5 rfl) rfl ?_
 refine aL 7 rfl (C7 rfl rfl) rfl ?_
 refine aP 8 rfl (B4 (j := 1) rfl rfl rfl (by simp)) rfl ?_
 refine aL 9 rfl (A3 rfl rfl (hat1 _) hl1) rfl ?_
 refine A2 10 ?_
 (refine E3 rfl rfl hS rfl rfl rfl (fun u G1 hle1 hh => ?_); obtain ⟨uc, rfl, hru⟩ := hh; have hul := hru.len; have huo := hru.one)
 refine A2 11 ?_
 (refine oS rfl rfl rfl rfl hul huo rfl rfl ?_ (hu := by exact C1 hul.symm))
 refine aP 12 rfl (qA rfl) rfl ?_
 refine C0 (nS (tT (rB (rS ?_))))
 refine C5 (rC rfl (A3 rfl rfl (A7 (by repeat first | exact mH | apply mT)) hul)) (rT rfl) ?_
 (exact R6.yes (by rw [if_pos (by omega)]; unfold kd; rw [List.getD_eq_getElem?_getD, List.getElem?_eq_getElem (by omega), Option.getD_some]) hru)
 refine O0 ?_
 refine C5 (rC rfl (A4 rfl rfl)) (rT rfl) ?_
 (exact R6.no (by rw [if_neg (by omega)]) (O4 _))
theorem A9X (k : Int) (a b : Tm) (nm : ByteArray) (num : Int) (ty fr : Ty) (lb : Int) (G : IM) (cells : List Value) (hk78 : k = 7 ∨ k = 8) (hca : cv a) (hcb : cv b) (hr : A8 G (.mk k nm num ty fr lb [a, b]) cells) : Fn Tryz.prog 220 [.agg ⟨cells⟩] [] G (R6 (X1 k [a, b])) := by
 obtain ⟨ak, anm, anum, ⟨atk, atks⟩, ⟨afk, afks⟩, alb, aks⟩ := a
 obtain ⟨tk, tks⟩ := ty
 obtain ⟨fk, fks⟩ := fr
 obtain ⟨pt, ct, pf, cf, p, c, es, rfl, hk, hnum, hlb, hty, hfr, hsl, hkl⟩ := hr.open9
 obtain ⟨bx, ox, e0, rfl, hl0, hat0, hre0, hgb0⟩ := hsl.kidTm hkl (i := 0) (by simp) (by simp)
 replace hre0 : A8 G (.mk ak anm anum (.mk atk atks) (.mk afk afks) alb aks) e0 := hre0
 obtain ⟨apt, act, apf, acf, ap, ac, aes, rfl, hak, hanum, halb, haty, hafr, hasl, hakl⟩ := hre0.open9
 obtain ⟨bk, bnm, bnum, ⟨btk, btks⟩, ⟨bfk, bfks⟩, blb, bks⟩ := b
 obtain ⟨_, _, e1, hp1, hl1, hat1, hre1, hgb1⟩ := hsl.kidTm hkl (i := 1) (by simp) (by simp)
 cases hp1
 replace hre1 : A8 G (.mk bk bnm bnum (.mk btk btks) (.mk bfk bfks) blb bks) e1 := hre1
 obtain ⟨bpt, bct, bpf, bcf, bp, bc, bes, rfl, hbk, hbnum, hblb, hbty, hbfr, hbsl, hbkl⟩ := hre1.open9
 obtain ⟨hN, _⟩ := hca.node
 obtain ⟨hM, _⟩ := hcb.node
 obtain ⟨hn1, hn2⟩ := hN.num0
 obtain ⟨hm1, hm2⟩ := hM.num0
 have hL : ([Tm.mk ak anm anum (.mk atk atks) (.mk afk afks) alb aks, Tm.mk bk bnm bnum (.mk btk btks) (.mk bfk bfks) blb bks] : List Tm).length = 2 := rfl
 have hR : X1 k [Tm.mk ak anm anum (.mk atk atks) (.mk afk afks) alb aks, Tm.mk bk bnm bnum (.mk btk btks) (.mk bfk bfks) blb bks] = (if ak = 2 ∧ bk = 2 then some (if k = 7 then A3K ((anum + bnum) % 1000) else A0P (anum < bnum)) else none) := by
  unfold X1; rw [if_neg (by omega), if_pos hk78]; rfl
 rw [hR]
 have htm : (anum + bnum).tmod 1000 = (anum + bnum) % 1000 := B4f ⟨hn1, hn2⟩ ⟨hm1, hm2⟩
 have hb : E9 ((anum + bnum) % 1000) := ⟨by omega, by omega⟩
 refine B6 Tryz.func220 rfl Tryz.ntmps220 Tryz.results220 rfl ?_
 intro w0
 refine tS (tR ?_)
 refine sE (C4 rfl rfl) rfl (fun b3 => ?_)
 refine sE (A6 rfl) rfl (fun b4 => ?_)
 refine J9 ?_
 refine sE (A6 rfl) rfl (fun b11 => ?_)
 refine D8 ?_
 refine sP (A3q rfl rfl (by omega)) rfl rfl ?_
 refine J9 ?_
 refine sP (B4 (j := 0) rfl rfl rfl (by simp)) rfl rfl ?_
 refine sL (A3 rfl rfl (hat0 _) rfl) rfl rfl ?_
 refine I8 ?_
 refine C3 ?_
 refine tS (tR ?_)
 refine sP (E6 rfl rfl (by omega)) rfl rfl ?_
 refine sQ (qA rfl) rfl (sD (nS (cF rfl (tS (tS (tR ?_))))))
 refine sB (qE rfl rfl) rfl rfl (fun h51 => ?_) (fun h51 => ?_)
 refine J6 ?_
 refine sP (B4 (j := 1) rfl rfl rfl (by simp)) rfl rfl ?_
 refine sL (A3 rfl rfl (hat1 _) rfl) rfl rfl ?_
 refine sE (A6 rfl) rfl (fun b65 => ?_)
 refine H6 ?_
 refine sD (nS ?_)
 refine C3 ?_
 refine tS (tR (sQ (B5 rfl) rfl (sL (C7 rfl rfl) rfl rfl ?_)))
 refine sB (Q6 rfl rfl) rfl rfl (fun h74 => ?_) (fun h74 => ?_)
 refine Z3 ?_
 refine C5 (rC rfl (A4 rfl rfl)) (rT rfl) ?_
 (exact R6.no (by rw [if_neg (by omega)]) (O4 _))
 refine H9 ?_
 refine sB (Q6 rfl rfl) rfl rfl (fun h101 => ?_) (fun h101 => ?_)
 refine P7 ?_
 refine C5 (rC rfl (A4 rfl rfl)) (rT rfl) ?_
 (exact R6.no (by rw [if_neg (by omega)]) (O4 _))
 refine D8 ?_
 refine sP (Q8 rfl rfl (by omega)) rfl rfl ?_
 refine I8 ?_
 refine sP (M8 rfl rfl (by omega) (by omega)) rfl rfl ?_
 refine sP (A39 rfl rfl (by omega)) rfl rfl ?_
 refine sQ (Q9 rfl rfl) rfl ?_
 (rw [htm]; refine H6 ?_)
 refine sQ (qA rfl) rfl (sD (nS (tT (rB (rB (rS ?_))))))
 refine C5 (rC rfl (A4 rfl rfl)) (rT rfl) ?_
 (exact R6.yes (u := A3K (HMod.hMod (anum + bnum) 1000)) (by rw [if_pos ⟨by omega, by omega⟩, if_pos (by omega)]) (A8.put (us := []) ⟨by decide, by decide⟩ hb ⟨by decide, by decide⟩ (A1X _) (A1X _) rfl (C9.nil _ _) rfl))
 refine sQ (qA rfl) rfl (sD (nS (cF rfl (tR ?_))))
 refine sP (Q8 rfl rfl (by omega)) rfl rfl ?_
 refine F8 ?_
 refine sP (B4 (j := 1) rfl rfl rfl (by simp)) rfl rfl ?_
 refine sL (A3 rfl rfl (hat1 _) rfl) rfl rfl ?_
 refine sE (A6 rfl) rfl (fun b170 => ?_)
 refine H6 ?_
 refine sD (nS ?_)
 refine C3 ?_
 refine tS (tR (sQ (B5 rfl) rfl (sL (C7 rfl rfl) rfl rfl ?_)))
 refine sB (Q6 rfl rfl) rfl rfl (fun h179 => ?_) (fun h179 => ?_)
 refine Z3 ?_
 refine C5 (rC rfl (A4 rfl rfl)) (rT rfl) ?_
 (exact R6.no (by rw [if_neg (by omega)]) (O4 _))
 refine H9 ?_
 refine sB (Q6 rfl rfl) rfl rfl (fun h206 => ?_) (fun h206 => ?_)
 refine P7 ?_
 refine C5 (rC rfl (A4 rfl rfl)) (rT rfl) ?_
 (exact R6.no (by rw [if_neg (by omega)]) (O4 _))
 refine D8 ?_
 refine sP (E6 rfl rfl (by omega)) rfl rfl ?_
 refine I8 ?_
 (refine sB (M2 rfl rfl) rfl rfl (fun h246 => ?_) (fun h246 => ?_))
 (refine D7 rfl (A9W _ _) rfl rfl (fun u G1 hle1 hh => ?_); obtain ⟨uc, rfl, hru⟩ := hh; have hul := hru.len; have huo := hru.one)
 refine sS rfl rfl rfl hul huo rfl ?_ (hu := by exact C1 hul.symm)
 refine sQ (qA rfl) rfl (sD (nS (tT (rB (rB (rS ?_))))))
 refine C5 (rC rfl (A3 rfl rfl (A7 (by repeat first | exact mH | apply mT)) hul)) (rT rfl) ?_
 (exact R6.yes (by rw [if_pos ⟨by omega, by omega⟩, if_neg (by omega)]; unfold A0P; rw [if_pos (by omega), if_pos rfl]) hru)
 (refine D7 rfl (A9W _ _) rfl rfl (fun u G1 hle1 hh => ?_); obtain ⟨uc, rfl, hru⟩ := hh; have hul := hru.len; have huo := hru.one)
 refine sS rfl rfl rfl hul huo rfl ?_ (hu := by exact C1 hul.symm)
 refine sQ (qA rfl) rfl (sD (nS (tT (rB (rB (rS ?_))))))
 refine C5 (rC rfl (A3 rfl rfl (A7 (by repeat first | exact mH | apply mT)) hul)) (rT rfl) ?_
 (exact R6.yes (by rw [if_pos ⟨by omega, by omega⟩, if_neg (by omega)]; unfold A0P; rw [if_neg (by omega), if_neg (by decide)]) hru)
theorem B4h (a b c0 : Tm) (nm : ByteArray) (num : Int) (ty fr : Ty) (lb : Int) (G : IM) (cells : List Value) (hr : A8 G (.mk 9 nm num ty fr lb [a, b, c0]) cells) : Fn Tryz.prog 220 [.agg ⟨cells⟩] [] G (R6 (X1 9 [a, b, c0])) := by
 obtain ⟨ak, anm, anum, ⟨atk, atks⟩, ⟨afk, afks⟩, alb, aks⟩ := a
 obtain ⟨tk, tks⟩ := ty
 obtain ⟨fk, fks⟩ := fr
 obtain ⟨pt, ct, pf, cf, p, c, es, rfl, hk, hnum, hlb, hty, hfr, hsl, hkl⟩ := hr.open9
 obtain ⟨bx, ox, e0, rfl, hl0, hat0, hre0, hgb0⟩ := hsl.kidTm hkl (i := 0) (by simp) (by simp)
 replace hre0 : A8 G (.mk ak anm anum (.mk atk atks) (.mk afk afks) alb aks) e0 := hre0
 obtain ⟨apt, act, apf, acf, ap, ac, aes, rfl, hak, hanum, halb, haty, hafr, hasl, hakl⟩ := hre0.open9
 obtain ⟨_, _, e1, hp1, hl1, hat1, hre1, hgb1⟩ := hsl.kidTm hkl (i := 1) (by simp) (by simp)
 cases hp1
 replace hre1 : A8 G b e1 := hre1
 have ho1 := hre1.one
 obtain ⟨_, _, e2, hp2, hl2, hat2, hre2, hgb2⟩ := hsl.kidTm hkl (i := 2) (by simp) (by simp)
 cases hp2
 replace hre2 : A8 G c0 e2 := hre2
 have ho2 := hre2.one
 have hL : ([Tm.mk ak anm anum (.mk atk atks) (.mk afk afks) alb aks, b, c0] : List Tm).length = 3 := rfl
 rw [show X1 9 [Tm.mk ak anm anum (.mk atk atks) (.mk afk afks) alb aks, b, c0] = (if ak = 3 then some b else if ak = 4 then some c0 else none) from rfl]
 refine B6 Tryz.func220 rfl Tryz.ntmps220 Tryz.results220 rfl ?_
 intro w0
 refine tS (tR ?_)
 refine sE (C4 rfl rfl) rfl (fun b3 => ?_)
 refine sE (A6 rfl) rfl (fun b4 => ?_)
 refine J9 ?_
 refine sE (A6 rfl) rfl (fun b11 => ?_)
 refine D8 ?_
 refine sP (A3q rfl rfl (by omega)) rfl rfl ?_
 refine J9 ?_
 refine sP (B4 (j := 0) rfl rfl rfl (by simp)) rfl rfl ?_
 refine sL (A3 rfl rfl (hat0 _) rfl) rfl rfl ?_
 refine I8 ?_
 refine C3 ?_
 refine tS (tR ?_)
 refine sP (E6 rfl rfl (by omega)) rfl rfl ?_
 refine sQ (qA rfl) rfl (sD (nS (cF rfl (tS (tS (tR ?_))))))
 refine sP (E6 rfl rfl (by omega)) rfl rfl ?_
 refine sQ (qA rfl) rfl (sD (nS (cF rfl (tR ?_))))
 refine sP (E6 rfl rfl (by omega)) rfl rfl ?_
 refine sQ (qA rfl) rfl (sD (nS (cF rfl (tS (tR ?_)))))
 refine sP (Q8 rfl rfl (by omega)) rfl rfl ?_
 refine I8 ?_
 refine C3 (tS (tR (sB (qE rfl rfl) rfl rfl (fun h78 => ?_) (fun h78 => ?_))))
 refine F8 ?_
 refine sP (B4 (j := 1) rfl rfl rfl (by simp)) rfl rfl ?_
 refine sL (A3 rfl rfl (hat1 _) hl1) rfl rfl ?_
 refine sS rfl rfl rfl hl1 ho1 rfl ?_ (hu := by exact C1 hl1.symm)
 refine sQ (qA rfl) rfl (sD (nS (tT (rB (rB (rS ?_))))))
 refine C5 (rC rfl (A3 rfl rfl (A7 (by repeat first | exact mH | apply mT)) hl1)) (rT rfl) ?_
 (exact R6.yes (by rw [if_pos (by omega)]) hre1)
 refine sQ (qA rfl) rfl (sD (nS (cF rfl (tS (tR ?_)))))
 refine sB (qE rfl rfl) rfl rfl (fun h105 => ?_) (fun h105 => ?_)
 refine F8 ?_
 refine sP (B4 (j := 2) rfl rfl rfl (by simp)) rfl rfl ?_
 refine sL (A3 rfl rfl (hat2 _) hl2) rfl rfl ?_
 refine sS rfl rfl rfl hl2 ho2 rfl ?_ (hu := by exact C1 hl2.symm)
 refine sQ (qA rfl) rfl (sD (nS (tT (rB (rB (rS ?_))))))
 refine C5 (rC rfl (A3 rfl rfl (A7 (by repeat first | exact mH | apply mT)) hl2)) (rT rfl) ?_
 (exact R6.yes (by rw [if_neg (by omega), if_pos (by omega)]) hre2)
 refine M9 ?_
 refine C5 (rC rfl (A4 rfl rfl)) (rT rfl) ?_
 (exact R6.no (by rw [if_neg (by omega), if_neg (by omega)]) (O4 _))
theorem A9Y (k : Int) (a : Tm) (nm : ByteArray) (num : Int) (ty fr : Ty) (lb : Int) (G : IM) (cells : List Value) (hk1 : k = 11 ∨ k = 12) (hca : cv a) (hr : A8 G (.mk k nm num ty fr lb [a]) cells) : Fn Tryz.prog 220 [.agg ⟨cells⟩] [] G (R6 (X1 k [a])) := by
 obtain ⟨ak, anm, anum, ⟨atk, atks⟩, ⟨afk, afks⟩, alb, aks⟩ := a
 obtain ⟨tk, tks⟩ := ty
 obtain ⟨fk, fks⟩ := fr
 obtain ⟨pt, ct, pf, cf, p, c, es, rfl, hk, hnum, hlb, hty, hfr, hsl, hkl⟩ := hr.open9
 obtain ⟨bx, ox, e0, rfl, hl0, hat0, hre0, hgb0⟩ := hsl.kidTm hkl (i := 0) (by simp) (by simp)
 replace hre0 : A8 G (.mk ak anm anum (.mk atk atks) (.mk afk afks) alb aks) e0 := hre0
 obtain ⟨apt, act, apf, acf, ap, ac, aes, rfl, hak, hanum, halb, haty, hafr, hasl, hakl⟩ := hre0.open9
 obtain ⟨hN, _⟩ := hca.node
 have hops := hN.ops
 have h2 : ak = 10 → aks.length = 2 := fun h => by rw [h] at hops; have : D3 10 = 2 := rfl; omega
 have hL : ([Tm.mk ak anm anum (.mk atk atks) (.mk afk afks) alb aks] : List Tm).length = 1 := rfl
 have hR : X1 k [Tm.mk ak anm anum (.mk atk atks) (.mk afk afks) alb aks] = (if ak = 10 then some (kd aks (k - 11).toNat) else none) := by
  unfold X1; rw [if_neg (by omega), if_neg (by omega), if_neg (by omega), if_pos hk1]; rfl
 rw [hR]
 obtain ⟨i, hi⟩ : ∃ i : Nat, (k - 11).toNat = i := ⟨_, rfl⟩
 rw [hi]
 refine B6 Tryz.func220 rfl Tryz.ntmps220 Tryz.results220 rfl ?_
 intro w0
 refine tS (tR ?_)
 refine sE (C4 rfl rfl) rfl (fun b3 => ?_)
 refine sE (A6 rfl) rfl (fun b4 => ?_)
 refine J9 ?_
 refine sE (A6 rfl) rfl (fun b11 => ?_)
 refine D8 ?_
 refine sP (A3q rfl rfl (by omega)) rfl rfl ?_
 refine J9 ?_
 refine sP (B4 (j := 0) rfl rfl rfl (by simp)) rfl rfl ?_
 refine sL (A3 rfl rfl (hat0 _) rfl) rfl rfl ?_
 refine I8 ?_
 refine C3 ?_
 refine tS (tR ?_)
 refine sP (E6 rfl rfl (by omega)) rfl rfl ?_
 refine sQ (qA rfl) rfl (sD (nS (cF rfl (tS (tS (tR ?_))))))
 refine sP (E6 rfl rfl (by omega)) rfl rfl ?_
 refine sQ (qA rfl) rfl (sD (nS (cF rfl (tR ?_))))
 refine sP (E6 rfl rfl (by omega)) rfl rfl ?_
 refine sQ (qA rfl) rfl (sD (nS (cF rfl (tS (tR ?_)))))
 refine sP (E6 rfl rfl (by omega)) rfl rfl ?_
 refine sQ (qA rfl) rfl (sD (nS (cF rfl (tS (tS (tR ?_))))))
 refine sB (qE rfl rfl) rfl rfl (fun h72 => ?_) (fun h72 => ?_)
 refine J6 ?_
 refine sB (qE rfl rfl) rfl rfl (fun h84 => ?_) (fun h84 => ?_)
 refine sD (nS (qT rfl (tS ?_)))
 (have hq : ak = 10 := (by omega); have hq1 := h2 hq; obtain ⟨bq, oq, e3, rfl, hl3, hat3, hre3, hgb3⟩ := hasl.kidTm hakl (i := i) (by omega) (by omega); have ho3 := hre3.one)
 refine R0 ?_
 refine sP (O8 rfl rfl (by omega) (by omega)) rfl rfl ?_
 (rw [show (k - 11 : Int) = ((i : Nat) : Int) from (by omega)]; refine sP (B4 (j := i) rfl rfl rfl (by omega)) rfl rfl ?_)
 refine sL (A3 rfl rfl (hat3 _) hl3) rfl rfl ?_
 refine sS rfl rfl rfl hl3 ho3 rfl ?_ (hu := by exact C1 hl3.symm)
 refine sQ (qA rfl) rfl (sD (nS (tT (rB (rS ?_)))))
 refine C5 (rC rfl (A3 rfl rfl (A7 (by repeat first | exact mH | apply mT)) hl3)) (rT rfl) ?_
 (exact R6.yes (by rw [if_pos (by omega)]; unfold kd; rw [List.getD_eq_getElem?_getD, List.getElem?_eq_getElem (by omega), Option.getD_some]) hre3)
 refine O0 ?_
 refine C5 (rC rfl (A4 rfl rfl)) (rT rfl) ?_
 (exact R6.no (by rw [if_neg (by omega)]) (O4 _))
 refine sQ (qA rfl) rfl (sD (nS (cF rfl (tR ?_))))
 refine sP (Q8 rfl rfl (by omega)) rfl rfl ?_
 refine F8 ?_
 refine sB (qE rfl rfl) rfl rfl (fun h137 => ?_) (fun h137 => ?_)
 refine sD (nS (qT rfl (tS ?_)))
 (have hq : ak = 10 := (by omega); have hq1 := h2 hq; obtain ⟨bq, oq, e3, rfl, hl3, hat3, hre3, hgb3⟩ := hasl.kidTm hakl (i := i) (by omega) (by omega); have ho3 := hre3.one)
 refine R0 ?_
 refine sP (O8 rfl rfl (by omega) (by omega)) rfl rfl ?_
 (rw [show (k - 11 : Int) = ((i : Nat) : Int) from (by omega)]; refine sP (B4 (j := i) rfl rfl rfl (by omega)) rfl rfl ?_)
 refine sL (A3 rfl rfl (hat3 _) hl3) rfl rfl ?_
 refine sS rfl rfl rfl hl3 ho3 rfl ?_ (hu := by exact C1 hl3.symm)
 refine sQ (qA rfl) rfl (sD (nS (tT (rB (rS ?_)))))
 refine C5 (rC rfl (A3 rfl rfl (A7 (by repeat first | exact mH | apply mT)) hl3)) (rT rfl) ?_
 (exact R6.yes (by rw [if_pos (by omega)]; unfold kd; rw [List.getD_eq_getElem?_getD, List.getElem?_eq_getElem (by omega), Option.getD_some]) hre3)
 refine O0 ?_
 refine C5 (rC rfl (A4 rfl rfl)) (rT rfl) ?_
 (exact R6.no (by rw [if_neg (by omega)]) (O4 _))
section
variable {P : Program} {Γ : M1} {K : Po} {ops : Array Oper} {env : M7} {hp : List A5} {G : IM}
theorem A4U {H : List (Nat × Nat)} {fuel j : Nat} {listed : List Bool} {hp' : List A5} {p : Option Addr} {c el sz n : Nat} {cs : List Value} (hk : Pk hp (.slc p c el sz n cs) hp')
  (h : ∀ G', B8 G G' → Sl G' p n c sz cs → (∀ b ∈ K2 p, G b = none ∧ G' b ≠ none) → U8 P Γ ops K H fuel listed j ⟨env, hp', G'⟩) : U8 P Γ ops K H fuel listed j ⟨env, hp, G⟩ :=
 ⟨fun a w hs => let ⟨G', h1, h2, h3, h4⟩ := hs.freeze hk; (h G' h2 h3 h4).run a w h1⟩
end
theorem B2.kids {G : IM} {t : Ty} {a : Value} {p : Option Addr} {n c : Nat} (h : B2 G t [a, .slice p n c]) : ∃ es, C9 G p t.ks.length c 2 es ∧ E0 G t.ks es := by
 obtain ⟨p', c', es, he, _, h1, h2⟩ := h.open
 simp only [List.cons.injEq, Value.slice.injEq, and_true] at he
 obtain ⟨_, rfl, _, rfl⟩ := he
 exact ⟨es, h1, h2⟩
def Y0 (k : Int) (ty fr : Ty) (lb : Int) (ks : List Tm) : Stp :=
 if k = 6 then
  (if S6 (kd ks 0) = true ∧ (kd ks 0).ty.k = 4 then (L1 (A0r 6 [kd (kd ks 0).ks 0, L1 (kd ks 1) (kt (kd ks 0).ty.ks 0) (kt (kd ks 0).fr.ks 0) (-(kd ks 0).lb)]) (kt (kd ks 0).fr.ks 1) (kt (kd ks 0).ty.ks 1) (kd ks 0).lb, 1, 0) else U5)
 else if k = 11 ∨ k = 12 then
  (if S6 (kd ks 0) = true ∧ (kd ks 0).ty.k = 5 then (L1 (A0r k [kd (kd ks 0).ks 0]) (kt (kd ks 0).fr.ks (k - 11).toNat) (kt (kd ks 0).ty.ks (k - 11).toNat) (kd ks 0).lb, 1, 0) else U5)
 else if k = 14 then
  (if fr.k = ty.k then (kd ks 0, 1, 0)
   else if ty.k = 1 then (L1 (L1 (kd ks 0) fr (A0a fr) lb) (A0a fr) ty lb, 1, 0)
   else if S9 ty = false then (L1 (L1 (kd ks 0) fr (A0a ty) lb) (A0a ty) ty lb, 1, 0)
   else if inj (kd ks 0) = false then U5
   else if (kd ks 0).fr.k = ty.k then (kd (kd ks 0).ks 0, 1, 0)
   else (I9, 2, lb))
 else U5
theorem B4i (k : Int) (ty fr : Ty) (lb : Int) (ks : List Tm) : Y8 k ty fr lb ks = match X1 k ks with | some u => (u, 1, 0) | none => Y0 k ty fr lb ks := by
 unfold Y8 X1 Y0
 by_cases h6 : k = 6
 ·rw [if_pos h6, if_pos h6, if_pos h6]
  by_cases h : (kd ks 0).k = 5
  ·rw [if_pos h, if_pos h]
  ·rw [if_neg h, if_neg h]
 rw [if_neg h6, if_neg h6, if_neg h6]
 by_cases h7 : k = 7 ∨ k = 8
 ·rw [if_pos h7, if_pos h7]
  by_cases h : (kd ks 0).k = 2 ∧ (kd ks 1).k = 2
  ·rw [if_pos h, if_pos h]
  ·rw [if_neg h, if_neg h]; simp only; rw [if_neg (by omega), if_neg (by omega)]
 rw [if_neg h7, if_neg h7]
 by_cases h9 : k = 9
 ·rw [if_pos h9, if_pos h9]
  by_cases h : (kd ks 0).k = 3
  ·rw [if_pos h, if_pos h]
  ·rw [if_neg h, if_neg h]
   by_cases h' : (kd ks 0).k = 4
   ·rw [if_pos h', if_pos h']
   ·rw [if_neg h', if_neg h']; simp only; rw [if_neg (by omega), if_neg (by omega)]
 rw [if_neg h9, if_neg h9]
 by_cases h11 : k = 11 ∨ k = 12
 ·rw [if_pos h11, if_pos h11, if_pos h11]
  by_cases h : (kd ks 0).k = 10
  ·rw [if_pos h, if_pos h]
  ·rw [if_neg h, if_neg h]
 rw [if_neg h11, if_neg h11, if_neg h11]
def R7 (r : Stp) : IM → Value → List A5 → Prop := L2 fun G' v => ∃ u cells, v = .tuple ⟨[.agg ⟨cells⟩, .int .i64 r.2.1, .int .i64 r.2.2]⟩ ∧ A8 G' u cells ∧ (r.2.1 = 1 → u = r.1)
theorem R7.mk {G : IM} {r : Stp} {u : Tm} {cells : List Value} {c l : Int} (h : r = (u, c, l)) (hr : A8 G u cells) : R7 r G (.tuple ⟨[.agg ⟨cells⟩, .int .i64 c, .int .i64 l]⟩) [] := by
 subst h; exact ⟨rfl, u, cells, rfl, hr, fun _ => rfl⟩
theorem A3T {ks : List Tm} {i : Nat} (h : i < ks.length) : kd ks i = ks[i] := by unfold kd; rw [List.getD_eq_getElem?_getD, List.getElem?_eq_getElem h, Option.getD_some]
theorem A0S {ks : List Ty} {i : Nat} (h : i < ks.length) : kt ks i = ks[i] := by unfold kt; rw [List.getD_eq_getElem?_getD, List.getElem?_eq_getElem h, Option.getD_some]
theorem A9Z {t : Ty} (h : S9 t = true) : t = A0a t := by
 unfold S9 at h
 rw [Bool.and_eq_true] at h
 exact (R2 _ _).1 h.2
theorem B4j (a b : Tm) (nm : ByteArray) (num : Int) (ty fr : Ty) (lb : Int) (G : IM) (cells : List Value) (hca : cv a) (hr : A8 G (.mk 6 nm num ty fr lb [a, b]) cells) : Fn Tryz.prog 221 [.agg ⟨cells⟩] [] G (R7 (Y0 6 ty fr lb [a, b])) := by
 obtain ⟨ak, anm, anum, ⟨atk, atks⟩, ⟨afk, afks⟩, alb, aks⟩ := a
 obtain ⟨hN, hkk⟩ := hca.node
 have hops := hN.ops
 have hbl := hN.lbB
 have htyA := hN.tyA
 have hfrA := hN.frA
 rw [D4] at htyA hfrA
 have h14 : ak = 14 → aks.length = 1 := fun h => by rw [h] at hops; have : D3 14 = 1 := rfl; omega
 obtain ⟨tk, tks⟩ := ty
 obtain ⟨fk, fks⟩ := fr
 obtain ⟨pt, ct, pf, cf, p, c, es, rfl, hk, hnum, hlb, hty, hfr, hsl, hkl⟩ := hr.open9
 obtain ⟨bx, ox, e0, rfl, hl0, hat0, hre0, hgb0⟩ := hsl.kidTm hkl (i := 0) (by simp) (by simp)
 replace hre0 : A8 G (Tm.mk ak anm anum (.mk atk atks) (.mk afk afks) alb aks) e0 := hre0
 have hP : Fn Tryz.prog 111 [.agg ⟨e0⟩] [] G (J3 (.bool (decide (ak = 14 ∧ afk = atk ∧ (atk = 4 ∨ atk = 5)))) G) := A2v _ G _ hre0
 obtain ⟨apt, act, apf, acf, ap, ac, aes, rfl, hak, hanum, halb, haty, hafr, hasl, hakl⟩ := hre0.open9
 obtain ⟨tes, htS, htL⟩ := haty.kids
 obtain ⟨fes, hfS, hfL⟩ := hafr.kids
 simp only [Ty.ks] at htS htL hfS hfL
 obtain ⟨_, _, e1, hp1, hl1, hat1, hre1, hgb1⟩ := hsl.kidTm hkl (i := 1) (by simp) (by simp)
 cases hp1
 replace hre1 : A8 G b e1 := hre1
 have ho1 := hre1.one
 have hR : Y0 6 (.mk tk tks) (.mk fk fks) lb [Tm.mk ak anm anum (.mk atk atks) (.mk afk afks) alb aks, b] = (if (ak = 14 ∧ afk = atk ∧ (atk = 4 ∨ atk = 5)) ∧ atk = 4 then (L1 (A0r 6 [kd aks 0, L1 b (kt atks 0) (kt afks 0) (-alb)]) (kt afks 1) (kt atks 1) alb, 1, 0) else U5) := by
  unfold Y0
  rw [if_pos rfl, show kd [Tm.mk ak anm anum (.mk atk atks) (.mk afk afks) alb aks, b] 0 = Tm.mk ak anm anum (.mk atk atks) (.mk afk afks) alb aks from rfl, A1I]
  simp only [decide_eq_true_eq]
  rfl
 rw [hR]
 refine B6 Tryz.func221 rfl Tryz.ntmps221 Tryz.results221 rfl ?_
 intro w0
 refine tS (tR ?_)
 refine sE (C4 rfl rfl) rfl (fun b3 => ?_)
 refine sE (A6 rfl) rfl (fun b4 => ?_)
 refine F8 ?_
 refine sP (B4 (j := 0) rfl rfl rfl (by simp)) rfl rfl ?_
 refine sL (A3 rfl rfl (hat0 _) rfl) rfl rfl ?_
 refine sE (A6 rfl) rfl (fun b15 => ?_)
 refine H6 ?_
 refine sD (nS (tS ?_))
 refine C3 ?_
 refine tS (tR (sQ (B5 rfl) rfl (sL (C7 rfl rfl) rfl rfl ?_)))
 refine sP (Q8 rfl rfl (by omega)) rfl rfl ?_
 refine sQ (qM rfl) rfl (sL (A4 rfl rfl) rfl rfl ?_)
 focus (by_cases hpx : (ak = 14 ∧ afk = atk ∧ (atk = 4 ∨ atk = 5)); rw [decide_eq_true hpx] at hP; rotate_left; rw [decide_eq_false hpx] at hP; rotate_left; all_goals (refine E8 rfl hP rfl rfl ?_))
 refine R0 ?_
 refine sB (qE rfl rfl) rfl rfl (fun h34 => ?_) (fun h34 => ?_)
 refine J9 ?_
 (have hq : (ak = 14 ∧ afk = atk ∧ (atk = 4 ∨ atk = 5)) ∧ atk = 4 := ⟨hpx, by omega⟩; have hq1 := h14 hq.1.1; have hq2 := htyA.1 (by omega); have hq3 := hfrA.1 (by omega); obtain ⟨bq, oq, e3, rfl, hl3, hat3, hre3, hgb3⟩ := hasl.kidTm hakl (i := 0) (by omega) (by omega); have ho3 := hre3.one; obtain ⟨b5, o5, q5, d5, rfl, hat5, hre5, hgb5⟩ := htS.kidTy htL (i := 0) (by omega) (by omega); obtain ⟨_, _, q6, d6, hp6, hat6, hre6, hgb6⟩ := htS.kidTy htL (i := 1) (by omega) (by omega); cases hp6; obtain ⟨b7, o7, q7, d7, rfl, hat7, hre7, hgb7⟩ := hfS.kidTy hfL (i := 0) (by omega) (by omega); obtain ⟨_, _, q8, d8, hp8, hat8, hre8, hgb8⟩ := hfS.kidTy hfL (i := 1) (by omega) (by omega); cases hp8; obtain ⟨x1, x2, x3, x4, x5, x6, x7, x8, x9, rfl⟩ := nine hl3; obtain ⟨y1, y2, y3, y4, y5, y6, y7, y8, y9, rfl⟩ := nine hl1; refine D1 D2 rfl ?_)
 refine I4 (i := 0) (l' := [tt,ff,ff,ff,ff,ff,ff,ff,ff,ff,ff,ff]) rfl C8 (B5 rfl) rfl (by kernel_rfl) rfl rfl ?_
 refine aL 1 rfl (C7 rfl rfl) rfl ?_
 refine aP 2 rfl (B4 (j := 0) rfl rfl rfl (by omega)) rfl ?_
 refine aL 3 rfl (A3 rfl rfl (hat3 _) rfl) rfl ?_
 refine aP 4 rfl (B5 rfl) rfl ?_
 refine aL 5 rfl (C7 rfl rfl) rfl ?_
 refine aP 6 rfl (B4 (j := 1) rfl rfl rfl (by simp)) rfl ?_
 refine aL 7 rfl (A3 rfl rfl (hat1 _) rfl) rfl ?_
 refine Q0 (j := 8) (j' := 9) (by kernel_rfl) ?_ ?_
 (refine D9 rfl (A6 rfl) rfl rfl ?_; rintro _ ⟨b51, rfl⟩)
 refine A2 9 ?_
 (refine D9 rfl (A6 rfl) rfl rfl ?_; rintro _ ⟨b53, rfl⟩)
 refine A2 10 ?_
 (refine oS rfl rfl rfl rfl rfl ho3 rfl rfl ?_ (hu := by exact C1 rfl.symm))
 refine A2 11 ?_
 (refine oS rfl rfl rfl rfl rfl ho1 rfl rfl ?_ (hu := by exact C1 rfl.symm))
 refine C0 (nS (tS ?_))
 refine D1 D2 rfl ?_
 refine N8 (i := 0) (l' := [tt,ff,ff,ff,ff,ff,ff,ff,ff,ff,ff,ff,ff,ff,ff,ff,ff,ff,ff,ff,ff,ff,ff,ff,ff,ff,ff,ff,ff,ff,ff,ff,ff,ff]) rfl C8 (A3 rfl rfl (A7 (by repeat first | exact mH | apply mT)) rfl) rfl (by kernel_rfl) rfl rfl ?_
 refine aL 1 rfl (A3 rfl rfl (A7 (by repeat first | exact mH | apply mT)) rfl) rfl ?_
 refine aP 2 rfl (B5 rfl) rfl ?_
 refine aP 3 rfl (qF rfl) rfl ?_
 refine aL 4 rfl (C7 rfl rfl) rfl ?_
 refine aP 5 rfl (B4 (j := 0) rfl rfl rfl (by omega)) rfl ?_
 refine aL 6 rfl (A3 rfl rfl (hat5 _) rfl) rfl ?_
 refine aP 7 rfl (B5 rfl) rfl ?_
 refine aP 8 rfl (qF rfl) rfl ?_
 refine aL 9 rfl (C7 rfl rfl) rfl ?_
 refine aP 10 rfl (B4 (j := 0) rfl rfl rfl (by omega)) rfl ?_
 refine aL 11 rfl (A3 rfl rfl (hat7 _) rfl) rfl ?_
 refine aP 12 rfl (B5 rfl) rfl ?_
 refine aL 13 rfl (C7 rfl rfl) rfl ?_
 refine aP 14 rfl (A3n rfl (by omega) (by omega)) rfl ?_
 refine aP 18 rfl (B5 rfl) rfl ?_
 refine aP 19 rfl (qF rfl) rfl ?_
 refine aL 20 rfl (C7 rfl rfl) rfl ?_
 refine aP 21 rfl (B4 (j := 1) rfl rfl rfl (by omega)) rfl ?_
 refine aL 22 rfl (A3 rfl rfl (hat8 _) rfl) rfl ?_
 refine aP 23 rfl (B5 rfl) rfl ?_
 refine aP 24 rfl (qF rfl) rfl ?_
 refine aL 25 rfl (C7 rfl rfl) rfl ?_
 refine aP 26 rfl (B4 (j := 1) rfl rfl rfl (by omega)) rfl ?_
 refine aL 27 rfl (A3 rfl rfl (hat6 _) rfl) rfl ?_
 refine aP 28 rfl (B5 rfl) rfl ?_
 refine aL 29 rfl (C7 rfl rfl) rfl ?_
 refine A2 15 ?_
 (refine E3 rfl rfl (A0R b atks[0] afks[0] (-alb) G _ _ _ ⟨by omega, by omega⟩ hre1 hre5 hre7) rfl rfl rfl (fun u G1 hle1 hh => ?_); obtain ⟨uc, rfl, hru⟩ := hh; have hul := hru.len; have huo := hru.one; obtain ⟨z1, z2, z3, z4, z5, z6, z7, z8, z9, rfl⟩ := nine hul; replace hre3 := hre3.mono hle1; replace hre6 := hre6.mono hle1; replace hre8 := hre8.mono hle1)
 refine A2 16 ?_
 (refine D9 rfl (D0 rfl rfl rfl (by omega) (by unfold maxLen; omega) rfl) rfl rfl ?_; rintro _ ⟨b92, rfl⟩)
 refine A2 17 ?_
 (refine A4U (cs := [x1, x2, x3, x4, x5, x6, x7, x8, x9, z1, z2, z3, z4, z5, z6, z7, z8, z9]) (by repeat (first | exact Pk.here | apply Pk.there)) (fun G2 hle2 hsl2 hno2 => ?_); have hrN := A3O (k := 6) (ks := [aks[0], L1 b atks[0] afks[0] (-alb)]) (es := [[x1, x2, x3, x4, x5, x6, x7, x8, x9], [z1, z2, z3, z4, z5, z6, z7, z8, z9]]) ⟨by decide, by decide⟩ rfl (C9.of hsl2 rfl (by simp) (by intro x hx; rcases List.mem_cons.1 hx with rfl | hx; exact ho3; obtain rfl := List.mem_singleton.1 hx; exact huo)) (by simp only [E5]; exact ⟨_, _, rfl, hre3.mono hle2, _, _, rfl, hru.mono hle2, rfl⟩); replace hre6 := hre6.mono hle2; replace hre8 := hre8.mono hle2; refine J0 rfl rfl (A25 _ _ _ _ _) rfl rfl rfl ?_)
 refine A2 30 ?_
 (refine E3 rfl rfl (A0R _ afks[1] atks[1] alb G2 _ _ _ ⟨by omega, by omega⟩ hrN hre8 hre6) rfl rfl rfl (fun u G3 hle3 hh => ?_); obtain ⟨wc, rfl, hrw⟩ := hh; have hwl := hrw.len; have hwo := hrw.one)
 refine A2 31 ?_
 (refine oS rfl rfl rfl rfl hwl hwo rfl rfl ?_ (hu := by exact C1 hwl.symm))
 refine aP 32 rfl (qA rfl) rfl ?_
 refine aP 33 rfl (qA rfl) rfl ?_
 refine C0 (nS (tT (rB (rS ?_))))
 refine I0 (rC rfl (A3 rfl rfl (A7 (by repeat first | exact mH | apply mT)) hwl)) (rT rfl) (rT rfl) ?_
 (exact R7.mk (by rw [if_pos hq, A3T (by omega), A0S (by omega), A0S (by omega), A0S (by omega), A0S (by omega)]) hrw)
 (refine D9 rfl (A6 rfl) rfl rfl ?_; rintro _ ⟨b108, rfl⟩)
 refine A2 8 ?_
 (refine D9 rfl (A6 rfl) rfl rfl ?_; rintro _ ⟨b110, rfl⟩)
 refine A2 10 ?_
 (refine oS rfl rfl rfl rfl rfl ho3 rfl rfl ?_ (hu := by exact C1 rfl.symm))
 refine A2 11 ?_
 (refine oS rfl rfl rfl rfl rfl ho1 rfl rfl ?_ (hu := by exact C1 rfl.symm))
 refine C0 (nS (tS ?_))
 refine D1 D2 rfl ?_
 refine N8 (i := 0) (l' := [tt,ff,ff,ff,ff,ff,ff,ff,ff,ff,ff,ff,ff,ff,ff,ff,ff,ff,ff,ff,ff,ff,ff,ff,ff,ff,ff,ff,ff,ff,ff,ff,ff,ff]) rfl C8 (A3 rfl rfl (A7 (by repeat first | exact mH | apply mT)) rfl) rfl (by kernel_rfl) rfl rfl ?_
 refine aL 1 rfl (A3 rfl rfl (A7 (by repeat first | exact mH | apply mT)) rfl) rfl ?_
 refine aP 2 rfl (B5 rfl) rfl ?_
 refine aP 3 rfl (qF rfl) rfl ?_
 refine aL 4 rfl (C7 rfl rfl) rfl ?_
 refine aP 5 rfl (B4 (j := 0) rfl rfl rfl (by omega)) rfl ?_
 refine aL 6 rfl (A3 rfl rfl (hat5 _) rfl) rfl ?_
 refine aP 7 rfl (B5 rfl) rfl ?_
 refine aP 8 rfl (qF rfl) rfl ?_
 refine aL 9 rfl (C7 rfl rfl) rfl ?_
 refine aP 10 rfl (B4 (j := 0) rfl rfl rfl (by omega)) rfl ?_
 refine aL 11 rfl (A3 rfl rfl (hat7 _) rfl) rfl ?_
 refine aP 12 rfl (B5 rfl) rfl ?_
 refine aL 13 rfl (C7 rfl rfl) rfl ?_
 refine aP 14 rfl (A3n rfl (by omega) (by omega)) rfl ?_
 refine aP 18 rfl (B5 rfl) rfl ?_
 refine aP 19 rfl (qF rfl) rfl ?_
 refine aL 20 rfl (C7 rfl rfl) rfl ?_
 refine aP 21 rfl (B4 (j := 1) rfl rfl rfl (by omega)) rfl ?_
 refine aL 22 rfl (A3 rfl rfl (hat8 _) rfl) rfl ?_
 refine aP 23 rfl (B5 rfl) rfl ?_
 refine aP 24 rfl (qF rfl) rfl ?_
 refine aL 25 rfl (C7 rfl rfl) rfl ?_
 refine aP 26 rfl (B4 (j := 1) rfl rfl rfl (by omega)) rfl ?_
 refine aL 27 rfl (A3 rfl rfl (hat6 _) rfl) rfl ?_
 refine aP 28 rfl (B5 rfl) rfl ?_
 refine aL 29 rfl (C7 rfl rfl) rfl ?_
 refine A2 15 ?_
 (refine E3 rfl rfl (A0R b atks[0] afks[0] (-alb) G _ _ _ ⟨by omega, by omega⟩ hre1 hre5 hre7) rfl rfl rfl (fun u G1 hle1 hh => ?_); obtain ⟨uc, rfl, hru⟩ := hh; have hul := hru.len; have huo := hru.one; obtain ⟨z1, z2, z3, z4, z5, z6, z7, z8, z9, rfl⟩ := nine hul; replace hre3 := hre3.mono hle1; replace hre6 := hre6.mono hle1; replace hre8 := hre8.mono hle1)
 refine A2 16 ?_
 (refine D9 rfl (D0 rfl rfl rfl (by omega) (by unfold maxLen; omega) rfl) rfl rfl ?_; rintro _ ⟨b149, rfl⟩)
 refine A2 17 ?_
 (refine A4U (cs := [x1, x2, x3, x4, x5, x6, x7, x8, x9, z1, z2, z3, z4, z5, z6, z7, z8, z9]) (by repeat (first | exact Pk.here | apply Pk.there)) (fun G2 hle2 hsl2 hno2 => ?_); have hrN := A3O (k := 6) (ks := [aks[0], L1 b atks[0] afks[0] (-alb)]) (es := [[x1, x2, x3, x4, x5, x6, x7, x8, x9], [z1, z2, z3, z4, z5, z6, z7, z8, z9]]) ⟨by decide, by decide⟩ rfl (C9.of hsl2 rfl (by simp) (by intro x hx; rcases List.mem_cons.1 hx with rfl | hx; exact ho3; obtain rfl := List.mem_singleton.1 hx; exact huo)) (by simp only [E5]; exact ⟨_, _, rfl, hre3.mono hle2, _, _, rfl, hru.mono hle2, rfl⟩); replace hre6 := hre6.mono hle2; replace hre8 := hre8.mono hle2; refine J0 rfl rfl (A25 _ _ _ _ _) rfl rfl rfl ?_)
 refine A2 30 ?_
 (refine E3 rfl rfl (A0R _ afks[1] atks[1] alb G2 _ _ _ ⟨by omega, by omega⟩ hrN hre8 hre6) rfl rfl rfl (fun u G3 hle3 hh => ?_); obtain ⟨wc, rfl, hrw⟩ := hh; have hwl := hrw.len; have hwo := hrw.one)
 refine A2 31 ?_
 (refine oS rfl rfl rfl rfl hwl hwo rfl rfl ?_ (hu := by exact C1 hwl.symm))
 refine aP 32 rfl (qA rfl) rfl ?_
 refine aP 33 rfl (qA rfl) rfl ?_
 refine C0 (nS (tT (rB (rS ?_))))
 refine I0 (rC rfl (A3 rfl rfl (A7 (by repeat first | exact mH | apply mT)) hwl)) (rT rfl) (rT rfl) ?_
 (exact R7.mk (by rw [if_pos hq, A3T (by omega), A0S (by omega), A0S (by omega), A0S (by omega), A0S (by omega)]) hrw)
 refine D8 ?_
 refine sP (E6 rfl rfl (by omega)) rfl rfl ?_
 refine H9 ?_
 refine sP (E6 rfl rfl (by omega)) rfl rfl ?_
 refine A0m ?_
 refine sP (W7 rfl rfl (by omega)) rfl rfl ?_
 refine K0 ?_
 refine I0 (rC rfl (A4 rfl rfl)) (rT rfl) (rT rfl) ?_
 (exact R7.mk (by rw [if_neg (by omega)]; rfl) (O4 _))
 refine K0 ?_
 refine sP (E6 rfl rfl (by omega)) rfl rfl ?_
 refine H9 ?_
 refine sP (E6 rfl rfl (by omega)) rfl rfl ?_
 refine A0m ?_
 refine sP (W7 rfl rfl (by omega)) rfl rfl ?_
 refine K0 ?_
 refine I0 (rC rfl (A4 rfl rfl)) (rT rfl) (rT rfl) ?_
 (exact R7.mk (by rw [if_neg (by omega)]; rfl) (O4 _))
theorem A90 (k : Int) (a : Tm) (nm : ByteArray) (num : Int) (ty fr : Ty) (lb : Int) (G : IM) (cells : List Value) (hk1 : k = 11 ∨ k = 12) (hca : cv a) (hr : A8 G (.mk k nm num ty fr lb [a]) cells) : Fn Tryz.prog 221 [.agg ⟨cells⟩] [] G (R7 (Y0 k ty fr lb [a])) := by
 obtain ⟨ak, anm, anum, ⟨atk, atks⟩, ⟨afk, afks⟩, alb, aks⟩ := a
 obtain ⟨hN, hkk⟩ := hca.node
 have hops := hN.ops
 have hbl := hN.lbB
 have htyA := hN.tyA
 have hfrA := hN.frA
 rw [D4] at htyA hfrA
 have h14 : ak = 14 → aks.length = 1 := fun h => by rw [h] at hops; have : D3 14 = 1 := rfl; omega
 obtain ⟨tk, tks⟩ := ty
 obtain ⟨fk, fks⟩ := fr
 obtain ⟨pt, ct, pf, cf, p, c, es, rfl, hk, hnum, hlb, hty, hfr, hsl, hkl⟩ := hr.open9
 obtain ⟨bx, ox, e0, rfl, hl0, hat0, hre0, hgb0⟩ := hsl.kidTm hkl (i := 0) (by simp) (by simp)
 replace hre0 : A8 G (Tm.mk ak anm anum (.mk atk atks) (.mk afk afks) alb aks) e0 := hre0
 have hP : Fn Tryz.prog 111 [.agg ⟨e0⟩] [] G (J3 (.bool (decide (ak = 14 ∧ afk = atk ∧ (atk = 4 ∨ atk = 5)))) G) := A2v _ G _ hre0
 have hI := A3P _ G _ hre0
 have ho0 := hre0.one
 obtain ⟨apt, act, apf, acf, ap, ac, aes, rfl, hak, hanum, halb, haty, hafr, hasl, hakl⟩ := hre0.open9
 have hfk64 : E9 fk := by obtain ⟨_, _, _, _, h, _⟩ := hfr.open; exact h
 have htk64 : E9 tk := by obtain ⟨_, _, _, _, h, _⟩ := hty.open; exact h
 obtain ⟨tes, htS, htL⟩ := haty.kids
 obtain ⟨fes, hfS, hfL⟩ := hafr.kids
 simp only [Ty.ks] at htS htL hfS hfL
 obtain ⟨i, hi⟩ : ∃ i : Nat, (k - 11).toNat = i := ⟨_, rfl⟩
 have hR : Y0 k (.mk tk tks) (.mk fk fks) lb [Tm.mk ak anm anum (.mk atk atks) (.mk afk afks) alb aks] = (if (ak = 14 ∧ afk = atk ∧ (atk = 4 ∨ atk = 5)) ∧ atk = 5 then (L1 (A0r k [kd aks 0]) (kt afks i) (kt atks i) alb, 1, 0) else U5) := by
  unfold Y0
  rw [if_neg (by omega), if_pos hk1, hi, show kd [Tm.mk ak anm anum (.mk atk atks) (.mk afk afks) alb aks] 0 = Tm.mk ak anm anum (.mk atk atks) (.mk afk afks) alb aks from rfl, A1I]
  simp only [decide_eq_true_eq]
  rfl
 rw [hR]
 refine B6 Tryz.func221 rfl Tryz.ntmps221 Tryz.results221 rfl ?_
 intro w0
 refine tS (tR ?_)
 refine sE (C4 rfl rfl) rfl (fun b3 => ?_)
 refine sE (A6 rfl) rfl (fun b4 => ?_)
 refine F8 ?_
 refine sP (B4 (j := 0) rfl rfl rfl (by simp)) rfl rfl ?_
 refine sL (A3 rfl rfl (hat0 _) rfl) rfl rfl ?_
 refine sE (A6 rfl) rfl (fun b15 => ?_)
 refine H6 ?_
 refine sD (nS (tS ?_))
 refine C3 ?_
 refine tS (tR (sQ (B5 rfl) rfl (sL (C7 rfl rfl) rfl rfl ?_)))
 refine sP (E6 rfl rfl (by omega)) rfl rfl ?_
 refine U9 ?_
 refine sB (qE rfl rfl) rfl rfl (fun h44 => ?_) (fun h44 => ?_)
 refine D5 ?_
 focus (by_cases hpx : (ak = 14 ∧ afk = atk ∧ (atk = 4 ∨ atk = 5)); rw [decide_eq_true hpx] at hP; rotate_left; rw [decide_eq_false hpx] at hP; rotate_left; all_goals (refine E8 rfl hP rfl rfl ?_))
 refine R0 ?_
 refine sB (qE rfl rfl) rfl rfl (fun h58 => ?_) (fun h58 => ?_)
 refine D8 ?_
 refine sP (O8 rfl rfl (by omega) (by omega)) rfl rfl ?_
 refine sQ (qA rfl) rfl (sD (nS (tS ?_)))
 (have hq : (ak = 14 ∧ afk = atk ∧ (atk = 4 ∨ atk = 5)) ∧ atk = 5 := ⟨hpx, by omega⟩; have hq1 := h14 hq.1.1; have hq2 := htyA.1 (by omega); have hq3 := hfrA.1 (by omega); rw [show (k - 11 : Int) = ((i : Nat) : Int) from (by omega)]; obtain ⟨bq, oq, e3, rfl, hl3, hat3, hre3, hgb3⟩ := hasl.kidTm hakl (i := 0) (by omega) (by omega); have ho3 := hre3.one; obtain ⟨b5, o5, q5, d5, rfl, hat5, hre5, hgb5⟩ := htS.kidTy htL (i := i) (by omega) (by omega); obtain ⟨b7, o7, q7, d7, rfl, hat7, hre7, hgb7⟩ := hfS.kidTy hfL (i := i) (by omega) (by omega); obtain ⟨x1, x2, x3, x4, x5, x6, x7, x8, x9, rfl⟩ := nine hl3; refine D1 D2 rfl ?_)
 refine I4 (i := 0) (l' := [tt,ff,ff,ff,ff,ff,ff,ff,ff,ff,ff,ff,ff,ff,ff,ff,ff,ff,ff,ff,ff,ff,ff,ff,ff,ff]) rfl C8 (B5 rfl) rfl (by kernel_rfl) rfl rfl ?_
 refine aL 1 rfl (C7 rfl rfl) rfl ?_
 refine aP 2 rfl (B5 rfl) rfl ?_
 refine aL 3 rfl (C7 rfl rfl) rfl ?_
 refine aP 4 rfl (B4 (j := 0) rfl rfl rfl (by omega)) rfl ?_
 refine aL 5 rfl (A3 rfl rfl (hat3 _) rfl) rfl ?_
 refine aP 8 rfl (B5 rfl) rfl ?_
 refine aP 9 rfl (qF rfl) rfl ?_
 refine aL 10 rfl (C7 rfl rfl) rfl ?_
 refine aP 11 rfl (qM rfl) rfl ?_
 refine aP 12 rfl (B4 (j := i) rfl rfl rfl (by omega)) rfl ?_
 refine aL 13 rfl (A3 rfl rfl (hat7 _) rfl) rfl ?_
 refine aP 14 rfl (B5 rfl) rfl ?_
 refine aP 15 rfl (qF rfl) rfl ?_
 refine aL 16 rfl (C7 rfl rfl) rfl ?_
 refine aP 17 rfl (qM rfl) rfl ?_
 refine aP 18 rfl (B4 (j := i) rfl rfl rfl (by omega)) rfl ?_
 refine aL 19 rfl (A3 rfl rfl (hat5 _) rfl) rfl ?_
 refine aP 20 rfl (B5 rfl) rfl ?_
 refine aL 21 rfl (C7 rfl rfl) rfl ?_
 refine A2 6 ?_
 (refine D9 rfl (D0 rfl rfl rfl (by omega) (by unfold maxLen; omega) rfl) rfl rfl ?_; rintro _ ⟨b95, rfl⟩)
 refine A2 7 ?_
 (refine A4U (cs := [x1, x2, x3, x4, x5, x6, x7, x8, x9]) (by repeat (first | exact Pk.here | apply Pk.there)) (fun G2 hle2 hsl2 hno2 => ?_); have hrN := A3O (k := k) (ks := [aks[0]]) (es := [[x1, x2, x3, x4, x5, x6, x7, x8, x9]]) hk rfl (C9.of hsl2 rfl (by simp) (by intro x hx; obtain rfl := List.mem_singleton.1 hx; exact ho3)) (by simp only [E5]; exact ⟨_, _, rfl, hre3.mono hle2, rfl⟩); replace hre5 := hre5.mono hle2; replace hre7 := hre7.mono hle2; refine J0 rfl rfl (A25 _ _ _ _ _) rfl rfl rfl ?_)
 refine A2 22 ?_
 (refine E3 rfl rfl (A0R _ afks[i] atks[i] alb G2 _ _ _ ⟨by omega, by omega⟩ hrN hre7 hre5) rfl rfl rfl (fun u G3 hle3 hh => ?_); obtain ⟨wc, rfl, hrw⟩ := hh; have hwl := hrw.len; have hwo := hrw.one)
 refine A2 23 ?_
 (refine oS rfl rfl rfl rfl hwl hwo rfl rfl ?_ (hu := by exact C1 hwl.symm))
 refine aP 24 rfl (qA rfl) rfl ?_
 refine aP 25 rfl (qA rfl) rfl ?_
 refine C0 (nS (tT (rB (rS ?_))))
 refine I0 (rC rfl (A3 rfl rfl (A7 (by repeat first | exact mH | apply mT)) hwl)) (rT rfl) (rT rfl) ?_
 (exact R7.mk (by rw [if_pos hq, A3T (by omega), A0S (by omega), A0S (by omega)]) hrw)
 refine D8 ?_
 refine sP (W7 rfl rfl (by omega)) rfl rfl ?_
 refine K0 ?_
 refine I0 (rC rfl (A4 rfl rfl)) (rT rfl) (rT rfl) ?_
 (exact R7.mk (by rw [if_neg (by omega)]; rfl) (O4 _))
 refine K0 ?_
 refine sP (W7 rfl rfl (by omega)) rfl rfl ?_
 refine K0 ?_
 refine I0 (rC rfl (A4 rfl rfl)) (rT rfl) (rT rfl) ?_
 (exact R7.mk (by rw [if_neg (by omega)]; rfl) (O4 _))
 refine H9 ?_
 refine sP (Q8 rfl rfl (by omega)) rfl rfl ?_
 refine H9 ?_
 focus (by_cases hpx : (ak = 14 ∧ afk = atk ∧ (atk = 4 ∨ atk = 5)); rw [decide_eq_true hpx] at hP; rotate_left; rw [decide_eq_false hpx] at hP; rotate_left; all_goals (refine E8 rfl hP rfl rfl ?_))
 refine R0 ?_
 refine sB (qE rfl rfl) rfl rfl (fun h184 => ?_) (fun h184 => ?_)
 refine D8 ?_
 refine sP (O8 rfl rfl (by omega) (by omega)) rfl rfl ?_
 refine sQ (qA rfl) rfl (sD (nS (tS ?_)))
 (have hq : (ak = 14 ∧ afk = atk ∧ (atk = 4 ∨ atk = 5)) ∧ atk = 5 := ⟨hpx, by omega⟩; have hq1 := h14 hq.1.1; have hq2 := htyA.1 (by omega); have hq3 := hfrA.1 (by omega); rw [show (k - 11 : Int) = ((i : Nat) : Int) from (by omega)]; obtain ⟨bq, oq, e3, rfl, hl3, hat3, hre3, hgb3⟩ := hasl.kidTm hakl (i := 0) (by omega) (by omega); have ho3 := hre3.one; obtain ⟨b5, o5, q5, d5, rfl, hat5, hre5, hgb5⟩ := htS.kidTy htL (i := i) (by omega) (by omega); obtain ⟨b7, o7, q7, d7, rfl, hat7, hre7, hgb7⟩ := hfS.kidTy hfL (i := i) (by omega) (by omega); obtain ⟨x1, x2, x3, x4, x5, x6, x7, x8, x9, rfl⟩ := nine hl3; refine D1 D2 rfl ?_)
 refine I4 (i := 0) (l' := [tt,ff,ff,ff,ff,ff,ff,ff,ff,ff,ff,ff,ff,ff,ff,ff,ff,ff,ff,ff,ff,ff,ff,ff,ff,ff]) rfl C8 (B5 rfl) rfl (by kernel_rfl) rfl rfl ?_
 refine aL 1 rfl (C7 rfl rfl) rfl ?_
 refine aP 2 rfl (B5 rfl) rfl ?_
 refine aL 3 rfl (C7 rfl rfl) rfl ?_
 refine aP 4 rfl (B4 (j := 0) rfl rfl rfl (by omega)) rfl ?_
 refine aL 5 rfl (A3 rfl rfl (hat3 _) rfl) rfl ?_
 refine aP 8 rfl (B5 rfl) rfl ?_
 refine aP 9 rfl (qF rfl) rfl ?_
 refine aL 10 rfl (C7 rfl rfl) rfl ?_
 refine aP 11 rfl (qM rfl) rfl ?_
 refine aP 12 rfl (B4 (j := i) rfl rfl rfl (by omega)) rfl ?_
 refine aL 13 rfl (A3 rfl rfl (hat7 _) rfl) rfl ?_
 refine aP 14 rfl (B5 rfl) rfl ?_
 refine aP 15 rfl (qF rfl) rfl ?_
 refine aL 16 rfl (C7 rfl rfl) rfl ?_
 refine aP 17 rfl (qM rfl) rfl ?_
 refine aP 18 rfl (B4 (j := i) rfl rfl rfl (by omega)) rfl ?_
 refine aL 19 rfl (A3 rfl rfl (hat5 _) rfl) rfl ?_
 refine aP 20 rfl (B5 rfl) rfl ?_
 refine aL 21 rfl (C7 rfl rfl) rfl ?_
 refine A2 6 ?_
 (refine D9 rfl (D0 rfl rfl rfl (by omega) (by unfold maxLen; omega) rfl) rfl rfl ?_; rintro _ ⟨b221, rfl⟩)
 refine A2 7 ?_
 (refine A4U (cs := [x1, x2, x3, x4, x5, x6, x7, x8, x9]) (by repeat (first | exact Pk.here | apply Pk.there)) (fun G2 hle2 hsl2 hno2 => ?_); have hrN := A3O (k := k) (ks := [aks[0]]) (es := [[x1, x2, x3, x4, x5, x6, x7, x8, x9]]) hk rfl (C9.of hsl2 rfl (by simp) (by intro x hx; obtain rfl := List.mem_singleton.1 hx; exact ho3)) (by simp only [E5]; exact ⟨_, _, rfl, hre3.mono hle2, rfl⟩); replace hre5 := hre5.mono hle2; replace hre7 := hre7.mono hle2; refine J0 rfl rfl (A25 _ _ _ _ _) rfl rfl rfl ?_)
 refine A2 22 ?_
 (refine E3 rfl rfl (A0R _ afks[i] atks[i] alb G2 _ _ _ ⟨by omega, by omega⟩ hrN hre7 hre5) rfl rfl rfl (fun u G3 hle3 hh => ?_); obtain ⟨wc, rfl, hrw⟩ := hh; have hwl := hrw.len; have hwo := hrw.one)
 refine A2 23 ?_
 (refine oS rfl rfl rfl rfl hwl hwo rfl rfl ?_ (hu := by exact C1 hwl.symm))
 refine aP 24 rfl (qA rfl) rfl ?_
 refine aP 25 rfl (qA rfl) rfl ?_
 refine C0 (nS (tT (rB (rS ?_))))
 refine I0 (rC rfl (A3 rfl rfl (A7 (by repeat first | exact mH | apply mT)) hwl)) (rT rfl) (rT rfl) ?_
 (exact R7.mk (by rw [if_pos hq, A3T (by omega), A0S (by omega), A0S (by omega)]) hrw)
 refine D8 ?_
 refine sP (W7 rfl rfl (by omega)) rfl rfl ?_
 refine K0 ?_
 refine I0 (rC rfl (A4 rfl rfl)) (rT rfl) (rT rfl) ?_
 (exact R7.mk (by rw [if_neg (by omega)]; rfl) (O4 _))
 refine K0 ?_
 refine sP (W7 rfl rfl (by omega)) rfl rfl ?_
 refine K0 ?_
 refine I0 (rC rfl (A4 rfl rfl)) (rT rfl) (rT rfl) ?_
 (exact R7.mk (by rw [if_neg (by omega)]; rfl) (O4 _))
theorem A91 {t : Tm} (h : inj t = true) : t.k = 14 := by
 unfold inj at h
 simp only [Bool.and_eq_true, decide_eq_true_eq] at h
 exact h.1.1
theorem B4k {t u : Ty} (h : S9 t = true) (h' : S9 u = true) : H7 t u = decide (t.k = u.k) := by
 have e1 := A9Z h
 have e2 := A9Z h'
 by_cases hk : t.k = u.k
 ·rw [decide_eq_true hk, R2, e1, e2]
  unfold A0a; rw [hk]
 ·rw [decide_eq_false hk]
  cases hs : H7 t u with
  | false => rfl
  | true => exact absurd (congrArg Ty.k ((R2 _ _).1 hs)) hk
theorem A92 {t : Tm} (h : inj t = true) : S9 t.fr = true := by
 unfold inj at h
 rw [Bool.and_eq_true] at h
 exact h.2
theorem B4l (a : Tm) (nm : ByteArray) (num : Int) (ty fr : Ty) (lb : Int) (G : IM) (cells : List Value) (hca : cv a) (hlb9 : -99 ≤ lb ∧ lb ≤ 99) (hr : A8 G (.mk 14 nm num ty fr lb [a]) cells) : Fn Tryz.prog 221 [.agg ⟨cells⟩] [] G (R7 (Y0 14 ty fr lb [a])) := by
 have hji := @A92 a
 have hjk := @A91 a
 obtain ⟨ak, anm, anum, ⟨atk, atks⟩, ⟨afk, afks⟩, alb, aks⟩ := a
 obtain ⟨hN, hkk⟩ := hca.node
 have hops := hN.ops
 have hbl := hN.lbB
 have htyA := hN.tyA
 have hfrA := hN.frA
 rw [D4] at htyA hfrA
 have h14 : ak = 14 → aks.length = 1 := fun h => by rw [h] at hops; have : D3 14 = 1 := rfl; omega
 obtain ⟨tk, tks⟩ := ty
 obtain ⟨fk, fks⟩ := fr
 obtain ⟨pt, ct, pf, cf, p, c, es, rfl, hk, hnum, hlb, hty, hfr, hsl, hkl⟩ := hr.open9
 obtain ⟨bx, ox, e0, rfl, hl0, hat0, hre0, hgb0⟩ := hsl.kidTm hkl (i := 0) (by simp) (by simp)
 replace hre0 : A8 G (Tm.mk ak anm anum (.mk atk atks) (.mk afk afks) alb aks) e0 := hre0
 have hP : Fn Tryz.prog 111 [.agg ⟨e0⟩] [] G (J3 (.bool (decide (ak = 14 ∧ afk = atk ∧ (atk = 4 ∨ atk = 5)))) G) := A2v _ G _ hre0
 have hI := A3P _ G _ hre0
 have ho0 := hre0.one
 obtain ⟨apt, act, apf, acf, ap, ac, aes, rfl, hak, hanum, halb, haty, hafr, hasl, hakl⟩ := hre0.open9
 have hfk64 : E9 fk := by obtain ⟨_, _, _, _, h, _⟩ := hfr.open; exact h
 have htk64 : E9 tk := by obtain ⟨_, _, _, _, h, _⟩ := hty.open; exact h
 obtain ⟨tes, htS, htL⟩ := haty.kids
 obtain ⟨fes, hfS, hfL⟩ := hafr.kids
 simp only [Ty.ks] at htS htL hfS hfL
 obtain ⟨J, hJ⟩ : ∃ J, inj (Tm.mk ak anm anum (.mk atk atks) (.mk afk afks) alb aks) = J := ⟨_, rfl⟩
 obtain ⟨D, hD⟩ : ∃ D, S9 (.mk tk tks) = D := ⟨_, rfl⟩
 have hGr := A83 _ G _ hty
 rw [hD] at hGr
 rw [hJ] at hI hji hjk
 have hR : Y0 14 (.mk tk tks) (.mk fk fks) lb [Tm.mk ak anm anum (.mk atk atks) (.mk afk afks) alb aks] = (if fk = tk then (Tm.mk ak anm anum (.mk atk atks) (.mk afk afks) alb aks, 1, 0)
   else if tk = 1 then (L1 (L1 (Tm.mk ak anm anum (.mk atk atks) (.mk afk afks) alb aks) (.mk fk fks) (mGk fk) lb) (mGk fk) (.mk tk tks) lb, 1, 0)
   else if D = false then (L1 (L1 (Tm.mk ak anm anum (.mk atk atks) (.mk afk afks) alb aks) (.mk fk fks) (mGk tk) lb) (mGk tk) (.mk tk tks) lb, 1, 0)
   else if J = false then U5
   else if afk = tk then (kd aks 0, 1, 0)
   else (I9, 2, lb)) := by
  rw [← hJ, ← hD]; rfl
 rw [hR]
 have hSm : J = true → D = true → H7 (.mk afk afks) (.mk tk tks) = decide (afk = tk) := fun h1 h2 => B4k (hji h1) (hD.trans h2)
 have hTS := A2W (.mk afk afks) (.mk tk tks) G _ _ hafr hty
 refine B6 Tryz.func221 rfl Tryz.ntmps221 Tryz.results221 rfl ?_
 intro w0
 refine tS (tR ?_)
 refine sE (C4 rfl rfl) rfl (fun b3 => ?_)
 refine sE (A6 rfl) rfl (fun b4 => ?_)
 refine F8 ?_
 refine sP (B4 (j := 0) rfl rfl rfl (by simp)) rfl rfl ?_
 refine sL (A3 rfl rfl (hat0 _) rfl) rfl rfl ?_
 refine sE (A6 rfl) rfl (fun b15 => ?_)
 refine H6 ?_
 refine sD (nS (tS ?_))
 refine C3 ?_
 refine tS (tR (sQ (B5 rfl) rfl (sL (C7 rfl rfl) rfl rfl ?_)))
 refine sP (E6 rfl rfl (by omega)) rfl rfl ?_
 refine U9 ?_
 refine sP (E6 rfl rfl (by omega)) rfl rfl ?_
 refine H9 ?_
 refine sP (E6 rfl rfl (by omega)) rfl rfl ?_
 refine A0m ?_
 refine sP (A1y rfl rfl (by omega)) rfl rfl ?_
 refine N2 ?_
 refine sB (qE rfl rfl) rfl rfl (fun h81 => ?_) (fun h81 => ?_)
 refine K0 ?_
 refine I0 (rC rfl (A4 rfl rfl)) (rT rfl) (rT rfl) ?_
 (exact R7.mk (by rw [if_pos (by omega)]) hre0)
 refine D8 ?_
 refine sB (qE rfl rfl) rfl rfl (fun h108 => ?_) (fun h108 => ?_)
 refine D8 ?_
 (refine D7 rfl (A59 fk G hfk64) rfl rfl (fun u G1 hle1 hh => ?_); obtain ⟨gc, rfl, hrg⟩ := hh; obtain ⟨pg, cg, eg, rfl, _⟩ := hrg.open; have hgk : tk = 1 := (by omega); replace hre0 := hre0.mono hle1; replace hfr := hfr.mono hle1; replace hty := hty.mono hle1)
 refine sE (A6 rfl) rfl (fun b119 => ?_)
 refine H6 ?_
 refine sD (nS (tS ?_))
 refine D1 D2 rfl ?_
 refine N8 (i := 0) (l' := [tt,ff,ff,ff,ff,ff,ff,ff,ff,ff,ff,ff,ff,ff,ff,ff]) rfl C8 (A3 rfl rfl (A7 (by repeat first | exact mH | apply mT)) rfl) rfl (by kernel_rfl) rfl rfl ?_
 refine aL 3 rfl (A3 rfl rfl (A7 (by repeat first | exact mH | apply mT)) rfl) rfl ?_
 refine aL 7 rfl (A3 rfl rfl (A7 (by repeat first | exact mH | apply mT)) rfl) rfl ?_
 refine aP 1 rfl (B5 rfl) rfl ?_
 refine aL 2 rfl (A4 rfl rfl) rfl ?_
 refine aP 4 rfl (B5 rfl) rfl ?_
 refine aL 5 rfl (C7 rfl rfl) rfl ?_
 refine aP 8 rfl (B5 rfl) rfl ?_
 refine aL 9 rfl (A4 rfl rfl) rfl ?_
 refine aP 10 rfl (B5 rfl) rfl ?_
 refine aL 11 rfl (C7 rfl rfl) rfl ?_
 refine A2 6 ?_
 (refine E3 rfl rfl (A0R _ (.mk fk fks) _ lb G1 _ _ _ ⟨by omega, by omega⟩ hre0 hfr hrg) rfl rfl rfl (fun u G3 hle3 hh => ?_); obtain ⟨wc, rfl, hrw⟩ := hh; have hwl := hrw.len; have hwo := hrw.one; replace hrg := hrg.mono hle3; replace hty := hty.mono hle3)
 refine A2 12 ?_
 (refine E3 rfl rfl (A0R _ _ (.mk tk tks) lb G3 _ _ _ ⟨by omega, by omega⟩ hrw hrg hty) rfl rfl rfl (fun u G4 hle4 hh => ?_); obtain ⟨xc, rfl, hrx⟩ := hh; have hxl := hrx.len; have hxo := hrx.one)
 refine A2 13 ?_
 (refine oS rfl rfl rfl rfl hxl hxo rfl rfl ?_ (hu := by exact C1 hxl.symm))
 refine aP 14 rfl (qA rfl) rfl ?_
 refine aP 15 rfl (qA rfl) rfl ?_
 refine C0 (nS (tT (rB (rS ?_))))
 refine I0 (rC rfl (A3 rfl rfl (A7 (by repeat first | exact mH | apply mT)) hxl)) (rT rfl) (rT rfl) ?_
 (exact R7.mk (by rw [if_neg (by omega), if_pos (by omega)]) hrx)
 refine F8 ?_
 focus (cases hDD : D; all_goals (rw [hDD] at hGr; refine E8 rfl hGr rfl rfl ?_))
 refine I8 ?_
 (refine D7 rfl (A59 tk G htk64) rfl rfl (fun u G1 hle1 hh => ?_); obtain ⟨gc, rfl, hrg⟩ := hh; obtain ⟨pg, cg, eg, rfl, _⟩ := hrg.open; replace hre0 := hre0.mono hle1; replace hfr := hfr.mono hle1; replace hty := hty.mono hle1)
 refine sE (A6 rfl) rfl (fun b171 => ?_)
 refine H6 ?_
 refine sD (nS (tS ?_))
 refine D1 D2 rfl ?_
 refine N8 (i := 0) (l' := [tt,ff,ff,ff,ff,ff,ff,ff,ff,ff,ff,ff,ff,ff,ff,ff]) rfl C8 (A3 rfl rfl (A7 (by repeat first | exact mH | apply mT)) rfl) rfl (by kernel_rfl) rfl rfl ?_
 refine aL 3 rfl (A3 rfl rfl (A7 (by repeat first | exact mH | apply mT)) rfl) rfl ?_
 refine aL 7 rfl (A3 rfl rfl (A7 (by repeat first | exact mH | apply mT)) rfl) rfl ?_
 refine aP 1 rfl (B5 rfl) rfl ?_
 refine aL 2 rfl (A4 rfl rfl) rfl ?_
 refine aP 4 rfl (B5 rfl) rfl ?_
 refine aL 5 rfl (C7 rfl rfl) rfl ?_
 refine aP 8 rfl (B5 rfl) rfl ?_
 refine aL 9 rfl (A4 rfl rfl) rfl ?_
 refine aP 10 rfl (B5 rfl) rfl ?_
 refine aL 11 rfl (C7 rfl rfl) rfl ?_
 refine A2 6 ?_
 (refine E3 rfl rfl (A0R _ (.mk fk fks) _ lb G1 _ _ _ ⟨by omega, by omega⟩ hre0 hfr hrg) rfl rfl rfl (fun u G3 hle3 hh => ?_); obtain ⟨wc, rfl, hrw⟩ := hh; have hwl := hrw.len; have hwo := hrw.one; replace hrg := hrg.mono hle3; replace hty := hty.mono hle3)
 refine A2 12 ?_
 (refine E3 rfl rfl (A0R _ _ (.mk tk tks) lb G3 _ _ _ ⟨by omega, by omega⟩ hrw hrg hty) rfl rfl rfl (fun u G4 hle4 hh => ?_); obtain ⟨xc, rfl, hrx⟩ := hh; have hxl := hrx.len; have hxo := hrx.one)
 refine A2 13 ?_
 (refine oS rfl rfl rfl rfl hxl hxo rfl rfl ?_ (hu := by exact C1 hxl.symm))
 refine aP 14 rfl (qA rfl) rfl ?_
 refine aP 15 rfl (qA rfl) rfl ?_
 refine C0 (nS (tT (rB (rS ?_))))
 refine I0 (rC rfl (A3 rfl rfl (A7 (by repeat first | exact mH | apply mT)) hxl)) (rT rfl) (rT rfl) ?_
 (exact R7.mk (by rw [if_neg (by omega), if_neg (by omega), if_pos rfl]) hrx)
 refine F8 ?_
 focus (cases hJJ : J; all_goals (rw [hJJ] at hI; refine E8 rfl hI rfl rfl ?_))
 refine M9 ?_
 refine I0 (rC rfl (A4 rfl rfl)) (rT rfl) (rT rfl) ?_
 (exact R7.mk (by rw [if_neg (by omega), if_neg (by omega), if_neg (by decide), if_pos rfl]; rfl) (O4 _))
 refine J6 ?_
 focus (rw [hSm hJJ hDD] at hTS; by_cases hfk : afk = tk; rw [decide_eq_true hfk] at hTS; rotate_left; rw [decide_eq_false hfk] at hTS; rotate_left; all_goals (refine E8 rfl hTS rfl rfl ?_))
 refine F8 ?_
 (have hq1 := h14 (hjk (by assumption)); obtain ⟨bq, oq, e3, rfl, hl3, hat3, hre3, hgb3⟩ := hasl.kidTm hakl (i := 0) (by omega) (by omega); have ho3 := hre3.one; refine sP (B4 (j := 0) rfl rfl rfl (by omega)) rfl rfl ?_)
 refine sL (A3 rfl rfl (hat3 _) hl3) rfl rfl ?_
 refine sS rfl rfl rfl hl3 ho3 rfl ?_ (hu := by exact C1 hl3.symm)
 refine D5 ?_
 refine I0 (rC rfl (A3 rfl rfl (A7 (by repeat first | exact mH | apply mT)) hl3)) (rT rfl) (rT rfl) ?_
 (exact R7.mk (by rw [if_neg (by omega), if_neg (by omega), if_neg (by decide), if_neg (by decide), if_pos hfk, A3T (by omega)]) hre3)
 refine F8 ?_
 refine D1 D2 rfl ?_
 refine I4 (i := 0) (l' := [tt,ff,ff,ff,ff,ff]) rfl C8 (Q9 rfl rfl) rfl (by kernel_rfl) rfl rfl ?_
 refine aP 1 rfl (B5 rfl) rfl ?_
 refine aL 2 rfl (C7 rfl rfl) rfl ?_
 refine A2 3 ?_
 refine H0 rfl ?_
 refine aP 4 rfl (qA rfl) rfl ?_
 refine aP 5 rfl (qA rfl) rfl ?_
 refine C0 (nS (tT ?_))
 refine I0 (rC rfl (A4 rfl rfl)) (rT rfl) (rT rfl) ?_
 (exact R7.mk (by rw [if_neg (by omega), if_neg (by omega), if_neg (by decide), if_neg (by decide), if_neg hfk]) (O4 _))
theorem A93 (k : Int) (a b : Tm) (nm : ByteArray) (num : Int) (ty fr : Ty) (lb : Int) (G : IM) (cells : List Value) (hk1 : k = 7 ∨ k = 8) (hca : cv a) (hr : A8 G (.mk k nm num ty fr lb [a, b]) cells) : Fn Tryz.prog 221 [.agg ⟨cells⟩] [] G (R7 (Y0 k ty fr lb [a, b])) := by
 have hR : Y0 k ty fr lb [a, b] = U5 := by unfold Y0; rw [if_neg (by omega), if_neg (by omega), if_neg (by omega)]
 rw [hR]
 obtain ⟨ak, anm, anum, ⟨atk, atks⟩, ⟨afk, afks⟩, alb, aks⟩ := a
 obtain ⟨hN, hkk⟩ := hca.node
 have hops := hN.ops
 have hbl := hN.lbB
 have htyA := hN.tyA
 have hfrA := hN.frA
 rw [D4] at htyA hfrA
 have h14 : ak = 14 → aks.length = 1 := fun h => by rw [h] at hops; have : D3 14 = 1 := rfl; omega
 obtain ⟨tk, tks⟩ := ty
 obtain ⟨fk, fks⟩ := fr
 obtain ⟨pt, ct, pf, cf, p, c, es, rfl, hk, hnum, hlb, hty, hfr, hsl, hkl⟩ := hr.open9
 obtain ⟨bx, ox, e0, rfl, hl0, hat0, hre0, hgb0⟩ := hsl.kidTm hkl (i := 0) (by simp) (by simp)
 replace hre0 : A8 G (Tm.mk ak anm anum (.mk atk atks) (.mk afk afks) alb aks) e0 := hre0
 have hP : Fn Tryz.prog 111 [.agg ⟨e0⟩] [] G (J3 (.bool (decide (ak = 14 ∧ afk = atk ∧ (atk = 4 ∨ atk = 5)))) G) := A2v _ G _ hre0
 have hI := A3P _ G _ hre0
 have ho0 := hre0.one
 obtain ⟨apt, act, apf, acf, ap, ac, aes, rfl, hak, hanum, halb, haty, hafr, hasl, hakl⟩ := hre0.open9
 have hfk64 : E9 fk := by obtain ⟨_, _, _, _, h, _⟩ := hfr.open; exact h
 have htk64 : E9 tk := by obtain ⟨_, _, _, _, h, _⟩ := hty.open; exact h
 obtain ⟨tes, htS, htL⟩ := haty.kids
 obtain ⟨fes, hfS, hfL⟩ := hafr.kids
 simp only [Ty.ks] at htS htL hfS hfL
 refine B6 Tryz.func221 rfl Tryz.ntmps221 Tryz.results221 rfl ?_
 intro w0
 refine tS (tR ?_)
 refine sE (C4 rfl rfl) rfl (fun b3 => ?_)
 refine sE (A6 rfl) rfl (fun b4 => ?_)
 refine F8 ?_
 refine sP (B4 (j := 0) rfl rfl rfl (by simp)) rfl rfl ?_
 refine sL (A3 rfl rfl (hat0 _) rfl) rfl rfl ?_
 refine sE (A6 rfl) rfl (fun b15 => ?_)
 refine H6 ?_
 refine sD (nS (tS ?_))
 refine C3 ?_
 refine tS (tR (sQ (B5 rfl) rfl (sL (C7 rfl rfl) rfl rfl ?_)))
 refine sP (E6 rfl rfl (by omega)) rfl rfl ?_
 refine U9 ?_
 refine sP (E6 rfl rfl (by omega)) rfl rfl ?_
 refine H9 ?_
 refine sP (E6 rfl rfl (by omega)) rfl rfl ?_
 refine A0m ?_
 refine sP (W7 rfl rfl (by omega)) rfl rfl ?_
 refine K0 ?_
 refine I0 (rC rfl (A4 rfl rfl)) (rT rfl) (rT rfl) ?_
 (exact R7.mk rfl (O4 _))
theorem B4m (a b c0 : Tm) (nm : ByteArray) (num : Int) (ty fr : Ty) (lb : Int) (G : IM) (cells : List Value) (hca : cv a) (hr : A8 G (.mk 9 nm num ty fr lb [a, b, c0]) cells) : Fn Tryz.prog 221 [.agg ⟨cells⟩] [] G (R7 (Y0 9 ty fr lb [a, b, c0])) := by
 have hR : Y0 9 ty fr lb [a, b, c0] = U5 := by unfold Y0; rw [if_neg (by omega), if_neg (by omega), if_neg (by omega)]
 rw [hR]
 obtain ⟨ak, anm, anum, ⟨atk, atks⟩, ⟨afk, afks⟩, alb, aks⟩ := a
 obtain ⟨hN, hkk⟩ := hca.node
 have hops := hN.ops
 have hbl := hN.lbB
 have htyA := hN.tyA
 have hfrA := hN.frA
 rw [D4] at htyA hfrA
 have h14 : ak = 14 → aks.length = 1 := fun h => by rw [h] at hops; have : D3 14 = 1 := rfl; omega
 obtain ⟨tk, tks⟩ := ty
 obtain ⟨fk, fks⟩ := fr
 obtain ⟨pt, ct, pf, cf, p, c, es, rfl, hk, hnum, hlb, hty, hfr, hsl, hkl⟩ := hr.open9
 obtain ⟨bx, ox, e0, rfl, hl0, hat0, hre0, hgb0⟩ := hsl.kidTm hkl (i := 0) (by simp) (by simp)
 replace hre0 : A8 G (Tm.mk ak anm anum (.mk atk atks) (.mk afk afks) alb aks) e0 := hre0
 have hP : Fn Tryz.prog 111 [.agg ⟨e0⟩] [] G (J3 (.bool (decide (ak = 14 ∧ afk = atk ∧ (atk = 4 ∨ atk = 5)))) G) := A2v _ G _ hre0
 have hI := A3P _ G _ hre0
 have ho0 := hre0.one
 obtain ⟨apt, act, apf, acf, ap, ac, aes, rfl, hak, hanum, halb, haty, hafr, hasl, hakl⟩ := hre0.open9
 have hfk64 : E9 fk := by obtain ⟨_, _, _, _, h, _⟩ := hfr.open; exact h
 have htk64 : E9 tk := by obtain ⟨_, _, _, _, h, _⟩ := hty.open; exact h
 obtain ⟨tes, htS, htL⟩ := haty.kids
 obtain ⟨fes, hfS, hfL⟩ := hafr.kids
 simp only [Ty.ks] at htS htL hfS hfL
 refine B6 Tryz.func221 rfl Tryz.ntmps221 Tryz.results221 rfl ?_
 intro w0
 refine tS (tR ?_)
 refine sE (C4 rfl rfl) rfl (fun b3 => ?_)
 refine sE (A6 rfl) rfl (fun b4 => ?_)
 refine F8 ?_
 refine sP (B4 (j := 0) rfl rfl rfl (by simp)) rfl rfl ?_
 refine sL (A3 rfl rfl (hat0 _) rfl) rfl rfl ?_
 refine sE (A6 rfl) rfl (fun b15 => ?_)
 refine H6 ?_
 refine sD (nS (tS ?_))
 refine C3 ?_
 refine tS (tR (sQ (B5 rfl) rfl (sL (C7 rfl rfl) rfl rfl ?_)))
 refine sP (E6 rfl rfl (by omega)) rfl rfl ?_
 refine U9 ?_
 refine sP (E6 rfl rfl (by omega)) rfl rfl ?_
 refine H9 ?_
 refine sP (E6 rfl rfl (by omega)) rfl rfl ?_
 refine A0m ?_
 refine sP (W7 rfl rfl (by omega)) rfl rfl ?_
 refine K0 ?_
 refine I0 (rC rfl (A4 rfl rfl)) (rT rfl) (rT rfl) ?_
 (exact R7.mk rfl (O4 _))
end Gw
end Go.Proofs.YtfpgncjeejickaaGreatDoor
