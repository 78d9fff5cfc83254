/-
  What a node wants of its operands. The type of a term with casts. castType and CastTypeOf compute the type of a term with casts. ReplaceAt: the program's and the reference model's. Nodes at paths, in plain words: paths concatenate. Replacing a node, in plain words: what is put is found, and putting back undoes. A closed term's type is its type everywhere; a node replaced by one of its type leaves the type. Casts put into a term, in plain words. The reference's types are those of the insertion. Terms with casts: what a type says of a node. Casts put into a term: operand by operand. Precision of types and terms, on both sides. Casts put into terms of which one is more precise: the results are so, too. A function that only reads may be handed an own slice. The program's evaluator: proxies, injections, values, casts. The program's evaluator: values, casts, nodes. The program's evaluator: replacing a name, casts, nodes. The program's evaluator: casts, nodes, the rules without casts. The program's evaluator: the rules of casts.
-/
import Derived.Test.YtebfignffjhnhaaGreatDoorKj3
import Derived.Test.YtebfignffjhnhaaGreatDoorKj2
import Derived.Test.YtebfignffjhnhaaGreatDoorKj1
import Derived.Test.YtebfignffjhnhaaGreatDoorKj0
set_option linter.unusedVariables false
set_option linter.unusedSimpArgs false
set_option maxHeartbeats 0
set_option maxRecDepth 100000
set_option synthInstance.maxSize 4000
set_option synthInstance.maxHeartbeats 0
namespace Go.Proofs.YtebfignffjhnhaaGreatDoor
open Go Go.RowKit
namespace Gw
theorem D5.kidD {G : IM} {p : Option Addr} {n c : Nat} {es : List (List Value)} {ks : List Ty} (h : D5 G p n c 2 es) (hk : D2 G ks es) {i : Nat} (hi : i < n) (hn : i < ks.length) :
  ∃ b o q d, p = some ⟨b, o, none⟩ ∧ (∀ hp, At hp G b (o + i * 2) [.int .i64 (ks.getD i B7).k, .slice q (ks.getD i B7).ks.length d]) ∧ B9 G (ks.getD i B7) [.int .i64 (ks.getD i B7).k, .slice q (ks.getD i B7).ks.length d] ∧ G b ≠ none := by
 obtain ⟨b, o, q, d, h1, h2, h3, h4⟩ := h.kidTy hk hi hn
 rw [List.getD_eq_getElem?_getD, List.getElem?_eq_getElem hn, Option.getD_some]
 exact ⟨b, o, q, d, h1, h2, h3, h4⟩
theorem A2V {hs : List Ty} (h : ∀ t ∈ hs, E5 t) {i : Nat} (hi : i < hs.length) : E5 (hs.getD i B7) := by
 rw [List.getD_eq_getElem?_getD, List.getElem?_eq_getElem hi, Option.getD_some]
 exact h _ (List.getElem_mem hi)
def L4 (r : Option (List Ty × Ty)) (G : IM) : IM → Value → List A5 → Prop := L8 fun G' v => ∃ p n c es w cu u, v = .tuple ⟨[.slice p n c, .agg ⟨cu⟩, .bool r.isSome]⟩ ∧ n = w.length ∧ D5 G' p n c 2 es ∧ D2 G' w es ∧ B9 G' u cu ∧ ∀ q, r = some q → q = (w, u)
theorem L4.mk {r : Option (List Ty × Ty)} {G G' : IM} {p : Option Addr} {n c : Nat} {es : List (List Value)} {w : List Ty} {cu : List Value} {u : Ty} {b : Bool} (hl : n = w.length) (hs : Sl G' p n c 2 es.flatten) (hw : D2 G' w es) (hu : B9 G' u cu) (h : r = if b = true then some (w, u) else none) :
  L4 r G G' (.tuple ⟨[.slice p n c, .agg ⟨cu⟩, .bool b]⟩) [] := by
 refine ⟨rfl, p, n, c, es, w, cu, u, ?_, hl, D5.of hs (by rw [hw.len, hl]) hw.all (fun e he => (hw.each e he).2), hw, hu, ?_⟩
 ·subst h; cases b <;> rfl
 ·subst h; cases b
  ·simp
  ·intro q hq; simpa using hq.symm
theorem L4.nil {r : Option (List Ty × Ty)} {G G' : IM} {cu : List Value} {u : Ty} {b : Bool} (hu : B9 G' u cu) (h : r = if b = true then some ([], u) else none) :
  L4 r G G' (.tuple ⟨[.slice none 0 0, .agg ⟨cu⟩, .bool b]⟩) [] := L4.mk (es := []) rfl (Sl.nil _ _) (by simp [D2]) hu h
theorem L4.one {r : Option (List Ty × Ty)} {G G' : IM} {p : Option Addr} {c : Nat} {a : Ty} {ca : List Value} {cu : List Value} {u : Ty} {b : Bool} (hs : Sl G' p 1 c 2 ca) (ha : B9 G' a ca) (hu : B9 G' u cu) (h : r = if b = true then some ([a], u) else none) :
  L4 r G G' (.tuple ⟨[.slice p 1 c, .agg ⟨cu⟩, .bool b]⟩) [] := L4.mk (es := [ca]) (w := [a]) rfl (by simpa using hs) ⟨_, _, rfl, ha, rfl⟩ hu h
theorem L4.two {r : Option (List Ty × Ty)} {G G' : IM} {p : Option Addr} {c : Nat} {a a2 : Ty} {ca ca2 : List Value} {cu : List Value} {u : Ty} {b : Bool} (hs : Sl G' p 2 c 2 (ca ++ ca2)) (ha : B9 G' a ca) (ha2 : B9 G' a2 ca2) (hu : B9 G' u cu) (h : r = if b = true then some ([a, a2], u) else none) :
  L4 r G G' (.tuple ⟨[.slice p 2 c, .agg ⟨cu⟩, .bool b]⟩) [] := L4.mk (es := [ca, ca2]) (w := [a, a2]) rfl (by simpa using hs) ⟨_, _, rfl, ha, _, _, rfl, ha2, rfl⟩ hu h
theorem L4.three {r : Option (List Ty × Ty)} {G G' : IM} {p : Option Addr} {c : Nat} {a a2 a3 : Ty} {ca ca2 ca3 : List Value} {cu : List Value} {u : Ty} {b : Bool} (hs : Sl G' p 3 c 2 (ca ++ (ca2 ++ ca3))) (ha : B9 G' a ca) (ha2 : B9 G' a2 ca2) (ha3 : B9 G' a3 ca3) (hu : B9 G' u cu) (h : r = if b = true then some ([a, a2, a3], u) else none) :
  L4 r G G' (.tuple ⟨[.slice p 3 c, .agg ⟨cu⟩, .bool b]⟩) [] := L4.mk (es := [ca, ca2, ca3]) (w := [a, a2, a3]) rfl (by simpa using hs) ⟨_, _, rfl, ha, _, _, rfl, ha2, _, _, rfl, ha3, rfl⟩ hu h
section
variable {cx : Cx} {nm : ByteArray} {ty : Ty} {h : List Ty}
theorem mW1 : K8 cx 1 nm ty h = match O8 cx nm with | some t => some ([], t) | none => none := rfl
theorem mW2 : K8 cx 2 nm ty h = some ([], Q1) := rfl
theorem A3H {k : Int} (hk : k = 3 ∨ k = 4) : K8 cx k nm ty h = some ([], T3) := by rcases hk with rfl | rfl <;> rfl
theorem mW5 : K8 cx 5 nm ty h = some ([], .mk 4 [ty, h.getD 0 B7]) := rfl
theorem mW6 : K8 cx 6 nm ty h = match R0 4 (h.getD 0 B7) with | some (a, b) => if K1 (h.getD 1 B7) a = true then some ([.mk 4 [a, b], a], b) else none | none => none := rfl
theorem V0 {k : Int} (hk : k = 7 ∨ k = 8) : K8 cx k nm ty h = if K1 (h.getD 0 B7) Q1 = true ∧ K1 (h.getD 1 B7) Q1 = true then some ([Q1, Q1], if k = 8 then T3 else Q1) else none := by rcases hk with rfl | rfl <;> rfl
theorem mW9 : K8 cx 9 nm ty h = if K1 (h.getD 0 B7) T3 = true ∧ K1 (h.getD 1 B7) (h.getD 2 B7) = true then some ([T3, U4 (h.getD 1 B7) (h.getD 2 B7), U4 (h.getD 1 B7) (h.getD 2 B7)], U4 (h.getD 1 B7) (h.getD 2 B7)) else none := rfl
theorem A4G : K8 cx 10 nm ty h = some ([], .mk 5 [h.getD 0 B7, h.getD 1 B7]) := rfl
theorem A2k : K8 cx 13 nm ty h = if K1 (h.getD 0 B7) ty = true then some ([ty], ty) else none := rfl
theorem A2W {k : Int} (hk : k = 11 ∨ k = 12) : K8 cx k nm ty h = match R0 5 (h.getD 0 B7) with | some (a, b) => some ([.mk 5 [a, b]], if k = 12 then b else a) | none => none := by rcases hk with rfl | rfl <;> rfl
end
theorem K3 (G : IM) : B9 G Q1 [.int .i64 2, .slice none 0 0] := O0 G ⟨by omega, by omega⟩
theorem A0b (G : IM) : B9 G T3 [.int .i64 3, .slice none 0 0] := O0 G ⟨by omega, by omega⟩
theorem A8W {Q : Prop} (h : Q := by (have hk1 : k = 9 := (by omega); subst hk1; exact L4.three hsl5 (A0b _) (hrM.mono hle5) (hrM.mono hle5) (hrM.mono hle5) (by rw [mW9, if_pos ⟨by assumption, by assumption⟩]; rfl))) : Q := h
theorem A8X {Q : Prop} (h : Q := by (have hk1 : k = 9 := (by omega); subst hk1; exact L4.nil (u := B7) (O0 _ ⟨by omega, by omega⟩) (by rw [mW9, if_neg (fun hc => by first | exact Bool.noConfusion (hc.1.symm.trans (by assumption)) | exact Bool.noConfusion (hc.2.symm.trans (by assumption)) | exact Bool.noConfusion (hc.symm.trans (by assumption)))]; rfl))) : Q := h
theorem B3o (cx : Cx) (k : Int) (nm : ByteArray) (num : Int) (ty fr : Ty) (lb : Int) (ks : List Tm) (h : List Ty) (G : IM) (pc : Option Addr) (nc cc : Nat) (cells : List Value) (p : Option Addr) (n c : Nat) (es : List (List Value))
  (hx : S3 G cx pc nc cc) (hops : D9 k = n) (hnl : n = h.length) (hk14 : k ≠ 14) (hta : E5 ty) (hr : B0 G (.mk k nm num ty fr lb ks) cells) (hsl : D5 G p n c 2 es) (hkl : D2 G h es) (har : ∀ t ∈ h, E5 t) :
  Fn Tryz.prog 110 [.slice pc nc cc, .agg ⟨cells⟩, .slice p n c] [] G (L4 (K8 cx k nm ty h) G) := by
 have hone := hr.one
 have hop := A2Q hops
 have hkr : 1 ≤ k ∧ k ≤ 14 := by
  apply Classical.byContradiction
  intro hc
  rw [A5p hc] at hops; omega
 obtain ⟨tyk, tyks⟩ := ty
 obtain ⟨fk, fks⟩ := fr
 obtain ⟨pt, ct, pf, cf, pk, ck, ek, rfl, hk, hnum, hlb, hrty, hrfr, _, _⟩ := hr.open9
 refine C3 Tryz.func110 rfl Tryz.ntmps110 Tryz.results110 rfl ?_
 intro w0
 refine A3 ?_
 refine sE (C8 rfl rfl) rfl (fun b3 => ?_)
 refine E6 ?_
 refine sE (A6 rfl) rfl (fun b5 => ?_)
 refine A9 ?_
 refine H6 rfl ((A1v _ _)) rfl rfl ?_
 refine H6 rfl ((A1v _ _)) rfl rfl ?_
 refine sE (A6 rfl) rfl (fun b13 => ?_)
 refine sE (A6 rfl) rfl (fun b14 => ?_)
 refine J4 ?_
 refine C1 (tS (tR (sB (qE rfl rfl) rfl rfl (fun h29 => ?_) (fun h29 => ?_))))
 refine E0 ?_
 (refine E7 rfl (B3k G cx pc nc cc nm hx) rfl rfl (fun v G1 hle1 hh => ?_); obtain ⟨cu, u, rfl, hru, hu⟩ := hh; obtain ⟨p1, c1, e1, rfl, _⟩ := hru.open)
 refine B6 ?_
 refine sE (A6 rfl) rfl (fun b43 => ?_)
 refine A9 ?_
 refine D7 D8 rfl ?_
 refine K7 (i := 0) (l' := [tt,ff,ff,ff,ff]) rfl D1 (A4 rfl rfl) rfl (by kernel_rfl) rfl rfl ?_
 refine aP 1 rfl (qM rfl) rfl ?_
 refine aP 2 rfl (qA rfl) rfl ?_
 refine A1 3 ?_
 refine H1 rfl ?_
 refine aP 4 rfl (qA rfl) rfl ?_
 refine A9 ?_
 refine C9 (rT rfl) (rC rfl (A4 rfl rfl)) (rT rfl) ?_
 (have hk1 : k = 1 := (by omega); subst hk1; rw [mW1]; refine L4.nil hru ?_; generalize O8 cx nm = r at hu ⊢; cases r with | none => rfl | some t => (rw [hu t rfl]; rfl))
 refine A8 ?_
 refine sB (qE rfl rfl) rfl rfl (fun h69 => ?_) (fun h69 => ?_)
 refine A9 ?_
 refine D7 D8 rfl ?_
 refine K7 (i := 0) (l' := [tt,ff,ff,ff]) rfl D1 (A4 rfl rfl) rfl (by kernel_rfl) rfl rfl ?_
 refine aP 1 rfl (qA rfl) rfl ?_
 refine A1 2 ?_
 refine H1 rfl ?_
 refine aP 3 rfl (qA rfl) rfl ?_
 refine A9 ?_
 refine C9 (rT rfl) (rC rfl (A4 rfl rfl)) (rT rfl) ?_
 (have hk1 : k = 2 := (by omega); subst hk1; exact L4.nil (K3 _) mW2)
 refine B2 ?_
 refine sB (qE rfl rfl) rfl rfl (fun h95 => ?_) (fun h95 => ?_)
 refine D4 ?_
 refine D7 D8 rfl ?_
 refine K7 (i := 0) (l' := [tt,ff,ff,ff]) rfl D1 (A4 rfl rfl) rfl (by kernel_rfl) rfl rfl ?_
 refine aP 1 rfl (qA rfl) rfl ?_
 refine A1 2 ?_
 refine H1 rfl ?_
 refine aP 3 rfl (qA rfl) rfl ?_
 refine A9 ?_
 refine C9 (rT rfl) (rC rfl (A4 rfl rfl)) (rT rfl) ?_
 (exact L4.nil (A0b _) (by rw [A3H (by omega)]; rfl))
 refine A9 ?_
 refine sB (qE rfl rfl) rfl rfl (fun h122 => ?_) (fun h122 => ?_)
 refine A9 ?_
 refine D7 D8 rfl ?_
 refine K7 (i := 0) (l' := [tt,ff,ff,ff]) rfl D1 (A4 rfl rfl) rfl (by kernel_rfl) rfl rfl ?_
 refine aP 1 rfl (qA rfl) rfl ?_
 refine A1 2 ?_
 refine H1 rfl ?_
 refine aP 3 rfl (qA rfl) rfl ?_
 refine A9 ?_
 refine C9 (rT rfl) (rC rfl (A4 rfl rfl)) (rT rfl) ?_
 (exact L4.nil (A0b _) (by rw [A3H (by omega)]; rfl))
 refine A8 ?_
 refine sB (qE rfl rfl) rfl rfl (fun h147 => ?_) (fun h147 => ?_)
 refine A9 ?_
 (have hl1 : n = 1 := hop.2.2 (by omega); obtain ⟨b0, o0, q0, d0, hp0, hat0, hre0, hg0⟩ := hsl.kidD hkl (i := 0) (by omega) (by omega); cases hp0; refine D7 D8 rfl ?_)
 refine I9 (i := 0) (l' := [tt,ff,ff,ff,ff,ff,ff,ff,ff]) rfl D1 (B5 rfl) rfl (by kernel_rfl) rfl rfl ?_
 refine aL 1 rfl (A4 rfl rfl) rfl ?_
 refine aP 2 rfl (qM rfl) rfl ?_
 refine aP 3 rfl (B4 (j := 0) rfl rfl rfl (by omega)) rfl ?_
 refine aL 4 rfl (A2 rfl rfl (hat0 _) rfl) rfl ?_
 refine A1 5 ?_
 (refine H0 rfl rfl (A1Q 4 _ _ _ _ _ ⟨by omega, by omega⟩ hrty hre0) rfl rfl rfl (fun v GB hleB hh => ?_); obtain ⟨cB, rfl, hrB⟩ := hh; obtain ⟨p7, c7, e7, rfl, _⟩ := hrB.open)
 refine aP 6 rfl (qA rfl) rfl ?_
 refine A1 7 ?_
 refine H1 rfl ?_
 refine aP 8 rfl (qA rfl) rfl ?_
 refine A9 ?_
 refine C9 (rT rfl) (rC rfl (A4 rfl rfl)) (rT rfl) ?_
 (have hk1 : k = 5 := (by omega); subst hk1; exact L4.nil hrB mW5)
 refine A8 ?_
 refine sB (qE rfl rfl) rfl rfl (fun h178 => ?_) (fun h178 => ?_)
 refine B2 ?_
 (have hl2 : n = 2 := hop.1 (by omega); obtain ⟨b0, o0, q0, d0, hp0, hat0, hre0, hg0⟩ := hsl.kidD hkl (i := 0) (by omega) (by omega); cases hp0; refine sP (B4 (j := 0) rfl rfl rfl (by omega)) rfl rfl ?_)
 refine sL (A2 rfl rfl (hat0 _) rfl) rfl rfl ?_
 (refine E7 rfl (A8U 4 (h.getD 0 B7) G _ (.inl rfl) (A2V har (by omega)) hre0) rfl rfl (fun v G1 hle1 hh => ?_); obtain ⟨ma, mca, mb, mcb, rfl, hma, hmb, hma2, hmb2, hmm⟩ := hh; obtain ⟨p1, c1, e1, rfl, _⟩ := hma.open; obtain ⟨p2, c2, e2, rfl, _⟩ := hmb.open; replace hsl := hsl.mono hle1; replace hkl := hkl.mono hle1; generalize hmi : (R0 4 (h.getD 0 B7)).isSome = mi; cases mi)
 refine B1 ?_
 refine sE (A6 rfl) rfl (fun b193 => ?_)
 refine sE (A6 rfl) rfl (fun b194 => ?_)
 refine A8 ?_
 (have hl2 : n = 2 := hop.1 (by omega); obtain ⟨b0, o0, q0, d0, hp0, hat0, hre0, hg0⟩ := hsl.kidD hkl (i := 0) (by omega) (by omega); obtain ⟨b1, o1, q1, d1, hp1, hat1, hre1, hg1⟩ := hsl.kidD hkl (i := 1) (by omega) (by omega); cases hp0; cases hp1; refine D7 D8 rfl ?_)
 refine K7 (i := 0) (l' := [tt,ff,ff,ff,ff,ff,ff,ff,ff,ff,ff,ff,ff,ff,ff,ff,ff]) rfl D1 (A4 rfl rfl) rfl (by kernel_rfl) rfl rfl ?_
 refine aL 1 rfl (A4 rfl rfl) rfl ?_
 refine aL 3 rfl (A4 rfl rfl) rfl ?_
 refine aL 5 rfl (A4 rfl rfl) rfl ?_
 refine aP 6 rfl (qM rfl) rfl ?_
 refine A1 2 ?_
 (refine H0 rfl rfl (A1Q _ ma mb _ _ _ ⟨by omega, by omega⟩ hma hmb) rfl rfl rfl (fun v GB hleB hh => ?_); obtain ⟨cB, rfl, hrB⟩ := hh; obtain ⟨p7, c7, e7, rfl, _⟩ := hrB.open; have hma' := hma.mono hleB; have hmb' := hmb.mono hleB)
 refine aP 7 rfl (qM rfl) rfl ?_
 refine C2 8 rfl rfl rfl ?_
 refine C2 9 rfl rfl rfl ?_
 refine C2 10 rfl rfl rfl ?_
 refine C2 11 rfl rfl rfl ?_
 refine Q2 (j := 4) (j' := 12) (by kernel_rfl) ?_ ?_
 (refine E3 rfl (C7 rfl rfl rfl (by omega) (by unfold maxLen; omega) rfl) rfl rfl ?_; rintro _ ⟨b215, rfl⟩)
 refine C2 12 rfl rfl rfl ?_
 refine aP 13 rfl (O7 rfl rfl) rfl ?_
 refine aP 14 rfl (qA rfl) rfl ?_
 refine A1 15 ?_
 refine H1 rfl ?_
 refine aP 16 rfl (qA rfl) rfl ?_
 refine A3 ?_
 (refine F9 Pk.here (fun G5 hle5 hsl5 hno5 => ?_))
 refine B6 ?_
 refine C9 (rT rfl) (rC rfl (A4 rfl rfl)) (rT rfl) ?_
 (have hk1 : k = 6 := (by omega); subst hk1; refine L4.two hsl5 (hrB.mono hle5) (hma'.mono hle5) (hmb'.mono hle5) ?_; rw [mW6]; cases hq : R0 4 (h.getD 0 B7) with | none => rfl | some q => (rw [hq] at hmi; cases hmi))
 refine A5n (l' := [tt,tt,tt,tt,ff,tt,tt,tt,tt,tt,tt,tt,tt,ff,ff,ff,ff]) rfl rfl rfl rfl ?_
 refine aP 13 rfl (O7 rfl rfl) rfl ?_
 refine A1 4 ?_
 (refine E3 rfl (C7 rfl rfl rfl (by omega) (by unfold maxLen; omega) rfl) rfl rfl ?_; rintro _ ⟨b233, rfl⟩)
 refine aP 14 rfl (qA rfl) rfl ?_
 refine A1 15 ?_
 refine H1 rfl ?_
 refine aP 16 rfl (qA rfl) rfl ?_
 refine A3 ?_
 (refine F9 Pk.here (fun G5 hle5 hsl5 hno5 => ?_))
 refine B6 ?_
 refine C9 (rT rfl) (rC rfl (A4 rfl rfl)) (rT rfl) ?_
 (have hk1 : k = 6 := (by omega); subst hk1; refine L4.two hsl5 (hrB.mono hle5) (hma'.mono hle5) (hmb'.mono hle5) ?_; rw [mW6]; cases hq : R0 4 (h.getD 0 B7) with | none => rfl | some q => (rw [hq] at hmi; cases hmi))
 refine B1 ?_
 refine sE (A6 rfl) rfl (fun b250 => ?_)
 refine sE (A6 rfl) rfl (fun b251 => ?_)
 refine A8 ?_
 (have hl2 : n = 2 := hop.1 (by omega); obtain ⟨b0, o0, q0, d0, hp0, hat0, hre0, hg0⟩ := hsl.kidD hkl (i := 0) (by omega) (by omega); obtain ⟨b1, o1, q1, d1, hp1, hat1, hre1, hg1⟩ := hsl.kidD hkl (i := 1) (by omega) (by omega); cases hp0; cases hp1; refine D7 D8 rfl ?_)
 refine K7 (i := 0) (l' := [tt,ff,ff,ff,ff,ff,ff,ff,ff,ff,ff,ff,ff,ff,ff,ff,ff]) rfl D1 (A4 rfl rfl) rfl (by kernel_rfl) rfl rfl ?_
 refine aL 1 rfl (A4 rfl rfl) rfl ?_
 refine aL 3 rfl (A4 rfl rfl) rfl ?_
 refine aL 5 rfl (A4 rfl rfl) rfl ?_
 refine aP 6 rfl (qM rfl) rfl ?_
 refine A1 2 ?_
 (refine H0 rfl rfl (A1Q _ ma mb _ _ _ ⟨by omega, by omega⟩ hma hmb) rfl rfl rfl (fun v GB hleB hh => ?_); obtain ⟨cB, rfl, hrB⟩ := hh; obtain ⟨p7, c7, e7, rfl, _⟩ := hrB.open; have hma' := hma.mono hleB; have hmb' := hmb.mono hleB)
 refine aP 7 rfl (qM rfl) rfl ?_
 refine aP 8 rfl (qM rfl) rfl ?_
 refine aP 9 rfl (B4 (j := 1) rfl rfl rfl (by omega)) rfl ?_
 refine aL 10 rfl (A2 rfl rfl (At.mono' hleB (hat1 _)) rfl) rfl ?_
 refine aL 11 rfl (A4 rfl rfl) rfl ?_
 refine Q2 (j := 4) (j' := 12) (by kernel_rfl) ?_ ?_
 (refine E3 rfl (C7 rfl rfl rfl (by omega) (by unfold maxLen; omega) rfl) rfl rfl ?_; rintro _ ⟨b272, rfl⟩)
 refine A1 12 ?_
 refine S6 rfl rfl ((X7 _ _ _ _ _ (hre1.mono hleB) hma')) rfl rfl rfl (fun h274 => ?_) (fun h274 => ?_)
 refine aP 13 rfl (M5 rfl rfl) rfl ?_
 refine aP 14 rfl (qA rfl) rfl ?_
 refine A1 15 ?_
 refine H1 rfl ?_
 refine aP 16 rfl (qA rfl) rfl ?_
 refine A3 ?_
 (refine F9 Pk.here (fun G5 hle5 hsl5 hno5 => ?_))
 refine B6 ?_
 refine C9 (rT rfl) (rC rfl (A4 rfl rfl)) (rT rfl) ?_
 (have hk1 : k = 6 := (by omega); subst hk1; refine L4.two hsl5 (hrB.mono hle5) (hma'.mono hle5) (hmb'.mono hle5) ?_; rw [mW6]; cases hq : R0 4 (h.getD 0 B7) with | none => (rw [hq] at hmi; cases hmi) | some q => (have hq2 := hmm q hq; subst hq2; dsimp only; split <;> first | rfl | (exfalso; simp_all; done)))
 refine aP 13 rfl (M5 rfl rfl) rfl ?_
 refine aP 14 rfl (qA rfl) rfl ?_
 refine A1 15 ?_
 refine H1 rfl ?_
 refine aP 16 rfl (qA rfl) rfl ?_
 refine A3 ?_
 (refine F9 Pk.here (fun G5 hle5 hsl5 hno5 => ?_))
 refine B6 ?_
 refine C9 (rT rfl) (rC rfl (A4 rfl rfl)) (rT rfl) ?_
 (have hk1 : k = 6 := (by omega); subst hk1; refine L4.two hsl5 (hrB.mono hle5) (hma'.mono hle5) (hmb'.mono hle5) ?_; rw [mW6]; cases hq : R0 4 (h.getD 0 B7) with | none => (rw [hq] at hmi; cases hmi) | some q => (have hq2 := hmm q hq; subst hq2; dsimp only; split <;> first | rfl | (exfalso; simp_all; done)))
 refine S6 rfl rfl ((X7 _ _ _ _ _ (hre1.mono hleB) hma')) rfl rfl rfl (fun h301 => ?_) (fun h301 => ?_)
 refine aP 13 rfl (M5 rfl rfl) rfl ?_
 refine A1 4 ?_
 (refine E3 rfl (C7 rfl rfl rfl (by omega) (by unfold maxLen; omega) rfl) rfl rfl ?_; rintro _ ⟨b304, rfl⟩)
 refine aP 14 rfl (qA rfl) rfl ?_
 refine A1 15 ?_
 refine H1 rfl ?_
 refine aP 16 rfl (qA rfl) rfl ?_
 refine A3 ?_
 (refine F9 Pk.here (fun G5 hle5 hsl5 hno5 => ?_))
 refine B6 ?_
 refine C9 (rT rfl) (rC rfl (A4 rfl rfl)) (rT rfl) ?_
 (have hk1 : k = 6 := (by omega); subst hk1; refine L4.two hsl5 (hrB.mono hle5) (hma'.mono hle5) (hmb'.mono hle5) ?_; rw [mW6]; cases hq : R0 4 (h.getD 0 B7) with | none => (rw [hq] at hmi; cases hmi) | some q => (have hq2 := hmm q hq; subst hq2; dsimp only; split <;> first | rfl | (exfalso; simp_all; done)))
 refine aP 13 rfl (M5 rfl rfl) rfl ?_
 refine A1 4 ?_
 (refine E3 rfl (C7 rfl rfl rfl (by omega) (by unfold maxLen; omega) rfl) rfl rfl ?_; rintro _ ⟨b319, rfl⟩)
 refine aP 14 rfl (qA rfl) rfl ?_
 refine A1 15 ?_
 refine H1 rfl ?_
 refine aP 16 rfl (qA rfl) rfl ?_
 refine A3 ?_
 (refine F9 Pk.here (fun G5 hle5 hsl5 hno5 => ?_))
 refine B6 ?_
 refine C9 (rT rfl) (rC rfl (A4 rfl rfl)) (rT rfl) ?_
 (have hk1 : k = 6 := (by omega); subst hk1; refine L4.two hsl5 (hrB.mono hle5) (hma'.mono hle5) (hmb'.mono hle5) ?_; rw [mW6]; cases hq : R0 4 (h.getD 0 B7) with | none => (rw [hq] at hmi; cases hmi) | some q => (have hq2 := hmm q hq; subst hq2; dsimp only; split <;> first | rfl | (exfalso; simp_all; done)))
 refine B2 ?_
 refine sB (qE rfl rfl) rfl rfl (fun h339 => ?_) (fun h339 => ?_)
 refine J2 ?_
 refine sE (A6 rfl) rfl (fun b350 => ?_)
 refine D4 ?_
 refine sP (H9 rfl rfl (by omega)) rfl rfl ?_
 refine A8 ?_
 (have hl2 : n = 2 := hop.1 (by omega); obtain ⟨b0, o0, q0, d0, hp0, hat0, hre0, hg0⟩ := hsl.kidD hkl (i := 0) (by omega) (by omega); obtain ⟨b1, o1, q1, d1, hp1, hat1, hre1, hg1⟩ := hsl.kidD hkl (i := 1) (by omega) (by omega); cases hp0; cases hp1; refine D7 D8 rfl ?_)
 refine K7 (i := 0) (l' := [tt,ff,ff,ff,ff,ff,ff,ff,ff,ff,ff,ff,ff,ff,ff,ff,ff,ff,ff]) rfl D1 (A4 rfl rfl) rfl (by kernel_rfl) rfl rfl ?_
 refine aL 1 rfl (A4 rfl rfl) rfl ?_
 refine aL 3 rfl (A4 rfl rfl) rfl ?_
 refine aP 4 rfl (qM rfl) rfl ?_
 refine aP 5 rfl (B4 (j := 0) rfl rfl rfl (by omega)) rfl ?_
 refine aL 6 rfl (A2 rfl rfl (hat0 _) rfl) rfl ?_
 refine aL 7 rfl (A4 rfl rfl) rfl ?_
 refine Q2 (j := 2) (j' := 8) (by kernel_rfl) ?_ ?_
 (refine E3 rfl (C7 rfl rfl rfl (by omega) (by unfold maxLen; omega) rfl) rfl rfl ?_; rintro _ ⟨b375, rfl⟩)
 refine A1 8 ?_
 refine S6 rfl rfl ((X7 _ _ _ _ _ hre0 (K3 _))) rfl rfl rfl (fun h377 => ?_) (fun h377 => ?_)
 refine aP 9 rfl (qM rfl) rfl ?_
 refine aP 10 rfl (qM rfl) rfl ?_
 refine aP 11 rfl (B4 (j := 1) rfl rfl rfl (by omega)) rfl ?_
 refine aL 12 rfl (A2 rfl rfl (hat1 _) rfl) rfl ?_
 refine aL 13 rfl (A4 rfl rfl) rfl ?_
 refine A1 14 ?_
 refine S6 rfl rfl ((X7 _ _ _ _ _ hre1 (K3 _))) rfl rfl rfl (fun h384 => ?_) (fun h384 => ?_)
 refine aP 15 rfl (M5 rfl rfl) rfl ?_
 refine aP 16 rfl (qA rfl) rfl ?_
 refine A1 17 ?_
 refine H1 rfl ?_
 refine aP 18 rfl (qA rfl) rfl ?_
 refine A3 ?_
 (refine F9 Pk.here (fun G5 hle5 hsl5 hno5 => ?_))
 refine B6 ?_
 refine C9 (rT rfl) (rC rfl (A4 rfl rfl)) (rT rfl) ?_
 (refine L4.two hsl5 (K3 _) (K3 _) (K3 _) ?_; rw [V0 (by omega)]; first | (rw [if_pos ⟨by assumption, by assumption⟩, if_neg (by omega)]; rfl) | (rw [if_neg (fun hc => by first | exact Bool.noConfusion (hc.1.symm.trans (by assumption)) | exact Bool.noConfusion (hc.2.symm.trans (by assumption)) | exact Bool.noConfusion (hc.symm.trans (by assumption)))]; rfl))
 refine aP 15 rfl (M5 rfl rfl) rfl ?_
 refine aP 16 rfl (qA rfl) rfl ?_
 refine A1 17 ?_
 refine H1 rfl ?_
 refine aP 18 rfl (qA rfl) rfl ?_
 refine A3 ?_
 (refine F9 Pk.here (fun G5 hle5 hsl5 hno5 => ?_))
 refine B6 ?_
 refine C9 (rT rfl) (rC rfl (A4 rfl rfl)) (rT rfl) ?_
 (refine L4.two hsl5 (K3 _) (K3 _) (K3 _) ?_; rw [V0 (by omega)]; first | (rw [if_pos ⟨by assumption, by assumption⟩, if_neg (by omega)]; rfl) | (rw [if_neg (fun hc => by first | exact Bool.noConfusion (hc.1.symm.trans (by assumption)) | exact Bool.noConfusion (hc.2.symm.trans (by assumption)) | exact Bool.noConfusion (hc.symm.trans (by assumption)))]; rfl))
 refine aP 9 rfl (qM rfl) rfl ?_
 refine C2 10 rfl rfl rfl ?_
 refine C2 11 rfl rfl rfl ?_
 refine C2 12 rfl rfl rfl ?_
 refine C2 13 rfl rfl rfl ?_
 refine C2 14 rfl rfl rfl ?_
 refine aP 15 rfl (O7 rfl rfl) rfl ?_
 refine aP 16 rfl (qA rfl) rfl ?_
 refine A1 17 ?_
 refine H1 rfl ?_
 refine aP 18 rfl (qA rfl) rfl ?_
 refine A3 ?_
 (refine F9 Pk.here (fun G5 hle5 hsl5 hno5 => ?_))
 refine B6 ?_
 refine C9 (rT rfl) (rC rfl (A4 rfl rfl)) (rT rfl) ?_
 (refine L4.two hsl5 (K3 _) (K3 _) (K3 _) ?_; rw [V0 (by omega)]; first | (rw [if_pos ⟨by assumption, by assumption⟩, if_neg (by omega)]; rfl) | (rw [if_neg (fun hc => by first | exact Bool.noConfusion (hc.1.symm.trans (by assumption)) | exact Bool.noConfusion (hc.2.symm.trans (by assumption)) | exact Bool.noConfusion (hc.symm.trans (by assumption)))]; rfl))
 refine S6 rfl rfl ((X7 _ _ _ _ _ hre0 (K3 _))) rfl rfl rfl (fun h430 => ?_) (fun h430 => ?_)
 refine aP 9 rfl (qM rfl) rfl ?_
 refine aP 10 rfl (qM rfl) rfl ?_
 refine aP 11 rfl (B4 (j := 1) rfl rfl rfl (by omega)) rfl ?_
 refine aL 12 rfl (A2 rfl rfl (hat1 _) rfl) rfl ?_
 refine aL 13 rfl (A4 rfl rfl) rfl ?_
 refine Q2 (j := 2) (j' := 14) (by kernel_rfl) ?_ ?_
 (refine E3 rfl (C7 rfl rfl rfl (by omega) (by unfold maxLen; omega) rfl) rfl rfl ?_; rintro _ ⟨b437, rfl⟩)
 refine A1 14 ?_
 refine S6 rfl rfl ((X7 _ _ _ _ _ hre1 (K3 _))) rfl rfl rfl (fun h439 => ?_) (fun h439 => ?_)
 refine aP 15 rfl (M5 rfl rfl) rfl ?_
 refine aP 16 rfl (qA rfl) rfl ?_
 refine A1 17 ?_
 refine H1 rfl ?_
 refine aP 18 rfl (qA rfl) rfl ?_
 refine A3 ?_
 (refine F9 Pk.here (fun G5 hle5 hsl5 hno5 => ?_))
 refine B6 ?_
 refine C9 (rT rfl) (rC rfl (A4 rfl rfl)) (rT rfl) ?_
 (refine L4.two hsl5 (K3 _) (K3 _) (K3 _) ?_; rw [V0 (by omega)]; first | (rw [if_pos ⟨by assumption, by assumption⟩, if_neg (by omega)]; rfl) | (rw [if_neg (fun hc => by first | exact Bool.noConfusion (hc.1.symm.trans (by assumption)) | exact Bool.noConfusion (hc.2.symm.trans (by assumption)) | exact Bool.noConfusion (hc.symm.trans (by assumption)))]; rfl))
 refine aP 15 rfl (M5 rfl rfl) rfl ?_
 refine aP 16 rfl (qA rfl) rfl ?_
 refine A1 17 ?_
 refine H1 rfl ?_
 refine aP 18 rfl (qA rfl) rfl ?_
 refine A3 ?_
 (refine F9 Pk.here (fun G5 hle5 hsl5 hno5 => ?_))
 refine B6 ?_
 refine C9 (rT rfl) (rC rfl (A4 rfl rfl)) (rT rfl) ?_
 (refine L4.two hsl5 (K3 _) (K3 _) (K3 _) ?_; rw [V0 (by omega)]; first | (rw [if_pos ⟨by assumption, by assumption⟩, if_neg (by omega)]; rfl) | (rw [if_neg (fun hc => by first | exact Bool.noConfusion (hc.1.symm.trans (by assumption)) | exact Bool.noConfusion (hc.2.symm.trans (by assumption)) | exact Bool.noConfusion (hc.symm.trans (by assumption)))]; rfl))
 refine S6 rfl rfl ((X7 _ _ _ _ _ hre1 (K3 _))) rfl rfl rfl (fun h466 => ?_) (fun h466 => ?_)
 refine aP 15 rfl (M5 rfl rfl) rfl ?_
 refine A1 2 ?_
 (refine E3 rfl (C7 rfl rfl rfl (by omega) (by unfold maxLen; omega) rfl) rfl rfl ?_; rintro _ ⟨b469, rfl⟩)
 refine aP 16 rfl (qA rfl) rfl ?_
 refine A1 17 ?_
 refine H1 rfl ?_
 refine aP 18 rfl (qA rfl) rfl ?_
 refine A3 ?_
 (refine F9 Pk.here (fun G5 hle5 hsl5 hno5 => ?_))
 refine B6 ?_
 refine C9 (rT rfl) (rC rfl (A4 rfl rfl)) (rT rfl) ?_
 (refine L4.two hsl5 (K3 _) (K3 _) (K3 _) ?_; rw [V0 (by omega)]; first | (rw [if_pos ⟨by assumption, by assumption⟩, if_neg (by omega)]; rfl) | (rw [if_neg (fun hc => by first | exact Bool.noConfusion (hc.1.symm.trans (by assumption)) | exact Bool.noConfusion (hc.2.symm.trans (by assumption)) | exact Bool.noConfusion (hc.symm.trans (by assumption)))]; rfl))
 refine aP 15 rfl (M5 rfl rfl) rfl ?_
 refine A1 2 ?_
 (refine E3 rfl (C7 rfl rfl rfl (by omega) (by unfold maxLen; omega) rfl) rfl rfl ?_; rintro _ ⟨b484, rfl⟩)
 refine aP 16 rfl (qA rfl) rfl ?_
 refine A1 17 ?_
 refine H1 rfl ?_
 refine aP 18 rfl (qA rfl) rfl ?_
 refine A3 ?_
 (refine F9 Pk.here (fun G5 hle5 hsl5 hno5 => ?_))
 refine B6 ?_
 refine C9 (rT rfl) (rC rfl (A4 rfl rfl)) (rT rfl) ?_
 (refine L4.two hsl5 (K3 _) (K3 _) (K3 _) ?_; rw [V0 (by omega)]; first | (rw [if_pos ⟨by assumption, by assumption⟩, if_neg (by omega)]; rfl) | (rw [if_neg (fun hc => by first | exact Bool.noConfusion (hc.1.symm.trans (by assumption)) | exact Bool.noConfusion (hc.2.symm.trans (by assumption)) | exact Bool.noConfusion (hc.symm.trans (by assumption)))]; rfl))
 refine aP 9 rfl (qM rfl) rfl ?_
 refine C2 10 rfl rfl rfl ?_
 refine C2 11 rfl rfl rfl ?_
 refine C2 12 rfl rfl rfl ?_
 refine C2 13 rfl rfl rfl ?_
 refine Q2 (j := 2) (j' := 14) (by kernel_rfl) ?_ ?_
 (refine E3 rfl (C7 rfl rfl rfl (by omega) (by unfold maxLen; omega) rfl) rfl rfl ?_; rintro _ ⟨b503, rfl⟩)
 refine C2 14 rfl rfl rfl ?_
 refine aP 15 rfl (O7 rfl rfl) rfl ?_
 refine aP 16 rfl (qA rfl) rfl ?_
 refine A1 17 ?_
 refine H1 rfl ?_
 refine aP 18 rfl (qA rfl) rfl ?_
 refine A3 ?_
 (refine F9 Pk.here (fun G5 hle5 hsl5 hno5 => ?_))
 refine B6 ?_
 refine C9 (rT rfl) (rC rfl (A4 rfl rfl)) (rT rfl) ?_
 (refine L4.two hsl5 (K3 _) (K3 _) (K3 _) ?_; rw [V0 (by omega)]; first | (rw [if_pos ⟨by assumption, by assumption⟩, if_neg (by omega)]; rfl) | (rw [if_neg (fun hc => by first | exact Bool.noConfusion (hc.1.symm.trans (by assumption)) | exact Bool.noConfusion (hc.2.symm.trans (by assumption)) | exact Bool.noConfusion (hc.symm.trans (by assumption)))]; rfl))
 refine A5n (l' := [tt,tt,ff,tt,tt,tt,tt,tt,tt,tt,tt,tt,tt,tt,tt,ff,ff,ff,ff]) rfl rfl rfl rfl ?_
 refine aP 15 rfl (O7 rfl rfl) rfl ?_
 refine A1 2 ?_
 (refine E3 rfl (C7 rfl rfl rfl (by omega) (by unfold maxLen; omega) rfl) rfl rfl ?_; rintro _ ⟨b521, rfl⟩)
 refine aP 16 rfl (qA rfl) rfl ?_
 refine A1 17 ?_
 refine H1 rfl ?_
 refine aP 18 rfl (qA rfl) rfl ?_
 refine A3 ?_
 (refine F9 Pk.here (fun G5 hle5 hsl5 hno5 => ?_))
 refine B6 ?_
 refine C9 (rT rfl) (rC rfl (A4 rfl rfl)) (rT rfl) ?_
 (refine L4.two hsl5 (K3 _) (K3 _) (K3 _) ?_; rw [V0 (by omega)]; first | (rw [if_pos ⟨by assumption, by assumption⟩, if_neg (by omega)]; rfl) | (rw [if_neg (fun hc => by first | exact Bool.noConfusion (hc.1.symm.trans (by assumption)) | exact Bool.noConfusion (hc.2.symm.trans (by assumption)) | exact Bool.noConfusion (hc.symm.trans (by assumption)))]; rfl))
 refine A9 ?_
 refine sB (qE rfl rfl) rfl rfl (fun h539 => ?_) (fun h539 => ?_)
 refine B2 ?_
 refine sE (A6 rfl) rfl (fun b547 => ?_)
 refine D4 ?_
 refine sP (T8 rfl rfl (by omega)) rfl rfl ?_
 refine E0 ?_
 (have hl2 : n = 2 := hop.1 (by omega); obtain ⟨b0, o0, q0, d0, hp0, hat0, hre0, hg0⟩ := hsl.kidD hkl (i := 0) (by omega) (by omega); obtain ⟨b1, o1, q1, d1, hp1, hat1, hre1, hg1⟩ := hsl.kidD hkl (i := 1) (by omega) (by omega); cases hp0; cases hp1; refine D7 D8 rfl ?_)
 refine K7 (i := 0) (l' := [tt,ff,ff,ff,ff,ff,ff,ff,ff,ff,ff,ff,ff,ff,ff,ff,ff,ff,ff]) rfl D1 (A4 rfl rfl) rfl (by kernel_rfl) rfl rfl ?_
 refine aL 1 rfl (A4 rfl rfl) rfl ?_
 refine aL 3 rfl (A4 rfl rfl) rfl ?_
 refine aP 4 rfl (qM rfl) rfl ?_
 refine aP 5 rfl (B4 (j := 0) rfl rfl rfl (by omega)) rfl ?_
 refine aL 6 rfl (A2 rfl rfl (hat0 _) rfl) rfl ?_
 refine aL 7 rfl (A4 rfl rfl) rfl ?_
 refine Q2 (j := 2) (j' := 8) (by kernel_rfl) ?_ ?_
 (refine E3 rfl (C7 rfl rfl rfl (by omega) (by unfold maxLen; omega) rfl) rfl rfl ?_; rintro _ ⟨b575, rfl⟩)
 refine A1 8 ?_
 refine S6 rfl rfl ((X7 _ _ _ _ _ hre0 (K3 _))) rfl rfl rfl (fun h577 => ?_) (fun h577 => ?_)
 refine aP 9 rfl (qM rfl) rfl ?_
 refine aP 10 rfl (qM rfl) rfl ?_
 refine aP 11 rfl (B4 (j := 1) rfl rfl rfl (by omega)) rfl ?_
 refine aL 12 rfl (A2 rfl rfl (hat1 _) rfl) rfl ?_
 refine aL 13 rfl (A4 rfl rfl) rfl ?_
 refine A1 14 ?_
 refine S6 rfl rfl ((X7 _ _ _ _ _ hre1 (K3 _))) rfl rfl rfl (fun h584 => ?_) (fun h584 => ?_)
 refine aP 15 rfl (M5 rfl rfl) rfl ?_
 refine aP 16 rfl (qA rfl) rfl ?_
 refine A1 17 ?_
 refine H1 rfl ?_
 refine aP 18 rfl (qA rfl) rfl ?_
 refine A3 ?_
 (refine F9 Pk.here (fun G5 hle5 hsl5 hno5 => ?_))
 refine B6 ?_
 refine C9 (rT rfl) (rC rfl (A4 rfl rfl)) (rT rfl) ?_
 (refine L4.two hsl5 (K3 _) (K3 _) (A0b _) ?_; rw [V0 (by omega)]; first | (rw [if_pos ⟨by assumption, by assumption⟩, if_pos (by omega)]; rfl) | (rw [if_neg (fun hc => by first | exact Bool.noConfusion (hc.1.symm.trans (by assumption)) | exact Bool.noConfusion (hc.2.symm.trans (by assumption)) | exact Bool.noConfusion (hc.symm.trans (by assumption)))]; rfl))
 refine aP 15 rfl (M5 rfl rfl) rfl ?_
 refine aP 16 rfl (qA rfl) rfl ?_
 refine A1 17 ?_
 refine H1 rfl ?_
 refine aP 18 rfl (qA rfl) rfl ?_
 refine A3 ?_
 (refine F9 Pk.here (fun G5 hle5 hsl5 hno5 => ?_))
 refine B6 ?_
 refine C9 (rT rfl) (rC rfl (A4 rfl rfl)) (rT rfl) ?_
 (refine L4.two hsl5 (K3 _) (K3 _) (A0b _) ?_; rw [V0 (by omega)]; first | (rw [if_pos ⟨by assumption, by assumption⟩, if_pos (by omega)]; rfl) | (rw [if_neg (fun hc => by first | exact Bool.noConfusion (hc.1.symm.trans (by assumption)) | exact Bool.noConfusion (hc.2.symm.trans (by assumption)) | exact Bool.noConfusion (hc.symm.trans (by assumption)))]; rfl))
 refine aP 9 rfl (qM rfl) rfl ?_
 refine C2 10 rfl rfl rfl ?_
 refine C2 11 rfl rfl rfl ?_
 refine C2 12 rfl rfl rfl ?_
 refine C2 13 rfl rfl rfl ?_
 refine C2 14 rfl rfl rfl ?_
 refine aP 15 rfl (O7 rfl rfl) rfl ?_
 refine aP 16 rfl (qA rfl) rfl ?_
 refine A1 17 ?_
 refine H1 rfl ?_
 refine aP 18 rfl (qA rfl) rfl ?_
 refine A3 ?_
 (refine F9 Pk.here (fun G5 hle5 hsl5 hno5 => ?_))
 refine B6 ?_
 refine C9 (rT rfl) (rC rfl (A4 rfl rfl)) (rT rfl) ?_
 (refine L4.two hsl5 (K3 _) (K3 _) (A0b _) ?_; rw [V0 (by omega)]; first | (rw [if_pos ⟨by assumption, by assumption⟩, if_pos (by omega)]; rfl) | (rw [if_neg (fun hc => by first | exact Bool.noConfusion (hc.1.symm.trans (by assumption)) | exact Bool.noConfusion (hc.2.symm.trans (by assumption)) | exact Bool.noConfusion (hc.symm.trans (by assumption)))]; rfl))
 refine S6 rfl rfl ((X7 _ _ _ _ _ hre0 (K3 _))) rfl rfl rfl (fun h630 => ?_) (fun h630 => ?_)
 refine aP 9 rfl (qM rfl) rfl ?_
 refine aP 10 rfl (qM rfl) rfl ?_
 refine aP 11 rfl (B4 (j := 1) rfl rfl rfl (by omega)) rfl ?_
 refine aL 12 rfl (A2 rfl rfl (hat1 _) rfl) rfl ?_
 refine aL 13 rfl (A4 rfl rfl) rfl ?_
 refine Q2 (j := 2) (j' := 14) (by kernel_rfl) ?_ ?_
 (refine E3 rfl (C7 rfl rfl rfl (by omega) (by unfold maxLen; omega) rfl) rfl rfl ?_; rintro _ ⟨b637, rfl⟩)
 refine A1 14 ?_
 refine S6 rfl rfl ((X7 _ _ _ _ _ hre1 (K3 _))) rfl rfl rfl (fun h639 => ?_) (fun h639 => ?_)
 refine aP 15 rfl (M5 rfl rfl) rfl ?_
 refine aP 16 rfl (qA rfl) rfl ?_
 refine A1 17 ?_
 refine H1 rfl ?_
 refine aP 18 rfl (qA rfl) rfl ?_
 refine A3 ?_
 (refine F9 Pk.here (fun G5 hle5 hsl5 hno5 => ?_))
 refine B6 ?_
 refine C9 (rT rfl) (rC rfl (A4 rfl rfl)) (rT rfl) ?_
 (refine L4.two hsl5 (K3 _) (K3 _) (A0b _) ?_; rw [V0 (by omega)]; first | (rw [if_pos ⟨by assumption, by assumption⟩, if_pos (by omega)]; rfl) | (rw [if_neg (fun hc => by first | exact Bool.noConfusion (hc.1.symm.trans (by assumption)) | exact Bool.noConfusion (hc.2.symm.trans (by assumption)) | exact Bool.noConfusion (hc.symm.trans (by assumption)))]; rfl))
 refine aP 15 rfl (M5 rfl rfl) rfl ?_
 refine aP 16 rfl (qA rfl) rfl ?_
 refine A1 17 ?_
 refine H1 rfl ?_
 refine aP 18 rfl (qA rfl) rfl ?_
 refine A3 ?_
 (refine F9 Pk.here (fun G5 hle5 hsl5 hno5 => ?_))
 refine B6 ?_
 refine C9 (rT rfl) (rC rfl (A4 rfl rfl)) (rT rfl) ?_
 (refine L4.two hsl5 (K3 _) (K3 _) (A0b _) ?_; rw [V0 (by omega)]; first | (rw [if_pos ⟨by assumption, by assumption⟩, if_pos (by omega)]; rfl) | (rw [if_neg (fun hc => by first | exact Bool.noConfusion (hc.1.symm.trans (by assumption)) | exact Bool.noConfusion (hc.2.symm.trans (by assumption)) | exact Bool.noConfusion (hc.symm.trans (by assumption)))]; rfl))
 refine S6 rfl rfl ((X7 _ _ _ _ _ hre1 (K3 _))) rfl rfl rfl (fun h666 => ?_) (fun h666 => ?_)
 refine aP 15 rfl (M5 rfl rfl) rfl ?_
 refine A1 2 ?_
 (refine E3 rfl (C7 rfl rfl rfl (by omega) (by unfold maxLen; omega) rfl) rfl rfl ?_; rintro _ ⟨b669, rfl⟩)
 refine aP 16 rfl (qA rfl) rfl ?_
 refine A1 17 ?_
 refine H1 rfl ?_
 refine aP 18 rfl (qA rfl) rfl ?_
 refine A3 ?_
 (refine F9 Pk.here (fun G5 hle5 hsl5 hno5 => ?_))
 refine B6 ?_
 refine C9 (rT rfl) (rC rfl (A4 rfl rfl)) (rT rfl) ?_
 (refine L4.two hsl5 (K3 _) (K3 _) (A0b _) ?_; rw [V0 (by omega)]; first | (rw [if_pos ⟨by assumption, by assumption⟩, if_pos (by omega)]; rfl) | (rw [if_neg (fun hc => by first | exact Bool.noConfusion (hc.1.symm.trans (by assumption)) | exact Bool.noConfusion (hc.2.symm.trans (by assumption)) | exact Bool.noConfusion (hc.symm.trans (by assumption)))]; rfl))
 refine aP 15 rfl (M5 rfl rfl) rfl ?_
 refine A1 2 ?_
 (refine E3 rfl (C7 rfl rfl rfl (by omega) (by unfold maxLen; omega) rfl) rfl rfl ?_; rintro _ ⟨b684, rfl⟩)
 refine aP 16 rfl (qA rfl) rfl ?_
 refine A1 17 ?_
 refine H1 rfl ?_
 refine aP 18 rfl (qA rfl) rfl ?_
 refine A3 ?_
 (refine F9 Pk.here (fun G5 hle5 hsl5 hno5 => ?_))
 refine B6 ?_
 refine C9 (rT rfl) (rC rfl (A4 rfl rfl)) (rT rfl) ?_
 (refine L4.two hsl5 (K3 _) (K3 _) (A0b _) ?_; rw [V0 (by omega)]; first | (rw [if_pos ⟨by assumption, by assumption⟩, if_pos (by omega)]; rfl) | (rw [if_neg (fun hc => by first | exact Bool.noConfusion (hc.1.symm.trans (by assumption)) | exact Bool.noConfusion (hc.2.symm.trans (by assumption)) | exact Bool.noConfusion (hc.symm.trans (by assumption)))]; rfl))
 refine aP 9 rfl (qM rfl) rfl ?_
 refine C2 10 rfl rfl rfl ?_
 refine C2 11 rfl rfl rfl ?_
 refine C2 12 rfl rfl rfl ?_
 refine C2 13 rfl rfl rfl ?_
 refine Q2 (j := 2) (j' := 14) (by kernel_rfl) ?_ ?_
 (refine E3 rfl (C7 rfl rfl rfl (by omega) (by unfold maxLen; omega) rfl) rfl rfl ?_; rintro _ ⟨b703, rfl⟩)
 refine C2 14 rfl rfl rfl ?_
 refine aP 15 rfl (O7 rfl rfl) rfl ?_
 refine aP 16 rfl (qA rfl) rfl ?_
 refine A1 17 ?_
 refine H1 rfl ?_
 refine aP 18 rfl (qA rfl) rfl ?_
 refine A3 ?_
 (refine F9 Pk.here (fun G5 hle5 hsl5 hno5 => ?_))
 refine B6 ?_
 refine C9 (rT rfl) (rC rfl (A4 rfl rfl)) (rT rfl) ?_
 (refine L4.two hsl5 (K3 _) (K3 _) (A0b _) ?_; rw [V0 (by omega)]; first | (rw [if_pos ⟨by assumption, by assumption⟩, if_pos (by omega)]; rfl) | (rw [if_neg (fun hc => by first | exact Bool.noConfusion (hc.1.symm.trans (by assumption)) | exact Bool.noConfusion (hc.2.symm.trans (by assumption)) | exact Bool.noConfusion (hc.symm.trans (by assumption)))]; rfl))
 refine A5n (l' := [tt,tt,ff,tt,tt,tt,tt,tt,tt,tt,tt,tt,tt,tt,tt,ff,ff,ff,ff]) rfl rfl rfl rfl ?_
 refine aP 15 rfl (O7 rfl rfl) rfl ?_
 refine A1 2 ?_
 (refine E3 rfl (C7 rfl rfl rfl (by omega) (by unfold maxLen; omega) rfl) rfl rfl ?_; rintro _ ⟨b721, rfl⟩)
 refine aP 16 rfl (qA rfl) rfl ?_
 refine A1 17 ?_
 refine H1 rfl ?_
 refine aP 18 rfl (qA rfl) rfl ?_
 refine A3 ?_
 (refine F9 Pk.here (fun G5 hle5 hsl5 hno5 => ?_))
 refine B6 ?_
 refine C9 (rT rfl) (rC rfl (A4 rfl rfl)) (rT rfl) ?_
 (refine L4.two hsl5 (K3 _) (K3 _) (A0b _) ?_; rw [V0 (by omega)]; first | (rw [if_pos ⟨by assumption, by assumption⟩, if_pos (by omega)]; rfl) | (rw [if_neg (fun hc => by first | exact Bool.noConfusion (hc.1.symm.trans (by assumption)) | exact Bool.noConfusion (hc.2.symm.trans (by assumption)) | exact Bool.noConfusion (hc.symm.trans (by assumption)))]; rfl))
 refine A8 ?_
 refine sB (qE rfl rfl) rfl rfl (fun h740 => ?_) (fun h740 => ?_)
 refine A8 ?_
 (have hl3 : n = 3 := hop.2.1 (by omega); obtain ⟨b0, o0, q0, d0, hp0, hat0, hre0, hg0⟩ := hsl.kidD hkl (i := 0) (by omega) (by omega); obtain ⟨b1, o1, q1, d1, hp1, hat1, hre1, hg1⟩ := hsl.kidD hkl (i := 1) (by omega) (by omega); cases hp0; cases hp1; obtain ⟨b2, o2, q2, d2, hp2, hat2, hre2, hg2⟩ := hsl.kidD hkl (i := 2) (by omega) (by omega); cases hp2; refine D7 D8 rfl ?_)
 refine I9 (i := 0) (l' := [tt,ff,ff,ff,ff,ff,ff,ff,ff,ff,ff,ff,ff,ff,ff,ff]) rfl D1 (qM rfl) rfl (by kernel_rfl) rfl rfl ?_
 refine aP 1 rfl (B4 (j := 0) rfl rfl rfl (by omega)) rfl ?_
 refine aL 2 rfl (A2 rfl rfl (hat0 _) rfl) rfl ?_
 refine aL 3 rfl (A4 rfl rfl) rfl ?_
 refine A1 4 ?_
 refine S6 rfl rfl ((X7 _ _ _ _ _ hre0 (A0b _))) rfl rfl rfl (fun h753 => ?_) (fun h753 => ?_)
 refine aP 5 rfl (pNt rfl) rfl ?_
 refine aP 6 rfl (qM rfl) rfl ?_
 refine aP 7 rfl (qM rfl) rfl ?_
 refine aP 8 rfl (B4 (j := 1) rfl rfl rfl (by omega)) rfl ?_
 refine aL 9 rfl (A2 rfl rfl (hat1 _) rfl) rfl ?_
 refine aP 10 rfl (qM rfl) rfl ?_
 refine aP 11 rfl (B4 (j := 2) rfl rfl rfl (by omega)) rfl ?_
 refine aL 12 rfl (A2 rfl rfl (hat2 _) rfl) rfl ?_
 refine A1 13 ?_
 refine S6 rfl rfl ((X7 _ _ _ _ _ hre1 hre2)) rfl rfl rfl (fun h763 => ?_) (fun h763 => ?_)
 refine aP 14 rfl (pNt rfl) rfl ?_
 refine aP 15 rfl (O7 rfl rfl) rfl ?_
 refine A8 ?_
 (have hl3 : n = 3 := hop.2.1 (by omega); obtain ⟨b0, o0, q0, d0, hp0, hat0, hre0, hg0⟩ := hsl.kidD hkl (i := 0) (by omega) (by omega); obtain ⟨b1, o1, q1, d1, hp1, hat1, hre1, hg1⟩ := hsl.kidD hkl (i := 1) (by omega) (by omega); cases hp0; cases hp1; obtain ⟨b2, o2, q2, d2, hp2, hat2, hre2, hg2⟩ := hsl.kidD hkl (i := 2) (by omega) (by omega); cases hp2; refine D7 D8 rfl ?_)
 refine I9 (i := 0) (l' := [tt,ff,ff,ff,ff,ff,ff,ff,ff]) rfl D1 (qM rfl) rfl (by kernel_rfl) rfl rfl ?_
 refine aP 1 rfl (B4 (j := 1) rfl rfl rfl (by omega)) rfl ?_
 refine aL 2 rfl (A2 rfl rfl (hat1 _) rfl) rfl ?_
 refine aP 3 rfl (qM rfl) rfl ?_
 refine aP 4 rfl (B4 (j := 2) rfl rfl rfl (by omega)) rfl ?_
 refine aL 5 rfl (A2 rfl rfl (hat2 _) rfl) rfl ?_
 refine Q2 (j := 6) (j' := 7) (by kernel_rfl) ?_ ?_
 (refine H0 rfl rfl (A8V _ _ _ _ _ (by assumption) (A2V har (by omega)) (A2V har (by omega)) hre1 hre2) rfl rfl rfl (fun v GM hleM hh => ?_); obtain ⟨cM, rfl, hrM⟩ := hh; obtain ⟨p7, c7, e7, rfl, _⟩ := hrM.open)
 refine A1 7 ?_
 (refine E3 rfl (A6 rfl) rfl rfl ?_; rintro _ ⟨b782, rfl⟩)
 refine A1 8 ?_
 refine H1 rfl ?_
 refine B6 ?_
 (have hl3 : n = 3 := hop.2.1 (by omega); obtain ⟨b0, o0, q0, d0, hp0, hat0, hre0, hg0⟩ := hsl.kidD hkl (i := 0) (by omega) (by omega); obtain ⟨b1, o1, q1, d1, hp1, hat1, hre1, hg1⟩ := hsl.kidD hkl (i := 1) (by omega) (by omega); cases hp0; cases hp1; obtain ⟨b2, o2, q2, d2, hp2, hat2, hre2, hg2⟩ := hsl.kidD hkl (i := 2) (by omega) (by omega); cases hp2; refine D7 D8 rfl ?_)
 refine K7 (i := 0) (l' := [tt,ff,ff,ff,ff,ff,ff,ff]) rfl D1 (A4 rfl rfl) rfl (by kernel_rfl) rfl rfl ?_
 refine aL 1 rfl (A4 rfl rfl) rfl ?_
 refine aL 2 rfl (A4 rfl rfl) rfl ?_
 refine aL 4 rfl (A4 rfl rfl) rfl ?_
 refine A1 3 ?_
 (refine E3 rfl (C7 rfl rfl rfl (by omega) (by unfold maxLen; omega) rfl) rfl rfl ?_; rintro _ ⟨b794, rfl⟩)
 refine aP 5 rfl (qA rfl) rfl ?_
 refine A1 6 ?_
 refine H1 rfl ?_
 refine aP 7 rfl (qA rfl) rfl ?_
 refine A3 ?_
 (refine F9 Pk.here (fun G5 hle5 hsl5 hno5 => ?_))
 refine B6 ?_
 refine C9 (rT rfl) (rC rfl (A4 rfl rfl)) (rT rfl) ?_
 exact A8W
 (refine E3 rfl (A6 rfl) rfl rfl ?_; rintro _ ⟨b807, rfl⟩)
 refine A1 6 ?_
 (refine H0 rfl rfl (A8V _ _ _ _ _ (by assumption) (A2V har (by omega)) (A2V har (by omega)) hre1 hre2) rfl rfl rfl (fun v GM hleM hh => ?_); obtain ⟨cM, rfl, hrM⟩ := hh; obtain ⟨p7, c7, e7, rfl, _⟩ := hrM.open)
 refine A1 8 ?_
 refine H1 rfl ?_
 refine B6 ?_
 (have hl3 : n = 3 := hop.2.1 (by omega); obtain ⟨b0, o0, q0, d0, hp0, hat0, hre0, hg0⟩ := hsl.kidD hkl (i := 0) (by omega) (by omega); obtain ⟨b1, o1, q1, d1, hp1, hat1, hre1, hg1⟩ := hsl.kidD hkl (i := 1) (by omega) (by omega); cases hp0; cases hp1; obtain ⟨b2, o2, q2, d2, hp2, hat2, hre2, hg2⟩ := hsl.kidD hkl (i := 2) (by omega) (by omega); cases hp2; refine D7 D8 rfl ?_)
 refine K7 (i := 0) (l' := [tt,ff,ff,ff,ff,ff,ff,ff]) rfl D1 (A4 rfl rfl) rfl (by kernel_rfl) rfl rfl ?_
 refine aL 1 rfl (A4 rfl rfl) rfl ?_
 refine aL 2 rfl (A4 rfl rfl) rfl ?_
 refine aL 4 rfl (A4 rfl rfl) rfl ?_
 refine A1 3 ?_
 (refine E3 rfl (C7 rfl rfl rfl (by omega) (by unfold maxLen; omega) rfl) rfl rfl ?_; rintro _ ⟨b821, rfl⟩)
 refine aP 5 rfl (qA rfl) rfl ?_
 refine A1 6 ?_
 refine H1 rfl ?_
 refine aP 7 rfl (qA rfl) rfl ?_
 refine A3 ?_
 (refine F9 Pk.here (fun G5 hle5 hsl5 hno5 => ?_))
 refine B6 ?_
 refine C9 (rT rfl) (rC rfl (A4 rfl rfl)) (rT rfl) ?_
 exact A8W
 refine aP 14 rfl (pNf rfl) rfl ?_
 refine aP 15 rfl (O7 rfl rfl) rfl ?_
 refine I0 ?_
 refine C9 (rT rfl) (rC rfl (A4 rfl rfl)) (rT rfl) ?_
 exact A8X
 refine aP 5 rfl (pNf rfl) rfl ?_
 refine aP 6 rfl (qM rfl) rfl ?_
 refine C2 7 rfl rfl rfl ?_
 refine C2 8 rfl rfl rfl ?_
 refine C2 9 rfl rfl rfl ?_
 refine C2 10 rfl rfl rfl ?_
 refine C2 11 rfl rfl rfl ?_
 refine C2 12 rfl rfl rfl ?_
 refine C2 13 rfl rfl rfl ?_
 refine C2 14 rfl rfl rfl ?_
 refine aP 15 rfl (M5 rfl rfl) rfl ?_
 refine I0 ?_
 refine C9 (rT rfl) (rC rfl (A4 rfl rfl)) (rT rfl) ?_
 exact A8X
 refine A8 ?_
 refine sB (qE rfl rfl) rfl rfl (fun h887 => ?_) (fun h887 => ?_)
 refine A9 ?_
 (have hl2 : n = 2 := hop.1 (by omega); obtain ⟨b0, o0, q0, d0, hp0, hat0, hre0, hg0⟩ := hsl.kidD hkl (i := 0) (by omega) (by omega); obtain ⟨b1, o1, q1, d1, hp1, hat1, hre1, hg1⟩ := hsl.kidD hkl (i := 1) (by omega) (by omega); cases hp0; cases hp1; refine D7 D8 rfl ?_)
 refine I9 (i := 0) (l' := [tt,ff,ff,ff,ff,ff,ff,ff,ff,ff]) rfl D1 (qM rfl) rfl (by kernel_rfl) rfl rfl ?_
 refine aP 1 rfl (B4 (j := 0) rfl rfl rfl (by omega)) rfl ?_
 refine aL 2 rfl (A2 rfl rfl (hat0 _) rfl) rfl ?_
 refine aP 3 rfl (qM rfl) rfl ?_
 refine aP 4 rfl (B4 (j := 1) rfl rfl rfl (by omega)) rfl ?_
 refine aL 5 rfl (A2 rfl rfl (hat1 _) rfl) rfl ?_
 refine A1 6 ?_
 (refine H0 rfl rfl (A1Q 5 _ _ _ _ _ ⟨by omega, by omega⟩ hre0 hre1) rfl rfl rfl (fun v GB hleB hh => ?_); obtain ⟨cB, rfl, hrB⟩ := hh; obtain ⟨p7, c7, e7, rfl, _⟩ := hrB.open)
 refine aP 7 rfl (qA rfl) rfl ?_
 refine A1 8 ?_
 refine H1 rfl ?_
 refine aP 9 rfl (qA rfl) rfl ?_
 refine A9 ?_
 refine C9 (rT rfl) (rC rfl (A4 rfl rfl)) (rT rfl) ?_
 (have hk1 : k = 10 := (by omega); subst hk1; exact L4.nil hrB A4G)
 refine A8 ?_
 refine sB (qE rfl rfl) rfl rfl (fun h919 => ?_) (fun h919 => ?_)
 refine A9 ?_
 (have hl1 : n = 1 := hop.2.2 (by omega); obtain ⟨b0, o0, q0, d0, hp0, hat0, hre0, hg0⟩ := hsl.kidD hkl (i := 0) (by omega) (by omega); cases hp0; refine D7 D8 rfl ?_)
 refine I9 (i := 0) (l' := [tt,ff,ff,ff,ff,ff,ff,ff,ff,ff,ff,ff,ff,ff]) rfl D1 (B5 rfl) rfl (by kernel_rfl) rfl rfl ?_
 refine aL 1 rfl (A4 rfl rfl) rfl ?_
 refine aP 3 rfl (B5 rfl) rfl ?_
 refine aL 4 rfl (A4 rfl rfl) rfl ?_
 refine aP 5 rfl (qM rfl) rfl ?_
 refine aP 6 rfl (B4 (j := 0) rfl rfl rfl (by omega)) rfl ?_
 refine aL 7 rfl (A2 rfl rfl (hat0 _) rfl) rfl ?_
 refine aP 8 rfl (B5 rfl) rfl ?_
 refine aL 9 rfl (A4 rfl rfl) rfl ?_
 refine Q2 (j := 2) (j' := 10) (by kernel_rfl) ?_ ?_
 (refine E3 rfl (C7 rfl rfl rfl (by omega) (by unfold maxLen; omega) rfl) rfl rfl ?_; rintro _ ⟨b936, rfl⟩)
 refine A1 10 ?_
 refine S6 rfl rfl ((X7 _ _ _ _ _ hre0 hrty)) rfl rfl rfl (fun h938 => ?_) (fun h938 => ?_)
 refine aP 11 rfl (qA rfl) rfl ?_
 refine A1 12 ?_
 refine H1 rfl ?_
 refine aP 13 rfl (qA rfl) rfl ?_
 refine A3 ?_
 (refine F9 Pk.here (fun G5 hle5 hsl5 hno5 => ?_))
 refine B6 ?_
 refine C9 (rT rfl) (rC rfl (A4 rfl rfl)) (rT rfl) ?_
 (have hk1 : k = 13 := (by omega); subst hk1; refine L4.one hsl5 (hrty.mono hle5) (hrty.mono hle5) ?_; rw [A2k]; split <;> first | rfl | (exfalso; simp_all; done))
 refine aP 11 rfl (qA rfl) rfl ?_
 refine A1 12 ?_
 refine H1 rfl ?_
 refine aP 13 rfl (qA rfl) rfl ?_
 refine A3 ?_
 (refine F9 Pk.here (fun G5 hle5 hsl5 hno5 => ?_))
 refine B6 ?_
 refine C9 (rT rfl) (rC rfl (A4 rfl rfl)) (rT rfl) ?_
 (have hk1 : k = 13 := (by omega); subst hk1; refine L4.one hsl5 (hrty.mono hle5) (hrty.mono hle5) ?_; rw [A2k]; split <;> first | rfl | (exfalso; simp_all; done))
 refine S6 rfl rfl ((X7 _ _ _ _ _ hre0 hrty)) rfl rfl rfl (fun h963 => ?_) (fun h963 => ?_)
 refine A1 2 ?_
 (refine E3 rfl (C7 rfl rfl rfl (by omega) (by unfold maxLen; omega) rfl) rfl rfl ?_; rintro _ ⟨b965, rfl⟩)
 refine aP 11 rfl (qA rfl) rfl ?_
 refine A1 12 ?_
 refine H1 rfl ?_
 refine aP 13 rfl (qA rfl) rfl ?_
 refine A3 ?_
 (refine F9 Pk.here (fun G5 hle5 hsl5 hno5 => ?_))
 refine B6 ?_
 refine C9 (rT rfl) (rC rfl (A4 rfl rfl)) (rT rfl) ?_
 (have hk1 : k = 13 := (by omega); subst hk1; refine L4.one hsl5 (hrty.mono hle5) (hrty.mono hle5) ?_; rw [A2k]; split <;> first | rfl | (exfalso; simp_all; done))
 refine A1 2 ?_
 (refine E3 rfl (C7 rfl rfl rfl (by omega) (by unfold maxLen; omega) rfl) rfl rfl ?_; rintro _ ⟨b979, rfl⟩)
 refine aP 11 rfl (qA rfl) rfl ?_
 refine A1 12 ?_
 refine H1 rfl ?_
 refine aP 13 rfl (qA rfl) rfl ?_
 refine A3 ?_
 (refine F9 Pk.here (fun G5 hle5 hsl5 hno5 => ?_))
 refine B6 ?_
 refine C9 (rT rfl) (rC rfl (A4 rfl rfl)) (rT rfl) ?_
 (have hk1 : k = 13 := (by omega); subst hk1; refine L4.one hsl5 (hrty.mono hle5) (hrty.mono hle5) ?_; rw [A2k]; split <;> first | rfl | (exfalso; simp_all; done))
 refine J2 ?_
 (have hk11 : k = 11 ∨ k = 12 := (by omega); have hl1 : n = 1 := hop.2.2 (by omega); obtain ⟨b0, o0, q0, d0, hp0, hat0, hre0, hg0⟩ := hsl.kidD hkl (i := 0) (by omega) (by omega); cases hp0; refine sP (B4 (j := 0) rfl rfl rfl (by omega)) rfl rfl ?_)
 refine sL (A2 rfl rfl (hat0 _) rfl) rfl rfl ?_
 (refine E7 rfl (A8U 5 (h.getD 0 B7) G _ (.inr rfl) (A2V har (by omega)) hre0) rfl rfl (fun v G1 hle1 hh => ?_); obtain ⟨ma, mca, mb, mcb, rfl, hma, hmb, hma2, hmb2, hmm⟩ := hh; obtain ⟨p1, c1, e1, rfl, _⟩ := hma.open; obtain ⟨p2, c2, e2, rfl, _⟩ := hmb.open)
 refine B1 ?_
 refine sE (A6 rfl) rfl (fun b1009 => ?_)
 refine sE (A6 rfl) rfl (fun b1010 => ?_)
 refine D4 ?_
 refine sE (A6 rfl) rfl (fun b1019 => ?_)
 refine D4 ?_
 refine sB (qE rfl rfl) rfl rfl (fun h1028 => ?_) (fun h1028 => ?_)
 refine E0 ?_
 (have hl1 : n = 1 := hop.2.2 (by omega); obtain ⟨b0, o0, q0, d0, hp0, hat0, hre0, hg0⟩ := hsl.kidD hkl (i := 0) (by omega) (by omega); cases hp0; refine D7 D8 rfl ?_)
 refine K7 (i := 0) (l' := [tt,ff,ff,ff,ff,ff,ff,ff,ff]) rfl D1 (A4 rfl rfl) rfl (by kernel_rfl) rfl rfl ?_
 refine aL 1 rfl (A4 rfl rfl) rfl ?_
 refine aL 4 rfl (A4 rfl rfl) rfl ?_
 refine aP 5 rfl (qM rfl) rfl ?_
 refine A1 2 ?_
 (refine H0 rfl rfl (A1Q _ ma mb _ _ _ ⟨by omega, by omega⟩ hma hmb) rfl rfl rfl (fun v GB hleB hh => ?_); obtain ⟨cB, rfl, hrB⟩ := hh; obtain ⟨p7, c7, e7, rfl, _⟩ := hrB.open; have hma' := hma.mono hleB; have hmb' := hmb.mono hleB)
 refine A1 3 ?_
 (refine E3 rfl (C7 rfl rfl rfl (by omega) (by unfold maxLen; omega) rfl) rfl rfl ?_; rintro _ ⟨b1046, rfl⟩)
 refine aP 6 rfl (qA rfl) rfl ?_
 refine A1 7 ?_
 refine H1 rfl ?_
 refine aP 8 rfl (qA rfl) rfl ?_
 refine A3 ?_
 (refine F9 Pk.here (fun G5 hle5 hsl5 hno5 => ?_))
 refine tT ?_
 refine C9 (rT rfl) (rC rfl (A4 rfl rfl)) (rT rfl) ?_
 (refine L4.one hsl5 (hrB.mono hle5) (hmb'.mono hle5) ?_; rw [A2W (by omega)]; cases hq : R0 5 (h.getD 0 B7) with | none => rfl | some q => (have hq2 := hmm q hq; subst hq2; dsimp only; rw [if_pos (by omega)]; rfl))
 refine A8 ?_
 (have hl1 : n = 1 := hop.2.2 (by omega); obtain ⟨b0, o0, q0, d0, hp0, hat0, hre0, hg0⟩ := hsl.kidD hkl (i := 0) (by omega) (by omega); cases hp0; refine D7 D8 rfl ?_)
 refine K7 (i := 0) (l' := [tt,ff,ff,ff,ff,ff,ff,ff,ff]) rfl D1 (A4 rfl rfl) rfl (by kernel_rfl) rfl rfl ?_
 refine aL 1 rfl (A4 rfl rfl) rfl ?_
 refine aL 4 rfl (A4 rfl rfl) rfl ?_
 refine aP 5 rfl (qM rfl) rfl ?_
 refine A1 2 ?_
 (refine H0 rfl rfl (A1Q _ ma mb _ _ _ ⟨by omega, by omega⟩ hma hmb) rfl rfl rfl (fun v GB hleB hh => ?_); obtain ⟨cB, rfl, hrB⟩ := hh; obtain ⟨p7, c7, e7, rfl, _⟩ := hrB.open; have hma' := hma.mono hleB; have hmb' := hmb.mono hleB)
 refine A1 3 ?_
 (refine E3 rfl (C7 rfl rfl rfl (by omega) (by unfold maxLen; omega) rfl) rfl rfl ?_; rintro _ ⟨b1071, rfl⟩)
 refine aP 6 rfl (qA rfl) rfl ?_
 refine A1 7 ?_
 refine H1 rfl ?_
 refine aP 8 rfl (qA rfl) rfl ?_
 refine A3 ?_
 (refine F9 Pk.here (fun G5 hle5 hsl5 hno5 => ?_))
 refine tT ?_
 refine C9 (rT rfl) (rC rfl (A4 rfl rfl)) (rT rfl) ?_
 (refine L4.one hsl5 (hrB.mono hle5) (hma'.mono hle5) ?_; rw [A2W (by omega)]; cases hq : R0 5 (h.getD 0 B7) with | none => rfl | some q => (have hq2 := hmm q hq; subst hq2; dsimp only; rw [if_neg (by omega)]; rfl))
theorem A4H {cx : Cx} {k : Int} {nm : ByteArray} {ty : Ty} {h w : List Ty} {t : Ty} (he : S4 cx k nm ty h = some (w, t)) : E9 t = true ∧ K8 cx k nm ty h = some (w, t) := by
 unfold S4 at he
 split at he
 ·rename_i w' t' hw
  split at he
  ·cases he; exact ⟨by assumption, hw⟩
  ·cases he
 ·cases he
theorem B3p {cx : Cx} {k : Int} {nm : ByteArray} {num : Int} {ty fr : Ty} {lb : Int} {ks : List Tm} {t : Ty} (h14 : k = 14 → E9 ty = true) (h : H4 cx (.mk k nm num ty fr lb ks) = some t) : E9 t = true := by
 rw [H4] at h
 split at h
 ·cases h
 ·split at h
  ·rename_i hk
   split at h
   ·cases h; exact h14 hk
   ·cases h
  ·split at h
   ·cases h
   ·rename_i w u hw
    split at h
    ·cases h; exact (A4H hw).1
    ·cases h
theorem B3q {cx : Cx} {k : Int} {nm : ByteArray} {ty : Ty} {h w : List Ty} {t : Ty} (hop : (k = 6 ∨ k = 7 ∨ k = 8 ∨ k = 10 → h.length = 2) ∧ (k = 9 → h.length = 3) ∧ (k = 5 ∨ k = 11 ∨ k = 12 ∨ k = 13 → h.length = 1)) (hk : 1 ≤ k ∧ k ≤ 14) (h14 : k ≠ 14) (he : K8 cx k nm ty h = some (w, t)) : w.length ≤ h.length := by
 have hkk : k = 1 ∨ k = 2 ∨ (k = 3 ∨ k = 4) ∨ k = 5 ∨ k = 6 ∨ (k = 7 ∨ k = 8) ∨ k = 9 ∨ k = 10 ∨ (k = 11 ∨ k = 12) ∨ k = 13 := by omega
 rcases hkk with rfl | rfl | hk | rfl | rfl | hk | rfl | rfl | hk | rfl
 ·rw [mW1] at he; split at he <;> cases he; simp
 ·rw [mW2] at he; cases he; simp
 ·rw [A3H hk] at he; cases he; simp
 ·rw [mW5] at he; cases he; simp
 ·rw [mW6] at he
  split at he
  ·split at he <;> cases he
   have := hop.1 (by omega); simp [this]
  ·cases he
 ·rw [V0 hk] at he
  split at he <;> cases he
  have := hop.1 (by omega); simp [this]
 ·rw [mW9] at he
  split at he <;> cases he
  have := hop.2.1 (by omega); simp [this]
 ·rw [A4G] at he; cases he; simp
 ·rw [A2W hk] at he
  split at he
  ·cases he; have := hop.2.2 (by omega); simp [this]
  ·cases he
 ·rw [A2k] at he
  split at he <;> cases he
  have := hop.2.2 (by omega); simp [this]
theorem S3.snoc {G G' : IM} {cx : Cx} {n : Nat} {p' : Option Addr} {c' : Nat} {es : List (List Value)} {e : List Value} {nm : ByteArray} {t : Ty} (h1 : n = cx.length) (hl : es.length = n) (h2 : ∀ x ∈ es, x.length = 3) (h3 : ∀ x ∈ es, x.all (·.oneCell') = true)
  (h4 : ∀ (i : Nat) (b : ByteArray × Ty), cx[i]? = some b → ∃ e, es[i]? = some e ∧ A2U G b e) (hg : C0 G G') (he : A2U G' (nm, t) e) (hs : Sl G' p' (n + 1) c' 3 (es.flatten ++ e)) : S3 G' (cx ++ [(nm, t)]) p' (n + 1) c' := by
 have hel : e.length = 3 ∧ e.all (·.oneCell') = true := by obtain ⟨q, d, rfl, _⟩ := he; exact ⟨rfl, rfl⟩
 refine ⟨by simp [h1], es ++ [e], D5.of (by simpa using hs) (by simp [hl]) ?_ ?_, ?_⟩
 ·simp only [List.forall_mem_append, List.forall_mem_singleton]; exact ⟨h2, hel.1⟩
 ·simp only [List.forall_mem_append, List.forall_mem_singleton]; exact ⟨h3, hel.2⟩
 ·intro i b hb
  rw [List.getElem?_append] at hb ⊢
  split at hb
  ·rename_i hi
   obtain ⟨e', he', hr⟩ := h4 i b hb
   rw [if_pos (by omega)]
   exact ⟨e', he', hr.mono hg⟩
  ·rename_i hi
   have : i - cx.length = 0 := by
    apply Classical.byContradiction; intro hc
    rw [List.getElem?_eq_none (by simp; omega)] at hb; cases hb
   rw [this] at hb
   simp only [List.getElem?_cons_zero, Option.some.injEq] at hb
   subst hb
   rw [if_neg (by omega)]
   exact ⟨e, by rw [show i - es.length = 0 by omega]; rfl, he⟩
theorem B3r (G : IM) (p : Option Addr) (n c : Nat) (es : List (List Value)) (h : D5 G p n c 3 es) (hn : n ≤ 4294967296) :
  Fn Tryz.prog 109 [.slice p n c] [] G (fun G' v outs => G' = G ∧ ∃ p' c', v = .slice p' n c' ∧ outs = [.slc p' c' 119 3 n es.flatten]) := by
 have hp := h.sl.nn
 have hS := h.sl
 have hone : ∀ u ∈ es.flatten, u.oneCell' = true := by
  intro u hu
  obtain ⟨e, he, hue⟩ := List.mem_flatten.1 hu
  exact List.all_eq_true.1 (h.one e he) u hue
 refine C3 Tryz.func109 rfl Tryz.ntmps109 Tryz.results109 rfl ?_
 intro w0
 cases p with
 | none =>
  obtain rfl := hp rfl
  obtain rfl : es = [] := List.length_eq_zero_iff.1 h.len
  refine S0 119 3 ?_
  refine E0 ?_
  refine sQ (B1k rfl rfl rfl) rfl ?_
  refine J2 ?_
  refine H2 (rT rfl) A0.refl ?_
  exact ⟨rfl, _, _, rfl, rfl⟩
 | some a =>
  refine E0 ?_
  refine sQ (A7b rfl rfl rfl) rfl ?_
  refine B2 ?_
  (refine I7 (C7 rfl rfl rfl (by omega) (by unfold maxLen; omega) rfl) rfl ?_; rintro _ ⟨b18, rfl⟩)
  refine E6 ?_
  refine A3A rfl rfl rfl rfl rfl (fun _ _ => by repeat (first | exact Sw.here | apply Sw.there)) hS hone (Nat.zero_le _) (by unfold maxLen; omega) (by omega) rfl (fun pn cn => ?_)
  refine B1 ?_
  refine H2 (rT rfl) A0.refl ?_
  exact ⟨rfl, _, _, by rw [Nat.zero_add], by rw [Nat.zero_add]; rfl⟩
theorem A1E.no {r : Option Ty} {G G' : IM} {cu : List Value} {u : Ty} {b : Bool} (hu : B9 G' u cu) (hb : b = false) (h : r = none) : A1E r G G' (.tuple ⟨[.agg ⟨cu⟩, .bool b]⟩) [] := by
 subst hb h
 exact ⟨rfl, cu, u, rfl, hu, by simp⟩
section
variable {cx : Cx} {k : Int} {nm : ByteArray} {num : Int} {ty fr : Ty} {lb : Int} {ks : List Tm}
theorem A4I {us w : List Ty} {t : Ty} (h : K8 cx k nm ty us = some (w, t)) {b : Bool} (hb : E9 t = b) : S4 cx k nm ty us = if b = true then some (w, t) else none := by
 unfold S4; rw [h]; simp only [hb]
theorem B3s {us : List Ty} (h : K8 cx k nm ty us = none) : S4 cx k nm ty us = none := by
 unfold S4; rw [h]
end
def B3t (r : Tm) : Tm × Bool := if M2 r = true then (r, true) else (J5, false)
def B6N (t : Tm) (path : List Int) (x : Tm) : Tm × Bool := if M2 t = true ∧ M2 x = true ∧ tAt t path ≠ none then B3t (A8J t path x) else (J5, false)
mutual
theorem A53 (D N : Int) : ∀ (t : Tm) (d d' : Int), d' ≤ d → N7 D N t d = true → N7 D N t d' = true
 | .mk k nm num ty fr lb ks, d, d', hd, h => by
  obtain ⟨h1, h2, h3, h4⟩ := A0D h
  rw [A2b (by omega) h2 h3]
  exact A4J D N ks _ _ (by omega) h4
theorem A4J (D N : Int) : ∀ (ts : List Tm) (d d' : Int), d' ≤ d → N8 D N ts d = true → N8 D N ts d' = true
 | [], d, d', hd, h => by rw [N8]
 | t :: ts, d, d', hd, h => by
  rw [N8, Bool.and_eq_true] at h ⊢
  exact ⟨A53 D N t d d' hd h.1, A4J D N ts d d' hd h.2⟩
end
theorem A8Y (cy : Cx) (nm : ByteArray) : ∀ (cx : Cx) (n : Nat), n ≤ cx.length → ∀ t, U9 cx nm n = some t → U9 (cy ++ cx) nm (cy.length + n) = some t
 | cx, 0, _, t, h => by rw [U9] at h; cases h
 | cx, n + 1, hn, t, h => by
  have hb : cx[n]? = some cx[n] := List.getElem?_eq_getElem (by omega)
  have hb2 : (cy ++ cx)[cy.length + n]? = some (cx[n].1, cx[n].2) := by
   rw [List.getElem?_append_right (by omega), show cy.length + n - cy.length = n by omega]; exact hb
  by_cases he : cx[n].1 = nm
  ·rw [A3y (x := cx[n].1) (t := cx[n].2) hb he] at h
   rw [← Nat.add_assoc, A3y hb2 he]; exact h
  ·rw [A3z (x := cx[n].1) (t := cx[n].2) hb he] at h
   rw [← Nat.add_assoc, A3z hb2 he]
   exact A8Y cy nm cx n (by omega) t h
theorem B3u {cy cx : Cx} {nm : ByteArray} {t : Ty} (h : O8 cx nm = some t) : O8 (cy ++ cx) nm = some t := by
 unfold O8 at h ⊢
 rw [List.length_append]
 exact A8Y cy nm cx _ (Nat.le_refl _) t h
theorem B3v {cy cx : Cx} {k : Int} {nm : ByteArray} {ty : Ty} {h : List Ty} {r : List Ty × Ty} (hr : K8 cx k nm ty h = some r) : K8 (cy ++ cx) k nm ty h = some r := by
 unfold K8 at hr ⊢
 split
 ·rename_i hk
  rw [if_pos hk] at hr
  split at hr
  ·rename_i t ht; rw [B3u ht]; exact hr
  ·cases hr
 ·rename_i hk
  rw [if_neg hk] at hr
  exact hr
theorem B3w {cy cx : Cx} {k : Int} {nm : ByteArray} {ty : Ty} {h : List Ty} {r : List Ty × Ty} (hr : S4 cx k nm ty h = some r) : S4 (cy ++ cx) k nm ty h = some r := by
 unfold S4 at hr ⊢
 split at hr
 ·rename_i w t hw; rw [B3v hw]; exact hr
 ·cases hr
theorem B3x (cy cx : Cx) (k : Int) (nm : ByteArray) (ty : Ty) : K2 (cy ++ cx) k nm ty = cy ++ K2 cx k nm ty := by
 unfold K2; split <;> simp
mutual
theorem A8Z (cy : Cx) : ∀ (e : Tm) (cx : Cx) (t : Ty), H4 cx e = some t → H4 (cy ++ cx) e = some t
 | .mk k nm num ty fr lb ks, cx, t, h => by
  rw [H4] at h ⊢
  split at h
  ·cases h
  ·rename_i hs hh
   rw [B3x, A80 cy ks _ hs hh]
   dsimp only
   split at h
   ·rename_i hk; rw [if_pos hk]; exact h
   ·rename_i hk
    rw [if_neg hk]
    split at h
    ·cases h
    ·rename_i w u hw
     rw [B3w hw]; exact h
theorem A80 (cy : Cx) : ∀ (ts : List Tm) (cx : Cx) (us : List Ty), M1 cx ts = some us → M1 (cy ++ cx) ts = some us
 | [], cx, us, h => by rw [M1] at h ⊢; exact h
 | t :: ts, cx, us, h => by
  rw [M1] at h ⊢
  split at h
  ·cases h
  ·rename_i u hu
   split at h
   ·cases h
   ·rename_i us' hus
    rw [A8Z cy t cx u hu]
    dsimp only
    rw [A80 cy ts cx us' hus]
    exact h
end
theorem A81 {cx : Cx} : ∀ {ks : List Tm} {h : List Ty}, M1 cx ks = some h → ∀ (j : Nat) (hj : j < ks.length), ∃ u, H4 cx ks[j] = some u ∧ ∀ x, H4 cx x = some u → M1 cx (ks.set j x) = some h
 | [], h, _, j, hj => by simp at hj
 | t :: ts, h, he, j, hj => by
  rw [M1] at he
  split at he
  ·cases he
  ·rename_i u hu
   split at he
   ·cases he
   ·rename_i us hus
    cases he
    cases j with
    | zero => exact ⟨u, hu, fun x hx => by rw [List.set_cons_zero, M1, hx]; dsimp only; rw [hus]⟩
    | succ j =>
     obtain ⟨v, hv, hv2⟩ := A81 hus j (by simpa using hj)
     exact ⟨v, hv, fun x hx => by rw [List.set_cons_succ, M1, hu]; dsimp only; rw [hv2 x hx]⟩
def F4 : List Tm → List Ty → List Ty → Int → List Tm × Int
 | u :: us, a :: h, b :: w, l => if N1 a b = true then (u :: (F4 us h w l).1, (F4 us h w l).2) else (J7 u a b (l + 1) :: (F4 us h w (l + 1)).1, (F4 us h w (l + 1)).2)
 | us, _, _, l => (us, l)
def A1b (cx : Cx) (k : Int) (nm : ByteArray) (num : Int) (ty fr : Ty) (lb : Int) (us : List Tm) (h : List Ty) (l : Int) : Option (Tm × Ty × Int) :=
 match S4 cx k nm ty h with
 | none => none
 | some (w, t) => some (if k = 13 then (F4 us h w l).1.getD 0 J5 else .mk k nm num ty fr lb (F4 us h w l).1, t, (F4 us h w l).2)
mutual
def M9 (cx : Cx) : Tm → Int → Option (Tm × Ty × Int)
 | .mk k nm num ty fr lb ks, l => match M3 (K2 cx k nm ty) ks l with
  | none => none
  | some (us, h, l') => A1b cx k nm num ty fr lb us h l'
def M3 (cx : Cx) : List Tm → Int → Option (List Tm × List Ty × Int)
 | [], l => some ([], [], l)
 | t :: ts, l => match M9 cx t l with
  | none => none
  | some (u, a, l') => match M3 cx ts l' with
   | none => none
   | some (us, h, l'') => some (u :: us, a :: h, l'')
end
def R7 (e : Tm) : Option (Tm × Ty) := if S1 e = true then (match M9 [] e 0 with | some (u, t, _) => some (u, t) | none => none) else none
def V7 (cx : Cx) (k : Int) (nm : ByteArray) (ty : Ty) (h : List Ty) : Option Ty := match K8 cx k nm ty h with
 | some (_, t) => if (k = 5 ∨ k = 10) ∧ E9 t = false then none else some t
 | none => none
mutual
def P6 (cx : Cx) : Tm → Option Ty
 | .mk k nm num ty fr lb ks => match V1 (K2 cx k nm ty) ks with
  | none => none
  | some h => V7 cx k nm ty h
def V1 (cx : Cx) : List Tm → Option (List Ty)
 | [] => some []
 | t :: ts => match P6 cx t with
  | none => none
  | some a => match V1 cx ts with
   | none => none
   | some h => some (a :: h)
end
theorem A3I (k : Int) (ks : List Ty) (d : Int) : P2 (.mk k ks) d = (decide (d ≤ 4) && decide (T2 k = ks.length) && U1 ks (d + 1)) := by rw [P2]
mutual
theorem A3J : ∀ (t : Ty) (d e : Int), e ≤ d → P2 t d = true → P2 t e = true
 | .mk k ks, d, e, h, hs => by
  rw [A3I, Bool.and_eq_true, Bool.and_eq_true, decide_eq_true_eq, decide_eq_true_eq] at hs ⊢
  exact ⟨⟨by omega, hs.1.2⟩, A82 ks (d + 1) (e + 1) (by omega) hs.2⟩
theorem A82 : ∀ (ts : List Ty) (d e : Int), e ≤ d → U1 ts d = true → U1 ts e = true
 | [], d, e, h, hs => by rw [U1]
 | t :: ts, d, e, h, hs => by
  rw [U1, Bool.and_eq_true] at hs ⊢
  exact ⟨A3J t d e h hs.1, A82 ts d e h hs.2⟩
end
mutual
theorem A54 : ∀ (a b : Ty) (d : Int), K1 a b = true → P2 a d = true → P2 b d = true → P2 (U4 a b) d = true
 | .mk k ks, .mk k' ks', d, hc, ha, hb => by
  rw [A2J]
  split
  ·exact hb
  ·split
   ·exact ha
   ·rw [Y4] at hc
    rw [A3I, Bool.and_eq_true, Bool.and_eq_true, decide_eq_true_eq, decide_eq_true_eq] at ha hb ⊢
    simp only [Bool.or_eq_true, Bool.and_eq_true, decide_eq_true_eq] at hc
    obtain ⟨hk, hl⟩ : k = k' ∧ P4 ks ks' = true := by
     rcases hc with (h | h) | h
     ·contradiction
     ·contradiction
     ·exact h
    subst hk
    obtain ⟨m1, m2⟩ := A83 ks ks' (d + 1) hl ha.2 hb.2
    exact ⟨⟨ha.1.1, by rw [m2]; exact ha.1.2⟩, m1⟩
theorem A83 : ∀ (xs ys : List Ty) (d : Int), P4 xs ys = true → U1 xs d = true → U1 ys d = true → U1 (T4 xs ys) d = true ∧ (T4 xs ys).length = xs.length
 | [], [], d, _, _, _ => by simp [T4, U1]
 | [], b :: ys, d, hc, _, _ => by simp [P4] at hc
 | a :: xs, [], d, hc, _, _ => by simp [P4] at hc
 | a :: xs, b :: ys, d, hc, ha, hb => by
  rw [P4, Bool.and_eq_true] at hc
  rw [U1, Bool.and_eq_true] at ha hb
  obtain ⟨m1, m2⟩ := A83 xs ys d hc.2 ha.2 hb.2
  rw [T4, U1, Bool.and_eq_true]
  exact ⟨⟨A54 a b d hc.1 ha.1 hb.1, m1⟩, by simp [m2]⟩
end
theorem A55 {cx : Cx} (h : ∀ b ∈ cx, E9 b.2 = true) {nm : ByteArray} {t : Ty} : ∀ {n : Nat}, U9 cx nm n = some t → E9 t = true
 | 0, hl => by simp [U9] at hl
 | n + 1, hl => by
  rw [U9] at hl
  split at hl
  ·rename_i b hb
   split at hl
   ·cases hl; exact h b (List.mem_of_getElem? hb)
   ·exact A55 h hl
  ·exact A55 h hl
theorem A84 {k : Int} {t a b : Ty} (hk : k = 4 ∨ k = 5) (ht : E9 t = true) (h : R0 k t = some (a, b)) : E9 a = true ∧ E9 b = true := by
 obtain ⟨tk, ks⟩ := t
 rw [show R0 k (.mk tk ks) = (if tk = k then some (ks.getD 0 B7, ks.getD 1 B7) else if tk = 1 then some (P9, P9) else none) from rfl] at h
 by_cases he : tk = k
 ·rw [if_pos he] at h
  cases h
  unfold E9 at ht ⊢
  rw [A3I, Bool.and_eq_true, Bool.and_eq_true, decide_eq_true_eq, decide_eq_true_eq] at ht
  have h2 : ks.length = 2 := by
   have : T2 tk = 2 := by rw [he]; rcases hk with rfl | rfl <;> rfl
   omega
  match ks, h2, ht.2 with
  | [x, y], _, hL =>
   simp only [U1, Bool.and_eq_true] at hL
   exact ⟨A3J _ 2 1 (by omega) hL.1, A3J _ 2 1 (by omega) hL.2.1⟩
 ·rw [if_neg he] at h
  by_cases h1 : tk = 1
  ·rw [if_pos h1] at h
   cases h
   exact ⟨by decide, by decide⟩
  ·rw [if_neg h1] at h; cases h
theorem B3y {l : List Ty} {i : Nat} (h : i < l.length) : l.getD i B7 ∈ l := by
 rw [List.getD_eq_getElem?_getD, List.getElem?_eq_getElem h, Option.getD_some]; exact List.getElem_mem h
theorem B3z {cx : Cx} {k : Int} {nm : ByteArray} {ty : Ty} {h w : List Ty} {t : Ty} (hcx : ∀ b ∈ cx, E9 b.2 = true) (hh : ∀ a ∈ h, E9 a = true) (hd : E9 (h.getD 0 B7) = true ∨ h = []) (hty : k = 13 → E9 ty = true) (hn : D9 k = (h.length : Int)) (hw : K8 cx k nm ty h = some (w, t)) (h510 : k ≠ 5 ∧ k ≠ 10) : E9 t = true := by
 have hg : ∀ i, i < h.length → E9 (h.getD i B7) = true := fun i hi => hh _ (B3y hi)
 unfold K8 at hw
 split at hw
 ·split at hw
  ·rename_i u hu; cases hw; exact A55 hcx hu
  ·cases hw
 split at hw
 ·cases hw; decide
 split at hw
 ·cases hw; decide
 split at hw
 ·exact absurd (by assumption) h510.1
 split at hw
 ·rename_i hk6
  have hl : h.length = 2 := by have : D9 k = 2 := (by rw [hk6]; rfl); omega
  split at hw
  ·rename_i a b hm
   split at hw
   ·cases hw; exact (A84 (.inl rfl) (hg 0 (by omega)) hm).2
   ·cases hw
  ·cases hw
 split at hw
 ·split at hw
  ·cases hw; split <;> decide
  ·cases hw
 split at hw
 ·rename_i hk9
  have hl : h.length = 3 := by have : D9 k = 3 := (by rw [hk9]; rfl); omega
  split at hw
  ·rename_i hc
   cases hw
   exact A54 _ _ 1 hc.2 (hg 1 (by omega)) (hg 2 (by omega))
  ·cases hw
 split at hw
 ·exact absurd (by assumption) h510.2
 split at hw
 ·split at hw
  ·cases hw; exact hty (by assumption)
  ·cases hw
 ·split at hw
  ·rename_i a b hm
   have hl : h.length ≠ 0 := by
    intro h0
    rw [List.length_eq_zero_iff] at h0
    subst h0
    rw [show R0 5 (([] : List Ty).getD 0 B7) = none from rfl] at hm
    cases hm
   cases hw
   have := A84 (.inr rfl) (hg 0 (by omega)) hm
   split
   ·exact this.2
   ·exact this.1
  ·cases hw
def X9 (cx : Cx) : Prop := ∀ b ∈ cx, E9 b.2 = true
theorem A3K : X9 [] := by intro b hb; simp at hb
theorem A3L {cx : Cx} {k : Int} {nm : ByteArray} {ty : Ty} (h : X9 cx) (ht : k = 5 → E9 ty = true) : X9 (K2 cx k nm ty) := by
 unfold K2
 split
 ·intro b hb
  rcases List.mem_append.1 hb with hb | hb
  ·exact h b hb
  ·obtain rfl := List.mem_singleton.1 hb; exact ht (by assumption)
 ·exact h
theorem B3A {cx : Cx} {k : Int} {nm : ByteArray} {ty : Ty} {h : List Ty} (hcx : X9 cx) (hh : ∀ a ∈ h, E9 a = true) (hty : k = 13 → E9 ty = true) (hn : D9 k = (h.length : Int)) :
  (∀ w t, S4 cx k nm ty h = some (w, t) → V7 cx k nm ty h = some t ∧ E9 t = true) ∧ (S4 cx k nm ty h = none → V7 cx k nm ty h = none) := by
 unfold S4 V7
 have hv := fun w t (e : K8 cx k nm ty h = some (w, t)) (h5 : k ≠ 5 ∧ k ≠ 10) => B3z hcx hh (by cases h with | nil => exact .inr rfl | cons x xs => exact .inl (hh _ (by simp))) hty hn e h5
 cases hw : K8 cx k nm ty h with
 | none => simp
 | some p =>
  obtain ⟨w, t⟩ := p
  have hv := hv w t hw
  simp only
  by_cases h5 : k = 5 ∨ k = 10
  ·cases ht : E9 t with
   | true => simp [ht]
   | false => simp [h5]
  ·have := hv (by omega)
   simp [this]
theorem A85 (ks : List Tm) (ih : ∀ t ∈ ks, ∀ d cx l, N7 12 14 t d = true → X9 cx → (∀ u a l', M9 cx t l = some (u, a, l') → P6 cx t = some a ∧ E9 a = true) ∧ (M9 cx t l = none → P6 cx t = none)) :
  ∀ d cx l, N8 12 14 ks d = true → X9 cx → (∀ us h l', M3 cx ks l = some (us, h, l') → V1 cx ks = some h ∧ (∀ a ∈ h, E9 a = true) ∧ h.length = ks.length ∧ us.length = ks.length) ∧ (M3 cx ks l = none → V1 cx ks = none) := by
 induction ks with
 | nil =>
  intro d cx l _ _
  refine ⟨fun us h l' he => ?_, fun he => by simp [M3] at he⟩
  simp only [M3, Option.some.injEq, Prod.mk.injEq] at he
  obtain ⟨rfl, rfl, _⟩ := he
  exact ⟨by rw [V1], by simp, rfl, rfl⟩
 | cons t ts ihl =>
  intro d cx l hs hcx
  rw [N8, Bool.and_eq_true] at hs
  obtain ⟨a1, a2⟩ := ih t List.mem_cons_self d cx l hs.1 hcx
  rw [M3, V1]
  cases he : M9 cx t l with
  | none => rw [a2 he]; exact ⟨fun _ _ _ h => by simp at h, fun _ => rfl⟩
  | some p =>
   obtain ⟨u, a, l1⟩ := p
   obtain ⟨b1, b2⟩ := a1 u a l1 he
   rw [b1]
   obtain ⟨c1, c2⟩ := ihl (fun x hx => ih x (List.mem_cons_of_mem _ hx)) d cx l1 hs.2 hcx
   simp only
   cases hL : M3 cx ts l1 with
   | none => rw [c2 hL]; exact ⟨fun _ _ _ h => by simp at h, fun _ => rfl⟩
   | some q =>
    obtain ⟨us, h, l2⟩ := q
    obtain ⟨d1, d2, d3, d4⟩ := c1 us h l2 hL
    rw [d1]
    refine ⟨fun us' h' l' e => ?_, fun e => by simp at e⟩
    simp only [Option.some.injEq, Prod.mk.injEq] at e
    obtain ⟨rfl, rfl, _⟩ := e
    refine ⟨rfl, fun x hx => ?_, by simp [d3], by simp [d4]⟩
    rcases List.mem_cons.1 hx with rfl | hx
    ·exact b2
    ·exact d2 x hx
theorem A2X : ∀ (t : Tm) (d : Int) (cx : Cx) (l : Int), N7 12 14 t d = true → X9 cx → (∀ u a l', M9 cx t l = some (u, a, l') → P6 cx t = some a ∧ E9 a = true) ∧ (M9 cx t l = none → P6 cx t = none) := by
 refine Tm.ind fun k nm num ty fr lb ks ih d cx l hs hcx => ?_
 obtain ⟨_, _, h3, h4⟩ := A0D hs
 obtain ⟨n1, _, _, _, _, n6, _⟩ := U3.1 h3
 obtain ⟨L1, L2⟩ := A85 ks ih (d + 1) (K2 cx k nm ty) l h4 (A3L hcx fun hk => n6 (by omega))
 rw [M9, P6]
 cases hL : M3 (K2 cx k nm ty) ks l with
 | none => rw [L2 hL]; exact ⟨fun _ _ _ h => by simp at h, fun _ => rfl⟩
 | some q =>
  obtain ⟨us, h, l2⟩ := q
  obtain ⟨d1, d2, d3, d4⟩ := L1 us h l2 hL
  rw [d1]
  obtain ⟨e1, e2⟩ := B3A (k := k) (nm := nm) (ty := ty) hcx d2 (fun hk => n6 (.inr (.inl hk))) (by rw [d3]; exact n1)
  simp only [A1b]
  cases hN : S4 cx k nm ty h with
  | none => rw [e2 hN]; exact ⟨fun _ _ _ h => by simp at h, fun _ => rfl⟩
  | some p =>
   obtain ⟨w, t⟩ := p
   obtain ⟨f1, f2⟩ := e1 w t hN
   rw [f1]
   refine ⟨fun u a l' e => ?_, fun e => by simp at e⟩
   simp only [Option.some.injEq, Prod.mk.injEq] at e
   obtain ⟨_, rfl, _⟩ := e
   exact ⟨rfl, f2⟩
theorem A1c {cx : Cx} {k : Int} {nm : ByteArray} {num : Int} {ty fr : Ty} {lb : Int} {ks : List Tm} {T : Ty} (h : H4 cx (.mk k nm num ty fr lb ks) = some T) :
  ∃ us, M1 (K2 cx k nm ty) ks = some us ∧ (k = 14 → us.getD 0 B7 = fr ∧ T = ty) ∧ (k ≠ 14 → E9 T = true ∧ ∃ w, K8 cx k nm ty us = some (w, T) ∧ A0C w us = true) := by
 rw [H4] at h
 split at h
 ·cases h
 ·rename_i us hu
  refine ⟨us, hu, fun hk => ?_, fun hk => ?_⟩
  ·rw [if_pos hk] at h
   split at h
   ·rename_i hs; cases h; exact ⟨(A0j _ _).1 hs, rfl⟩
   ·cases h
  ·rw [if_neg hk] at h
   split at h
   ·cases h
   ·rename_i w t hn
    split at h
    ·rename_i hs
     cases h
     obtain ⟨h1, h2⟩ := A4H hn
     exact ⟨h1, w, h2, hs⟩
    ·cases h
theorem A56 {cx : Cx} {k : Int} {nm : ByteArray} {num : Int} {ty fr : Ty} {lb : Int} {ks : List Tm} {T : Ty} {us w : List Ty} (hu : M1 (K2 cx k nm ty) ks = some us) (hk : k ≠ 14) (hv : E9 T = true) (hw : K8 cx k nm ty us = some (w, T)) (hs : A0C w us = true) : H4 cx (.mk k nm num ty fr lb ks) = some T := by
 rw [H4, hu]
 simp only [if_neg hk]
 unfold S4
 rw [hw]
 simp only [hv, if_true, hs]
theorem A3M {cx : Cx} {a : Tm} {us : List Ty} (h : M1 cx [a] = some us) : ∃ x, H4 cx a = some x ∧ us = [x] := by
 rw [M1] at h
 split at h
 ·cases h
 ·rename_i x hx
  rw [M1] at h
  simp only [Option.some.injEq] at h
  exact ⟨x, hx, h.symm⟩
theorem A4K {cx : Cx} {a b : Tm} {us : List Ty} (h : M1 cx [a, b] = some us) : ∃ x y, H4 cx a = some x ∧ H4 cx b = some y ∧ us = [x, y] := by
 rw [M1] at h
 split at h
 ·cases h
 ·rename_i x hx
  split at h
  ·cases h
  ·rename_i vs hv
   obtain ⟨y, hy, rfl⟩ := A3M hv
   simp only [Option.some.injEq] at h
   exact ⟨x, y, hx, hy, h.symm⟩
theorem B3B {cx : Cx} {a b c : Tm} {us : List Ty} (h : M1 cx [a, b, c] = some us) : ∃ x y z, H4 cx a = some x ∧ H4 cx b = some y ∧ H4 cx c = some z ∧ us = [x, y, z] := by
 rw [M1] at h
 split at h
 ·cases h
 ·rename_i x hx
  split at h
  ·cases h
  ·rename_i vs hv
   obtain ⟨y, z, hy, hz, rfl⟩ := A4K hv
   simp only [Option.some.injEq] at h
   exact ⟨x, y, z, hx, hy, hz, h.symm⟩
theorem A57 {cx : Cx} {a : Tm} {x : Ty} (h : H4 cx a = some x) : M1 cx [a] = some [x] := by rw [M1, h]; rfl
theorem B3C {cx : Cx} {a b : Tm} {x y : Ty} (h : H4 cx a = some x) (h2 : H4 cx b = some y) : M1 cx [a, b] = some [x, y] := by rw [M1, h, A57 h2]
mutual
theorem A1R : ∀ a : Ty, K1 a a = true
 | .mk k ks => by rw [Y4, A86 ks]; simp
theorem A86 : ∀ xs : List Ty, P4 xs xs = true
 | [] => rfl
 | a :: xs => by rw [P4, A1R a, A86 xs]; rfl
end
mutual
theorem A87 : ∀ a : Ty, U4 a a = a
 | .mk k ks => by
  rw [A2J, A88 ks]
  by_cases h : k = 1
  ·rw [if_pos h]
  ·rw [if_neg h, if_neg h]
theorem A88 : ∀ xs : List Ty, T4 xs xs = xs
 | [] => rfl
 | a :: xs => by rw [T4, A87 a, A88 xs]
end
theorem A4L {k : Int} {ks : List Ty} (hk : k = 4 ∨ k = 5) (h : E9 (.mk k ks) = true) : ∃ a b, ks = [a, b] ∧ E9 a = true ∧ E9 b = true := by
 unfold E9 at h ⊢
 rw [A3I, Bool.and_eq_true, Bool.and_eq_true, decide_eq_true_eq, decide_eq_true_eq] at h
 have h2 : ks.length = 2 := by
  have : T2 k = 2 := by rcases hk with rfl | rfl <;> rfl
  omega
 match ks, h2, h.2 with
 | [x, y], _, hL =>
  simp only [U1, Bool.and_eq_true] at hL
  exact ⟨x, y, rfl, A3J _ 2 1 (by omega) hL.1, A3J _ 2 1 (by omega) hL.2.1⟩
theorem A89 {k : Int} {ks : List Ty} (h : E9 (.mk k ks) = true) (hk : k ≠ 4) (hk5 : k ≠ 5) : (k = 1 ∨ k = 2 ∨ k = 3) ∧ ks = [] := by
 unfold E9 at h
 rw [A3I, Bool.and_eq_true, Bool.and_eq_true, decide_eq_true_eq, decide_eq_true_eq] at h
 obtain ⟨h1, h2, h3⟩ := A06 k
 have hl := h.1.2
 have hk3 : k = 1 ∨ k = 2 ∨ k = 3 := by
  apply Classical.byContradiction
  intro hc
  rw [h3 (by omega) (by omega) (by omega) hk hk5] at hl; omega
 rw [h1 hk3] at hl
 exact ⟨hk3, List.length_eq_zero_iff.1 (by omega)⟩
theorem A9a {cx : Cx} {e : Tm} {T : Ty} (hc : cv e) (h : H4 cx e = some T) : E9 T = true := by
 obtain ⟨k, nm, num, ty, fr, lb, ks⟩ := e
 exact B3p (fun hk => (hc.node.1.c14 hk).2.1) h
section inv
variable {cx : Cx} {nm : ByteArray} {num : Int} {ty fr : Ty} {lb : Int} {a b c : Tm} {T : Ty}
theorem B3D {x y : Ty} (h : A0C [x] [y] = true) : x = y := by
 simp only [A0C, Bool.and_true] at h; exact (A0j _ _).1 h
theorem A9b {x y x' y' : Ty} (h : A0C [x, y] [x', y'] = true) : x = x' ∧ y = y' := by
 simp only [A0C, Bool.and_true, Bool.and_eq_true] at h; exact ⟨(A0j _ _).1 h.1, (A0j _ _).1 h.2⟩
theorem B3E {x y z x' y' z' : Ty} (h : A0C [x, y, z] [x', y', z'] = true) : x = x' ∧ y = y' ∧ z = z' := by
 simp only [A0C, Bool.and_true, Bool.and_eq_true] at h; exact ⟨(A0j _ _).1 h.1, (A0j _ _).1 h.2.1, (A0j _ _).1 h.2.2⟩
theorem A4M : ∀ xs : List Ty, A0C xs xs = true
 | [] => rfl
 | a :: xs => by rw [A0C, A5L, A4M xs]; rfl
theorem B3F (h : H4 cx (.mk 6 nm num ty fr lb [a, b]) = some T) : ∃ A, H4 cx a = some (.mk 4 [A, T]) ∧ H4 cx b = some A := by
 obtain ⟨us, hu, _, hn⟩ := A1c h
 rw [K2, if_neg (by omega)] at hu
 obtain ⟨x, y, hx, hy, rfl⟩ := A4K hu
 obtain ⟨_, w, hw, hs⟩ := hn (by decide)
 unfold K8 at hw
 simp only [show ¬((6 : Int) = 1) by decide, show ¬((6 : Int) = 2) by decide, show ¬((6 : Int) = 3 ∨ (6 : Int) = 4) by decide, show ¬((6 : Int) = 5) by decide, if_false, if_true, List.getD_cons_zero, List.getD_cons_succ] at hw
 split at hw
 ·rename_i p q hm
  split at hw
  ·cases hw
   obtain ⟨h1, h2⟩ := A9b hs
   subst h1 h2
   exact ⟨_, hx, hy⟩
  ·cases hw
 ·cases hw
theorem B3G {A : Ty} (hv : E9 T = true) (ha : H4 cx a = some (.mk 4 [A, T])) (hb : H4 cx b = some A) : H4 cx (.mk 6 nm num ty fr lb [a, b]) = some T := by
 refine A56 (us := [.mk 4 [A, T], A]) (w := [.mk 4 [A, T], A]) (B3C ha hb) (by decide) hv ?_ (A4M _)
 unfold K8
 simp only [show ¬((6 : Int) = 1) by decide, show ¬((6 : Int) = 2) by decide, show ¬((6 : Int) = 3 ∨ (6 : Int) = 4) by decide, show ¬((6 : Int) = 5) by decide, if_false, if_true, List.getD_cons_zero, List.getD_cons_succ, A0Y, A1R]
theorem B3H {k : Int} (hk : k = 7 ∨ k = 8) (h : H4 cx (.mk k nm num ty fr lb [a, b]) = some T) : H4 cx a = some Q1 ∧ H4 cx b = some Q1 ∧ T = if k = 8 then T3 else Q1 := by
 obtain ⟨us, hu, _, hn⟩ := A1c h
 rw [K2, if_neg (by omega)] at hu
 obtain ⟨x, y, hx, hy, rfl⟩ := A4K hu
 obtain ⟨_, w, hw, hs⟩ := hn (by omega)
 unfold K8 at hw
 rw [if_neg (by omega), if_neg (by omega), if_neg (by omega), if_neg (by omega), if_neg (by omega), if_pos hk] at hw
 split at hw
 ·cases hw
  obtain ⟨h1, h2⟩ := A9b hs
  subst h1 h2
  exact ⟨hx, hy, rfl⟩
 ·cases hw
theorem B3I (h : H4 cx (.mk 9 nm num ty fr lb [a, b, c]) = some T) : H4 cx a = some T3 ∧ H4 cx b = some T ∧ H4 cx c = some T := by
 obtain ⟨us, hu, _, hn⟩ := A1c h
 rw [K2, if_neg (by omega)] at hu
 obtain ⟨x, y, z, hx, hy, hz, rfl⟩ := B3B hu
 obtain ⟨_, w, hw, hs⟩ := hn (by decide)
 unfold K8 at hw
 rw [if_neg (by omega), if_neg (by omega), if_neg (by omega), if_neg (by omega), if_neg (by omega), if_neg (by omega), if_pos rfl] at hw
 split at hw
 ·cases hw
  obtain ⟨h1, h2, h3⟩ := B3E hs
  simp only [List.getD_cons_zero, List.getD_cons_succ] at h2 h3 ⊢
  refine ⟨by rw [hx, h1], by rw [hy]; congr 1; exact h2.symm, by rw [hz]; congr 1; exact h3.symm⟩
 ·cases hw
theorem A9c (h : H4 cx (.mk 10 nm num ty fr lb [a, b]) = some T) : ∃ A B, H4 cx a = some A ∧ H4 cx b = some B ∧ T = .mk 5 [A, B] := by
 obtain ⟨us, hu, _, hn⟩ := A1c h
 rw [K2, if_neg (by omega)] at hu
 obtain ⟨x, y, hx, hy, rfl⟩ := A4K hu
 obtain ⟨_, w, hw, hs⟩ := hn (by decide)
 unfold K8 at hw
 rw [if_neg (by omega), if_neg (by omega), if_neg (by omega), if_neg (by omega), if_neg (by omega), if_neg (by omega), if_neg (by omega), if_pos rfl] at hw
 cases hw
 exact ⟨x, y, hx, hy, rfl⟩
theorem B3J {k : Int} (hk : k = 11 ∨ k = 12) (h : H4 cx (.mk k nm num ty fr lb [a]) = some T) : ∃ A B, H4 cx a = some (.mk 5 [A, B]) ∧ T = if k = 12 then B else A := by
 obtain ⟨us, hu, _, hn⟩ := A1c h
 rw [K2, if_neg (by omega)] at hu
 obtain ⟨x, hx, rfl⟩ := A3M hu
 obtain ⟨_, w, hw, hs⟩ := hn (by omega)
 unfold K8 at hw
 rw [if_neg (by omega), if_neg (by omega), if_neg (by omega), if_neg (by omega), if_neg (by omega), if_neg (by omega), if_neg (by omega), if_neg (by omega), if_neg (by omega)] at hw
 split at hw
 ·rename_i p q hm
  cases hw
  have h1 := B3D hs
  subst h1
  exact ⟨p, q, hx, rfl⟩
 ·cases hw
theorem A9d {k : Int} {A B : Ty} (hk : k = 11 ∨ k = 12) (hv : E9 (if k = 12 then B else A) = true) (h : H4 cx a = some (.mk 5 [A, B])) : H4 cx (.mk k nm num ty fr lb [a]) = some (if k = 12 then B else A) := by
 refine A56 (us := [.mk 5 [A, B]]) (w := [.mk 5 [A, B]]) (by rw [K2, if_neg (by omega)]; exact A57 h) (by omega) hv ?_ (A4M _)
 unfold K8
 rw [if_neg (by omega), if_neg (by omega), if_neg (by omega), if_neg (by omega), if_neg (by omega), if_neg (by omega), if_neg (by omega), if_neg (by omega), if_neg (by omega)]
 simp only [List.getD_cons_zero, A0Y, if_true, List.getD_cons_succ]
theorem A3N (h : H4 cx (.mk 14 nm num ty fr lb [a]) = some T) : H4 cx a = some fr ∧ T = ty := by
 obtain ⟨us, hu, hn, _⟩ := A1c h
 obtain ⟨x, hx, rfl⟩ := A3M hu
 obtain ⟨h1, h2⟩ := hn rfl
 simp only [List.getD_cons_zero] at h1
 subst h1
 exact ⟨hx, h2⟩
theorem A1F (h : H4 cx a = some fr) : H4 cx (.mk 14 nm num ty fr lb [a]) = some ty := by
 rw [H4, show K2 cx 14 nm ty = cx from rfl, A57 h]
 simp only [if_true, List.getD_cons_zero, A5L]
theorem A9e (h : H4 cx (.mk 5 nm num ty fr lb [a]) = some T) : ∃ B, H4 (cx ++ [(nm, ty)]) a = some B ∧ T = .mk 4 [ty, B] := by
 obtain ⟨us, hu, _, hn⟩ := A1c h
 rw [K2, if_pos rfl] at hu
 obtain ⟨x, hx, rfl⟩ := A3M hu
 obtain ⟨_, w, hw, hs⟩ := hn (by decide)
 unfold K8 at hw
 rw [if_neg (by omega), if_neg (by omega), if_neg (by omega), if_pos rfl] at hw
 cases hw
 exact ⟨x, hx, rfl⟩
theorem A9f (h : H4 cx (.mk 1 nm num ty fr lb []) = some T) : O8 cx nm = some T := by
 obtain ⟨us, hu, _, hn⟩ := A1c h
 obtain ⟨_, w, hw, hs⟩ := hn (by decide)
 unfold K8 at hw
 rw [if_pos rfl] at hw
 split at hw
 ·rename_i t ht; cases hw; exact ht
 ·cases hw
theorem B3K (h : H4 cx (.mk 2 nm num ty fr lb []) = some T) : T = Q1 := by
 obtain ⟨us, hu, _, hn⟩ := A1c h
 obtain ⟨_, w, hw, hs⟩ := hn (by decide)
 cases hw; rfl
theorem B3L {k : Int} (hk : k = 3 ∨ k = 4) (h : H4 cx (.mk k nm num ty fr lb []) = some T) : T = T3 := by
 obtain ⟨us, hu, _, hn⟩ := A1c h
 obtain ⟨_, w, hw, hs⟩ := hn (by omega)
 rcases hk with rfl | rfl <;> (cases hw; rfl)
end inv
theorem A1G (cx : Cx) (x nm : ByteArray) (t : Ty) : O8 (cx ++ [(x, t)]) nm = if x = nm then some t else O8 cx nm := by
 unfold O8
 rw [List.length_append, show ([(x, t)] : Cx).length = 1 from rfl]
 have hl : (cx ++ [(x, t)])[cx.length]? = some (x, t) := by rw [List.getElem?_append_right (Nat.le_refl _)]; simp
 by_cases h : x = nm
 ·rw [A3y hl h, if_pos h]
 ·rw [A3z hl h, if_neg h]
  have : ∀ n, n ≤ cx.length → U9 (cx ++ [(x, t)]) nm n = U9 cx nm n := by
   intro n
   induction n with
   | zero => intro _; rfl
   | succ n ih =>
    intro hn
    rw [U9, U9, List.getElem?_append_left (by omega), ih (by omega)]
  exact this _ (Nat.le_refl _)
theorem B3M {cx cy : Cx} (h : ∀ x, O8 cx x = O8 cy x) (k : Int) (nm : ByteArray) (ty : Ty) : ∀ x, O8 (K2 cx k nm ty) x = O8 (K2 cy k nm ty) x := by
 intro x
 unfold K2
 split
 ·rw [A1G, A1G, h]
 ·exact h x
theorem A9g {cx cy : Cx} {k : Int} {nm : ByteArray} {ty : Ty} {h : List Ty} (he : O8 cx nm = O8 cy nm) : S4 cx k nm ty h = S4 cy k nm ty h := by
 unfold S4 K8
 rw [he]
mutual
theorem B3N : ∀ (e : Tm) (cx cy : Cx), (∀ x, O8 cx x = O8 cy x) → H4 cx e = H4 cy e
 | .mk k nm num ty fr lb ks, cx, cy, h => by
  rw [H4, H4, A58 ks _ _ (B3M h k nm ty)]
  split
  ·rfl
  ·rw [A9g (h nm)]
theorem A58 : ∀ (ts : List Tm) (cx cy : Cx), (∀ x, O8 cx x = O8 cy x) → M1 cx ts = M1 cy ts
 | [], _, _, _ => by rw [M1, M1]
 | t :: ts, cx, cy, h => by rw [M1, M1, B3N t cx cy h, A58 ts cx cy h]
end
theorem B3O {cx cy : Cx} {k : Int} {nm : ByteArray} {ty : Ty} {h : List Ty} (hk : k ≠ 1) : K8 cx k nm ty h = K8 cy k nm ty h := by
 unfold K8
 rw [if_neg hk, if_neg hk]
theorem A9h {cx cy : Cx} {k : Int} {nm : ByteArray} {ty : Ty} {h : List Ty} (hk : k ≠ 1) : S4 cx k nm ty h = S4 cy k nm ty h := by
 unfold S4; rw [B3O (cy := cy) hk]
mutual
theorem A9i {x : ByteArray} {A : Ty} {v : Tm} (hv : H4 [] v = some A) : ∀ (e : Tm) (cx cy : Cx) (T : Ty), cv e → (∀ y, y ≠ x → O8 cx y = O8 cy y) → O8 cx x = some A → H4 cx e = some T → H4 cy (W0 x v e) = some T
 | .mk k nm num ty fr lb ks, cx, cy, T, hc, h, hx, ht => by
  have hkk := hc.node.2
  have hop := hc.node.1.ops
  rw [W0]
  by_cases h1 : k = 1 ∧ nm = x
  ·rw [if_pos h1]
   obtain ⟨rfl, rfl⟩ := h1
   have hks : ks = [] := List.length_eq_zero_iff.1 (by have : D9 1 = 0 := rfl; omega)
   subst hks
   have h2 := A9f ht
   rw [hx] at h2
   cases h2
   have h3 := A8Z cy v [] A hv
   rwa [List.append_nil] at h3
  ·rw [if_neg h1]
   by_cases h5 : k = 5 ∧ nm = x
   ·rw [if_pos h5]
    obtain ⟨rfl, rfl⟩ := h5
    rw [H4] at ht ⊢
    rw [← A58 ks (K2 cx 5 nm ty) (K2 cy 5 nm ty) (fun y => by
     rw [K2, K2, if_pos rfl, if_pos rfl, A1G, A1G]
     by_cases hy : nm = y
     ·rw [if_pos hy, if_pos hy]
     ·rw [if_neg hy, if_neg hy]; exact h y (fun e => hy e.symm))]
    split at ht
    ·cases ht
    ·rename_i us hu
     rw [A9h (cy := cx) (by decide)]
     exact ht
   ·rw [if_neg h5]
    rw [H4] at ht ⊢
    have hin : ∀ us, M1 (K2 cx k nm ty) ks = some us → M1 (K2 cy k nm ty) (T5 x v ks) = some us := by
     intro us hu
     refine A9j hv ks _ _ us hkk ?_ ?_ hu
     ·intro y hy
      unfold K2
      split
      ·rw [A1G, A1G, h y hy]
      ·exact h y hy
     ·unfold K2
      split
      ·rename_i hk
       rw [A1G, if_neg (fun e => h5 ⟨hk, e⟩)]; exact hx
      ·exact hx
    split at ht
    ·cases ht
    ·rename_i us hu
     rw [hin us hu]
     simp only at ht ⊢
     by_cases hk1 : k = 1
     ·subst hk1
      have hn : nm ≠ x := fun e => h1 ⟨rfl, e⟩
      rw [A9g (h nm hn)] at ht
      exact ht
     ·rw [A9h (cy := cx) hk1]
      exact ht
theorem A9j {x : ByteArray} {A : Ty} {v : Tm} (hv : H4 [] v = some A) : ∀ (ts : List Tm) (cx cy : Cx) (us : List Ty), (∀ t ∈ ts, cv t) → (∀ y, y ≠ x → O8 cx y = O8 cy y) → O8 cx x = some A → M1 cx ts = some us → M1 cy (T5 x v ts) = some us
 | [], cx, cy, us, _, _, _, hu => by rw [M1] at hu; cases hu; rw [T5, M1]
 | t :: ts, cx, cy, us, hc, h, hx, hu => by
  rw [M1] at hu
  split at hu
  ·cases hu
  ·rename_i T hT
   split at hu
   ·cases hu
   ·rename_i Ts hTs
    cases hu
    rw [T5, M1, A9i hv t cx cy T (hc t List.mem_cons_self) h hx hT, A9j hv ts cx cy Ts (fun u hu => hc u (List.mem_cons_of_mem _ hu)) h hx hTs]
end
theorem A3O {cx : Cx} : ∀ {ks : List Tm} {i : Nat} (hi : i < ks.length) {l l' l2 : Int} {us : List Tm} {h : List Ty} {u : Tm} {a : Ty}, M3 cx (ks.take i) l = some (us, h, l') → M9 cx ks[i] l' = some (u, a, l2) → M3 cx (ks.take (i + 1)) l = some (us ++ [u], h ++ [a], l2)
 | [], i, hi, _, _, _, _, _, _, _, _, _ => by simp at hi
 | t :: ts, 0, _, l, l', l2, us, h, u, a, h1, h2 => by
  simp only [List.take_zero, M3, Option.some.injEq, Prod.mk.injEq] at h1
  obtain ⟨rfl, rfl, rfl⟩ := h1
  simp only [List.getElem_cons_zero] at h2
  simp [M3, h2]
 | t :: ts, i + 1, hi, l, l', l2, us, h, u, a, h1, h2 => by
  simp only [List.take_succ_cons, M3] at h1 ⊢
  split at h1
  ·cases h1
  ·rename_i u1 a1 l1 he
   split at h1
   ·cases h1
   ·rename_i us1 h1' l1' hL
    simp only [Option.some.injEq, Prod.mk.injEq] at h1
    obtain ⟨rfl, rfl, rfl⟩ := h1
    simp only [List.getElem_cons_succ] at h2
    have := A3O (ks := ts) (i := i) (by simpa using hi) hL h2
    simp only [this, List.cons_append]
theorem A59 {cx : Cx} : ∀ {ks : List Tm} {i : Nat} (hi : i < ks.length) {l l' : Int} {us : List Tm} {h : List Ty}, M3 cx (ks.take i) l = some (us, h, l') → M9 cx ks[i] l' = none → M3 cx ks l = none
 | [], i, hi, _, _, _, _, _, _ => by simp at hi
 | t :: ts, 0, _, l, l', us, h, h1, h2 => by
  simp only [List.take_zero, M3, Option.some.injEq, Prod.mk.injEq] at h1
  obtain ⟨rfl, rfl, rfl⟩ := h1
  simp only [List.getElem_cons_zero] at h2
  simp [M3, h2]
 | t :: ts, i + 1, hi, l, l', us, h, h1, h2 => by
  simp only [List.take_succ_cons, M3] at h1 ⊢
  split at h1
  ·cases h1
  ·rename_i u1 a1 l1 he
   split at h1
   ·cases h1
   ·rename_i us1 h1' l1' hL
    simp only [Option.some.injEq, Prod.mk.injEq] at h1
    obtain ⟨rfl, rfl, rfl⟩ := h1
    simp only [List.getElem_cons_succ] at h2
    have := A59 (ks := ts) (i := i) (by simpa using hi) hL h2
    simp only [this]
theorem A0v (us : List Tm) (h : List Ty) (l : Int) : F4 us h [] l = (us, l) := by
 cases us with
 | nil => rfl
 | cons u us => cases h <;> rfl
theorem A3P : ∀ (us : List Tm) (h w : List Ty) (l : Int) (j : Nat) (hj : j < w.length) (hu : w.length ≤ us.length) (hh : w.length ≤ h.length),
  (F4 us h (w.take j) l).1.length = us.length ∧ (∀ (hq : j < (F4 us h (w.take j) l).1.length), (F4 us h (w.take j) l).1[j] = us[j]'(by omega)) ∧
  F4 us h (w.take (j + 1)) l = if N1 (h[j]'(by omega)) w[j] = true then F4 us h (w.take j) l else ((F4 us h (w.take j) l).1.set j (J7 (us[j]'(by omega)) (h[j]'(by omega)) w[j] ((F4 us h (w.take j) l).2 + 1)), (F4 us h (w.take j) l).2 + 1)
 | us, h, [], l, j, hj, _, _ => by simp at hj
 | [], h, b :: w, l, j, _, hu, _ => by simp at hu
 | u :: us, [], b :: w, l, j, _, _, hh => by simp at hh
 | u :: us, a :: h, b :: w, l, 0, _, _, _ => by
  refine ⟨by simp [F4], by simp [F4], ?_⟩
  simp only [List.take_succ_cons, List.take_zero, F4, A0v, List.getElem_cons_zero, List.set_cons_zero]
 | u :: us, a :: h, b :: w, l, j + 1, hj, hu, hh => by
  simp only [List.take_succ_cons, List.getElem_cons_succ]
  by_cases hs : N1 a b = true
  ·have ih := A3P us h w l j (by simpa using hj) (by simpa using hu) (by simpa using hh)
   simp only [F4, if_pos hs]
   obtain ⟨i1, i2, i3⟩ := ih
   refine ⟨by simp [i1], fun hq => by simp [i2], ?_⟩
   rw [i3]
   split <;> simp
  ·have ih := A3P us h w (l + 1) j (by simpa using hj) (by simpa using hu) (by simpa using hh)
   simp only [F4, if_neg hs]
   obtain ⟨i1, i2, i3⟩ := ih
   refine ⟨by simp [i1], fun hq => by simp [i2], ?_⟩
   rw [i3]
   split <;> simp
theorem A1H : ∀ (us : List Tm) (h w : List Ty) (l : Int), (F4 us h w l).1.length = us.length
 | [], h, w, l => by simp [F4]
 | u :: us, [], w, l => by simp [F4]
 | u :: us, a :: h, [], l => by simp [F4]
 | u :: us, a :: h, b :: w, l => by
  simp only [F4]
  split
  ·simp [A1H us h w l]
  ·simp [A1H us h w (l + 1)]
theorem A9k {us : List Tm} {h w : List Ty} {l : Int} {j : Nat} (hj : j < w.length) (hu : w.length ≤ us.length) (hh : w.length ≤ h.length) :
  (F4 us h (w.take (j + 1)) l).1 = (F4 us h (w.take j) l).1.set j (if N1 (h[j]'(by omega)) w[j] = true then us[j]'(by omega) else J7 (us[j]'(by omega)) (h[j]'(by omega)) w[j] ((F4 us h (w.take j) l).2 + 1)) ∧
  (F4 us h (w.take (j + 1)) l).2 = (if N1 (h[j]'(by omega)) w[j] = true then (F4 us h (w.take j) l).2 else (F4 us h (w.take j) l).2 + 1) := by
 obtain ⟨h1, h2, h3⟩ := A3P us h w l j hj hu hh
 by_cases hs : N1 (h[j]'(by omega)) w[j] = true
 ·rw [h3, if_pos hs, if_pos hs, if_pos hs]
  refine ⟨?_, rfl⟩
  rw [← h2 (by omega), List.set_getElem_self]
 ·rw [h3, if_neg hs, if_neg hs, if_neg hs]
  exact ⟨rfl, rfl⟩
theorem A1d : ∀ (us : List Tm) (h w : List Ty) (l : Int), l ≤ (F4 us h w l).2 ∧ (F4 us h w l).2 ≤ l + us.length
 | [], h, w, l => by simp [F4]
 | u :: us, [], w, l => by simp [F4]; omega
 | u :: us, a :: h, [], l => by simp [F4]; omega
 | u :: us, a :: h, b :: w, l => by
  simp only [F4]
  split
  ·have := A1d us h w l; simp only [List.length_cons]; omega
  ·have := A1d us h w (l + 1); simp only [List.length_cons]; omega
mutual
def A6a : Ty → Ty → Bool
 | .mk k ks, t => decide (t.k = 1) || (decide (k = t.k) && A9l ks t.ks)
def A9l : List Ty → List Ty → Bool
 | [], [] => true
 | a :: xs, b :: ys => A6a a b && A9l xs ys
 | _, _ => false
end
mutual
def A9m : Tm → Tm → Bool
 | .mk k nm num ty _ _ ks, u => decide (k = u.k ∧ nm = u.nm ∧ num = u.num) && (decide (k ≠ 5 ∧ k ≠ 13) || A6a ty u.ty) && A9n ks u.ks
def A9n : List Tm → List Tm → Bool
 | [], [] => true
 | a :: xs, b :: ys => A9m a b && A9n xs ys
 | _, _ => false
end
def B3P (a b : Tm) : Bool := S1 a && (S1 b && A9m a b)
def A4N : GT → GT → GT
 | .any, b => b
 | .fn a b, .fn c d => .fn (A4N a c) (A4N b d)
 | .pr a b, .pr c d => .pr (A4N a c) (A4N b d)
 | a, _ => a
def gmF : GT → Option (GT × GT)
 | .fn a b => some (a, b)
 | .any => some (.any, .any)
 | _ => none
def gmP : GT → Option (GT × GT)
 | .pr a b => some (a, b)
 | .any => some (.any, .any)
 | _ => none
def CxR (cx cx' : Cx) (Γ : GC) : Prop := ∀ x a, O8 cx x = some a → ∃ A A', a = A.ty ∧ O8 cx' x = some A'.ty ∧ Γ x = some (A, A') ∧ Le A A'
def B6O (A B : GT) (l : Int) (e : GE) : GE := if N1 A.ty B.ty = true then e else .cast A B l e
inductive GPL (Γ : GC) : List GE → List GE → List GT → List GT → Prop
 | nil : GPL Γ [] [] [] []
 | cons {e e' A A' es es' As As'} : GP Γ e e' A A' → GPL Γ es es' As As' → GPL Γ (e :: es) (e' :: es') (A :: As) (A' :: As')
abbrev ElR (Γ : GC) (u : Tm) (a : Ty) (r : Option (Tm × Ty × Int)) : Prop := ∃ e A e' A' l2, u = e.tm ∧ a = A.ty ∧ r = some (e'.tm, A'.ty, l2) ∧ GP Γ e e' A A'
section
variable {cx cx' : Cx} {Γ : GC} {es es' : List GE} {As As' : List GT} {l l' : Int} {u : Tm} {a : Ty} {l2 : Int} {nm : ByteArray} {num : Int}
end
variable {P : Program} {G : IM}
theorem Fn.forget {f : FuncId} {args : List Value} {v0 : Value} {post : IM → Value → List A5 → Prop} (h : Fn P f args [] G post) (hv : ∀ G' v outs, post G' v outs → v = v0) : Fn P f args [] G (I3 v0 G) := by
 refine ⟨fun w hw => (h.run w hw).mono ?_⟩
 rintro e w' ⟨u, G', outs, rfl, hres, hp⟩
 refine ⟨u, G, [], rfl, ⟨⟨fun b l hb => hres.own.inn b l (hres.le b l hb), by simp, by simp [Fp], by simp [Fp]⟩, hres.ext, C0.refl _, fun _ _ h => .inl h, by simp [Fp], fun b l h h0 => absurd h (by rw [h0]; simp)⟩, rfl, hv _ _ _ hp, rfl⟩
def V4 (t : Tm) : IM → Value → List A5 → Prop := L8 fun G' v => ∃ cells, v = .agg ⟨cells⟩ ∧ B0 G' t cells
theorem V4.mk {G : IM} {t : Tm} {cells : List Value} (h : B0 G t cells) : V4 t G (.agg ⟨cells⟩) [] := ⟨rfl, cells, rfl, h⟩
def mGk (k : Int) : Ty := if k = 4 ∨ k = 5 then .mk k [P9, P9] else .mk k []
theorem A0E {G : IM} {k : Int} {ks : List Tm} {p : Option Addr} {n c : Nat} {es : List (List Value)} (hk : E8 k) (hn : n = ks.length) (hs : D5 G p n c 9 es) (hr : D0 G ks es) : B0 G (W1 k ks) [.int .i64 k, .string ⟨⟨[]⟩⟩, .int .i64 0, .int .i64 0, .slice none 0 0, .int .i64 0, .slice none 0 0, .int .i64 0, .slice p n c] := by
 subst hn
 simp only [W1, B0]
 exact ⟨[.int .i64 0, .slice none 0 0], [.int .i64 0, .slice none 0 0], p, c, es, rfl, hk, ⟨by decide, by decide⟩, ⟨by decide, by decide⟩, A1B G, A1B G, hs, hr⟩
theorem A6b (k : Int) (G : IM) (hk : E8 k) : Fn Tryz.prog 115 [.int .i64 k] [] G (L8 fun G' v => ∃ cells, v = .agg ⟨cells⟩ ∧ B9 G' (mGk k) cells) := by
 have hB := A1Q k P9 P9 G _ _ hk (A0u G) (A0u G)
 refine C3 Tryz.func115 rfl Tryz.ntmps115 Tryz.results115 rfl ?_
 intro w0
 refine A3 ?_
 refine sE (A6 rfl) rfl (fun b3 => ?_)
 refine A8 ?_
 refine sB (qE rfl rfl) rfl rfl (fun h10 => ?_) (fun h10 => ?_)
 refine J2 ?_
 refine H6 rfl ((A1v _ _)) rfl rfl ?_
 refine H6 rfl ((A1v _ _)) rfl rfl ?_
 (refine E7 rfl hB rfl rfl (fun v G1 hle1 hh => ?_); obtain ⟨cb, rfl, hrb⟩ := hh; obtain ⟨p1, c1, e1, rfl, _⟩ := hrb.open)
 refine A9 ?_
 refine M7 (rC rfl (A4 rfl rfl)) ?_
 (exact ⟨rfl, _, rfl, by unfold mGk; rw [if_pos (by omega)]; exact hrb⟩)
 refine A3 ?_
 refine sB (qE rfl rfl) rfl rfl (fun h33 => ?_) (fun h33 => ?_)
 refine B2 ?_
 refine H6 rfl ((A1v _ _)) rfl rfl ?_
 refine H6 rfl ((A1v _ _)) rfl rfl ?_
 (refine E7 rfl hB rfl rfl (fun v G1 hle1 hh => ?_); obtain ⟨cb, rfl, hrb⟩ := hh; obtain ⟨p1, c1, e1, rfl, _⟩ := hrb.open)
 refine A9 ?_
 refine M7 (rC rfl (A4 rfl rfl)) ?_
 (exact ⟨rfl, _, rfl, by unfold mGk; rw [if_pos (by omega)]; exact hrb⟩)
 refine E0 ?_
 refine H6 rfl ((A1v _ _)) rfl rfl ?_
 refine B1 ?_
 refine M7 (rC rfl (A4 rfl rfl)) ?_
 (exact ⟨rfl, _, rfl, by unfold mGk; rw [if_neg (by omega)]; exact O0 _ hk⟩)
theorem A9o (t : Ty) (G : IM) (cells : List Value) (hr : B9 G t cells) : Fn Tryz.prog 237 [.agg ⟨cells⟩] [] G (I3 (.bool (S5 t)) G) := by
 refine Fn.forget (post := L8 fun _ v => v = .bool (S5 t)) ?_ (fun _ _ _ h => h.2)
 have hr0 := hr
 obtain ⟨tk, tks⟩ := t
 obtain ⟨p, c, es, rfl, hk, _⟩ := hr.open
 simp only [Ty.k, Ty.ks] at hk hr0 ⊢
 rw [show S5 (.mk tk tks) = (decide (tk ≠ 1) && N1 (.mk tk tks) (mGk tk)) from rfl]
 refine C3 Tryz.func237 rfl Tryz.ntmps237 Tryz.results237 rfl ?_
 intro w0
 refine A3 ?_
 refine sE (C8 rfl rfl) rfl (fun b3 => ?_)
 refine B1 ?_
 refine D7 D8 rfl ?_
 refine I9 (i := 0) (l' := [tt,ff,ff,ff,ff,ff,ff,ff,ff,ff,ff]) rfl D1 (B5 rfl) rfl (by kernel_rfl) rfl rfl ?_
 refine aL 1 rfl (C4 rfl rfl) rfl ?_
 refine A0y (i := 2) (l' := [tt,tt,tt,ff,ff,ff,ff,ff,ff,ff,ff]) rfl D1 (N9 rfl rfl) rfl (by kernel_rfl) rfl rfl (fun h11 => ?_) (fun h11 => ?_)
 refine aP 3 rfl (qM rfl) rfl ?_
 refine aL 4 rfl (A4 rfl rfl) rfl ?_
 refine aP 5 rfl (B5 rfl) rfl ?_
 refine aL 6 rfl (C4 rfl rfl) rfl ?_
 refine A1 7 ?_
 (refine H0 rfl rfl (A6b tk G hk) rfl rfl rfl (fun v G1 hle1 hh => ?_); obtain ⟨cg, rfl, hrg⟩ := hh; have hT := A52 (.mk tk tks) (mGk tk) G1 _ _ (hr0.mono hle1) hrg; obtain ⟨pg, cgg, eg, rfl, _⟩ := hrg.open)
 refine A1 8 ?_
 refine M8 rfl rfl (hT) rfl rfl rfl ?_
 refine aP 9 rfl (M5 rfl rfl) rfl ?_
 refine aP 10 rfl (qA rfl) rfl ?_
 refine B1 ?_
 (exact ⟨rfl, by rw [decide_eq_true (by omega), Bool.true_and]⟩)
 refine aP 3 rfl (qM rfl) rfl ?_
 refine C2 4 rfl rfl rfl ?_
 refine C2 5 rfl rfl rfl ?_
 refine C2 6 rfl rfl rfl ?_
 refine C2 7 rfl rfl rfl ?_
 refine C2 8 rfl rfl rfl ?_
 refine aP 9 rfl (O7 rfl rfl) rfl ?_
 refine aP 10 rfl (qA rfl) rfl ?_
 refine B1 ?_
 (exact ⟨rfl, by rw [decide_eq_false (by omega), Bool.false_and]⟩)
theorem A1S {Q : Prop} (h : Q := by (exact ⟨rfl, by rw [decide_eq_true (by omega)], rfl⟩)) : Q := h
theorem A2l {Q : Prop} (h : Q := by (exact ⟨rfl, by rw [decide_eq_false (by omega)], rfl⟩)) : Q := h
theorem A2m (t : Tm) (G : IM) (cells : List Value) (hr : B0 G t cells) : Fn Tryz.prog 106 [.agg ⟨cells⟩] [] G (I3 (.bool (N2 t)) G) := by
 obtain ⟨k, nm, num, ⟨tk, tks⟩, ⟨fk, fks⟩, lb, ks⟩ := t
 obtain ⟨pt, ct, pf, cf, p, c, es, rfl, hk, hnum, hlb, hty, hfr, hsl, hkl⟩ := hr.open9
 have hd : N2 (.mk k nm num (.mk tk tks) (.mk fk fks) lb ks) = decide (k = 14 ∧ fk = tk ∧ (tk = 4 ∨ tk = 5)) := rfl
 rw [hd]
 refine C3 Tryz.func106 rfl Tryz.ntmps106 Tryz.results106 rfl ?_
 intro w0
 refine A3 ?_
 refine sE (C8 rfl rfl) rfl (fun b3 => ?_)
 refine B2 ?_
 refine sB (qE rfl rfl) rfl rfl (fun h11 => ?_) (fun h11 => ?_)
 refine B2 ?_
 refine sB (qE rfl rfl) rfl rfl (fun h19 => ?_) (fun h19 => ?_)
 refine A9 ?_
 refine sB (qE rfl rfl) rfl rfl (fun h25 => ?_) (fun h25 => ?_)
 refine N0 ?_
 exact A1S
 refine B1 ?_
 refine sB (qE rfl rfl) rfl rfl (fun h43 => ?_) (fun h43 => ?_)
 refine B2 ?_
 exact A1S
 refine B2 ?_
 exact A2l
 refine U0 ?_
 exact A2l
 refine A4i ?_
 exact A2l
theorem A4O {Q : Prop} (h : Q := by (exact ⟨rfl, by rw [decide_eq_false (by omega), Bool.false_and], rfl⟩)) : Q := h
theorem A3Q (t : Tm) (G : IM) (cells : List Value) (hr : B0 G t cells) : Fn Tryz.prog 223 [.agg ⟨cells⟩] [] G (I3 (.bool (inj t)) G) := by
 obtain ⟨k, nm, num, ⟨tk, tks⟩, ⟨fk, fks⟩, lb, ks⟩ := t
 obtain ⟨pt, ct, pf, cf, p, c, es, rfl, hk, hnum, hlb, hty, hfr, hsl, hkl⟩ := hr.open9
 have hd : inj (.mk k nm num (.mk tk tks) (.mk fk fks) lb ks) = (decide (k = 14 ∧ tk = 1) && S5 (.mk fk fks)) := rfl
 rw [hd]
 refine C3 Tryz.func223 rfl Tryz.ntmps223 Tryz.results223 rfl ?_
 intro w0
 refine A3 ?_
 refine sE (C8 rfl rfl) rfl (fun b3 => ?_)
 refine B2 ?_
 refine sB (qE rfl rfl) rfl rfl (fun h11 => ?_) (fun h11 => ?_)
 refine B1 ?_
 refine sB (qE rfl rfl) rfl rfl (fun h16 => ?_) (fun h16 => ?_)
 refine B1 ?_
 refine H6 rfl ((A9o (.mk fk fks) G _ hfr)) rfl rfl ?_
 refine A8 ?_
 (exact ⟨rfl, by rw [decide_eq_true (by omega), Bool.true_and], rfl⟩)
 refine J4 ?_
 exact A4O
 refine J9 ?_
 exact A4O
theorem B3Q (t : Tm) (G : IM) (cells : List Value) (hr : B0 G t cells) : Fn Tryz.prog 226 [.agg ⟨cells⟩] [] G (I3 (.bool (decide (t.k = 2 ∨ t.k = 3 ∨ t.k = 4 ∨ t.k = 5))) G) := by
 obtain ⟨k, nm, num, ⟨tk, tks⟩, ⟨fk, fks⟩, lb, ks⟩ := t
 obtain ⟨pt, ct, pf, cf, p, c, es, rfl, hk, hnum, hlb, hty, hfr, hsl, hkl⟩ := hr.open9
 rw [show (Tm.mk k nm num (.mk tk tks) (.mk fk fks) lb ks).k = k from rfl]
 refine C3 Tryz.func226 rfl Tryz.ntmps226 Tryz.results226 rfl ?_
 intro w0
 refine A3 ?_
 refine sE (C8 rfl rfl) rfl (fun b3 => ?_)
 refine B2 ?_
 refine sB (qE rfl rfl) rfl rfl (fun h11 => ?_) (fun h11 => ?_)
 refine Z5 ?_
 exact A1S
 refine B6 ?_
 refine sB (qE rfl rfl) rfl rfl (fun h36 => ?_) (fun h36 => ?_)
 refine J9 ?_
 exact A1S
 refine B1 ?_
 refine sB (qE rfl rfl) rfl rfl (fun h58 => ?_) (fun h58 => ?_)
 refine J4 ?_
 exact A1S
 refine B1 ?_
 refine sB (qE rfl rfl) rfl rfl (fun h75 => ?_) (fun h75 => ?_)
 refine A8 ?_
 exact A1S
 refine A8 ?_
 exact A2l
theorem B3R (G : IM) (p : Option Addr) (n c : Nat) (es : List (List Value)) (hsl : D5 G p n c 9 es) (fid : FuncId) [B8 Tryz.prog fid] (us cs : List Value) (ins : List A5) (q : Nat → Bool)
  (hq : ∀ i e, es[i]? = some e → Fn Tryz.prog fid (us ++ [.agg ⟨e⟩] ++ cs) ins G (T9 (.bool (q i)) ins G)) :
  Fn Tryz.prog 238 [.slice p n c, .func (.func fid) ⟨us⟩ ⟨cs⟩] ins G (T9 (.int .i64 (A0s q n)) ins G) := by
 have hn := hsl.le
 refine C3 Tryz.func238 rfl Tryz.ntmps238 Tryz.results238 rfl ?_
 intro w0
 refine K5 ?_
 refine C1 ?_
 refine J8 (fun i : Nat => ⟨[(8, .int .i64 i), (7, .int .i64 n), (1, .func (.func fid) ⟨us⟩ ⟨cs⟩), (0, .slice p n c)], ins, G⟩) (fun i => i ≤ n ∧ ∀ j, j < i → q j = false) (fun i => n - i) 0 ?_ ?_ ?_
 exact E2
 exact ⟨by omega, by omega⟩
 rintro i ⟨hi, hf⟩
 refine A3 ?_
 refine sB (J1 rfl rfl) rfl rfl (fun h21 => ?_) (fun h21 => ?_)
 refine B2 ?_
 refine C1 ?_
 refine J4 ?_
 (obtain ⟨e, b, o, he, rfl, hl, _, hat, _⟩ := hsl.get (i := i) (by omega); refine sP (B4 rfl rfl rfl (by omega)) rfl rfl ?_)
 refine sL (A2 rfl rfl (hat _) hl) rfl rfl ?_
 refine A5l rfl rfl (hq i e he) A0g rfl rfl (fun h43 => ?_) (fun h43 => ?_)
 refine I0 ?_
 refine H2 (rT rfl) A0.refl ?_
 exact ⟨rfl, by rw [A7u (by omega) hf (by assumption)], rfl⟩
 refine B2 ?_
 refine sP (J0 rfl rfl (by omega) (by omega)) rfl rfl ?_
 refine A3 ?_
 refine J6 (i + 1) ?_ ?_ ?_
 exact E2
 exact zq1
 omega
 refine I0 ?_
 refine H2 (rT rfl) A0.refl ?_
 exact ⟨rfl, by rw [A5o (fun j hj => hf j (by omega))], rfl⟩
theorem B3S (G : IM) (p : Option Addr) (n c : Nat) (es : List (List Value)) (hsl : D5 G p n c 9 es) (fid : FuncId) [B8 Tryz.prog fid] (us cs : List Value) (ins : List A5) (q : Nat → Bool)
  (hq : ∀ i e, es[i]? = some e → Fn Tryz.prog fid (us ++ [.agg ⟨e⟩] ++ cs) ins G (T9 (.bool (q i)) ins G)) :
  Fn Tryz.prog 224 [.slice p n c, .func (.func fid) ⟨us⟩ ⟨cs⟩] ins G (T9 (.bool (decide (0 ≤ A0s q n))) ins G) := by
 refine C3 Tryz.func224 rfl Tryz.ntmps224 Tryz.results224 rfl ?_
 intro w0
 refine E0 ?_
 refine A15 rfl (B3R G p n c es hsl fid us cs ins q hq) A0g rfl rfl ?_
 refine sQ (A0L rfl rfl) rfl ?_
 refine B1 ?_
 refine H2 (rT rfl) A0.refl ?_
 exact ⟨rfl, rfl, rfl⟩
theorem B3T (G : IM) (p : Option Addr) (n c : Nat) (es : List (List Value)) (hsl : D5 G p n c 9 es) (fid : FuncId) [B8 Tryz.prog fid] (us cs : List Value) (ins : List A5) (f : Tm → Bool) (ks : List Tm)
  (hn : ks.length = n) {A : Bool} (hA : ks.all f = A) (hq : ∀ i e, es[i]? = some e → Fn Tryz.prog fid (us ++ [.agg ⟨e⟩] ++ cs) ins G (T9 (.bool (!f (ks.getD i J5))) ins G)) :
  Fn Tryz.prog 224 [.slice p n c, .func (.func fid) ⟨us⟩ ⟨cs⟩] ins G (T9 (.bool (!A)) ins G) := by
 subst hn hA
 rw [← A7x f ks J5]
 exact B3S G p _ c es hsl fid us cs ins _ hq
theorem A9p : ∀ ks, A4D ks = ks.all F0
 | [] => rfl
 | t :: ts => by rw [A4D, A9p ts, List.all_cons]
theorem B3U (t : Tm) (G : IM) (cells : List Value) (hl : cells.length = 9) (ho : cells.all (·.oneCell') = true) (h : Fn Tryz.prog 194 [.agg ⟨cells⟩] [] G (I3 (.bool (F0 t)) G)) :
  Fn Tryz.prog 225 [.agg ⟨cells⟩] [] G (T9 (.bool (!F0 t)) [] G) := by
 refine C3 Tryz.func225 rfl Tryz.ntmps225 Tryz.results225 rfl ?_
 intro w0
 refine A3 ?_
 refine sE (C8 rfl rfl) rfl (fun b3 => ?_)
 refine A9 ?_
 refine sL (A2 rfl rfl (B3 (by repeat first | exact mH | apply mT)) hl) rfl rfl ?_
 refine H6 rfl (h) rfl rfl ?_
 refine sQ (A2v rfl) rfl ?_
 refine A9 ?_
 (exact ⟨rfl, rfl, rfl⟩)
theorem A0F (k : Int) (nm : ByteArray) (num : Int) (ty fr : Ty) (lb : Int) (ks : List Tm) : N2 (.mk k nm num ty fr lb ks) = decide (k = 14 ∧ fr.k = ty.k ∧ (ty.k = 4 ∨ ty.k = 5)) := rfl
theorem A3R (k : Int) (nm : ByteArray) (num : Int) (ty fr : Ty) (lb : Int) (ks : List Tm) : inj (.mk k nm num ty fr lb ks) = (decide (k = 14 ∧ ty.k = 1) && S5 fr) := rfl
theorem A2n {k : Int} {nm : ByteArray} {num : Int} {ty fr : Ty} {lb : Int} {ks : List Tm} (h : k = 10 ∨ N2 (.mk k nm num ty fr lb ks) = true ∨ inj (.mk k nm num ty fr lb ks) = true) : F0 (.mk k nm num ty fr lb ks) = ks.all F0 := by
 rw [F0, if_pos, A9p]
 rw [A0F, A3R] at h
 simp only [Bool.and_eq_true, decide_eq_true_eq] at h
 rcases h with h | h | h
 ·exact .inl h
 ·exact .inr (.inl h)
 ·exact .inr (.inr ⟨h.1.1, h.1.2, h.2⟩)
theorem A3S {k : Int} {nm : ByteArray} {num : Int} {ty fr : Ty} {lb : Int} {ks : List Tm} (h : ¬k = 10) (h2 : N2 (.mk k nm num ty fr lb ks) = false) (h3 : inj (.mk k nm num ty fr lb ks) = false) : F0 (.mk k nm num ty fr lb ks) = decide (k = 2 ∨ k = 3 ∨ k = 4 ∨ k = 5) := by
 rw [F0, if_neg]
 rw [A0F] at h2
 rw [A3R] at h3
 simp only [Bool.and_eq_false_iff, decide_eq_false_iff_not] at h2 h3
 rintro (h' | h' | h')
 ·exact h h'
 ·exact h2 h'
 ·rcases h3 with h3 | h3
  ·exact h3 ⟨h'.1, h'.2.1⟩
  ·rw [h3] at h'; cases h'.2.2
theorem A6c {Q : Prop} (h : Q := by (exact ⟨rfl, by rw [hy (by first | exact .inl (by omega) | exact .inr (.inl (by assumption)) | exact .inr (.inr (by assumption)))]; cases A <;> rfl, rfl⟩)) : Q := h
theorem A9q : ∀ (t : Tm) (G : IM) (cells : List Value), B0 G t cells → Fn Tryz.prog 194 [.agg ⟨cells⟩] [] G (I3 (.bool (F0 t)) G) := by
 refine Tm.ind fun k nm num ty fr lb ks ih G cells hr => ?_
 have hr0 := hr
 have hP := A2m _ G _ hr
 have hI := A3Q _ G _ hr
 have hPl := B3Q _ G _ hr
 have hy := @A2n k nm num ty fr lb ks
 have hn := @A3S k nm num ty fr lb ks
 rw [show (Tm.mk k nm num ty fr lb ks).k = k from rfl] at hPl
 obtain ⟨A, hA⟩ : ∃ A, ks.all F0 = A := ⟨_, rfl⟩
 rw [hA] at hy
 generalize hpx : N2 (.mk k nm num ty fr lb ks) = bp at hP hy hn
 generalize hij : inj (.mk k nm num ty fr lb ks) = bi at hI hy hn
 generalize F0 (.mk k nm num ty fr lb ks) = R at hy hn ⊢
 obtain ⟨tk, tks⟩ := ty
 obtain ⟨fk, fks⟩ := fr
 obtain ⟨pt, ct, pf, cf, p, c, es, rfl, hk, hnum, hlb, hty, hfr, hsl, hkl⟩ := hr.open9
 have hC := B3T G p ks.length c es hsl 225 [] [] [] F0 ks rfl hA (fun i e he => by
  have hx := hkl.inv he J5
  exact B3U _ G e hx.2.len hx.2.one (ih _ hx.1 G e hx.2))
 refine C3 Tryz.func194 rfl Tryz.ntmps194 Tryz.results194 rfl ?_
 intro w0
 refine A3 ?_
 refine sE (C8 rfl rfl) rfl (fun b3 => ?_)
 refine D4 ?_
 refine sB (qE rfl rfl) rfl rfl (fun h12 => ?_) (fun h12 => ?_)
 refine I0 ?_
 refine A15 rfl hC A0g rfl rfl ?_
 refine sQ (A2v rfl) rfl ?_
 refine A8 ?_
 exact A6c
 refine A3 ?_
 refine F8 rfl (hP) rfl rfl (fun h39 => ?_) (fun h39 => ?_)
 refine N0 ?_
 refine A15 rfl hC A0g rfl rfl ?_
 refine sQ (A2v rfl) rfl ?_
 refine A8 ?_
 exact A6c
 refine B6 ?_
 refine F8 rfl (hI) rfl rfl (fun h64 => ?_) (fun h64 => ?_)
 refine D4 ?_
 refine A15 rfl hC A0g rfl rfl ?_
 refine sQ (A2v rfl) rfl ?_
 refine A8 ?_
 exact A6c
 refine E0 ?_
 refine H6 rfl (hPl) rfl rfl ?_
 refine A9 ?_
 (exact ⟨rfl, by rw [hn (by omega) (by assumption) (by assumption)], rfl⟩)
theorem B0.put {G : IM} {k : Int} {nm : ByteArray} {num tk fk lb : Int} {tks fks : List Ty} {us : List Tm} {pt pf p : Option Addr} {ct cf n c : Nat} {es : List (List Value)} (hk : E8 k) (hnum : E8 num) (hlb : E8 lb) (hty : B9 G (.mk tk tks) [.int .i64 tk, .slice pt tks.length ct]) (hfr : B9 G (.mk fk fks) [.int .i64 fk, .slice pf fks.length cf])
  (hn : n = us.length) (hs : D5 G p n c 9 es) (hr : D0 G us es) : B0 G (.mk k nm num (.mk tk tks) (.mk fk fks) lb us) [.int .i64 k, .string nm, .int .i64 num, .int .i64 tk, .slice pt tks.length ct, .int .i64 fk, .slice pf fks.length cf, .int .i64 lb, .slice p n c] := by
 subst hn
 simp only [B0]
 exact ⟨_, _, p, c, es, rfl, hk, hnum, hlb, hty, hfr, hs, hr⟩
theorem nine {uc : List Value} (h : uc.length = 9) : ∃ v1 v2 v3 v4 v5 v6 v7 v8 v9, uc = [v1, v2, v3, v4, v5, v6, v7, v8, v9] := by
 match uc, h with
 | [a, b, c, d, e, f, g, i, j], _ => exact ⟨a, b, c, d, e, f, g, i, j, rfl⟩
theorem A9r {x : ByteArray} {v : Tm} {ks : List Tm} {i : Nat} (h : i < ks.length) : (T5 x v ks).take (i + 1) = (T5 x v ks).take i ++ [W0 x v ks[i]] := by
 rw [A4E, List.take_succ_eq_append_getElem (by rw [List.length_map]; exact h), List.getElem_map]
theorem A1e (x : ByteArray) (v : Tm) (ks : List Tm) : (T5 x v ks).length = ks.length := by rw [A4E, List.length_map]
theorem A2Y {Q : Prop} (h : Q := by (exact ⟨Nat.zero_le _, C0.refl _, by simp [D0]⟩)) : Q := h
theorem A6d {Q : Prop} (h : Q := by (dsimp only; exact ⟨by omega, hle.trans hle1, by rw [A9r (by omega)]; exact D0.snoc (hst.mono hle1) hru⟩)) : Q := h
theorem A6e {Q : Prop} (h : Q := by (rw [if_neg (by rintro ⟨h1, h2⟩; first | omega | contradiction), if_neg (by rintro ⟨h1, h2⟩; first | omega | contradiction)]; rw [List.take_of_length_le (by rw [A1e]; omega)] at hst; exact V4.mk (B0.put hk hnum hlb (hty.mono hle2) (hfr.mono hle2) (by rw [A1e]) (D5.of hsl2 (by omega) hst.all (fun e he => (hst.each e he).2)) (hst.mono hle2)))) : Q := h
theorem B3V (y : ByteArray) (v : Tm) (vc : List Value) : ∀ (t : Tm) (G : IM) (cells : List Value), t.small → B0 G t cells → B0 G v vc → Fn Tryz.prog 239 [.agg ⟨cells⟩, .string y, .agg ⟨vc⟩] [] G (V4 (W0 y v t)) := by
 refine Tm.ind fun k nm num ty fr lb ks ih G cells hts hr hv => ?_
 have hr0 := hr
 obtain ⟨_, _, _, hsm, hks⟩ := A0a.1 hts
 have hvl := hv.len
 have hvo := hv.one
 have hRl := hr.len
 have hRo := hr.one
 rw [W0]
 obtain ⟨tk, tks⟩ := ty
 obtain ⟨fk, fks⟩ := fr
 obtain ⟨pt, ct, pf, cf, p, c, es, rfl, hk, hnum, hlb, hty, hfr, hsl, hkl⟩ := hr.open9
 have hn := hsl.le
 refine C3 Tryz.func239 rfl Tryz.ntmps239 Tryz.results239 rfl ?_
 intro w0
 refine A3 ?_
 refine sE (C8 rfl rfl) rfl (fun b3 => ?_)
 refine sE (C8 rfl rfl) rfl (fun b4 => ?_)
 refine sE (A6 rfl) rfl (fun b5 => ?_)
 refine B6 ?_
 refine C1 ?_
 refine B1 ?_
 refine sB (qE rfl rfl) rfl rfl (fun h14 => ?_) (fun h14 => ?_)
 refine B1 ?_
 refine sB (A04 rfl rfl) rfl rfl (fun h19 => ?_) (fun h19 => ?_)
 refine B2 ?_
 refine sL (A2 rfl rfl (B3 (by repeat first | exact mH | apply mT)) hvl) rfl rfl ?_
 refine sS rfl rfl rfl hvl hvo rfl ?_ (hu := by exact D6 hvl.symm)
 refine A9 ?_
 refine M7 (rC rfl (A2 rfl rfl (B3 (by repeat first | exact mH | apply mT)) hvl)) ?_
 (rw [if_pos (by refine ⟨by omega, by assumption⟩)]; exact V4.mk hv)
 refine E0 ?_
 refine sP (H9 rfl rfl (by omega)) rfl rfl ?_
 refine J9 ?_
 refine sE (A6 rfl) rfl (fun b62 => ?_)
 refine U0 ?_
 refine C1 ?_
 (refine S0 37 9 ?_; refine J8 (fun (x : Nat × Option Addr × Nat × List (List Value) × IM) => ⟨[(37, .int .i64 x.1), (36, .int .i64 ks.length), (35, .slice p ks.length c), (1, .string y), (3, .pointer (some ⟨b3, 0, none⟩)), (5, .pointer (some ⟨b4, 0, none⟩)), (6, .pointer (some ⟨b5, 0, none⟩)), (7, .pointer (some ⟨b62, 0, none⟩))], [.blk b62 [.int .i64 k, .string nm, .int .i64 num, .int .i64 tk, .slice pt tks.length ct, .int .i64 fk, .slice pf fks.length cf, .int .i64 lb, .slice x.2.1 x.1 x.2.2.1], .slc x.2.1 x.2.2.1 37 9 x.1 x.2.2.2.1.flatten, .blk b5 [.int .i64 0, .string ⟨⟨[]⟩⟩, .int .i64 0, .int .i64 0, .slice none 0 0, .int .i64 0, .slice none 0 0, .int .i64 0, .slice none 0 0], .blk b4 vc, .blk b3 [.int .i64 k, .string nm, .int .i64 num, .int .i64 tk, .slice pt tks.length ct, .int .i64 fk, .slice pf fks.length cf, .int .i64 lb, .slice p ks.length c]], x.2.2.2.2⟩) (fun x => x.1 ≤ ks.length ∧ C0 G x.2.2.2.2 ∧ D0 x.2.2.2.2 ((T5 y v ks).take x.1) x.2.2.2.1) (fun x => ks.length - x.1) (0, none, 0, [], G) ?_ ?_ ?_)
 (simp only [I5]; exact E2)
 exact A2Y
 (rintro ⟨i, pn, cn, es', Gi⟩ ⟨hi, hle, hst⟩; simp only [] at hi hle hst ⊢; replace hsl := hsl.mono hle; replace hkl := hkl.mono hle; replace hv := hv.mono hle; replace hty := hty.mono hle; replace hfr := hfr.mono hle; have hsl' := hst.len; rw [List.length_take, A1e] at hsl')
 refine A3 ?_
 refine sB (J1 rfl rfl) rfl rfl (fun h88 => ?_) (fun h88 => ?_)
 refine B2 ?_
 refine C1 ?_
 refine A3 ?_
 (have hil : i < ks.length := (by omega); obtain ⟨bx, ox, e, rfl, hl, hat, hre, hgb⟩ := hsl.kidTm hkl (i := i) (by omega) (by omega); have hel := hre.len; have heo := hre.one; refine sP (B4 (j := i) rfl rfl rfl (by omega)) rfl rfl ?_)
 refine sL (A2 rfl rfl (hat _) hl) rfl rfl ?_
 refine sE (A6 rfl) rfl (fun b101 => ?_)
 refine sS rfl rfl rfl hel heo rfl ?_ (hu := by exact D6 hel.symm)
 refine A3 ?_
 refine D7 D8 rfl ?_
 refine K7 (i := 2) (l' := [ff,ff,tt,ff,ff,ff,ff,ff,ff,ff]) rfl D1 (A2 rfl rfl (B3 (by repeat first | exact mH | apply mT)) hel) rfl (by kernel_rfl) rfl rfl ?_
 refine aL 4 rfl (A2 rfl rfl (B3 (by repeat first | exact mH | apply mT)) hvl) rfl ?_
 refine aP 0 rfl (B5 rfl) rfl ?_
 refine aL 1 rfl (C4 rfl rfl) rfl ?_
 refine aP 3 rfl (qM rfl) rfl ?_
 refine A1 5 ?_
 (refine H0 rfl rfl (ih ks[i] (List.getElem_mem (by omega)) Gi _ (Tm.smallL_mem hks _ (List.getElem_mem (by omega))) hre hv) rfl rfl rfl (fun u G1 hle1 hh => ?_); obtain ⟨uc, rfl, hru⟩ := hh; have hul := hru.len; have huo := hru.one; obtain ⟨v1, v2, v3, v4, v5, v6, v7, v8, v9, rfl⟩ := nine hul)
 refine A1 6 ?_
 (refine E3 rfl (C7 rfl rfl rfl (by omega) (by unfold maxLen; omega) rfl) rfl rfl ?_; rintro _ ⟨b114, rfl⟩)
 refine A1 7 ?_
 (refine Q6 rfl rfl rfl rfl rfl rfl (fun _ _ => by repeat (first | exact Sw.here | apply Sw.there)) (M6 (by repeat first | exact mH | apply mT)) rfl (fun u hu => List.all_eq_true.1 huo u hu) (by unfold maxLen; omega) (by omega) rfl rfl (by repeat (first | exact A7.nil | apply A7.dep (by decide +kernel) | apply A7.im (by decide +kernel) (by assumption) (by repeat first | exact mH | apply mT) | apply A7.blk (by decide +kernel) (by repeat (first | exact Pk.here | apply Pk.there)) (by repeat first | exact mH | apply mT))) (fun p7 c7 => ?_))
 refine aP 8 rfl (B5 rfl) rfl ?_
 refine A1 9 ?_
 refine Q8 rfl rfl rfl rfl rfl rfl rfl rfl (by decide +kernel) (by repeat first | exact Sw.here | apply Sw.there) (by rfl) ?_
 refine B1 ?_
 refine sP (J0 rfl rfl (by omega) (by omega)) rfl rfl ?_
 refine A3 ?_
 refine J6 (i + 1, p7, c7, es' ++ [[v1, v2, v3, v4, v5, v6, v7, v8, v9]], G1) ?_ ?_ ?_
 (simp only [I5]; exact E2)
 exact A6d
 exact U8
 refine I0 ?_
 (refine F9 (cs := es'.flatten) (by repeat (first | exact Pk.here | apply Pk.there)) (fun G2 hle2 hsl2 hno2 => ?_); obtain rfl : i = ks.length := (by omega))
 refine tT ?_
 refine M7 (rC rfl (A4 rfl rfl)) ?_
 exact A6e
 refine J3 ?_
 refine sB (qE rfl rfl) rfl rfl (fun h164 => ?_) (fun h164 => ?_)
 refine B1 ?_
 refine sB (A04 rfl rfl) rfl rfl (fun h169 => ?_) (fun h169 => ?_)
 refine J3 ?_
 refine M7 (rC rfl (A4 rfl rfl)) ?_
 (rw [if_neg (by rintro ⟨h1, h2⟩; first | omega | contradiction), if_pos (by refine ⟨by omega, by assumption⟩)]; exact V4.mk hr0)
 refine J4 ?_
 refine sE (A6 rfl) rfl (fun b197 => ?_)
 refine U0 ?_
 refine C1 ?_
 (refine S0 37 9 ?_; refine J8 (fun (x : Nat × Option Addr × Nat × List (List Value) × IM) => ⟨[(37, .int .i64 x.1), (36, .int .i64 ks.length), (35, .slice p ks.length c), (1, .string y), (3, .pointer (some ⟨b3, 0, none⟩)), (5, .pointer (some ⟨b4, 0, none⟩)), (6, .pointer (some ⟨b5, 0, none⟩)), (7, .pointer (some ⟨b197, 0, none⟩))], [.blk b197 [.int .i64 k, .string nm, .int .i64 num, .int .i64 tk, .slice pt tks.length ct, .int .i64 fk, .slice pf fks.length cf, .int .i64 lb, .slice x.2.1 x.1 x.2.2.1], .slc x.2.1 x.2.2.1 37 9 x.1 x.2.2.2.1.flatten, .blk b5 [.int .i64 0, .string ⟨⟨[]⟩⟩, .int .i64 0, .int .i64 0, .slice none 0 0, .int .i64 0, .slice none 0 0, .int .i64 0, .slice none 0 0], .blk b4 vc, .blk b3 [.int .i64 k, .string nm, .int .i64 num, .int .i64 tk, .slice pt tks.length ct, .int .i64 fk, .slice pf fks.length cf, .int .i64 lb, .slice p ks.length c]], x.2.2.2.2⟩) (fun x => x.1 ≤ ks.length ∧ C0 G x.2.2.2.2 ∧ D0 x.2.2.2.2 ((T5 y v ks).take x.1) x.2.2.2.1) (fun x => ks.length - x.1) (0, none, 0, [], G) ?_ ?_ ?_)
 (simp only [I5]; exact E2)
 exact A2Y
 (rintro ⟨i, pn, cn, es', Gi⟩ ⟨hi, hle, hst⟩; simp only [] at hi hle hst ⊢; replace hsl := hsl.mono hle; replace hkl := hkl.mono hle; replace hv := hv.mono hle; replace hty := hty.mono hle; replace hfr := hfr.mono hle; have hsl' := hst.len; rw [List.length_take, A1e] at hsl')
 refine A3 ?_
 refine sB (J1 rfl rfl) rfl rfl (fun h223 => ?_) (fun h223 => ?_)
 refine B2 ?_
 refine C1 ?_
 refine A3 ?_
 (have hil : i < ks.length := (by omega); obtain ⟨bx, ox, e, rfl, hl, hat, hre, hgb⟩ := hsl.kidTm hkl (i := i) (by omega) (by omega); have hel := hre.len; have heo := hre.one; refine sP (B4 (j := i) rfl rfl rfl (by omega)) rfl rfl ?_)
 refine sL (A2 rfl rfl (hat _) hl) rfl rfl ?_
 refine sE (A6 rfl) rfl (fun b236 => ?_)
 refine sS rfl rfl rfl hel heo rfl ?_ (hu := by exact D6 hel.symm)
 refine A3 ?_
 refine D7 D8 rfl ?_
 refine K7 (i := 2) (l' := [ff,ff,tt,ff,ff,ff,ff,ff,ff,ff]) rfl D1 (A2 rfl rfl (B3 (by repeat first | exact mH | apply mT)) hel) rfl (by kernel_rfl) rfl rfl ?_
 refine aL 4 rfl (A2 rfl rfl (B3 (by repeat first | exact mH | apply mT)) hvl) rfl ?_
 refine aP 0 rfl (B5 rfl) rfl ?_
 refine aL 1 rfl (C4 rfl rfl) rfl ?_
 refine aP 3 rfl (qM rfl) rfl ?_
 refine A1 5 ?_
 (refine H0 rfl rfl (ih ks[i] (List.getElem_mem (by omega)) Gi _ (Tm.smallL_mem hks _ (List.getElem_mem (by omega))) hre hv) rfl rfl rfl (fun u G1 hle1 hh => ?_); obtain ⟨uc, rfl, hru⟩ := hh; have hul := hru.len; have huo := hru.one; obtain ⟨v1, v2, v3, v4, v5, v6, v7, v8, v9, rfl⟩ := nine hul)
 refine A1 6 ?_
 (refine E3 rfl (C7 rfl rfl rfl (by omega) (by unfold maxLen; omega) rfl) rfl rfl ?_; rintro _ ⟨b249, rfl⟩)
 refine A1 7 ?_
 (refine Q6 rfl rfl rfl rfl rfl rfl (fun _ _ => by repeat (first | exact Sw.here | apply Sw.there)) (M6 (by repeat first | exact mH | apply mT)) rfl (fun u hu => List.all_eq_true.1 huo u hu) (by unfold maxLen; omega) (by omega) rfl rfl (by repeat (first | exact A7.nil | apply A7.dep (by decide +kernel) | apply A7.im (by decide +kernel) (by assumption) (by repeat first | exact mH | apply mT) | apply A7.blk (by decide +kernel) (by repeat (first | exact Pk.here | apply Pk.there)) (by repeat first | exact mH | apply mT))) (fun p7 c7 => ?_))
 refine aP 8 rfl (B5 rfl) rfl ?_
 refine A1 9 ?_
 refine Q8 rfl rfl rfl rfl rfl rfl rfl rfl (by decide +kernel) (by repeat first | exact Sw.here | apply Sw.there) (by rfl) ?_
 refine B1 ?_
 refine sP (J0 rfl rfl (by omega) (by omega)) rfl rfl ?_
 refine A3 ?_
 refine J6 (i + 1, p7, c7, es' ++ [[v1, v2, v3, v4, v5, v6, v7, v8, v9]], G1) ?_ ?_ ?_
 (simp only [I5]; exact E2)
 exact A6d
 exact U8
 refine I0 ?_
 (refine F9 (cs := es'.flatten) (by repeat (first | exact Pk.here | apply Pk.there)) (fun G2 hle2 hsl2 hno2 => ?_); obtain rfl : i = ks.length := (by omega))
 refine tT ?_
 refine M7 (rC rfl (A4 rfl rfl)) ?_
 exact A6e
 refine J9 ?_
 refine sE (A6 rfl) rfl (fun b301 => ?_)
 refine U0 ?_
 refine C1 ?_
 (refine S0 37 9 ?_; refine J8 (fun (x : Nat × Option Addr × Nat × List (List Value) × IM) => ⟨[(37, .int .i64 x.1), (36, .int .i64 ks.length), (35, .slice p ks.length c), (1, .string y), (3, .pointer (some ⟨b3, 0, none⟩)), (5, .pointer (some ⟨b4, 0, none⟩)), (6, .pointer (some ⟨b5, 0, none⟩)), (7, .pointer (some ⟨b301, 0, none⟩))], [.blk b301 [.int .i64 k, .string nm, .int .i64 num, .int .i64 tk, .slice pt tks.length ct, .int .i64 fk, .slice pf fks.length cf, .int .i64 lb, .slice x.2.1 x.1 x.2.2.1], .slc x.2.1 x.2.2.1 37 9 x.1 x.2.2.2.1.flatten, .blk b5 [.int .i64 0, .string ⟨⟨[]⟩⟩, .int .i64 0, .int .i64 0, .slice none 0 0, .int .i64 0, .slice none 0 0, .int .i64 0, .slice none 0 0], .blk b4 vc, .blk b3 [.int .i64 k, .string nm, .int .i64 num, .int .i64 tk, .slice pt tks.length ct, .int .i64 fk, .slice pf fks.length cf, .int .i64 lb, .slice p ks.length c]], x.2.2.2.2⟩) (fun x => x.1 ≤ ks.length ∧ C0 G x.2.2.2.2 ∧ D0 x.2.2.2.2 ((T5 y v ks).take x.1) x.2.2.2.1) (fun x => ks.length - x.1) (0, none, 0, [], G) ?_ ?_ ?_)
 (simp only [I5]; exact E2)
 exact A2Y
 (rintro ⟨i, pn, cn, es', Gi⟩ ⟨hi, hle, hst⟩; simp only [] at hi hle hst ⊢; replace hsl := hsl.mono hle; replace hkl := hkl.mono hle; replace hv := hv.mono hle; replace hty := hty.mono hle; replace hfr := hfr.mono hle; have hsl' := hst.len; rw [List.length_take, A1e] at hsl')
 refine A3 ?_
 refine sB (J1 rfl rfl) rfl rfl (fun h327 => ?_) (fun h327 => ?_)
 refine B2 ?_
 refine C1 ?_
 refine A3 ?_
 (have hil : i < ks.length := (by omega); obtain ⟨bx, ox, e, rfl, hl, hat, hre, hgb⟩ := hsl.kidTm hkl (i := i) (by omega) (by omega); have hel := hre.len; have heo := hre.one; refine sP (B4 (j := i) rfl rfl rfl (by omega)) rfl rfl ?_)
 refine sL (A2 rfl rfl (hat _) hl) rfl rfl ?_
 refine sE (A6 rfl) rfl (fun b340 => ?_)
 refine sS rfl rfl rfl hel heo rfl ?_ (hu := by exact D6 hel.symm)
 refine A3 ?_
 refine D7 D8 rfl ?_
 refine K7 (i := 2) (l' := [ff,ff,tt,ff,ff,ff,ff,ff,ff,ff]) rfl D1 (A2 rfl rfl (B3 (by repeat first | exact mH | apply mT)) hel) rfl (by kernel_rfl) rfl rfl ?_
 refine aL 4 rfl (A2 rfl rfl (B3 (by repeat first | exact mH | apply mT)) hvl) rfl ?_
 refine aP 0 rfl (B5 rfl) rfl ?_
 refine aL 1 rfl (C4 rfl rfl) rfl ?_
 refine aP 3 rfl (qM rfl) rfl ?_
 refine A1 5 ?_
 (refine H0 rfl rfl (ih ks[i] (List.getElem_mem (by omega)) Gi _ (Tm.smallL_mem hks _ (List.getElem_mem (by omega))) hre hv) rfl rfl rfl (fun u G1 hle1 hh => ?_); obtain ⟨uc, rfl, hru⟩ := hh; have hul := hru.len; have huo := hru.one; obtain ⟨v1, v2, v3, v4, v5, v6, v7, v8, v9, rfl⟩ := nine hul)
 refine A1 6 ?_
 (refine E3 rfl (C7 rfl rfl rfl (by omega) (by unfold maxLen; omega) rfl) rfl rfl ?_; rintro _ ⟨b353, rfl⟩)
 refine A1 7 ?_
 (refine Q6 rfl rfl rfl rfl rfl rfl (fun _ _ => by repeat (first | exact Sw.here | apply Sw.there)) (M6 (by repeat first | exact mH | apply mT)) rfl (fun u hu => List.all_eq_true.1 huo u hu) (by unfold maxLen; omega) (by omega) rfl rfl (by repeat (first | exact A7.nil | apply A7.dep (by decide +kernel) | apply A7.im (by decide +kernel) (by assumption) (by repeat first | exact mH | apply mT) | apply A7.blk (by decide +kernel) (by repeat (first | exact Pk.here | apply Pk.there)) (by repeat first | exact mH | apply mT))) (fun p7 c7 => ?_))
 refine aP 8 rfl (B5 rfl) rfl ?_
 refine A1 9 ?_
 refine Q8 rfl rfl rfl rfl rfl rfl rfl rfl (by decide +kernel) (by repeat first | exact Sw.here | apply Sw.there) (by rfl) ?_
 refine B1 ?_
 refine sP (J0 rfl rfl (by omega) (by omega)) rfl rfl ?_
 refine A3 ?_
 refine J6 (i + 1, p7, c7, es' ++ [[v1, v2, v3, v4, v5, v6, v7, v8, v9]], G1) ?_ ?_ ?_
 (simp only [I5]; exact E2)
 exact A6d
 exact U8
 refine I0 ?_
 (refine F9 (cs := es'.flatten) (by repeat (first | exact Pk.here | apply Pk.there)) (fun G2 hle2 hsl2 hno2 => ?_); obtain rfl : i = ks.length := (by omega))
 refine tT ?_
 refine M7 (rC rfl (A4 rfl rfl)) ?_
 exact A6e
theorem A1f (e : Tm) (a b : Ty) (l : Int) (G : IM) (ce ca cb : List Value) (hl : E8 l) (he : B0 G e ce) (ha : B9 G a ca) (hb : B9 G b cb) : Fn Tryz.prog 241 [.agg ⟨ce⟩, .agg ⟨ca⟩, .agg ⟨cb⟩, .int .i64 l] [] G (V4 (J7 e a b l)) := by
 have hel := he.len
 have heo := he.one
 obtain ⟨v1, v2, v3, v4, v5, v6, v7, v8, v9, rfl⟩ := nine hel
 obtain ⟨ak, aks⟩ := a
 obtain ⟨bk, bks⟩ := b
 obtain ⟨pa, cca, ea, rfl, _⟩ := ha.open
 obtain ⟨pb, ccb, eb, rfl, _⟩ := hb.open
 refine C3 Tryz.func241 rfl Tryz.ntmps241 Tryz.results241 rfl ?_
 intro w0
 refine A3 ?_
 refine sE (C8 rfl rfl) rfl (fun b3 => ?_)
 refine sE (C8 rfl rfl) rfl (fun b4 => ?_)
 refine sE (C8 rfl rfl) rfl (fun b5 => ?_)
 refine sE (A6 rfl) rfl (fun b6 => ?_)
 refine B1 ?_
 refine sL (A2 rfl rfl (B3 (by repeat first | exact mH | apply mT)) rfl) rfl rfl ?_
 refine sL (A2 rfl rfl (B3 (by repeat first | exact mH | apply mT)) rfl) rfl rfl ?_
 refine E6 ?_
 refine sL (A2 rfl rfl (B3 (by repeat first | exact mH | apply mT)) rfl) rfl rfl ?_
 (refine I7 (C7 rfl rfl rfl (by omega) (by unfold maxLen; omega) rfl) rfl ?_; rintro _ ⟨b15, rfl⟩)
 refine B1 ?_
 (refine F9 (cs := [v1, v2, v3, v4, v5, v6, v7, v8, v9]) (by repeat (first | exact Pk.here | apply Pk.there)) (fun G2 hle2 hsl2 hno2 => ?_))
 refine tT ?_
 refine M7 (rC rfl (A4 rfl rfl)) ?_
 (exact V4.mk (B0.put (us := [e]) (es := [[v1, v2, v3, v4, v5, v6, v7, v8, v9]]) ⟨by decide, by decide⟩ ⟨by decide, by decide⟩ hl (hb.mono hle2) (ha.mono hle2) rfl (D5.of hsl2 rfl (by intro x hx; obtain rfl := List.mem_singleton.1 hx; rfl) (by intro x hx; obtain rfl := List.mem_singleton.1 hx; exact heo)) (by simp only [D0]; exact ⟨_, _, rfl, he.mono hle2, rfl⟩)))
theorem A2Z (k : Int) (p : Option Addr) (n c : Nat) (G : IM) : Fn Tryz.prog 242 [.int .i64 k, .slice p n c] [] G (I3 (.agg ⟨[.int .i64 k, .string ⟨⟨[]⟩⟩, .int .i64 0, .int .i64 0, .slice none 0 0, .int .i64 0, .slice none 0 0, .int .i64 0, .slice p n c]⟩) G) := by
 refine C3 Tryz.func242 rfl Tryz.ntmps242 Tryz.results242 rfl ?_
 intro w0
 refine A3 ?_
 refine sE (A6 rfl) rfl (fun b3 => ?_)
 refine J4 ?_
 refine M7 (rC rfl (A4 rfl rfl)) ?_
 (exact ⟨rfl, rfl, rfl⟩)
theorem B3W (G : IM) {k : Int} (hk : E8 k) : B0 G (W1 k []) [.int .i64 k, .string ⟨⟨[]⟩⟩, .int .i64 0, .int .i64 0, .slice none 0 0, .int .i64 0, .slice none 0 0, .int .i64 0, .slice none 0 0] := A0E hk rfl (D5.nil _ _) rfl
theorem A4P {Q : Prop} (h : Q := by (exact V4.mk (B3W _ ⟨by decide, by decide⟩))) : Q := h
theorem B3X (G : IM) : Fn Tryz.prog 240 [.bool true] [] G (V4 (X8 (true = true))) := by
 refine C3 Tryz.func240 rfl Tryz.ntmps240 Tryz.results240 rfl ?_
 intro w0
 refine A3 ?_
 refine sE (A6 rfl) rfl (fun b3 => ?_)
 refine J4 ?_
 refine H6 rfl ((A2Z _ _ _ _ _)) rfl rfl ?_
 refine A9 ?_
 refine M7 (rC rfl (A4 rfl rfl)) ?_
 exact A4P
theorem B3Y (G : IM) : Fn Tryz.prog 240 [.bool false] [] G (V4 (X8 (false = true))) := by
 refine C3 Tryz.func240 rfl Tryz.ntmps240 Tryz.results240 rfl ?_
 intro w0
 refine A3 ?_
 refine sE (A6 rfl) rfl (fun b3 => ?_)
 refine K5 ?_
 refine H6 rfl ((A2Z _ _ _ _ _)) rfl rfl ?_
 refine B1 ?_
 refine M7 (rC rfl (A4 rfl rfl)) ?_
 exact A4P
theorem A9s (b : Bool) (G : IM) : Fn Tryz.prog 240 [.bool b] [] G (V4 (X8 (b = true))) := by
 cases b
 ·exact B3Y G
 ·exact B3X G
theorem A9t {a b : Int} (h : 0 ≤ a ∧ a ≤ 999) (h' : 0 ≤ b ∧ b ≤ 999) : (a + b).tmod 1000 = (a + b) % 1000 := by
 rw [Int.tmod_eq_emod_of_nonneg (by omega)]
def W2 (k : Int) (ks : List Tm) : Option Tm :=
 if k = 6 then (if (kd ks 0).k = 5 then some (W0 (kd ks 0).nm (kd ks 1) (kd (kd ks 0).ks 0)) else none)
 else if k = 7 ∨ k = 8 then (if (kd ks 0).k = 2 ∧ (kd ks 1).k = 2 then some (if k = 7 then A1N (((kd ks 0).num + (kd ks 1).num) % 1000) else X8 ((kd ks 0).num < (kd ks 1).num)) else none)
 else if k = 9 then (if (kd ks 0).k = 3 then some (kd ks 1) else if (kd ks 0).k = 4 then some (kd ks 2) else none)
 else if k = 11 ∨ k = 12 then (if (kd ks 0).k = 10 then some (kd (kd ks 0).ks (k - 11).toNat) else none)
 else none
def T6 (o : Option Tm) : IM → Value → List A5 → Prop := L8 fun G' v => ∃ u cells c, v = .tuple ⟨[.agg ⟨cells⟩, .int .i64 c]⟩ ∧ B0 G' u cells ∧ (∀ x, o = some x → c = 1 ∧ u = x) ∧ (o = none → c = 3)
theorem T6.yes {G : IM} {o : Option Tm} {u : Tm} {cells : List Value} (h : o = some u) (hr : B0 G u cells) : T6 o G (.tuple ⟨[.agg ⟨cells⟩, .int .i64 1]⟩) [] := by
 subst h; exact ⟨rfl, u, cells, 1, rfl, hr, fun x hx => (by cases hx; exact ⟨rfl, rfl⟩), fun h => (by cases h)⟩
theorem T6.no {G : IM} {o : Option Tm} {u : Tm} {cells : List Value} (h : o = none) (hr : B0 G u cells) : T6 o G (.tuple ⟨[.agg ⟨cells⟩, .int .i64 3]⟩) [] := by
 subst h; exact ⟨rfl, u, cells, 3, rfl, hr, fun x hx => (by cases hx), fun _ => rfl⟩
theorem O6 (G : IM) : B0 G J5 [.int .i64 0, .string ⟨⟨[]⟩⟩, .int .i64 0, .int .i64 0, .slice none 0 0, .int .i64 0, .slice none 0 0, .int .i64 0, .slice none 0 0] := (P8.zero G).R
theorem A2o {Q : Prop} (h : Q := by (exact T6.no (by rw [if_neg (by omega)]) (O6 _))) : Q := h
theorem B3Z (a b : Tm) (nm : ByteArray) (num : Int) (ty fr : Ty) (lb : Int) (G : IM) (cells : List Value) (hca : cv a) (hr : B0 G (.mk 6 nm num ty fr lb [a, b]) cells) : Fn Tryz.prog 229 [.agg ⟨cells⟩] [] G (T6 (W2 6 [a, b])) := by
 have hsm := A2h a hca
 obtain ⟨ak, anm, anum, ⟨atk, atks⟩, ⟨afk, afks⟩, alb, aks⟩ := a
 obtain ⟨tk, tks⟩ := ty
 obtain ⟨fk, fks⟩ := fr
 obtain ⟨pt, ct, pf, cf, p, c, es, rfl, hk, hnum, hlb, hty, hfr, hsl, hkl⟩ := hr.open9
 obtain ⟨bx, ox, e0, rfl, hl0, hat0, hre0, hgb0⟩ := hsl.kidTm hkl (i := 0) (by simp) (by simp)
 replace hre0 : B0 G (.mk ak anm anum (.mk atk atks) (.mk afk afks) alb aks) e0 := hre0
 obtain ⟨apt, act, apf, acf, ap, ac, aes, rfl, hak, hanum, halb, haty, hafr, hasl, hakl⟩ := hre0.open9
 obtain ⟨_, _, e1, hp1, hl1, hat1, hre1, hgb1⟩ := hsl.kidTm hkl (i := 1) (by simp) (by simp)
 cases hp1
 replace hre1 : B0 G b e1 := hre1
 have ho1 := hre1.one
 obtain ⟨hN, _⟩ := hca.node
 have hops := hN.ops
 obtain ⟨_, _, _, _, hksm⟩ := A0a.1 hsm
 have h1 : ak = 5 → aks.length = 1 := fun h => by rw [h] at hops; have : D9 5 = 1 := rfl; omega
 have hL : ([Tm.mk ak anm anum (.mk atk atks) (.mk afk afks) alb aks, b] : List Tm).length = 2 := rfl
 rw [show W2 6 [Tm.mk ak anm anum (.mk atk atks) (.mk afk afks) alb aks, b] = (if ak = 5 then some (W0 anm b (kd aks 0)) else none) from rfl]
 refine C3 Tryz.func229 rfl Tryz.ntmps229 Tryz.results229 rfl ?_
 intro w0
 refine A3 ?_
 refine sE (C8 rfl rfl) rfl (fun b3 => ?_)
 refine sE (A6 rfl) rfl (fun b4 => ?_)
 refine A8 ?_
 refine sE (A6 rfl) rfl (fun b11 => ?_)
 refine E0 ?_
 refine sP (A3h rfl rfl (by omega)) rfl rfl ?_
 refine A8 ?_
 refine sP (B4 (j := 0) rfl rfl rfl (by simp)) rfl rfl ?_
 refine sL (A2 rfl rfl (hat0 _) rfl) rfl rfl ?_
 refine J2 ?_
 refine C1 ?_
 refine A3 ?_
 refine sP (T8 rfl rfl (by omega)) rfl rfl ?_
 refine D4 ?_
 refine sB (qE rfl rfl) rfl rfl (fun h52 => ?_) (fun h52 => ?_)
 refine B1 ?_
 (have hq : ak = 5 := (by omega); have hq1 := h1 hq; obtain ⟨bq, oq, e3, rfl, hl3, hat3, hre3, hgb3⟩ := hasl.kidTm hakl (i := 0) (by omega) (by omega); have hS := B3V anm b e1 aks[0] G e3 (Tm.smallL_mem hksm _ (List.getElem_mem (by omega))) hre3 hre1; refine D7 D8 rfl ?_)
 refine I9 (i := 0) (l' := [tt,ff,ff,ff,ff,ff,ff,ff,ff,ff,ff,ff,ff]) rfl D1 (B5 rfl) rfl (by kernel_rfl) rfl rfl ?_
 refine aL 1 rfl (C4 rfl rfl) rfl ?_
 refine aP 2 rfl (B4 (j := 0) rfl rfl rfl (by omega)) rfl ?_
 refine aL 3 rfl (A2 rfl rfl (hat3 _) hl3) rfl ?_
 refine aP 4 rfl (B5 rfl) rfl ?_
 refine aL 5 rfl (C4 rfl rfl) rfl ?_
 refine aP 6 rfl (B5 rfl) rfl ?_
 refine aL 7 rfl (C4 rfl rfl) rfl ?_
 refine aP 8 rfl (B4 (j := 1) rfl rfl rfl (by simp)) rfl ?_
 refine aL 9 rfl (A2 rfl rfl (hat1 _) hl1) rfl ?_
 refine A1 10 ?_
 (refine H0 rfl rfl hS rfl rfl rfl (fun u G1 hle1 hh => ?_); obtain ⟨uc, rfl, hru⟩ := hh; have hul := hru.len; have huo := hru.one)
 refine A1 11 ?_
 (refine oS rfl rfl rfl rfl hul huo rfl rfl ?_ (hu := by exact D6 hul.symm))
 refine aP 12 rfl (qA rfl) rfl ?_
 refine A9 ?_
 refine I1 (rC rfl (A2 rfl rfl (B3 (by repeat first | exact mH | apply mT)) hul)) (rT rfl) ?_
 (exact T6.yes (by rw [if_pos (by omega)]; unfold kd; rw [List.getD_eq_getElem?_getD, List.getElem?_eq_getElem (by omega), Option.getD_some]) hru)
 refine J3 ?_
 refine I1 (rC rfl (A4 rfl rfl)) (rT rfl) ?_
 exact A2o
theorem A9u (k : Int) (a b : Tm) (nm : ByteArray) (num : Int) (ty fr : Ty) (lb : Int) (G : IM) (cells : List Value) (hk78 : k = 7 ∨ k = 8) (hca : cv a) (hcb : cv b) (hr : B0 G (.mk k nm num ty fr lb [a, b]) cells) : Fn Tryz.prog 229 [.agg ⟨cells⟩] [] G (T6 (W2 k [a, b])) := by
 obtain ⟨ak, anm, anum, ⟨atk, atks⟩, ⟨afk, afks⟩, alb, aks⟩ := a
 obtain ⟨tk, tks⟩ := ty
 obtain ⟨fk, fks⟩ := fr
 obtain ⟨pt, ct, pf, cf, p, c, es, rfl, hk, hnum, hlb, hty, hfr, hsl, hkl⟩ := hr.open9
 obtain ⟨bx, ox, e0, rfl, hl0, hat0, hre0, hgb0⟩ := hsl.kidTm hkl (i := 0) (by simp) (by simp)
 replace hre0 : B0 G (.mk ak anm anum (.mk atk atks) (.mk afk afks) alb aks) e0 := hre0
 obtain ⟨apt, act, apf, acf, ap, ac, aes, rfl, hak, hanum, halb, haty, hafr, hasl, hakl⟩ := hre0.open9
 obtain ⟨bk, bnm, bnum, ⟨btk, btks⟩, ⟨bfk, bfks⟩, blb, bks⟩ := b
 obtain ⟨_, _, e1, hp1, hl1, hat1, hre1, hgb1⟩ := hsl.kidTm hkl (i := 1) (by simp) (by simp)
 cases hp1
 replace hre1 : B0 G (.mk bk bnm bnum (.mk btk btks) (.mk bfk bfks) blb bks) e1 := hre1
 obtain ⟨bpt, bct, bpf, bcf, bp, bc, bes, rfl, hbk, hbnum, hblb, hbty, hbfr, hbsl, hbkl⟩ := hre1.open9
 obtain ⟨hN, _⟩ := hca.node
 obtain ⟨hM, _⟩ := hcb.node
 obtain ⟨hn1, hn2⟩ := hN.num0
 obtain ⟨hm1, hm2⟩ := hM.num0
 have hL : ([Tm.mk ak anm anum (.mk atk atks) (.mk afk afks) alb aks, Tm.mk bk bnm bnum (.mk btk btks) (.mk bfk bfks) blb bks] : List Tm).length = 2 := rfl
 have hR : W2 k [Tm.mk ak anm anum (.mk atk atks) (.mk afk afks) alb aks, Tm.mk bk bnm bnum (.mk btk btks) (.mk bfk bfks) blb bks] = (if ak = 2 ∧ bk = 2 then some (if k = 7 then A1N ((anum + bnum) % 1000) else X8 (anum < bnum)) else none) := by
  unfold W2; rw [if_neg (by omega), if_pos hk78]; rfl
 rw [hR]
 have htm : (anum + bnum).tmod 1000 = (anum + bnum) % 1000 := A9t ⟨hn1, hn2⟩ ⟨hm1, hm2⟩
 have hb : E8 ((anum + bnum) % 1000) := ⟨by omega, by omega⟩
 refine C3 Tryz.func229 rfl Tryz.ntmps229 Tryz.results229 rfl ?_
 intro w0
 refine A3 ?_
 refine sE (C8 rfl rfl) rfl (fun b3 => ?_)
 refine sE (A6 rfl) rfl (fun b4 => ?_)
 refine A8 ?_
 refine sE (A6 rfl) rfl (fun b11 => ?_)
 refine E0 ?_
 refine sP (A3h rfl rfl (by omega)) rfl rfl ?_
 refine A8 ?_
 refine sP (B4 (j := 0) rfl rfl rfl (by simp)) rfl rfl ?_
 refine sL (A2 rfl rfl (hat0 _) rfl) rfl rfl ?_
 refine J2 ?_
 refine C1 ?_
 refine A3 ?_
 refine sP (H9 rfl rfl (by omega)) rfl rfl ?_
 refine B2 ?_
 refine sB (qE rfl rfl) rfl rfl (fun h51 => ?_) (fun h51 => ?_)
 refine J4 ?_
 refine sP (B4 (j := 1) rfl rfl rfl (by simp)) rfl rfl ?_
 refine sL (A2 rfl rfl (hat1 _) rfl) rfl rfl ?_
 refine sE (A6 rfl) rfl (fun b65 => ?_)
 refine B6 ?_
 refine C1 ?_
 refine B1 ?_
 refine sB (N9 rfl rfl) rfl rfl (fun h74 => ?_) (fun h74 => ?_)
 refine A0r ?_
 refine I1 (rC rfl (A4 rfl rfl)) (rT rfl) ?_
 exact A2o
 refine B6 ?_
 refine sB (N9 rfl rfl) rfl rfl (fun h101 => ?_) (fun h101 => ?_)
 refine T1 ?_
 refine I1 (rC rfl (A4 rfl rfl)) (rT rfl) ?_
 exact A2o
 refine E0 ?_
 refine sP (T8 rfl rfl (by omega)) rfl rfl ?_
 refine J2 ?_
 refine sP (J0 rfl rfl (by omega) (by omega)) rfl rfl ?_
 refine sP (A3g rfl rfl (by omega)) rfl rfl ?_
 refine E6 ?_
 (rw [htm]; refine sS' ?_)
 refine B2 ?_
 refine I1 (rC rfl (A4 rfl rfl)) (rT rfl) ?_
 (exact T6.yes (u := A1N (HMod.hMod (anum + bnum) 1000)) (by rw [if_pos ⟨by omega, by omega⟩, if_pos (by omega)]) (B0.put (us := []) ⟨by decide, by decide⟩ hb ⟨by decide, by decide⟩ (A1B _) (A1B _) rfl (D5.nil _ _) rfl))
 refine A9 ?_
 refine sP (T8 rfl rfl (by omega)) rfl rfl ?_
 refine D4 ?_
 refine sP (B4 (j := 1) rfl rfl rfl (by simp)) rfl rfl ?_
 refine sL (A2 rfl rfl (hat1 _) rfl) rfl rfl ?_
 refine sE (A6 rfl) rfl (fun b170 => ?_)
 refine B6 ?_
 refine C1 ?_
 refine B1 ?_
 refine sB (N9 rfl rfl) rfl rfl (fun h179 => ?_) (fun h179 => ?_)
 refine A0r ?_
 refine I1 (rC rfl (A4 rfl rfl)) (rT rfl) ?_
 exact A2o
 refine B6 ?_
 refine sB (N9 rfl rfl) rfl rfl (fun h206 => ?_) (fun h206 => ?_)
 refine T1 ?_
 refine I1 (rC rfl (A4 rfl rfl)) (rT rfl) ?_
 exact A2o
 refine E0 ?_
 refine sP (H9 rfl rfl (by omega)) rfl rfl ?_
 refine J2 ?_
 (refine sB (J1 rfl rfl) rfl rfl (fun h246 => ?_) (fun h246 => ?_))
 (refine E7 rfl (A9s _ _) rfl rfl (fun u G1 hle1 hh => ?_); obtain ⟨uc, rfl, hru⟩ := hh; have hul := hru.len; have huo := hru.one)
 refine sS rfl rfl rfl hul huo rfl ?_ (hu := by exact D6 hul.symm)
 refine B2 ?_
 refine I1 (rC rfl (A2 rfl rfl (B3 (by repeat first | exact mH | apply mT)) hul)) (rT rfl) ?_
 (exact T6.yes (by rw [if_pos ⟨by omega, by omega⟩, if_neg (by omega)]; unfold X8; rw [if_pos (by omega), if_pos rfl]) hru)
 (refine E7 rfl (A9s _ _) rfl rfl (fun u G1 hle1 hh => ?_); obtain ⟨uc, rfl, hru⟩ := hh; have hul := hru.len; have huo := hru.one)
 refine sS rfl rfl rfl hul huo rfl ?_ (hu := by exact D6 hul.symm)
 refine B2 ?_
 refine I1 (rC rfl (A2 rfl rfl (B3 (by repeat first | exact mH | apply mT)) hul)) (rT rfl) ?_
 (exact T6.yes (by rw [if_pos ⟨by omega, by omega⟩, if_neg (by omega)]; unfold X8; rw [if_neg (by omega), if_neg (by decide)]) hru)
theorem B30 (a b c0 : Tm) (nm : ByteArray) (num : Int) (ty fr : Ty) (lb : Int) (G : IM) (cells : List Value) (hr : B0 G (.mk 9 nm num ty fr lb [a, b, c0]) cells) : Fn Tryz.prog 229 [.agg ⟨cells⟩] [] G (T6 (W2 9 [a, b, c0])) := by
 obtain ⟨ak, anm, anum, ⟨atk, atks⟩, ⟨afk, afks⟩, alb, aks⟩ := a
 obtain ⟨tk, tks⟩ := ty
 obtain ⟨fk, fks⟩ := fr
 obtain ⟨pt, ct, pf, cf, p, c, es, rfl, hk, hnum, hlb, hty, hfr, hsl, hkl⟩ := hr.open9
 obtain ⟨bx, ox, e0, rfl, hl0, hat0, hre0, hgb0⟩ := hsl.kidTm hkl (i := 0) (by simp) (by simp)
 replace hre0 : B0 G (.mk ak anm anum (.mk atk atks) (.mk afk afks) alb aks) e0 := hre0
 obtain ⟨apt, act, apf, acf, ap, ac, aes, rfl, hak, hanum, halb, haty, hafr, hasl, hakl⟩ := hre0.open9
 obtain ⟨_, _, e1, hp1, hl1, hat1, hre1, hgb1⟩ := hsl.kidTm hkl (i := 1) (by simp) (by simp)
 cases hp1
 replace hre1 : B0 G b e1 := hre1
 have ho1 := hre1.one
 obtain ⟨_, _, e2, hp2, hl2, hat2, hre2, hgb2⟩ := hsl.kidTm hkl (i := 2) (by simp) (by simp)
 cases hp2
 replace hre2 : B0 G c0 e2 := hre2
 have ho2 := hre2.one
 have hL : ([Tm.mk ak anm anum (.mk atk atks) (.mk afk afks) alb aks, b, c0] : List Tm).length = 3 := rfl
 rw [show W2 9 [Tm.mk ak anm anum (.mk atk atks) (.mk afk afks) alb aks, b, c0] = (if ak = 3 then some b else if ak = 4 then some c0 else none) from rfl]
 refine C3 Tryz.func229 rfl Tryz.ntmps229 Tryz.results229 rfl ?_
 intro w0
 refine A3 ?_
 refine sE (C8 rfl rfl) rfl (fun b3 => ?_)
 refine sE (A6 rfl) rfl (fun b4 => ?_)
 refine A8 ?_
 refine sE (A6 rfl) rfl (fun b11 => ?_)
 refine E0 ?_
 refine sP (A3h rfl rfl (by omega)) rfl rfl ?_
 refine A8 ?_
 refine sP (B4 (j := 0) rfl rfl rfl (by simp)) rfl rfl ?_
 refine sL (A2 rfl rfl (hat0 _) rfl) rfl rfl ?_
 refine J2 ?_
 refine C1 ?_
 refine A3 ?_
 refine sP (H9 rfl rfl (by omega)) rfl rfl ?_
 refine B2 ?_
 refine sP (H9 rfl rfl (by omega)) rfl rfl ?_
 refine A9 ?_
 refine sP (H9 rfl rfl (by omega)) rfl rfl ?_
 refine A8 ?_
 refine sP (T8 rfl rfl (by omega)) rfl rfl ?_
 refine J2 ?_
 refine C1 (tS (tR (sB (qE rfl rfl) rfl rfl (fun h78 => ?_) (fun h78 => ?_))))
 refine D4 ?_
 refine sP (B4 (j := 1) rfl rfl rfl (by simp)) rfl rfl ?_
 refine sL (A2 rfl rfl (hat1 _) hl1) rfl rfl ?_
 refine sS rfl rfl rfl hl1 ho1 rfl ?_ (hu := by exact D6 hl1.symm)
 refine B2 ?_
 refine I1 (rC rfl (A2 rfl rfl (B3 (by repeat first | exact mH | apply mT)) hl1)) (rT rfl) ?_
 (exact T6.yes (by rw [if_pos (by omega)]) hre1)
 refine A8 ?_
 refine sB (qE rfl rfl) rfl rfl (fun h105 => ?_) (fun h105 => ?_)
 refine D4 ?_
 refine sP (B4 (j := 2) rfl rfl rfl (by simp)) rfl rfl ?_
 refine sL (A2 rfl rfl (hat2 _) hl2) rfl rfl ?_
 refine sS rfl rfl rfl hl2 ho2 rfl ?_ (hu := by exact D6 hl2.symm)
 refine B2 ?_
 refine I1 (rC rfl (A2 rfl rfl (B3 (by repeat first | exact mH | apply mT)) hl2)) (rT rfl) ?_
 (exact T6.yes (by rw [if_neg (by omega), if_pos (by omega)]) hre2)
 refine J9 ?_
 refine I1 (rC rfl (A4 rfl rfl)) (rT rfl) ?_
 (exact T6.no (by rw [if_neg (by omega), if_neg (by omega)]) (O6 _))
theorem A9v (k : Int) (a : Tm) (nm : ByteArray) (num : Int) (ty fr : Ty) (lb : Int) (G : IM) (cells : List Value) (hk1 : k = 11 ∨ k = 12) (hca : cv a) (hr : B0 G (.mk k nm num ty fr lb [a]) cells) : Fn Tryz.prog 229 [.agg ⟨cells⟩] [] G (T6 (W2 k [a])) := by
 obtain ⟨ak, anm, anum, ⟨atk, atks⟩, ⟨afk, afks⟩, alb, aks⟩ := a
 obtain ⟨tk, tks⟩ := ty
 obtain ⟨fk, fks⟩ := fr
 obtain ⟨pt, ct, pf, cf, p, c, es, rfl, hk, hnum, hlb, hty, hfr, hsl, hkl⟩ := hr.open9
 obtain ⟨bx, ox, e0, rfl, hl0, hat0, hre0, hgb0⟩ := hsl.kidTm hkl (i := 0) (by simp) (by simp)
 replace hre0 : B0 G (.mk ak anm anum (.mk atk atks) (.mk afk afks) alb aks) e0 := hre0
 obtain ⟨apt, act, apf, acf, ap, ac, aes, rfl, hak, hanum, halb, haty, hafr, hasl, hakl⟩ := hre0.open9
 obtain ⟨hN, _⟩ := hca.node
 have hops := hN.ops
 have h2 : ak = 10 → aks.length = 2 := fun h => by rw [h] at hops; have : D9 10 = 2 := rfl; omega
 have hL : ([Tm.mk ak anm anum (.mk atk atks) (.mk afk afks) alb aks] : List Tm).length = 1 := rfl
 have hR : W2 k [Tm.mk ak anm anum (.mk atk atks) (.mk afk afks) alb aks] = (if ak = 10 then some (kd aks (k - 11).toNat) else none) := by
  unfold W2; rw [if_neg (by omega), if_neg (by omega), if_neg (by omega), if_pos hk1]; rfl
 rw [hR]
 obtain ⟨i, hi⟩ : ∃ i : Nat, (k - 11).toNat = i := ⟨_, rfl⟩
 rw [hi]
 refine C3 Tryz.func229 rfl Tryz.ntmps229 Tryz.results229 rfl ?_
 intro w0
 refine A3 ?_
 refine sE (C8 rfl rfl) rfl (fun b3 => ?_)
 refine sE (A6 rfl) rfl (fun b4 => ?_)
 refine A8 ?_
 refine sE (A6 rfl) rfl (fun b11 => ?_)
 refine E0 ?_
 refine sP (A3h rfl rfl (by omega)) rfl rfl ?_
 refine A8 ?_
 refine sP (B4 (j := 0) rfl rfl rfl (by simp)) rfl rfl ?_
 refine sL (A2 rfl rfl (hat0 _) rfl) rfl rfl ?_
 refine J2 ?_
 refine C1 ?_
 refine A3 ?_
 refine sP (H9 rfl rfl (by omega)) rfl rfl ?_
 refine B2 ?_
 refine sP (H9 rfl rfl (by omega)) rfl rfl ?_
 refine A9 ?_
 refine sP (H9 rfl rfl (by omega)) rfl rfl ?_
 refine A8 ?_
 refine sP (H9 rfl rfl (by omega)) rfl rfl ?_
 refine B2 ?_
 refine sB (qE rfl rfl) rfl rfl (fun h72 => ?_) (fun h72 => ?_)
 refine J4 ?_
 refine sB (qE rfl rfl) rfl rfl (fun h84 => ?_) (fun h84 => ?_)
 refine B1 ?_
 (have hq : ak = 10 := (by omega); have hq1 := h2 hq; obtain ⟨bq, oq, e3, rfl, hl3, hat3, hre3, hgb3⟩ := hasl.kidTm hakl (i := i) (by omega) (by omega); have ho3 := hre3.one)
 refine A9 ?_
 refine sP (O5 rfl rfl (by omega) (by omega)) rfl rfl ?_
 (rw [show (k - 11 : Int) = ((i : Nat) : Int) from (by omega)]; refine sP (B4 (j := i) rfl rfl rfl (by omega)) rfl rfl ?_)
 refine sL (A2 rfl rfl (hat3 _) hl3) rfl rfl ?_
 refine sS rfl rfl rfl hl3 ho3 rfl ?_ (hu := by exact D6 hl3.symm)
 refine A8 ?_
 refine I1 (rC rfl (A2 rfl rfl (B3 (by repeat first | exact mH | apply mT)) hl3)) (rT rfl) ?_
 (exact T6.yes (by rw [if_pos (by omega)]; unfold kd; rw [List.getD_eq_getElem?_getD, List.getElem?_eq_getElem (by omega), Option.getD_some]) hre3)
 refine J3 ?_
 refine I1 (rC rfl (A4 rfl rfl)) (rT rfl) ?_
 exact A2o
 refine A9 ?_
 refine sP (T8 rfl rfl (by omega)) rfl rfl ?_
 refine D4 ?_
 refine sB (qE rfl rfl) rfl rfl (fun h137 => ?_) (fun h137 => ?_)
 refine B1 ?_
 (have hq : ak = 10 := (by omega); have hq1 := h2 hq; obtain ⟨bq, oq, e3, rfl, hl3, hat3, hre3, hgb3⟩ := hasl.kidTm hakl (i := i) (by omega) (by omega); have ho3 := hre3.one)
 refine A9 ?_
 refine sP (O5 rfl rfl (by omega) (by omega)) rfl rfl ?_
 (rw [show (k - 11 : Int) = ((i : Nat) : Int) from (by omega)]; refine sP (B4 (j := i) rfl rfl rfl (by omega)) rfl rfl ?_)
 refine sL (A2 rfl rfl (hat3 _) hl3) rfl rfl ?_
 refine sS rfl rfl rfl hl3 ho3 rfl ?_ (hu := by exact D6 hl3.symm)
 refine A8 ?_
 refine I1 (rC rfl (A2 rfl rfl (B3 (by repeat first | exact mH | apply mT)) hl3)) (rT rfl) ?_
 (exact T6.yes (by rw [if_pos (by omega)]; unfold kd; rw [List.getD_eq_getElem?_getD, List.getElem?_eq_getElem (by omega), Option.getD_some]) hre3)
 refine J3 ?_
 refine I1 (rC rfl (A4 rfl rfl)) (rT rfl) ?_
 exact A2o
section
variable {P : Program} {Γ : L6} {K : Po} {ops : Array Oper} {env : M0} {hp : List A5} {G : IM}
theorem A0Z {H : List (Nat × Nat)} {fuel j : Nat} {listed : List Bool} {hp' : List A5} {p : Option Addr} {c el sz n : Nat} {cs : List Value} (hk : Pk hp (.slc p c el sz n cs) hp')
  (h : ∀ G', C0 G G' → Sl G' p n c sz cs → (∀ b ∈ I2 p, G b = none ∧ G' b ≠ none) → T7 P Γ ops K H fuel listed j ⟨env, hp', G'⟩) : T7 P Γ ops K H fuel listed j ⟨env, hp, G⟩ :=
 ⟨fun a w hs => let ⟨G', h1, h2, h3, h4⟩ := hs.freeze hk; (h G' h2 h3 h4).run a w h1⟩
end
theorem B9.kids {G : IM} {t : Ty} {a : Value} {p : Option Addr} {n c : Nat} (h : B9 G t [a, .slice p n c]) : ∃ es, D5 G p t.ks.length c 2 es ∧ D2 G t.ks es := by
 obtain ⟨p', c', es, he, _, h1, h2⟩ := h.open
 simp only [List.cons.injEq, Value.slice.injEq, and_true] at he
 obtain ⟨_, rfl, _, rfl⟩ := he
 exact ⟨es, h1, h2⟩
def X0 (k : Int) (ty fr : Ty) (lb : Int) (ks : List Tm) : Stp :=
 if k = 6 then
  (if N2 (kd ks 0) = true ∧ (kd ks 0).ty.k = 4 then (J7 (W1 6 [kd (kd ks 0).ks 0, J7 (kd ks 1) (kt (kd ks 0).ty.ks 0) (kt (kd ks 0).fr.ks 0) (-(kd ks 0).lb)]) (kt (kd ks 0).fr.ks 1) (kt (kd ks 0).ty.ks 1) (kd ks 0).lb, 1, 0) else P5)
 else if k = 11 ∨ k = 12 then
  (if N2 (kd ks 0) = true ∧ (kd ks 0).ty.k = 5 then (J7 (W1 k [kd (kd ks 0).ks 0]) (kt (kd ks 0).fr.ks (k - 11).toNat) (kt (kd ks 0).ty.ks (k - 11).toNat) (kd ks 0).lb, 1, 0) else P5)
 else if k = 14 then
  (if fr.k = ty.k then (kd ks 0, 1, 0)
   else if ty.k = 1 then (J7 (J7 (kd ks 0) fr (S2 fr) lb) (S2 fr) ty lb, 1, 0)
   else if S5 ty = false then (J7 (J7 (kd ks 0) fr (S2 ty) lb) (S2 ty) ty lb, 1, 0)
   else if inj (kd ks 0) = false then P5
   else if (kd ks 0).fr.k = ty.k then (kd (kd ks 0).ks 0, 1, 0)
   else (J5, 2, lb))
 else P5
theorem B31 (k : Int) (ty fr : Ty) (lb : Int) (ks : List Tm) : O2 k ty fr lb ks = match W2 k ks with | some u => (u, 1, 0) | none => X0 k ty fr lb ks := by
 unfold O2 W2 X0
 by_cases h6 : k = 6
 ·rw [if_pos h6, if_pos h6, if_pos h6]
  by_cases h : (kd ks 0).k = 5
  ·rw [if_pos h, if_pos h]
  ·rw [if_neg h, if_neg h]
 rw [if_neg h6, if_neg h6, if_neg h6]
 by_cases h7 : k = 7 ∨ k = 8
 ·rw [if_pos h7, if_pos h7]
  by_cases h : (kd ks 0).k = 2 ∧ (kd ks 1).k = 2
  ·rw [if_pos h, if_pos h]
  ·rw [if_neg h, if_neg h]; simp only; rw [if_neg (by omega), if_neg (by omega)]
 rw [if_neg h7, if_neg h7]
 by_cases h9 : k = 9
 ·rw [if_pos h9, if_pos h9]
  by_cases h : (kd ks 0).k = 3
  ·rw [if_pos h, if_pos h]
  ·rw [if_neg h, if_neg h]
   by_cases h' : (kd ks 0).k = 4
   ·rw [if_pos h', if_pos h']
   ·rw [if_neg h', if_neg h']; simp only; rw [if_neg (by omega), if_neg (by omega)]
 rw [if_neg h9, if_neg h9]
 by_cases h11 : k = 11 ∨ k = 12
 ·rw [if_pos h11, if_pos h11, if_pos h11]
  by_cases h : (kd ks 0).k = 10
  ·rw [if_pos h, if_pos h]
  ·rw [if_neg h, if_neg h]
 rw [if_neg h11, if_neg h11, if_neg h11]
def U5 (r : Stp) : IM → Value → List A5 → Prop := L8 fun G' v => ∃ u cells, v = .tuple ⟨[.agg ⟨cells⟩, .int .i64 r.2.1, .int .i64 r.2.2]⟩ ∧ B0 G' u cells ∧ (r.2.1 = 1 → u = r.1)
theorem U5.mk {G : IM} {r : Stp} {u : Tm} {cells : List Value} {c l : Int} (h : r = (u, c, l)) (hr : B0 G u cells) : U5 r G (.tuple ⟨[.agg ⟨cells⟩, .int .i64 c, .int .i64 l]⟩) [] := by
 subst h; exact ⟨rfl, u, cells, rfl, hr, fun _ => rfl⟩
theorem A1T {ks : List Tm} {i : Nat} (h : i < ks.length) : kd ks i = ks[i] := by unfold kd; rw [List.getD_eq_getElem?_getD, List.getElem?_eq_getElem h, Option.getD_some]
theorem A0G {ks : List Ty} {i : Nat} (h : i < ks.length) : kt ks i = ks[i] := by unfold kt; rw [List.getD_eq_getElem?_getD, List.getElem?_eq_getElem h, Option.getD_some]
theorem A9w {t : Ty} (h : S5 t = true) : t = S2 t := by
 unfold S5 at h
 rw [Bool.and_eq_true] at h
 exact (A0j _ _).1 h.2
theorem A9x {Q : Prop} (h : Q := by (exact U5.mk (by rw [if_pos hq, A1T (by omega), A0G (by omega), A0G (by omega), A0G (by omega), A0G (by omega)]) hrw)) : Q := h
theorem A20 {Q : Prop} (h : Q := by (exact U5.mk (by rw [if_neg (by omega)]; rfl) (O6 _))) : Q := h
theorem B32 (a b : Tm) (nm : ByteArray) (num : Int) (ty fr : Ty) (lb : Int) (G : IM) (cells : List Value) (hca : cv a) (hr : B0 G (.mk 6 nm num ty fr lb [a, b]) cells) : Fn Tryz.prog 230 [.agg ⟨cells⟩] [] G (U5 (X0 6 ty fr lb [a, b])) := by
 obtain ⟨ak, anm, anum, ⟨atk, atks⟩, ⟨afk, afks⟩, alb, aks⟩ := a
 obtain ⟨hN, hkk⟩ := hca.node
 have hops := hN.ops
 have hbl := hN.lbB
 have htyA := hN.tyA
 have hfrA := hN.frA
 rw [E5] at htyA hfrA
 have h14 : ak = 14 → aks.length = 1 := fun h => by rw [h] at hops; have : D9 14 = 1 := rfl; omega
 obtain ⟨tk, tks⟩ := ty
 obtain ⟨fk, fks⟩ := fr
 obtain ⟨pt, ct, pf, cf, p, c, es, rfl, hk, hnum, hlb, hty, hfr, hsl, hkl⟩ := hr.open9
 obtain ⟨bx, ox, e0, rfl, hl0, hat0, hre0, hgb0⟩ := hsl.kidTm hkl (i := 0) (by simp) (by simp)
 replace hre0 : B0 G (Tm.mk ak anm anum (.mk atk atks) (.mk afk afks) alb aks) e0 := hre0
 have hP : Fn Tryz.prog 106 [.agg ⟨e0⟩] [] G (I3 (.bool (decide (ak = 14 ∧ afk = atk ∧ (atk = 4 ∨ atk = 5)))) G) := A2m _ G _ hre0
 obtain ⟨apt, act, apf, acf, ap, ac, aes, rfl, hak, hanum, halb, haty, hafr, hasl, hakl⟩ := hre0.open9
 obtain ⟨tes, htS, htL⟩ := haty.kids
 obtain ⟨fes, hfS, hfL⟩ := hafr.kids
 simp only [Ty.ks] at htS htL hfS hfL
 obtain ⟨_, _, e1, hp1, hl1, hat1, hre1, hgb1⟩ := hsl.kidTm hkl (i := 1) (by simp) (by simp)
 cases hp1
 replace hre1 : B0 G b e1 := hre1
 have ho1 := hre1.one
 have hR : X0 6 (.mk tk tks) (.mk fk fks) lb [Tm.mk ak anm anum (.mk atk atks) (.mk afk afks) alb aks, b] = (if (ak = 14 ∧ afk = atk ∧ (atk = 4 ∨ atk = 5)) ∧ atk = 4 then (J7 (W1 6 [kd aks 0, J7 b (kt atks 0) (kt afks 0) (-alb)]) (kt afks 1) (kt atks 1) alb, 1, 0) else P5) := by
  unfold X0
  rw [if_pos rfl, show kd [Tm.mk ak anm anum (.mk atk atks) (.mk afk afks) alb aks, b] 0 = Tm.mk ak anm anum (.mk atk atks) (.mk afk afks) alb aks from rfl, A0F]
  simp only [decide_eq_true_eq]
  rfl
 rw [hR]
 refine C3 Tryz.func230 rfl Tryz.ntmps230 Tryz.results230 rfl ?_
 intro w0
 refine A3 ?_
 refine sE (C8 rfl rfl) rfl (fun b3 => ?_)
 refine sE (A6 rfl) rfl (fun b4 => ?_)
 refine D4 ?_
 refine sP (B4 (j := 0) rfl rfl rfl (by simp)) rfl rfl ?_
 refine sL (A2 rfl rfl (hat0 _) rfl) rfl rfl ?_
 refine sE (A6 rfl) rfl (fun b15 => ?_)
 refine B1 ?_
 refine C1 ?_
 refine B1 ?_
 refine sP (T8 rfl rfl (by omega)) rfl rfl ?_
 refine A3 ?_
 focus (by_cases hpx : (ak = 14 ∧ afk = atk ∧ (atk = 4 ∨ atk = 5)); rw [decide_eq_true hpx] at hP; rotate_left; rw [decide_eq_false hpx] at hP; rotate_left; all_goals (refine H6 rfl hP rfl rfl ?_))
 refine A9 ?_
 refine sB (qE rfl rfl) rfl rfl (fun h34 => ?_) (fun h34 => ?_)
 refine A8 ?_
 (have hq : (ak = 14 ∧ afk = atk ∧ (atk = 4 ∨ atk = 5)) ∧ atk = 4 := ⟨hpx, by omega⟩; have hq1 := h14 hq.1.1; have hq2 := htyA.1 (by omega); have hq3 := hfrA.1 (by omega); obtain ⟨bq, oq, e3, rfl, hl3, hat3, hre3, hgb3⟩ := hasl.kidTm hakl (i := 0) (by omega) (by omega); have ho3 := hre3.one; obtain ⟨b5, o5, q5, d5, rfl, hat5, hre5, hgb5⟩ := htS.kidTy htL (i := 0) (by omega) (by omega); obtain ⟨_, _, q6, d6, hp6, hat6, hre6, hgb6⟩ := htS.kidTy htL (i := 1) (by omega) (by omega); cases hp6; obtain ⟨b7, o7, q7, d7, rfl, hat7, hre7, hgb7⟩ := hfS.kidTy hfL (i := 0) (by omega) (by omega); obtain ⟨_, _, q8, d8, hp8, hat8, hre8, hgb8⟩ := hfS.kidTy hfL (i := 1) (by omega) (by omega); cases hp8; obtain ⟨x1, x2, x3, x4, x5, x6, x7, x8, x9, rfl⟩ := nine hl3; obtain ⟨y1, y2, y3, y4, y5, y6, y7, y8, y9, rfl⟩ := nine hl1; refine D7 D8 rfl ?_)
 refine I9 (i := 0) (l' := [tt,ff,ff,ff,ff,ff,ff,ff,ff,ff,ff,ff]) rfl D1 (B5 rfl) rfl (by kernel_rfl) rfl rfl ?_
 refine aL 1 rfl (C4 rfl rfl) rfl ?_
 refine aP 2 rfl (B4 (j := 0) rfl rfl rfl (by omega)) rfl ?_
 refine aL 3 rfl (A2 rfl rfl (hat3 _) rfl) rfl ?_
 refine aP 4 rfl (B5 rfl) rfl ?_
 refine aL 5 rfl (C4 rfl rfl) rfl ?_
 refine aP 6 rfl (B4 (j := 1) rfl rfl rfl (by simp)) rfl ?_
 refine aL 7 rfl (A2 rfl rfl (hat1 _) rfl) rfl ?_
 refine Q2 (j := 8) (j' := 9) (by kernel_rfl) ?_ ?_
 (refine E3 rfl (A6 rfl) rfl rfl ?_; rintro _ ⟨b51, rfl⟩)
 refine A1 9 ?_
 (refine E3 rfl (A6 rfl) rfl rfl ?_; rintro _ ⟨b53, rfl⟩)
 refine A1 10 ?_
 (refine oS rfl rfl rfl rfl rfl ho3 rfl rfl ?_ (hu := by exact D6 rfl.symm))
 refine A1 11 ?_
 (refine oS rfl rfl rfl rfl rfl ho1 rfl rfl ?_ (hu := by exact D6 rfl.symm))
 refine B6 ?_
 refine D7 D8 rfl ?_
 refine K7 (i := 0) (l' := [tt,ff,ff,ff,ff,ff,ff,ff,ff,ff,ff,ff,ff,ff,ff,ff,ff,ff,ff,ff,ff,ff,ff,ff,ff,ff,ff,ff,ff,ff,ff,ff,ff,ff]) rfl D1 (A2 rfl rfl (B3 (by repeat first | exact mH | apply mT)) rfl) rfl (by kernel_rfl) rfl rfl ?_
 refine aL 1 rfl (A2 rfl rfl (B3 (by repeat first | exact mH | apply mT)) rfl) rfl ?_
 refine aP 2 rfl (B5 rfl) rfl ?_
 refine aP 3 rfl (qF rfl) rfl ?_
 refine aL 4 rfl (C4 rfl rfl) rfl ?_
 refine aP 5 rfl (B4 (j := 0) rfl rfl rfl (by omega)) rfl ?_
 refine aL 6 rfl (A2 rfl rfl (hat5 _) rfl) rfl ?_
 refine aP 7 rfl (B5 rfl) rfl ?_
 refine aP 8 rfl (qF rfl) rfl ?_
 refine aL 9 rfl (C4 rfl rfl) rfl ?_
 refine aP 10 rfl (B4 (j := 0) rfl rfl rfl (by omega)) rfl ?_
 refine aL 11 rfl (A2 rfl rfl (hat7 _) rfl) rfl ?_
 refine aP 12 rfl (B5 rfl) rfl ?_
 refine aL 13 rfl (C4 rfl rfl) rfl ?_
 refine aP 14 rfl (A1Z rfl (by omega) (by omega)) rfl ?_
 refine aP 18 rfl (B5 rfl) rfl ?_
 refine aP 19 rfl (qF rfl) rfl ?_
 refine aL 20 rfl (C4 rfl rfl) rfl ?_
 refine aP 21 rfl (B4 (j := 1) rfl rfl rfl (by omega)) rfl ?_
 refine aL 22 rfl (A2 rfl rfl (hat8 _) rfl) rfl ?_
 refine aP 23 rfl (B5 rfl) rfl ?_
 refine aP 24 rfl (qF rfl) rfl ?_
 refine aL 25 rfl (C4 rfl rfl) rfl ?_
 refine aP 26 rfl (B4 (j := 1) rfl rfl rfl (by omega)) rfl ?_
 refine aL 27 rfl (A2 rfl rfl (hat6 _) rfl) rfl ?_
 refine aP 28 rfl (B5 rfl) rfl ?_
 refine aL 29 rfl (C4 rfl rfl) rfl ?_
 refine A1 15 ?_
 (refine H0 rfl rfl (A1f b atks[0] afks[0] (-alb) G _ _ _ ⟨by omega, by omega⟩ hre1 hre5 hre7) rfl rfl rfl (fun u G1 hle1 hh => ?_); obtain ⟨uc, rfl, hru⟩ := hh; have hul := hru.len; have huo := hru.one; obtain ⟨z1, z2, z3, z4, z5, z6, z7, z8, z9, rfl⟩ := nine hul; replace hre3 := hre3.mono hle1; replace hre6 := hre6.mono hle1; replace hre8 := hre8.mono hle1)
 refine A1 16 ?_
 (refine E3 rfl (C7 rfl rfl rfl (by omega) (by unfold maxLen; omega) rfl) rfl rfl ?_; rintro _ ⟨b92, rfl⟩)
 refine A1 17 ?_
 (refine A0Z (cs := [x1, x2, x3, x4, x5, x6, x7, x8, x9, z1, z2, z3, z4, z5, z6, z7, z8, z9]) (by repeat (first | exact Pk.here | apply Pk.there)) (fun G2 hle2 hsl2 hno2 => ?_); have hrN := A0E (k := 6) (ks := [aks[0], J7 b atks[0] afks[0] (-alb)]) (es := [[x1, x2, x3, x4, x5, x6, x7, x8, x9], [z1, z2, z3, z4, z5, z6, z7, z8, z9]]) ⟨by decide, by decide⟩ rfl (D5.of hsl2 rfl (by simp) (by intro x hx; rcases List.mem_cons.1 hx with rfl | hx; exact ho3; obtain rfl := List.mem_singleton.1 hx; exact huo)) (by simp only [D0]; exact ⟨_, _, rfl, hre3.mono hle2, _, _, rfl, hru.mono hle2, rfl⟩); replace hre6 := hre6.mono hle2; replace hre8 := hre8.mono hle2; refine M8 rfl rfl (A2Z _ _ _ _ _) rfl rfl rfl ?_)
 refine A1 30 ?_
 (refine H0 rfl rfl (A1f _ afks[1] atks[1] alb G2 _ _ _ ⟨by omega, by omega⟩ hrN hre8 hre6) rfl rfl rfl (fun u G3 hle3 hh => ?_); obtain ⟨wc, rfl, hrw⟩ := hh; have hwl := hrw.len; have hwo := hrw.one)
 refine A1 31 ?_
 (refine oS rfl rfl rfl rfl hwl hwo rfl rfl ?_ (hu := by exact D6 hwl.symm))
 refine aP 32 rfl (qA rfl) rfl ?_
 refine aP 33 rfl (qA rfl) rfl ?_
 refine A9 ?_
 refine C9 (rC rfl (A2 rfl rfl (B3 (by repeat first | exact mH | apply mT)) hwl)) (rT rfl) (rT rfl) ?_
 exact A9x
 (refine E3 rfl (A6 rfl) rfl rfl ?_; rintro _ ⟨b108, rfl⟩)
 refine A1 8 ?_
 (refine E3 rfl (A6 rfl) rfl rfl ?_; rintro _ ⟨b110, rfl⟩)
 refine A1 10 ?_
 (refine oS rfl rfl rfl rfl rfl ho3 rfl rfl ?_ (hu := by exact D6 rfl.symm))
 refine A1 11 ?_
 (refine oS rfl rfl rfl rfl rfl ho1 rfl rfl ?_ (hu := by exact D6 rfl.symm))
 refine B6 ?_
 refine D7 D8 rfl ?_
 refine K7 (i := 0) (l' := [tt,ff,ff,ff,ff,ff,ff,ff,ff,ff,ff,ff,ff,ff,ff,ff,ff,ff,ff,ff,ff,ff,ff,ff,ff,ff,ff,ff,ff,ff,ff,ff,ff,ff]) rfl D1 (A2 rfl rfl (B3 (by repeat first | exact mH | apply mT)) rfl) rfl (by kernel_rfl) rfl rfl ?_
 refine aL 1 rfl (A2 rfl rfl (B3 (by repeat first | exact mH | apply mT)) rfl) rfl ?_
 refine aP 2 rfl (B5 rfl) rfl ?_
 refine aP 3 rfl (qF rfl) rfl ?_
 refine aL 4 rfl (C4 rfl rfl) rfl ?_
 refine aP 5 rfl (B4 (j := 0) rfl rfl rfl (by omega)) rfl ?_
 refine aL 6 rfl (A2 rfl rfl (hat5 _) rfl) rfl ?_
 refine aP 7 rfl (B5 rfl) rfl ?_
 refine aP 8 rfl (qF rfl) rfl ?_
 refine aL 9 rfl (C4 rfl rfl) rfl ?_
 refine aP 10 rfl (B4 (j := 0) rfl rfl rfl (by omega)) rfl ?_
 refine aL 11 rfl (A2 rfl rfl (hat7 _) rfl) rfl ?_
 refine aP 12 rfl (B5 rfl) rfl ?_
 refine aL 13 rfl (C4 rfl rfl) rfl ?_
 refine aP 14 rfl (A1Z rfl (by omega) (by omega)) rfl ?_
 refine aP 18 rfl (B5 rfl) rfl ?_
 refine aP 19 rfl (qF rfl) rfl ?_
 refine aL 20 rfl (C4 rfl rfl) rfl ?_
 refine aP 21 rfl (B4 (j := 1) rfl rfl rfl (by omega)) rfl ?_
 refine aL 22 rfl (A2 rfl rfl (hat8 _) rfl) rfl ?_
 refine aP 23 rfl (B5 rfl) rfl ?_
 refine aP 24 rfl (qF rfl) rfl ?_
 refine aL 25 rfl (C4 rfl rfl) rfl ?_
 refine aP 26 rfl (B4 (j := 1) rfl rfl rfl (by omega)) rfl ?_
 refine aL 27 rfl (A2 rfl rfl (hat6 _) rfl) rfl ?_
 refine aP 28 rfl (B5 rfl) rfl ?_
 refine aL 29 rfl (C4 rfl rfl) rfl ?_
 refine A1 15 ?_
 (refine H0 rfl rfl (A1f b atks[0] afks[0] (-alb) G _ _ _ ⟨by omega, by omega⟩ hre1 hre5 hre7) rfl rfl rfl (fun u G1 hle1 hh => ?_); obtain ⟨uc, rfl, hru⟩ := hh; have hul := hru.len; have huo := hru.one; obtain ⟨z1, z2, z3, z4, z5, z6, z7, z8, z9, rfl⟩ := nine hul; replace hre3 := hre3.mono hle1; replace hre6 := hre6.mono hle1; replace hre8 := hre8.mono hle1)
 refine A1 16 ?_
 (refine E3 rfl (C7 rfl rfl rfl (by omega) (by unfold maxLen; omega) rfl) rfl rfl ?_; rintro _ ⟨b149, rfl⟩)
 refine A1 17 ?_
 (refine A0Z (cs := [x1, x2, x3, x4, x5, x6, x7, x8, x9, z1, z2, z3, z4, z5, z6, z7, z8, z9]) (by repeat (first | exact Pk.here | apply Pk.there)) (fun G2 hle2 hsl2 hno2 => ?_); have hrN := A0E (k := 6) (ks := [aks[0], J7 b atks[0] afks[0] (-alb)]) (es := [[x1, x2, x3, x4, x5, x6, x7, x8, x9], [z1, z2, z3, z4, z5, z6, z7, z8, z9]]) ⟨by decide, by decide⟩ rfl (D5.of hsl2 rfl (by simp) (by intro x hx; rcases List.mem_cons.1 hx with rfl | hx; exact ho3; obtain rfl := List.mem_singleton.1 hx; exact huo)) (by simp only [D0]; exact ⟨_, _, rfl, hre3.mono hle2, _, _, rfl, hru.mono hle2, rfl⟩); replace hre6 := hre6.mono hle2; replace hre8 := hre8.mono hle2; refine M8 rfl rfl (A2Z _ _ _ _ _) rfl rfl rfl ?_)
 refine A1 30 ?_
 (refine H0 rfl rfl (A1f _ afks[1] atks[1] alb G2 _ _ _ ⟨by omega, by omega⟩ hrN hre8 hre6) rfl rfl rfl (fun u G3 hle3 hh => ?_); obtain ⟨wc, rfl, hrw⟩ := hh; have hwl := hrw.len; have hwo := hrw.one)
 refine A1 31 ?_
 (refine oS rfl rfl rfl rfl hwl hwo rfl rfl ?_ (hu := by exact D6 hwl.symm))
 refine aP 32 rfl (qA rfl) rfl ?_
 refine aP 33 rfl (qA rfl) rfl ?_
 refine A9 ?_
 refine C9 (rC rfl (A2 rfl rfl (B3 (by repeat first | exact mH | apply mT)) hwl)) (rT rfl) (rT rfl) ?_
 exact A9x
 refine E0 ?_
 refine sP (H9 rfl rfl (by omega)) rfl rfl ?_
 refine B6 ?_
 refine sP (H9 rfl rfl (by omega)) rfl rfl ?_
 refine A0h ?_
 refine sP (W6 rfl rfl (by omega)) rfl rfl ?_
 refine I0 ?_
 refine C9 (rC rfl (A4 rfl rfl)) (rT rfl) (rT rfl) ?_
 exact A20
 refine I0 ?_
 refine sP (H9 rfl rfl (by omega)) rfl rfl ?_
 refine B6 ?_
 refine sP (H9 rfl rfl (by omega)) rfl rfl ?_
 refine A0h ?_
 refine sP (W6 rfl rfl (by omega)) rfl rfl ?_
 refine I0 ?_
 refine C9 (rC rfl (A4 rfl rfl)) (rT rfl) (rT rfl) ?_
 exact A20
end Gw
end Go.Proofs.YtebfignffjhnhaaGreatDoor
