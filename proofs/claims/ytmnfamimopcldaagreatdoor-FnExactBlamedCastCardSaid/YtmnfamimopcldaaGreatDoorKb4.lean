/-
  What a node wants of its operands. The type of a term with casts. castType and CastTypeOf compute the type of a term with casts. ReplaceAt: the program's and the reference model's. Nodes at paths, in plain words: paths concatenate. Replacing a node, in plain words: what is put is found, and putting back undoes. A closed term's type is its type everywhere; a node replaced by one of its type leaves the type. Casts put into a term, in plain words. The reference's types are those of the insertion. Terms with casts: what a type says of a node. A function that only reads may be handed an own slice. The program's evaluator: proxies, injections, values, casts. The program's evaluator: values, casts, nodes. The program's evaluator: replacing a name, casts, nodes. The program's evaluator: casts, nodes, the rules without casts. The program's evaluator: the rules of casts.
-/
import Derived.Test.YtmnfamimopcldaaGreatDoorKb3
import Derived.Test.YtmnfamimopcldaaGreatDoorKb2
import Derived.Test.YtmnfamimopcldaaGreatDoorKb0
import Derived.Test.YtmnfamimopcldaaGreatDoorKb1
set_option linter.unusedVariables false
set_option linter.unusedSimpArgs false
set_option maxHeartbeats 0
set_option maxRecDepth 100000
set_option synthInstance.maxSize 4000
set_option synthInstance.maxHeartbeats 0
namespace Go.Proofs.YtmnfamimopcldaaGreatDoor
open Go Go.RowKit
namespace Gw
theorem SlE.kidD {G : IM} {p : Option Addr} {n c : Nat} {es : List (List Value)} {ks : List Ty} (h : SlE G p n c 2 es) (hk : RTyL G ks es) {i : Nat} (hi : i < n) (hn : i < ks.length) :
  ∃ b o q d, p = some ⟨b, o, none⟩ ∧ (∀ hp, At hp G b (o + i * 2) [.int .i64 (ks.getD i ty0).k, .slice q (ks.getD i ty0).ks.length d]) ∧ RTy G (ks.getD i ty0) [.int .i64 (ks.getD i ty0).k, .slice q (ks.getD i ty0).ks.length d] ∧ G b ≠ none := by
 obtain ⟨b, o, q, d, h1, h2, h3, h4⟩ := h.kidTy hk hi hn
 rw [List.getD_eq_getElem?_getD, List.getElem?_eq_getElem hn, Option.getD_some]
 exact ⟨b, o, q, d, h1, h2, h3, h4⟩
theorem getD_ar {hs : List Ty} (h : ∀ t ∈ hs, tAr t) {i : Nat} (hi : i < hs.length) : tAr (hs.getD i ty0) := by
 rw [List.getD_eq_getElem?_getD, List.getElem?_eq_getElem hi, Option.getD_some]
 exact h _ (List.getElem_mem hi)
/-- What a node wants, and its type. -/
def WtP (r : Option (List Ty × Ty)) (G : IM) : IM → Value → List Ent → Prop := Imm fun G' v => ∃ p n c es w cu u, v = .tuple ⟨[.slice p n c, .agg ⟨cu⟩, .bool r.isSome]⟩ ∧ n = w.length ∧ SlE G' p n c 2 es ∧ RTyL G' w es ∧ RTy G' u cu ∧ ∀ q, r = some q → q = (w, u)
theorem WtP.mk {r : Option (List Ty × Ty)} {G G' : IM} {p : Option Addr} {n c : Nat} {es : List (List Value)} {w : List Ty} {cu : List Value} {u : Ty} {b : Bool} (hl : n = w.length) (hs : Sl G' p n c 2 es.flatten) (hw : RTyL G' w es) (hu : RTy G' u cu) (h : r = if b = true then some (w, u) else none) :
  WtP r G G' (.tuple ⟨[.slice p n c, .agg ⟨cu⟩, .bool b]⟩) [] := by
 refine ⟨rfl, p, n, c, es, w, cu, u, ?_, hl, SlE.of hs (by rw [hw.len, hl]) hw.all (fun e he => (hw.each e he).2), hw, hu, ?_⟩
 ·subst h; cases b <;> rfl
 ·subst h; cases b
  ·simp
  ·intro q hq; simpa using hq.symm
theorem WtP.nil {r : Option (List Ty × Ty)} {G G' : IM} {cu : List Value} {u : Ty} {b : Bool} (hu : RTy G' u cu) (h : r = if b = true then some ([], u) else none) :
  WtP r G G' (.tuple ⟨[.slice none 0 0, .agg ⟨cu⟩, .bool b]⟩) [] := WtP.mk (es := []) rfl (Sl.nil _ _) (by simp [RTyL]) hu h
theorem WtP.one {r : Option (List Ty × Ty)} {G G' : IM} {p : Option Addr} {c : Nat} {a : Ty} {ca : List Value} {cu : List Value} {u : Ty} {b : Bool} (hs : Sl G' p 1 c 2 ca) (ha : RTy G' a ca) (hu : RTy G' u cu) (h : r = if b = true then some ([a], u) else none) :
  WtP r G G' (.tuple ⟨[.slice p 1 c, .agg ⟨cu⟩, .bool b]⟩) [] := WtP.mk (es := [ca]) (w := [a]) rfl (by simpa using hs) ⟨_, _, rfl, ha, rfl⟩ hu h
theorem WtP.two {r : Option (List Ty × Ty)} {G G' : IM} {p : Option Addr} {c : Nat} {a a2 : Ty} {ca ca2 : List Value} {cu : List Value} {u : Ty} {b : Bool} (hs : Sl G' p 2 c 2 (ca ++ ca2)) (ha : RTy G' a ca) (ha2 : RTy G' a2 ca2) (hu : RTy G' u cu) (h : r = if b = true then some ([a, a2], u) else none) :
  WtP r G G' (.tuple ⟨[.slice p 2 c, .agg ⟨cu⟩, .bool b]⟩) [] := WtP.mk (es := [ca, ca2]) (w := [a, a2]) rfl (by simpa using hs) ⟨_, _, rfl, ha, _, _, rfl, ha2, rfl⟩ hu h
theorem WtP.three {r : Option (List Ty × Ty)} {G G' : IM} {p : Option Addr} {c : Nat} {a a2 a3 : Ty} {ca ca2 ca3 : List Value} {cu : List Value} {u : Ty} {b : Bool} (hs : Sl G' p 3 c 2 (ca ++ (ca2 ++ ca3))) (ha : RTy G' a ca) (ha2 : RTy G' a2 ca2) (ha3 : RTy G' a3 ca3) (hu : RTy G' u cu) (h : r = if b = true then some ([a, a2, a3], u) else none) :
  WtP r G G' (.tuple ⟨[.slice p 3 c, .agg ⟨cu⟩, .bool b]⟩) [] := WtP.mk (es := [ca, ca2, ca3]) (w := [a, a2, a3]) rfl (by simpa using hs) ⟨_, _, rfl, ha, _, _, rfl, ha2, _, _, rfl, ha3, rfl⟩ hu h
section
variable {cx : Cx} {nm : ByteArray} {ty : Ty} {h : List Ty}
theorem mW1 : mWanted cx 1 nm ty h = match mLook cx nm with | some t => some ([], t) | none => none := rfl
theorem mW2 : mWanted cx 2 nm ty h = some ([], tyInt) := rfl
theorem mW34 {k : Int} (hk : k = 3 ∨ k = 4) : mWanted cx k nm ty h = some ([], tyBool) := by rcases hk with rfl | rfl <;> rfl
theorem mW5 : mWanted cx 5 nm ty h = some ([], .mk 4 [ty, h.getD 0 ty0]) := rfl
theorem mW6 : mWanted cx 6 nm ty h = match mMatch 4 (h.getD 0 ty0) with | some (a, b) => if tCons (h.getD 1 ty0) a = true then some ([.mk 4 [a, b], a], b) else none | none => none := rfl
theorem mW78 {k : Int} (hk : k = 7 ∨ k = 8) : mWanted cx k nm ty h = if tCons (h.getD 0 ty0) tyInt = true ∧ tCons (h.getD 1 ty0) tyInt = true then some ([tyInt, tyInt], if k = 8 then tyBool else tyInt) else none := by rcases hk with rfl | rfl <;> rfl
theorem mW9 : mWanted cx 9 nm ty h = if tCons (h.getD 0 ty0) tyBool = true ∧ tCons (h.getD 1 ty0) (h.getD 2 ty0) = true then some ([tyBool, mMeet (h.getD 1 ty0) (h.getD 2 ty0), mMeet (h.getD 1 ty0) (h.getD 2 ty0)], mMeet (h.getD 1 ty0) (h.getD 2 ty0)) else none := rfl
theorem mW10 : mWanted cx 10 nm ty h = some ([], .mk 5 [h.getD 0 ty0, h.getD 1 ty0]) := rfl
theorem mW13 : mWanted cx 13 nm ty h = if tCons (h.getD 0 ty0) ty = true then some ([ty], ty) else none := rfl
theorem mW11 {k : Int} (hk : k = 11 ∨ k = 12) : mWanted cx k nm ty h = match mMatch 5 (h.getD 0 ty0) with | some (a, b) => some ([.mk 5 [a, b]], if k = 12 then b else a) | none => none := by rcases hk with rfl | rfl <;> rfl
end
theorem tyInt_r (G : IM) : RTy G tyInt [.int .i64 2, .slice none 0 0] := tyLeaf_r G ⟨by omega, by omega⟩
theorem tyBool_r (G : IM) : RTy G tyBool [.int .i64 3, .slice none 0 0] := tyLeaf_r G ⟨by omega, by omega⟩
theorem wanted_fn (cx : Cx) (k : Int) (nm : ByteArray) (num : Int) (ty fr : Ty) (lb : Int) (ks : List Tm) (h : List Ty) (G : IM) (pc : Option Addr) (nc cc : Nat) (cells : List Value) (p : Option Addr) (n c : Nat) (es : List (List Value))
  (hx : RCx G cx pc nc cc) (hops : tmOps k = n) (hnl : n = h.length) (hk14 : k ≠ 14) (hta : tAr ty) (hr : RTm G (.mk k nm num ty fr lb ks) cells) (hsl : SlE G p n c 2 es) (hkl : RTyL G h es) (har : ∀ t ∈ h, tAr t) :
  Fn Tryz.prog 89 [.slice pc nc cc, .agg ⟨cells⟩, .slice p n c] [] G (WtP (mWanted cx k nm ty h) G) := by
 have hone := hr.one
 have hop := tm_ops hops
 have hkr : 1 ≤ k ∧ k ≤ 14 := by
  apply Classical.byContradiction
  intro hc
  rw [tmOps_no hc] at hops; omega
 obtain ⟨tyk, tyks⟩ := ty
 obtain ⟨fk, fks⟩ := fr
 obtain ⟨pt, ct, pf, cf, pk, ck, ek, rfl, hk, hnum, hlb, hrty, hrfr, _, _⟩ := hr.open9
 refine fn_enter Tryz.func89 rfl Tryz.ntmps89 Tryz.results89 rfl ?_
 intro w0
 refine tS (tR ?_)
 refine sE (step_box_a rfl rfl) rfl (fun b3 => ?_)
 refine sQ (pA rfl) rfl ?_
 refine sE (step_alloc rfl) rfl (fun b5 => ?_)
 refine sQ (pA rfl) rfl (sD (nS (tS (tR (seq_val rfl ((base_fn _ _)) rfl rfl ?_)))))
 refine seq_val rfl ((base_fn _ _)) rfl rfl ?_
 refine sE (step_alloc rfl) rfl (fun b13 => ?_)
 refine sE (step_alloc rfl) rfl (fun b14 => ?_)
 refine sS' ?_
 refine sS' ?_
 refine sD (nS (tS (tS (tR (sQ (pF0 rfl) rfl (sL (lBs rfl rfl) rfl rfl ?_))))))
 refine sD (nS (tri_block (tS (tR (sB (pE rfl rfl) rfl rfl (fun h29 => ?_) (fun h29 => ?_))))))
 refine sQ (pA rfl) rfl (sD (nS (cT rfl ?_)))
 refine tS (tR (sQ (pM rfl) rfl (sQ (pF0 rfl) rfl (sL (lBs rfl rfl) rfl rfl ?_))))
 (refine seq_imm rfl (lookup_fn G cx pc nc cc nm hx) rfl rfl (fun v G1 hle1 hh => ?_); obtain ⟨cu, u, rfl, hru, hu⟩ := hh; obtain ⟨p1, c1, e1, rfl, _⟩ := hru.open)
 refine sQ (pM rfl) rfl (sQ (pX rfl rfl) rfl (sQ (pX rfl rfl) rfl ?_))
 refine sE (step_alloc rfl) rfl (fun b43 => ?_)
 refine sS' ?_
 refine sQ (pA rfl) rfl (sD (nS (tS (tri_draw mixed rfl ?_))))
 refine any_load (i := 0) (l' := [tt,ff,ff,ff,ff]) rfl npI (lBa rfl rfl) rfl (by kernel_rfl) rfl rfl ?_
 refine aP 1 rfl (pM rfl) rfl ?_
 refine aP 2 rfl (pA rfl) rfl ?_
 refine aO' 3 ?_
 refine oT' rfl ?_
 refine aP 4 rfl (pA rfl) rfl ?_
 refine aD' ?_
 refine nS (tT (rB (rS (rF3 (rT rfl) (rC rfl (lBa rfl rfl)) (rT rfl) ?_))))
 (have hk1 : k = 1 := (by omega); subst hk1; rw [mW1]; refine WtP.nil hru ?_; generalize mLook cx nm = r at hu ⊢; cases r with | none => rfl | some t => (rw [hu t rfl]; rfl))
 refine sQ (pA rfl) rfl (sD (nS (cF rfl ?_)))
 refine tS (tR (sB (pE rfl rfl) rfl rfl (fun h69 => ?_) (fun h69 => ?_)))
 refine sQ (pA rfl) rfl (sD (nS (cT rfl ?_)))
 refine tS (tri_draw mixed rfl ?_)
 refine any_load (i := 0) (l' := [tt,ff,ff,ff]) rfl npI (lBa rfl rfl) rfl (by kernel_rfl) rfl rfl ?_
 refine aP 1 rfl (pA rfl) rfl ?_
 refine aO' 2 ?_
 refine oT' rfl ?_
 refine aP 3 rfl (pA rfl) rfl ?_
 refine aD' ?_
 refine nS (tT (rB (rS (rF3 (rT rfl) (rC rfl (lBa rfl rfl)) (rT rfl) ?_))))
 (have hk1 : k = 2 := (by omega); subst hk1; exact WtP.nil (tyInt_r _) mW2)
 refine sQ (pA rfl) rfl (sD (nS (cF rfl ?_)))
 refine tS (tS (tR (sB (pE rfl rfl) rfl rfl (fun h95 => ?_) (fun h95 => ?_))))
 refine sQ (pA rfl) rfl (sD (nS (cT rfl ?_)))
 refine tK (nS (cT rfl ?_))
 refine tS (tri_draw mixed rfl ?_)
 refine any_load (i := 0) (l' := [tt,ff,ff,ff]) rfl npI (lBa rfl rfl) rfl (by kernel_rfl) rfl rfl ?_
 refine aP 1 rfl (pA rfl) rfl ?_
 refine aO' 2 ?_
 refine oT' rfl ?_
 refine aP 3 rfl (pA rfl) rfl ?_
 refine aD' ?_
 refine nS (tT (rB (rS (rF3 (rT rfl) (rC rfl (lBa rfl rfl)) (rT rfl) ?_))))
 (exact WtP.nil (tyBool_r _) (by rw [mW34 (by omega)]; rfl))
 refine sQ (pA rfl) rfl (sD (nS (cF rfl ?_)))
 refine tR (sB (pE rfl rfl) rfl rfl (fun h122 => ?_) (fun h122 => ?_))
 refine sQ (pA rfl) rfl (sD (nS (cT rfl ?_)))
 refine tS (tri_draw mixed rfl ?_)
 refine any_load (i := 0) (l' := [tt,ff,ff,ff]) rfl npI (lBa rfl rfl) rfl (by kernel_rfl) rfl rfl ?_
 refine aP 1 rfl (pA rfl) rfl ?_
 refine aO' 2 ?_
 refine oT' rfl ?_
 refine aP 3 rfl (pA rfl) rfl ?_
 refine aD' ?_
 refine nS (tT (rB (rS (rF3 (rT rfl) (rC rfl (lBa rfl rfl)) (rT rfl) ?_))))
 (exact WtP.nil (tyBool_r _) (by rw [mW34 (by omega)]; rfl))
 refine sQ (pA rfl) rfl (sD (nS (cF rfl ?_)))
 refine tS (tR (sB (pE rfl rfl) rfl rfl (fun h147 => ?_) (fun h147 => ?_)))
 refine sQ (pA rfl) rfl (sD (nS (cT rfl ?_)))
 refine tS ?_
 (have hl1 : n = 1 := hop.2.2 (by omega); obtain ⟨b0, o0, q0, d0, hp0, hat0, hre0, hg0⟩ := hsl.kidD hkl (i := 0) (by omega) (by omega); cases hp0; refine tri_draw mixed rfl ?_)
 refine any_pure (i := 0) (l' := [tt,ff,ff,ff,ff,ff,ff,ff,ff]) rfl npI (pF0 rfl) rfl (by kernel_rfl) rfl rfl ?_
 refine aL 1 rfl (lBa rfl rfl) rfl ?_
 refine aP 2 rfl (pM rfl) rfl ?_
 refine aP 3 rfl (pIN (j := 0) rfl rfl rfl (by omega)) rfl ?_
 refine aL 4 rfl (load_a rfl rfl (hat0 _) rfl) rfl ?_
 refine aO' 5 ?_
 (refine one_imm rfl rfl (both_fn 4 _ _ _ _ _ ⟨by omega, by omega⟩ hrty hre0) rfl rfl rfl (fun v GB hleB hh => ?_); obtain ⟨cB, rfl, hrB⟩ := hh; obtain ⟨p7, c7, e7, rfl, _⟩ := hrB.open)
 refine aP 6 rfl (pA rfl) rfl ?_
 refine aO' 7 ?_
 refine oT' rfl ?_
 refine aP 8 rfl (pA rfl) rfl ?_
 refine aD' ?_
 refine nS (tT (rB (rS (rF3 (rT rfl) (rC rfl (lBa rfl rfl)) (rT rfl) ?_))))
 (have hk1 : k = 5 := (by omega); subst hk1; exact WtP.nil hrB mW5)
 refine sQ (pA rfl) rfl (sD (nS (cF rfl ?_)))
 refine tS (tR (sB (pE rfl rfl) rfl rfl (fun h178 => ?_) (fun h178 => ?_)))
 refine sQ (pA rfl) rfl (sD (nS (cT rfl ?_)))
 refine tS (tR (sQ (pM rfl) rfl ?_))
 (have hl2 : n = 2 := hop.1 (by omega); obtain ⟨b0, o0, q0, d0, hp0, hat0, hre0, hg0⟩ := hsl.kidD hkl (i := 0) (by omega) (by omega); cases hp0; refine sP (pIN (j := 0) rfl rfl rfl (by omega)) rfl rfl ?_)
 refine sL (load_a rfl rfl (hat0 _) rfl) rfl rfl ?_
 (refine seq_imm rfl (match_fn 4 (h.getD 0 ty0) G _ (.inl rfl) (getD_ar har (by omega)) hre0) rfl rfl (fun v G1 hle1 hh => ?_); obtain ⟨ma, mca, mb, mcb, rfl, hma, hmb, hma2, hmb2, hmm⟩ := hh; obtain ⟨p1, c1, e1, rfl, _⟩ := hma.open; obtain ⟨p2, c2, e2, rfl, _⟩ := hmb.open; replace hsl := hsl.mono hle1; replace hkl := hkl.mono hle1; generalize hmi : (mMatch 4 (h.getD 0 ty0)).isSome = mi; cases mi)
 refine sQ (pM rfl) rfl (sQ (pX rfl rfl) rfl (sQ (pX rfl rfl) rfl (sQ (pX rfl rfl) rfl ?_)))
 refine sE (step_alloc rfl) rfl (fun b193 => ?_)
 refine sE (step_alloc rfl) rfl (fun b194 => ?_)
 refine sS' ?_
 refine sS' ?_
 refine sQ (pA rfl) rfl (sD (nS (tS ?_)))
 (have hl2 : n = 2 := hop.1 (by omega); obtain ⟨b0, o0, q0, d0, hp0, hat0, hre0, hg0⟩ := hsl.kidD hkl (i := 0) (by omega) (by omega); obtain ⟨b1, o1, q1, d1, hp1, hat1, hre1, hg1⟩ := hsl.kidD hkl (i := 1) (by omega) (by omega); cases hp0; cases hp1; refine tri_draw mixed rfl ?_)
 refine any_load (i := 0) (l' := [tt,ff,ff,ff,ff,ff,ff,ff,ff,ff,ff,ff,ff,ff,ff,ff,ff]) rfl npI (lBa rfl rfl) rfl (by kernel_rfl) rfl rfl ?_
 refine aL 1 rfl (lBa rfl rfl) rfl ?_
 refine aL 3 rfl (lBa rfl rfl) rfl ?_
 refine aL 5 rfl (lBa rfl rfl) rfl ?_
 refine aP 6 rfl (pM rfl) rfl ?_
 refine aO' 2 ?_
 (refine one_imm rfl rfl (both_fn _ ma mb _ _ _ ⟨by omega, by omega⟩ hma hmb) rfl rfl rfl (fun v GB hleB hh => ?_); obtain ⟨cB, rfl, hrB⟩ := hh; obtain ⟨p7, c7, e7, rfl, _⟩ := hrB.open; have hma' := hma.mono hleB; have hmb' := hmb.mono hleB)
 refine aP 7 rfl (pM rfl) rfl ?_
 refine aK' 8 rfl rfl rfl ?_
 refine aK' 9 rfl rfl rfl ?_
 refine aK' 10 rfl rfl rfl ?_
 refine aK' 11 rfl rfl rfl ?_
 refine any_two (j := 4) (j' := 12) (by kernel_rfl) ?_ ?_
 (refine one_step0 rfl (step_buildSlice rfl rfl rfl (by omega) (by unfold maxLen; omega) rfl) rfl rfl ?_; rintro _ ⟨b215, rfl⟩)
 refine aK' 12 rfl rfl rfl ?_
 refine aP 13 rfl (pPf rfl rfl) rfl ?_
 refine aP 14 rfl (pA rfl) rfl ?_
 refine aO' 15 ?_
 refine oT' rfl ?_
 refine aP 16 rfl (pA rfl) rfl ?_
 refine aD' ?_
 refine nS ?_
 (refine ret_freeze Pk.here (fun G5 hle5 hsl5 hno5 => ?_))
 refine tT (rB (rS (rF3 (rT rfl) (rC rfl (lBa rfl rfl)) (rT rfl) ?_)))
 (have hk1 : k = 6 := (by omega); subst hk1; refine WtP.two hsl5 (hrB.mono hle5) (hma'.mono hle5) (hmb'.mono hle5) ?_; rw [mW6]; cases hq : mMatch 4 (h.getD 0 ty0) with | none => rfl | some q => (rw [hq] at hmi; cases hmi))
 refine one_skip (l' := [tt,tt,tt,tt,ff,tt,tt,tt,tt,tt,tt,tt,tt,ff,ff,ff,ff]) rfl rfl rfl rfl ?_
 refine aP 13 rfl (pPf rfl rfl) rfl ?_
 refine aO' 4 ?_
 (refine one_step0 rfl (step_buildSlice rfl rfl rfl (by omega) (by unfold maxLen; omega) rfl) rfl rfl ?_; rintro _ ⟨b233, rfl⟩)
 refine aP 14 rfl (pA rfl) rfl ?_
 refine aO' 15 ?_
 refine oT' rfl ?_
 refine aP 16 rfl (pA rfl) rfl ?_
 refine aD' ?_
 refine nS ?_
 (refine ret_freeze Pk.here (fun G5 hle5 hsl5 hno5 => ?_))
 refine tT (rB (rS (rF3 (rT rfl) (rC rfl (lBa rfl rfl)) (rT rfl) ?_)))
 (have hk1 : k = 6 := (by omega); subst hk1; refine WtP.two hsl5 (hrB.mono hle5) (hma'.mono hle5) (hmb'.mono hle5) ?_; rw [mW6]; cases hq : mMatch 4 (h.getD 0 ty0) with | none => rfl | some q => (rw [hq] at hmi; cases hmi))
 refine sQ (pM rfl) rfl (sQ (pX rfl rfl) rfl (sQ (pX rfl rfl) rfl (sQ (pX rfl rfl) rfl ?_)))
 refine sE (step_alloc rfl) rfl (fun b250 => ?_)
 refine sE (step_alloc rfl) rfl (fun b251 => ?_)
 refine sS' ?_
 refine sS' ?_
 refine sQ (pA rfl) rfl (sD (nS (tS ?_)))
 (have hl2 : n = 2 := hop.1 (by omega); obtain ⟨b0, o0, q0, d0, hp0, hat0, hre0, hg0⟩ := hsl.kidD hkl (i := 0) (by omega) (by omega); obtain ⟨b1, o1, q1, d1, hp1, hat1, hre1, hg1⟩ := hsl.kidD hkl (i := 1) (by omega) (by omega); cases hp0; cases hp1; refine tri_draw mixed rfl ?_)
 refine any_load (i := 0) (l' := [tt,ff,ff,ff,ff,ff,ff,ff,ff,ff,ff,ff,ff,ff,ff,ff,ff]) rfl npI (lBa rfl rfl) rfl (by kernel_rfl) rfl rfl ?_
 refine aL 1 rfl (lBa rfl rfl) rfl ?_
 refine aL 3 rfl (lBa rfl rfl) rfl ?_
 refine aL 5 rfl (lBa rfl rfl) rfl ?_
 refine aP 6 rfl (pM rfl) rfl ?_
 refine aO' 2 ?_
 (refine one_imm rfl rfl (both_fn _ ma mb _ _ _ ⟨by omega, by omega⟩ hma hmb) rfl rfl rfl (fun v GB hleB hh => ?_); obtain ⟨cB, rfl, hrB⟩ := hh; obtain ⟨p7, c7, e7, rfl, _⟩ := hrB.open; have hma' := hma.mono hleB; have hmb' := hmb.mono hleB)
 refine aP 7 rfl (pM rfl) rfl ?_
 refine aP 8 rfl (pM rfl) rfl ?_
 refine aP 9 rfl (pIN (j := 1) rfl rfl rfl (by omega)) rfl ?_
 refine aL 10 rfl (load_a rfl rfl (At.mono' hleB (hat1 _)) rfl) rfl ?_
 refine aL 11 rfl (lBa rfl rfl) rfl ?_
 refine any_two (j := 4) (j' := 12) (by kernel_rfl) ?_ ?_
 (refine one_step0 rfl (step_buildSlice rfl rfl rfl (by omega) (by unfold maxLen; omega) rfl) rfl rfl ?_; rintro _ ⟨b272, rfl⟩)
 refine aO' 12 ?_
 refine one_valb rfl rfl ((consistent_fn _ _ _ _ _ (hre1.mono hleB) hma')) rfl rfl rfl (fun h274 => ?_) (fun h274 => ?_)
 refine aP 13 rfl (pPt rfl rfl) rfl ?_
 refine aP 14 rfl (pA rfl) rfl ?_
 refine aO' 15 ?_
 refine oT' rfl ?_
 refine aP 16 rfl (pA rfl) rfl ?_
 refine aD' ?_
 refine nS ?_
 (refine ret_freeze Pk.here (fun G5 hle5 hsl5 hno5 => ?_))
 refine tT (rB (rS (rF3 (rT rfl) (rC rfl (lBa rfl rfl)) (rT rfl) ?_)))
 (have hk1 : k = 6 := (by omega); subst hk1; refine WtP.two hsl5 (hrB.mono hle5) (hma'.mono hle5) (hmb'.mono hle5) ?_; rw [mW6]; cases hq : mMatch 4 (h.getD 0 ty0) with | none => (rw [hq] at hmi; cases hmi) | some q => (have hq2 := hmm q hq; subst hq2; dsimp only; split <;> first | rfl | (exfalso; simp_all; done)))
 refine aP 13 rfl (pPt rfl rfl) rfl ?_
 refine aP 14 rfl (pA rfl) rfl ?_
 refine aO' 15 ?_
 refine oT' rfl ?_
 refine aP 16 rfl (pA rfl) rfl ?_
 refine aD' ?_
 refine nS ?_
 (refine ret_freeze Pk.here (fun G5 hle5 hsl5 hno5 => ?_))
 refine tT (rB (rS (rF3 (rT rfl) (rC rfl (lBa rfl rfl)) (rT rfl) ?_)))
 (have hk1 : k = 6 := (by omega); subst hk1; refine WtP.two hsl5 (hrB.mono hle5) (hma'.mono hle5) (hmb'.mono hle5) ?_; rw [mW6]; cases hq : mMatch 4 (h.getD 0 ty0) with | none => (rw [hq] at hmi; cases hmi) | some q => (have hq2 := hmm q hq; subst hq2; dsimp only; split <;> first | rfl | (exfalso; simp_all; done)))
 refine one_valb rfl rfl ((consistent_fn _ _ _ _ _ (hre1.mono hleB) hma')) rfl rfl rfl (fun h301 => ?_) (fun h301 => ?_)
 refine aP 13 rfl (pPt rfl rfl) rfl ?_
 refine aO' 4 ?_
 (refine one_step0 rfl (step_buildSlice rfl rfl rfl (by omega) (by unfold maxLen; omega) rfl) rfl rfl ?_; rintro _ ⟨b304, rfl⟩)
 refine aP 14 rfl (pA rfl) rfl ?_
 refine aO' 15 ?_
 refine oT' rfl ?_
 refine aP 16 rfl (pA rfl) rfl ?_
 refine aD' ?_
 refine nS ?_
 (refine ret_freeze Pk.here (fun G5 hle5 hsl5 hno5 => ?_))
 refine tT (rB (rS (rF3 (rT rfl) (rC rfl (lBa rfl rfl)) (rT rfl) ?_)))
 (have hk1 : k = 6 := (by omega); subst hk1; refine WtP.two hsl5 (hrB.mono hle5) (hma'.mono hle5) (hmb'.mono hle5) ?_; rw [mW6]; cases hq : mMatch 4 (h.getD 0 ty0) with | none => (rw [hq] at hmi; cases hmi) | some q => (have hq2 := hmm q hq; subst hq2; dsimp only; split <;> first | rfl | (exfalso; simp_all; done)))
 refine aP 13 rfl (pPt rfl rfl) rfl ?_
 refine aO' 4 ?_
 (refine one_step0 rfl (step_buildSlice rfl rfl rfl (by omega) (by unfold maxLen; omega) rfl) rfl rfl ?_; rintro _ ⟨b319, rfl⟩)
 refine aP 14 rfl (pA rfl) rfl ?_
 refine aO' 15 ?_
 refine oT' rfl ?_
 refine aP 16 rfl (pA rfl) rfl ?_
 refine aD' ?_
 refine nS ?_
 (refine ret_freeze Pk.here (fun G5 hle5 hsl5 hno5 => ?_))
 refine tT (rB (rS (rF3 (rT rfl) (rC rfl (lBa rfl rfl)) (rT rfl) ?_)))
 (have hk1 : k = 6 := (by omega); subst hk1; refine WtP.two hsl5 (hrB.mono hle5) (hma'.mono hle5) (hmb'.mono hle5) ?_; rw [mW6]; cases hq : mMatch 4 (h.getD 0 ty0) with | none => (rw [hq] at hmi; cases hmi) | some q => (have hq2 := hmm q hq; subst hq2; dsimp only; split <;> first | rfl | (exfalso; simp_all; done)))
 refine sQ (pA rfl) rfl (sD (nS (cF rfl ?_)))
 refine tS (tS (tR (sB (pE rfl rfl) rfl rfl (fun h339 => ?_) (fun h339 => ?_))))
 refine sQ (pA rfl) rfl (sD (nS (cT rfl ?_)))
 refine tK (nS (cT rfl ?_))
 refine tS (tR (sL (lBa rfl rfl) rfl rfl ?_))
 refine sE (step_alloc rfl) rfl (fun b350 => ?_)
 refine sS' ?_
 refine sD (nS (tS (tS (tR (sQ (pF0 rfl) rfl (sL (lBs rfl rfl) rfl rfl ?_))))))
 refine sP (pure_eql_f rfl rfl (by omega)) rfl rfl ?_
 refine sD (nS (cF rfl ?_))
 refine tK (nS (tS ?_))
 (have hl2 : n = 2 := hop.1 (by omega); obtain ⟨b0, o0, q0, d0, hp0, hat0, hre0, hg0⟩ := hsl.kidD hkl (i := 0) (by omega) (by omega); obtain ⟨b1, o1, q1, d1, hp1, hat1, hre1, hg1⟩ := hsl.kidD hkl (i := 1) (by omega) (by omega); cases hp0; cases hp1; refine tri_draw mixed rfl ?_)
 refine any_load (i := 0) (l' := [tt,ff,ff,ff,ff,ff,ff,ff,ff,ff,ff,ff,ff,ff,ff,ff,ff,ff,ff]) rfl npI (lBa rfl rfl) rfl (by kernel_rfl) rfl rfl ?_
 refine aL 1 rfl (lBa rfl rfl) rfl ?_
 refine aL 3 rfl (lBa rfl rfl) rfl ?_
 refine aP 4 rfl (pM rfl) rfl ?_
 refine aP 5 rfl (pIN (j := 0) rfl rfl rfl (by omega)) rfl ?_
 refine aL 6 rfl (load_a rfl rfl (hat0 _) rfl) rfl ?_
 refine aL 7 rfl (lBa rfl rfl) rfl ?_
 refine any_two (j := 2) (j' := 8) (by kernel_rfl) ?_ ?_
 (refine one_step0 rfl (step_buildSlice rfl rfl rfl (by omega) (by unfold maxLen; omega) rfl) rfl rfl ?_; rintro _ ⟨b375, rfl⟩)
 refine aO' 8 ?_
 refine one_valb rfl rfl ((consistent_fn _ _ _ _ _ hre0 (tyInt_r _))) rfl rfl rfl (fun h377 => ?_) (fun h377 => ?_)
 refine aP 9 rfl (pM rfl) rfl ?_
 refine aP 10 rfl (pM rfl) rfl ?_
 refine aP 11 rfl (pIN (j := 1) rfl rfl rfl (by omega)) rfl ?_
 refine aL 12 rfl (load_a rfl rfl (hat1 _) rfl) rfl ?_
 refine aL 13 rfl (lBa rfl rfl) rfl ?_
 refine aO' 14 ?_
 refine one_valb rfl rfl ((consistent_fn _ _ _ _ _ hre1 (tyInt_r _))) rfl rfl rfl (fun h384 => ?_) (fun h384 => ?_)
 refine aP 15 rfl (pPt rfl rfl) rfl ?_
 refine aP 16 rfl (pA rfl) rfl ?_
 refine aO' 17 ?_
 refine oT' rfl ?_
 refine aP 18 rfl (pA rfl) rfl ?_
 refine aD' ?_
 refine nS ?_
 (refine ret_freeze Pk.here (fun G5 hle5 hsl5 hno5 => ?_))
 refine tT (rB (rS (rF3 (rT rfl) (rC rfl (lBa rfl rfl)) (rT rfl) ?_)))
 (refine WtP.two hsl5 (tyInt_r _) (tyInt_r _) (tyInt_r _) ?_; rw [mW78 (by omega)]; first | (rw [if_pos ⟨by assumption, by assumption⟩, if_neg (by omega)]; rfl) | (rw [if_neg (fun hc => by first | exact Bool.noConfusion (hc.1.symm.trans (by assumption)) | exact Bool.noConfusion (hc.2.symm.trans (by assumption)) | exact Bool.noConfusion (hc.symm.trans (by assumption)))]; rfl))
 refine aP 15 rfl (pPt rfl rfl) rfl ?_
 refine aP 16 rfl (pA rfl) rfl ?_
 refine aO' 17 ?_
 refine oT' rfl ?_
 refine aP 18 rfl (pA rfl) rfl ?_
 refine aD' ?_
 refine nS ?_
 (refine ret_freeze Pk.here (fun G5 hle5 hsl5 hno5 => ?_))
 refine tT (rB (rS (rF3 (rT rfl) (rC rfl (lBa rfl rfl)) (rT rfl) ?_)))
 (refine WtP.two hsl5 (tyInt_r _) (tyInt_r _) (tyInt_r _) ?_; rw [mW78 (by omega)]; first | (rw [if_pos ⟨by assumption, by assumption⟩, if_neg (by omega)]; rfl) | (rw [if_neg (fun hc => by first | exact Bool.noConfusion (hc.1.symm.trans (by assumption)) | exact Bool.noConfusion (hc.2.symm.trans (by assumption)) | exact Bool.noConfusion (hc.symm.trans (by assumption)))]; rfl))
 refine aP 9 rfl (pM rfl) rfl ?_
 refine aK' 10 rfl rfl rfl ?_
 refine aK' 11 rfl rfl rfl ?_
 refine aK' 12 rfl rfl rfl ?_
 refine aK' 13 rfl rfl rfl ?_
 refine aK' 14 rfl rfl rfl ?_
 refine aP 15 rfl (pPf rfl rfl) rfl ?_
 refine aP 16 rfl (pA rfl) rfl ?_
 refine aO' 17 ?_
 refine oT' rfl ?_
 refine aP 18 rfl (pA rfl) rfl ?_
 refine aD' ?_
 refine nS ?_
 (refine ret_freeze Pk.here (fun G5 hle5 hsl5 hno5 => ?_))
 refine tT (rB (rS (rF3 (rT rfl) (rC rfl (lBa rfl rfl)) (rT rfl) ?_)))
 (refine WtP.two hsl5 (tyInt_r _) (tyInt_r _) (tyInt_r _) ?_; rw [mW78 (by omega)]; first | (rw [if_pos ⟨by assumption, by assumption⟩, if_neg (by omega)]; rfl) | (rw [if_neg (fun hc => by first | exact Bool.noConfusion (hc.1.symm.trans (by assumption)) | exact Bool.noConfusion (hc.2.symm.trans (by assumption)) | exact Bool.noConfusion (hc.symm.trans (by assumption)))]; rfl))
 refine one_valb rfl rfl ((consistent_fn _ _ _ _ _ hre0 (tyInt_r _))) rfl rfl rfl (fun h430 => ?_) (fun h430 => ?_)
 refine aP 9 rfl (pM rfl) rfl ?_
 refine aP 10 rfl (pM rfl) rfl ?_
 refine aP 11 rfl (pIN (j := 1) rfl rfl rfl (by omega)) rfl ?_
 refine aL 12 rfl (load_a rfl rfl (hat1 _) rfl) rfl ?_
 refine aL 13 rfl (lBa rfl rfl) rfl ?_
 refine any_two (j := 2) (j' := 14) (by kernel_rfl) ?_ ?_
 (refine one_step0 rfl (step_buildSlice rfl rfl rfl (by omega) (by unfold maxLen; omega) rfl) rfl rfl ?_; rintro _ ⟨b437, rfl⟩)
 refine aO' 14 ?_
 refine one_valb rfl rfl ((consistent_fn _ _ _ _ _ hre1 (tyInt_r _))) rfl rfl rfl (fun h439 => ?_) (fun h439 => ?_)
 refine aP 15 rfl (pPt rfl rfl) rfl ?_
 refine aP 16 rfl (pA rfl) rfl ?_
 refine aO' 17 ?_
 refine oT' rfl ?_
 refine aP 18 rfl (pA rfl) rfl ?_
 refine aD' ?_
 refine nS ?_
 (refine ret_freeze Pk.here (fun G5 hle5 hsl5 hno5 => ?_))
 refine tT (rB (rS (rF3 (rT rfl) (rC rfl (lBa rfl rfl)) (rT rfl) ?_)))
 (refine WtP.two hsl5 (tyInt_r _) (tyInt_r _) (tyInt_r _) ?_; rw [mW78 (by omega)]; first | (rw [if_pos ⟨by assumption, by assumption⟩, if_neg (by omega)]; rfl) | (rw [if_neg (fun hc => by first | exact Bool.noConfusion (hc.1.symm.trans (by assumption)) | exact Bool.noConfusion (hc.2.symm.trans (by assumption)) | exact Bool.noConfusion (hc.symm.trans (by assumption)))]; rfl))
 refine aP 15 rfl (pPt rfl rfl) rfl ?_
 refine aP 16 rfl (pA rfl) rfl ?_
 refine aO' 17 ?_
 refine oT' rfl ?_
 refine aP 18 rfl (pA rfl) rfl ?_
 refine aD' ?_
 refine nS ?_
 (refine ret_freeze Pk.here (fun G5 hle5 hsl5 hno5 => ?_))
 refine tT (rB (rS (rF3 (rT rfl) (rC rfl (lBa rfl rfl)) (rT rfl) ?_)))
 (refine WtP.two hsl5 (tyInt_r _) (tyInt_r _) (tyInt_r _) ?_; rw [mW78 (by omega)]; first | (rw [if_pos ⟨by assumption, by assumption⟩, if_neg (by omega)]; rfl) | (rw [if_neg (fun hc => by first | exact Bool.noConfusion (hc.1.symm.trans (by assumption)) | exact Bool.noConfusion (hc.2.symm.trans (by assumption)) | exact Bool.noConfusion (hc.symm.trans (by assumption)))]; rfl))
 refine one_valb rfl rfl ((consistent_fn _ _ _ _ _ hre1 (tyInt_r _))) rfl rfl rfl (fun h466 => ?_) (fun h466 => ?_)
 refine aP 15 rfl (pPt rfl rfl) rfl ?_
 refine aO' 2 ?_
 (refine one_step0 rfl (step_buildSlice rfl rfl rfl (by omega) (by unfold maxLen; omega) rfl) rfl rfl ?_; rintro _ ⟨b469, rfl⟩)
 refine aP 16 rfl (pA rfl) rfl ?_
 refine aO' 17 ?_
 refine oT' rfl ?_
 refine aP 18 rfl (pA rfl) rfl ?_
 refine aD' ?_
 refine nS ?_
 (refine ret_freeze Pk.here (fun G5 hle5 hsl5 hno5 => ?_))
 refine tT (rB (rS (rF3 (rT rfl) (rC rfl (lBa rfl rfl)) (rT rfl) ?_)))
 (refine WtP.two hsl5 (tyInt_r _) (tyInt_r _) (tyInt_r _) ?_; rw [mW78 (by omega)]; first | (rw [if_pos ⟨by assumption, by assumption⟩, if_neg (by omega)]; rfl) | (rw [if_neg (fun hc => by first | exact Bool.noConfusion (hc.1.symm.trans (by assumption)) | exact Bool.noConfusion (hc.2.symm.trans (by assumption)) | exact Bool.noConfusion (hc.symm.trans (by assumption)))]; rfl))
 refine aP 15 rfl (pPt rfl rfl) rfl ?_
 refine aO' 2 ?_
 (refine one_step0 rfl (step_buildSlice rfl rfl rfl (by omega) (by unfold maxLen; omega) rfl) rfl rfl ?_; rintro _ ⟨b484, rfl⟩)
 refine aP 16 rfl (pA rfl) rfl ?_
 refine aO' 17 ?_
 refine oT' rfl ?_
 refine aP 18 rfl (pA rfl) rfl ?_
 refine aD' ?_
 refine nS ?_
 (refine ret_freeze Pk.here (fun G5 hle5 hsl5 hno5 => ?_))
 refine tT (rB (rS (rF3 (rT rfl) (rC rfl (lBa rfl rfl)) (rT rfl) ?_)))
 (refine WtP.two hsl5 (tyInt_r _) (tyInt_r _) (tyInt_r _) ?_; rw [mW78 (by omega)]; first | (rw [if_pos ⟨by assumption, by assumption⟩, if_neg (by omega)]; rfl) | (rw [if_neg (fun hc => by first | exact Bool.noConfusion (hc.1.symm.trans (by assumption)) | exact Bool.noConfusion (hc.2.symm.trans (by assumption)) | exact Bool.noConfusion (hc.symm.trans (by assumption)))]; rfl))
 refine aP 9 rfl (pM rfl) rfl ?_
 refine aK' 10 rfl rfl rfl ?_
 refine aK' 11 rfl rfl rfl ?_
 refine aK' 12 rfl rfl rfl ?_
 refine aK' 13 rfl rfl rfl ?_
 refine any_two (j := 2) (j' := 14) (by kernel_rfl) ?_ ?_
 (refine one_step0 rfl (step_buildSlice rfl rfl rfl (by omega) (by unfold maxLen; omega) rfl) rfl rfl ?_; rintro _ ⟨b503, rfl⟩)
 refine aK' 14 rfl rfl rfl ?_
 refine aP 15 rfl (pPf rfl rfl) rfl ?_
 refine aP 16 rfl (pA rfl) rfl ?_
 refine aO' 17 ?_
 refine oT' rfl ?_
 refine aP 18 rfl (pA rfl) rfl ?_
 refine aD' ?_
 refine nS ?_
 (refine ret_freeze Pk.here (fun G5 hle5 hsl5 hno5 => ?_))
 refine tT (rB (rS (rF3 (rT rfl) (rC rfl (lBa rfl rfl)) (rT rfl) ?_)))
 (refine WtP.two hsl5 (tyInt_r _) (tyInt_r _) (tyInt_r _) ?_; rw [mW78 (by omega)]; first | (rw [if_pos ⟨by assumption, by assumption⟩, if_neg (by omega)]; rfl) | (rw [if_neg (fun hc => by first | exact Bool.noConfusion (hc.1.symm.trans (by assumption)) | exact Bool.noConfusion (hc.2.symm.trans (by assumption)) | exact Bool.noConfusion (hc.symm.trans (by assumption)))]; rfl))
 refine one_skip (l' := [tt,tt,ff,tt,tt,tt,tt,tt,tt,tt,tt,tt,tt,tt,tt,ff,ff,ff,ff]) rfl rfl rfl rfl ?_
 refine aP 15 rfl (pPf rfl rfl) rfl ?_
 refine aO' 2 ?_
 (refine one_step0 rfl (step_buildSlice rfl rfl rfl (by omega) (by unfold maxLen; omega) rfl) rfl rfl ?_; rintro _ ⟨b521, rfl⟩)
 refine aP 16 rfl (pA rfl) rfl ?_
 refine aO' 17 ?_
 refine oT' rfl ?_
 refine aP 18 rfl (pA rfl) rfl ?_
 refine aD' ?_
 refine nS ?_
 (refine ret_freeze Pk.here (fun G5 hle5 hsl5 hno5 => ?_))
 refine tT (rB (rS (rF3 (rT rfl) (rC rfl (lBa rfl rfl)) (rT rfl) ?_)))
 (refine WtP.two hsl5 (tyInt_r _) (tyInt_r _) (tyInt_r _) ?_; rw [mW78 (by omega)]; first | (rw [if_pos ⟨by assumption, by assumption⟩, if_neg (by omega)]; rfl) | (rw [if_neg (fun hc => by first | exact Bool.noConfusion (hc.1.symm.trans (by assumption)) | exact Bool.noConfusion (hc.2.symm.trans (by assumption)) | exact Bool.noConfusion (hc.symm.trans (by assumption)))]; rfl))
 refine sQ (pA rfl) rfl (sD (nS (cF rfl ?_)))
 refine tR (sB (pE rfl rfl) rfl rfl (fun h539 => ?_) (fun h539 => ?_))
 refine sQ (pA rfl) rfl (sD (nS (cT rfl ?_)))
 refine tS (tR (sL (lBa rfl rfl) rfl rfl ?_))
 refine sE (step_alloc rfl) rfl (fun b547 => ?_)
 refine sS' ?_
 refine sD (nS (tS (tS (tR (sQ (pF0 rfl) rfl (sL (lBs rfl rfl) rfl rfl ?_))))))
 refine sP (pure_eql_t rfl rfl (by omega)) rfl rfl ?_
 refine sD (nS (cT rfl ?_))
 refine tR (sL (lBa rfl rfl) rfl rfl ?_)
 refine sS' ?_
 refine sD (nS (tS ?_))
 (have hl2 : n = 2 := hop.1 (by omega); obtain ⟨b0, o0, q0, d0, hp0, hat0, hre0, hg0⟩ := hsl.kidD hkl (i := 0) (by omega) (by omega); obtain ⟨b1, o1, q1, d1, hp1, hat1, hre1, hg1⟩ := hsl.kidD hkl (i := 1) (by omega) (by omega); cases hp0; cases hp1; refine tri_draw mixed rfl ?_)
 refine any_load (i := 0) (l' := [tt,ff,ff,ff,ff,ff,ff,ff,ff,ff,ff,ff,ff,ff,ff,ff,ff,ff,ff]) rfl npI (lBa rfl rfl) rfl (by kernel_rfl) rfl rfl ?_
 refine aL 1 rfl (lBa rfl rfl) rfl ?_
 refine aL 3 rfl (lBa rfl rfl) rfl ?_
 refine aP 4 rfl (pM rfl) rfl ?_
 refine aP 5 rfl (pIN (j := 0) rfl rfl rfl (by omega)) rfl ?_
 refine aL 6 rfl (load_a rfl rfl (hat0 _) rfl) rfl ?_
 refine aL 7 rfl (lBa rfl rfl) rfl ?_
 refine any_two (j := 2) (j' := 8) (by kernel_rfl) ?_ ?_
 (refine one_step0 rfl (step_buildSlice rfl rfl rfl (by omega) (by unfold maxLen; omega) rfl) rfl rfl ?_; rintro _ ⟨b575, rfl⟩)
 refine aO' 8 ?_
 refine one_valb rfl rfl ((consistent_fn _ _ _ _ _ hre0 (tyInt_r _))) rfl rfl rfl (fun h577 => ?_) (fun h577 => ?_)
 refine aP 9 rfl (pM rfl) rfl ?_
 refine aP 10 rfl (pM rfl) rfl ?_
 refine aP 11 rfl (pIN (j := 1) rfl rfl rfl (by omega)) rfl ?_
 refine aL 12 rfl (load_a rfl rfl (hat1 _) rfl) rfl ?_
 refine aL 13 rfl (lBa rfl rfl) rfl ?_
 refine aO' 14 ?_
 refine one_valb rfl rfl ((consistent_fn _ _ _ _ _ hre1 (tyInt_r _))) rfl rfl rfl (fun h584 => ?_) (fun h584 => ?_)
 refine aP 15 rfl (pPt rfl rfl) rfl ?_
 refine aP 16 rfl (pA rfl) rfl ?_
 refine aO' 17 ?_
 refine oT' rfl ?_
 refine aP 18 rfl (pA rfl) rfl ?_
 refine aD' ?_
 refine nS ?_
 (refine ret_freeze Pk.here (fun G5 hle5 hsl5 hno5 => ?_))
 refine tT (rB (rS (rF3 (rT rfl) (rC rfl (lBa rfl rfl)) (rT rfl) ?_)))
 (refine WtP.two hsl5 (tyInt_r _) (tyInt_r _) (tyBool_r _) ?_; rw [mW78 (by omega)]; first | (rw [if_pos ⟨by assumption, by assumption⟩, if_pos (by omega)]; rfl) | (rw [if_neg (fun hc => by first | exact Bool.noConfusion (hc.1.symm.trans (by assumption)) | exact Bool.noConfusion (hc.2.symm.trans (by assumption)) | exact Bool.noConfusion (hc.symm.trans (by assumption)))]; rfl))
 refine aP 15 rfl (pPt rfl rfl) rfl ?_
 refine aP 16 rfl (pA rfl) rfl ?_
 refine aO' 17 ?_
 refine oT' rfl ?_
 refine aP 18 rfl (pA rfl) rfl ?_
 refine aD' ?_
 refine nS ?_
 (refine ret_freeze Pk.here (fun G5 hle5 hsl5 hno5 => ?_))
 refine tT (rB (rS (rF3 (rT rfl) (rC rfl (lBa rfl rfl)) (rT rfl) ?_)))
 (refine WtP.two hsl5 (tyInt_r _) (tyInt_r _) (tyBool_r _) ?_; rw [mW78 (by omega)]; first | (rw [if_pos ⟨by assumption, by assumption⟩, if_pos (by omega)]; rfl) | (rw [if_neg (fun hc => by first | exact Bool.noConfusion (hc.1.symm.trans (by assumption)) | exact Bool.noConfusion (hc.2.symm.trans (by assumption)) | exact Bool.noConfusion (hc.symm.trans (by assumption)))]; rfl))
 refine aP 9 rfl (pM rfl) rfl ?_
 refine aK' 10 rfl rfl rfl ?_
 refine aK' 11 rfl rfl rfl ?_
 refine aK' 12 rfl rfl rfl ?_
 refine aK' 13 rfl rfl rfl ?_
 refine aK' 14 rfl rfl rfl ?_
 refine aP 15 rfl (pPf rfl rfl) rfl ?_
 refine aP 16 rfl (pA rfl) rfl ?_
 refine aO' 17 ?_
 refine oT' rfl ?_
 refine aP 18 rfl (pA rfl) rfl ?_
 refine aD' ?_
 refine nS ?_
 (refine ret_freeze Pk.here (fun G5 hle5 hsl5 hno5 => ?_))
 refine tT (rB (rS (rF3 (rT rfl) (rC rfl (lBa rfl rfl)) (rT rfl) ?_)))
 (refine WtP.two hsl5 (tyInt_r _) (tyInt_r _) (tyBool_r _) ?_; rw [mW78 (by omega)]; first | (rw [if_pos ⟨by assumption, by assumption⟩, if_pos (by omega)]; rfl) | (rw [if_neg (fun hc => by first | exact Bool.noConfusion (hc.1.symm.trans (by assumption)) | exact Bool.noConfusion (hc.2.symm.trans (by assumption)) | exact Bool.noConfusion (hc.symm.trans (by assumption)))]; rfl))
 refine one_valb rfl rfl ((consistent_fn _ _ _ _ _ hre0 (tyInt_r _))) rfl rfl rfl (fun h630 => ?_) (fun h630 => ?_)
 refine aP 9 rfl (pM rfl) rfl ?_
 refine aP 10 rfl (pM rfl) rfl ?_
 refine aP 11 rfl (pIN (j := 1) rfl rfl rfl (by omega)) rfl ?_
 refine aL 12 rfl (load_a rfl rfl (hat1 _) rfl) rfl ?_
 refine aL 13 rfl (lBa rfl rfl) rfl ?_
 refine any_two (j := 2) (j' := 14) (by kernel_rfl) ?_ ?_
 (refine one_step0 rfl (step_buildSlice rfl rfl rfl (by omega) (by unfold maxLen; omega) rfl) rfl rfl ?_; rintro _ ⟨b637, rfl⟩)
 refine aO' 14 ?_
 refine one_valb rfl rfl ((consistent_fn _ _ _ _ _ hre1 (tyInt_r _))) rfl rfl rfl (fun h639 => ?_) (fun h639 => ?_)
 refine aP 15 rfl (pPt rfl rfl) rfl ?_
 refine aP 16 rfl (pA rfl) rfl ?_
 refine aO' 17 ?_
 refine oT' rfl ?_
 refine aP 18 rfl (pA rfl) rfl ?_
 refine aD' ?_
 refine nS ?_
 (refine ret_freeze Pk.here (fun G5 hle5 hsl5 hno5 => ?_))
 refine tT (rB (rS (rF3 (rT rfl) (rC rfl (lBa rfl rfl)) (rT rfl) ?_)))
 (refine WtP.two hsl5 (tyInt_r _) (tyInt_r _) (tyBool_r _) ?_; rw [mW78 (by omega)]; first | (rw [if_pos ⟨by assumption, by assumption⟩, if_pos (by omega)]; rfl) | (rw [if_neg (fun hc => by first | exact Bool.noConfusion (hc.1.symm.trans (by assumption)) | exact Bool.noConfusion (hc.2.symm.trans (by assumption)) | exact Bool.noConfusion (hc.symm.trans (by assumption)))]; rfl))
 refine aP 15 rfl (pPt rfl rfl) rfl ?_
 refine aP 16 rfl (pA rfl) rfl ?_
 refine aO' 17 ?_
 refine oT' rfl ?_
 refine aP 18 rfl (pA rfl) rfl ?_
 refine aD' ?_
 refine nS ?_
 (refine ret_freeze Pk.here (fun G5 hle5 hsl5 hno5 => ?_))
 refine tT (rB (rS (rF3 (rT rfl) (rC rfl (lBa rfl rfl)) (rT rfl) ?_)))
 (refine WtP.two hsl5 (tyInt_r _) (tyInt_r _) (tyBool_r _) ?_; rw [mW78 (by omega)]; first | (rw [if_pos ⟨by assumption, by assumption⟩, if_pos (by omega)]; rfl) | (rw [if_neg (fun hc => by first | exact Bool.noConfusion (hc.1.symm.trans (by assumption)) | exact Bool.noConfusion (hc.2.symm.trans (by assumption)) | exact Bool.noConfusion (hc.symm.trans (by assumption)))]; rfl))
 refine one_valb rfl rfl ((consistent_fn _ _ _ _ _ hre1 (tyInt_r _))) rfl rfl rfl (fun h666 => ?_) (fun h666 => ?_)
 refine aP 15 rfl (pPt rfl rfl) rfl ?_
 refine aO' 2 ?_
 (refine one_step0 rfl (step_buildSlice rfl rfl rfl (by omega) (by unfold maxLen; omega) rfl) rfl rfl ?_; rintro _ ⟨b669, rfl⟩)
 refine aP 16 rfl (pA rfl) rfl ?_
 refine aO' 17 ?_
 refine oT' rfl ?_
 refine aP 18 rfl (pA rfl) rfl ?_
 refine aD' ?_
 refine nS ?_
 (refine ret_freeze Pk.here (fun G5 hle5 hsl5 hno5 => ?_))
 refine tT (rB (rS (rF3 (rT rfl) (rC rfl (lBa rfl rfl)) (rT rfl) ?_)))
 (refine WtP.two hsl5 (tyInt_r _) (tyInt_r _) (tyBool_r _) ?_; rw [mW78 (by omega)]; first | (rw [if_pos ⟨by assumption, by assumption⟩, if_pos (by omega)]; rfl) | (rw [if_neg (fun hc => by first | exact Bool.noConfusion (hc.1.symm.trans (by assumption)) | exact Bool.noConfusion (hc.2.symm.trans (by assumption)) | exact Bool.noConfusion (hc.symm.trans (by assumption)))]; rfl))
 refine aP 15 rfl (pPt rfl rfl) rfl ?_
 refine aO' 2 ?_
 (refine one_step0 rfl (step_buildSlice rfl rfl rfl (by omega) (by unfold maxLen; omega) rfl) rfl rfl ?_; rintro _ ⟨b684, rfl⟩)
 refine aP 16 rfl (pA rfl) rfl ?_
 refine aO' 17 ?_
 refine oT' rfl ?_
 refine aP 18 rfl (pA rfl) rfl ?_
 refine aD' ?_
 refine nS ?_
 (refine ret_freeze Pk.here (fun G5 hle5 hsl5 hno5 => ?_))
 refine tT (rB (rS (rF3 (rT rfl) (rC rfl (lBa rfl rfl)) (rT rfl) ?_)))
 (refine WtP.two hsl5 (tyInt_r _) (tyInt_r _) (tyBool_r _) ?_; rw [mW78 (by omega)]; first | (rw [if_pos ⟨by assumption, by assumption⟩, if_pos (by omega)]; rfl) | (rw [if_neg (fun hc => by first | exact Bool.noConfusion (hc.1.symm.trans (by assumption)) | exact Bool.noConfusion (hc.2.symm.trans (by assumption)) | exact Bool.noConfusion (hc.symm.trans (by assumption)))]; rfl))
 refine aP 9 rfl (pM rfl) rfl ?_
 refine aK' 10 rfl rfl rfl ?_
 refine aK' 11 rfl rfl rfl ?_
 refine aK' 12 rfl rfl rfl ?_
 refine aK' 13 rfl rfl rfl ?_
 refine any_two (j := 2) (j' := 14) (by kernel_rfl) ?_ ?_
 (refine one_step0 rfl (step_buildSlice rfl rfl rfl (by omega) (by unfold maxLen; omega) rfl) rfl rfl ?_; rintro _ ⟨b703, rfl⟩)
 refine aK' 14 rfl rfl rfl ?_
 refine aP 15 rfl (pPf rfl rfl) rfl ?_
 refine aP 16 rfl (pA rfl) rfl ?_
 refine aO' 17 ?_
 refine oT' rfl ?_
 refine aP 18 rfl (pA rfl) rfl ?_
 refine aD' ?_
 refine nS ?_
 (refine ret_freeze Pk.here (fun G5 hle5 hsl5 hno5 => ?_))
 refine tT (rB (rS (rF3 (rT rfl) (rC rfl (lBa rfl rfl)) (rT rfl) ?_)))
 (refine WtP.two hsl5 (tyInt_r _) (tyInt_r _) (tyBool_r _) ?_; rw [mW78 (by omega)]; first | (rw [if_pos ⟨by assumption, by assumption⟩, if_pos (by omega)]; rfl) | (rw [if_neg (fun hc => by first | exact Bool.noConfusion (hc.1.symm.trans (by assumption)) | exact Bool.noConfusion (hc.2.symm.trans (by assumption)) | exact Bool.noConfusion (hc.symm.trans (by assumption)))]; rfl))
 refine one_skip (l' := [tt,tt,ff,tt,tt,tt,tt,tt,tt,tt,tt,tt,tt,tt,tt,ff,ff,ff,ff]) rfl rfl rfl rfl ?_
 refine aP 15 rfl (pPf rfl rfl) rfl ?_
 refine aO' 2 ?_
 (refine one_step0 rfl (step_buildSlice rfl rfl rfl (by omega) (by unfold maxLen; omega) rfl) rfl rfl ?_; rintro _ ⟨b721, rfl⟩)
 refine aP 16 rfl (pA rfl) rfl ?_
 refine aO' 17 ?_
 refine oT' rfl ?_
 refine aP 18 rfl (pA rfl) rfl ?_
 refine aD' ?_
 refine nS ?_
 (refine ret_freeze Pk.here (fun G5 hle5 hsl5 hno5 => ?_))
 refine tT (rB (rS (rF3 (rT rfl) (rC rfl (lBa rfl rfl)) (rT rfl) ?_)))
 (refine WtP.two hsl5 (tyInt_r _) (tyInt_r _) (tyBool_r _) ?_; rw [mW78 (by omega)]; first | (rw [if_pos ⟨by assumption, by assumption⟩, if_pos (by omega)]; rfl) | (rw [if_neg (fun hc => by first | exact Bool.noConfusion (hc.1.symm.trans (by assumption)) | exact Bool.noConfusion (hc.2.symm.trans (by assumption)) | exact Bool.noConfusion (hc.symm.trans (by assumption)))]; rfl))
 refine sQ (pA rfl) rfl (sD (nS (cF rfl ?_)))
 refine tS (tR (sB (pE rfl rfl) rfl rfl (fun h740 => ?_) (fun h740 => ?_)))
 refine sQ (pA rfl) rfl (sD (nS (cT rfl ?_)))
 refine tS (tS ?_)
 (have hl3 : n = 3 := hop.2.1 (by omega); obtain ⟨b0, o0, q0, d0, hp0, hat0, hre0, hg0⟩ := hsl.kidD hkl (i := 0) (by omega) (by omega); obtain ⟨b1, o1, q1, d1, hp1, hat1, hre1, hg1⟩ := hsl.kidD hkl (i := 1) (by omega) (by omega); cases hp0; cases hp1; obtain ⟨b2, o2, q2, d2, hp2, hat2, hre2, hg2⟩ := hsl.kidD hkl (i := 2) (by omega) (by omega); cases hp2; refine tri_draw mixed rfl ?_)
 refine any_pure (i := 0) (l' := [tt,ff,ff,ff,ff,ff,ff,ff,ff,ff,ff,ff,ff,ff,ff,ff]) rfl npI (pM rfl) rfl (by kernel_rfl) rfl rfl ?_
 refine aP 1 rfl (pIN (j := 0) rfl rfl rfl (by omega)) rfl ?_
 refine aL 2 rfl (load_a rfl rfl (hat0 _) rfl) rfl ?_
 refine aL 3 rfl (lBa rfl rfl) rfl ?_
 refine aO' 4 ?_
 refine one_valb rfl rfl ((consistent_fn _ _ _ _ _ hre0 (tyBool_r _))) rfl rfl rfl (fun h753 => ?_) (fun h753 => ?_)
 refine aP 5 rfl (pNt rfl) rfl ?_
 refine aP 6 rfl (pM rfl) rfl ?_
 refine aP 7 rfl (pM rfl) rfl ?_
 refine aP 8 rfl (pIN (j := 1) rfl rfl rfl (by omega)) rfl ?_
 refine aL 9 rfl (load_a rfl rfl (hat1 _) rfl) rfl ?_
 refine aP 10 rfl (pM rfl) rfl ?_
 refine aP 11 rfl (pIN (j := 2) rfl rfl rfl (by omega)) rfl ?_
 refine aL 12 rfl (load_a rfl rfl (hat2 _) rfl) rfl ?_
 refine aO' 13 ?_
 refine one_valb rfl rfl ((consistent_fn _ _ _ _ _ hre1 hre2)) rfl rfl rfl (fun h763 => ?_) (fun h763 => ?_)
 refine aP 14 rfl (pNt rfl) rfl ?_
 refine aP 15 rfl (pPf rfl rfl) rfl ?_
 refine aD' ?_
 refine nS (cF rfl ?_)
 refine tK (nS (tS ?_))
 (have hl3 : n = 3 := hop.2.1 (by omega); obtain ⟨b0, o0, q0, d0, hp0, hat0, hre0, hg0⟩ := hsl.kidD hkl (i := 0) (by omega) (by omega); obtain ⟨b1, o1, q1, d1, hp1, hat1, hre1, hg1⟩ := hsl.kidD hkl (i := 1) (by omega) (by omega); cases hp0; cases hp1; obtain ⟨b2, o2, q2, d2, hp2, hat2, hre2, hg2⟩ := hsl.kidD hkl (i := 2) (by omega) (by omega); cases hp2; refine tri_draw mixed rfl ?_)
 refine any_pure (i := 0) (l' := [tt,ff,ff,ff,ff,ff,ff,ff,ff]) rfl npI (pM rfl) rfl (by kernel_rfl) rfl rfl ?_
 refine aP 1 rfl (pIN (j := 1) rfl rfl rfl (by omega)) rfl ?_
 refine aL 2 rfl (load_a rfl rfl (hat1 _) rfl) rfl ?_
 refine aP 3 rfl (pM rfl) rfl ?_
 refine aP 4 rfl (pIN (j := 2) rfl rfl rfl (by omega)) rfl ?_
 refine aL 5 rfl (load_a rfl rfl (hat2 _) rfl) rfl ?_
 refine any_two (j := 6) (j' := 7) (by kernel_rfl) ?_ ?_
 (refine one_imm rfl rfl (meet_fn _ _ _ _ _ (by assumption) (getD_ar har (by omega)) (getD_ar har (by omega)) hre1 hre2) rfl rfl rfl (fun v GM hleM hh => ?_); obtain ⟨cM, rfl, hrM⟩ := hh; obtain ⟨p7, c7, e7, rfl, _⟩ := hrM.open)
 refine aO' 7 ?_
 (refine one_step0 rfl (step_alloc rfl) rfl rfl ?_; rintro _ ⟨b782, rfl⟩)
 refine aO' 8 ?_
 refine oT' rfl ?_
 refine aD' ?_
 refine nS (tS ?_)
 (have hl3 : n = 3 := hop.2.1 (by omega); obtain ⟨b0, o0, q0, d0, hp0, hat0, hre0, hg0⟩ := hsl.kidD hkl (i := 0) (by omega) (by omega); obtain ⟨b1, o1, q1, d1, hp1, hat1, hre1, hg1⟩ := hsl.kidD hkl (i := 1) (by omega) (by omega); cases hp0; cases hp1; obtain ⟨b2, o2, q2, d2, hp2, hat2, hre2, hg2⟩ := hsl.kidD hkl (i := 2) (by omega) (by omega); cases hp2; refine tri_draw mixed rfl ?_)
 refine any_load (i := 0) (l' := [tt,ff,ff,ff,ff,ff,ff,ff]) rfl npI (lBa rfl rfl) rfl (by kernel_rfl) rfl rfl ?_
 refine aL 1 rfl (lBa rfl rfl) rfl ?_
 refine aL 2 rfl (lBa rfl rfl) rfl ?_
 refine aL 4 rfl (lBa rfl rfl) rfl ?_
 refine aO' 3 ?_
 (refine one_step0 rfl (step_buildSlice rfl rfl rfl (by omega) (by unfold maxLen; omega) rfl) rfl rfl ?_; rintro _ ⟨b794, rfl⟩)
 refine aP 5 rfl (pA rfl) rfl ?_
 refine aO' 6 ?_
 refine oT' rfl ?_
 refine aP 7 rfl (pA rfl) rfl ?_
 refine aD' ?_
 refine nS ?_
 (refine ret_freeze Pk.here (fun G5 hle5 hsl5 hno5 => ?_))
 refine tT (rB (rS (rF3 (rT rfl) (rC rfl (lBa rfl rfl)) (rT rfl) ?_)))
 (have hk1 : k = 9 := (by omega); subst hk1; exact WtP.three hsl5 (tyBool_r _) (hrM.mono hle5) (hrM.mono hle5) (hrM.mono hle5) (by rw [mW9, if_pos ⟨by assumption, by assumption⟩]; rfl))
 (refine one_step0 rfl (step_alloc rfl) rfl rfl ?_; rintro _ ⟨b807, rfl⟩)
 refine aO' 6 ?_
 (refine one_imm rfl rfl (meet_fn _ _ _ _ _ (by assumption) (getD_ar har (by omega)) (getD_ar har (by omega)) hre1 hre2) rfl rfl rfl (fun v GM hleM hh => ?_); obtain ⟨cM, rfl, hrM⟩ := hh; obtain ⟨p7, c7, e7, rfl, _⟩ := hrM.open)
 refine aO' 8 ?_
 refine oT' rfl ?_
 refine aD' ?_
 refine nS (tS ?_)
 (have hl3 : n = 3 := hop.2.1 (by omega); obtain ⟨b0, o0, q0, d0, hp0, hat0, hre0, hg0⟩ := hsl.kidD hkl (i := 0) (by omega) (by omega); obtain ⟨b1, o1, q1, d1, hp1, hat1, hre1, hg1⟩ := hsl.kidD hkl (i := 1) (by omega) (by omega); cases hp0; cases hp1; obtain ⟨b2, o2, q2, d2, hp2, hat2, hre2, hg2⟩ := hsl.kidD hkl (i := 2) (by omega) (by omega); cases hp2; refine tri_draw mixed rfl ?_)
 refine any_load (i := 0) (l' := [tt,ff,ff,ff,ff,ff,ff,ff]) rfl npI (lBa rfl rfl) rfl (by kernel_rfl) rfl rfl ?_
 refine aL 1 rfl (lBa rfl rfl) rfl ?_
 refine aL 2 rfl (lBa rfl rfl) rfl ?_
 refine aL 4 rfl (lBa rfl rfl) rfl ?_
 refine aO' 3 ?_
 (refine one_step0 rfl (step_buildSlice rfl rfl rfl (by omega) (by unfold maxLen; omega) rfl) rfl rfl ?_; rintro _ ⟨b821, rfl⟩)
 refine aP 5 rfl (pA rfl) rfl ?_
 refine aO' 6 ?_
 refine oT' rfl ?_
 refine aP 7 rfl (pA rfl) rfl ?_
 refine aD' ?_
 refine nS ?_
 (refine ret_freeze Pk.here (fun G5 hle5 hsl5 hno5 => ?_))
 refine tT (rB (rS (rF3 (rT rfl) (rC rfl (lBa rfl rfl)) (rT rfl) ?_)))
 (have hk1 : k = 9 := (by omega); subst hk1; exact WtP.three hsl5 (tyBool_r _) (hrM.mono hle5) (hrM.mono hle5) (hrM.mono hle5) (by rw [mW9, if_pos ⟨by assumption, by assumption⟩]; rfl))
 refine aP 14 rfl (pNf rfl) rfl ?_
 refine aP 15 rfl (pPf rfl rfl) rfl ?_
 refine aD' ?_
 refine nS (cT rfl ?_)
 refine tS (tR (sQ (pBd rfl rfl) rfl (sQ (pA rfl) rfl (sS' ?_))))
 refine sQ (pA rfl) rfl (sD (nS (tT (rS (rB (rS ?_))))))
 refine rF3 (rT rfl) (rC rfl (lBa rfl rfl)) (rT rfl) ?_
 (have hk1 : k = 9 := (by omega); subst hk1; exact WtP.nil (u := ty0) (tyLeaf_r _ ⟨by omega, by omega⟩) (by rw [mW9, if_neg (fun hc => by first | exact Bool.noConfusion (hc.1.symm.trans (by assumption)) | exact Bool.noConfusion (hc.2.symm.trans (by assumption)) | exact Bool.noConfusion (hc.symm.trans (by assumption)))]; rfl))
 refine aP 5 rfl (pNf rfl) rfl ?_
 refine aP 6 rfl (pM rfl) rfl ?_
 refine aK' 7 rfl rfl rfl ?_
 refine aK' 8 rfl rfl rfl ?_
 refine aK' 9 rfl rfl rfl ?_
 refine aK' 10 rfl rfl rfl ?_
 refine aK' 11 rfl rfl rfl ?_
 refine aK' 12 rfl rfl rfl ?_
 refine aK' 13 rfl rfl rfl ?_
 refine aK' 14 rfl rfl rfl ?_
 refine aP 15 rfl (pPt rfl rfl) rfl ?_
 refine aD' ?_
 refine nS (cT rfl ?_)
 refine tS (tR (sQ (pBd rfl rfl) rfl (sQ (pA rfl) rfl (sS' ?_))))
 refine sQ (pA rfl) rfl (sD (nS (tT (rS (rB (rS ?_))))))
 refine rF3 (rT rfl) (rC rfl (lBa rfl rfl)) (rT rfl) ?_
 (have hk1 : k = 9 := (by omega); subst hk1; exact WtP.nil (u := ty0) (tyLeaf_r _ ⟨by omega, by omega⟩) (by rw [mW9, if_neg (fun hc => by first | exact Bool.noConfusion (hc.1.symm.trans (by assumption)) | exact Bool.noConfusion (hc.2.symm.trans (by assumption)) | exact Bool.noConfusion (hc.symm.trans (by assumption)))]; rfl))
 refine sQ (pA rfl) rfl (sD (nS (cF rfl ?_)))
 refine tS (tR (sB (pE rfl rfl) rfl rfl (fun h887 => ?_) (fun h887 => ?_)))
 refine sQ (pA rfl) rfl (sD (nS (cT rfl ?_)))
 refine tS ?_
 (have hl2 : n = 2 := hop.1 (by omega); obtain ⟨b0, o0, q0, d0, hp0, hat0, hre0, hg0⟩ := hsl.kidD hkl (i := 0) (by omega) (by omega); obtain ⟨b1, o1, q1, d1, hp1, hat1, hre1, hg1⟩ := hsl.kidD hkl (i := 1) (by omega) (by omega); cases hp0; cases hp1; refine tri_draw mixed rfl ?_)
 refine any_pure (i := 0) (l' := [tt,ff,ff,ff,ff,ff,ff,ff,ff,ff]) rfl npI (pM rfl) rfl (by kernel_rfl) rfl rfl ?_
 refine aP 1 rfl (pIN (j := 0) rfl rfl rfl (by omega)) rfl ?_
 refine aL 2 rfl (load_a rfl rfl (hat0 _) rfl) rfl ?_
 refine aP 3 rfl (pM rfl) rfl ?_
 refine aP 4 rfl (pIN (j := 1) rfl rfl rfl (by omega)) rfl ?_
 refine aL 5 rfl (load_a rfl rfl (hat1 _) rfl) rfl ?_
 refine aO' 6 ?_
 (refine one_imm rfl rfl (both_fn 5 _ _ _ _ _ ⟨by omega, by omega⟩ hre0 hre1) rfl rfl rfl (fun v GB hleB hh => ?_); obtain ⟨cB, rfl, hrB⟩ := hh; obtain ⟨p7, c7, e7, rfl, _⟩ := hrB.open)
 refine aP 7 rfl (pA rfl) rfl ?_
 refine aO' 8 ?_
 refine oT' rfl ?_
 refine aP 9 rfl (pA rfl) rfl ?_
 refine aD' ?_
 refine nS (tT (rB (rS (rF3 (rT rfl) (rC rfl (lBa rfl rfl)) (rT rfl) ?_))))
 (have hk1 : k = 10 := (by omega); subst hk1; exact WtP.nil hrB mW10)
 refine sQ (pA rfl) rfl (sD (nS (cF rfl ?_)))
 refine tS (tR (sB (pE rfl rfl) rfl rfl (fun h919 => ?_) (fun h919 => ?_)))
 refine sQ (pA rfl) rfl (sD (nS (cT rfl ?_)))
 refine tS ?_
 (have hl1 : n = 1 := hop.2.2 (by omega); obtain ⟨b0, o0, q0, d0, hp0, hat0, hre0, hg0⟩ := hsl.kidD hkl (i := 0) (by omega) (by omega); cases hp0; refine tri_draw mixed rfl ?_)
 refine any_pure (i := 0) (l' := [tt,ff,ff,ff,ff,ff,ff,ff,ff,ff,ff,ff,ff,ff]) rfl npI (pF0 rfl) rfl (by kernel_rfl) rfl rfl ?_
 refine aL 1 rfl (lBa rfl rfl) rfl ?_
 refine aP 3 rfl (pF0 rfl) rfl ?_
 refine aL 4 rfl (lBa rfl rfl) rfl ?_
 refine aP 5 rfl (pM rfl) rfl ?_
 refine aP 6 rfl (pIN (j := 0) rfl rfl rfl (by omega)) rfl ?_
 refine aL 7 rfl (load_a rfl rfl (hat0 _) rfl) rfl ?_
 refine aP 8 rfl (pF0 rfl) rfl ?_
 refine aL 9 rfl (lBa rfl rfl) rfl ?_
 refine any_two (j := 2) (j' := 10) (by kernel_rfl) ?_ ?_
 (refine one_step0 rfl (step_buildSlice rfl rfl rfl (by omega) (by unfold maxLen; omega) rfl) rfl rfl ?_; rintro _ ⟨b936, rfl⟩)
 refine aO' 10 ?_
 refine one_valb rfl rfl ((consistent_fn _ _ _ _ _ hre0 hrty)) rfl rfl rfl (fun h938 => ?_) (fun h938 => ?_)
 refine aP 11 rfl (pA rfl) rfl ?_
 refine aO' 12 ?_
 refine oT' rfl ?_
 refine aP 13 rfl (pA rfl) rfl ?_
 refine aD' ?_
 refine nS ?_
 (refine ret_freeze Pk.here (fun G5 hle5 hsl5 hno5 => ?_))
 refine tT (rB (rS (rF3 (rT rfl) (rC rfl (lBa rfl rfl)) (rT rfl) ?_)))
 (have hk1 : k = 13 := (by omega); subst hk1; refine WtP.one hsl5 (hrty.mono hle5) (hrty.mono hle5) ?_; rw [mW13]; split <;> first | rfl | (exfalso; simp_all; done))
 refine aP 11 rfl (pA rfl) rfl ?_
 refine aO' 12 ?_
 refine oT' rfl ?_
 refine aP 13 rfl (pA rfl) rfl ?_
 refine aD' ?_
 refine nS ?_
 (refine ret_freeze Pk.here (fun G5 hle5 hsl5 hno5 => ?_))
 refine tT (rB (rS (rF3 (rT rfl) (rC rfl (lBa rfl rfl)) (rT rfl) ?_)))
 (have hk1 : k = 13 := (by omega); subst hk1; refine WtP.one hsl5 (hrty.mono hle5) (hrty.mono hle5) ?_; rw [mW13]; split <;> first | rfl | (exfalso; simp_all; done))
 refine one_valb rfl rfl ((consistent_fn _ _ _ _ _ hre0 hrty)) rfl rfl rfl (fun h963 => ?_) (fun h963 => ?_)
 refine aO' 2 ?_
 (refine one_step0 rfl (step_buildSlice rfl rfl rfl (by omega) (by unfold maxLen; omega) rfl) rfl rfl ?_; rintro _ ⟨b965, rfl⟩)
 refine aP 11 rfl (pA rfl) rfl ?_
 refine aO' 12 ?_
 refine oT' rfl ?_
 refine aP 13 rfl (pA rfl) rfl ?_
 refine aD' ?_
 refine nS ?_
 (refine ret_freeze Pk.here (fun G5 hle5 hsl5 hno5 => ?_))
 refine tT (rB (rS (rF3 (rT rfl) (rC rfl (lBa rfl rfl)) (rT rfl) ?_)))
 (have hk1 : k = 13 := (by omega); subst hk1; refine WtP.one hsl5 (hrty.mono hle5) (hrty.mono hle5) ?_; rw [mW13]; split <;> first | rfl | (exfalso; simp_all; done))
 refine aO' 2 ?_
 (refine one_step0 rfl (step_buildSlice rfl rfl rfl (by omega) (by unfold maxLen; omega) rfl) rfl rfl ?_; rintro _ ⟨b979, rfl⟩)
 refine aP 11 rfl (pA rfl) rfl ?_
 refine aO' 12 ?_
 refine oT' rfl ?_
 refine aP 13 rfl (pA rfl) rfl ?_
 refine aD' ?_
 refine nS ?_
 (refine ret_freeze Pk.here (fun G5 hle5 hsl5 hno5 => ?_))
 refine tT (rB (rS (rF3 (rT rfl) (rC rfl (lBa rfl rfl)) (rT rfl) ?_)))
 (have hk1 : k = 13 := (by omega); subst hk1; refine WtP.one hsl5 (hrty.mono hle5) (hrty.mono hle5) ?_; rw [mW13]; split <;> first | rfl | (exfalso; simp_all; done))
 refine sQ (pA rfl) rfl (sD (nS (cF rfl ?_)))
 refine tK (nrm_block (nS (tS (tR (sQ (pM rfl) rfl ?_)))))
 (have hk11 : k = 11 ∨ k = 12 := (by omega); have hl1 : n = 1 := hop.2.2 (by omega); obtain ⟨b0, o0, q0, d0, hp0, hat0, hre0, hg0⟩ := hsl.kidD hkl (i := 0) (by omega) (by omega); cases hp0; refine sP (pIN (j := 0) rfl rfl rfl (by omega)) rfl rfl ?_)
 refine sL (load_a rfl rfl (hat0 _) rfl) rfl rfl ?_
 (refine seq_imm rfl (match_fn 5 (h.getD 0 ty0) G _ (.inr rfl) (getD_ar har (by omega)) hre0) rfl rfl (fun v G1 hle1 hh => ?_); obtain ⟨ma, mca, mb, mcb, rfl, hma, hmb, hma2, hmb2, hmm⟩ := hh; obtain ⟨p1, c1, e1, rfl, _⟩ := hma.open; obtain ⟨p2, c2, e2, rfl, _⟩ := hmb.open)
 refine sQ (pM rfl) rfl (sQ (pX rfl rfl) rfl (sQ (pX rfl rfl) rfl (sQ (pX rfl rfl) rfl ?_)))
 refine sE (step_alloc rfl) rfl (fun b1009 => ?_)
 refine sE (step_alloc rfl) rfl (fun b1010 => ?_)
 refine sS' ?_
 refine sS' ?_
 refine sQ (pA rfl) rfl (sD (nS (tS (tR (sL (lBa rfl rfl) rfl rfl ?_)))))
 refine sE (step_alloc rfl) rfl (fun b1019 => ?_)
 refine sS' ?_
 refine sD (nS (tS (tS (tR (sQ (pF0 rfl) rfl (sL (lBs rfl rfl) rfl rfl ?_))))))
 refine sB (pE rfl rfl) rfl rfl (fun h1028 => ?_) (fun h1028 => ?_)
 refine sD (nS (cT rfl ?_))
 refine tR (sL (lBa rfl rfl) rfl rfl ?_)
 refine sS' ?_
 refine sD (nS (tS ?_))
 (have hl1 : n = 1 := hop.2.2 (by omega); obtain ⟨b0, o0, q0, d0, hp0, hat0, hre0, hg0⟩ := hsl.kidD hkl (i := 0) (by omega) (by omega); cases hp0; refine tri_draw mixed rfl ?_)
 refine any_load (i := 0) (l' := [tt,ff,ff,ff,ff,ff,ff,ff,ff]) rfl npI (lBa rfl rfl) rfl (by kernel_rfl) rfl rfl ?_
 refine aL 1 rfl (lBa rfl rfl) rfl ?_
 refine aL 4 rfl (lBa rfl rfl) rfl ?_
 refine aP 5 rfl (pM rfl) rfl ?_
 refine aO' 2 ?_
 (refine one_imm rfl rfl (both_fn _ ma mb _ _ _ ⟨by omega, by omega⟩ hma hmb) rfl rfl rfl (fun v GB hleB hh => ?_); obtain ⟨cB, rfl, hrB⟩ := hh; obtain ⟨p7, c7, e7, rfl, _⟩ := hrB.open; have hma' := hma.mono hleB; have hmb' := hmb.mono hleB)
 refine aO' 3 ?_
 (refine one_step0 rfl (step_buildSlice rfl rfl rfl (by omega) (by unfold maxLen; omega) rfl) rfl rfl ?_; rintro _ ⟨b1046, rfl⟩)
 refine aP 6 rfl (pA rfl) rfl ?_
 refine aO' 7 ?_
 refine oT' rfl ?_
 refine aP 8 rfl (pA rfl) rfl ?_
 refine aD' ?_
 refine nS ?_
 (refine ret_freeze Pk.here (fun G5 hle5 hsl5 hno5 => ?_))
 refine tT (rF3 (rT rfl) (rC rfl (lBa rfl rfl)) (rT rfl) ?_)
 (refine WtP.one hsl5 (hrB.mono hle5) (hmb'.mono hle5) ?_; rw [mW11 (by omega)]; cases hq : mMatch 5 (h.getD 0 ty0) with | none => rfl | some q => (have hq2 := hmm q hq; subst hq2; dsimp only; rw [if_pos (by omega)]; rfl))
 refine sD (nS (cF rfl ?_))
 refine tK (nS (tS ?_))
 (have hl1 : n = 1 := hop.2.2 (by omega); obtain ⟨b0, o0, q0, d0, hp0, hat0, hre0, hg0⟩ := hsl.kidD hkl (i := 0) (by omega) (by omega); cases hp0; refine tri_draw mixed rfl ?_)
 refine any_load (i := 0) (l' := [tt,ff,ff,ff,ff,ff,ff,ff,ff]) rfl npI (lBa rfl rfl) rfl (by kernel_rfl) rfl rfl ?_
 refine aL 1 rfl (lBa rfl rfl) rfl ?_
 refine aL 4 rfl (lBa rfl rfl) rfl ?_
 refine aP 5 rfl (pM rfl) rfl ?_
 refine aO' 2 ?_
 (refine one_imm rfl rfl (both_fn _ ma mb _ _ _ ⟨by omega, by omega⟩ hma hmb) rfl rfl rfl (fun v GB hleB hh => ?_); obtain ⟨cB, rfl, hrB⟩ := hh; obtain ⟨p7, c7, e7, rfl, _⟩ := hrB.open; have hma' := hma.mono hleB; have hmb' := hmb.mono hleB)
 refine aO' 3 ?_
 (refine one_step0 rfl (step_buildSlice rfl rfl rfl (by omega) (by unfold maxLen; omega) rfl) rfl rfl ?_; rintro _ ⟨b1071, rfl⟩)
 refine aP 6 rfl (pA rfl) rfl ?_
 refine aO' 7 ?_
 refine oT' rfl ?_
 refine aP 8 rfl (pA rfl) rfl ?_
 refine aD' ?_
 refine nS ?_
 (refine ret_freeze Pk.here (fun G5 hle5 hsl5 hno5 => ?_))
 refine tT (rF3 (rT rfl) (rC rfl (lBa rfl rfl)) (rT rfl) ?_)
 (refine WtP.one hsl5 (hrB.mono hle5) (hma'.mono hle5) ?_; rw [mW11 (by omega)]; cases hq : mMatch 5 (h.getD 0 ty0) with | none => rfl | some q => (have hq2 := hmm q hq; subst hq2; dsimp only; rw [if_neg (by omega)]; rfl))
theorem mNodeT_valid {cx : Cx} {k : Int} {nm : ByteArray} {ty : Ty} {h w : List Ty} {t : Ty} (he : mNodeT cx k nm ty h = some (w, t)) : tValid t = true ∧ mWanted cx k nm ty h = some (w, t) := by
 unfold mNodeT at he
 split at he
 ·rename_i w' t' hw
  split at he
  ·cases he; exact ⟨by assumption, hw⟩
  ·cases he
 ·cases he
theorem castTy_valid {cx : Cx} {k : Int} {nm : ByteArray} {num : Int} {ty fr : Ty} {lb : Int} {ks : List Tm} {t : Ty} (h14 : k = 14 → tValid ty = true) (h : castTy cx (.mk k nm num ty fr lb ks) = some t) : tValid t = true := by
 rw [castTy] at h
 split at h
 ·cases h
 ·split at h
  ·rename_i hk
   split at h
   ·cases h; exact h14 hk
   ·cases h
  ·split at h
   ·cases h
   ·rename_i w u hw
    split at h
    ·cases h; exact (mNodeT_valid hw).1
    ·cases h
theorem mWanted_len {cx : Cx} {k : Int} {nm : ByteArray} {ty : Ty} {h w : List Ty} {t : Ty} (hop : (k = 6 ∨ k = 7 ∨ k = 8 ∨ k = 10 → h.length = 2) ∧ (k = 9 → h.length = 3) ∧ (k = 5 ∨ k = 11 ∨ k = 12 ∨ k = 13 → h.length = 1)) (hk : 1 ≤ k ∧ k ≤ 14) (h14 : k ≠ 14) (he : mWanted cx k nm ty h = some (w, t)) : w.length ≤ h.length := by
 have hkk : k = 1 ∨ k = 2 ∨ (k = 3 ∨ k = 4) ∨ k = 5 ∨ k = 6 ∨ (k = 7 ∨ k = 8) ∨ k = 9 ∨ k = 10 ∨ (k = 11 ∨ k = 12) ∨ k = 13 := by omega
 rcases hkk with rfl | rfl | hk | rfl | rfl | hk | rfl | rfl | hk | rfl
 ·rw [mW1] at he; split at he <;> cases he; simp
 ·rw [mW2] at he; cases he; simp
 ·rw [mW34 hk] at he; cases he; simp
 ·rw [mW5] at he; cases he; simp
 ·rw [mW6] at he
  split at he
  ·split at he <;> cases he
   have := hop.1 (by omega); simp [this]
  ·cases he
 ·rw [mW78 hk] at he
  split at he <;> cases he
  have := hop.1 (by omega); simp [this]
 ·rw [mW9] at he
  split at he <;> cases he
  have := hop.2.1 (by omega); simp [this]
 ·rw [mW10] at he; cases he; simp
 ·rw [mW11 hk] at he
  split at he
  ·cases he; have := hop.2.2 (by omega); simp [this]
  ·cases he
 ·rw [mW13] at he
  split at he <;> cases he
  have := hop.2.2 (by omega); simp [this]
theorem RCx.snoc {G G' : IM} {cx : Cx} {n : Nat} {p' : Option Addr} {c' : Nat} {es : List (List Value)} {e : List Value} {nm : ByteArray} {t : Ty} (h1 : n = cx.length) (hl : es.length = n) (h2 : ∀ x ∈ es, x.length = 3) (h3 : ∀ x ∈ es, x.all (·.oneCell') = true)
  (h4 : ∀ (i : Nat) (b : ByteArray × Ty), cx[i]? = some b → ∃ e, es[i]? = some e ∧ RBd2 G b e) (hg : IMle G G') (he : RBd2 G' (nm, t) e) (hs : Sl G' p' (n + 1) c' 3 (es.flatten ++ e)) : RCx G' (cx ++ [(nm, t)]) p' (n + 1) c' := by
 have hel : e.length = 3 ∧ e.all (·.oneCell') = true := by obtain ⟨q, d, rfl, _⟩ := he; exact ⟨rfl, rfl⟩
 refine ⟨by simp [h1], es ++ [e], SlE.of (by simpa using hs) (by simp [hl]) ?_ ?_, ?_⟩
 ·simp only [List.forall_mem_append, List.forall_mem_singleton]; exact ⟨h2, hel.1⟩
 ·simp only [List.forall_mem_append, List.forall_mem_singleton]; exact ⟨h3, hel.2⟩
 ·intro i b hb
  rw [List.getElem?_append] at hb ⊢
  split at hb
  ·rename_i hi
   obtain ⟨e', he', hr⟩ := h4 i b hb
   rw [if_pos (by omega)]
   exact ⟨e', he', hr.mono hg⟩
  ·rename_i hi
   have : i - cx.length = 0 := by
    apply Classical.byContradiction; intro hc
    rw [List.getElem?_eq_none (by simp; omega)] at hb; cases hb
   rw [this] at hb
   simp only [List.getElem?_cons_zero, Option.some.injEq] at hb
   subst hb
   rw [if_neg (by omega)]
   exact ⟨e, by rw [show i - es.length = 0 by omega]; rfl, he⟩
theorem clone_bd (G : IM) (p : Option Addr) (n c : Nat) (es : List (List Value)) (h : SlE G p n c 3 es) (hn : n ≤ 4294967296) :
  Fn Tryz.prog 88 [.slice p n c] [] G (fun G' v outs => G' = G ∧ ∃ p' c', v = .slice p' n c' ∧ outs = [.slc p' c' 107 3 n es.flatten]) := by
 have hp := h.sl.nn
 have hS := h.sl
 have hone : ∀ u ∈ es.flatten, u.oneCell' = true := by
  intro u hu
  obtain ⟨e, he, hue⟩ := List.mem_flatten.1 hu
  exact List.all_eq_true.1 (h.one e he) u hue
 refine fn_enter Tryz.func88 rfl Tryz.ntmps88 Tryz.results88 rfl ?_
 intro w0
 cases p with
 | none =>
  obtain rfl := hp rfl
  obtain rfl : es = [] := List.length_eq_zero_iff.1 h.len
  refine tri_nil 107 3 ?_
  refine tS ?_
  refine tR ?_
  refine sQ (pA rfl) rfl ?_
  refine sD ?_
  refine nS ?_
  refine tS ?_
  refine tS ?_
  refine tR ?_
  refine sQ (pM rfl) rfl ?_
  refine sQ (pure_slnil_t rfl rfl rfl) rfl ?_
  refine sD ?_
  refine nS ?_
  refine cT rfl ?_
  refine tS ?_
  refine tR ?_
  refine sQ (pA rfl) rfl ?_
  refine sD ?_
  refine nS ?_
  refine tT ?_
  refine rS ?_
  refine ret_own1 (rT rfl) SubH.refl ?_
  exact ⟨rfl, _, _, rfl, rfl⟩
 | some a =>
  refine tS ?_
  refine tR ?_
  refine sQ (pA rfl) rfl ?_
  refine sD ?_
  refine nS ?_
  refine tS ?_
  refine tS ?_
  refine tR ?_
  refine sQ (pM rfl) rfl ?_
  refine sQ (pure_slnil_f rfl rfl rfl) rfl ?_
  refine sD ?_
  refine nS ?_
  refine cF rfl ?_
  refine tK ?_
  refine nS ?_
  refine tS ?_
  refine tR ?_
  (refine seq_step (step_buildSlice rfl rfl rfl (by omega) (by unfold maxLen; omega) rfl) rfl ?_; rintro _ ⟨b18, rfl⟩)
  refine sQ (pM rfl) rfl ?_
  refine seq_appendSl rfl rfl rfl rfl rfl (fun _ _ => by repeat (first | exact Sw.here | apply Sw.there)) hS hone (Nat.zero_le _) (by unfold maxLen; omega) (by omega) rfl (fun pn cn => ?_)
  refine sQ (pA rfl) rfl ?_
  refine sD ?_
  refine nS ?_
  refine tT ?_
  refine ret_own1 (rT rfl) SubH.refl ?_
  exact ⟨rfl, _, _, by rw [Nat.zero_add], by rw [Nat.zero_add]; rfl⟩
theorem TyOk.no {r : Option Ty} {G G' : IM} {cu : List Value} {u : Ty} {b : Bool} (hu : RTy G' u cu) (hb : b = false) (h : r = none) : TyOk r G G' (.tuple ⟨[.agg ⟨cu⟩, .bool b]⟩) [] := by
 subst hb h
 exact ⟨rfl, cu, u, rfl, hu, by simp⟩
section
variable {cx : Cx} {k : Int} {nm : ByteArray} {num : Int} {ty fr : Ty} {lb : Int} {ks : List Tm}
theorem mNodeT_go {us w : List Ty} {t : Ty} (h : mWanted cx k nm ty us = some (w, t)) {b : Bool} (hb : tValid t = b) : mNodeT cx k nm ty us = if b = true then some (w, t) else none := by
 unfold mNodeT; rw [h]; simp only [hb]
theorem mNodeT_no {us : List Ty} (h : mWanted cx k nm ty us = none) : mNodeT cx k nm ty us = none := by
 unfold mNodeT; rw [h]
end
/-- A term that is valid, or none. -/
def mChk (r : Tm) : Tm × Bool := if castValid r = true then (r, true) else (tm0, false)
def mReplaceAt (t : Tm) (path : List Int) (x : Tm) : Tm × Bool := if castValid t = true ∧ castValid x = true ∧ tAt t path ≠ none then mChk (mPut t path x) else (tm0, false)
mutual
theorem sShape_down (D N : Int) : ∀ (t : Tm) (d d' : Int), d' ≤ d → sShape D N t d = true → sShape D N t d' = true
 | .mk k nm num ty fr lb ks, d, d', hd, h => by
  obtain ⟨h1, h2, h3, h4⟩ := sShape_go2 h
  rw [sShape_go (by omega) h2 h3]
  exact sShapeL_down D N ks _ _ (by omega) h4
theorem sShapeL_down (D N : Int) : ∀ (ts : List Tm) (d d' : Int), d' ≤ d → sShapeL D N ts d = true → sShapeL D N ts d' = true
 | [], d, d', hd, h => by rw [sShapeL]
 | t :: ts, d, d', hd, h => by
  rw [sShapeL, Bool.and_eq_true] at h ⊢
  exact ⟨sShape_down D N t d d' hd h.1, sShapeL_down D N ts d d' hd h.2⟩
end
theorem lookN_app (cy : Cx) (nm : ByteArray) : ∀ (cx : Cx) (n : Nat), n ≤ cx.length → ∀ t, lookN cx nm n = some t → lookN (cy ++ cx) nm (cy.length + n) = some t
 | cx, 0, _, t, h => by rw [lookN] at h; cases h
 | cx, n + 1, hn, t, h => by
  have hb : cx[n]? = some cx[n] := List.getElem?_eq_getElem (by omega)
  have hb2 : (cy ++ cx)[cy.length + n]? = some (cx[n].1, cx[n].2) := by
   rw [List.getElem?_append_right (by omega), show cy.length + n - cy.length = n by omega]; exact hb
  by_cases he : cx[n].1 = nm
  ·rw [lookN_eq (x := cx[n].1) (t := cx[n].2) hb he] at h
   rw [← Nat.add_assoc, lookN_eq hb2 he]; exact h
  ·rw [lookN_ne (x := cx[n].1) (t := cx[n].2) hb he] at h
   rw [← Nat.add_assoc, lookN_ne hb2 he]
   exact lookN_app cy nm cx n (by omega) t h
theorem mLook_app {cy cx : Cx} {nm : ByteArray} {t : Ty} (h : mLook cx nm = some t) : mLook (cy ++ cx) nm = some t := by
 unfold mLook at h ⊢
 rw [List.length_append]
 exact lookN_app cy nm cx _ (Nat.le_refl _) t h
theorem mWanted_app {cy cx : Cx} {k : Int} {nm : ByteArray} {ty : Ty} {h : List Ty} {r : List Ty × Ty} (hr : mWanted cx k nm ty h = some r) : mWanted (cy ++ cx) k nm ty h = some r := by
 unfold mWanted at hr ⊢
 split
 ·rename_i hk
  rw [if_pos hk] at hr
  split at hr
  ·rename_i t ht; rw [mLook_app ht]; exact hr
  ·cases hr
 ·rename_i hk
  rw [if_neg hk] at hr
  exact hr
theorem mNodeT_app {cy cx : Cx} {k : Int} {nm : ByteArray} {ty : Ty} {h : List Ty} {r : List Ty × Ty} (hr : mNodeT cx k nm ty h = some r) : mNodeT (cy ++ cx) k nm ty h = some r := by
 unfold mNodeT at hr ⊢
 split at hr
 ·rename_i w t hw; rw [mWanted_app hw]; exact hr
 ·cases hr
theorem inCx_app (cy cx : Cx) (k : Int) (nm : ByteArray) (ty : Ty) : inCx (cy ++ cx) k nm ty = cy ++ inCx cx k nm ty := by
 unfold inCx; split <;> simp
mutual
theorem castTy_app (cy : Cx) : ∀ (e : Tm) (cx : Cx) (t : Ty), castTy cx e = some t → castTy (cy ++ cx) e = some t
 | .mk k nm num ty fr lb ks, cx, t, h => by
  rw [castTy] at h ⊢
  split at h
  ·cases h
  ·rename_i hs hh
   rw [inCx_app, castTyL_app cy ks _ hs hh]
   dsimp only
   split at h
   ·rename_i hk; rw [if_pos hk]; exact h
   ·rename_i hk
    rw [if_neg hk]
    split at h
    ·cases h
    ·rename_i w u hw
     rw [mNodeT_app hw]; exact h
theorem castTyL_app (cy : Cx) : ∀ (ts : List Tm) (cx : Cx) (us : List Ty), castTyL cx ts = some us → castTyL (cy ++ cx) ts = some us
 | [], cx, us, h => by rw [castTyL] at h ⊢; exact h
 | t :: ts, cx, us, h => by
  rw [castTyL] at h ⊢
  split at h
  ·cases h
  ·rename_i u hu
   split at h
   ·cases h
   ·rename_i us' hus
    rw [castTy_app cy t cx u hu]
    dsimp only
    rw [castTyL_app cy ts cx us' hus]
    exact h
end
theorem castTyL_get {cx : Cx} : ∀ {ks : List Tm} {h : List Ty}, castTyL cx ks = some h → ∀ (j : Nat) (hj : j < ks.length), ∃ u, castTy cx ks[j] = some u ∧ ∀ x, castTy cx x = some u → castTyL cx (ks.set j x) = some h
 | [], h, _, j, hj => by simp at hj
 | t :: ts, h, he, j, hj => by
  rw [castTyL] at he
  split at he
  ·cases he
  ·rename_i u hu
   split at he
   ·cases he
   ·rename_i us hus
    cases he
    cases j with
    | zero => exact ⟨u, hu, fun x hx => by rw [List.set_cons_zero, castTyL, hx]; dsimp only; rw [hus]⟩
    | succ j =>
     obtain ⟨v, hv, hv2⟩ := castTyL_get hus j (by simpa using hj)
     exact ⟨v, hv, fun x hx => by rw [List.set_cons_succ, castTyL, hu]; dsimp only; rw [hv2 x hx]⟩
/-- Operands, cast where their types are not the wanted ones; labels are counted. -/
def mCasts : List Tm → List Ty → List Ty → Int → List Tm × Int
 | u :: us, a :: h, b :: w, l => if tSame a b = true then (u :: (mCasts us h w l).1, (mCasts us h w l).2) else (mCst u a b (l + 1) :: (mCasts us h w (l + 1)).1, (mCasts us h w (l + 1)).2)
 | us, _, _, l => (us, l)
/-- What becomes of a node. -/
def mElN (cx : Cx) (k : Int) (nm : ByteArray) (num : Int) (ty fr : Ty) (lb : Int) (us : List Tm) (h : List Ty) (l : Int) : Option (Tm × Ty × Int) :=
 match mNodeT cx k nm ty h with
 | none => none
 | some (w, t) => some (if k = 13 then (mCasts us h w l).1.getD 0 tm0 else .mk k nm num ty fr lb (mCasts us h w l).1, t, (mCasts us h w l).2)
mutual
/-- A term with casts, its type, the last label. -/
def mEl (cx : Cx) : Tm → Int → Option (Tm × Ty × Int)
 | .mk k nm num ty fr lb ks, l => match mElL (inCx cx k nm ty) ks l with
  | none => none
  | some (us, h, l') => mElN cx k nm num ty fr lb us h l'
def mElL (cx : Cx) : List Tm → Int → Option (List Tm × List Ty × Int)
 | [], l => some ([], [], l)
 | t :: ts, l => match mEl cx t l with
  | none => none
  | some (u, a, l') => match mElL cx ts l' with
   | none => none
   | some (us, h, l'') => some (u :: us, a :: h, l'')
end
def mInsert (e : Tm) : Option (Tm × Ty) := if termValid e = true then (match mEl [] e 0 with | some (u, t, _) => some (u, t) | none => none) else none
/- The type alone, as the reference looks for it. -/
def mTySN (cx : Cx) (k : Int) (nm : ByteArray) (ty : Ty) (h : List Ty) : Option Ty := match mWanted cx k nm ty h with
 | some (_, t) => if (k = 5 ∨ k = 10) ∧ tValid t = false then none else some t
 | none => none
mutual
def mTyS (cx : Cx) : Tm → Option Ty
 | .mk k nm num ty fr lb ks => match mTySL (inCx cx k nm ty) ks with
  | none => none
  | some h => mTySN cx k nm ty h
def mTySL (cx : Cx) : List Tm → Option (List Ty)
 | [] => some []
 | t :: ts => match mTyS cx t with
  | none => none
  | some a => match mTySL cx ts with
   | none => none
   | some h => some (a :: h)
end
theorem tScan_mk (k : Int) (ks : List Ty) (d : Int) : tScan (.mk k ks) d = (decide (d ≤ 4) && decide (tyOps k = ks.length) && tScanL ks (d + 1)) := by rw [tScan]
mutual
theorem tScan_up : ∀ (t : Ty) (d e : Int), e ≤ d → tScan t d = true → tScan t e = true
 | .mk k ks, d, e, h, hs => by
  rw [tScan_mk, Bool.and_eq_true, Bool.and_eq_true, decide_eq_true_eq, decide_eq_true_eq] at hs ⊢
  exact ⟨⟨by omega, hs.1.2⟩, tScanL_up ks (d + 1) (e + 1) (by omega) hs.2⟩
theorem tScanL_up : ∀ (ts : List Ty) (d e : Int), e ≤ d → tScanL ts d = true → tScanL ts e = true
 | [], d, e, h, hs => by rw [tScanL]
 | t :: ts, d, e, h, hs => by
  rw [tScanL, Bool.and_eq_true] at hs ⊢
  exact ⟨tScan_up t d e h hs.1, tScanL_up ts d e h hs.2⟩
end
mutual
theorem meet_scan : ∀ (a b : Ty) (d : Int), tCons a b = true → tScan a d = true → tScan b d = true → tScan (mMeet a b) d = true
 | .mk k ks, .mk k' ks', d, hc, ha, hb => by
  rw [mMeet_mk]
  split
  ·exact hb
  ·split
   ·exact ha
   ·rw [tCons_mk] at hc
    rw [tScan_mk, Bool.and_eq_true, Bool.and_eq_true, decide_eq_true_eq, decide_eq_true_eq] at ha hb ⊢
    simp only [Bool.or_eq_true, Bool.and_eq_true, decide_eq_true_eq] at hc
    obtain ⟨hk, hl⟩ : k = k' ∧ tConsL ks ks' = true := by
     rcases hc with (h | h) | h
     ·contradiction
     ·contradiction
     ·exact h
    subst hk
    obtain ⟨m1, m2⟩ := meet_scanL ks ks' (d + 1) hl ha.2 hb.2
    exact ⟨⟨ha.1.1, by rw [m2]; exact ha.1.2⟩, m1⟩
theorem meet_scanL : ∀ (xs ys : List Ty) (d : Int), tConsL xs ys = true → tScanL xs d = true → tScanL ys d = true → tScanL (mMeetL xs ys) d = true ∧ (mMeetL xs ys).length = xs.length
 | [], [], d, _, _, _ => by simp [mMeetL, tScanL]
 | [], b :: ys, d, hc, _, _ => by simp [tConsL] at hc
 | a :: xs, [], d, hc, _, _ => by simp [tConsL] at hc
 | a :: xs, b :: ys, d, hc, ha, hb => by
  rw [tConsL, Bool.and_eq_true] at hc
  rw [tScanL, Bool.and_eq_true] at ha hb
  obtain ⟨m1, m2⟩ := meet_scanL xs ys d hc.2 ha.2 hb.2
  rw [mMeetL, tScanL, Bool.and_eq_true]
  exact ⟨⟨meet_scan a b d hc.1 ha.1 hb.1, m1⟩, by simp [m2]⟩
end
theorem look_valid {cx : Cx} (h : ∀ b ∈ cx, tValid b.2 = true) {nm : ByteArray} {t : Ty} : ∀ {n : Nat}, lookN cx nm n = some t → tValid t = true
 | 0, hl => by simp [lookN] at hl
 | n + 1, hl => by
  rw [lookN] at hl
  split at hl
  ·rename_i b hb
   split at hl
   ·cases hl; exact h b (List.mem_of_getElem? hb)
   ·exact look_valid h hl
  ·exact look_valid h hl
theorem match_valid {k : Int} {t a b : Ty} (hk : k = 4 ∨ k = 5) (ht : tValid t = true) (h : mMatch k t = some (a, b)) : tValid a = true ∧ tValid b = true := by
 obtain ⟨tk, ks⟩ := t
 rw [show mMatch k (.mk tk ks) = (if tk = k then some (ks.getD 0 ty0, ks.getD 1 ty0) else if tk = 1 then some (tyAny, tyAny) else none) from rfl] at h
 by_cases he : tk = k
 ·rw [if_pos he] at h
  cases h
  unfold tValid at ht ⊢
  rw [tScan_mk, Bool.and_eq_true, Bool.and_eq_true, decide_eq_true_eq, decide_eq_true_eq] at ht
  have h2 : ks.length = 2 := by
   have : tyOps tk = 2 := by rw [he]; rcases hk with rfl | rfl <;> rfl
   omega
  match ks, h2, ht.2 with
  | [x, y], _, hL =>
   simp only [tScanL, Bool.and_eq_true] at hL
   exact ⟨tScan_up _ 2 1 (by omega) hL.1, tScan_up _ 2 1 (by omega) hL.2.1⟩
 ·rw [if_neg he] at h
  by_cases h1 : tk = 1
  ·rw [if_pos h1] at h
   cases h
   exact ⟨by decide, by decide⟩
  ·rw [if_neg h1] at h; cases h
theorem getD_in {l : List Ty} {i : Nat} (h : i < l.length) : l.getD i ty0 ∈ l := by
 rw [List.getD_eq_getElem?_getD, List.getElem?_eq_getElem h, Option.getD_some]; exact List.getElem_mem h
theorem wanted_valid {cx : Cx} {k : Int} {nm : ByteArray} {ty : Ty} {h w : List Ty} {t : Ty} (hcx : ∀ b ∈ cx, tValid b.2 = true) (hh : ∀ a ∈ h, tValid a = true) (hd : tValid (h.getD 0 ty0) = true ∨ h = []) (hty : k = 13 → tValid ty = true) (hn : tmOps k = (h.length : Int)) (hw : mWanted cx k nm ty h = some (w, t)) (h510 : k ≠ 5 ∧ k ≠ 10) : tValid t = true := by
 have hg : ∀ i, i < h.length → tValid (h.getD i ty0) = true := fun i hi => hh _ (getD_in hi)
 unfold mWanted at hw
 split at hw
 ·split at hw
  ·rename_i u hu; cases hw; exact look_valid hcx hu
  ·cases hw
 split at hw
 ·cases hw; decide
 split at hw
 ·cases hw; decide
 split at hw
 ·exact absurd (by assumption) h510.1
 split at hw
 ·rename_i hk6
  have hl : h.length = 2 := by have : tmOps k = 2 := (by rw [hk6]; rfl); omega
  split at hw
  ·rename_i a b hm
   split at hw
   ·cases hw; exact (match_valid (.inl rfl) (hg 0 (by omega)) hm).2
   ·cases hw
  ·cases hw
 split at hw
 ·split at hw
  ·cases hw; split <;> decide
  ·cases hw
 split at hw
 ·rename_i hk9
  have hl : h.length = 3 := by have : tmOps k = 3 := (by rw [hk9]; rfl); omega
  split at hw
  ·rename_i hc
   cases hw
   exact meet_scan _ _ 1 hc.2 (hg 1 (by omega)) (hg 2 (by omega))
  ·cases hw
 split at hw
 ·exact absurd (by assumption) h510.2
 split at hw
 ·split at hw
  ·cases hw; exact hty (by assumption)
  ·cases hw
 ·split at hw
  ·rename_i a b hm
   have hl : h.length ≠ 0 := by
    intro h0
    rw [List.length_eq_zero_iff] at h0
    subst h0
    rw [show mMatch 5 (([] : List Ty).getD 0 ty0) = none from rfl] at hm
    cases hm
   cases hw
   have := match_valid (.inr rfl) (hg 0 (by omega)) hm
   split
   ·exact this.2
   ·exact this.1
  ·cases hw
def cxV (cx : Cx) : Prop := ∀ b ∈ cx, tValid b.2 = true
theorem cxV_nil : cxV [] := by intro b hb; simp at hb
theorem cxV_in {cx : Cx} {k : Int} {nm : ByteArray} {ty : Ty} (h : cxV cx) (ht : k = 5 → tValid ty = true) : cxV (inCx cx k nm ty) := by
 unfold inCx
 split
 ·intro b hb
  rcases List.mem_append.1 hb with hb | hb
  ·exact h b hb
  ·obtain rfl := List.mem_singleton.1 hb; exact ht (by assumption)
 ·exact h
/-- What the two look-ups of a node's type say. -/
theorem node_tyS {cx : Cx} {k : Int} {nm : ByteArray} {ty : Ty} {h : List Ty} (hcx : cxV cx) (hh : ∀ a ∈ h, tValid a = true) (hty : k = 13 → tValid ty = true) (hn : tmOps k = (h.length : Int)) :
  (∀ w t, mNodeT cx k nm ty h = some (w, t) → mTySN cx k nm ty h = some t ∧ tValid t = true) ∧ (mNodeT cx k nm ty h = none → mTySN cx k nm ty h = none) := by
 unfold mNodeT mTySN
 have hv := fun w t (e : mWanted cx k nm ty h = some (w, t)) (h5 : k ≠ 5 ∧ k ≠ 10) => wanted_valid hcx hh (by cases h with | nil => exact .inr rfl | cons x xs => exact .inl (hh _ (by simp))) hty hn e h5
 cases hw : mWanted cx k nm ty h with
 | none => simp
 | some p =>
  obtain ⟨w, t⟩ := p
  have hv := hv w t hw
  simp only
  by_cases h5 : k = 5 ∨ k = 10
  ·cases ht : tValid t with
   | true => simp [ht]
   | false => simp [h5]
  ·have := hv (by omega)
   simp [this]
theorem el_tySL (ks : List Tm) (ih : ∀ t ∈ ks, ∀ d cx l, sShape 12 14 t d = true → cxV cx → (∀ u a l', mEl cx t l = some (u, a, l') → mTyS cx t = some a ∧ tValid a = true) ∧ (mEl cx t l = none → mTyS cx t = none)) :
  ∀ d cx l, sShapeL 12 14 ks d = true → cxV cx → (∀ us h l', mElL cx ks l = some (us, h, l') → mTySL cx ks = some h ∧ (∀ a ∈ h, tValid a = true) ∧ h.length = ks.length ∧ us.length = ks.length) ∧ (mElL cx ks l = none → mTySL cx ks = none) := by
 induction ks with
 | nil =>
  intro d cx l _ _
  refine ⟨fun us h l' he => ?_, fun he => by simp [mElL] at he⟩
  simp only [mElL, Option.some.injEq, Prod.mk.injEq] at he
  obtain ⟨rfl, rfl, _⟩ := he
  exact ⟨by rw [mTySL], by simp, rfl, rfl⟩
 | cons t ts ihl =>
  intro d cx l hs hcx
  rw [sShapeL, Bool.and_eq_true] at hs
  obtain ⟨a1, a2⟩ := ih t List.mem_cons_self d cx l hs.1 hcx
  rw [mElL, mTySL]
  cases he : mEl cx t l with
  | none => rw [a2 he]; exact ⟨fun _ _ _ h => by simp at h, fun _ => rfl⟩
  | some p =>
   obtain ⟨u, a, l1⟩ := p
   obtain ⟨b1, b2⟩ := a1 u a l1 he
   rw [b1]
   obtain ⟨c1, c2⟩ := ihl (fun x hx => ih x (List.mem_cons_of_mem _ hx)) d cx l1 hs.2 hcx
   simp only
   cases hL : mElL cx ts l1 with
   | none => rw [c2 hL]; exact ⟨fun _ _ _ h => by simp at h, fun _ => rfl⟩
   | some q =>
    obtain ⟨us, h, l2⟩ := q
    obtain ⟨d1, d2, d3, d4⟩ := c1 us h l2 hL
    rw [d1]
    refine ⟨fun us' h' l' e => ?_, fun e => by simp at e⟩
    simp only [Option.some.injEq, Prod.mk.injEq] at e
    obtain ⟨rfl, rfl, _⟩ := e
    refine ⟨rfl, fun x hx => ?_, by simp [d3], by simp [d4]⟩
    rcases List.mem_cons.1 hx with rfl | hx
    ·exact b2
    ·exact d2 x hx
theorem el_tyS : ∀ (t : Tm) (d : Int) (cx : Cx) (l : Int), sShape 12 14 t d = true → cxV cx → (∀ u a l', mEl cx t l = some (u, a, l') → mTyS cx t = some a ∧ tValid a = true) ∧ (mEl cx t l = none → mTyS cx t = none) := by
 refine Tm.ind fun k nm num ty fr lb ks ih d cx l hs hcx => ?_
 obtain ⟨_, _, h3, h4⟩ := sShape_go2 hs
 obtain ⟨n1, _, _, _, _, n6, _⟩ := tmNode_iff.1 h3
 obtain ⟨L1, L2⟩ := el_tySL ks ih (d + 1) (inCx cx k nm ty) l h4 (cxV_in hcx fun hk => n6 (by omega))
 rw [mEl, mTyS]
 cases hL : mElL (inCx cx k nm ty) ks l with
 | none => rw [L2 hL]; exact ⟨fun _ _ _ h => by simp at h, fun _ => rfl⟩
 | some q =>
  obtain ⟨us, h, l2⟩ := q
  obtain ⟨d1, d2, d3, d4⟩ := L1 us h l2 hL
  rw [d1]
  obtain ⟨e1, e2⟩ := node_tyS (k := k) (nm := nm) (ty := ty) hcx d2 (fun hk => n6 (.inr (.inl hk))) (by rw [d3]; exact n1)
  simp only [mElN]
  cases hN : mNodeT cx k nm ty h with
  | none => rw [e2 hN]; exact ⟨fun _ _ _ h => by simp at h, fun _ => rfl⟩
  | some p =>
   obtain ⟨w, t⟩ := p
   obtain ⟨f1, f2⟩ := e1 w t hN
   rw [f1]
   refine ⟨fun u a l' e => ?_, fun e => by simp at e⟩
   simp only [Option.some.injEq, Prod.mk.injEq] at e
   obtain ⟨_, rfl, _⟩ := e
   exact ⟨rfl, f2⟩
theorem castTy_inv {cx : Cx} {k : Int} {nm : ByteArray} {num : Int} {ty fr : Ty} {lb : Int} {ks : List Tm} {T : Ty} (h : castTy cx (.mk k nm num ty fr lb ks) = some T) :
  ∃ us, castTyL (inCx cx k nm ty) ks = some us ∧ (k = 14 → us.getD 0 ty0 = fr ∧ T = ty) ∧ (k ≠ 14 → tValid T = true ∧ ∃ w, mWanted cx k nm ty us = some (w, T) ∧ sameTo w us = true) := by
 rw [castTy] at h
 split at h
 ·cases h
 ·rename_i us hu
  refine ⟨us, hu, fun hk => ?_, fun hk => ?_⟩
  ·rw [if_pos hk] at h
   split at h
   ·rename_i hs; cases h; exact ⟨(tSame_iff _ _).1 hs, rfl⟩
   ·cases h
  ·rw [if_neg hk] at h
   split at h
   ·cases h
   ·rename_i w t hn
    split at h
    ·rename_i hs
     cases h
     obtain ⟨h1, h2⟩ := mNodeT_valid hn
     exact ⟨h1, w, h2, hs⟩
    ·cases h
theorem castTy_go' {cx : Cx} {k : Int} {nm : ByteArray} {num : Int} {ty fr : Ty} {lb : Int} {ks : List Tm} {T : Ty} {us w : List Ty} (hu : castTyL (inCx cx k nm ty) ks = some us) (hk : k ≠ 14) (hv : tValid T = true) (hw : mWanted cx k nm ty us = some (w, T)) (hs : sameTo w us = true) : castTy cx (.mk k nm num ty fr lb ks) = some T := by
 rw [castTy, hu]
 simp only [if_neg hk]
 unfold mNodeT
 rw [hw]
 simp only [hv, if_true, hs]
theorem castTyL_1 {cx : Cx} {a : Tm} {us : List Ty} (h : castTyL cx [a] = some us) : ∃ x, castTy cx a = some x ∧ us = [x] := by
 rw [castTyL] at h
 split at h
 ·cases h
 ·rename_i x hx
  rw [castTyL] at h
  simp only [Option.some.injEq] at h
  exact ⟨x, hx, h.symm⟩
theorem castTyL_2 {cx : Cx} {a b : Tm} {us : List Ty} (h : castTyL cx [a, b] = some us) : ∃ x y, castTy cx a = some x ∧ castTy cx b = some y ∧ us = [x, y] := by
 rw [castTyL] at h
 split at h
 ·cases h
 ·rename_i x hx
  split at h
  ·cases h
  ·rename_i vs hv
   obtain ⟨y, hy, rfl⟩ := castTyL_1 hv
   simp only [Option.some.injEq] at h
   exact ⟨x, y, hx, hy, h.symm⟩
theorem castTyL_3 {cx : Cx} {a b c : Tm} {us : List Ty} (h : castTyL cx [a, b, c] = some us) : ∃ x y z, castTy cx a = some x ∧ castTy cx b = some y ∧ castTy cx c = some z ∧ us = [x, y, z] := by
 rw [castTyL] at h
 split at h
 ·cases h
 ·rename_i x hx
  split at h
  ·cases h
  ·rename_i vs hv
   obtain ⟨y, z, hy, hz, rfl⟩ := castTyL_2 hv
   simp only [Option.some.injEq] at h
   exact ⟨x, y, z, hx, hy, hz, h.symm⟩
theorem castTyL_mk1 {cx : Cx} {a : Tm} {x : Ty} (h : castTy cx a = some x) : castTyL cx [a] = some [x] := by rw [castTyL, h]; rfl
theorem castTyL_mk2 {cx : Cx} {a b : Tm} {x y : Ty} (h : castTy cx a = some x) (h2 : castTy cx b = some y) : castTyL cx [a, b] = some [x, y] := by rw [castTyL, h, castTyL_mk1 h2]
mutual
theorem tCons_self : ∀ a : Ty, tCons a a = true
 | .mk k ks => by rw [tCons_mk, tConsL_self ks]; simp
theorem tConsL_self : ∀ xs : List Ty, tConsL xs xs = true
 | [] => rfl
 | a :: xs => by rw [tConsL, tCons_self a, tConsL_self xs]; rfl
end
mutual
theorem mMeet_self : ∀ a : Ty, mMeet a a = a
 | .mk k ks => by
  rw [mMeet_mk, mMeetL_self ks]
  by_cases h : k = 1
  ·rw [if_pos h]
  ·rw [if_neg h, if_neg h]
theorem mMeetL_self : ∀ xs : List Ty, mMeetL xs xs = xs
 | [] => rfl
 | a :: xs => by rw [mMeetL, mMeet_self a, mMeetL_self xs]
end
theorem two_of {k : Int} {ks : List Ty} (hk : k = 4 ∨ k = 5) (h : tValid (.mk k ks) = true) : ∃ a b, ks = [a, b] ∧ tValid a = true ∧ tValid b = true := by
 unfold tValid at h ⊢
 rw [tScan_mk, Bool.and_eq_true, Bool.and_eq_true, decide_eq_true_eq, decide_eq_true_eq] at h
 have h2 : ks.length = 2 := by
  have : tyOps k = 2 := by rcases hk with rfl | rfl <;> rfl
  omega
 match ks, h2, h.2 with
 | [x, y], _, hL =>
  simp only [tScanL, Bool.and_eq_true] at hL
  exact ⟨x, y, rfl, tScan_up _ 2 1 (by omega) hL.1, tScan_up _ 2 1 (by omega) hL.2.1⟩
theorem leaf_of {k : Int} {ks : List Ty} (h : tValid (.mk k ks) = true) (hk : k ≠ 4) (hk5 : k ≠ 5) : (k = 1 ∨ k = 2 ∨ k = 3) ∧ ks = [] := by
 unfold tValid at h
 rw [tScan_mk, Bool.and_eq_true, Bool.and_eq_true, decide_eq_true_eq, decide_eq_true_eq] at h
 obtain ⟨h1, h2, h3⟩ := tyOps_spec k
 have hl := h.1.2
 have hk3 : k = 1 ∨ k = 2 ∨ k = 3 := by
  apply Classical.byContradiction
  intro hc
  rw [h3 (by omega) (by omega) (by omega) hk hk5] at hl; omega
 rw [h1 hk3] at hl
 exact ⟨hk3, List.length_eq_zero_iff.1 (by omega)⟩
theorem cv_valid {cx : Cx} {e : Tm} {T : Ty} (hc : cv e) (h : castTy cx e = some T) : tValid T = true := by
 obtain ⟨k, nm, num, ty, fr, lb, ks⟩ := e
 exact castTy_valid (fun hk => (hc.node.1.c14 hk).2.1) h
section inv
variable {cx : Cx} {nm : ByteArray} {num : Int} {ty fr : Ty} {lb : Int} {a b c : Tm} {T : Ty}
theorem sameTo1 {x y : Ty} (h : sameTo [x] [y] = true) : x = y := by
 simp only [sameTo, Bool.and_true] at h; exact (tSame_iff _ _).1 h
theorem sameTo2 {x y x' y' : Ty} (h : sameTo [x, y] [x', y'] = true) : x = x' ∧ y = y' := by
 simp only [sameTo, Bool.and_true, Bool.and_eq_true] at h; exact ⟨(tSame_iff _ _).1 h.1, (tSame_iff _ _).1 h.2⟩
theorem sameTo3 {x y z x' y' z' : Ty} (h : sameTo [x, y, z] [x', y', z'] = true) : x = x' ∧ y = y' ∧ z = z' := by
 simp only [sameTo, Bool.and_true, Bool.and_eq_true] at h; exact ⟨(tSame_iff _ _).1 h.1, (tSame_iff _ _).1 h.2.1, (tSame_iff _ _).1 h.2.2⟩
theorem sameTo_self : ∀ xs : List Ty, sameTo xs xs = true
 | [] => rfl
 | a :: xs => by rw [sameTo, tSame_self, sameTo_self xs]; rfl
theorem ty_app (h : castTy cx (.mk 6 nm num ty fr lb [a, b]) = some T) : ∃ A, castTy cx a = some (.mk 4 [A, T]) ∧ castTy cx b = some A := by
 obtain ⟨us, hu, _, hn⟩ := castTy_inv h
 rw [inCx, if_neg (by omega)] at hu
 obtain ⟨x, y, hx, hy, rfl⟩ := castTyL_2 hu
 obtain ⟨_, w, hw, hs⟩ := hn (by decide)
 unfold mWanted at hw
 simp only [show ¬((6 : Int) = 1) by decide, show ¬((6 : Int) = 2) by decide, show ¬((6 : Int) = 3 ∨ (6 : Int) = 4) by decide, show ¬((6 : Int) = 5) by decide, if_false, if_true, List.getD_cons_zero, List.getD_cons_succ] at hw
 split at hw
 ·rename_i p q hm
  split at hw
  ·cases hw
   obtain ⟨h1, h2⟩ := sameTo2 hs
   subst h1 h2
   exact ⟨_, hx, hy⟩
  ·cases hw
 ·cases hw
theorem ty_app_mk {A : Ty} (hv : tValid T = true) (ha : castTy cx a = some (.mk 4 [A, T])) (hb : castTy cx b = some A) : castTy cx (.mk 6 nm num ty fr lb [a, b]) = some T := by
 refine castTy_go' (us := [.mk 4 [A, T], A]) (w := [.mk 4 [A, T], A]) (castTyL_mk2 ha hb) (by decide) hv ?_ (sameTo_self _)
 unfold mWanted
 simp only [show ¬((6 : Int) = 1) by decide, show ¬((6 : Int) = 2) by decide, show ¬((6 : Int) = 3 ∨ (6 : Int) = 4) by decide, show ¬((6 : Int) = 5) by decide, if_false, if_true, List.getD_cons_zero, List.getD_cons_succ, mMatch_mk, tCons_self]
theorem ty_ar {k : Int} (hk : k = 7 ∨ k = 8) (h : castTy cx (.mk k nm num ty fr lb [a, b]) = some T) : castTy cx a = some tyInt ∧ castTy cx b = some tyInt ∧ T = if k = 8 then tyBool else tyInt := by
 obtain ⟨us, hu, _, hn⟩ := castTy_inv h
 rw [inCx, if_neg (by omega)] at hu
 obtain ⟨x, y, hx, hy, rfl⟩ := castTyL_2 hu
 obtain ⟨_, w, hw, hs⟩ := hn (by omega)
 unfold mWanted at hw
 rw [if_neg (by omega), if_neg (by omega), if_neg (by omega), if_neg (by omega), if_neg (by omega), if_pos hk] at hw
 split at hw
 ·cases hw
  obtain ⟨h1, h2⟩ := sameTo2 hs
  subst h1 h2
  exact ⟨hx, hy, rfl⟩
 ·cases hw
theorem ty_if (h : castTy cx (.mk 9 nm num ty fr lb [a, b, c]) = some T) : castTy cx a = some tyBool ∧ castTy cx b = some T ∧ castTy cx c = some T := by
 obtain ⟨us, hu, _, hn⟩ := castTy_inv h
 rw [inCx, if_neg (by omega)] at hu
 obtain ⟨x, y, z, hx, hy, hz, rfl⟩ := castTyL_3 hu
 obtain ⟨_, w, hw, hs⟩ := hn (by decide)
 unfold mWanted at hw
 rw [if_neg (by omega), if_neg (by omega), if_neg (by omega), if_neg (by omega), if_neg (by omega), if_neg (by omega), if_pos rfl] at hw
 split at hw
 ·cases hw
  obtain ⟨h1, h2, h3⟩ := sameTo3 hs
  simp only [List.getD_cons_zero, List.getD_cons_succ] at h2 h3 ⊢
  refine ⟨by rw [hx, h1], by rw [hy]; congr 1; exact h2.symm, by rw [hz]; congr 1; exact h3.symm⟩
 ·cases hw
theorem ty_pair (h : castTy cx (.mk 10 nm num ty fr lb [a, b]) = some T) : ∃ A B, castTy cx a = some A ∧ castTy cx b = some B ∧ T = .mk 5 [A, B] := by
 obtain ⟨us, hu, _, hn⟩ := castTy_inv h
 rw [inCx, if_neg (by omega)] at hu
 obtain ⟨x, y, hx, hy, rfl⟩ := castTyL_2 hu
 obtain ⟨_, w, hw, hs⟩ := hn (by decide)
 unfold mWanted at hw
 rw [if_neg (by omega), if_neg (by omega), if_neg (by omega), if_neg (by omega), if_neg (by omega), if_neg (by omega), if_neg (by omega), if_pos rfl] at hw
 cases hw
 exact ⟨x, y, hx, hy, rfl⟩
theorem ty_part {k : Int} (hk : k = 11 ∨ k = 12) (h : castTy cx (.mk k nm num ty fr lb [a]) = some T) : ∃ A B, castTy cx a = some (.mk 5 [A, B]) ∧ T = if k = 12 then B else A := by
 obtain ⟨us, hu, _, hn⟩ := castTy_inv h
 rw [inCx, if_neg (by omega)] at hu
 obtain ⟨x, hx, rfl⟩ := castTyL_1 hu
 obtain ⟨_, w, hw, hs⟩ := hn (by omega)
 unfold mWanted at hw
 rw [if_neg (by omega), if_neg (by omega), if_neg (by omega), if_neg (by omega), if_neg (by omega), if_neg (by omega), if_neg (by omega), if_neg (by omega), if_neg (by omega)] at hw
 split at hw
 ·rename_i p q hm
  cases hw
  have h1 := sameTo1 hs
  subst h1
  exact ⟨p, q, hx, rfl⟩
 ·cases hw
theorem ty_part_mk {k : Int} {A B : Ty} (hk : k = 11 ∨ k = 12) (hv : tValid (if k = 12 then B else A) = true) (h : castTy cx a = some (.mk 5 [A, B])) : castTy cx (.mk k nm num ty fr lb [a]) = some (if k = 12 then B else A) := by
 refine castTy_go' (us := [.mk 5 [A, B]]) (w := [.mk 5 [A, B]]) (by rw [inCx, if_neg (by omega)]; exact castTyL_mk1 h) (by omega) hv ?_ (sameTo_self _)
 unfold mWanted
 rw [if_neg (by omega), if_neg (by omega), if_neg (by omega), if_neg (by omega), if_neg (by omega), if_neg (by omega), if_neg (by omega), if_neg (by omega), if_neg (by omega)]
 simp only [List.getD_cons_zero, mMatch_mk, if_true, List.getD_cons_succ]
theorem ty_cast (h : castTy cx (.mk 14 nm num ty fr lb [a]) = some T) : castTy cx a = some fr ∧ T = ty := by
 obtain ⟨us, hu, hn, _⟩ := castTy_inv h
 obtain ⟨x, hx, rfl⟩ := castTyL_1 hu
 obtain ⟨h1, h2⟩ := hn rfl
 simp only [List.getD_cons_zero] at h1
 subst h1
 exact ⟨hx, h2⟩
theorem ty_cast_mk (h : castTy cx a = some fr) : castTy cx (.mk 14 nm num ty fr lb [a]) = some ty := by
 rw [castTy, show inCx cx 14 nm ty = cx from rfl, castTyL_mk1 h]
 simp only [if_true, List.getD_cons_zero, tSame_self]
theorem ty_lam (h : castTy cx (.mk 5 nm num ty fr lb [a]) = some T) : ∃ B, castTy (cx ++ [(nm, ty)]) a = some B ∧ T = .mk 4 [ty, B] := by
 obtain ⟨us, hu, _, hn⟩ := castTy_inv h
 rw [inCx, if_pos rfl] at hu
 obtain ⟨x, hx, rfl⟩ := castTyL_1 hu
 obtain ⟨_, w, hw, hs⟩ := hn (by decide)
 unfold mWanted at hw
 rw [if_neg (by omega), if_neg (by omega), if_neg (by omega), if_pos rfl] at hw
 cases hw
 exact ⟨x, hx, rfl⟩
theorem ty_var (h : castTy cx (.mk 1 nm num ty fr lb []) = some T) : mLook cx nm = some T := by
 obtain ⟨us, hu, _, hn⟩ := castTy_inv h
 obtain ⟨_, w, hw, hs⟩ := hn (by decide)
 unfold mWanted at hw
 rw [if_pos rfl] at hw
 split at hw
 ·rename_i t ht; cases hw; exact ht
 ·cases hw
theorem ty_num (h : castTy cx (.mk 2 nm num ty fr lb []) = some T) : T = tyInt := by
 obtain ⟨us, hu, _, hn⟩ := castTy_inv h
 obtain ⟨_, w, hw, hs⟩ := hn (by decide)
 cases hw; rfl
theorem ty_tru {k : Int} (hk : k = 3 ∨ k = 4) (h : castTy cx (.mk k nm num ty fr lb []) = some T) : T = tyBool := by
 obtain ⟨us, hu, _, hn⟩ := castTy_inv h
 obtain ⟨_, w, hw, hs⟩ := hn (by omega)
 rcases hk with rfl | rfl <;> (cases hw; rfl)
end inv
/- A type depends on what the names stand for, no more. -/
theorem mLook_snoc (cx : Cx) (x nm : ByteArray) (t : Ty) : mLook (cx ++ [(x, t)]) nm = if x = nm then some t else mLook cx nm := by
 unfold mLook
 rw [List.length_append, show ([(x, t)] : Cx).length = 1 from rfl]
 have hl : (cx ++ [(x, t)])[cx.length]? = some (x, t) := by rw [List.getElem?_append_right (Nat.le_refl _)]; simp
 by_cases h : x = nm
 ·rw [lookN_eq hl h, if_pos h]
 ·rw [lookN_ne hl h, if_neg h]
  have : ∀ n, n ≤ cx.length → lookN (cx ++ [(x, t)]) nm n = lookN cx nm n := by
   intro n
   induction n with
   | zero => intro _; rfl
   | succ n ih =>
    intro hn
    rw [lookN, lookN, List.getElem?_append_left (by omega), ih (by omega)]
  exact this _ (Nat.le_refl _)
theorem inCx_ext {cx cy : Cx} (h : ∀ x, mLook cx x = mLook cy x) (k : Int) (nm : ByteArray) (ty : Ty) : ∀ x, mLook (inCx cx k nm ty) x = mLook (inCx cy k nm ty) x := by
 intro x
 unfold inCx
 split
 ·rw [mLook_snoc, mLook_snoc, h]
 ·exact h x
theorem mNodeT_ext {cx cy : Cx} {k : Int} {nm : ByteArray} {ty : Ty} {h : List Ty} (he : mLook cx nm = mLook cy nm) : mNodeT cx k nm ty h = mNodeT cy k nm ty h := by
 unfold mNodeT mWanted
 rw [he]
mutual
theorem castTy_ext : ∀ (e : Tm) (cx cy : Cx), (∀ x, mLook cx x = mLook cy x) → castTy cx e = castTy cy e
 | .mk k nm num ty fr lb ks, cx, cy, h => by
  rw [castTy, castTy, castTyL_ext ks _ _ (inCx_ext h k nm ty)]
  split
  ·rfl
  ·rw [mNodeT_ext (h nm)]
theorem castTyL_ext : ∀ (ts : List Tm) (cx cy : Cx), (∀ x, mLook cx x = mLook cy x) → castTyL cx ts = castTyL cy ts
 | [], _, _, _ => by rw [castTyL, castTyL]
 | t :: ts, cx, cy, h => by rw [castTyL, castTyL, castTy_ext t cx cy h, castTyL_ext ts cx cy h]
end
/-- A name replaced by a closed term of its type. -/
theorem subst_wanted {cx cy : Cx} {k : Int} {nm : ByteArray} {ty : Ty} {h : List Ty} (hk : k ≠ 1) : mWanted cx k nm ty h = mWanted cy k nm ty h := by
 unfold mWanted
 rw [if_neg hk, if_neg hk]
theorem subst_node {cx cy : Cx} {k : Int} {nm : ByteArray} {ty : Ty} {h : List Ty} (hk : k ≠ 1) : mNodeT cx k nm ty h = mNodeT cy k nm ty h := by
 unfold mNodeT; rw [subst_wanted (cy := cy) hk]
mutual
theorem subst_ty {x : ByteArray} {A : Ty} {v : Tm} (hv : castTy [] v = some A) : ∀ (e : Tm) (cx cy : Cx) (T : Ty), cv e → (∀ y, y ≠ x → mLook cx y = mLook cy y) → mLook cx x = some A → castTy cx e = some T → castTy cy (mSubst x v e) = some T
 | .mk k nm num ty fr lb ks, cx, cy, T, hc, h, hx, ht => by
  have hkk := hc.node.2
  have hop := hc.node.1.ops
  rw [mSubst]
  by_cases h1 : k = 1 ∧ nm = x
  ·rw [if_pos h1]
   obtain ⟨rfl, rfl⟩ := h1
   have hks : ks = [] := List.length_eq_zero_iff.1 (by have : tmOps 1 = 0 := rfl; omega)
   subst hks
   have h2 := ty_var ht
   rw [hx] at h2
   cases h2
   have h3 := castTy_app cy v [] A hv
   rwa [List.append_nil] at h3
  ·rw [if_neg h1]
   by_cases h5 : k = 5 ∧ nm = x
   ·rw [if_pos h5]
    obtain ⟨rfl, rfl⟩ := h5
    rw [castTy] at ht ⊢
    rw [← castTyL_ext ks (inCx cx 5 nm ty) (inCx cy 5 nm ty) (fun y => by
     rw [inCx, inCx, if_pos rfl, if_pos rfl, mLook_snoc, mLook_snoc]
     by_cases hy : nm = y
     ·rw [if_pos hy, if_pos hy]
     ·rw [if_neg hy, if_neg hy]; exact h y (fun e => hy e.symm))]
    split at ht
    ·cases ht
    ·rename_i us hu
     rw [subst_node (cy := cx) (by decide)]
     exact ht
   ·rw [if_neg h5]
    rw [castTy] at ht ⊢
    have hin : ∀ us, castTyL (inCx cx k nm ty) ks = some us → castTyL (inCx cy k nm ty) (mSubstL x v ks) = some us := by
     intro us hu
     refine substL_ty hv ks _ _ us hkk ?_ ?_ hu
     ·intro y hy
      unfold inCx
      split
      ·rw [mLook_snoc, mLook_snoc, h y hy]
      ·exact h y hy
     ·unfold inCx
      split
      ·rename_i hk
       rw [mLook_snoc, if_neg (fun e => h5 ⟨hk, e⟩)]; exact hx
      ·exact hx
    split at ht
    ·cases ht
    ·rename_i us hu
     rw [hin us hu]
     simp only at ht ⊢
     by_cases hk1 : k = 1
     ·subst hk1
      have hn : nm ≠ x := fun e => h1 ⟨rfl, e⟩
      rw [mNodeT_ext (h nm hn)] at ht
      exact ht
     ·rw [subst_node (cy := cx) hk1]
      exact ht
theorem substL_ty {x : ByteArray} {A : Ty} {v : Tm} (hv : castTy [] v = some A) : ∀ (ts : List Tm) (cx cy : Cx) (us : List Ty), (∀ t ∈ ts, cv t) → (∀ y, y ≠ x → mLook cx y = mLook cy y) → mLook cx x = some A → castTyL cx ts = some us → castTyL cy (mSubstL x v ts) = some us
 | [], cx, cy, us, _, _, _, hu => by rw [castTyL] at hu; cases hu; rw [mSubstL, castTyL]
 | t :: ts, cx, cy, us, hc, h, hx, hu => by
  rw [castTyL] at hu
  split at hu
  ·cases hu
  ·rename_i T hT
   split at hu
   ·cases hu
   ·rename_i Ts hTs
    cases hu
    rw [mSubstL, castTyL, subst_ty hv t cx cy T (hc t List.mem_cons_self) h hx hT, substL_ty hv ts cx cy Ts (fun u hu => hc u (List.mem_cons_of_mem _ hu)) h hx hTs]
end
variable {P : Program} {G : IM}
/-- What is known of the memory that a call leaves may be forgotten. -/
theorem Fn.forget {f : FuncId} {args : List Value} {v0 : Value} {post : IM → Value → List Ent → Prop} (h : Fn P f args [] G post) (hv : ∀ G' v outs, post G' v outs → v = v0) : Fn P f args [] G (Val v0 G) := by
 refine ⟨fun w hw => (h.run w hw).mono ?_⟩
 rintro e w' ⟨u, G', outs, rfl, hres, hp⟩
 refine ⟨u, G, [], rfl, ⟨⟨fun b l hb => hres.own.inn b l (hres.le b l hb), by simp, by simp [Fp], by simp [Fp]⟩, hres.ext, IMle.refl _, fun _ _ h => .inl h, by simp [Fp], fun b l h h0 => absurd h (by rw [h0]; simp)⟩, rfl, hv _ _ _ hp, rfl⟩
/-- A term. -/
def TmP (t : Tm) : IM → Value → List Ent → Prop := Imm fun G' v => ∃ cells, v = .agg ⟨cells⟩ ∧ RTm G' t cells
theorem TmP.mk {G : IM} {t : Tm} {cells : List Value} (h : RTm G t cells) : TmP t G (.agg ⟨cells⟩) [] := ⟨rfl, cells, rfl, h⟩
def mGk (k : Int) : Ty := if k = 4 ∨ k = 5 then .mk k [tyAny, tyAny] else .mk k []
theorem rtm_nod {G : IM} {k : Int} {ks : List Tm} {p : Option Addr} {n c : Nat} {es : List (List Value)} (hk : I64 k) (hn : n = ks.length) (hs : SlE G p n c 9 es) (hr : RTmL G ks es) : RTm G (mNod k ks) [.int .i64 k, .string ⟨⟨[]⟩⟩, .int .i64 0, .int .i64 0, .slice none 0 0, .int .i64 0, .slice none 0 0, .int .i64 0, .slice p n c] := by
 subst hn
 simp only [mNod, RTm]
 exact ⟨[.int .i64 0, .slice none 0 0], [.int .i64 0, .slice none 0 0], p, c, es, rfl, hk, ⟨by decide, by decide⟩, ⟨by decide, by decide⟩, ty0_r G, ty0_r G, hs, hr⟩
theorem ground_fn (k : Int) (G : IM) (hk : I64 k) : Fn Tryz.prog 170 [.int .i64 k] [] G (Imm fun G' v => ∃ cells, v = .agg ⟨cells⟩ ∧ RTy G' (mGk k) cells) := by
 have hB := both_fn k tyAny tyAny G _ _ hk (tyAny_r G) (tyAny_r G)
 refine fn_enter Tryz.func170 rfl Tryz.ntmps170 Tryz.results170 rfl ?_
 intro w0
 refine tS (tR ?_)
 refine sE (step_alloc rfl) rfl (fun b3 => ?_)
 refine sD (nS (tS (tS (tR (sQ (pM rfl) rfl (sB (pE rfl rfl) rfl rfl (fun h10 => ?_) (fun h10 => ?_)))))))
 refine sQ (pM rfl) rfl (sK rfl rfl (sK rfl rfl (sQ (pPt rfl rfl) rfl (sD (nS (cT rfl ?_))))))
 refine tS (tR (sQ (pM rfl) rfl (seq_val rfl ((base_fn _ _)) rfl rfl ?_)))
 refine seq_val rfl ((base_fn _ _)) rfl rfl ?_
 (refine seq_imm rfl hB rfl rfl (fun v G1 hle1 hh => ?_); obtain ⟨cb, rfl, hrb⟩ := hh; obtain ⟨p1, c1, e1, rfl, _⟩ := hrb.open)
 refine sS' ?_
 refine sD (nS (tT (rS (rF1 (rC rfl (lBa rfl rfl)) ?_))))
 (exact ⟨rfl, _, rfl, by unfold mGk; rw [if_pos (by omega)]; exact hrb⟩)
 refine sQ (pM rfl) rfl (sQ (pM rfl) rfl (sB (pE rfl rfl) rfl rfl (fun h33 => ?_) (fun h33 => ?_)))
 refine sQ (pPf rfl rfl) rfl (sD (nS (cT rfl ?_)))
 refine tS (tR (sQ (pM rfl) rfl (seq_val rfl ((base_fn _ _)) rfl rfl ?_)))
 refine seq_val rfl ((base_fn _ _)) rfl rfl ?_
 (refine seq_imm rfl hB rfl rfl (fun v G1 hle1 hh => ?_); obtain ⟨cb, rfl, hrb⟩ := hh; obtain ⟨p1, c1, e1, rfl, _⟩ := hrb.open)
 refine sS' ?_
 refine sD (nS (tT (rS (rF1 (rC rfl (lBa rfl rfl)) ?_))))
 (exact ⟨rfl, _, rfl, by unfold mGk; rw [if_pos (by omega)]; exact hrb⟩)
 refine sQ (pPf rfl rfl) rfl (sD (nS (cF rfl ?_)))
 refine tK (nS (tS (tR (sQ (pM rfl) rfl (seq_val rfl ((base_fn _ _)) rfl rfl ?_)))))
 refine sS' ?_
 refine sD (nS (tT (rF1 (rC rfl (lBa rfl rfl)) ?_)))
 (exact ⟨rfl, _, rfl, by unfold mGk; rw [if_neg (by omega)]; exact tyLeaf_r _ hk⟩)
theorem isGround_fn (t : Ty) (G : IM) (cells : List Value) (hr : RTy G t cells) : Fn Tryz.prog 164 [.agg ⟨cells⟩] [] G (Val (.bool (isGrd t)) G) := by
 refine Fn.forget (post := Imm fun _ v => v = .bool (isGrd t)) ?_ (fun _ _ _ h => h.2)
 have hr0 := hr
 obtain ⟨tk, tks⟩ := t
 obtain ⟨p, c, es, rfl, hk, _⟩ := hr.open
 simp only [Ty.k, Ty.ks] at hk hr0 ⊢
 rw [show isGrd (.mk tk tks) = (decide (tk ≠ 1) && tSame (.mk tk tks) (mGk tk)) from rfl]
 refine fn_enter Tryz.func164 rfl Tryz.ntmps164 Tryz.results164 rfl ?_
 intro w0
 refine tS (tR ?_)
 refine sE (step_box_a rfl rfl) rfl (fun b3 => ?_)
 refine sQ (pA rfl) rfl (sD (nS (tS (tri_draw mixed rfl ?_))))
 refine any_pure (i := 0) (l' := [tt,ff,ff,ff,ff,ff,ff,ff,ff,ff,ff]) rfl npI (pF0 rfl) rfl (by kernel_rfl) rfl rfl ?_
 refine aL 1 rfl (lBs rfl rfl) rfl ?_
 refine any_bool (i := 2) (l' := [tt,tt,tt,ff,ff,ff,ff,ff,ff,ff,ff]) rfl npI (pure_neq rfl rfl) rfl (by kernel_rfl) rfl rfl (fun h11 => ?_) (fun h11 => ?_)
 refine aP 3 rfl (pM rfl) rfl ?_
 refine aL 4 rfl (lBa rfl rfl) rfl ?_
 refine aP 5 rfl (pF0 rfl) rfl ?_
 refine aL 6 rfl (lBs rfl rfl) rfl ?_
 refine aO' 7 ?_
 (refine one_imm rfl rfl (ground_fn tk G hk) rfl rfl rfl (fun v G1 hle1 hh => ?_); obtain ⟨cg, rfl, hrg⟩ := hh; have hT := typeSameX_fn (.mk tk tks) (mGk tk) G1 _ _ (hr0.mono hle1) hrg; obtain ⟨pg, cgg, eg, rfl, _⟩ := hrg.open)
 refine aO' 8 ?_
 refine one_val rfl rfl (hT) rfl rfl rfl ?_
 refine aP 9 rfl (pPt rfl rfl) rfl ?_
 refine aP 10 rfl (pA rfl) rfl ?_
 refine aD' ?_
 refine nS (tT (rF1 (rT rfl) ?_))
 (exact ⟨rfl, by rw [decide_eq_true (by omega), Bool.true_and]⟩)
 refine aP 3 rfl (pM rfl) rfl ?_
 refine aK' 4 rfl rfl rfl ?_
 refine aK' 5 rfl rfl rfl ?_
 refine aK' 6 rfl rfl rfl ?_
 refine aK' 7 rfl rfl rfl ?_
 refine aK' 8 rfl rfl rfl ?_
 refine aP 9 rfl (pPf rfl rfl) rfl ?_
 refine aP 10 rfl (pA rfl) rfl ?_
 refine aD' ?_
 refine nS (tT (rF1 (rT rfl) ?_))
 (exact ⟨rfl, by rw [decide_eq_false (by omega), Bool.false_and]⟩)
theorem isProxy_fn (t : Tm) (G : IM) (cells : List Value) (hr : RTm G t cells) : Fn Tryz.prog 80 [.agg ⟨cells⟩] [] G (Val (.bool (prx t)) G) := by
 obtain ⟨k, nm, num, ⟨tk, tks⟩, ⟨fk, fks⟩, lb, ks⟩ := t
 obtain ⟨pt, ct, pf, cf, p, c, es, rfl, hk, hnum, hlb, hty, hfr, hsl, hkl⟩ := hr.open9
 have hd : prx (.mk k nm num (.mk tk tks) (.mk fk fks) lb ks) = decide (k = 14 ∧ fk = tk ∧ (tk = 4 ∨ tk = 5)) := rfl
 rw [hd]
 refine fn_enter Tryz.func80 rfl Tryz.ntmps80 Tryz.results80 rfl ?_
 intro w0
 refine tS (tR ?_)
 refine sE (step_box_a rfl rfl) rfl (fun b3 => ?_)
 refine sQ (pA rfl) rfl (sD (nS (tS (tR (sQ (pF0 rfl) rfl (sL (lBs rfl rfl) rfl rfl ?_))))))
 refine sB (pE rfl rfl) rfl rfl (fun h11 => ?_) (fun h11 => ?_)
 refine sQ (pM rfl) rfl (sQ (pF0 rfl) rfl (sQ (pF rfl) rfl (sL (lBs rfl rfl) rfl rfl ?_)))
 refine sQ (pF0 rfl) rfl (sQ (pF rfl) rfl (sL (lBs rfl rfl) rfl rfl ?_))
 refine sB (pE rfl rfl) rfl rfl (fun h19 => ?_) (fun h19 => ?_)
 refine sQ (pPt rfl rfl) rfl (sQ (pM rfl) rfl (sQ (pF0 rfl) rfl (sQ (pF rfl) rfl (sL (lBs rfl rfl) rfl rfl ?_))))
 refine sB (pE rfl rfl) rfl rfl (fun h25 => ?_) (fun h25 => ?_)
 refine sQ (pM rfl) rfl (sK rfl rfl (sK rfl rfl (sK rfl rfl (sK rfl rfl (sQ (pPt rfl rfl) rfl (sQ (pPt rfl rfl) rfl ?_))))))
 refine sQ (pA rfl) rfl (sD (nS (tT (rF1 (rT rfl) ?_))))
 (exact ⟨rfl, by rw [decide_eq_true (by omega)], rfl⟩)
 refine sQ (pM rfl) rfl (sQ (pF0 rfl) rfl (sQ (pF rfl) rfl (sL (lBs rfl rfl) rfl rfl ?_)))
 refine sB (pE rfl rfl) rfl rfl (fun h43 => ?_) (fun h43 => ?_)
 refine sQ (pPf rfl rfl) rfl (sQ (pPt rfl rfl) rfl (sQ (pA rfl) rfl (sD (nS (tT (rF1 (rT rfl) ?_))))))
 (exact ⟨rfl, by rw [decide_eq_true (by omega)], rfl⟩)
 refine sQ (pPf rfl rfl) rfl (sQ (pPt rfl rfl) rfl (sQ (pA rfl) rfl (sD (nS (tT (rF1 (rT rfl) ?_))))))
 (exact ⟨rfl, by rw [decide_eq_false (by omega)], rfl⟩)
 refine sQ (pPt rfl rfl) rfl (sQ (pM rfl) rfl (sK rfl rfl (sK rfl rfl (sK rfl rfl (sK rfl rfl (sK rfl rfl ?_))))))
 refine sK rfl rfl (sK rfl rfl (sK rfl rfl (sK rfl rfl (sK rfl rfl (sQ (pPf rfl rfl) rfl (sQ (pA rfl) rfl ?_))))))
 refine sD (nS (tT (rF1 (rT rfl) ?_)))
 (exact ⟨rfl, by rw [decide_eq_false (by omega)], rfl⟩)
 refine sQ (pM rfl) rfl (sK rfl rfl (sK rfl rfl (sK rfl rfl (sK rfl rfl (sK rfl rfl (sK rfl rfl ?_))))))
 refine sK rfl rfl (sQ (pPf rfl rfl) rfl (sQ (pM rfl) rfl (sK rfl rfl (sK rfl rfl (sK rfl rfl (sK rfl rfl ?_))))))
 refine sK rfl rfl (sK rfl rfl (sK rfl rfl (sK rfl rfl (sK rfl rfl (sK rfl rfl (sQ (pPf rfl rfl) rfl ?_))))))
 refine sQ (pA rfl) rfl (sD (nS (tT (rF1 (rT rfl) ?_))))
 (exact ⟨rfl, by rw [decide_eq_false (by omega)], rfl⟩)
theorem isInjection_fn (t : Tm) (G : IM) (cells : List Value) (hr : RTm G t cells) : Fn Tryz.prog 150 [.agg ⟨cells⟩] [] G (Val (.bool (inj t)) G) := by
 obtain ⟨k, nm, num, ⟨tk, tks⟩, ⟨fk, fks⟩, lb, ks⟩ := t
 obtain ⟨pt, ct, pf, cf, p, c, es, rfl, hk, hnum, hlb, hty, hfr, hsl, hkl⟩ := hr.open9
 have hd : inj (.mk k nm num (.mk tk tks) (.mk fk fks) lb ks) = (decide (k = 14 ∧ tk = 1) && isGrd (.mk fk fks)) := rfl
 rw [hd]
 refine fn_enter Tryz.func150 rfl Tryz.ntmps150 Tryz.results150 rfl ?_
 intro w0
 refine tS (tR ?_)
 refine sE (step_box_a rfl rfl) rfl (fun b3 => ?_)
 refine sQ (pA rfl) rfl (sD (nS (tS (tR (sQ (pF0 rfl) rfl (sL (lBs rfl rfl) rfl rfl ?_))))))
 refine sB (pE rfl rfl) rfl rfl (fun h11 => ?_) (fun h11 => ?_)
 refine sQ (pM rfl) rfl (sQ (pF0 rfl) rfl (sQ (pF rfl) rfl (sL (lBs rfl rfl) rfl rfl ?_)))
 refine sB (pE rfl rfl) rfl rfl (fun h16 => ?_) (fun h16 => ?_)
 refine sQ (pPt rfl rfl) rfl (sQ (pM rfl) rfl (sQ (pF0 rfl) rfl (sL (lBa rfl rfl) rfl rfl ?_)))
 refine seq_val rfl ((isGround_fn (.mk fk fks) G _ hfr)) rfl rfl ?_
 refine sQ (pPt rfl rfl) rfl (sQ (pA rfl) rfl (sD (nS (tT (rF1 (rT rfl) ?_)))))
 (exact ⟨rfl, by rw [decide_eq_true (by omega), Bool.true_and], rfl⟩)
 refine sQ (pPt rfl rfl) rfl (sQ (pM rfl) rfl (sK rfl rfl (sK rfl rfl (sK rfl rfl (sQ (pPf rfl rfl) rfl (sQ (pA rfl) rfl ?_))))))
 refine sD (nS (tT (rF1 (rT rfl) ?_)))
 (exact ⟨rfl, by rw [decide_eq_false (by omega), Bool.false_and], rfl⟩)
 refine sQ (pM rfl) rfl (sK rfl rfl (sK rfl rfl (sK rfl rfl (sK rfl rfl (sQ (pPf rfl rfl) rfl (sQ (pM rfl) rfl ?_))))))
 refine sK rfl rfl (sK rfl rfl (sK rfl rfl (sQ (pPf rfl rfl) rfl (sQ (pA rfl) rfl (sD (nS ?_))))))
 refine tT (rF1 (rT rfl) ?_)
 (exact ⟨rfl, by rw [decide_eq_false (by omega), Bool.false_and], rfl⟩)
theorem isPlain_fn (t : Tm) (G : IM) (cells : List Value) (hr : RTm G t cells) : Fn Tryz.prog 153 [.agg ⟨cells⟩] [] G (Val (.bool (decide (t.k = 2 ∨ t.k = 3 ∨ t.k = 4 ∨ t.k = 5))) G) := by
 obtain ⟨k, nm, num, ⟨tk, tks⟩, ⟨fk, fks⟩, lb, ks⟩ := t
 obtain ⟨pt, ct, pf, cf, p, c, es, rfl, hk, hnum, hlb, hty, hfr, hsl, hkl⟩ := hr.open9
 rw [show (Tm.mk k nm num (.mk tk tks) (.mk fk fks) lb ks).k = k from rfl]
 refine fn_enter Tryz.func153 rfl Tryz.ntmps153 Tryz.results153 rfl ?_
 intro w0
 refine tS (tR ?_)
 refine sE (step_box_a rfl rfl) rfl (fun b3 => ?_)
 refine sQ (pA rfl) rfl (sD (nS (tS (tR (sQ (pF0 rfl) rfl (sL (lBs rfl rfl) rfl rfl ?_))))))
 refine sB (pE rfl rfl) rfl rfl (fun h11 => ?_) (fun h11 => ?_)
 refine sQ (pM rfl) rfl (sK rfl rfl (sK rfl rfl (sK rfl rfl (sQ (pPt rfl rfl) rfl (sQ (pM rfl) rfl (sK rfl rfl ?_))))))
 refine sK rfl rfl (sK rfl rfl (sQ (pPt rfl rfl) rfl (sQ (pM rfl) rfl (sK rfl rfl (sK rfl rfl (sK rfl rfl ?_))))))
 refine sQ (pPt rfl rfl) rfl (sQ (pA rfl) rfl (sD (nS (tT (rF1 (rT rfl) ?_)))))
 (exact ⟨rfl, by rw [decide_eq_true (by omega)], rfl⟩)
 refine sQ (pM rfl) rfl (sQ (pF0 rfl) rfl (sL (lBs rfl rfl) rfl rfl ?_))
 refine sB (pE rfl rfl) rfl rfl (fun h36 => ?_) (fun h36 => ?_)
 refine sQ (pPf rfl rfl) rfl (sQ (pM rfl) rfl (sK rfl rfl (sK rfl rfl (sK rfl rfl (sQ (pPt rfl rfl) rfl (sQ (pM rfl) rfl ?_))))))
 refine sK rfl rfl (sK rfl rfl (sK rfl rfl (sQ (pPt rfl rfl) rfl (sQ (pA rfl) rfl (sD (nS ?_))))))
 refine tT (rF1 (rT rfl) ?_)
 (exact ⟨rfl, by rw [decide_eq_true (by omega)], rfl⟩)
 refine sQ (pPf rfl rfl) rfl (sQ (pM rfl) rfl (sQ (pF0 rfl) rfl (sL (lBs rfl rfl) rfl rfl ?_)))
 refine sB (pE rfl rfl) rfl rfl (fun h58 => ?_) (fun h58 => ?_)
 refine sQ (pPf rfl rfl) rfl (sQ (pM rfl) rfl (sK rfl rfl (sK rfl rfl (sK rfl rfl (sQ (pPt rfl rfl) rfl (sQ (pA rfl) rfl ?_))))))
 refine sD (nS (tT (rF1 (rT rfl) ?_)))
 (exact ⟨rfl, by rw [decide_eq_true (by omega)], rfl⟩)
 refine sQ (pPf rfl rfl) rfl (sQ (pM rfl) rfl (sQ (pF0 rfl) rfl (sL (lBs rfl rfl) rfl rfl ?_)))
 refine sB (pE rfl rfl) rfl rfl (fun h75 => ?_) (fun h75 => ?_)
 refine sQ (pPf rfl rfl) rfl (sQ (pA rfl) rfl (sD (nS (tT (rF1 (rT rfl) ?_)))))
 (exact ⟨rfl, by rw [decide_eq_true (by omega)], rfl⟩)
 refine sQ (pPf rfl rfl) rfl (sQ (pA rfl) rfl (sD (nS (tT (rF1 (rT rfl) ?_)))))
 (exact ⟨rfl, by rw [decide_eq_false (by omega)], rfl⟩)
theorem indexFunc_Term (G : IM) (p : Option Addr) (n c : Nat) (es : List (List Value)) (hsl : SlE G p n c 9 es) (fid : FuncId) [FunI Tryz.prog fid] (us cs : List Value) (ins : List Ent) (q : Nat → Bool)
  (hq : ∀ i e, es[i]? = some e → Fn Tryz.prog fid (us ++ [.agg ⟨e⟩] ++ cs) ins G (ValO (.bool (q i)) ins G)) :
  Fn Tryz.prog 165 [.slice p n c, .func (.func fid) ⟨us⟩ ⟨cs⟩] ins G (ValO (.int .i64 (firstIx q n)) ins G) := by
 have hn := hsl.le
 refine fn_enter Tryz.func165 rfl Tryz.ntmps165 Tryz.results165 rfl ?_
 intro w0
 refine tS (tR (sQ (pA rfl) rfl (sD (nS (tS (tS ?_))))))
 refine tR (sQ (pM rfl) rfl (sQ (pLn rfl rfl) rfl (sQ (pM rfl) rfl (sD (nS (tri_block ?_))))))
 refine tri_loopN (fun i : Nat => ⟨[(8, .int .i64 i), (7, .int .i64 n), (1, .func (.func fid) ⟨us⟩ ⟨cs⟩), (0, .slice p n c)], ins, G⟩) (fun i => i ≤ n ∧ ∀ j, j < i → q j = false) (fun i => n - i) 0 ?_ ?_ ?_
 exact sMk
 exact ⟨by omega, by omega⟩
 rintro i ⟨hi, hf⟩
 refine tS (tR (sB (pure_lss rfl rfl) rfl rfl (fun h21 => ?_) (fun h21 => ?_)))
 refine sD (nS (tS (cT rfl ?_)))
 refine tK (nS (tS (tri_block (tS (tR (sQ (pM rfl) rfl ?_))))))
 refine sQ (pA rfl) rfl (sD (nS (tS (tR (sQ (pM rfl) rfl (sQ (pM rfl) rfl ?_))))))
 refine sQ (pM rfl) rfl ?_
 (obtain ⟨e, b, o, he, rfl, hl, _, hat, _⟩ := hsl.get (i := i) (by omega); refine sP (pIN rfl rfl rfl (by omega)) rfl rfl ?_)
 refine sL (load_a rfl rfl (hat _) hl) rfl rfl ?_
 refine seq_vvalbo rfl rfl (hq i e he) perm_all rfl rfl (fun h43 => ?_) (fun h43 => ?_)
 refine sD (nS (cT rfl ?_))
 refine tS (tR (sQ (pM rfl) rfl (sQ (pA rfl) rfl (sD (nS (tT ?_))))))
 refine rB (rS (ret_loopN (rB (rS (ret_own1 (rT rfl) SubH.refl ?_)))))
 exact ⟨rfl, by rw [firstIx_some (by omega) hf (by assumption)], rfl⟩
 refine sD (nS (cF rfl ?_))
 refine tK (nrm_block (nS (tR (sP (pure_add rfl rfl (by omega) (by omega)) rfl rfl ?_))))
 refine sQ (pM rfl) rfl (sD (nrm_loopN (i + 1) ?_ ?_ ?_))
 exact sMk
 exact ⟨by omega, fun j hj => by by_cases hji : j = i; (subst hji; assumption); exact hf j (by omega)⟩
 omega
 refine sD (nS (tS (cF rfl ?_)))
 refine tri_exit ?_
 refine ext_seq ?_
 refine ext_loopN ?_
 refine ext_block_eq ?_
 refine nS (tS (tR (sQ (pA rfl) rfl (sD (nS (tT ?_))))))
 refine ret_own1 (rT rfl) SubH.refl ?_
 exact ⟨rfl, by rw [firstIx_none (fun j hj => hf j (by omega))], rfl⟩
theorem containsFunc_Term (G : IM) (p : Option Addr) (n c : Nat) (es : List (List Value)) (hsl : SlE G p n c 9 es) (fid : FuncId) [FunI Tryz.prog fid] (us cs : List Value) (ins : List Ent) (q : Nat → Bool)
  (hq : ∀ i e, es[i]? = some e → Fn Tryz.prog fid (us ++ [.agg ⟨e⟩] ++ cs) ins G (ValO (.bool (q i)) ins G)) :
  Fn Tryz.prog 151 [.slice p n c, .func (.func fid) ⟨us⟩ ⟨cs⟩] ins G (ValO (.bool (decide (0 ≤ firstIx q n))) ins G) := by
 refine fn_enter Tryz.func151 rfl Tryz.ntmps151 Tryz.results151 rfl ?_
 intro w0
 refine tS (tR (sQ (pA rfl) rfl (sD (nS (tS (tR ?_))))))
 refine sQ (pM rfl) rfl (sQ (pM rfl) rfl (seq_valo rfl (indexFunc_Term G p n c es hsl fid us cs ins q hq) perm_all rfl rfl ?_))
 refine sQ (pure_geq rfl rfl) rfl (sQ (pA rfl) rfl (sD (nS (tT (ret_own1 (rT rfl) SubH.refl ?_)))))
 exact ⟨rfl, rfl, rfl⟩
theorem containsNot_Term (G : IM) (p : Option Addr) (n c : Nat) (es : List (List Value)) (hsl : SlE G p n c 9 es) (fid : FuncId) [FunI Tryz.prog fid] (us cs : List Value) (ins : List Ent) (f : Tm → Bool) (ks : List Tm)
  (hn : ks.length = n) {A : Bool} (hA : ks.all f = A) (hq : ∀ i e, es[i]? = some e → Fn Tryz.prog fid (us ++ [.agg ⟨e⟩] ++ cs) ins G (ValO (.bool (!f (ks.getD i tm0))) ins G)) :
  Fn Tryz.prog 151 [.slice p n c, .func (.func fid) ⟨us⟩ ⟨cs⟩] ins G (ValO (.bool (!A)) ins G) := by
 subst hn hA
 rw [← contains_not f ks tm0]
 exact containsFunc_Term G p _ c es hsl fid us cs ins _ hq
theorem mValL_all : ∀ ks, mValL ks = ks.all mVal
 | [] => rfl
 | t :: ts => by rw [mValL, mValL_all ts, List.all_cons]
theorem isValue1_fn (t : Tm) (G : IM) (cells : List Value) (hl : cells.length = 9) (ho : cells.all (·.oneCell') = true) (h : Fn Tryz.prog 140 [.agg ⟨cells⟩] [] G (Val (.bool (mVal t)) G)) :
  Fn Tryz.prog 152 [.agg ⟨cells⟩] [] G (ValO (.bool (!mVal t)) [] G) := by
 refine fn_enter Tryz.func152 rfl Tryz.ntmps152 Tryz.results152 rfl ?_
 intro w0
 refine tS (tR ?_)
 refine sE (step_box_a rfl rfl) rfl (fun b3 => ?_)
 refine sQ (pA rfl) rfl (sD (nS (tS (tR (sL (load_a rfl rfl (at_blk_all (by repeat first | exact mH | apply mT)) hl) rfl rfl ?_)))))
 refine seq_val rfl (h) rfl rfl ?_
 refine sQ (pure_not rfl) rfl (sQ (pA rfl) rfl (sD (nS (tT (rF1 (rT rfl) ?_)))))
 (exact ⟨rfl, rfl, rfl⟩)
theorem prx_mk (k : Int) (nm : ByteArray) (num : Int) (ty fr : Ty) (lb : Int) (ks : List Tm) : prx (.mk k nm num ty fr lb ks) = decide (k = 14 ∧ fr.k = ty.k ∧ (ty.k = 4 ∨ ty.k = 5)) := rfl
theorem inj_mk (k : Int) (nm : ByteArray) (num : Int) (ty fr : Ty) (lb : Int) (ks : List Tm) : inj (.mk k nm num ty fr lb ks) = (decide (k = 14 ∧ ty.k = 1) && isGrd fr) := rfl
theorem val_yes {k : Int} {nm : ByteArray} {num : Int} {ty fr : Ty} {lb : Int} {ks : List Tm} (h : k = 10 ∨ prx (.mk k nm num ty fr lb ks) = true ∨ inj (.mk k nm num ty fr lb ks) = true) : mVal (.mk k nm num ty fr lb ks) = ks.all mVal := by
 rw [mVal, if_pos, mValL_all]
 rw [prx_mk, inj_mk] at h
 simp only [Bool.and_eq_true, decide_eq_true_eq] at h
 rcases h with h | h | h
 ·exact .inl h
 ·exact .inr (.inl h)
 ·exact .inr (.inr ⟨h.1.1, h.1.2, h.2⟩)
theorem val_no {k : Int} {nm : ByteArray} {num : Int} {ty fr : Ty} {lb : Int} {ks : List Tm} (h : ¬k = 10) (h2 : prx (.mk k nm num ty fr lb ks) = false) (h3 : inj (.mk k nm num ty fr lb ks) = false) : mVal (.mk k nm num ty fr lb ks) = decide (k = 2 ∨ k = 3 ∨ k = 4 ∨ k = 5) := by
 rw [mVal, if_neg]
 rw [prx_mk] at h2
 rw [inj_mk] at h3
 simp only [Bool.and_eq_false_iff, decide_eq_false_iff_not] at h2 h3
 rintro (h' | h' | h')
 ·exact h h'
 ·exact h2 h'
 ·rcases h3 with h3 | h3
  ·exact h3 ⟨h'.1, h'.2.1⟩
  ·rw [h3] at h'; cases h'.2.2
theorem isValue_fn : ∀ (t : Tm) (G : IM) (cells : List Value), RTm G t cells → Fn Tryz.prog 140 [.agg ⟨cells⟩] [] G (Val (.bool (mVal t)) G) := by
 refine Tm.ind fun k nm num ty fr lb ks ih G cells hr => ?_
 have hr0 := hr
 have hP := isProxy_fn _ G _ hr
 have hI := isInjection_fn _ G _ hr
 have hPl := isPlain_fn _ G _ hr
 have hy := @val_yes k nm num ty fr lb ks
 have hn := @val_no k nm num ty fr lb ks
 rw [show (Tm.mk k nm num ty fr lb ks).k = k from rfl] at hPl
 obtain ⟨A, hA⟩ : ∃ A, ks.all mVal = A := ⟨_, rfl⟩
 rw [hA] at hy
 generalize hpx : prx (.mk k nm num ty fr lb ks) = bp at hP hy hn
 generalize hij : inj (.mk k nm num ty fr lb ks) = bi at hI hy hn
 generalize mVal (.mk k nm num ty fr lb ks) = R at hy hn ⊢
 obtain ⟨tk, tks⟩ := ty
 obtain ⟨fk, fks⟩ := fr
 obtain ⟨pt, ct, pf, cf, p, c, es, rfl, hk, hnum, hlb, hty, hfr, hsl, hkl⟩ := hr.open9
 have hC := containsNot_Term G p ks.length c es hsl 152 [] [] [] mVal ks rfl hA (fun i e he => by
  have hx := hkl.inv he tm0
  exact isValue1_fn _ G e hx.2.len hx.2.one (ih _ hx.1 G e hx.2))
 refine fn_enter Tryz.func140 rfl Tryz.ntmps140 Tryz.results140 rfl ?_
 intro w0
 refine tS (tR ?_)
 refine sE (step_box_a rfl rfl) rfl (fun b3 => ?_)
 refine sQ (pA rfl) rfl (sD (nS (tS (tS (tR (sQ (pF0 rfl) rfl ?_))))))
 refine sL (lBs rfl rfl) rfl rfl ?_
 refine sB (pE rfl rfl) rfl rfl (fun h12 => ?_) (fun h12 => ?_)
 refine sQ (pM rfl) rfl (sK rfl rfl (sK rfl rfl (sQ (pPt rfl rfl) rfl (sQ (pM rfl) rfl (sK rfl rfl (sK rfl rfl ?_))))))
 refine sQ (pPt rfl rfl) rfl (sD (nS (cT rfl ?_)))
 refine tS (tR (sQ (pF0 rfl) rfl (sL (lBs rfl rfl) rfl rfl ?_)))
 refine seq_valo rfl hC perm_all rfl rfl ?_
 refine sQ (pure_not rfl) rfl (sQ (pA rfl) rfl (sD (nS (tT (rS (rF1 (rT rfl) ?_))))))
 (exact ⟨rfl, by rw [hy (by first | exact .inl (by omega) | exact .inr (.inl (by assumption)) | exact .inr (.inr (by assumption)))]; cases A <;> rfl, rfl⟩)
 refine sQ (pM rfl) rfl (sL (lBa rfl rfl) rfl rfl ?_)
 refine seq_valb rfl (hP) rfl rfl (fun h39 => ?_) (fun h39 => ?_)
 refine sQ (pPf rfl rfl) rfl (sQ (pM rfl) rfl (sK rfl rfl (sK rfl rfl (sQ (pPt rfl rfl) rfl (sD (nS ?_))))))
 refine cT rfl ?_
 refine tS (tR (sQ (pF0 rfl) rfl (sL (lBs rfl rfl) rfl rfl ?_)))
 refine seq_valo rfl hC perm_all rfl rfl ?_
 refine sQ (pure_not rfl) rfl (sQ (pA rfl) rfl (sD (nS (tT (rS (rF1 (rT rfl) ?_))))))
 (exact ⟨rfl, by rw [hy (by first | exact .inl (by omega) | exact .inr (.inl (by assumption)) | exact .inr (.inr (by assumption)))]; cases A <;> rfl, rfl⟩)
 refine sQ (pPf rfl rfl) rfl (sQ (pM rfl) rfl (sL (lBa rfl rfl) rfl rfl ?_))
 refine seq_valb rfl (hI) rfl rfl (fun h64 => ?_) (fun h64 => ?_)
 refine sQ (pPf rfl rfl) rfl (sD (nS (cT rfl ?_)))
 refine tS (tR (sQ (pF0 rfl) rfl (sL (lBs rfl rfl) rfl rfl ?_)))
 refine seq_valo rfl hC perm_all rfl rfl ?_
 refine sQ (pure_not rfl) rfl (sQ (pA rfl) rfl (sD (nS (tT (rS (rF1 (rT rfl) ?_))))))
 (exact ⟨rfl, by rw [hy (by first | exact .inl (by omega) | exact .inr (.inl (by assumption)) | exact .inr (.inr (by assumption)))]; cases A <;> rfl, rfl⟩)
 refine sQ (pPf rfl rfl) rfl (sD (nS (cF rfl ?_)))
 refine tK (nS (tS (tR (sL (lBa rfl rfl) rfl rfl ?_))))
 refine seq_val rfl (hPl) rfl rfl ?_
 refine sQ (pA rfl) rfl (sD (nS (tT (rF1 (rT rfl) ?_))))
 (exact ⟨rfl, by rw [hn (by omega) (by assumption) (by assumption)], rfl⟩)
theorem RTm.put {G : IM} {k : Int} {nm : ByteArray} {num tk fk lb : Int} {tks fks : List Ty} {us : List Tm} {pt pf p : Option Addr} {ct cf n c : Nat} {es : List (List Value)} (hk : I64 k) (hnum : I64 num) (hlb : I64 lb) (hty : RTy G (.mk tk tks) [.int .i64 tk, .slice pt tks.length ct]) (hfr : RTy G (.mk fk fks) [.int .i64 fk, .slice pf fks.length cf])
  (hn : n = us.length) (hs : SlE G p n c 9 es) (hr : RTmL G us es) : RTm G (.mk k nm num (.mk tk tks) (.mk fk fks) lb us) [.int .i64 k, .string nm, .int .i64 num, .int .i64 tk, .slice pt tks.length ct, .int .i64 fk, .slice pf fks.length cf, .int .i64 lb, .slice p n c] := by
 subst hn
 simp only [RTm]
 exact ⟨_, _, p, c, es, rfl, hk, hnum, hlb, hty, hfr, hs, hr⟩
theorem nine {uc : List Value} (h : uc.length = 9) : ∃ v1 v2 v3 v4 v5 v6 v7 v8 v9, uc = [v1, v2, v3, v4, v5, v6, v7, v8, v9] := by
 match uc, h with
 | [a, b, c, d, e, f, g, i, j], _ => exact ⟨a, b, c, d, e, f, g, i, j, rfl⟩
theorem substL_take {x : ByteArray} {v : Tm} {ks : List Tm} {i : Nat} (h : i < ks.length) : (mSubstL x v ks).take (i + 1) = (mSubstL x v ks).take i ++ [mSubst x v ks[i]] := by
 rw [mSubstL_eq, List.take_succ_eq_append_getElem (by rw [List.length_map]; exact h), List.getElem_map]
theorem substL_len (x : ByteArray) (v : Tm) (ks : List Tm) : (mSubstL x v ks).length = ks.length := by rw [mSubstL_eq, List.length_map]
theorem subst_fn (y : ByteArray) (v : Tm) (vc : List Value) : ∀ (t : Tm) (G : IM) (cells : List Value), t.small → RTm G t cells → RTm G v vc → Fn Tryz.prog 166 [.agg ⟨cells⟩, .string y, .agg ⟨vc⟩] [] G (TmP (mSubst y v t)) := by
 refine Tm.ind fun k nm num ty fr lb ks ih G cells hts hr hv => ?_
 have hr0 := hr
 obtain ⟨_, _, _, hsm, hks⟩ := small_mk.1 hts
 have hvl := hv.len
 have hvo := hv.one
 have hRl := hr.len
 have hRo := hr.one
 rw [mSubst]
 obtain ⟨tk, tks⟩ := ty
 obtain ⟨fk, fks⟩ := fr
 obtain ⟨pt, ct, pf, cf, p, c, es, rfl, hk, hnum, hlb, hty, hfr, hsl, hkl⟩ := hr.open9
 have hn := hsl.le
 refine fn_enter Tryz.func166 rfl Tryz.ntmps166 Tryz.results166 rfl ?_
 intro w0
 refine tS (tR ?_)
 refine sE (step_box_a rfl rfl) rfl (fun b3 => ?_)
 refine sE (step_box_a rfl rfl) rfl (fun b4 => ?_)
 refine sE (step_alloc rfl) rfl (fun b5 => ?_)
 refine sD (nS (tS (tri_block (tS (tR (sQ (pF0 rfl) rfl ?_))))))
 refine sL (lBs rfl rfl) rfl rfl ?_
 refine sB (pE rfl rfl) rfl rfl (fun h14 => ?_) (fun h14 => ?_)
 refine sQ (pM rfl) rfl (sQ (pF0 rfl) rfl (sL (lBs rfl rfl) rfl rfl ?_))
 refine sQ (pM rfl) rfl (sB (pure_seql rfl rfl) rfl rfl (fun h19 => ?_) (fun h19 => ?_))
 refine sQ (pPt rfl rfl) rfl (sQ (pA rfl) rfl (sD (nS (cT rfl ?_))))
 refine tS (tR (sL (load_a rfl rfl (at_blk_all (by repeat first | exact mH | apply mT)) hvl) rfl rfl ?_))
 refine sS rfl rfl rfl hvl hvo rfl ?_ (hu := by exact upd_all hvl.symm)
 refine sD (nS (tT (rB (rS (rF1 (rC rfl (load_a rfl rfl (at_blk_all (by repeat first | exact mH | apply mT)) hvl)) ?_)))))
 (rw [if_pos (by refine ⟨by omega, by assumption⟩)]; exact TmP.mk hv)
 refine sQ (pPt rfl rfl) rfl (sQ (pA rfl) rfl (sD (nS (cF rfl ?_))))
 refine tS (tR (sQ (pF0 rfl) rfl (sL (lBs rfl rfl) rfl rfl ?_)))
 refine sP (pure_eql_f rfl rfl (by omega)) rfl rfl ?_
 refine sQ (pM rfl) rfl (sK rfl rfl (sK rfl rfl (sK rfl rfl (sK rfl rfl (sQ (pPf rfl rfl) rfl (sQ (pA rfl) rfl ?_))))))
 refine sD (nS (cF rfl ?_))
 refine tK (nrm_block (nS (tS (tR (sL (lBa rfl rfl) rfl rfl ?_)))))
 refine sE (step_alloc rfl) rfl (fun b62 => ?_)
 refine sS' ?_
 refine sD (nS (tS (tR (sQ (pF0 rfl) rfl (sS' ?_)))))
 refine sD (nS (tS (tS (tR (sQ (pF0 rfl) rfl (sL (lBs rfl rfl) rfl rfl ?_))))))
 refine sQ (pLn rfl rfl) rfl (sQ (pM rfl) rfl (sD (nS (tri_block ?_))))
 (refine tri_nil 35 9 ?_; refine tri_loopN (fun (x : Nat × Option Addr × Nat × List (List Value) × IM) => ⟨[(37, .int .i64 x.1), (36, .int .i64 ks.length), (35, .slice p ks.length c), (1, .string y), (3, .pointer (some ⟨b3, 0, none⟩)), (5, .pointer (some ⟨b4, 0, none⟩)), (6, .pointer (some ⟨b5, 0, none⟩)), (7, .pointer (some ⟨b62, 0, none⟩))], [.blk b62 [.int .i64 k, .string nm, .int .i64 num, .int .i64 tk, .slice pt tks.length ct, .int .i64 fk, .slice pf fks.length cf, .int .i64 lb, .slice x.2.1 x.1 x.2.2.1], .slc x.2.1 x.2.2.1 35 9 x.1 x.2.2.2.1.flatten, .blk b5 [.int .i64 0, .string ⟨⟨[]⟩⟩, .int .i64 0, .int .i64 0, .slice none 0 0, .int .i64 0, .slice none 0 0, .int .i64 0, .slice none 0 0], .blk b4 vc, .blk b3 [.int .i64 k, .string nm, .int .i64 num, .int .i64 tk, .slice pt tks.length ct, .int .i64 fk, .slice pf fks.length cf, .int .i64 lb, .slice p ks.length c]], x.2.2.2.2⟩) (fun x => x.1 ≤ ks.length ∧ IMle G x.2.2.2.2 ∧ RTmL x.2.2.2.2 ((mSubstL y v ks).take x.1) x.2.2.2.1) (fun x => ks.length - x.1) (0, none, 0, [], G) ?_ ?_ ?_)
 (simp only [flat_snoc]; exact sMk)
 (exact ⟨Nat.zero_le _, IMle.refl _, by simp [RTmL]⟩)
 (rintro ⟨i, pn, cn, es', Gi⟩ ⟨hi, hle, hst⟩; simp only [] at hi hle hst ⊢; replace hsl := hsl.mono hle; replace hkl := hkl.mono hle; replace hv := hv.mono hle; replace hty := hty.mono hle; replace hfr := hfr.mono hle; have hsl' := hst.len; rw [List.length_take, substL_len] at hsl')
 refine tS (tR (sB (pure_lss rfl rfl) rfl rfl (fun h88 => ?_) (fun h88 => ?_)))
 refine sD (nS (tS (cT rfl ?_)))
 refine tK (nS (tS (tri_block (tS (tR ?_)))))
 (have hil : i < ks.length := (by omega); obtain ⟨bx, ox, e, rfl, hl, hat, hre, hgb⟩ := hsl.kidTm hkl (i := i) (by omega) (by omega); have hel := hre.len; have heo := hre.one; refine sP (pIN (j := i) rfl rfl rfl (by omega)) rfl rfl ?_)
 refine sL (load_a rfl rfl (hat _) hl) rfl rfl ?_
 refine sE (step_alloc rfl) rfl (fun b101 => ?_)
 refine sS rfl rfl rfl hel heo rfl ?_ (hu := by exact upd_all hel.symm)
 refine sD (nS (tri_draw mixed rfl ?_))
 refine any_load (i := 2) (l' := [ff,ff,tt,ff,ff,ff,ff,ff,ff,ff]) rfl npI (load_a rfl rfl (at_blk_all (by repeat first | exact mH | apply mT)) hel) rfl (by kernel_rfl) rfl rfl ?_
 refine aL 4 rfl (load_a rfl rfl (at_blk_all (by repeat first | exact mH | apply mT)) hvl) rfl ?_
 refine aP 0 rfl (pF0 rfl) rfl ?_
 refine aL 1 rfl (lBs rfl rfl) rfl ?_
 refine aP 3 rfl (pM rfl) rfl ?_
 refine aO' 5 ?_
 (refine one_imm rfl rfl (ih ks[i] (List.getElem_mem (by omega)) Gi _ (Tm.smallL_mem hks _ (List.getElem_mem (by omega))) hre hv) rfl rfl rfl (fun u G1 hle1 hh => ?_); obtain ⟨uc, rfl, hru⟩ := hh; have hul := hru.len; have huo := hru.one; obtain ⟨v1, v2, v3, v4, v5, v6, v7, v8, v9, rfl⟩ := nine hul)
 refine aO' 6 ?_
 (refine one_step0 rfl (step_buildSlice rfl rfl rfl (by omega) (by unfold maxLen; omega) rfl) rfl rfl ?_; rintro _ ⟨b114, rfl⟩)
 refine aO' 7 ?_
 (refine one_append rfl rfl rfl rfl rfl rfl (fun _ _ => by repeat (first | exact Sw.here | apply Sw.there)) (at_slc_all (by repeat first | exact mH | apply mT)) rfl (fun u hu => List.all_eq_true.1 huo u hu) (by unfold maxLen; omega) (by omega) rfl rfl (by repeat (first | exact HmOk.nil | apply HmOk.dep (by decide +kernel) | apply HmOk.im (by decide +kernel) (by assumption) (by repeat first | exact mH | apply mT) | apply HmOk.blk (by decide +kernel) (by repeat (first | exact Pk.here | apply Pk.there)) (by repeat first | exact mH | apply mT))) (fun p7 c7 => ?_))
 refine aP 8 rfl (pF0 rfl) rfl ?_
 refine aO' 9 ?_
 refine one_store rfl rfl rfl rfl rfl rfl rfl rfl (by decide +kernel) (by repeat first | exact Sw.here | apply Sw.there) (by rfl) ?_
 refine aD' ?_
 refine nrm_block (nS (tR (sP (pure_add rfl rfl (by omega) (by omega)) rfl rfl ?_)))
 refine sQ (pM rfl) rfl (sD (nrm_loopN (i + 1, p7, c7, es' ++ [[v1, v2, v3, v4, v5, v6, v7, v8, v9]], G1) ?_ ?_ ?_))
 (simp only [flat_snoc]; exact sMk)
 (dsimp only; exact ⟨by omega, hle.trans hle1, by rw [substL_take (by omega)]; exact RTmL.snoc (hst.mono hle1) hru⟩)
 (show ks.length - (i + 1) < ks.length - i; omega)
 refine sD (nS (tS (cF rfl ?_)))
 refine tri_exit ?_
 refine ext_seq ?_
 refine ext_loopN ?_
 refine ext_block_eq ?_
 refine nS (tS (tR (sL (lBa rfl rfl) rfl rfl ?_)))
 refine sS' ?_
 refine sD (nS ?_)
 (refine ret_freeze (cs := es'.flatten) (by repeat (first | exact Pk.here | apply Pk.there)) (fun G2 hle2 hsl2 hno2 => ?_); obtain rfl : i = ks.length := (by omega))
 refine tT (rF1 (rC rfl (lBa rfl rfl)) ?_)
 (rw [if_neg (by rintro ⟨h1, h2⟩; first | omega | contradiction), if_neg (by rintro ⟨h1, h2⟩; first | omega | contradiction)]; rw [List.take_of_length_le (by rw [substL_len]; omega)] at hst; exact TmP.mk (RTm.put hk hnum hlb (hty.mono hle2) (hfr.mono hle2) (by rw [substL_len]) (SlE.of hsl2 (by omega) hst.all (fun e he => (hst.each e he).2)) (hst.mono hle2)))
 refine sQ (pM rfl) rfl (sK rfl rfl (sK rfl rfl (sK rfl rfl (sK rfl rfl (sQ (pPf rfl rfl) rfl (sQ (pA rfl) rfl ?_))))))
 refine sD (nS (cF rfl ?_))
 refine tS (tR (sQ (pF0 rfl) rfl (sL (lBs rfl rfl) rfl rfl ?_)))
 refine sB (pE rfl rfl) rfl rfl (fun h164 => ?_) (fun h164 => ?_)
 refine sQ (pM rfl) rfl (sQ (pF0 rfl) rfl (sL (lBs rfl rfl) rfl rfl ?_))
 refine sQ (pM rfl) rfl (sB (pure_seql rfl rfl) rfl rfl (fun h169 => ?_) (fun h169 => ?_))
 refine sQ (pPt rfl rfl) rfl (sQ (pA rfl) rfl (sD (nS (cT rfl ?_))))
 refine tS (tR (sL (lBa rfl rfl) rfl rfl ?_))
 refine sS' ?_
 refine sD (nS (tT (rB (rS (rF1 (rC rfl (lBa rfl rfl)) ?_)))))
 (rw [if_neg (by rintro ⟨h1, h2⟩; first | omega | contradiction), if_pos (by refine ⟨by omega, by assumption⟩)]; exact TmP.mk hr0)
 refine sQ (pPt rfl rfl) rfl (sQ (pA rfl) rfl (sD (nS (cF rfl ?_))))
 refine tK (nrm_block (nS (tS (tR (sL (lBa rfl rfl) rfl rfl ?_)))))
 refine sE (step_alloc rfl) rfl (fun b197 => ?_)
 refine sS' ?_
 refine sD (nS (tS (tR (sQ (pF0 rfl) rfl (sS' ?_)))))
 refine sD (nS (tS (tS (tR (sQ (pF0 rfl) rfl (sL (lBs rfl rfl) rfl rfl ?_))))))
 refine sQ (pLn rfl rfl) rfl (sQ (pM rfl) rfl (sD (nS (tri_block ?_))))
 (refine tri_nil 35 9 ?_; refine tri_loopN (fun (x : Nat × Option Addr × Nat × List (List Value) × IM) => ⟨[(37, .int .i64 x.1), (36, .int .i64 ks.length), (35, .slice p ks.length c), (1, .string y), (3, .pointer (some ⟨b3, 0, none⟩)), (5, .pointer (some ⟨b4, 0, none⟩)), (6, .pointer (some ⟨b5, 0, none⟩)), (7, .pointer (some ⟨b197, 0, none⟩))], [.blk b197 [.int .i64 k, .string nm, .int .i64 num, .int .i64 tk, .slice pt tks.length ct, .int .i64 fk, .slice pf fks.length cf, .int .i64 lb, .slice x.2.1 x.1 x.2.2.1], .slc x.2.1 x.2.2.1 35 9 x.1 x.2.2.2.1.flatten, .blk b5 [.int .i64 0, .string ⟨⟨[]⟩⟩, .int .i64 0, .int .i64 0, .slice none 0 0, .int .i64 0, .slice none 0 0, .int .i64 0, .slice none 0 0], .blk b4 vc, .blk b3 [.int .i64 k, .string nm, .int .i64 num, .int .i64 tk, .slice pt tks.length ct, .int .i64 fk, .slice pf fks.length cf, .int .i64 lb, .slice p ks.length c]], x.2.2.2.2⟩) (fun x => x.1 ≤ ks.length ∧ IMle G x.2.2.2.2 ∧ RTmL x.2.2.2.2 ((mSubstL y v ks).take x.1) x.2.2.2.1) (fun x => ks.length - x.1) (0, none, 0, [], G) ?_ ?_ ?_)
 (simp only [flat_snoc]; exact sMk)
 (exact ⟨Nat.zero_le _, IMle.refl _, by simp [RTmL]⟩)
 (rintro ⟨i, pn, cn, es', Gi⟩ ⟨hi, hle, hst⟩; simp only [] at hi hle hst ⊢; replace hsl := hsl.mono hle; replace hkl := hkl.mono hle; replace hv := hv.mono hle; replace hty := hty.mono hle; replace hfr := hfr.mono hle; have hsl' := hst.len; rw [List.length_take, substL_len] at hsl')
 refine tS (tR (sB (pure_lss rfl rfl) rfl rfl (fun h223 => ?_) (fun h223 => ?_)))
 refine sD (nS (tS (cT rfl ?_)))
 refine tK (nS (tS (tri_block (tS (tR ?_)))))
 (have hil : i < ks.length := (by omega); obtain ⟨bx, ox, e, rfl, hl, hat, hre, hgb⟩ := hsl.kidTm hkl (i := i) (by omega) (by omega); have hel := hre.len; have heo := hre.one; refine sP (pIN (j := i) rfl rfl rfl (by omega)) rfl rfl ?_)
 refine sL (load_a rfl rfl (hat _) hl) rfl rfl ?_
 refine sE (step_alloc rfl) rfl (fun b236 => ?_)
 refine sS rfl rfl rfl hel heo rfl ?_ (hu := by exact upd_all hel.symm)
 refine sD (nS (tri_draw mixed rfl ?_))
 refine any_load (i := 2) (l' := [ff,ff,tt,ff,ff,ff,ff,ff,ff,ff]) rfl npI (load_a rfl rfl (at_blk_all (by repeat first | exact mH | apply mT)) hel) rfl (by kernel_rfl) rfl rfl ?_
 refine aL 4 rfl (load_a rfl rfl (at_blk_all (by repeat first | exact mH | apply mT)) hvl) rfl ?_
 refine aP 0 rfl (pF0 rfl) rfl ?_
 refine aL 1 rfl (lBs rfl rfl) rfl ?_
 refine aP 3 rfl (pM rfl) rfl ?_
 refine aO' 5 ?_
 (refine one_imm rfl rfl (ih ks[i] (List.getElem_mem (by omega)) Gi _ (Tm.smallL_mem hks _ (List.getElem_mem (by omega))) hre hv) rfl rfl rfl (fun u G1 hle1 hh => ?_); obtain ⟨uc, rfl, hru⟩ := hh; have hul := hru.len; have huo := hru.one; obtain ⟨v1, v2, v3, v4, v5, v6, v7, v8, v9, rfl⟩ := nine hul)
 refine aO' 6 ?_
 (refine one_step0 rfl (step_buildSlice rfl rfl rfl (by omega) (by unfold maxLen; omega) rfl) rfl rfl ?_; rintro _ ⟨b249, rfl⟩)
 refine aO' 7 ?_
 (refine one_append rfl rfl rfl rfl rfl rfl (fun _ _ => by repeat (first | exact Sw.here | apply Sw.there)) (at_slc_all (by repeat first | exact mH | apply mT)) rfl (fun u hu => List.all_eq_true.1 huo u hu) (by unfold maxLen; omega) (by omega) rfl rfl (by repeat (first | exact HmOk.nil | apply HmOk.dep (by decide +kernel) | apply HmOk.im (by decide +kernel) (by assumption) (by repeat first | exact mH | apply mT) | apply HmOk.blk (by decide +kernel) (by repeat (first | exact Pk.here | apply Pk.there)) (by repeat first | exact mH | apply mT))) (fun p7 c7 => ?_))
 refine aP 8 rfl (pF0 rfl) rfl ?_
 refine aO' 9 ?_
 refine one_store rfl rfl rfl rfl rfl rfl rfl rfl (by decide +kernel) (by repeat first | exact Sw.here | apply Sw.there) (by rfl) ?_
 refine aD' ?_
 refine nrm_block (nS (tR (sP (pure_add rfl rfl (by omega) (by omega)) rfl rfl ?_)))
 refine sQ (pM rfl) rfl (sD (nrm_loopN (i + 1, p7, c7, es' ++ [[v1, v2, v3, v4, v5, v6, v7, v8, v9]], G1) ?_ ?_ ?_))
 (simp only [flat_snoc]; exact sMk)
 (dsimp only; exact ⟨by omega, hle.trans hle1, by rw [substL_take (by omega)]; exact RTmL.snoc (hst.mono hle1) hru⟩)
 (show ks.length - (i + 1) < ks.length - i; omega)
 refine sD (nS (tS (cF rfl ?_)))
 refine tri_exit ?_
 refine ext_seq ?_
 refine ext_loopN ?_
 refine ext_block_eq ?_
 refine nS (tS (tR (sL (lBa rfl rfl) rfl rfl ?_)))
 refine sS' ?_
 refine sD (nS ?_)
 (refine ret_freeze (cs := es'.flatten) (by repeat (first | exact Pk.here | apply Pk.there)) (fun G2 hle2 hsl2 hno2 => ?_); obtain rfl : i = ks.length := (by omega))
 refine tT (rF1 (rC rfl (lBa rfl rfl)) ?_)
 (rw [if_neg (by rintro ⟨h1, h2⟩; first | omega | contradiction), if_neg (by rintro ⟨h1, h2⟩; first | omega | contradiction)]; rw [List.take_of_length_le (by rw [substL_len]; omega)] at hst; exact TmP.mk (RTm.put hk hnum hlb (hty.mono hle2) (hfr.mono hle2) (by rw [substL_len]) (SlE.of hsl2 (by omega) hst.all (fun e he => (hst.each e he).2)) (hst.mono hle2)))
 refine sQ (pM rfl) rfl (sK rfl rfl (sK rfl rfl (sK rfl rfl (sK rfl rfl (sQ (pPf rfl rfl) rfl (sQ (pA rfl) rfl ?_))))))
 refine sD (nS (cF rfl ?_))
 refine tK (nrm_block (nS (tS (tR (sL (lBa rfl rfl) rfl rfl ?_)))))
 refine sE (step_alloc rfl) rfl (fun b301 => ?_)
 refine sS' ?_
 refine sD (nS (tS (tR (sQ (pF0 rfl) rfl (sS' ?_)))))
 refine sD (nS (tS (tS (tR (sQ (pF0 rfl) rfl (sL (lBs rfl rfl) rfl rfl ?_))))))
 refine sQ (pLn rfl rfl) rfl (sQ (pM rfl) rfl (sD (nS (tri_block ?_))))
 (refine tri_nil 35 9 ?_; refine tri_loopN (fun (x : Nat × Option Addr × Nat × List (List Value) × IM) => ⟨[(37, .int .i64 x.1), (36, .int .i64 ks.length), (35, .slice p ks.length c), (1, .string y), (3, .pointer (some ⟨b3, 0, none⟩)), (5, .pointer (some ⟨b4, 0, none⟩)), (6, .pointer (some ⟨b5, 0, none⟩)), (7, .pointer (some ⟨b301, 0, none⟩))], [.blk b301 [.int .i64 k, .string nm, .int .i64 num, .int .i64 tk, .slice pt tks.length ct, .int .i64 fk, .slice pf fks.length cf, .int .i64 lb, .slice x.2.1 x.1 x.2.2.1], .slc x.2.1 x.2.2.1 35 9 x.1 x.2.2.2.1.flatten, .blk b5 [.int .i64 0, .string ⟨⟨[]⟩⟩, .int .i64 0, .int .i64 0, .slice none 0 0, .int .i64 0, .slice none 0 0, .int .i64 0, .slice none 0 0], .blk b4 vc, .blk b3 [.int .i64 k, .string nm, .int .i64 num, .int .i64 tk, .slice pt tks.length ct, .int .i64 fk, .slice pf fks.length cf, .int .i64 lb, .slice p ks.length c]], x.2.2.2.2⟩) (fun x => x.1 ≤ ks.length ∧ IMle G x.2.2.2.2 ∧ RTmL x.2.2.2.2 ((mSubstL y v ks).take x.1) x.2.2.2.1) (fun x => ks.length - x.1) (0, none, 0, [], G) ?_ ?_ ?_)
 (simp only [flat_snoc]; exact sMk)
 (exact ⟨Nat.zero_le _, IMle.refl _, by simp [RTmL]⟩)
 (rintro ⟨i, pn, cn, es', Gi⟩ ⟨hi, hle, hst⟩; simp only [] at hi hle hst ⊢; replace hsl := hsl.mono hle; replace hkl := hkl.mono hle; replace hv := hv.mono hle; replace hty := hty.mono hle; replace hfr := hfr.mono hle; have hsl' := hst.len; rw [List.length_take, substL_len] at hsl')
 refine tS (tR (sB (pure_lss rfl rfl) rfl rfl (fun h327 => ?_) (fun h327 => ?_)))
 refine sD (nS (tS (cT rfl ?_)))
 refine tK (nS (tS (tri_block (tS (tR ?_)))))
 (have hil : i < ks.length := (by omega); obtain ⟨bx, ox, e, rfl, hl, hat, hre, hgb⟩ := hsl.kidTm hkl (i := i) (by omega) (by omega); have hel := hre.len; have heo := hre.one; refine sP (pIN (j := i) rfl rfl rfl (by omega)) rfl rfl ?_)
 refine sL (load_a rfl rfl (hat _) hl) rfl rfl ?_
 refine sE (step_alloc rfl) rfl (fun b340 => ?_)
 refine sS rfl rfl rfl hel heo rfl ?_ (hu := by exact upd_all hel.symm)
 refine sD (nS (tri_draw mixed rfl ?_))
 refine any_load (i := 2) (l' := [ff,ff,tt,ff,ff,ff,ff,ff,ff,ff]) rfl npI (load_a rfl rfl (at_blk_all (by repeat first | exact mH | apply mT)) hel) rfl (by kernel_rfl) rfl rfl ?_
 refine aL 4 rfl (load_a rfl rfl (at_blk_all (by repeat first | exact mH | apply mT)) hvl) rfl ?_
 refine aP 0 rfl (pF0 rfl) rfl ?_
 refine aL 1 rfl (lBs rfl rfl) rfl ?_
 refine aP 3 rfl (pM rfl) rfl ?_
 refine aO' 5 ?_
 (refine one_imm rfl rfl (ih ks[i] (List.getElem_mem (by omega)) Gi _ (Tm.smallL_mem hks _ (List.getElem_mem (by omega))) hre hv) rfl rfl rfl (fun u G1 hle1 hh => ?_); obtain ⟨uc, rfl, hru⟩ := hh; have hul := hru.len; have huo := hru.one; obtain ⟨v1, v2, v3, v4, v5, v6, v7, v8, v9, rfl⟩ := nine hul)
 refine aO' 6 ?_
 (refine one_step0 rfl (step_buildSlice rfl rfl rfl (by omega) (by unfold maxLen; omega) rfl) rfl rfl ?_; rintro _ ⟨b353, rfl⟩)
 refine aO' 7 ?_
 (refine one_append rfl rfl rfl rfl rfl rfl (fun _ _ => by repeat (first | exact Sw.here | apply Sw.there)) (at_slc_all (by repeat first | exact mH | apply mT)) rfl (fun u hu => List.all_eq_true.1 huo u hu) (by unfold maxLen; omega) (by omega) rfl rfl (by repeat (first | exact HmOk.nil | apply HmOk.dep (by decide +kernel) | apply HmOk.im (by decide +kernel) (by assumption) (by repeat first | exact mH | apply mT) | apply HmOk.blk (by decide +kernel) (by repeat (first | exact Pk.here | apply Pk.there)) (by repeat first | exact mH | apply mT))) (fun p7 c7 => ?_))
 refine aP 8 rfl (pF0 rfl) rfl ?_
 refine aO' 9 ?_
 refine one_store rfl rfl rfl rfl rfl rfl rfl rfl (by decide +kernel) (by repeat first | exact Sw.here | apply Sw.there) (by rfl) ?_
 refine aD' ?_
 refine nrm_block (nS (tR (sP (pure_add rfl rfl (by omega) (by omega)) rfl rfl ?_)))
 refine sQ (pM rfl) rfl (sD (nrm_loopN (i + 1, p7, c7, es' ++ [[v1, v2, v3, v4, v5, v6, v7, v8, v9]], G1) ?_ ?_ ?_))
 (simp only [flat_snoc]; exact sMk)
 (dsimp only; exact ⟨by omega, hle.trans hle1, by rw [substL_take (by omega)]; exact RTmL.snoc (hst.mono hle1) hru⟩)
 (show ks.length - (i + 1) < ks.length - i; omega)
 refine sD (nS (tS (cF rfl ?_)))
 refine tri_exit ?_
 refine ext_seq ?_
 refine ext_loopN ?_
 refine ext_block_eq ?_
 refine nS (tS (tR (sL (lBa rfl rfl) rfl rfl ?_)))
 refine sS' ?_
 refine sD (nS ?_)
 (refine ret_freeze (cs := es'.flatten) (by repeat (first | exact Pk.here | apply Pk.there)) (fun G2 hle2 hsl2 hno2 => ?_); obtain rfl : i = ks.length := (by omega))
 refine tT (rF1 (rC rfl (lBa rfl rfl)) ?_)
 (rw [if_neg (by rintro ⟨h1, h2⟩; first | omega | contradiction), if_neg (by rintro ⟨h1, h2⟩; first | omega | contradiction)]; rw [List.take_of_length_le (by rw [substL_len]; omega)] at hst; exact TmP.mk (RTm.put hk hnum hlb (hty.mono hle2) (hfr.mono hle2) (by rw [substL_len]) (SlE.of hsl2 (by omega) hst.all (fun e he => (hst.each e he).2)) (hst.mono hle2)))
theorem casted_fn (e : Tm) (a b : Ty) (l : Int) (G : IM) (ce ca cb : List Value) (hl : I64 l) (he : RTm G e ce) (ha : RTy G a ca) (hb : RTy G b cb) : Fn Tryz.prog 168 [.agg ⟨ce⟩, .agg ⟨ca⟩, .agg ⟨cb⟩, .int .i64 l] [] G (TmP (mCst e a b l)) := by
 have hel := he.len
 have heo := he.one
 obtain ⟨v1, v2, v3, v4, v5, v6, v7, v8, v9, rfl⟩ := nine hel
 obtain ⟨ak, aks⟩ := a
 obtain ⟨bk, bks⟩ := b
 obtain ⟨pa, cca, ea, rfl, _⟩ := ha.open
 obtain ⟨pb, ccb, eb, rfl, _⟩ := hb.open
 refine fn_enter Tryz.func168 rfl Tryz.ntmps168 Tryz.results168 rfl ?_
 intro w0
 refine tS (tR ?_)
 refine sE (step_box_a rfl rfl) rfl (fun b3 => ?_)
 refine sE (step_box_a rfl rfl) rfl (fun b4 => ?_)
 refine sE (step_box_a rfl rfl) rfl (fun b5 => ?_)
 refine sE (step_alloc rfl) rfl (fun b6 => ?_)
 refine sD (nS (tS (tR (sL (load_a rfl rfl (at_blk_all (by repeat first | exact mH | apply mT)) rfl) rfl rfl ?_))))
 refine sL (load_a rfl rfl (at_blk_all (by repeat first | exact mH | apply mT)) rfl) rfl rfl ?_
 refine sQ (pM rfl) rfl (sL (load_a rfl rfl (at_blk_all (by repeat first | exact mH | apply mT)) rfl) rfl rfl ?_)
 (refine seq_step (step_buildSlice rfl rfl rfl (by omega) (by unfold maxLen; omega) rfl) rfl ?_; rintro _ ⟨b15, rfl⟩)
 refine sQ (pBd rfl rfl) rfl (sS' ?_)
 refine sD (nS ?_)
 (refine ret_freeze (cs := [v1, v2, v3, v4, v5, v6, v7, v8, v9]) (by repeat (first | exact Pk.here | apply Pk.there)) (fun G2 hle2 hsl2 hno2 => ?_))
 refine tT (rF1 (rC rfl (lBa rfl rfl)) ?_)
 (exact TmP.mk (RTm.put (us := [e]) (es := [[v1, v2, v3, v4, v5, v6, v7, v8, v9]]) ⟨by decide, by decide⟩ ⟨by decide, by decide⟩ hl (hb.mono hle2) (ha.mono hle2) rfl (SlE.of hsl2 rfl (by intro x hx; obtain rfl := List.mem_singleton.1 hx; rfl) (by intro x hx; obtain rfl := List.mem_singleton.1 hx; exact heo)) (by simp only [RTmL]; exact ⟨_, _, rfl, he.mono hle2, rfl⟩)))
theorem node_fn (k : Int) (p : Option Addr) (n c : Nat) (G : IM) : Fn Tryz.prog 169 [.int .i64 k, .slice p n c] [] G (Val (.agg ⟨[.int .i64 k, .string ⟨⟨[]⟩⟩, .int .i64 0, .int .i64 0, .slice none 0 0, .int .i64 0, .slice none 0 0, .int .i64 0, .slice p n c]⟩) G) := by
 refine fn_enter Tryz.func169 rfl Tryz.ntmps169 Tryz.results169 rfl ?_
 intro w0
 refine tS (tR ?_)
 refine sE (step_alloc rfl) rfl (fun b3 => ?_)
 refine sD (nS (tS (tR (sQ (pM rfl) rfl (sQ (pM rfl) rfl (sQ (pBd rfl rfl) rfl ?_))))))
 refine sS' ?_
 refine sD (nS (tT (rF1 (rC rfl (lBa rfl rfl)) ?_)))
 (exact ⟨rfl, rfl, rfl⟩)
theorem rtm_leaf (G : IM) {k : Int} (hk : I64 k) : RTm G (mNod k []) [.int .i64 k, .string ⟨⟨[]⟩⟩, .int .i64 0, .int .i64 0, .slice none 0 0, .int .i64 0, .slice none 0 0, .int .i64 0, .slice none 0 0] := rtm_nod hk rfl (SlE.nil _ _) rfl
theorem truthT_fn (G : IM) : Fn Tryz.prog 167 [.bool true] [] G (TmP (mTru (true = true))) := by
 refine fn_enter Tryz.func167 rfl Tryz.ntmps167 Tryz.results167 rfl ?_
 intro w0
 refine tS (tR ?_)
 refine sE (step_alloc rfl) rfl (fun b3 => ?_)
 refine sD (nS (tS (tS (tR (sQ (pM rfl) rfl (sD ?_))))))
 refine nS (cT rfl ?_)
 refine tS (tR (seq_val rfl ((node_fn _ _ _ _ _)) rfl rfl ?_))
 refine sS' ?_
 refine sD (nS (tT (rS (rF1 (rC rfl (lBa rfl rfl)) ?_))))
 (exact TmP.mk (rtm_leaf _ ⟨by decide, by decide⟩))
theorem truthF_fn (G : IM) : Fn Tryz.prog 167 [.bool false] [] G (TmP (mTru (false = true))) := by
 refine fn_enter Tryz.func167 rfl Tryz.ntmps167 Tryz.results167 rfl ?_
 intro w0
 refine tS (tR ?_)
 refine sE (step_alloc rfl) rfl (fun b3 => ?_)
 refine sD (nS (tS (tS (tR (sQ (pM rfl) rfl (sD ?_))))))
 refine nS (cF rfl ?_)
 refine tK (nS (tS (tR (seq_val rfl ((node_fn _ _ _ _ _)) rfl rfl ?_))))
 refine sS' ?_
 refine sD (nS (tT (rF1 (rC rfl (lBa rfl rfl)) ?_)))
 (exact TmP.mk (rtm_leaf _ ⟨by decide, by decide⟩))
theorem truth_fn (b : Bool) (G : IM) : Fn Tryz.prog 167 [.bool b] [] G (TmP (mTru (b = true))) := by
 cases b
 ·exact truthF_fn G
 ·exact truthT_fn G
/-- The step of a node by the rules that casts have no part in. -/
theorem tmod_1000' {a b : Int} (h : 0 ≤ a ∧ a ≤ 999) (h' : 0 ≤ b ∧ b ≤ 999) : (a + b).tmod 1000 = (a + b) % 1000 := by
 rw [Int.tmod_eq_emod_of_nonneg (by omega)]
def mRule (k : Int) (ks : List Tm) : Option Tm :=
 if k = 6 then (if (kd ks 0).k = 5 then some (mSubst (kd ks 0).nm (kd ks 1) (kd (kd ks 0).ks 0)) else none)
 else if k = 7 ∨ k = 8 then (if (kd ks 0).k = 2 ∧ (kd ks 1).k = 2 then some (if k = 7 then mNum (((kd ks 0).num + (kd ks 1).num) % 1000) else mTru ((kd ks 0).num < (kd ks 1).num)) else none)
 else if k = 9 then (if (kd ks 0).k = 3 then some (kd ks 1) else if (kd ks 0).k = 4 then some (kd ks 2) else none)
 else if k = 11 ∨ k = 12 then (if (kd ks 0).k = 10 then some (kd (kd ks 0).ks (k - 11).toNat) else none)
 else none
def RulP (o : Option Tm) : IM → Value → List Ent → Prop := Imm fun G' v => ∃ u cells c, v = .tuple ⟨[.agg ⟨cells⟩, .int .i64 c]⟩ ∧ RTm G' u cells ∧ (∀ x, o = some x → c = 1 ∧ u = x) ∧ (o = none → c = 3)
theorem RulP.yes {G : IM} {o : Option Tm} {u : Tm} {cells : List Value} (h : o = some u) (hr : RTm G u cells) : RulP o G (.tuple ⟨[.agg ⟨cells⟩, .int .i64 1]⟩) [] := by
 subst h; exact ⟨rfl, u, cells, 1, rfl, hr, fun x hx => (by cases hx; exact ⟨rfl, rfl⟩), fun h => (by cases h)⟩
theorem RulP.no {G : IM} {o : Option Tm} {u : Tm} {cells : List Value} (h : o = none) (hr : RTm G u cells) : RulP o G (.tuple ⟨[.agg ⟨cells⟩, .int .i64 3]⟩) [] := by
 subst h; exact ⟨rfl, u, cells, 3, rfl, hr, fun x hx => (by cases hx), fun _ => rfl⟩
theorem tm0_r (G : IM) : RTm G tm0 [.int .i64 0, .string ⟨⟨[]⟩⟩, .int .i64 0, .int .i64 0, .slice none 0 0, .int .i64 0, .slice none 0 0, .int .i64 0, .slice none 0 0] := (STm.zero G).R
theorem rule6_fn (a b : Tm) (nm : ByteArray) (num : Int) (ty fr : Ty) (lb : Int) (G : IM) (cells : List Value) (hca : cv a) (hr : RTm G (.mk 6 nm num ty fr lb [a, b]) cells) : Fn Tryz.prog 156 [.agg ⟨cells⟩] [] G (RulP (mRule 6 [a, b])) := by
 have hsm := cv_small a hca
 obtain ⟨ak, anm, anum, ⟨atk, atks⟩, ⟨afk, afks⟩, alb, aks⟩ := a
 obtain ⟨tk, tks⟩ := ty
 obtain ⟨fk, fks⟩ := fr
 obtain ⟨pt, ct, pf, cf, p, c, es, rfl, hk, hnum, hlb, hty, hfr, hsl, hkl⟩ := hr.open9
 obtain ⟨bx, ox, e0, rfl, hl0, hat0, hre0, hgb0⟩ := hsl.kidTm hkl (i := 0) (by simp) (by simp)
 replace hre0 : RTm G (.mk ak anm anum (.mk atk atks) (.mk afk afks) alb aks) e0 := hre0
 obtain ⟨apt, act, apf, acf, ap, ac, aes, rfl, hak, hanum, halb, haty, hafr, hasl, hakl⟩ := hre0.open9
 obtain ⟨_, _, e1, hp1, hl1, hat1, hre1, hgb1⟩ := hsl.kidTm hkl (i := 1) (by simp) (by simp)
 cases hp1
 replace hre1 : RTm G b e1 := hre1
 have ho1 := hre1.one
 obtain ⟨hN, _⟩ := hca.node
 have hops := hN.ops
 obtain ⟨_, _, _, _, hksm⟩ := small_mk.1 hsm
 have h1 : ak = 5 → aks.length = 1 := fun h => by rw [h] at hops; have : tmOps 5 = 1 := rfl; omega
 have hL : ([Tm.mk ak anm anum (.mk atk atks) (.mk afk afks) alb aks, b] : List Tm).length = 2 := rfl
 rw [show mRule 6 [Tm.mk ak anm anum (.mk atk atks) (.mk afk afks) alb aks, b] = (if ak = 5 then some (mSubst anm b (kd aks 0)) else none) from rfl]
 refine fn_enter Tryz.func156 rfl Tryz.ntmps156 Tryz.results156 rfl ?_
 intro w0
 refine tS (tR ?_)
 refine sE (step_box_a rfl rfl) rfl (fun b3 => ?_)
 refine sE (step_alloc rfl) rfl (fun b4 => ?_)
 refine sQ (pA rfl) rfl (sD (nS (tS (tR (sQ (pBd rfl rfl) rfl ?_)))))
 refine sE (step_alloc rfl) rfl (fun b11 => ?_)
 refine sS' ?_
 refine sD (nS (tS (tS (tR (sQ (pF0 rfl) rfl (sL (lBs rfl rfl) rfl rfl ?_))))))
 refine sQ (pLn rfl rfl) rfl (sP (pure_gtr_t rfl rfl (by omega)) rfl rfl ?_)
 refine sD (nS (cT rfl ?_))
 refine tR (sQ (pF0 rfl) rfl (sL (lBs rfl rfl) rfl rfl ?_))
 refine sP (pIN (j := 0) rfl rfl rfl (by simp)) rfl rfl ?_
 refine sL (load_a rfl rfl (hat0 _) rfl) rfl rfl ?_
 refine sS' ?_
 refine sD (nS (tS (tS (tR (sQ (pF0 rfl) rfl (sL (lBs rfl rfl) rfl rfl ?_))))))
 refine sD (nS (tri_block (tS (tR (sP (pure_eql_t rfl rfl (by omega)) rfl rfl ?_)))))
 refine sQ (pA rfl) rfl (sD (nS (cT rfl ?_)))
 refine tS (tR (sQ (pF0 rfl) rfl (sL (lBs rfl rfl) rfl rfl ?_)))
 refine sB (pE rfl rfl) rfl rfl (fun h52 => ?_) (fun h52 => ?_)
 refine sD (nS (cT rfl ?_))
 refine tS ?_
 (have hq : ak = 5 := (by omega); have hq1 := h1 hq; obtain ⟨bq, oq, e3, rfl, hl3, hat3, hre3, hgb3⟩ := hasl.kidTm hakl (i := 0) (by omega) (by omega); have hS := subst_fn anm b e1 aks[0] G e3 (Tm.smallL_mem hksm _ (List.getElem_mem (by omega))) hre3 hre1; refine tri_draw mixed rfl ?_)
 refine any_pure (i := 0) (l' := [tt,ff,ff,ff,ff,ff,ff,ff,ff,ff,ff,ff,ff]) rfl npI (pF0 rfl) rfl (by kernel_rfl) rfl rfl ?_
 refine aL 1 rfl (lBs rfl rfl) rfl ?_
 refine aP 2 rfl (pIN (j := 0) rfl rfl rfl (by omega)) rfl ?_
 refine aL 3 rfl (load_a rfl rfl (hat3 _) hl3) rfl ?_
 refine aP 4 rfl (pF0 rfl) rfl ?_
 refine aL 5 rfl (lBs rfl rfl) rfl ?_
 refine aP 6 rfl (pF0 rfl) rfl ?_
 refine aL 7 rfl (lBs rfl rfl) rfl ?_
 refine aP 8 rfl (pIN (j := 1) rfl rfl rfl (by simp)) rfl ?_
 refine aL 9 rfl (load_a rfl rfl (hat1 _) hl1) rfl ?_
 refine aO' 10 ?_
 (refine one_imm rfl rfl hS rfl rfl rfl (fun u G1 hle1 hh => ?_); obtain ⟨uc, rfl, hru⟩ := hh; have hul := hru.len; have huo := hru.one)
 refine aO' 11 ?_
 (refine oS rfl rfl rfl rfl hul huo rfl rfl ?_ (hu := by exact upd_all hul.symm))
 refine aP 12 rfl (pA rfl) rfl ?_
 refine aD' ?_
 refine nS (tT (rB (rS (rF2 (rC rfl (load_a rfl rfl (at_blk_all (by repeat first | exact mH | apply mT)) hul)) (rT rfl) ?_))))
 (exact RulP.yes (by rw [if_pos (by omega)]; unfold kd; rw [List.getD_eq_getElem?_getD, List.getElem?_eq_getElem (by omega), Option.getD_some]) hru)
 refine sD (nS (cF rfl ?_))
 refine tK (nrm_block (nS (tS (tR (sQ (pBd rfl rfl) rfl (sS' ?_))))))
 refine sQ (pA rfl) rfl (sD (nS (tT (rF2 (rC rfl (lBa rfl rfl)) (rT rfl) ?_))))
 (exact RulP.no (by rw [if_neg (by omega)]) (tm0_r _))
theorem rule78_fn (k : Int) (a b : Tm) (nm : ByteArray) (num : Int) (ty fr : Ty) (lb : Int) (G : IM) (cells : List Value) (hk78 : k = 7 ∨ k = 8) (hca : cv a) (hcb : cv b) (hr : RTm G (.mk k nm num ty fr lb [a, b]) cells) : Fn Tryz.prog 156 [.agg ⟨cells⟩] [] G (RulP (mRule k [a, b])) := by
 obtain ⟨ak, anm, anum, ⟨atk, atks⟩, ⟨afk, afks⟩, alb, aks⟩ := a
 obtain ⟨tk, tks⟩ := ty
 obtain ⟨fk, fks⟩ := fr
 obtain ⟨pt, ct, pf, cf, p, c, es, rfl, hk, hnum, hlb, hty, hfr, hsl, hkl⟩ := hr.open9
 obtain ⟨bx, ox, e0, rfl, hl0, hat0, hre0, hgb0⟩ := hsl.kidTm hkl (i := 0) (by simp) (by simp)
 replace hre0 : RTm G (.mk ak anm anum (.mk atk atks) (.mk afk afks) alb aks) e0 := hre0
 obtain ⟨apt, act, apf, acf, ap, ac, aes, rfl, hak, hanum, halb, haty, hafr, hasl, hakl⟩ := hre0.open9
 obtain ⟨bk, bnm, bnum, ⟨btk, btks⟩, ⟨bfk, bfks⟩, blb, bks⟩ := b
 obtain ⟨_, _, e1, hp1, hl1, hat1, hre1, hgb1⟩ := hsl.kidTm hkl (i := 1) (by simp) (by simp)
 cases hp1
 replace hre1 : RTm G (.mk bk bnm bnum (.mk btk btks) (.mk bfk bfks) blb bks) e1 := hre1
 obtain ⟨bpt, bct, bpf, bcf, bp, bc, bes, rfl, hbk, hbnum, hblb, hbty, hbfr, hbsl, hbkl⟩ := hre1.open9
 obtain ⟨hN, _⟩ := hca.node
 obtain ⟨hM, _⟩ := hcb.node
 obtain ⟨hn1, hn2⟩ := hN.num0
 obtain ⟨hm1, hm2⟩ := hM.num0
 have hL : ([Tm.mk ak anm anum (.mk atk atks) (.mk afk afks) alb aks, Tm.mk bk bnm bnum (.mk btk btks) (.mk bfk bfks) blb bks] : List Tm).length = 2 := rfl
 have hR : mRule k [Tm.mk ak anm anum (.mk atk atks) (.mk afk afks) alb aks, Tm.mk bk bnm bnum (.mk btk btks) (.mk bfk bfks) blb bks] = (if ak = 2 ∧ bk = 2 then some (if k = 7 then mNum ((anum + bnum) % 1000) else mTru (anum < bnum)) else none) := by
  unfold mRule; rw [if_neg (by omega), if_pos hk78]; rfl
 rw [hR]
 have htm : (anum + bnum).tmod 1000 = (anum + bnum) % 1000 := tmod_1000' ⟨hn1, hn2⟩ ⟨hm1, hm2⟩
 have hb : I64 ((anum + bnum) % 1000) := ⟨by omega, by omega⟩
 refine fn_enter Tryz.func156 rfl Tryz.ntmps156 Tryz.results156 rfl ?_
 intro w0
 refine tS (tR ?_)
 refine sE (step_box_a rfl rfl) rfl (fun b3 => ?_)
 refine sE (step_alloc rfl) rfl (fun b4 => ?_)
 refine sQ (pA rfl) rfl (sD (nS (tS (tR (sQ (pBd rfl rfl) rfl ?_)))))
 refine sE (step_alloc rfl) rfl (fun b11 => ?_)
 refine sS' ?_
 refine sD (nS (tS (tS (tR (sQ (pF0 rfl) rfl (sL (lBs rfl rfl) rfl rfl ?_))))))
 refine sQ (pLn rfl rfl) rfl (sP (pure_gtr_t rfl rfl (by omega)) rfl rfl ?_)
 refine sD (nS (cT rfl ?_))
 refine tR (sQ (pF0 rfl) rfl (sL (lBs rfl rfl) rfl rfl ?_))
 refine sP (pIN (j := 0) rfl rfl rfl (by simp)) rfl rfl ?_
 refine sL (load_a rfl rfl (hat0 _) rfl) rfl rfl ?_
 refine sS' ?_
 refine sD (nS (tS (tS (tR (sQ (pF0 rfl) rfl (sL (lBs rfl rfl) rfl rfl ?_))))))
 refine sD (nS (tri_block (tS (tR (sP (pure_eql_f rfl rfl (by omega)) rfl rfl ?_)))))
 refine sQ (pA rfl) rfl (sD (nS (cF rfl ?_)))
 refine tS (tS (tR (sB (pE rfl rfl) rfl rfl (fun h51 => ?_) (fun h51 => ?_))))
 refine sQ (pA rfl) rfl (sD (nS (cT rfl ?_)))
 refine tK (nS (cT rfl ?_))
 refine tS (tR (sQ (pF0 rfl) rfl (sL (lBs rfl rfl) rfl rfl ?_)))
 refine sP (pIN (j := 1) rfl rfl rfl (by simp)) rfl rfl ?_
 refine sL (load_a rfl rfl (hat1 _) rfl) rfl rfl ?_
 refine sE (step_alloc rfl) rfl (fun b65 => ?_)
 refine sS' ?_
 refine sD (nS (tri_block (tS (tR (sQ (pF0 rfl) rfl (sL (lBs rfl rfl) rfl rfl ?_))))))
 refine sB (pure_neq rfl rfl) rfl rfl (fun h74 => ?_) (fun h74 => ?_)
 refine sQ (pM rfl) rfl (sK rfl rfl (sK rfl rfl (sK rfl rfl (sQ (pPt rfl rfl) rfl (sQ (pA rfl) rfl (sD ?_))))))
 refine nS (cT rfl ?_)
 refine tK (nrm_block (nrm_block (nS (tS (tR (sQ (pBd rfl rfl) rfl ?_))))))
 refine sS' ?_
 refine sQ (pA rfl) rfl (sD (nS (tT (rF2 (rC rfl (lBa rfl rfl)) (rT rfl) ?_))))
 (exact RulP.no (by rw [if_neg (by omega)]) (tm0_r _))
 refine sQ (pM rfl) rfl (sQ (pF0 rfl) rfl (sL (lBs rfl rfl) rfl rfl ?_))
 refine sB (pure_neq rfl rfl) rfl rfl (fun h101 => ?_) (fun h101 => ?_)
 refine sQ (pPf rfl rfl) rfl (sQ (pA rfl) rfl (sD (nS (cT rfl ?_))))
 refine tK (nrm_block (nrm_block (nS (tS (tR (sQ (pBd rfl rfl) rfl ?_))))))
 refine sS' ?_
 refine sQ (pA rfl) rfl (sD (nS (tT (rF2 (rC rfl (lBa rfl rfl)) (rT rfl) ?_))))
 (exact RulP.no (by rw [if_neg (by omega)]) (tm0_r _))
 refine sQ (pPf rfl rfl) rfl (sQ (pA rfl) rfl (sD (nS (cF rfl ?_))))
 refine tS (tR (sQ (pF0 rfl) rfl (sL (lBs rfl rfl) rfl rfl ?_)))
 refine sP (pure_eql_t rfl rfl (by omega)) rfl rfl ?_
 refine sQ (pA rfl) rfl (sD (nS (cT rfl ?_)))
 refine tS (tR (sQ (pF0 rfl) rfl (sL (lBs rfl rfl) rfl rfl ?_)))
 refine sQ (pF0 rfl) rfl (sL (lBs rfl rfl) rfl rfl ?_)
 refine sP (pure_add rfl rfl (by omega) (by omega)) rfl rfl ?_
 refine sP (pure_rem rfl rfl (by omega)) rfl rfl ?_
 refine sQ (pBd rfl rfl) rfl ?_
 (rw [htm]; refine sS' ?_)
 refine sQ (pA rfl) rfl (sD (nS (tT (rB (rB (rS ?_))))))
 refine rF2 (rC rfl (lBa rfl rfl)) (rT rfl) ?_
 (exact RulP.yes (u := mNum (HMod.hMod (anum + bnum) 1000)) (by rw [if_pos ⟨by omega, by omega⟩, if_pos (by omega)]) (RTm.put (us := []) ⟨by decide, by decide⟩ hb ⟨by decide, by decide⟩ (ty0_r _) (ty0_r _) rfl (SlE.nil _ _) rfl))
 refine sQ (pA rfl) rfl (sD (nS (cF rfl ?_)))
 refine tR (sP (pure_eql_t rfl rfl (by omega)) rfl rfl ?_)
 refine sQ (pA rfl) rfl (sD (nS (cT rfl ?_)))
 refine tS (tR (sQ (pF0 rfl) rfl (sL (lBs rfl rfl) rfl rfl ?_)))
 refine sP (pIN (j := 1) rfl rfl rfl (by simp)) rfl rfl ?_
 refine sL (load_a rfl rfl (hat1 _) rfl) rfl rfl ?_
 refine sE (step_alloc rfl) rfl (fun b170 => ?_)
 refine sS' ?_
 refine sD (nS (tri_block (tS (tR (sQ (pF0 rfl) rfl (sL (lBs rfl rfl) rfl rfl ?_))))))
 refine sB (pure_neq rfl rfl) rfl rfl (fun h179 => ?_) (fun h179 => ?_)
 refine sQ (pM rfl) rfl (sK rfl rfl (sK rfl rfl (sK rfl rfl (sQ (pPt rfl rfl) rfl (sQ (pA rfl) rfl (sD ?_))))))
 refine nS (cT rfl ?_)
 refine tK (nrm_block (nrm_block (nS (tS (tR (sQ (pBd rfl rfl) rfl ?_))))))
 refine sS' ?_
 refine sQ (pA rfl) rfl (sD (nS (tT (rF2 (rC rfl (lBa rfl rfl)) (rT rfl) ?_))))
 (exact RulP.no (by rw [if_neg (by omega)]) (tm0_r _))
 refine sQ (pM rfl) rfl (sQ (pF0 rfl) rfl (sL (lBs rfl rfl) rfl rfl ?_))
 refine sB (pure_neq rfl rfl) rfl rfl (fun h206 => ?_) (fun h206 => ?_)
 refine sQ (pPf rfl rfl) rfl (sQ (pA rfl) rfl (sD (nS (cT rfl ?_))))
 refine tK (nrm_block (nrm_block (nS (tS (tR (sQ (pBd rfl rfl) rfl ?_))))))
 refine sS' ?_
 refine sQ (pA rfl) rfl (sD (nS (tT (rF2 (rC rfl (lBa rfl rfl)) (rT rfl) ?_))))
 (exact RulP.no (by rw [if_neg (by omega)]) (tm0_r _))
 refine sQ (pPf rfl rfl) rfl (sQ (pA rfl) rfl (sD (nS (cF rfl ?_))))
 refine tS (tR (sQ (pF0 rfl) rfl (sL (lBs rfl rfl) rfl rfl ?_)))
 refine sP (pure_eql_f rfl rfl (by omega)) rfl rfl ?_
 refine sQ (pA rfl) rfl (sD (nS (cF rfl ?_)))
 refine tS (tR (sQ (pF0 rfl) rfl (sL (lBs rfl rfl) rfl rfl ?_)))
 refine sQ (pF0 rfl) rfl (sL (lBs rfl rfl) rfl rfl ?_)
 (refine sB (pure_lss rfl rfl) rfl rfl (fun h246 => ?_) (fun h246 => ?_))
 (refine seq_imm rfl (truth_fn _ _) rfl rfl (fun u G1 hle1 hh => ?_); obtain ⟨uc, rfl, hru⟩ := hh; have hul := hru.len; have huo := hru.one)
 refine sS rfl rfl rfl hul huo rfl ?_ (hu := by exact upd_all hul.symm)
 refine sQ (pA rfl) rfl (sD (nS (tT (rB (rB (rS ?_))))))
 refine rF2 (rC rfl (load_a rfl rfl (at_blk_all (by repeat first | exact mH | apply mT)) hul)) (rT rfl) ?_
 (exact RulP.yes (by rw [if_pos ⟨by omega, by omega⟩, if_neg (by omega)]; unfold mTru; rw [if_pos (by omega), if_pos rfl]) hru)
 (refine seq_imm rfl (truth_fn _ _) rfl rfl (fun u G1 hle1 hh => ?_); obtain ⟨uc, rfl, hru⟩ := hh; have hul := hru.len; have huo := hru.one)
 refine sS rfl rfl rfl hul huo rfl ?_ (hu := by exact upd_all hul.symm)
 refine sQ (pA rfl) rfl (sD (nS (tT (rB (rB (rS ?_))))))
 refine rF2 (rC rfl (load_a rfl rfl (at_blk_all (by repeat first | exact mH | apply mT)) hul)) (rT rfl) ?_
 (exact RulP.yes (by rw [if_pos ⟨by omega, by omega⟩, if_neg (by omega)]; unfold mTru; rw [if_neg (by omega), if_neg (by decide)]) hru)
theorem rule9_fn (a b c0 : Tm) (nm : ByteArray) (num : Int) (ty fr : Ty) (lb : Int) (G : IM) (cells : List Value) (hr : RTm G (.mk 9 nm num ty fr lb [a, b, c0]) cells) : Fn Tryz.prog 156 [.agg ⟨cells⟩] [] G (RulP (mRule 9 [a, b, c0])) := by
 obtain ⟨ak, anm, anum, ⟨atk, atks⟩, ⟨afk, afks⟩, alb, aks⟩ := a
 obtain ⟨tk, tks⟩ := ty
 obtain ⟨fk, fks⟩ := fr
 obtain ⟨pt, ct, pf, cf, p, c, es, rfl, hk, hnum, hlb, hty, hfr, hsl, hkl⟩ := hr.open9
 obtain ⟨bx, ox, e0, rfl, hl0, hat0, hre0, hgb0⟩ := hsl.kidTm hkl (i := 0) (by simp) (by simp)
 replace hre0 : RTm G (.mk ak anm anum (.mk atk atks) (.mk afk afks) alb aks) e0 := hre0
 obtain ⟨apt, act, apf, acf, ap, ac, aes, rfl, hak, hanum, halb, haty, hafr, hasl, hakl⟩ := hre0.open9
 obtain ⟨_, _, e1, hp1, hl1, hat1, hre1, hgb1⟩ := hsl.kidTm hkl (i := 1) (by simp) (by simp)
 cases hp1
 replace hre1 : RTm G b e1 := hre1
 have ho1 := hre1.one
 obtain ⟨_, _, e2, hp2, hl2, hat2, hre2, hgb2⟩ := hsl.kidTm hkl (i := 2) (by simp) (by simp)
 cases hp2
 replace hre2 : RTm G c0 e2 := hre2
 have ho2 := hre2.one
 have hL : ([Tm.mk ak anm anum (.mk atk atks) (.mk afk afks) alb aks, b, c0] : List Tm).length = 3 := rfl
 rw [show mRule 9 [Tm.mk ak anm anum (.mk atk atks) (.mk afk afks) alb aks, b, c0] = (if ak = 3 then some b else if ak = 4 then some c0 else none) from rfl]
 refine fn_enter Tryz.func156 rfl Tryz.ntmps156 Tryz.results156 rfl ?_
 intro w0
 refine tS (tR ?_)
 refine sE (step_box_a rfl rfl) rfl (fun b3 => ?_)
 refine sE (step_alloc rfl) rfl (fun b4 => ?_)
 refine sQ (pA rfl) rfl (sD (nS (tS (tR (sQ (pBd rfl rfl) rfl ?_)))))
 refine sE (step_alloc rfl) rfl (fun b11 => ?_)
 refine sS' ?_
 refine sD (nS (tS (tS (tR (sQ (pF0 rfl) rfl (sL (lBs rfl rfl) rfl rfl ?_))))))
 refine sQ (pLn rfl rfl) rfl (sP (pure_gtr_t rfl rfl (by omega)) rfl rfl ?_)
 refine sD (nS (cT rfl ?_))
 refine tR (sQ (pF0 rfl) rfl (sL (lBs rfl rfl) rfl rfl ?_))
 refine sP (pIN (j := 0) rfl rfl rfl (by simp)) rfl rfl ?_
 refine sL (load_a rfl rfl (hat0 _) rfl) rfl rfl ?_
 refine sS' ?_
 refine sD (nS (tS (tS (tR (sQ (pF0 rfl) rfl (sL (lBs rfl rfl) rfl rfl ?_))))))
 refine sD (nS (tri_block (tS (tR (sP (pure_eql_f rfl rfl (by omega)) rfl rfl ?_)))))
 refine sQ (pA rfl) rfl (sD (nS (cF rfl ?_)))
 refine tS (tS (tR (sP (pure_eql_f rfl rfl (by omega)) rfl rfl ?_)))
 refine sQ (pA rfl) rfl (sD (nS (cF rfl ?_)))
 refine tR (sP (pure_eql_f rfl rfl (by omega)) rfl rfl ?_)
 refine sQ (pA rfl) rfl (sD (nS (cF rfl ?_)))
 refine tS (tR (sP (pure_eql_t rfl rfl (by omega)) rfl rfl ?_))
 refine sQ (pA rfl) rfl (sD (nS (cT rfl ?_)))
 refine tS (tR (sQ (pF0 rfl) rfl (sL (lBs rfl rfl) rfl rfl ?_)))
 refine sD (nS (tri_block (tS (tR (sB (pE rfl rfl) rfl rfl (fun h78 => ?_) (fun h78 => ?_))))))
 refine sQ (pA rfl) rfl (sD (nS (cT rfl ?_)))
 refine tS (tR (sQ (pF0 rfl) rfl (sL (lBs rfl rfl) rfl rfl ?_)))
 refine sP (pIN (j := 1) rfl rfl rfl (by simp)) rfl rfl ?_
 refine sL (load_a rfl rfl (hat1 _) hl1) rfl rfl ?_
 refine sS rfl rfl rfl hl1 ho1 rfl ?_ (hu := by exact upd_all hl1.symm)
 refine sQ (pA rfl) rfl (sD (nS (tT (rB (rB (rS ?_))))))
 refine rF2 (rC rfl (load_a rfl rfl (at_blk_all (by repeat first | exact mH | apply mT)) hl1)) (rT rfl) ?_
 (exact RulP.yes (by rw [if_pos (by omega)]) hre1)
 refine sQ (pA rfl) rfl (sD (nS (cF rfl ?_)))
 refine tS (tR (sB (pE rfl rfl) rfl rfl (fun h105 => ?_) (fun h105 => ?_)))
 refine sQ (pA rfl) rfl (sD (nS (cT rfl ?_)))
 refine tS (tR (sQ (pF0 rfl) rfl (sL (lBs rfl rfl) rfl rfl ?_)))
 refine sP (pIN (j := 2) rfl rfl rfl (by simp)) rfl rfl ?_
 refine sL (load_a rfl rfl (hat2 _) hl2) rfl rfl ?_
 refine sS rfl rfl rfl hl2 ho2 rfl ?_ (hu := by exact upd_all hl2.symm)
 refine sQ (pA rfl) rfl (sD (nS (tT (rB (rB (rS ?_))))))
 refine rF2 (rC rfl (load_a rfl rfl (at_blk_all (by repeat first | exact mH | apply mT)) hl2)) (rT rfl) ?_
 (exact RulP.yes (by rw [if_neg (by omega), if_pos (by omega)]) hre2)
 refine sQ (pA rfl) rfl (sD (nS (cF rfl ?_)))
 refine tK (nrm_block (nrm_block (nS (tS (tR (sQ (pBd rfl rfl) rfl ?_))))))
 refine sS' ?_
 refine sQ (pA rfl) rfl (sD (nS (tT (rF2 (rC rfl (lBa rfl rfl)) (rT rfl) ?_))))
 (exact RulP.no (by rw [if_neg (by omega), if_neg (by omega)]) (tm0_r _))
theorem rule11_fn (k : Int) (a : Tm) (nm : ByteArray) (num : Int) (ty fr : Ty) (lb : Int) (G : IM) (cells : List Value) (hk1 : k = 11 ∨ k = 12) (hca : cv a) (hr : RTm G (.mk k nm num ty fr lb [a]) cells) : Fn Tryz.prog 156 [.agg ⟨cells⟩] [] G (RulP (mRule k [a])) := by
 obtain ⟨ak, anm, anum, ⟨atk, atks⟩, ⟨afk, afks⟩, alb, aks⟩ := a
 obtain ⟨tk, tks⟩ := ty
 obtain ⟨fk, fks⟩ := fr
 obtain ⟨pt, ct, pf, cf, p, c, es, rfl, hk, hnum, hlb, hty, hfr, hsl, hkl⟩ := hr.open9
 obtain ⟨bx, ox, e0, rfl, hl0, hat0, hre0, hgb0⟩ := hsl.kidTm hkl (i := 0) (by simp) (by simp)
 replace hre0 : RTm G (.mk ak anm anum (.mk atk atks) (.mk afk afks) alb aks) e0 := hre0
 obtain ⟨apt, act, apf, acf, ap, ac, aes, rfl, hak, hanum, halb, haty, hafr, hasl, hakl⟩ := hre0.open9
 obtain ⟨hN, _⟩ := hca.node
 have hops := hN.ops
 have h2 : ak = 10 → aks.length = 2 := fun h => by rw [h] at hops; have : tmOps 10 = 2 := rfl; omega
 have hL : ([Tm.mk ak anm anum (.mk atk atks) (.mk afk afks) alb aks] : List Tm).length = 1 := rfl
 have hR : mRule k [Tm.mk ak anm anum (.mk atk atks) (.mk afk afks) alb aks] = (if ak = 10 then some (kd aks (k - 11).toNat) else none) := by
  unfold mRule; rw [if_neg (by omega), if_neg (by omega), if_neg (by omega), if_pos hk1]; rfl
 rw [hR]
 obtain ⟨i, hi⟩ : ∃ i : Nat, (k - 11).toNat = i := ⟨_, rfl⟩
 rw [hi]
 refine fn_enter Tryz.func156 rfl Tryz.ntmps156 Tryz.results156 rfl ?_
 intro w0
 refine tS (tR ?_)
 refine sE (step_box_a rfl rfl) rfl (fun b3 => ?_)
 refine sE (step_alloc rfl) rfl (fun b4 => ?_)
 refine sQ (pA rfl) rfl (sD (nS (tS (tR (sQ (pBd rfl rfl) rfl ?_)))))
 refine sE (step_alloc rfl) rfl (fun b11 => ?_)
 refine sS' ?_
 refine sD (nS (tS (tS (tR (sQ (pF0 rfl) rfl (sL (lBs rfl rfl) rfl rfl ?_))))))
 refine sQ (pLn rfl rfl) rfl (sP (pure_gtr_t rfl rfl (by omega)) rfl rfl ?_)
 refine sD (nS (cT rfl ?_))
 refine tR (sQ (pF0 rfl) rfl (sL (lBs rfl rfl) rfl rfl ?_))
 refine sP (pIN (j := 0) rfl rfl rfl (by simp)) rfl rfl ?_
 refine sL (load_a rfl rfl (hat0 _) rfl) rfl rfl ?_
 refine sS' ?_
 refine sD (nS (tS (tS (tR (sQ (pF0 rfl) rfl (sL (lBs rfl rfl) rfl rfl ?_))))))
 refine sD (nS (tri_block (tS (tR (sP (pure_eql_f rfl rfl (by omega)) rfl rfl ?_)))))
 refine sQ (pA rfl) rfl (sD (nS (cF rfl ?_)))
 refine tS (tS (tR (sP (pure_eql_f rfl rfl (by omega)) rfl rfl ?_)))
 refine sQ (pA rfl) rfl (sD (nS (cF rfl ?_)))
 refine tR (sP (pure_eql_f rfl rfl (by omega)) rfl rfl ?_)
 refine sQ (pA rfl) rfl (sD (nS (cF rfl ?_)))
 refine tS (tR (sP (pure_eql_f rfl rfl (by omega)) rfl rfl ?_))
 refine sQ (pA rfl) rfl (sD (nS (cF rfl ?_)))
 refine tS (tS (tR (sB (pE rfl rfl) rfl rfl (fun h72 => ?_) (fun h72 => ?_))))
 refine sQ (pA rfl) rfl (sD (nS (cT rfl ?_)))
 refine tK (nS (cT rfl ?_))
 refine tS (tR (sQ (pF0 rfl) rfl (sL (lBs rfl rfl) rfl rfl ?_)))
 refine sB (pE rfl rfl) rfl rfl (fun h84 => ?_) (fun h84 => ?_)
 refine sD (nS (cT rfl ?_))
 refine tS ?_
 (have hq : ak = 10 := (by omega); have hq1 := h2 hq; obtain ⟨bq, oq, e3, rfl, hl3, hat3, hre3, hgb3⟩ := hasl.kidTm hakl (i := i) (by omega) (by omega); have ho3 := hre3.one)
 refine tR (sQ (pF0 rfl) rfl (sL (lBs rfl rfl) rfl rfl ?_))
 refine sQ (pF0 rfl) rfl (sL (lBs rfl rfl) rfl rfl ?_)
 refine sP (pure_sub rfl rfl (by omega) (by omega)) rfl rfl ?_
 (rw [show (k - 11 : Int) = ((i : Nat) : Int) from (by omega)]; refine sP (pIN (j := i) rfl rfl rfl (by omega)) rfl rfl ?_)
 refine sL (load_a rfl rfl (hat3 _) hl3) rfl rfl ?_
 refine sS rfl rfl rfl hl3 ho3 rfl ?_ (hu := by exact upd_all hl3.symm)
 refine sQ (pA rfl) rfl (sD (nS (tT (rB (rS (rF2 (rC rfl (load_a rfl rfl (at_blk_all (by repeat first | exact mH | apply mT)) hl3)) (rT rfl) ?_))))))
 (exact RulP.yes (by rw [if_pos (by omega)]; unfold kd; rw [List.getD_eq_getElem?_getD, List.getElem?_eq_getElem (by omega), Option.getD_some]) hre3)
 refine sD (nS (cF rfl ?_))
 refine tK (nrm_block (nS (tS (tR (sQ (pBd rfl rfl) rfl (sS' ?_))))))
 refine sQ (pA rfl) rfl (sD (nS (tT (rF2 (rC rfl (lBa rfl rfl)) (rT rfl) ?_))))
 (exact RulP.no (by rw [if_neg (by omega)]) (tm0_r _))
 refine sQ (pA rfl) rfl (sD (nS (cF rfl ?_)))
 refine tR (sP (pure_eql_t rfl rfl (by omega)) rfl rfl ?_)
 refine sQ (pA rfl) rfl (sD (nS (cT rfl ?_)))
 refine tS (tR (sQ (pF0 rfl) rfl (sL (lBs rfl rfl) rfl rfl ?_)))
 refine sB (pE rfl rfl) rfl rfl (fun h137 => ?_) (fun h137 => ?_)
 refine sD (nS (cT rfl ?_))
 refine tS ?_
 (have hq : ak = 10 := (by omega); have hq1 := h2 hq; obtain ⟨bq, oq, e3, rfl, hl3, hat3, hre3, hgb3⟩ := hasl.kidTm hakl (i := i) (by omega) (by omega); have ho3 := hre3.one)
 refine tR (sQ (pF0 rfl) rfl (sL (lBs rfl rfl) rfl rfl ?_))
 refine sQ (pF0 rfl) rfl (sL (lBs rfl rfl) rfl rfl ?_)
 refine sP (pure_sub rfl rfl (by omega) (by omega)) rfl rfl ?_
 (rw [show (k - 11 : Int) = ((i : Nat) : Int) from (by omega)]; refine sP (pIN (j := i) rfl rfl rfl (by omega)) rfl rfl ?_)
 refine sL (load_a rfl rfl (hat3 _) hl3) rfl rfl ?_
 refine sS rfl rfl rfl hl3 ho3 rfl ?_ (hu := by exact upd_all hl3.symm)
 refine sQ (pA rfl) rfl (sD (nS (tT (rB (rS (rF2 (rC rfl (load_a rfl rfl (at_blk_all (by repeat first | exact mH | apply mT)) hl3)) (rT rfl) ?_))))))
 (exact RulP.yes (by rw [if_pos (by omega)]; unfold kd; rw [List.getD_eq_getElem?_getD, List.getElem?_eq_getElem (by omega), Option.getD_some]) hre3)
 refine sD (nS (cF rfl ?_))
 refine tK (nrm_block (nS (tS (tR (sQ (pBd rfl rfl) rfl (sS' ?_))))))
 refine sQ (pA rfl) rfl (sD (nS (tT (rF2 (rC rfl (lBa rfl rfl)) (rT rfl) ?_))))
 (exact RulP.no (by rw [if_neg (by omega)]) (tm0_r _))
section
variable {P : Program} {Γ : Ctx} {K : Po} {ops : Array Oper} {env : Env} {hp : List Ent} {G : IM}
theorem one_freeze {H : List (Nat × Nat)} {fuel j : Nat} {listed : List Bool} {hp' : List Ent} {p : Option Addr} {c el sz n : Nat} {cs : List Value} (hk : Pk hp (.slc p c el sz n cs) hp')
  (h : ∀ G', IMle G G' → Sl G' p n c sz cs → (∀ b ∈ vfp p, G b = none ∧ G' b ≠ none) → One P Γ ops K H fuel listed j ⟨env, hp', G'⟩) : One P Γ ops K H fuel listed j ⟨env, hp, G⟩ :=
 ⟨fun a w hs => let ⟨G', h1, h2, h3, h4⟩ := hs.freeze hk; (h G' h2 h3 h4).run a w h1⟩
end
theorem RTy.kids {G : IM} {t : Ty} {a : Value} {p : Option Addr} {n c : Nat} (h : RTy G t [a, .slice p n c]) : ∃ es, SlE G p t.ks.length c 2 es ∧ RTyL G t.ks es := by
 obtain ⟨p', c', es, he, _, h1, h2⟩ := h.open
 simp only [List.cons.injEq, Value.slice.injEq, and_true] at he
 obtain ⟨_, rfl, _, rfl⟩ := he
 exact ⟨es, h1, h2⟩
/-- What the rules of casts give. -/
def mCRule (k : Int) (ty fr : Ty) (lb : Int) (ks : List Tm) : Stp :=
 if k = 6 then
  (if prx (kd ks 0) = true ∧ (kd ks 0).ty.k = 4 then (mCst (mNod 6 [kd (kd ks 0).ks 0, mCst (kd ks 1) (kt (kd ks 0).ty.ks 0) (kt (kd ks 0).fr.ks 0) (-(kd ks 0).lb)]) (kt (kd ks 0).fr.ks 1) (kt (kd ks 0).ty.ks 1) (kd ks 0).lb, 1, 0) else stuck)
 else if k = 11 ∨ k = 12 then
  (if prx (kd ks 0) = true ∧ (kd ks 0).ty.k = 5 then (mCst (mNod k [kd (kd ks 0).ks 0]) (kt (kd ks 0).fr.ks (k - 11).toNat) (kt (kd ks 0).ty.ks (k - 11).toNat) (kd ks 0).lb, 1, 0) else stuck)
 else if k = 14 then
  (if fr.k = ty.k then (kd ks 0, 1, 0)
   else if ty.k = 1 then (mCst (mCst (kd ks 0) fr (mGround fr) lb) (mGround fr) ty lb, 1, 0)
   else if isGrd ty = false then (mCst (mCst (kd ks 0) fr (mGround ty) lb) (mGround ty) ty lb, 1, 0)
   else if inj (kd ks 0) = false then stuck
   else if (kd ks 0).fr.k = ty.k then (kd (kd ks 0).ks 0, 1, 0)
   else (tm0, 2, lb))
 else stuck
theorem red_rule (k : Int) (ty fr : Ty) (lb : Int) (ks : List Tm) : mRed k ty fr lb ks = match mRule k ks with | some u => (u, 1, 0) | none => mCRule k ty fr lb ks := by
 unfold mRed mRule mCRule
 by_cases h6 : k = 6
 ·rw [if_pos h6, if_pos h6, if_pos h6]
  by_cases h : (kd ks 0).k = 5
  ·rw [if_pos h, if_pos h]
  ·rw [if_neg h, if_neg h]
 rw [if_neg h6, if_neg h6, if_neg h6]
 by_cases h7 : k = 7 ∨ k = 8
 ·rw [if_pos h7, if_pos h7]
  by_cases h : (kd ks 0).k = 2 ∧ (kd ks 1).k = 2
  ·rw [if_pos h, if_pos h]
  ·rw [if_neg h, if_neg h]; simp only; rw [if_neg (by omega), if_neg (by omega)]
 rw [if_neg h7, if_neg h7]
 by_cases h9 : k = 9
 ·rw [if_pos h9, if_pos h9]
  by_cases h : (kd ks 0).k = 3
  ·rw [if_pos h, if_pos h]
  ·rw [if_neg h, if_neg h]
   by_cases h' : (kd ks 0).k = 4
   ·rw [if_pos h', if_pos h']
   ·rw [if_neg h', if_neg h']; simp only; rw [if_neg (by omega), if_neg (by omega)]
 rw [if_neg h9, if_neg h9]
 by_cases h11 : k = 11 ∨ k = 12
 ·rw [if_pos h11, if_pos h11, if_pos h11]
  by_cases h : (kd ks 0).k = 10
  ·rw [if_pos h, if_pos h]
  ·rw [if_neg h, if_neg h]
 rw [if_neg h11, if_neg h11, if_neg h11]
/-- A step's result. -/
def StpP (r : Stp) : IM → Value → List Ent → Prop := Imm fun G' v => ∃ u cells, v = .tuple ⟨[.agg ⟨cells⟩, .int .i64 r.2.1, .int .i64 r.2.2]⟩ ∧ RTm G' u cells ∧ (r.2.1 = 1 → u = r.1)
theorem StpP.mk {G : IM} {r : Stp} {u : Tm} {cells : List Value} {c l : Int} (h : r = (u, c, l)) (hr : RTm G u cells) : StpP r G (.tuple ⟨[.agg ⟨cells⟩, .int .i64 c, .int .i64 l]⟩) [] := by
 subst h; exact ⟨rfl, u, cells, rfl, hr, fun _ => rfl⟩
theorem kd_at {ks : List Tm} {i : Nat} (h : i < ks.length) : kd ks i = ks[i] := by unfold kd; rw [List.getD_eq_getElem?_getD, List.getElem?_eq_getElem h, Option.getD_some]
theorem kt_at {ks : List Ty} {i : Nat} (h : i < ks.length) : kt ks i = ks[i] := by unfold kt; rw [List.getD_eq_getElem?_getD, List.getElem?_eq_getElem h, Option.getD_some]
theorem grd_eq {t : Ty} (h : isGrd t = true) : t = mGround t := by
 unfold isGrd at h
 rw [Bool.and_eq_true] at h
 exact (tSame_iff _ _).1 h.2
theorem crule6_fn (a b : Tm) (nm : ByteArray) (num : Int) (ty fr : Ty) (lb : Int) (G : IM) (cells : List Value) (hca : cv a) (hr : RTm G (.mk 6 nm num ty fr lb [a, b]) cells) : Fn Tryz.prog 157 [.agg ⟨cells⟩] [] G (StpP (mCRule 6 ty fr lb [a, b])) := by
 obtain ⟨ak, anm, anum, ⟨atk, atks⟩, ⟨afk, afks⟩, alb, aks⟩ := a
 obtain ⟨hN, hkk⟩ := hca.node
 have hops := hN.ops
 have hbl := hN.lbB
 have htyA := hN.tyA
 have hfrA := hN.frA
 rw [tAr] at htyA hfrA
 have h14 : ak = 14 → aks.length = 1 := fun h => by rw [h] at hops; have : tmOps 14 = 1 := rfl; omega
 obtain ⟨tk, tks⟩ := ty
 obtain ⟨fk, fks⟩ := fr
 obtain ⟨pt, ct, pf, cf, p, c, es, rfl, hk, hnum, hlb, hty, hfr, hsl, hkl⟩ := hr.open9
 obtain ⟨bx, ox, e0, rfl, hl0, hat0, hre0, hgb0⟩ := hsl.kidTm hkl (i := 0) (by simp) (by simp)
 replace hre0 : RTm G (Tm.mk ak anm anum (.mk atk atks) (.mk afk afks) alb aks) e0 := hre0
 have hP : Fn Tryz.prog 80 [.agg ⟨e0⟩] [] G (Val (.bool (decide (ak = 14 ∧ afk = atk ∧ (atk = 4 ∨ atk = 5)))) G) := isProxy_fn _ G _ hre0
 obtain ⟨apt, act, apf, acf, ap, ac, aes, rfl, hak, hanum, halb, haty, hafr, hasl, hakl⟩ := hre0.open9
 obtain ⟨tes, htS, htL⟩ := haty.kids
 obtain ⟨fes, hfS, hfL⟩ := hafr.kids
 simp only [Ty.ks] at htS htL hfS hfL
 obtain ⟨_, _, e1, hp1, hl1, hat1, hre1, hgb1⟩ := hsl.kidTm hkl (i := 1) (by simp) (by simp)
 cases hp1
 replace hre1 : RTm G b e1 := hre1
 have ho1 := hre1.one
 have hR : mCRule 6 (.mk tk tks) (.mk fk fks) lb [Tm.mk ak anm anum (.mk atk atks) (.mk afk afks) alb aks, b] = (if (ak = 14 ∧ afk = atk ∧ (atk = 4 ∨ atk = 5)) ∧ atk = 4 then (mCst (mNod 6 [kd aks 0, mCst b (kt atks 0) (kt afks 0) (-alb)]) (kt afks 1) (kt atks 1) alb, 1, 0) else stuck) := by
  unfold mCRule
  rw [if_pos rfl, show kd [Tm.mk ak anm anum (.mk atk atks) (.mk afk afks) alb aks, b] 0 = Tm.mk ak anm anum (.mk atk atks) (.mk afk afks) alb aks from rfl, prx_mk]
  simp only [decide_eq_true_eq]
  rfl
 rw [hR]
 refine fn_enter Tryz.func157 rfl Tryz.ntmps157 Tryz.results157 rfl ?_
 intro w0
 refine tS (tR ?_)
 refine sE (step_box_a rfl rfl) rfl (fun b3 => ?_)
 refine sE (step_alloc rfl) rfl (fun b4 => ?_)
 refine sQ (pA rfl) rfl (sQ (pA rfl) rfl (sD (nS (tS (tR (sQ (pF0 rfl) rfl ?_))))))
 refine sL (lBs rfl rfl) rfl rfl ?_
 refine sP (pIN (j := 0) rfl rfl rfl (by simp)) rfl rfl ?_
 refine sL (load_a rfl rfl (hat0 _) rfl) rfl rfl ?_
 refine sE (step_alloc rfl) rfl (fun b15 => ?_)
 refine sS' ?_
 refine sD (nS (tS (tri_block (tS (tR (sQ (pF0 rfl) rfl ?_))))))
 refine sL (lBs rfl rfl) rfl rfl ?_
 refine sP (pure_eql_t rfl rfl (by omega)) rfl rfl ?_
 refine sQ (pM rfl) rfl (sL (lBa rfl rfl) rfl rfl ?_)
 focus (by_cases hpx : (ak = 14 ∧ afk = atk ∧ (atk = 4 ∨ atk = 5)); rw [decide_eq_true hpx] at hP; rotate_left; rw [decide_eq_false hpx] at hP; rotate_left; all_goals (refine seq_val rfl hP rfl rfl ?_))
 refine sQ (pPt rfl rfl) rfl (sQ (pM rfl) rfl (sQ (pF0 rfl) rfl (sQ (pF rfl) rfl (sL (lBs rfl rfl) rfl rfl ?_))))
 refine sB (pE rfl rfl) rfl rfl (fun h34 => ?_) (fun h34 => ?_)
 refine sQ (pPt rfl rfl) rfl (sQ (pA rfl) rfl (sD (nS (cT rfl ?_))))
 refine tS ?_
 (have hq : (ak = 14 ∧ afk = atk ∧ (atk = 4 ∨ atk = 5)) ∧ atk = 4 := ⟨hpx, by omega⟩; have hq1 := h14 hq.1.1; have hq2 := htyA.1 (by omega); have hq3 := hfrA.1 (by omega); obtain ⟨bq, oq, e3, rfl, hl3, hat3, hre3, hgb3⟩ := hasl.kidTm hakl (i := 0) (by omega) (by omega); have ho3 := hre3.one; obtain ⟨b5, o5, q5, d5, rfl, hat5, hre5, hgb5⟩ := htS.kidTy htL (i := 0) (by omega) (by omega); obtain ⟨_, _, q6, d6, hp6, hat6, hre6, hgb6⟩ := htS.kidTy htL (i := 1) (by omega) (by omega); cases hp6; obtain ⟨b7, o7, q7, d7, rfl, hat7, hre7, hgb7⟩ := hfS.kidTy hfL (i := 0) (by omega) (by omega); obtain ⟨_, _, q8, d8, hp8, hat8, hre8, hgb8⟩ := hfS.kidTy hfL (i := 1) (by omega) (by omega); cases hp8; obtain ⟨x1, x2, x3, x4, x5, x6, x7, x8, x9, rfl⟩ := nine hl3; obtain ⟨y1, y2, y3, y4, y5, y6, y7, y8, y9, rfl⟩ := nine hl1; refine tri_draw mixed rfl ?_)
 refine any_pure (i := 0) (l' := [tt,ff,ff,ff,ff,ff,ff,ff,ff,ff,ff,ff]) rfl npI (pF0 rfl) rfl (by kernel_rfl) rfl rfl ?_
 refine aL 1 rfl (lBs rfl rfl) rfl ?_
 refine aP 2 rfl (pIN (j := 0) rfl rfl rfl (by omega)) rfl ?_
 refine aL 3 rfl (load_a rfl rfl (hat3 _) rfl) rfl ?_
 refine aP 4 rfl (pF0 rfl) rfl ?_
 refine aL 5 rfl (lBs rfl rfl) rfl ?_
 refine aP 6 rfl (pIN (j := 1) rfl rfl rfl (by simp)) rfl ?_
 refine aL 7 rfl (load_a rfl rfl (hat1 _) rfl) rfl ?_
 refine any_two (j := 8) (j' := 9) (by kernel_rfl) ?_ ?_
 (refine one_step0 rfl (step_alloc rfl) rfl rfl ?_; rintro _ ⟨b51, rfl⟩)
 refine aO' 9 ?_
 (refine one_step0 rfl (step_alloc rfl) rfl rfl ?_; rintro _ ⟨b53, rfl⟩)
 refine aO' 10 ?_
 (refine oS rfl rfl rfl rfl rfl ho3 rfl rfl ?_ (hu := by exact upd_all rfl.symm))
 refine aO' 11 ?_
 (refine oS rfl rfl rfl rfl rfl ho1 rfl rfl ?_ (hu := by exact upd_all rfl.symm))
 refine aD' ?_
 refine nS (tS (tri_draw mixed rfl ?_))
 refine any_load (i := 0) (l' := [tt,ff,ff,ff,ff,ff,ff,ff,ff,ff,ff,ff,ff,ff,ff,ff,ff,ff,ff,ff,ff,ff,ff,ff,ff,ff,ff,ff,ff,ff,ff,ff,ff,ff]) rfl npI (load_a rfl rfl (at_blk_all (by repeat first | exact mH | apply mT)) rfl) rfl (by kernel_rfl) rfl rfl ?_
 refine aL 1 rfl (load_a rfl rfl (at_blk_all (by repeat first | exact mH | apply mT)) rfl) rfl ?_
 refine aP 2 rfl (pF0 rfl) rfl ?_
 refine aP 3 rfl (pF rfl) rfl ?_
 refine aL 4 rfl (lBs rfl rfl) rfl ?_
 refine aP 5 rfl (pIN (j := 0) rfl rfl rfl (by omega)) rfl ?_
 refine aL 6 rfl (load_a rfl rfl (hat5 _) rfl) rfl ?_
 refine aP 7 rfl (pF0 rfl) rfl ?_
 refine aP 8 rfl (pF rfl) rfl ?_
 refine aL 9 rfl (lBs rfl rfl) rfl ?_
 refine aP 10 rfl (pIN (j := 0) rfl rfl rfl (by omega)) rfl ?_
 refine aL 11 rfl (load_a rfl rfl (hat7 _) rfl) rfl ?_
 refine aP 12 rfl (pF0 rfl) rfl ?_
 refine aL 13 rfl (lBs rfl rfl) rfl ?_
 refine aP 14 rfl (pure_neg rfl (by omega) (by omega)) rfl ?_
 refine aP 18 rfl (pF0 rfl) rfl ?_
 refine aP 19 rfl (pF rfl) rfl ?_
 refine aL 20 rfl (lBs rfl rfl) rfl ?_
 refine aP 21 rfl (pIN (j := 1) rfl rfl rfl (by omega)) rfl ?_
 refine aL 22 rfl (load_a rfl rfl (hat8 _) rfl) rfl ?_
 refine aP 23 rfl (pF0 rfl) rfl ?_
 refine aP 24 rfl (pF rfl) rfl ?_
 refine aL 25 rfl (lBs rfl rfl) rfl ?_
 refine aP 26 rfl (pIN (j := 1) rfl rfl rfl (by omega)) rfl ?_
 refine aL 27 rfl (load_a rfl rfl (hat6 _) rfl) rfl ?_
 refine aP 28 rfl (pF0 rfl) rfl ?_
 refine aL 29 rfl (lBs rfl rfl) rfl ?_
 refine aO' 15 ?_
 (refine one_imm rfl rfl (casted_fn b atks[0] afks[0] (-alb) G _ _ _ ⟨by omega, by omega⟩ hre1 hre5 hre7) rfl rfl rfl (fun u G1 hle1 hh => ?_); obtain ⟨uc, rfl, hru⟩ := hh; have hul := hru.len; have huo := hru.one; obtain ⟨z1, z2, z3, z4, z5, z6, z7, z8, z9, rfl⟩ := nine hul; replace hre3 := hre3.mono hle1; replace hre6 := hre6.mono hle1; replace hre8 := hre8.mono hle1)
 refine aO' 16 ?_
 (refine one_step0 rfl (step_buildSlice rfl rfl rfl (by omega) (by unfold maxLen; omega) rfl) rfl rfl ?_; rintro _ ⟨b92, rfl⟩)
 refine aO' 17 ?_
 (refine one_freeze (cs := [x1, x2, x3, x4, x5, x6, x7, x8, x9, z1, z2, z3, z4, z5, z6, z7, z8, z9]) (by repeat (first | exact Pk.here | apply Pk.there)) (fun G2 hle2 hsl2 hno2 => ?_); have hrN := rtm_nod (k := 6) (ks := [aks[0], mCst b atks[0] afks[0] (-alb)]) (es := [[x1, x2, x3, x4, x5, x6, x7, x8, x9], [z1, z2, z3, z4, z5, z6, z7, z8, z9]]) ⟨by decide, by decide⟩ rfl (SlE.of hsl2 rfl (by simp) (by intro x hx; rcases List.mem_cons.1 hx with rfl | hx; exact ho3; obtain rfl := List.mem_singleton.1 hx; exact huo)) (by simp only [RTmL]; exact ⟨_, _, rfl, hre3.mono hle2, _, _, rfl, hru.mono hle2, rfl⟩); replace hre6 := hre6.mono hle2; replace hre8 := hre8.mono hle2; refine one_val rfl rfl (node_fn _ _ _ _ _) rfl rfl rfl ?_)
 refine aO' 30 ?_
 (refine one_imm rfl rfl (casted_fn _ afks[1] atks[1] alb G2 _ _ _ ⟨by omega, by omega⟩ hrN hre8 hre6) rfl rfl rfl (fun u G3 hle3 hh => ?_); obtain ⟨wc, rfl, hrw⟩ := hh; have hwl := hrw.len; have hwo := hrw.one)
 refine aO' 31 ?_
 (refine oS rfl rfl rfl rfl hwl hwo rfl rfl ?_ (hu := by exact upd_all hwl.symm))
 refine aP 32 rfl (pA rfl) rfl ?_
 refine aP 33 rfl (pA rfl) rfl ?_
 refine aD' ?_
 refine nS (tT (rB (rS (rF3 (rC rfl (load_a rfl rfl (at_blk_all (by repeat first | exact mH | apply mT)) hwl)) (rT rfl) (rT rfl) ?_))))
 (exact StpP.mk (by rw [if_pos hq, kd_at (by omega), kt_at (by omega), kt_at (by omega), kt_at (by omega), kt_at (by omega)]) hrw)
 (refine one_step0 rfl (step_alloc rfl) rfl rfl ?_; rintro _ ⟨b108, rfl⟩)
 refine aO' 8 ?_
 (refine one_step0 rfl (step_alloc rfl) rfl rfl ?_; rintro _ ⟨b110, rfl⟩)
 refine aO' 10 ?_
 (refine oS rfl rfl rfl rfl rfl ho3 rfl rfl ?_ (hu := by exact upd_all rfl.symm))
 refine aO' 11 ?_
 (refine oS rfl rfl rfl rfl rfl ho1 rfl rfl ?_ (hu := by exact upd_all rfl.symm))
 refine aD' ?_
 refine nS (tS (tri_draw mixed rfl ?_))
 refine any_load (i := 0) (l' := [tt,ff,ff,ff,ff,ff,ff,ff,ff,ff,ff,ff,ff,ff,ff,ff,ff,ff,ff,ff,ff,ff,ff,ff,ff,ff,ff,ff,ff,ff,ff,ff,ff,ff]) rfl npI (load_a rfl rfl (at_blk_all (by repeat first | exact mH | apply mT)) rfl) rfl (by kernel_rfl) rfl rfl ?_
 refine aL 1 rfl (load_a rfl rfl (at_blk_all (by repeat first | exact mH | apply mT)) rfl) rfl ?_
 refine aP 2 rfl (pF0 rfl) rfl ?_
 refine aP 3 rfl (pF rfl) rfl ?_
 refine aL 4 rfl (lBs rfl rfl) rfl ?_
 refine aP 5 rfl (pIN (j := 0) rfl rfl rfl (by omega)) rfl ?_
 refine aL 6 rfl (load_a rfl rfl (hat5 _) rfl) rfl ?_
 refine aP 7 rfl (pF0 rfl) rfl ?_
 refine aP 8 rfl (pF rfl) rfl ?_
 refine aL 9 rfl (lBs rfl rfl) rfl ?_
 refine aP 10 rfl (pIN (j := 0) rfl rfl rfl (by omega)) rfl ?_
 refine aL 11 rfl (load_a rfl rfl (hat7 _) rfl) rfl ?_
 refine aP 12 rfl (pF0 rfl) rfl ?_
 refine aL 13 rfl (lBs rfl rfl) rfl ?_
 refine aP 14 rfl (pure_neg rfl (by omega) (by omega)) rfl ?_
 refine aP 18 rfl (pF0 rfl) rfl ?_
 refine aP 19 rfl (pF rfl) rfl ?_
 refine aL 20 rfl (lBs rfl rfl) rfl ?_
 refine aP 21 rfl (pIN (j := 1) rfl rfl rfl (by omega)) rfl ?_
 refine aL 22 rfl (load_a rfl rfl (hat8 _) rfl) rfl ?_
 refine aP 23 rfl (pF0 rfl) rfl ?_
 refine aP 24 rfl (pF rfl) rfl ?_
 refine aL 25 rfl (lBs rfl rfl) rfl ?_
 refine aP 26 rfl (pIN (j := 1) rfl rfl rfl (by omega)) rfl ?_
 refine aL 27 rfl (load_a rfl rfl (hat6 _) rfl) rfl ?_
 refine aP 28 rfl (pF0 rfl) rfl ?_
 refine aL 29 rfl (lBs rfl rfl) rfl ?_
 refine aO' 15 ?_
 (refine one_imm rfl rfl (casted_fn b atks[0] afks[0] (-alb) G _ _ _ ⟨by omega, by omega⟩ hre1 hre5 hre7) rfl rfl rfl (fun u G1 hle1 hh => ?_); obtain ⟨uc, rfl, hru⟩ := hh; have hul := hru.len; have huo := hru.one; obtain ⟨z1, z2, z3, z4, z5, z6, z7, z8, z9, rfl⟩ := nine hul; replace hre3 := hre3.mono hle1; replace hre6 := hre6.mono hle1; replace hre8 := hre8.mono hle1)
 refine aO' 16 ?_
 (refine one_step0 rfl (step_buildSlice rfl rfl rfl (by omega) (by unfold maxLen; omega) rfl) rfl rfl ?_; rintro _ ⟨b149, rfl⟩)
 refine aO' 17 ?_
 (refine one_freeze (cs := [x1, x2, x3, x4, x5, x6, x7, x8, x9, z1, z2, z3, z4, z5, z6, z7, z8, z9]) (by repeat (first | exact Pk.here | apply Pk.there)) (fun G2 hle2 hsl2 hno2 => ?_); have hrN := rtm_nod (k := 6) (ks := [aks[0], mCst b atks[0] afks[0] (-alb)]) (es := [[x1, x2, x3, x4, x5, x6, x7, x8, x9], [z1, z2, z3, z4, z5, z6, z7, z8, z9]]) ⟨by decide, by decide⟩ rfl (SlE.of hsl2 rfl (by simp) (by intro x hx; rcases List.mem_cons.1 hx with rfl | hx; exact ho3; obtain rfl := List.mem_singleton.1 hx; exact huo)) (by simp only [RTmL]; exact ⟨_, _, rfl, hre3.mono hle2, _, _, rfl, hru.mono hle2, rfl⟩); replace hre6 := hre6.mono hle2; replace hre8 := hre8.mono hle2; refine one_val rfl rfl (node_fn _ _ _ _ _) rfl rfl rfl ?_)
 refine aO' 30 ?_
 (refine one_imm rfl rfl (casted_fn _ afks[1] atks[1] alb G2 _ _ _ ⟨by omega, by omega⟩ hrN hre8 hre6) rfl rfl rfl (fun u G3 hle3 hh => ?_); obtain ⟨wc, rfl, hrw⟩ := hh; have hwl := hrw.len; have hwo := hrw.one)
 refine aO' 31 ?_
 (refine oS rfl rfl rfl rfl hwl hwo rfl rfl ?_ (hu := by exact upd_all hwl.symm))
 refine aP 32 rfl (pA rfl) rfl ?_
 refine aP 33 rfl (pA rfl) rfl ?_
 refine aD' ?_
 refine nS (tT (rB (rS (rF3 (rC rfl (load_a rfl rfl (at_blk_all (by repeat first | exact mH | apply mT)) hwl)) (rT rfl) (rT rfl) ?_))))
 (exact StpP.mk (by rw [if_pos hq, kd_at (by omega), kt_at (by omega), kt_at (by omega), kt_at (by omega), kt_at (by omega)]) hrw)
 refine sQ (pPt rfl rfl) rfl (sQ (pA rfl) rfl (sD (nS (cF rfl ?_))))
 refine tS (tR (sQ (pF0 rfl) rfl (sL (lBs rfl rfl) rfl rfl ?_)))
 refine sP (pure_eql_f rfl rfl (by omega)) rfl rfl ?_
 refine sQ (pM rfl) rfl (sQ (pF0 rfl) rfl (sL (lBs rfl rfl) rfl rfl ?_))
 refine sP (pure_eql_f rfl rfl (by omega)) rfl rfl ?_
 refine sQ (pPf rfl rfl) rfl (sQ (pM rfl) rfl (sK rfl rfl (sK rfl rfl (sQ (pPf rfl rfl) rfl (sQ (pM rfl) rfl (sK rfl rfl ?_))))))
 refine sK rfl rfl (sK rfl rfl (sK rfl rfl (sQ (pPf rfl rfl) rfl (sQ (pA rfl) rfl (sD (nS ?_))))))
 refine cF rfl ?_
 refine tS (tR (sQ (pF0 rfl) rfl (sL (lBs rfl rfl) rfl rfl ?_)))
 refine sP (pure_neq_t rfl rfl (by omega)) rfl rfl ?_
 refine sQ (pA rfl) rfl (sD (nS (cT rfl ?_)))
 refine tS (tR (sQ (pBd rfl rfl) rfl (sS' ?_)))
 refine sQ (pA rfl) rfl (sQ (pA rfl) rfl (sD (nS (tT (rB (rS ?_))))))
 refine rF3 (rC rfl (lBa rfl rfl)) (rT rfl) (rT rfl) ?_
 (exact StpP.mk (by rw [if_neg (by omega)]; rfl) (tm0_r _))
 refine sQ (pPt rfl rfl) rfl (sQ (pM rfl) rfl (sK rfl rfl (sK rfl rfl (sK rfl rfl (sK rfl rfl (sQ (pPf rfl rfl) rfl ?_))))))
 refine sQ (pA rfl) rfl (sD (nS (cF rfl ?_)))
 refine tS (tR (sQ (pF0 rfl) rfl (sL (lBs rfl rfl) rfl rfl ?_)))
 refine sP (pure_eql_f rfl rfl (by omega)) rfl rfl ?_
 refine sQ (pM rfl) rfl (sQ (pF0 rfl) rfl (sL (lBs rfl rfl) rfl rfl ?_))
 refine sP (pure_eql_f rfl rfl (by omega)) rfl rfl ?_
 refine sQ (pPf rfl rfl) rfl (sQ (pM rfl) rfl (sK rfl rfl (sK rfl rfl (sQ (pPf rfl rfl) rfl (sQ (pM rfl) rfl (sK rfl rfl ?_))))))
 refine sK rfl rfl (sK rfl rfl (sK rfl rfl (sQ (pPf rfl rfl) rfl (sQ (pA rfl) rfl (sD (nS ?_))))))
 refine cF rfl ?_
 refine tS (tR (sQ (pF0 rfl) rfl (sL (lBs rfl rfl) rfl rfl ?_)))
 refine sP (pure_neq_t rfl rfl (by omega)) rfl rfl ?_
 refine sQ (pA rfl) rfl (sD (nS (cT rfl ?_)))
 refine tS (tR (sQ (pBd rfl rfl) rfl (sS' ?_)))
 refine sQ (pA rfl) rfl (sQ (pA rfl) rfl (sD (nS (tT (rB (rS ?_))))))
 refine rF3 (rC rfl (lBa rfl rfl)) (rT rfl) (rT rfl) ?_
 (exact StpP.mk (by rw [if_neg (by omega)]; rfl) (tm0_r _))
end Gw
end Go.Proofs.YtmnfamimopcldaaGreatDoor
