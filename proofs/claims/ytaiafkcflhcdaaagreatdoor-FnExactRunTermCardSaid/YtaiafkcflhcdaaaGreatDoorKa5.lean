/-
  What a node wants of its operands. The type of a term with casts. castType and CastTypeOf compute the type of a term with casts. The program's insertion of casts: a cast. The program's insertion of casts. ReplaceAt: the program's and the reference model's. Nodes at paths, in plain words: paths concatenate. Replacing a node, in plain words: what is put is found, and putting back undoes. A closed term's type is its type everywhere; a node replaced by one of its type leaves the type. Terms with casts: what a type says of a node. Types are kept by steps; a closed term with a type does not get stuck, and what is blamed is a label of its casts. A term with its casts put in is valid, and has the type that the term has. CastTypeOf. The program's InsertCasts, TypeOf. The reference's typing, exactly: types of terms.
-/
import Derived.Test.YtaiafkcflhcdaaaGreatDoorKa3
import Derived.Test.YtaiafkcflhcdaaaGreatDoorKa4
import Derived.Test.YtaiafkcflhcdaaaGreatDoorKa2
import Derived.Test.YtaiafkcflhcdaaaGreatDoorKa1
namespace Go.Proofs.YtaiafkcflhcdaaaGreatDoor
open Go Go.RowKit
namespace Gw
theorem SlE.kidD {G : IM} {p : Option Addr} {n c : Nat} {es : List (List Value)} {ks : List Ty} (h : SlE G p n c 2 es) (hk : RTyL G ks es) {i : Nat} (hi : i < n) (hn : i < ks.length) :
  ∃ b o q d, p = some ⟨b, o, none⟩ ∧ (∀ hp, At hp G b (o + i * 2) [.int .i64 (ks.getD i ty0).k, .slice q (ks.getD i ty0).ks.length d]) ∧ RTy G (ks.getD i ty0) [.int .i64 (ks.getD i ty0).k, .slice q (ks.getD i ty0).ks.length d] ∧ G b ≠ none := by
 obtain ⟨b, o, q, d, h1, h2, h3, h4⟩ := h.kidTy hk hi hn
 rw [List.getD_eq_getElem?_getD, List.getElem?_eq_getElem hn, Option.getD_some]
 exact ⟨b, o, q, d, h1, h2, h3, h4⟩
theorem getD_ar {hs : List Ty} (h : ∀ t ∈ hs, tAr t) {i : Nat} (hi : i < hs.length) : tAr (hs.getD i ty0) := by
 rw [List.getD_eq_getElem?_getD, List.getElem?_eq_getElem hi, Option.getD_some]
 exact h _ (List.getElem_mem hi)
/-- What a node wants, and its type. -/
def WtP (r : Option (List Ty × Ty)) (G : IM) : IM → Value → List Ent → Prop := Imm fun G' v => ∃ p n c es w cu u, v = .tuple ⟨[.slice p n c, .agg ⟨cu⟩, .bool r.isSome]⟩ ∧ n = w.length ∧ SlE G' p n c 2 es ∧ RTyL G' w es ∧ RTy G' u cu ∧ ∀ q, r = some q → q = (w, u)
theorem WtP.mk {r : Option (List Ty × Ty)} {G G' : IM} {p : Option Addr} {n c : Nat} {es : List (List Value)} {w : List Ty} {cu : List Value} {u : Ty} {b : Bool} (hl : n = w.length) (hs : Sl G' p n c 2 es.flatten) (hw : RTyL G' w es) (hu : RTy G' u cu) (h : r = if b = true then some (w, u) else none) :
  WtP r G G' (.tuple ⟨[.slice p n c, .agg ⟨cu⟩, .bool b]⟩) [] := by
 refine ⟨rfl, p, n, c, es, w, cu, u, ?_, hl, SlE.of hs (by rw [hw.len, hl]) hw.all (fun e he => (hw.each e he).2), hw, hu, ?_⟩
 ·subst h; cases b <;> rfl
 ·subst h; cases b
  ·simp
  ·intro q hq; simpa using hq.symm
theorem WtP.nil {r : Option (List Ty × Ty)} {G G' : IM} {cu : List Value} {u : Ty} {b : Bool} (hu : RTy G' u cu) (h : r = if b = true then some ([], u) else none) :
  WtP r G G' (.tuple ⟨[.slice none 0 0, .agg ⟨cu⟩, .bool b]⟩) [] := WtP.mk (es := []) rfl (Sl.nil _ _) (by simp [RTyL]) hu h
theorem WtP.one {r : Option (List Ty × Ty)} {G G' : IM} {p : Option Addr} {c : Nat} {a : Ty} {ca : List Value} {cu : List Value} {u : Ty} {b : Bool} (hs : Sl G' p 1 c 2 ca) (ha : RTy G' a ca) (hu : RTy G' u cu) (h : r = if b = true then some ([a], u) else none) :
  WtP r G G' (.tuple ⟨[.slice p 1 c, .agg ⟨cu⟩, .bool b]⟩) [] := WtP.mk (es := [ca]) (w := [a]) rfl (by simpa using hs) ⟨_, _, rfl, ha, rfl⟩ hu h
theorem WtP.two {r : Option (List Ty × Ty)} {G G' : IM} {p : Option Addr} {c : Nat} {a a2 : Ty} {ca ca2 : List Value} {cu : List Value} {u : Ty} {b : Bool} (hs : Sl G' p 2 c 2 (ca ++ ca2)) (ha : RTy G' a ca) (ha2 : RTy G' a2 ca2) (hu : RTy G' u cu) (h : r = if b = true then some ([a, a2], u) else none) :
  WtP r G G' (.tuple ⟨[.slice p 2 c, .agg ⟨cu⟩, .bool b]⟩) [] := WtP.mk (es := [ca, ca2]) (w := [a, a2]) rfl (by simpa using hs) ⟨_, _, rfl, ha, _, _, rfl, ha2, rfl⟩ hu h
theorem WtP.three {r : Option (List Ty × Ty)} {G G' : IM} {p : Option Addr} {c : Nat} {a a2 a3 : Ty} {ca ca2 ca3 : List Value} {cu : List Value} {u : Ty} {b : Bool} (hs : Sl G' p 3 c 2 (ca ++ (ca2 ++ ca3))) (ha : RTy G' a ca) (ha2 : RTy G' a2 ca2) (ha3 : RTy G' a3 ca3) (hu : RTy G' u cu) (h : r = if b = true then some ([a, a2, a3], u) else none) :
  WtP r G G' (.tuple ⟨[.slice p 3 c, .agg ⟨cu⟩, .bool b]⟩) [] := WtP.mk (es := [ca, ca2, ca3]) (w := [a, a2, a3]) rfl (by simpa using hs) ⟨_, _, rfl, ha, _, _, rfl, ha2, _, _, rfl, ha3, rfl⟩ hu h
section
variable {cx : Cx} {nm : ByteArray} {ty : Ty} {h : List Ty}
theorem mW1 : mWanted cx 1 nm ty h = match mLook cx nm with | some t => some ([], t) | none => none := rfl
theorem mW2 : mWanted cx 2 nm ty h = some ([], tyInt) := rfl
theorem mW34 {k : Int} (hk : k = 3 ∨ k = 4) : mWanted cx k nm ty h = some ([], tyBool) := by rcases hk with rfl | rfl <;> rfl
theorem mW5 : mWanted cx 5 nm ty h = some ([], .mk 4 [ty, h.getD 0 ty0]) := rfl
theorem mW6 : mWanted cx 6 nm ty h = match mMatch 4 (h.getD 0 ty0) with | some (a, b) => if tCons (h.getD 1 ty0) a = true then some ([.mk 4 [a, b], a], b) else none | none => none := rfl
theorem mW78 {k : Int} (hk : k = 7 ∨ k = 8) : mWanted cx k nm ty h = if tCons (h.getD 0 ty0) tyInt = true ∧ tCons (h.getD 1 ty0) tyInt = true then some ([tyInt, tyInt], if k = 8 then tyBool else tyInt) else none := by rcases hk with rfl | rfl <;> rfl
theorem mW9 : mWanted cx 9 nm ty h = if tCons (h.getD 0 ty0) tyBool = true ∧ tCons (h.getD 1 ty0) (h.getD 2 ty0) = true then some ([tyBool, mMeet (h.getD 1 ty0) (h.getD 2 ty0), mMeet (h.getD 1 ty0) (h.getD 2 ty0)], mMeet (h.getD 1 ty0) (h.getD 2 ty0)) else none := rfl
theorem mW10 : mWanted cx 10 nm ty h = some ([], .mk 5 [h.getD 0 ty0, h.getD 1 ty0]) := rfl
theorem mW13 : mWanted cx 13 nm ty h = if tCons (h.getD 0 ty0) ty = true then some ([ty], ty) else none := rfl
theorem mW11 {k : Int} (hk : k = 11 ∨ k = 12) : mWanted cx k nm ty h = match mMatch 5 (h.getD 0 ty0) with | some (a, b) => some ([.mk 5 [a, b]], if k = 12 then b else a) | none => none := by rcases hk with rfl | rfl <;> rfl
end
theorem tyInt_r (G : IM) : RTy G tyInt [.int .i64 2, .slice none 0 0] := tyLeaf_r G ⟨by omega, by omega⟩
theorem tyBool_r (G : IM) : RTy G tyBool [.int .i64 3, .slice none 0 0] := tyLeaf_r G ⟨by omega, by omega⟩
set_option maxHeartbeats 0 in
set_option maxRecDepth 100000 in
theorem wanted_fn (cx : Cx) (k : Int) (nm : ByteArray) (num : Int) (ty fr : Ty) (lb : Int) (ks : List Tm) (h : List Ty) (G : IM) (pc : Option Addr) (nc cc : Nat) (cells : List Value) (p : Option Addr) (n c : Nat) (es : List (List Value))
  (hx : RCx G cx pc nc cc) (hops : tmOps k = n) (hnl : n = h.length) (hk14 : k ≠ 14) (hta : tAr ty) (hr : RTm G (.mk k nm num ty fr lb ks) cells) (hsl : SlE G p n c 2 es) (hkl : RTyL G h es) (har : ∀ t ∈ h, tAr t) :
  Fn Tryz.prog 112 [.slice pc nc cc, .agg ⟨cells⟩, .slice p n c] [] G (WtP (mWanted cx k nm ty h) G) := by
 have hone := hr.one
 have hop := tm_ops hops
 have hkr : 1 ≤ k ∧ k ≤ 14 := by
  apply Classical.byContradiction
  intro hc
  rw [tmOps_no hc] at hops; omega
 obtain ⟨tyk, tyks⟩ := ty
 obtain ⟨fk, fks⟩ := fr
 obtain ⟨pt, ct, pf, cf, pk, ck, ek, rfl, hk, hnum, hlb, hrty, hrfr, _, _⟩ := hr.open9
 refine fn_enter Tryz.func112 rfl Tryz.ntmps112 Tryz.results112 rfl ?_
 intro w0
 refine tS (tR ?_)
 (refine seq_step (step_box_a rfl rfl) rfl ?_; rintro _ ⟨b3, rfl⟩)
 refine sP (pA rfl) rfl rfl ?_
 (refine seq_step (step_alloc rfl) rfl ?_; rintro _ ⟨b5, rfl⟩)
 refine sP (pA rfl) rfl rfl (sD (nS (tS (tR (seq_val rfl ((base_fn _ _)) rfl rfl ?_)))))
 refine seq_val rfl ((base_fn _ _)) rfl rfl ?_
 (refine seq_step (step_alloc rfl) rfl ?_; rintro _ ⟨b13, rfl⟩)
 (refine seq_step (step_alloc rfl) rfl ?_; rintro _ ⟨b14, rfl⟩)
 refine sS rfl rfl rfl rfl rfl rfl ?_
 refine sS rfl rfl rfl rfl rfl rfl ?_
 refine sD (nS (tS (tS (tR (sP (pF0 rfl) rfl rfl (sL (lBs rfl rfl) rfl rfl ?_))))))
 refine sD (nS (tri_block (tS (tR (sB (pE rfl rfl) rfl rfl (fun h29 => ?_) (fun h29 => ?_))))))
 refine sP (pA rfl) rfl rfl (sD (nS (cT rfl ?_)))
 refine tS (tR (sP (pM rfl) rfl rfl (sP (pF0 rfl) rfl rfl (sL (lBs rfl rfl) rfl rfl ?_))))
 (refine seq_imm rfl (lookup_fn G cx pc nc cc nm hx) rfl rfl (fun v G1 hle1 hh => ?_); obtain ⟨cu, u, rfl, hru, hu⟩ := hh; obtain ⟨p1, c1, e1, rfl, _⟩ := hru.open)
 refine sP (pM rfl) rfl rfl (sP (pX rfl rfl) rfl rfl (sP (pX rfl rfl) rfl rfl ?_))
 (refine seq_step (step_alloc rfl) rfl ?_; rintro _ ⟨b43, rfl⟩)
 refine sS rfl rfl rfl rfl rfl rfl ?_
 refine sP (pA rfl) rfl rfl (sD (nS (tS (tri_draw mixed rfl ?_))))
 refine any_load (i := 0) (l' := [tt,ff,ff,ff,ff]) rfl npI (lBa rfl rfl) rfl (by kernel_rfl) rfl rfl ?_
 refine aP 1 rfl (pM rfl) rfl rfl ?_
 refine aP 2 rfl (pA rfl) rfl rfl ?_
 refine aO (j := 3) (by kernel_rfl) ?_
 refine oT rfl rfl rfl rfl rfl rfl rfl ?_
 refine aP 4 rfl (pA rfl) rfl rfl ?_
 refine aD (by kernel_rfl) ?_
 refine nS (tT (rB (rS (rF3 (rT rfl) (rC rfl (lBa rfl rfl)) (rT rfl) ?_))))
 (have hk1 : k = 1 := (by omega); subst hk1; rw [mW1]; refine WtP.nil hru ?_; generalize mLook cx nm = r at hu ⊢; cases r with | none => rfl | some t => (rw [hu t rfl]; rfl))
 refine sP (pA rfl) rfl rfl (sD (nS (cF rfl ?_)))
 refine tS (tR (sB (pE rfl rfl) rfl rfl (fun h69 => ?_) (fun h69 => ?_)))
 refine sP (pA rfl) rfl rfl (sD (nS (cT rfl ?_)))
 refine tS (tri_draw mixed rfl ?_)
 refine any_load (i := 0) (l' := [tt,ff,ff,ff]) rfl npI (lBa rfl rfl) rfl (by kernel_rfl) rfl rfl ?_
 refine aP 1 rfl (pA rfl) rfl rfl ?_
 refine aO (j := 2) (by kernel_rfl) ?_
 refine oT rfl rfl rfl rfl rfl rfl rfl ?_
 refine aP 3 rfl (pA rfl) rfl rfl ?_
 refine aD (by kernel_rfl) ?_
 refine nS (tT (rB (rS (rF3 (rT rfl) (rC rfl (lBa rfl rfl)) (rT rfl) ?_))))
 (have hk1 : k = 2 := (by omega); subst hk1; exact WtP.nil (tyInt_r _) mW2)
 refine sP (pA rfl) rfl rfl (sD (nS (cF rfl ?_)))
 refine tS (tS (tR (sB (pE rfl rfl) rfl rfl (fun h95 => ?_) (fun h95 => ?_))))
 refine sP (pA rfl) rfl rfl (sD (nS (cT rfl ?_)))
 refine tK (nS (cT rfl ?_))
 refine tS (tri_draw mixed rfl ?_)
 refine any_load (i := 0) (l' := [tt,ff,ff,ff]) rfl npI (lBa rfl rfl) rfl (by kernel_rfl) rfl rfl ?_
 refine aP 1 rfl (pA rfl) rfl rfl ?_
 refine aO (j := 2) (by kernel_rfl) ?_
 refine oT rfl rfl rfl rfl rfl rfl rfl ?_
 refine aP 3 rfl (pA rfl) rfl rfl ?_
 refine aD (by kernel_rfl) ?_
 refine nS (tT (rB (rS (rF3 (rT rfl) (rC rfl (lBa rfl rfl)) (rT rfl) ?_))))
 (exact WtP.nil (tyBool_r _) (by rw [mW34 (by omega)]; rfl))
 refine sP (pA rfl) rfl rfl (sD (nS (cF rfl ?_)))
 refine tR (sB (pE rfl rfl) rfl rfl (fun h122 => ?_) (fun h122 => ?_))
 refine sP (pA rfl) rfl rfl (sD (nS (cT rfl ?_)))
 refine tS (tri_draw mixed rfl ?_)
 refine any_load (i := 0) (l' := [tt,ff,ff,ff]) rfl npI (lBa rfl rfl) rfl (by kernel_rfl) rfl rfl ?_
 refine aP 1 rfl (pA rfl) rfl rfl ?_
 refine aO (j := 2) (by kernel_rfl) ?_
 refine oT rfl rfl rfl rfl rfl rfl rfl ?_
 refine aP 3 rfl (pA rfl) rfl rfl ?_
 refine aD (by kernel_rfl) ?_
 refine nS (tT (rB (rS (rF3 (rT rfl) (rC rfl (lBa rfl rfl)) (rT rfl) ?_))))
 (exact WtP.nil (tyBool_r _) (by rw [mW34 (by omega)]; rfl))
 refine sP (pA rfl) rfl rfl (sD (nS (cF rfl ?_)))
 refine tS (tR (sB (pE rfl rfl) rfl rfl (fun h147 => ?_) (fun h147 => ?_)))
 refine sP (pA rfl) rfl rfl (sD (nS (cT rfl ?_)))
 refine tS ?_
 (have hl1 : n = 1 := hop.2.2 (by omega); obtain ⟨b0, o0, q0, d0, hp0, hat0, hre0, hg0⟩ := hsl.kidD hkl (i := 0) (by omega) (by omega); cases hp0; refine tri_draw mixed rfl ?_)
 refine any_pure (i := 0) (l' := [tt,ff,ff,ff,ff,ff,ff,ff,ff]) rfl npI (pF0 rfl) rfl (by kernel_rfl) rfl rfl ?_
 refine aL 1 rfl (lBa rfl rfl) rfl rfl ?_
 refine aP 2 rfl (pM rfl) rfl rfl ?_
 refine aP 3 rfl (pIN (j := 0) rfl rfl rfl (by omega)) rfl rfl ?_
 refine aL 4 rfl (load_a rfl rfl (hat0 _) rfl) rfl rfl ?_
 refine aO (j := 5) (by kernel_rfl) ?_
 (refine one_imm (l' := [tt,tt,tt,tt,tt,tt,ff,ff,ff]) rfl rfl (both_fn 4 _ _ _ _ _ ⟨by omega, by omega⟩ hrty hre0) rfl rfl rfl (fun v GB hleB hh => ?_); obtain ⟨cB, rfl, hrB⟩ := hh; obtain ⟨p7, c7, e7, rfl, _⟩ := hrB.open)
 refine aP 6 rfl (pA rfl) rfl rfl ?_
 refine aO (j := 7) (by kernel_rfl) ?_
 refine oT rfl rfl rfl rfl rfl rfl rfl ?_
 refine aP 8 rfl (pA rfl) rfl rfl ?_
 refine aD (by kernel_rfl) ?_
 refine nS (tT (rB (rS (rF3 (rT rfl) (rC rfl (lBa rfl rfl)) (rT rfl) ?_))))
 (have hk1 : k = 5 := (by omega); subst hk1; exact WtP.nil hrB mW5)
 refine sP (pA rfl) rfl rfl (sD (nS (cF rfl ?_)))
 refine tS (tR (sB (pE rfl rfl) rfl rfl (fun h178 => ?_) (fun h178 => ?_)))
 refine sP (pA rfl) rfl rfl (sD (nS (cT rfl ?_)))
 refine tS (tR (sP (pM rfl) rfl rfl ?_))
 (have hl2 : n = 2 := hop.1 (by omega); obtain ⟨b0, o0, q0, d0, hp0, hat0, hre0, hg0⟩ := hsl.kidD hkl (i := 0) (by omega) (by omega); cases hp0; refine sP (pIN (j := 0) rfl rfl rfl (by omega)) rfl rfl ?_)
 refine sL (load_a rfl rfl (hat0 _) rfl) rfl rfl ?_
 (refine seq_imm rfl (match_fn 4 (h.getD 0 ty0) G _ (.inl rfl) (getD_ar har (by omega)) hre0) rfl rfl (fun v G1 hle1 hh => ?_); obtain ⟨ma, mca, mb, mcb, rfl, hma, hmb, hma2, hmb2, hmm⟩ := hh; obtain ⟨p1, c1, e1, rfl, _⟩ := hma.open; obtain ⟨p2, c2, e2, rfl, _⟩ := hmb.open; replace hsl := hsl.mono hle1; replace hkl := hkl.mono hle1; generalize hmi : (mMatch 4 (h.getD 0 ty0)).isSome = mi; cases mi)
 refine sP (pM rfl) rfl rfl (sP (pX rfl rfl) rfl rfl (sP (pX rfl rfl) rfl rfl (sP (pX rfl rfl) rfl rfl ?_)))
 (refine seq_step (step_alloc rfl) rfl ?_; rintro _ ⟨b193, rfl⟩)
 (refine seq_step (step_alloc rfl) rfl ?_; rintro _ ⟨b194, rfl⟩)
 refine sS rfl rfl rfl rfl rfl rfl ?_
 refine sS rfl rfl rfl rfl rfl rfl ?_
 refine sP (pA rfl) rfl rfl (sD (nS (tS ?_)))
 (have hl2 : n = 2 := hop.1 (by omega); obtain ⟨b0, o0, q0, d0, hp0, hat0, hre0, hg0⟩ := hsl.kidD hkl (i := 0) (by omega) (by omega); obtain ⟨b1, o1, q1, d1, hp1, hat1, hre1, hg1⟩ := hsl.kidD hkl (i := 1) (by omega) (by omega); cases hp0; cases hp1; refine tri_draw mixed rfl ?_)
 refine any_load (i := 0) (l' := [tt,ff,ff,ff,ff,ff,ff,ff,ff,ff,ff,ff,ff,ff,ff,ff,ff]) rfl npI (lBa rfl rfl) rfl (by kernel_rfl) rfl rfl ?_
 refine aL 1 rfl (lBa rfl rfl) rfl rfl ?_
 refine aL 3 rfl (lBa rfl rfl) rfl rfl ?_
 refine aL 5 rfl (lBa rfl rfl) rfl rfl ?_
 refine aP 6 rfl (pM rfl) rfl rfl ?_
 refine aO (j := 2) (by kernel_rfl) ?_
 (refine one_imm (l' := [tt,tt,tt,tt,ff,tt,tt,ff,ff,ff,ff,ff,ff,ff,ff,ff,ff]) rfl rfl (both_fn _ ma mb _ _ _ ⟨by omega, by omega⟩ hma hmb) rfl rfl rfl (fun v GB hleB hh => ?_); obtain ⟨cB, rfl, hrB⟩ := hh; obtain ⟨p7, c7, e7, rfl, _⟩ := hrB.open; have hma' := hma.mono hleB; have hmb' := hmb.mono hleB)
 refine aP 7 rfl (pM rfl) rfl rfl ?_
 refine aK (i := 8) (l' := [tt,tt,tt,tt,ff,tt,tt,tt,tt,ff,ff,ff,ff,ff,ff,ff,ff]) rfl npI rfl (by kernel_rfl) rfl rfl ?_
 refine aK (i := 9) (l' := [tt,tt,tt,tt,ff,tt,tt,tt,tt,tt,ff,ff,ff,ff,ff,ff,ff]) rfl npI rfl (by kernel_rfl) rfl rfl ?_
 refine aK (i := 10) (l' := [tt,tt,tt,tt,ff,tt,tt,tt,tt,tt,tt,ff,ff,ff,ff,ff,ff]) rfl npI rfl (by kernel_rfl) rfl rfl ?_
 refine aK (i := 11) (l' := [tt,tt,tt,tt,ff,tt,tt,tt,tt,tt,tt,tt,ff,ff,ff,ff,ff]) rfl npI rfl (by kernel_rfl) rfl rfl ?_
 refine any_two (j := 4) (j' := 12) (by kernel_rfl) ?_ ?_
 (refine one_step0 (l' := [tt,tt,tt,tt,tt,tt,tt,tt,tt,tt,tt,tt,ff,ff,ff,ff,ff]) rfl (step_buildSlice rfl rfl rfl (by omega) (by unfold maxLen; omega) rfl) rfl rfl ?_; rintro _ ⟨b215, rfl⟩)
 refine aK (i := 12) (l' := [tt,tt,tt,tt,tt,tt,tt,tt,tt,tt,tt,tt,tt,ff,ff,ff,ff]) rfl npI rfl (by kernel_rfl) rfl rfl ?_
 refine aP 13 rfl (pPf rfl rfl) rfl rfl ?_
 refine aP 14 rfl (pA rfl) rfl rfl ?_
 refine aO (j := 15) (by kernel_rfl) ?_
 refine oT rfl rfl rfl rfl rfl rfl rfl ?_
 refine aP 16 rfl (pA rfl) rfl rfl ?_
 refine aD (by kernel_rfl) ?_
 refine nS ?_
 (refine ret_freeze Pk.here (fun G5 hle5 hsl5 hno5 => ?_))
 refine tT (rB (rS (rF3 (rT rfl) (rC rfl (lBa rfl rfl)) (rT rfl) ?_)))
 (have hk1 : k = 6 := (by omega); subst hk1; refine WtP.two hsl5 (hrB.mono hle5) (hma'.mono hle5) (hmb'.mono hle5) ?_; rw [mW6]; cases hq : mMatch 4 (h.getD 0 ty0) with | none => rfl | some q => (rw [hq] at hmi; cases hmi))
 refine one_skip (l' := [tt,tt,tt,tt,ff,tt,tt,tt,tt,tt,tt,tt,tt,ff,ff,ff,ff]) rfl rfl rfl rfl ?_
 refine aP 13 rfl (pPf rfl rfl) rfl rfl ?_
 refine aO (j := 4) (by kernel_rfl) ?_
 (refine one_step0 (l' := [tt,tt,tt,tt,tt,tt,tt,tt,tt,tt,tt,tt,tt,tt,ff,ff,ff]) rfl (step_buildSlice rfl rfl rfl (by omega) (by unfold maxLen; omega) rfl) rfl rfl ?_; rintro _ ⟨b233, rfl⟩)
 refine aP 14 rfl (pA rfl) rfl rfl ?_
 refine aO (j := 15) (by kernel_rfl) ?_
 refine oT rfl rfl rfl rfl rfl rfl rfl ?_
 refine aP 16 rfl (pA rfl) rfl rfl ?_
 refine aD (by kernel_rfl) ?_
 refine nS ?_
 (refine ret_freeze Pk.here (fun G5 hle5 hsl5 hno5 => ?_))
 refine tT (rB (rS (rF3 (rT rfl) (rC rfl (lBa rfl rfl)) (rT rfl) ?_)))
 (have hk1 : k = 6 := (by omega); subst hk1; refine WtP.two hsl5 (hrB.mono hle5) (hma'.mono hle5) (hmb'.mono hle5) ?_; rw [mW6]; cases hq : mMatch 4 (h.getD 0 ty0) with | none => rfl | some q => (rw [hq] at hmi; cases hmi))
 refine sP (pM rfl) rfl rfl (sP (pX rfl rfl) rfl rfl (sP (pX rfl rfl) rfl rfl (sP (pX rfl rfl) rfl rfl ?_)))
 (refine seq_step (step_alloc rfl) rfl ?_; rintro _ ⟨b250, rfl⟩)
 (refine seq_step (step_alloc rfl) rfl ?_; rintro _ ⟨b251, rfl⟩)
 refine sS rfl rfl rfl rfl rfl rfl ?_
 refine sS rfl rfl rfl rfl rfl rfl ?_
 refine sP (pA rfl) rfl rfl (sD (nS (tS ?_)))
 (have hl2 : n = 2 := hop.1 (by omega); obtain ⟨b0, o0, q0, d0, hp0, hat0, hre0, hg0⟩ := hsl.kidD hkl (i := 0) (by omega) (by omega); obtain ⟨b1, o1, q1, d1, hp1, hat1, hre1, hg1⟩ := hsl.kidD hkl (i := 1) (by omega) (by omega); cases hp0; cases hp1; refine tri_draw mixed rfl ?_)
 refine any_load (i := 0) (l' := [tt,ff,ff,ff,ff,ff,ff,ff,ff,ff,ff,ff,ff,ff,ff,ff,ff]) rfl npI (lBa rfl rfl) rfl (by kernel_rfl) rfl rfl ?_
 refine aL 1 rfl (lBa rfl rfl) rfl rfl ?_
 refine aL 3 rfl (lBa rfl rfl) rfl rfl ?_
 refine aL 5 rfl (lBa rfl rfl) rfl rfl ?_
 refine aP 6 rfl (pM rfl) rfl rfl ?_
 refine aO (j := 2) (by kernel_rfl) ?_
 (refine one_imm (l' := [tt,tt,tt,tt,ff,tt,tt,ff,ff,ff,ff,ff,ff,ff,ff,ff,ff]) rfl rfl (both_fn _ ma mb _ _ _ ⟨by omega, by omega⟩ hma hmb) rfl rfl rfl (fun v GB hleB hh => ?_); obtain ⟨cB, rfl, hrB⟩ := hh; obtain ⟨p7, c7, e7, rfl, _⟩ := hrB.open; have hma' := hma.mono hleB; have hmb' := hmb.mono hleB)
 refine aP 7 rfl (pM rfl) rfl rfl ?_
 refine aP 8 rfl (pM rfl) rfl rfl ?_
 refine aP 9 rfl (pIN (j := 1) rfl rfl rfl (by omega)) rfl rfl ?_
 refine aL 10 rfl (load_a rfl rfl (At.mono' hleB (hat1 _)) rfl) rfl rfl ?_
 refine aL 11 rfl (lBa rfl rfl) rfl rfl ?_
 refine any_two (j := 4) (j' := 12) (by kernel_rfl) ?_ ?_
 (refine one_step0 (l' := [tt,tt,tt,tt,tt,tt,tt,tt,tt,tt,tt,tt,ff,ff,ff,ff,ff]) rfl (step_buildSlice rfl rfl rfl (by omega) (by unfold maxLen; omega) rfl) rfl rfl ?_; rintro _ ⟨b272, rfl⟩)
 refine aO (j := 12) (by kernel_rfl) ?_
 refine one_valb (l' := [tt,tt,tt,tt,tt,tt,tt,tt,tt,tt,tt,tt,tt,ff,ff,ff,ff]) rfl rfl ((consistent_fn _ _ _ _ _ (hre1.mono hleB) hma')) rfl rfl rfl (fun h274 => ?_) (fun h274 => ?_)
 refine aP 13 rfl (pPt rfl rfl) rfl rfl ?_
 refine aP 14 rfl (pA rfl) rfl rfl ?_
 refine aO (j := 15) (by kernel_rfl) ?_
 refine oT rfl rfl rfl rfl rfl rfl rfl ?_
 refine aP 16 rfl (pA rfl) rfl rfl ?_
 refine aD (by kernel_rfl) ?_
 refine nS ?_
 (refine ret_freeze Pk.here (fun G5 hle5 hsl5 hno5 => ?_))
 refine tT (rB (rS (rF3 (rT rfl) (rC rfl (lBa rfl rfl)) (rT rfl) ?_)))
 (have hk1 : k = 6 := (by omega); subst hk1; refine WtP.two hsl5 (hrB.mono hle5) (hma'.mono hle5) (hmb'.mono hle5) ?_; rw [mW6]; cases hq : mMatch 4 (h.getD 0 ty0) with | none => (rw [hq] at hmi; cases hmi) | some q => (have hq2 := hmm q hq; subst hq2; dsimp only; split <;> first | rfl | (exfalso; simp_all; done)))
 refine aP 13 rfl (pPt rfl rfl) rfl rfl ?_
 refine aP 14 rfl (pA rfl) rfl rfl ?_
 refine aO (j := 15) (by kernel_rfl) ?_
 refine oT rfl rfl rfl rfl rfl rfl rfl ?_
 refine aP 16 rfl (pA rfl) rfl rfl ?_
 refine aD (by kernel_rfl) ?_
 refine nS ?_
 (refine ret_freeze Pk.here (fun G5 hle5 hsl5 hno5 => ?_))
 refine tT (rB (rS (rF3 (rT rfl) (rC rfl (lBa rfl rfl)) (rT rfl) ?_)))
 (have hk1 : k = 6 := (by omega); subst hk1; refine WtP.two hsl5 (hrB.mono hle5) (hma'.mono hle5) (hmb'.mono hle5) ?_; rw [mW6]; cases hq : mMatch 4 (h.getD 0 ty0) with | none => (rw [hq] at hmi; cases hmi) | some q => (have hq2 := hmm q hq; subst hq2; dsimp only; split <;> first | rfl | (exfalso; simp_all; done)))
 refine one_valb (l' := [tt,tt,tt,tt,ff,tt,tt,tt,tt,tt,tt,tt,tt,ff,ff,ff,ff]) rfl rfl ((consistent_fn _ _ _ _ _ (hre1.mono hleB) hma')) rfl rfl rfl (fun h301 => ?_) (fun h301 => ?_)
 refine aP 13 rfl (pPt rfl rfl) rfl rfl ?_
 refine aO (j := 4) (by kernel_rfl) ?_
 (refine one_step0 (l' := [tt,tt,tt,tt,tt,tt,tt,tt,tt,tt,tt,tt,tt,tt,ff,ff,ff]) rfl (step_buildSlice rfl rfl rfl (by omega) (by unfold maxLen; omega) rfl) rfl rfl ?_; rintro _ ⟨b304, rfl⟩)
 refine aP 14 rfl (pA rfl) rfl rfl ?_
 refine aO (j := 15) (by kernel_rfl) ?_
 refine oT rfl rfl rfl rfl rfl rfl rfl ?_
 refine aP 16 rfl (pA rfl) rfl rfl ?_
 refine aD (by kernel_rfl) ?_
 refine nS ?_
 (refine ret_freeze Pk.here (fun G5 hle5 hsl5 hno5 => ?_))
 refine tT (rB (rS (rF3 (rT rfl) (rC rfl (lBa rfl rfl)) (rT rfl) ?_)))
 (have hk1 : k = 6 := (by omega); subst hk1; refine WtP.two hsl5 (hrB.mono hle5) (hma'.mono hle5) (hmb'.mono hle5) ?_; rw [mW6]; cases hq : mMatch 4 (h.getD 0 ty0) with | none => (rw [hq] at hmi; cases hmi) | some q => (have hq2 := hmm q hq; subst hq2; dsimp only; split <;> first | rfl | (exfalso; simp_all; done)))
 refine aP 13 rfl (pPt rfl rfl) rfl rfl ?_
 refine aO (j := 4) (by kernel_rfl) ?_
 (refine one_step0 (l' := [tt,tt,tt,tt,tt,tt,tt,tt,tt,tt,tt,tt,tt,tt,ff,ff,ff]) rfl (step_buildSlice rfl rfl rfl (by omega) (by unfold maxLen; omega) rfl) rfl rfl ?_; rintro _ ⟨b319, rfl⟩)
 refine aP 14 rfl (pA rfl) rfl rfl ?_
 refine aO (j := 15) (by kernel_rfl) ?_
 refine oT rfl rfl rfl rfl rfl rfl rfl ?_
 refine aP 16 rfl (pA rfl) rfl rfl ?_
 refine aD (by kernel_rfl) ?_
 refine nS ?_
 (refine ret_freeze Pk.here (fun G5 hle5 hsl5 hno5 => ?_))
 refine tT (rB (rS (rF3 (rT rfl) (rC rfl (lBa rfl rfl)) (rT rfl) ?_)))
 (have hk1 : k = 6 := (by omega); subst hk1; refine WtP.two hsl5 (hrB.mono hle5) (hma'.mono hle5) (hmb'.mono hle5) ?_; rw [mW6]; cases hq : mMatch 4 (h.getD 0 ty0) with | none => (rw [hq] at hmi; cases hmi) | some q => (have hq2 := hmm q hq; subst hq2; dsimp only; split <;> first | rfl | (exfalso; simp_all; done)))
 refine sP (pA rfl) rfl rfl (sD (nS (cF rfl ?_)))
 refine tS (tS (tR (sB (pE rfl rfl) rfl rfl (fun h339 => ?_) (fun h339 => ?_))))
 refine sP (pA rfl) rfl rfl (sD (nS (cT rfl ?_)))
 refine tK (nS (cT rfl ?_))
 refine tS (tR (sL (lBa rfl rfl) rfl rfl ?_))
 (refine seq_step (step_alloc rfl) rfl ?_; rintro _ ⟨b350, rfl⟩)
 refine sS rfl rfl rfl rfl rfl rfl ?_
 refine sD (nS (tS (tS (tR (sP (pF0 rfl) rfl rfl (sL (lBs rfl rfl) rfl rfl ?_))))))
 refine sP (pure_eql_f rfl rfl (by omega)) rfl rfl ?_
 refine sD (nS (cF rfl ?_))
 refine tK (nS (tS ?_))
 (have hl2 : n = 2 := hop.1 (by omega); obtain ⟨b0, o0, q0, d0, hp0, hat0, hre0, hg0⟩ := hsl.kidD hkl (i := 0) (by omega) (by omega); obtain ⟨b1, o1, q1, d1, hp1, hat1, hre1, hg1⟩ := hsl.kidD hkl (i := 1) (by omega) (by omega); cases hp0; cases hp1; refine tri_draw mixed rfl ?_)
 refine any_load (i := 0) (l' := [tt,ff,ff,ff,ff,ff,ff,ff,ff,ff,ff,ff,ff,ff,ff,ff,ff,ff,ff]) rfl npI (lBa rfl rfl) rfl (by kernel_rfl) rfl rfl ?_
 refine aL 1 rfl (lBa rfl rfl) rfl rfl ?_
 refine aL 3 rfl (lBa rfl rfl) rfl rfl ?_
 refine aP 4 rfl (pM rfl) rfl rfl ?_
 refine aP 5 rfl (pIN (j := 0) rfl rfl rfl (by omega)) rfl rfl ?_
 refine aL 6 rfl (load_a rfl rfl (hat0 _) rfl) rfl rfl ?_
 refine aL 7 rfl (lBa rfl rfl) rfl rfl ?_
 refine any_two (j := 2) (j' := 8) (by kernel_rfl) ?_ ?_
 (refine one_step0 (l' := [tt,tt,tt,tt,tt,tt,tt,tt,ff,ff,ff,ff,ff,ff,ff,ff,ff,ff,ff]) rfl (step_buildSlice rfl rfl rfl (by omega) (by unfold maxLen; omega) rfl) rfl rfl ?_; rintro _ ⟨b375, rfl⟩)
 refine aO (j := 8) (by kernel_rfl) ?_
 refine one_valb (l' := [tt,tt,tt,tt,tt,tt,tt,tt,tt,ff,ff,ff,ff,ff,ff,ff,ff,ff,ff]) rfl rfl ((consistent_fn _ _ _ _ _ hre0 (tyInt_r _))) rfl rfl rfl (fun h377 => ?_) (fun h377 => ?_)
 refine aP 9 rfl (pM rfl) rfl rfl ?_
 refine aP 10 rfl (pM rfl) rfl rfl ?_
 refine aP 11 rfl (pIN (j := 1) rfl rfl rfl (by omega)) rfl rfl ?_
 refine aL 12 rfl (load_a rfl rfl (hat1 _) rfl) rfl rfl ?_
 refine aL 13 rfl (lBa rfl rfl) rfl rfl ?_
 refine aO (j := 14) (by kernel_rfl) ?_
 refine one_valb (l' := [tt,tt,tt,tt,tt,tt,tt,tt,tt,tt,tt,tt,tt,tt,tt,ff,ff,ff,ff]) rfl rfl ((consistent_fn _ _ _ _ _ hre1 (tyInt_r _))) rfl rfl rfl (fun h384 => ?_) (fun h384 => ?_)
 refine aP 15 rfl (pPt rfl rfl) rfl rfl ?_
 refine aP 16 rfl (pA rfl) rfl rfl ?_
 refine aO (j := 17) (by kernel_rfl) ?_
 refine oT rfl rfl rfl rfl rfl rfl rfl ?_
 refine aP 18 rfl (pA rfl) rfl rfl ?_
 refine aD (by kernel_rfl) ?_
 refine nS ?_
 (refine ret_freeze Pk.here (fun G5 hle5 hsl5 hno5 => ?_))
 refine tT (rB (rS (rF3 (rT rfl) (rC rfl (lBa rfl rfl)) (rT rfl) ?_)))
 (refine WtP.two hsl5 (tyInt_r _) (tyInt_r _) (tyInt_r _) ?_; rw [mW78 (by omega)]; first | (rw [if_pos ⟨by assumption, by assumption⟩, if_neg (by omega)]; rfl) | (rw [if_neg (fun hc => by first | exact Bool.noConfusion (hc.1.symm.trans (by assumption)) | exact Bool.noConfusion (hc.2.symm.trans (by assumption)) | exact Bool.noConfusion (hc.symm.trans (by assumption)))]; rfl))
 refine aP 15 rfl (pPt rfl rfl) rfl rfl ?_
 refine aP 16 rfl (pA rfl) rfl rfl ?_
 refine aO (j := 17) (by kernel_rfl) ?_
 refine oT rfl rfl rfl rfl rfl rfl rfl ?_
 refine aP 18 rfl (pA rfl) rfl rfl ?_
 refine aD (by kernel_rfl) ?_
 refine nS ?_
 (refine ret_freeze Pk.here (fun G5 hle5 hsl5 hno5 => ?_))
 refine tT (rB (rS (rF3 (rT rfl) (rC rfl (lBa rfl rfl)) (rT rfl) ?_)))
 (refine WtP.two hsl5 (tyInt_r _) (tyInt_r _) (tyInt_r _) ?_; rw [mW78 (by omega)]; first | (rw [if_pos ⟨by assumption, by assumption⟩, if_neg (by omega)]; rfl) | (rw [if_neg (fun hc => by first | exact Bool.noConfusion (hc.1.symm.trans (by assumption)) | exact Bool.noConfusion (hc.2.symm.trans (by assumption)) | exact Bool.noConfusion (hc.symm.trans (by assumption)))]; rfl))
 refine aP 9 rfl (pM rfl) rfl rfl ?_
 refine aK (i := 10) (l' := [tt,tt,tt,tt,tt,tt,tt,tt,tt,tt,tt,ff,ff,ff,ff,ff,ff,ff,ff]) rfl npI rfl (by kernel_rfl) rfl rfl ?_
 refine aK (i := 11) (l' := [tt,tt,tt,tt,tt,tt,tt,tt,tt,tt,tt,tt,ff,ff,ff,ff,ff,ff,ff]) rfl npI rfl (by kernel_rfl) rfl rfl ?_
 refine aK (i := 12) (l' := [tt,tt,tt,tt,tt,tt,tt,tt,tt,tt,tt,tt,tt,ff,ff,ff,ff,ff,ff]) rfl npI rfl (by kernel_rfl) rfl rfl ?_
 refine aK (i := 13) (l' := [tt,tt,tt,tt,tt,tt,tt,tt,tt,tt,tt,tt,tt,tt,ff,ff,ff,ff,ff]) rfl npI rfl (by kernel_rfl) rfl rfl ?_
 refine aK (i := 14) (l' := [tt,tt,tt,tt,tt,tt,tt,tt,tt,tt,tt,tt,tt,tt,tt,ff,ff,ff,ff]) rfl npI rfl (by kernel_rfl) rfl rfl ?_
 refine aP 15 rfl (pPf rfl rfl) rfl rfl ?_
 refine aP 16 rfl (pA rfl) rfl rfl ?_
 refine aO (j := 17) (by kernel_rfl) ?_
 refine oT rfl rfl rfl rfl rfl rfl rfl ?_
 refine aP 18 rfl (pA rfl) rfl rfl ?_
 refine aD (by kernel_rfl) ?_
 refine nS ?_
 (refine ret_freeze Pk.here (fun G5 hle5 hsl5 hno5 => ?_))
 refine tT (rB (rS (rF3 (rT rfl) (rC rfl (lBa rfl rfl)) (rT rfl) ?_)))
 (refine WtP.two hsl5 (tyInt_r _) (tyInt_r _) (tyInt_r _) ?_; rw [mW78 (by omega)]; first | (rw [if_pos ⟨by assumption, by assumption⟩, if_neg (by omega)]; rfl) | (rw [if_neg (fun hc => by first | exact Bool.noConfusion (hc.1.symm.trans (by assumption)) | exact Bool.noConfusion (hc.2.symm.trans (by assumption)) | exact Bool.noConfusion (hc.symm.trans (by assumption)))]; rfl))
 refine one_valb (l' := [tt,tt,ff,tt,tt,tt,tt,tt,tt,ff,ff,ff,ff,ff,ff,ff,ff,ff,ff]) rfl rfl ((consistent_fn _ _ _ _ _ hre0 (tyInt_r _))) rfl rfl rfl (fun h430 => ?_) (fun h430 => ?_)
 refine aP 9 rfl (pM rfl) rfl rfl ?_
 refine aP 10 rfl (pM rfl) rfl rfl ?_
 refine aP 11 rfl (pIN (j := 1) rfl rfl rfl (by omega)) rfl rfl ?_
 refine aL 12 rfl (load_a rfl rfl (hat1 _) rfl) rfl rfl ?_
 refine aL 13 rfl (lBa rfl rfl) rfl rfl ?_
 refine any_two (j := 2) (j' := 14) (by kernel_rfl) ?_ ?_
 (refine one_step0 (l' := [tt,tt,tt,tt,tt,tt,tt,tt,tt,tt,tt,tt,tt,tt,ff,ff,ff,ff,ff]) rfl (step_buildSlice rfl rfl rfl (by omega) (by unfold maxLen; omega) rfl) rfl rfl ?_; rintro _ ⟨b437, rfl⟩)
 refine aO (j := 14) (by kernel_rfl) ?_
 refine one_valb (l' := [tt,tt,tt,tt,tt,tt,tt,tt,tt,tt,tt,tt,tt,tt,tt,ff,ff,ff,ff]) rfl rfl ((consistent_fn _ _ _ _ _ hre1 (tyInt_r _))) rfl rfl rfl (fun h439 => ?_) (fun h439 => ?_)
 refine aP 15 rfl (pPt rfl rfl) rfl rfl ?_
 refine aP 16 rfl (pA rfl) rfl rfl ?_
 refine aO (j := 17) (by kernel_rfl) ?_
 refine oT rfl rfl rfl rfl rfl rfl rfl ?_
 refine aP 18 rfl (pA rfl) rfl rfl ?_
 refine aD (by kernel_rfl) ?_
 refine nS ?_
 (refine ret_freeze Pk.here (fun G5 hle5 hsl5 hno5 => ?_))
 refine tT (rB (rS (rF3 (rT rfl) (rC rfl (lBa rfl rfl)) (rT rfl) ?_)))
 (refine WtP.two hsl5 (tyInt_r _) (tyInt_r _) (tyInt_r _) ?_; rw [mW78 (by omega)]; first | (rw [if_pos ⟨by assumption, by assumption⟩, if_neg (by omega)]; rfl) | (rw [if_neg (fun hc => by first | exact Bool.noConfusion (hc.1.symm.trans (by assumption)) | exact Bool.noConfusion (hc.2.symm.trans (by assumption)) | exact Bool.noConfusion (hc.symm.trans (by assumption)))]; rfl))
 refine aP 15 rfl (pPt rfl rfl) rfl rfl ?_
 refine aP 16 rfl (pA rfl) rfl rfl ?_
 refine aO (j := 17) (by kernel_rfl) ?_
 refine oT rfl rfl rfl rfl rfl rfl rfl ?_
 refine aP 18 rfl (pA rfl) rfl rfl ?_
 refine aD (by kernel_rfl) ?_
 refine nS ?_
 (refine ret_freeze Pk.here (fun G5 hle5 hsl5 hno5 => ?_))
 refine tT (rB (rS (rF3 (rT rfl) (rC rfl (lBa rfl rfl)) (rT rfl) ?_)))
 (refine WtP.two hsl5 (tyInt_r _) (tyInt_r _) (tyInt_r _) ?_; rw [mW78 (by omega)]; first | (rw [if_pos ⟨by assumption, by assumption⟩, if_neg (by omega)]; rfl) | (rw [if_neg (fun hc => by first | exact Bool.noConfusion (hc.1.symm.trans (by assumption)) | exact Bool.noConfusion (hc.2.symm.trans (by assumption)) | exact Bool.noConfusion (hc.symm.trans (by assumption)))]; rfl))
 refine one_valb (l' := [tt,tt,ff,tt,tt,tt,tt,tt,tt,tt,tt,tt,tt,tt,tt,ff,ff,ff,ff]) rfl rfl ((consistent_fn _ _ _ _ _ hre1 (tyInt_r _))) rfl rfl rfl (fun h466 => ?_) (fun h466 => ?_)
 refine aP 15 rfl (pPt rfl rfl) rfl rfl ?_
 refine aO (j := 2) (by kernel_rfl) ?_
 (refine one_step0 (l' := [tt,tt,tt,tt,tt,tt,tt,tt,tt,tt,tt,tt,tt,tt,tt,tt,ff,ff,ff]) rfl (step_buildSlice rfl rfl rfl (by omega) (by unfold maxLen; omega) rfl) rfl rfl ?_; rintro _ ⟨b469, rfl⟩)
 refine aP 16 rfl (pA rfl) rfl rfl ?_
 refine aO (j := 17) (by kernel_rfl) ?_
 refine oT rfl rfl rfl rfl rfl rfl rfl ?_
 refine aP 18 rfl (pA rfl) rfl rfl ?_
 refine aD (by kernel_rfl) ?_
 refine nS ?_
 (refine ret_freeze Pk.here (fun G5 hle5 hsl5 hno5 => ?_))
 refine tT (rB (rS (rF3 (rT rfl) (rC rfl (lBa rfl rfl)) (rT rfl) ?_)))
 (refine WtP.two hsl5 (tyInt_r _) (tyInt_r _) (tyInt_r _) ?_; rw [mW78 (by omega)]; first | (rw [if_pos ⟨by assumption, by assumption⟩, if_neg (by omega)]; rfl) | (rw [if_neg (fun hc => by first | exact Bool.noConfusion (hc.1.symm.trans (by assumption)) | exact Bool.noConfusion (hc.2.symm.trans (by assumption)) | exact Bool.noConfusion (hc.symm.trans (by assumption)))]; rfl))
 refine aP 15 rfl (pPt rfl rfl) rfl rfl ?_
 refine aO (j := 2) (by kernel_rfl) ?_
 (refine one_step0 (l' := [tt,tt,tt,tt,tt,tt,tt,tt,tt,tt,tt,tt,tt,tt,tt,tt,ff,ff,ff]) rfl (step_buildSlice rfl rfl rfl (by omega) (by unfold maxLen; omega) rfl) rfl rfl ?_; rintro _ ⟨b484, rfl⟩)
 refine aP 16 rfl (pA rfl) rfl rfl ?_
 refine aO (j := 17) (by kernel_rfl) ?_
 refine oT rfl rfl rfl rfl rfl rfl rfl ?_
 refine aP 18 rfl (pA rfl) rfl rfl ?_
 refine aD (by kernel_rfl) ?_
 refine nS ?_
 (refine ret_freeze Pk.here (fun G5 hle5 hsl5 hno5 => ?_))
 refine tT (rB (rS (rF3 (rT rfl) (rC rfl (lBa rfl rfl)) (rT rfl) ?_)))
 (refine WtP.two hsl5 (tyInt_r _) (tyInt_r _) (tyInt_r _) ?_; rw [mW78 (by omega)]; first | (rw [if_pos ⟨by assumption, by assumption⟩, if_neg (by omega)]; rfl) | (rw [if_neg (fun hc => by first | exact Bool.noConfusion (hc.1.symm.trans (by assumption)) | exact Bool.noConfusion (hc.2.symm.trans (by assumption)) | exact Bool.noConfusion (hc.symm.trans (by assumption)))]; rfl))
 refine aP 9 rfl (pM rfl) rfl rfl ?_
 refine aK (i := 10) (l' := [tt,tt,ff,tt,tt,tt,tt,tt,tt,tt,tt,ff,ff,ff,ff,ff,ff,ff,ff]) rfl npI rfl (by kernel_rfl) rfl rfl ?_
 refine aK (i := 11) (l' := [tt,tt,ff,tt,tt,tt,tt,tt,tt,tt,tt,tt,ff,ff,ff,ff,ff,ff,ff]) rfl npI rfl (by kernel_rfl) rfl rfl ?_
 refine aK (i := 12) (l' := [tt,tt,ff,tt,tt,tt,tt,tt,tt,tt,tt,tt,tt,ff,ff,ff,ff,ff,ff]) rfl npI rfl (by kernel_rfl) rfl rfl ?_
 refine aK (i := 13) (l' := [tt,tt,ff,tt,tt,tt,tt,tt,tt,tt,tt,tt,tt,tt,ff,ff,ff,ff,ff]) rfl npI rfl (by kernel_rfl) rfl rfl ?_
 refine any_two (j := 2) (j' := 14) (by kernel_rfl) ?_ ?_
 (refine one_step0 (l' := [tt,tt,tt,tt,tt,tt,tt,tt,tt,tt,tt,tt,tt,tt,ff,ff,ff,ff,ff]) rfl (step_buildSlice rfl rfl rfl (by omega) (by unfold maxLen; omega) rfl) rfl rfl ?_; rintro _ ⟨b503, rfl⟩)
 refine aK (i := 14) (l' := [tt,tt,tt,tt,tt,tt,tt,tt,tt,tt,tt,tt,tt,tt,tt,ff,ff,ff,ff]) rfl npI rfl (by kernel_rfl) rfl rfl ?_
 refine aP 15 rfl (pPf rfl rfl) rfl rfl ?_
 refine aP 16 rfl (pA rfl) rfl rfl ?_
 refine aO (j := 17) (by kernel_rfl) ?_
 refine oT rfl rfl rfl rfl rfl rfl rfl ?_
 refine aP 18 rfl (pA rfl) rfl rfl ?_
 refine aD (by kernel_rfl) ?_
 refine nS ?_
 (refine ret_freeze Pk.here (fun G5 hle5 hsl5 hno5 => ?_))
 refine tT (rB (rS (rF3 (rT rfl) (rC rfl (lBa rfl rfl)) (rT rfl) ?_)))
 (refine WtP.two hsl5 (tyInt_r _) (tyInt_r _) (tyInt_r _) ?_; rw [mW78 (by omega)]; first | (rw [if_pos ⟨by assumption, by assumption⟩, if_neg (by omega)]; rfl) | (rw [if_neg (fun hc => by first | exact Bool.noConfusion (hc.1.symm.trans (by assumption)) | exact Bool.noConfusion (hc.2.symm.trans (by assumption)) | exact Bool.noConfusion (hc.symm.trans (by assumption)))]; rfl))
 refine one_skip (l' := [tt,tt,ff,tt,tt,tt,tt,tt,tt,tt,tt,tt,tt,tt,tt,ff,ff,ff,ff]) rfl rfl rfl rfl ?_
 refine aP 15 rfl (pPf rfl rfl) rfl rfl ?_
 refine aO (j := 2) (by kernel_rfl) ?_
 (refine one_step0 (l' := [tt,tt,tt,tt,tt,tt,tt,tt,tt,tt,tt,tt,tt,tt,tt,tt,ff,ff,ff]) rfl (step_buildSlice rfl rfl rfl (by omega) (by unfold maxLen; omega) rfl) rfl rfl ?_; rintro _ ⟨b521, rfl⟩)
 refine aP 16 rfl (pA rfl) rfl rfl ?_
 refine aO (j := 17) (by kernel_rfl) ?_
 refine oT rfl rfl rfl rfl rfl rfl rfl ?_
 refine aP 18 rfl (pA rfl) rfl rfl ?_
 refine aD (by kernel_rfl) ?_
 refine nS ?_
 (refine ret_freeze Pk.here (fun G5 hle5 hsl5 hno5 => ?_))
 refine tT (rB (rS (rF3 (rT rfl) (rC rfl (lBa rfl rfl)) (rT rfl) ?_)))
 (refine WtP.two hsl5 (tyInt_r _) (tyInt_r _) (tyInt_r _) ?_; rw [mW78 (by omega)]; first | (rw [if_pos ⟨by assumption, by assumption⟩, if_neg (by omega)]; rfl) | (rw [if_neg (fun hc => by first | exact Bool.noConfusion (hc.1.symm.trans (by assumption)) | exact Bool.noConfusion (hc.2.symm.trans (by assumption)) | exact Bool.noConfusion (hc.symm.trans (by assumption)))]; rfl))
 refine sP (pA rfl) rfl rfl (sD (nS (cF rfl ?_)))
 refine tR (sB (pE rfl rfl) rfl rfl (fun h539 => ?_) (fun h539 => ?_))
 refine sP (pA rfl) rfl rfl (sD (nS (cT rfl ?_)))
 refine tS (tR (sL (lBa rfl rfl) rfl rfl ?_))
 (refine seq_step (step_alloc rfl) rfl ?_; rintro _ ⟨b547, rfl⟩)
 refine sS rfl rfl rfl rfl rfl rfl ?_
 refine sD (nS (tS (tS (tR (sP (pF0 rfl) rfl rfl (sL (lBs rfl rfl) rfl rfl ?_))))))
 refine sP (pure_eql_t rfl rfl (by omega)) rfl rfl ?_
 refine sD (nS (cT rfl ?_))
 refine tR (sL (lBa rfl rfl) rfl rfl ?_)
 refine sS rfl rfl rfl rfl rfl rfl ?_
 refine sD (nS (tS ?_))
 (have hl2 : n = 2 := hop.1 (by omega); obtain ⟨b0, o0, q0, d0, hp0, hat0, hre0, hg0⟩ := hsl.kidD hkl (i := 0) (by omega) (by omega); obtain ⟨b1, o1, q1, d1, hp1, hat1, hre1, hg1⟩ := hsl.kidD hkl (i := 1) (by omega) (by omega); cases hp0; cases hp1; refine tri_draw mixed rfl ?_)
 refine any_load (i := 0) (l' := [tt,ff,ff,ff,ff,ff,ff,ff,ff,ff,ff,ff,ff,ff,ff,ff,ff,ff,ff]) rfl npI (lBa rfl rfl) rfl (by kernel_rfl) rfl rfl ?_
 refine aL 1 rfl (lBa rfl rfl) rfl rfl ?_
 refine aL 3 rfl (lBa rfl rfl) rfl rfl ?_
 refine aP 4 rfl (pM rfl) rfl rfl ?_
 refine aP 5 rfl (pIN (j := 0) rfl rfl rfl (by omega)) rfl rfl ?_
 refine aL 6 rfl (load_a rfl rfl (hat0 _) rfl) rfl rfl ?_
 refine aL 7 rfl (lBa rfl rfl) rfl rfl ?_
 refine any_two (j := 2) (j' := 8) (by kernel_rfl) ?_ ?_
 (refine one_step0 (l' := [tt,tt,tt,tt,tt,tt,tt,tt,ff,ff,ff,ff,ff,ff,ff,ff,ff,ff,ff]) rfl (step_buildSlice rfl rfl rfl (by omega) (by unfold maxLen; omega) rfl) rfl rfl ?_; rintro _ ⟨b575, rfl⟩)
 refine aO (j := 8) (by kernel_rfl) ?_
 refine one_valb (l' := [tt,tt,tt,tt,tt,tt,tt,tt,tt,ff,ff,ff,ff,ff,ff,ff,ff,ff,ff]) rfl rfl ((consistent_fn _ _ _ _ _ hre0 (tyInt_r _))) rfl rfl rfl (fun h577 => ?_) (fun h577 => ?_)
 refine aP 9 rfl (pM rfl) rfl rfl ?_
 refine aP 10 rfl (pM rfl) rfl rfl ?_
 refine aP 11 rfl (pIN (j := 1) rfl rfl rfl (by omega)) rfl rfl ?_
 refine aL 12 rfl (load_a rfl rfl (hat1 _) rfl) rfl rfl ?_
 refine aL 13 rfl (lBa rfl rfl) rfl rfl ?_
 refine aO (j := 14) (by kernel_rfl) ?_
 refine one_valb (l' := [tt,tt,tt,tt,tt,tt,tt,tt,tt,tt,tt,tt,tt,tt,tt,ff,ff,ff,ff]) rfl rfl ((consistent_fn _ _ _ _ _ hre1 (tyInt_r _))) rfl rfl rfl (fun h584 => ?_) (fun h584 => ?_)
 refine aP 15 rfl (pPt rfl rfl) rfl rfl ?_
 refine aP 16 rfl (pA rfl) rfl rfl ?_
 refine aO (j := 17) (by kernel_rfl) ?_
 refine oT rfl rfl rfl rfl rfl rfl rfl ?_
 refine aP 18 rfl (pA rfl) rfl rfl ?_
 refine aD (by kernel_rfl) ?_
 refine nS ?_
 (refine ret_freeze Pk.here (fun G5 hle5 hsl5 hno5 => ?_))
 refine tT (rB (rS (rF3 (rT rfl) (rC rfl (lBa rfl rfl)) (rT rfl) ?_)))
 (refine WtP.two hsl5 (tyInt_r _) (tyInt_r _) (tyBool_r _) ?_; rw [mW78 (by omega)]; first | (rw [if_pos ⟨by assumption, by assumption⟩, if_pos (by omega)]; rfl) | (rw [if_neg (fun hc => by first | exact Bool.noConfusion (hc.1.symm.trans (by assumption)) | exact Bool.noConfusion (hc.2.symm.trans (by assumption)) | exact Bool.noConfusion (hc.symm.trans (by assumption)))]; rfl))
 refine aP 15 rfl (pPt rfl rfl) rfl rfl ?_
 refine aP 16 rfl (pA rfl) rfl rfl ?_
 refine aO (j := 17) (by kernel_rfl) ?_
 refine oT rfl rfl rfl rfl rfl rfl rfl ?_
 refine aP 18 rfl (pA rfl) rfl rfl ?_
 refine aD (by kernel_rfl) ?_
 refine nS ?_
 (refine ret_freeze Pk.here (fun G5 hle5 hsl5 hno5 => ?_))
 refine tT (rB (rS (rF3 (rT rfl) (rC rfl (lBa rfl rfl)) (rT rfl) ?_)))
 (refine WtP.two hsl5 (tyInt_r _) (tyInt_r _) (tyBool_r _) ?_; rw [mW78 (by omega)]; first | (rw [if_pos ⟨by assumption, by assumption⟩, if_pos (by omega)]; rfl) | (rw [if_neg (fun hc => by first | exact Bool.noConfusion (hc.1.symm.trans (by assumption)) | exact Bool.noConfusion (hc.2.symm.trans (by assumption)) | exact Bool.noConfusion (hc.symm.trans (by assumption)))]; rfl))
 refine aP 9 rfl (pM rfl) rfl rfl ?_
 refine aK (i := 10) (l' := [tt,tt,tt,tt,tt,tt,tt,tt,tt,tt,tt,ff,ff,ff,ff,ff,ff,ff,ff]) rfl npI rfl (by kernel_rfl) rfl rfl ?_
 refine aK (i := 11) (l' := [tt,tt,tt,tt,tt,tt,tt,tt,tt,tt,tt,tt,ff,ff,ff,ff,ff,ff,ff]) rfl npI rfl (by kernel_rfl) rfl rfl ?_
 refine aK (i := 12) (l' := [tt,tt,tt,tt,tt,tt,tt,tt,tt,tt,tt,tt,tt,ff,ff,ff,ff,ff,ff]) rfl npI rfl (by kernel_rfl) rfl rfl ?_
 refine aK (i := 13) (l' := [tt,tt,tt,tt,tt,tt,tt,tt,tt,tt,tt,tt,tt,tt,ff,ff,ff,ff,ff]) rfl npI rfl (by kernel_rfl) rfl rfl ?_
 refine aK (i := 14) (l' := [tt,tt,tt,tt,tt,tt,tt,tt,tt,tt,tt,tt,tt,tt,tt,ff,ff,ff,ff]) rfl npI rfl (by kernel_rfl) rfl rfl ?_
 refine aP 15 rfl (pPf rfl rfl) rfl rfl ?_
 refine aP 16 rfl (pA rfl) rfl rfl ?_
 refine aO (j := 17) (by kernel_rfl) ?_
 refine oT rfl rfl rfl rfl rfl rfl rfl ?_
 refine aP 18 rfl (pA rfl) rfl rfl ?_
 refine aD (by kernel_rfl) ?_
 refine nS ?_
 (refine ret_freeze Pk.here (fun G5 hle5 hsl5 hno5 => ?_))
 refine tT (rB (rS (rF3 (rT rfl) (rC rfl (lBa rfl rfl)) (rT rfl) ?_)))
 (refine WtP.two hsl5 (tyInt_r _) (tyInt_r _) (tyBool_r _) ?_; rw [mW78 (by omega)]; first | (rw [if_pos ⟨by assumption, by assumption⟩, if_pos (by omega)]; rfl) | (rw [if_neg (fun hc => by first | exact Bool.noConfusion (hc.1.symm.trans (by assumption)) | exact Bool.noConfusion (hc.2.symm.trans (by assumption)) | exact Bool.noConfusion (hc.symm.trans (by assumption)))]; rfl))
 refine one_valb (l' := [tt,tt,ff,tt,tt,tt,tt,tt,tt,ff,ff,ff,ff,ff,ff,ff,ff,ff,ff]) rfl rfl ((consistent_fn _ _ _ _ _ hre0 (tyInt_r _))) rfl rfl rfl (fun h630 => ?_) (fun h630 => ?_)
 refine aP 9 rfl (pM rfl) rfl rfl ?_
 refine aP 10 rfl (pM rfl) rfl rfl ?_
 refine aP 11 rfl (pIN (j := 1) rfl rfl rfl (by omega)) rfl rfl ?_
 refine aL 12 rfl (load_a rfl rfl (hat1 _) rfl) rfl rfl ?_
 refine aL 13 rfl (lBa rfl rfl) rfl rfl ?_
 refine any_two (j := 2) (j' := 14) (by kernel_rfl) ?_ ?_
 (refine one_step0 (l' := [tt,tt,tt,tt,tt,tt,tt,tt,tt,tt,tt,tt,tt,tt,ff,ff,ff,ff,ff]) rfl (step_buildSlice rfl rfl rfl (by omega) (by unfold maxLen; omega) rfl) rfl rfl ?_; rintro _ ⟨b637, rfl⟩)
 refine aO (j := 14) (by kernel_rfl) ?_
 refine one_valb (l' := [tt,tt,tt,tt,tt,tt,tt,tt,tt,tt,tt,tt,tt,tt,tt,ff,ff,ff,ff]) rfl rfl ((consistent_fn _ _ _ _ _ hre1 (tyInt_r _))) rfl rfl rfl (fun h639 => ?_) (fun h639 => ?_)
 refine aP 15 rfl (pPt rfl rfl) rfl rfl ?_
 refine aP 16 rfl (pA rfl) rfl rfl ?_
 refine aO (j := 17) (by kernel_rfl) ?_
 refine oT rfl rfl rfl rfl rfl rfl rfl ?_
 refine aP 18 rfl (pA rfl) rfl rfl ?_
 refine aD (by kernel_rfl) ?_
 refine nS ?_
 (refine ret_freeze Pk.here (fun G5 hle5 hsl5 hno5 => ?_))
 refine tT (rB (rS (rF3 (rT rfl) (rC rfl (lBa rfl rfl)) (rT rfl) ?_)))
 (refine WtP.two hsl5 (tyInt_r _) (tyInt_r _) (tyBool_r _) ?_; rw [mW78 (by omega)]; first | (rw [if_pos ⟨by assumption, by assumption⟩, if_pos (by omega)]; rfl) | (rw [if_neg (fun hc => by first | exact Bool.noConfusion (hc.1.symm.trans (by assumption)) | exact Bool.noConfusion (hc.2.symm.trans (by assumption)) | exact Bool.noConfusion (hc.symm.trans (by assumption)))]; rfl))
 refine aP 15 rfl (pPt rfl rfl) rfl rfl ?_
 refine aP 16 rfl (pA rfl) rfl rfl ?_
 refine aO (j := 17) (by kernel_rfl) ?_
 refine oT rfl rfl rfl rfl rfl rfl rfl ?_
 refine aP 18 rfl (pA rfl) rfl rfl ?_
 refine aD (by kernel_rfl) ?_
 refine nS ?_
 (refine ret_freeze Pk.here (fun G5 hle5 hsl5 hno5 => ?_))
 refine tT (rB (rS (rF3 (rT rfl) (rC rfl (lBa rfl rfl)) (rT rfl) ?_)))
 (refine WtP.two hsl5 (tyInt_r _) (tyInt_r _) (tyBool_r _) ?_; rw [mW78 (by omega)]; first | (rw [if_pos ⟨by assumption, by assumption⟩, if_pos (by omega)]; rfl) | (rw [if_neg (fun hc => by first | exact Bool.noConfusion (hc.1.symm.trans (by assumption)) | exact Bool.noConfusion (hc.2.symm.trans (by assumption)) | exact Bool.noConfusion (hc.symm.trans (by assumption)))]; rfl))
 refine one_valb (l' := [tt,tt,ff,tt,tt,tt,tt,tt,tt,tt,tt,tt,tt,tt,tt,ff,ff,ff,ff]) rfl rfl ((consistent_fn _ _ _ _ _ hre1 (tyInt_r _))) rfl rfl rfl (fun h666 => ?_) (fun h666 => ?_)
 refine aP 15 rfl (pPt rfl rfl) rfl rfl ?_
 refine aO (j := 2) (by kernel_rfl) ?_
 (refine one_step0 (l' := [tt,tt,tt,tt,tt,tt,tt,tt,tt,tt,tt,tt,tt,tt,tt,tt,ff,ff,ff]) rfl (step_buildSlice rfl rfl rfl (by omega) (by unfold maxLen; omega) rfl) rfl rfl ?_; rintro _ ⟨b669, rfl⟩)
 refine aP 16 rfl (pA rfl) rfl rfl ?_
 refine aO (j := 17) (by kernel_rfl) ?_
 refine oT rfl rfl rfl rfl rfl rfl rfl ?_
 refine aP 18 rfl (pA rfl) rfl rfl ?_
 refine aD (by kernel_rfl) ?_
 refine nS ?_
 (refine ret_freeze Pk.here (fun G5 hle5 hsl5 hno5 => ?_))
 refine tT (rB (rS (rF3 (rT rfl) (rC rfl (lBa rfl rfl)) (rT rfl) ?_)))
 (refine WtP.two hsl5 (tyInt_r _) (tyInt_r _) (tyBool_r _) ?_; rw [mW78 (by omega)]; first | (rw [if_pos ⟨by assumption, by assumption⟩, if_pos (by omega)]; rfl) | (rw [if_neg (fun hc => by first | exact Bool.noConfusion (hc.1.symm.trans (by assumption)) | exact Bool.noConfusion (hc.2.symm.trans (by assumption)) | exact Bool.noConfusion (hc.symm.trans (by assumption)))]; rfl))
 refine aP 15 rfl (pPt rfl rfl) rfl rfl ?_
 refine aO (j := 2) (by kernel_rfl) ?_
 (refine one_step0 (l' := [tt,tt,tt,tt,tt,tt,tt,tt,tt,tt,tt,tt,tt,tt,tt,tt,ff,ff,ff]) rfl (step_buildSlice rfl rfl rfl (by omega) (by unfold maxLen; omega) rfl) rfl rfl ?_; rintro _ ⟨b684, rfl⟩)
 refine aP 16 rfl (pA rfl) rfl rfl ?_
 refine aO (j := 17) (by kernel_rfl) ?_
 refine oT rfl rfl rfl rfl rfl rfl rfl ?_
 refine aP 18 rfl (pA rfl) rfl rfl ?_
 refine aD (by kernel_rfl) ?_
 refine nS ?_
 (refine ret_freeze Pk.here (fun G5 hle5 hsl5 hno5 => ?_))
 refine tT (rB (rS (rF3 (rT rfl) (rC rfl (lBa rfl rfl)) (rT rfl) ?_)))
 (refine WtP.two hsl5 (tyInt_r _) (tyInt_r _) (tyBool_r _) ?_; rw [mW78 (by omega)]; first | (rw [if_pos ⟨by assumption, by assumption⟩, if_pos (by omega)]; rfl) | (rw [if_neg (fun hc => by first | exact Bool.noConfusion (hc.1.symm.trans (by assumption)) | exact Bool.noConfusion (hc.2.symm.trans (by assumption)) | exact Bool.noConfusion (hc.symm.trans (by assumption)))]; rfl))
 refine aP 9 rfl (pM rfl) rfl rfl ?_
 refine aK (i := 10) (l' := [tt,tt,ff,tt,tt,tt,tt,tt,tt,tt,tt,ff,ff,ff,ff,ff,ff,ff,ff]) rfl npI rfl (by kernel_rfl) rfl rfl ?_
 refine aK (i := 11) (l' := [tt,tt,ff,tt,tt,tt,tt,tt,tt,tt,tt,tt,ff,ff,ff,ff,ff,ff,ff]) rfl npI rfl (by kernel_rfl) rfl rfl ?_
 refine aK (i := 12) (l' := [tt,tt,ff,tt,tt,tt,tt,tt,tt,tt,tt,tt,tt,ff,ff,ff,ff,ff,ff]) rfl npI rfl (by kernel_rfl) rfl rfl ?_
 refine aK (i := 13) (l' := [tt,tt,ff,tt,tt,tt,tt,tt,tt,tt,tt,tt,tt,tt,ff,ff,ff,ff,ff]) rfl npI rfl (by kernel_rfl) rfl rfl ?_
 refine any_two (j := 2) (j' := 14) (by kernel_rfl) ?_ ?_
 (refine one_step0 (l' := [tt,tt,tt,tt,tt,tt,tt,tt,tt,tt,tt,tt,tt,tt,ff,ff,ff,ff,ff]) rfl (step_buildSlice rfl rfl rfl (by omega) (by unfold maxLen; omega) rfl) rfl rfl ?_; rintro _ ⟨b703, rfl⟩)
 refine aK (i := 14) (l' := [tt,tt,tt,tt,tt,tt,tt,tt,tt,tt,tt,tt,tt,tt,tt,ff,ff,ff,ff]) rfl npI rfl (by kernel_rfl) rfl rfl ?_
 refine aP 15 rfl (pPf rfl rfl) rfl rfl ?_
 refine aP 16 rfl (pA rfl) rfl rfl ?_
 refine aO (j := 17) (by kernel_rfl) ?_
 refine oT rfl rfl rfl rfl rfl rfl rfl ?_
 refine aP 18 rfl (pA rfl) rfl rfl ?_
 refine aD (by kernel_rfl) ?_
 refine nS ?_
 (refine ret_freeze Pk.here (fun G5 hle5 hsl5 hno5 => ?_))
 refine tT (rB (rS (rF3 (rT rfl) (rC rfl (lBa rfl rfl)) (rT rfl) ?_)))
 (refine WtP.two hsl5 (tyInt_r _) (tyInt_r _) (tyBool_r _) ?_; rw [mW78 (by omega)]; first | (rw [if_pos ⟨by assumption, by assumption⟩, if_pos (by omega)]; rfl) | (rw [if_neg (fun hc => by first | exact Bool.noConfusion (hc.1.symm.trans (by assumption)) | exact Bool.noConfusion (hc.2.symm.trans (by assumption)) | exact Bool.noConfusion (hc.symm.trans (by assumption)))]; rfl))
 refine one_skip (l' := [tt,tt,ff,tt,tt,tt,tt,tt,tt,tt,tt,tt,tt,tt,tt,ff,ff,ff,ff]) rfl rfl rfl rfl ?_
 refine aP 15 rfl (pPf rfl rfl) rfl rfl ?_
 refine aO (j := 2) (by kernel_rfl) ?_
 (refine one_step0 (l' := [tt,tt,tt,tt,tt,tt,tt,tt,tt,tt,tt,tt,tt,tt,tt,tt,ff,ff,ff]) rfl (step_buildSlice rfl rfl rfl (by omega) (by unfold maxLen; omega) rfl) rfl rfl ?_; rintro _ ⟨b721, rfl⟩)
 refine aP 16 rfl (pA rfl) rfl rfl ?_
 refine aO (j := 17) (by kernel_rfl) ?_
 refine oT rfl rfl rfl rfl rfl rfl rfl ?_
 refine aP 18 rfl (pA rfl) rfl rfl ?_
 refine aD (by kernel_rfl) ?_
 refine nS ?_
 (refine ret_freeze Pk.here (fun G5 hle5 hsl5 hno5 => ?_))
 refine tT (rB (rS (rF3 (rT rfl) (rC rfl (lBa rfl rfl)) (rT rfl) ?_)))
 (refine WtP.two hsl5 (tyInt_r _) (tyInt_r _) (tyBool_r _) ?_; rw [mW78 (by omega)]; first | (rw [if_pos ⟨by assumption, by assumption⟩, if_pos (by omega)]; rfl) | (rw [if_neg (fun hc => by first | exact Bool.noConfusion (hc.1.symm.trans (by assumption)) | exact Bool.noConfusion (hc.2.symm.trans (by assumption)) | exact Bool.noConfusion (hc.symm.trans (by assumption)))]; rfl))
 refine sP (pA rfl) rfl rfl (sD (nS (cF rfl ?_)))
 refine tS (tR (sB (pE rfl rfl) rfl rfl (fun h740 => ?_) (fun h740 => ?_)))
 refine sP (pA rfl) rfl rfl (sD (nS (cT rfl ?_)))
 refine tS (tS ?_)
 (have hl3 : n = 3 := hop.2.1 (by omega); obtain ⟨b0, o0, q0, d0, hp0, hat0, hre0, hg0⟩ := hsl.kidD hkl (i := 0) (by omega) (by omega); obtain ⟨b1, o1, q1, d1, hp1, hat1, hre1, hg1⟩ := hsl.kidD hkl (i := 1) (by omega) (by omega); cases hp0; cases hp1; obtain ⟨b2, o2, q2, d2, hp2, hat2, hre2, hg2⟩ := hsl.kidD hkl (i := 2) (by omega) (by omega); cases hp2; refine tri_draw mixed rfl ?_)
 refine any_pure (i := 0) (l' := [tt,ff,ff,ff,ff,ff,ff,ff,ff,ff,ff,ff,ff,ff,ff,ff]) rfl npI (pM rfl) rfl (by kernel_rfl) rfl rfl ?_
 refine aP 1 rfl (pIN (j := 0) rfl rfl rfl (by omega)) rfl rfl ?_
 refine aL 2 rfl (load_a rfl rfl (hat0 _) rfl) rfl rfl ?_
 refine aL 3 rfl (lBa rfl rfl) rfl rfl ?_
 refine aO (j := 4) (by kernel_rfl) ?_
 refine one_valb (l' := [tt,tt,tt,tt,tt,ff,ff,ff,ff,ff,ff,ff,ff,ff,ff,ff]) rfl rfl ((consistent_fn _ _ _ _ _ hre0 (tyBool_r _))) rfl rfl rfl (fun h753 => ?_) (fun h753 => ?_)
 refine aP 5 rfl (pNt rfl) rfl rfl ?_
 refine aP 6 rfl (pM rfl) rfl rfl ?_
 refine aP 7 rfl (pM rfl) rfl rfl ?_
 refine aP 8 rfl (pIN (j := 1) rfl rfl rfl (by omega)) rfl rfl ?_
 refine aL 9 rfl (load_a rfl rfl (hat1 _) rfl) rfl rfl ?_
 refine aP 10 rfl (pM rfl) rfl rfl ?_
 refine aP 11 rfl (pIN (j := 2) rfl rfl rfl (by omega)) rfl rfl ?_
 refine aL 12 rfl (load_a rfl rfl (hat2 _) rfl) rfl rfl ?_
 refine aO (j := 13) (by kernel_rfl) ?_
 refine one_valb (l' := [tt,tt,tt,tt,tt,tt,tt,tt,tt,tt,tt,tt,tt,tt,ff,ff]) rfl rfl ((consistent_fn _ _ _ _ _ hre1 hre2)) rfl rfl rfl (fun h763 => ?_) (fun h763 => ?_)
 refine aP 14 rfl (pNt rfl) rfl rfl ?_
 refine aP 15 rfl (pPf rfl rfl) rfl rfl ?_
 refine aD (by kernel_rfl) ?_
 refine nS (cF rfl ?_)
 refine tK (nS (tS ?_))
 (have hl3 : n = 3 := hop.2.1 (by omega); obtain ⟨b0, o0, q0, d0, hp0, hat0, hre0, hg0⟩ := hsl.kidD hkl (i := 0) (by omega) (by omega); obtain ⟨b1, o1, q1, d1, hp1, hat1, hre1, hg1⟩ := hsl.kidD hkl (i := 1) (by omega) (by omega); cases hp0; cases hp1; obtain ⟨b2, o2, q2, d2, hp2, hat2, hre2, hg2⟩ := hsl.kidD hkl (i := 2) (by omega) (by omega); cases hp2; refine tri_draw mixed rfl ?_)
 refine any_pure (i := 0) (l' := [tt,ff,ff,ff,ff,ff,ff,ff,ff]) rfl npI (pM rfl) rfl (by kernel_rfl) rfl rfl ?_
 refine aP 1 rfl (pIN (j := 1) rfl rfl rfl (by omega)) rfl rfl ?_
 refine aL 2 rfl (load_a rfl rfl (hat1 _) rfl) rfl rfl ?_
 refine aP 3 rfl (pM rfl) rfl rfl ?_
 refine aP 4 rfl (pIN (j := 2) rfl rfl rfl (by omega)) rfl rfl ?_
 refine aL 5 rfl (load_a rfl rfl (hat2 _) rfl) rfl rfl ?_
 refine any_two (j := 6) (j' := 7) (by kernel_rfl) ?_ ?_
 (refine one_imm (l' := [tt,tt,tt,tt,tt,tt,tt,ff,ff]) rfl rfl (meet_fn _ _ _ _ _ (by assumption) (getD_ar har (by omega)) (getD_ar har (by omega)) hre1 hre2) rfl rfl rfl (fun v GM hleM hh => ?_); obtain ⟨cM, rfl, hrM⟩ := hh; obtain ⟨p7, c7, e7, rfl, _⟩ := hrM.open)
 refine aO (j := 7) (by kernel_rfl) ?_
 (refine one_step0 (l' := [tt,tt,tt,tt,tt,tt,tt,tt,ff]) rfl (step_alloc rfl) rfl rfl ?_; rintro _ ⟨b782, rfl⟩)
 refine aO (j := 8) (by kernel_rfl) ?_
 refine oT rfl rfl rfl rfl rfl rfl rfl ?_
 refine aD (by kernel_rfl) ?_
 refine nS (tS ?_)
 (have hl3 : n = 3 := hop.2.1 (by omega); obtain ⟨b0, o0, q0, d0, hp0, hat0, hre0, hg0⟩ := hsl.kidD hkl (i := 0) (by omega) (by omega); obtain ⟨b1, o1, q1, d1, hp1, hat1, hre1, hg1⟩ := hsl.kidD hkl (i := 1) (by omega) (by omega); cases hp0; cases hp1; obtain ⟨b2, o2, q2, d2, hp2, hat2, hre2, hg2⟩ := hsl.kidD hkl (i := 2) (by omega) (by omega); cases hp2; refine tri_draw mixed rfl ?_)
 refine any_load (i := 0) (l' := [tt,ff,ff,ff,ff,ff,ff,ff]) rfl npI (lBa rfl rfl) rfl (by kernel_rfl) rfl rfl ?_
 refine aL 1 rfl (lBa rfl rfl) rfl rfl ?_
 refine aL 2 rfl (lBa rfl rfl) rfl rfl ?_
 refine aL 4 rfl (lBa rfl rfl) rfl rfl ?_
 refine aO (j := 3) (by kernel_rfl) ?_
 (refine one_step0 (l' := [tt,tt,tt,tt,tt,ff,ff,ff]) rfl (step_buildSlice rfl rfl rfl (by omega) (by unfold maxLen; omega) rfl) rfl rfl ?_; rintro _ ⟨b794, rfl⟩)
 refine aP 5 rfl (pA rfl) rfl rfl ?_
 refine aO (j := 6) (by kernel_rfl) ?_
 refine oT rfl rfl rfl rfl rfl rfl rfl ?_
 refine aP 7 rfl (pA rfl) rfl rfl ?_
 refine aD (by kernel_rfl) ?_
 refine nS ?_
 (refine ret_freeze Pk.here (fun G5 hle5 hsl5 hno5 => ?_))
 refine tT (rB (rS (rF3 (rT rfl) (rC rfl (lBa rfl rfl)) (rT rfl) ?_)))
 (have hk1 : k = 9 := (by omega); subst hk1; exact WtP.three hsl5 (tyBool_r _) (hrM.mono hle5) (hrM.mono hle5) (hrM.mono hle5) (by rw [mW9, if_pos ⟨by assumption, by assumption⟩]; rfl))
 (refine one_step0 (l' := [tt,tt,tt,tt,tt,tt,ff,tt,ff]) rfl (step_alloc rfl) rfl rfl ?_; rintro _ ⟨b807, rfl⟩)
 refine aO (j := 6) (by kernel_rfl) ?_
 (refine one_imm (l' := [tt,tt,tt,tt,tt,tt,tt,tt,ff]) rfl rfl (meet_fn _ _ _ _ _ (by assumption) (getD_ar har (by omega)) (getD_ar har (by omega)) hre1 hre2) rfl rfl rfl (fun v GM hleM hh => ?_); obtain ⟨cM, rfl, hrM⟩ := hh; obtain ⟨p7, c7, e7, rfl, _⟩ := hrM.open)
 refine aO (j := 8) (by kernel_rfl) ?_
 refine oT rfl rfl rfl rfl rfl rfl rfl ?_
 refine aD (by kernel_rfl) ?_
 refine nS (tS ?_)
 (have hl3 : n = 3 := hop.2.1 (by omega); obtain ⟨b0, o0, q0, d0, hp0, hat0, hre0, hg0⟩ := hsl.kidD hkl (i := 0) (by omega) (by omega); obtain ⟨b1, o1, q1, d1, hp1, hat1, hre1, hg1⟩ := hsl.kidD hkl (i := 1) (by omega) (by omega); cases hp0; cases hp1; obtain ⟨b2, o2, q2, d2, hp2, hat2, hre2, hg2⟩ := hsl.kidD hkl (i := 2) (by omega) (by omega); cases hp2; refine tri_draw mixed rfl ?_)
 refine any_load (i := 0) (l' := [tt,ff,ff,ff,ff,ff,ff,ff]) rfl npI (lBa rfl rfl) rfl (by kernel_rfl) rfl rfl ?_
 refine aL 1 rfl (lBa rfl rfl) rfl rfl ?_
 refine aL 2 rfl (lBa rfl rfl) rfl rfl ?_
 refine aL 4 rfl (lBa rfl rfl) rfl rfl ?_
 refine aO (j := 3) (by kernel_rfl) ?_
 (refine one_step0 (l' := [tt,tt,tt,tt,tt,ff,ff,ff]) rfl (step_buildSlice rfl rfl rfl (by omega) (by unfold maxLen; omega) rfl) rfl rfl ?_; rintro _ ⟨b821, rfl⟩)
 refine aP 5 rfl (pA rfl) rfl rfl ?_
 refine aO (j := 6) (by kernel_rfl) ?_
 refine oT rfl rfl rfl rfl rfl rfl rfl ?_
 refine aP 7 rfl (pA rfl) rfl rfl ?_
 refine aD (by kernel_rfl) ?_
 refine nS ?_
 (refine ret_freeze Pk.here (fun G5 hle5 hsl5 hno5 => ?_))
 refine tT (rB (rS (rF3 (rT rfl) (rC rfl (lBa rfl rfl)) (rT rfl) ?_)))
 (have hk1 : k = 9 := (by omega); subst hk1; exact WtP.three hsl5 (tyBool_r _) (hrM.mono hle5) (hrM.mono hle5) (hrM.mono hle5) (by rw [mW9, if_pos ⟨by assumption, by assumption⟩]; rfl))
 refine aP 14 rfl (pNf rfl) rfl rfl ?_
 refine aP 15 rfl (pPf rfl rfl) rfl rfl ?_
 refine aD (by kernel_rfl) ?_
 refine nS (cT rfl ?_)
 refine tS (tR (sP (pBd rfl rfl) rfl rfl (sP (pA rfl) rfl rfl (sS rfl rfl rfl rfl rfl rfl ?_))))
 refine sP (pA rfl) rfl rfl (sD (nS (tT (rS (rB (rS ?_))))))
 refine rF3 (rT rfl) (rC rfl (lBa rfl rfl)) (rT rfl) ?_
 (have hk1 : k = 9 := (by omega); subst hk1; exact WtP.nil (u := ty0) (tyLeaf_r _ ⟨by omega, by omega⟩) (by rw [mW9, if_neg (fun hc => by first | exact Bool.noConfusion (hc.1.symm.trans (by assumption)) | exact Bool.noConfusion (hc.2.symm.trans (by assumption)) | exact Bool.noConfusion (hc.symm.trans (by assumption)))]; rfl))
 refine aP 5 rfl (pNf rfl) rfl rfl ?_
 refine aP 6 rfl (pM rfl) rfl rfl ?_
 refine aK (i := 7) (l' := [tt,tt,tt,tt,tt,tt,tt,tt,ff,ff,ff,ff,ff,ff,ff,ff]) rfl npI rfl (by kernel_rfl) rfl rfl ?_
 refine aK (i := 8) (l' := [tt,tt,tt,tt,tt,tt,tt,tt,tt,ff,ff,ff,ff,ff,ff,ff]) rfl npI rfl (by kernel_rfl) rfl rfl ?_
 refine aK (i := 9) (l' := [tt,tt,tt,tt,tt,tt,tt,tt,tt,tt,ff,ff,ff,ff,ff,ff]) rfl npI rfl (by kernel_rfl) rfl rfl ?_
 refine aK (i := 10) (l' := [tt,tt,tt,tt,tt,tt,tt,tt,tt,tt,tt,ff,ff,ff,ff,ff]) rfl npI rfl (by kernel_rfl) rfl rfl ?_
 refine aK (i := 11) (l' := [tt,tt,tt,tt,tt,tt,tt,tt,tt,tt,tt,tt,ff,ff,ff,ff]) rfl npI rfl (by kernel_rfl) rfl rfl ?_
 refine aK (i := 12) (l' := [tt,tt,tt,tt,tt,tt,tt,tt,tt,tt,tt,tt,tt,ff,ff,ff]) rfl npI rfl (by kernel_rfl) rfl rfl ?_
 refine aK (i := 13) (l' := [tt,tt,tt,tt,tt,tt,tt,tt,tt,tt,tt,tt,tt,tt,ff,ff]) rfl npI rfl (by kernel_rfl) rfl rfl ?_
 refine aK (i := 14) (l' := [tt,tt,tt,tt,tt,tt,tt,tt,tt,tt,tt,tt,tt,tt,tt,ff]) rfl npI rfl (by kernel_rfl) rfl rfl ?_
 refine aP 15 rfl (pPt rfl rfl) rfl rfl ?_
 refine aD (by kernel_rfl) ?_
 refine nS (cT rfl ?_)
 refine tS (tR (sP (pBd rfl rfl) rfl rfl (sP (pA rfl) rfl rfl (sS rfl rfl rfl rfl rfl rfl ?_))))
 refine sP (pA rfl) rfl rfl (sD (nS (tT (rS (rB (rS ?_))))))
 refine rF3 (rT rfl) (rC rfl (lBa rfl rfl)) (rT rfl) ?_
 (have hk1 : k = 9 := (by omega); subst hk1; exact WtP.nil (u := ty0) (tyLeaf_r _ ⟨by omega, by omega⟩) (by rw [mW9, if_neg (fun hc => by first | exact Bool.noConfusion (hc.1.symm.trans (by assumption)) | exact Bool.noConfusion (hc.2.symm.trans (by assumption)) | exact Bool.noConfusion (hc.symm.trans (by assumption)))]; rfl))
 refine sP (pA rfl) rfl rfl (sD (nS (cF rfl ?_)))
 refine tS (tR (sB (pE rfl rfl) rfl rfl (fun h887 => ?_) (fun h887 => ?_)))
 refine sP (pA rfl) rfl rfl (sD (nS (cT rfl ?_)))
 refine tS ?_
 (have hl2 : n = 2 := hop.1 (by omega); obtain ⟨b0, o0, q0, d0, hp0, hat0, hre0, hg0⟩ := hsl.kidD hkl (i := 0) (by omega) (by omega); obtain ⟨b1, o1, q1, d1, hp1, hat1, hre1, hg1⟩ := hsl.kidD hkl (i := 1) (by omega) (by omega); cases hp0; cases hp1; refine tri_draw mixed rfl ?_)
 refine any_pure (i := 0) (l' := [tt,ff,ff,ff,ff,ff,ff,ff,ff,ff]) rfl npI (pM rfl) rfl (by kernel_rfl) rfl rfl ?_
 refine aP 1 rfl (pIN (j := 0) rfl rfl rfl (by omega)) rfl rfl ?_
 refine aL 2 rfl (load_a rfl rfl (hat0 _) rfl) rfl rfl ?_
 refine aP 3 rfl (pM rfl) rfl rfl ?_
 refine aP 4 rfl (pIN (j := 1) rfl rfl rfl (by omega)) rfl rfl ?_
 refine aL 5 rfl (load_a rfl rfl (hat1 _) rfl) rfl rfl ?_
 refine aO (j := 6) (by kernel_rfl) ?_
 (refine one_imm (l' := [tt,tt,tt,tt,tt,tt,tt,ff,ff,ff]) rfl rfl (both_fn 5 _ _ _ _ _ ⟨by omega, by omega⟩ hre0 hre1) rfl rfl rfl (fun v GB hleB hh => ?_); obtain ⟨cB, rfl, hrB⟩ := hh; obtain ⟨p7, c7, e7, rfl, _⟩ := hrB.open)
 refine aP 7 rfl (pA rfl) rfl rfl ?_
 refine aO (j := 8) (by kernel_rfl) ?_
 refine oT rfl rfl rfl rfl rfl rfl rfl ?_
 refine aP 9 rfl (pA rfl) rfl rfl ?_
 refine aD (by kernel_rfl) ?_
 refine nS (tT (rB (rS (rF3 (rT rfl) (rC rfl (lBa rfl rfl)) (rT rfl) ?_))))
 (have hk1 : k = 10 := (by omega); subst hk1; exact WtP.nil hrB mW10)
 refine sP (pA rfl) rfl rfl (sD (nS (cF rfl ?_)))
 refine tS (tR (sB (pE rfl rfl) rfl rfl (fun h919 => ?_) (fun h919 => ?_)))
 refine sP (pA rfl) rfl rfl (sD (nS (cT rfl ?_)))
 refine tS ?_
 (have hl1 : n = 1 := hop.2.2 (by omega); obtain ⟨b0, o0, q0, d0, hp0, hat0, hre0, hg0⟩ := hsl.kidD hkl (i := 0) (by omega) (by omega); cases hp0; refine tri_draw mixed rfl ?_)
 refine any_pure (i := 0) (l' := [tt,ff,ff,ff,ff,ff,ff,ff,ff,ff,ff,ff,ff,ff]) rfl npI (pF0 rfl) rfl (by kernel_rfl) rfl rfl ?_
 refine aL 1 rfl (lBa rfl rfl) rfl rfl ?_
 refine aP 3 rfl (pF0 rfl) rfl rfl ?_
 refine aL 4 rfl (lBa rfl rfl) rfl rfl ?_
 refine aP 5 rfl (pM rfl) rfl rfl ?_
 refine aP 6 rfl (pIN (j := 0) rfl rfl rfl (by omega)) rfl rfl ?_
 refine aL 7 rfl (load_a rfl rfl (hat0 _) rfl) rfl rfl ?_
 refine aP 8 rfl (pF0 rfl) rfl rfl ?_
 refine aL 9 rfl (lBa rfl rfl) rfl rfl ?_
 refine any_two (j := 2) (j' := 10) (by kernel_rfl) ?_ ?_
 (refine one_step0 (l' := [tt,tt,tt,tt,tt,tt,tt,tt,tt,tt,ff,ff,ff,ff]) rfl (step_buildSlice rfl rfl rfl (by omega) (by unfold maxLen; omega) rfl) rfl rfl ?_; rintro _ ⟨b936, rfl⟩)
 refine aO (j := 10) (by kernel_rfl) ?_
 refine one_valb (l' := [tt,tt,tt,tt,tt,tt,tt,tt,tt,tt,tt,ff,ff,ff]) rfl rfl ((consistent_fn _ _ _ _ _ hre0 hrty)) rfl rfl rfl (fun h938 => ?_) (fun h938 => ?_)
 refine aP 11 rfl (pA rfl) rfl rfl ?_
 refine aO (j := 12) (by kernel_rfl) ?_
 refine oT rfl rfl rfl rfl rfl rfl rfl ?_
 refine aP 13 rfl (pA rfl) rfl rfl ?_
 refine aD (by kernel_rfl) ?_
 refine nS ?_
 (refine ret_freeze Pk.here (fun G5 hle5 hsl5 hno5 => ?_))
 refine tT (rB (rS (rF3 (rT rfl) (rC rfl (lBa rfl rfl)) (rT rfl) ?_)))
 (have hk1 : k = 13 := (by omega); subst hk1; refine WtP.one hsl5 (hrty.mono hle5) (hrty.mono hle5) ?_; rw [mW13]; split <;> first | rfl | (exfalso; simp_all; done))
 refine aP 11 rfl (pA rfl) rfl rfl ?_
 refine aO (j := 12) (by kernel_rfl) ?_
 refine oT rfl rfl rfl rfl rfl rfl rfl ?_
 refine aP 13 rfl (pA rfl) rfl rfl ?_
 refine aD (by kernel_rfl) ?_
 refine nS ?_
 (refine ret_freeze Pk.here (fun G5 hle5 hsl5 hno5 => ?_))
 refine tT (rB (rS (rF3 (rT rfl) (rC rfl (lBa rfl rfl)) (rT rfl) ?_)))
 (have hk1 : k = 13 := (by omega); subst hk1; refine WtP.one hsl5 (hrty.mono hle5) (hrty.mono hle5) ?_; rw [mW13]; split <;> first | rfl | (exfalso; simp_all; done))
 refine one_valb (l' := [tt,tt,ff,tt,tt,tt,tt,tt,tt,tt,tt,ff,ff,ff]) rfl rfl ((consistent_fn _ _ _ _ _ hre0 hrty)) rfl rfl rfl (fun h963 => ?_) (fun h963 => ?_)
 refine aO (j := 2) (by kernel_rfl) ?_
 (refine one_step0 (l' := [tt,tt,tt,tt,tt,tt,tt,tt,tt,tt,tt,ff,ff,ff]) rfl (step_buildSlice rfl rfl rfl (by omega) (by unfold maxLen; omega) rfl) rfl rfl ?_; rintro _ ⟨b965, rfl⟩)
 refine aP 11 rfl (pA rfl) rfl rfl ?_
 refine aO (j := 12) (by kernel_rfl) ?_
 refine oT rfl rfl rfl rfl rfl rfl rfl ?_
 refine aP 13 rfl (pA rfl) rfl rfl ?_
 refine aD (by kernel_rfl) ?_
 refine nS ?_
 (refine ret_freeze Pk.here (fun G5 hle5 hsl5 hno5 => ?_))
 refine tT (rB (rS (rF3 (rT rfl) (rC rfl (lBa rfl rfl)) (rT rfl) ?_)))
 (have hk1 : k = 13 := (by omega); subst hk1; refine WtP.one hsl5 (hrty.mono hle5) (hrty.mono hle5) ?_; rw [mW13]; split <;> first | rfl | (exfalso; simp_all; done))
 refine aO (j := 2) (by kernel_rfl) ?_
 (refine one_step0 (l' := [tt,tt,tt,tt,tt,tt,tt,tt,tt,tt,tt,ff,ff,ff]) rfl (step_buildSlice rfl rfl rfl (by omega) (by unfold maxLen; omega) rfl) rfl rfl ?_; rintro _ ⟨b979, rfl⟩)
 refine aP 11 rfl (pA rfl) rfl rfl ?_
 refine aO (j := 12) (by kernel_rfl) ?_
 refine oT rfl rfl rfl rfl rfl rfl rfl ?_
 refine aP 13 rfl (pA rfl) rfl rfl ?_
 refine aD (by kernel_rfl) ?_
 refine nS ?_
 (refine ret_freeze Pk.here (fun G5 hle5 hsl5 hno5 => ?_))
 refine tT (rB (rS (rF3 (rT rfl) (rC rfl (lBa rfl rfl)) (rT rfl) ?_)))
 (have hk1 : k = 13 := (by omega); subst hk1; refine WtP.one hsl5 (hrty.mono hle5) (hrty.mono hle5) ?_; rw [mW13]; split <;> first | rfl | (exfalso; simp_all; done))
 refine sP (pA rfl) rfl rfl (sD (nS (cF rfl ?_)))
 refine tK (nrm_block (nS (tS (tR (sP (pM rfl) rfl rfl ?_)))))
 (have hk11 : k = 11 ∨ k = 12 := (by omega); have hl1 : n = 1 := hop.2.2 (by omega); obtain ⟨b0, o0, q0, d0, hp0, hat0, hre0, hg0⟩ := hsl.kidD hkl (i := 0) (by omega) (by omega); cases hp0; refine sP (pIN (j := 0) rfl rfl rfl (by omega)) rfl rfl ?_)
 refine sL (load_a rfl rfl (hat0 _) rfl) rfl rfl ?_
 (refine seq_imm rfl (match_fn 5 (h.getD 0 ty0) G _ (.inr rfl) (getD_ar har (by omega)) hre0) rfl rfl (fun v G1 hle1 hh => ?_); obtain ⟨ma, mca, mb, mcb, rfl, hma, hmb, hma2, hmb2, hmm⟩ := hh; obtain ⟨p1, c1, e1, rfl, _⟩ := hma.open; obtain ⟨p2, c2, e2, rfl, _⟩ := hmb.open)
 refine sP (pM rfl) rfl rfl (sP (pX rfl rfl) rfl rfl (sP (pX rfl rfl) rfl rfl (sP (pX rfl rfl) rfl rfl ?_)))
 (refine seq_step (step_alloc rfl) rfl ?_; rintro _ ⟨b1009, rfl⟩)
 (refine seq_step (step_alloc rfl) rfl ?_; rintro _ ⟨b1010, rfl⟩)
 refine sS rfl rfl rfl rfl rfl rfl ?_
 refine sS rfl rfl rfl rfl rfl rfl ?_
 refine sP (pA rfl) rfl rfl (sD (nS (tS (tR (sL (lBa rfl rfl) rfl rfl ?_)))))
 (refine seq_step (step_alloc rfl) rfl ?_; rintro _ ⟨b1019, rfl⟩)
 refine sS rfl rfl rfl rfl rfl rfl ?_
 refine sD (nS (tS (tS (tR (sP (pF0 rfl) rfl rfl (sL (lBs rfl rfl) rfl rfl ?_))))))
 refine sB (pE rfl rfl) rfl rfl (fun h1028 => ?_) (fun h1028 => ?_)
 refine sD (nS (cT rfl ?_))
 refine tR (sL (lBa rfl rfl) rfl rfl ?_)
 refine sS rfl rfl rfl rfl rfl rfl ?_
 refine sD (nS (tS ?_))
 (have hl1 : n = 1 := hop.2.2 (by omega); obtain ⟨b0, o0, q0, d0, hp0, hat0, hre0, hg0⟩ := hsl.kidD hkl (i := 0) (by omega) (by omega); cases hp0; refine tri_draw mixed rfl ?_)
 refine any_load (i := 0) (l' := [tt,ff,ff,ff,ff,ff,ff,ff,ff]) rfl npI (lBa rfl rfl) rfl (by kernel_rfl) rfl rfl ?_
 refine aL 1 rfl (lBa rfl rfl) rfl rfl ?_
 refine aL 4 rfl (lBa rfl rfl) rfl rfl ?_
 refine aP 5 rfl (pM rfl) rfl rfl ?_
 refine aO (j := 2) (by kernel_rfl) ?_
 (refine one_imm (l' := [tt,tt,tt,ff,tt,tt,ff,ff,ff]) rfl rfl (both_fn _ ma mb _ _ _ ⟨by omega, by omega⟩ hma hmb) rfl rfl rfl (fun v GB hleB hh => ?_); obtain ⟨cB, rfl, hrB⟩ := hh; obtain ⟨p7, c7, e7, rfl, _⟩ := hrB.open; have hma' := hma.mono hleB; have hmb' := hmb.mono hleB)
 refine aO (j := 3) (by kernel_rfl) ?_
 (refine one_step0 (l' := [tt,tt,tt,tt,tt,tt,ff,ff,ff]) rfl (step_buildSlice rfl rfl rfl (by omega) (by unfold maxLen; omega) rfl) rfl rfl ?_; rintro _ ⟨b1046, rfl⟩)
 refine aP 6 rfl (pA rfl) rfl rfl ?_
 refine aO (j := 7) (by kernel_rfl) ?_
 refine oT rfl rfl rfl rfl rfl rfl rfl ?_
 refine aP 8 rfl (pA rfl) rfl rfl ?_
 refine aD (by kernel_rfl) ?_
 refine nS ?_
 (refine ret_freeze Pk.here (fun G5 hle5 hsl5 hno5 => ?_))
 refine tT (rF3 (rT rfl) (rC rfl (lBa rfl rfl)) (rT rfl) ?_)
 (refine WtP.one hsl5 (hrB.mono hle5) (hmb'.mono hle5) ?_; rw [mW11 (by omega)]; cases hq : mMatch 5 (h.getD 0 ty0) with | none => rfl | some q => (have hq2 := hmm q hq; subst hq2; dsimp only; rw [if_pos (by omega)]; rfl))
 refine sD (nS (cF rfl ?_))
 refine tK (nS (tS ?_))
 (have hl1 : n = 1 := hop.2.2 (by omega); obtain ⟨b0, o0, q0, d0, hp0, hat0, hre0, hg0⟩ := hsl.kidD hkl (i := 0) (by omega) (by omega); cases hp0; refine tri_draw mixed rfl ?_)
 refine any_load (i := 0) (l' := [tt,ff,ff,ff,ff,ff,ff,ff,ff]) rfl npI (lBa rfl rfl) rfl (by kernel_rfl) rfl rfl ?_
 refine aL 1 rfl (lBa rfl rfl) rfl rfl ?_
 refine aL 4 rfl (lBa rfl rfl) rfl rfl ?_
 refine aP 5 rfl (pM rfl) rfl rfl ?_
 refine aO (j := 2) (by kernel_rfl) ?_
 (refine one_imm (l' := [tt,tt,tt,ff,tt,tt,ff,ff,ff]) rfl rfl (both_fn _ ma mb _ _ _ ⟨by omega, by omega⟩ hma hmb) rfl rfl rfl (fun v GB hleB hh => ?_); obtain ⟨cB, rfl, hrB⟩ := hh; obtain ⟨p7, c7, e7, rfl, _⟩ := hrB.open; have hma' := hma.mono hleB; have hmb' := hmb.mono hleB)
 refine aO (j := 3) (by kernel_rfl) ?_
 (refine one_step0 (l' := [tt,tt,tt,tt,tt,tt,ff,ff,ff]) rfl (step_buildSlice rfl rfl rfl (by omega) (by unfold maxLen; omega) rfl) rfl rfl ?_; rintro _ ⟨b1071, rfl⟩)
 refine aP 6 rfl (pA rfl) rfl rfl ?_
 refine aO (j := 7) (by kernel_rfl) ?_
 refine oT rfl rfl rfl rfl rfl rfl rfl ?_
 refine aP 8 rfl (pA rfl) rfl rfl ?_
 refine aD (by kernel_rfl) ?_
 refine nS ?_
 (refine ret_freeze Pk.here (fun G5 hle5 hsl5 hno5 => ?_))
 refine tT (rF3 (rT rfl) (rC rfl (lBa rfl rfl)) (rT rfl) ?_)
 (refine WtP.one hsl5 (hrB.mono hle5) (hma'.mono hle5) ?_; rw [mW11 (by omega)]; cases hq : mMatch 5 (h.getD 0 ty0) with | none => rfl | some q => (have hq2 := hmm q hq; subst hq2; dsimp only; rw [if_neg (by omega)]; rfl))
end Gw
end Go.Proofs.YtaiafkcflhcdaaaGreatDoor
namespace Go.Proofs.YtaiafkcflhcdaaaGreatDoor
open Go Go.RowKit
namespace Gw
theorem mNodeT_valid {cx : Cx} {k : Int} {nm : ByteArray} {ty : Ty} {h w : List Ty} {t : Ty} (he : mNodeT cx k nm ty h = some (w, t)) : tValid t = true ∧ mWanted cx k nm ty h = some (w, t) := by
 unfold mNodeT at he
 split at he
 ·rename_i w' t' hw
  split at he
  ·cases he; exact ⟨by assumption, hw⟩
  ·cases he
 ·cases he
theorem mWanted_len {cx : Cx} {k : Int} {nm : ByteArray} {ty : Ty} {h w : List Ty} {t : Ty} (hop : (k = 6 ∨ k = 7 ∨ k = 8 ∨ k = 10 → h.length = 2) ∧ (k = 9 → h.length = 3) ∧ (k = 5 ∨ k = 11 ∨ k = 12 ∨ k = 13 → h.length = 1)) (hk : 1 ≤ k ∧ k ≤ 14) (h14 : k ≠ 14) (he : mWanted cx k nm ty h = some (w, t)) : w.length ≤ h.length := by
 have hkk : k = 1 ∨ k = 2 ∨ (k = 3 ∨ k = 4) ∨ k = 5 ∨ k = 6 ∨ (k = 7 ∨ k = 8) ∨ k = 9 ∨ k = 10 ∨ (k = 11 ∨ k = 12) ∨ k = 13 := by omega
 rcases hkk with rfl | rfl | hk | rfl | rfl | hk | rfl | rfl | hk | rfl
 ·rw [mW1] at he; split at he <;> cases he; simp
 ·rw [mW2] at he; cases he; simp
 ·rw [mW34 hk] at he; cases he; simp
 ·rw [mW5] at he; cases he; simp
 ·rw [mW6] at he
  split at he
  ·split at he <;> cases he
   have := hop.1 (by omega); simp [this]
  ·cases he
 ·rw [mW78 hk] at he
  split at he <;> cases he
  have := hop.1 (by omega); simp [this]
 ·rw [mW9] at he
  split at he <;> cases he
  have := hop.2.1 (by omega); simp [this]
 ·rw [mW10] at he; cases he; simp
 ·rw [mW11 hk] at he
  split at he
  ·cases he; have := hop.2.2 (by omega); simp [this]
  ·cases he
 ·rw [mW13] at he
  split at he <;> cases he
  have := hop.2.2 (by omega); simp [this]
theorem RCx.snoc {G G' : IM} {cx : Cx} {n : Nat} {p' : Option Addr} {c' : Nat} {es : List (List Value)} {e : List Value} {nm : ByteArray} {t : Ty} (h1 : n = cx.length) (hl : es.length = n) (h2 : ∀ x ∈ es, x.length = 3) (h3 : ∀ x ∈ es, x.all (·.oneCell') = true)
  (h4 : ∀ (i : Nat) (b : ByteArray × Ty), cx[i]? = some b → ∃ e, es[i]? = some e ∧ RBd2 G b e) (hg : IMle G G') (he : RBd2 G' (nm, t) e) (hs : Sl G' p' (n + 1) c' 3 (es.flatten ++ e)) : RCx G' (cx ++ [(nm, t)]) p' (n + 1) c' := by
 have hel : e.length = 3 ∧ e.all (·.oneCell') = true := by obtain ⟨q, d, rfl, _⟩ := he; exact ⟨rfl, rfl⟩
 refine ⟨by simp [h1], es ++ [e], SlE.of (by simpa using hs) (by simp [hl]) ?_ ?_, ?_⟩
 ·simp only [List.forall_mem_append, List.forall_mem_singleton]; exact ⟨h2, hel.1⟩
 ·simp only [List.forall_mem_append, List.forall_mem_singleton]; exact ⟨h3, hel.2⟩
 ·intro i b hb
  rw [List.getElem?_append] at hb ⊢
  split at hb
  ·rename_i hi
   obtain ⟨e', he', hr⟩ := h4 i b hb
   rw [if_pos (by omega)]
   exact ⟨e', he', hr.mono hg⟩
  ·rename_i hi
   have : i - cx.length = 0 := by
    apply Classical.byContradiction; intro hc
    rw [List.getElem?_eq_none (by simp; omega)] at hb; cases hb
   rw [this] at hb
   simp only [List.getElem?_cons_zero, Option.some.injEq] at hb
   subst hb
   rw [if_neg (by omega)]
   exact ⟨e, by rw [show i - es.length = 0 by omega]; rfl, he⟩
set_option maxRecDepth 100000 in
theorem clone_bd (G : IM) (p : Option Addr) (n c : Nat) (es : List (List Value)) (h : SlE G p n c 3 es) (hn : n ≤ 4294967296) :
  Fn Tryz.prog 111 [.slice p n c] [] G (fun G' v outs => G' = G ∧ ∃ p' c', v = .slice p' n c' ∧ outs = [.slc p' c' 121 3 n es.flatten]) := by
 have hp := h.sl.nn
 have hS := h.sl
 have hone : ∀ u ∈ es.flatten, u.oneCell' = true := by
  intro u hu
  obtain ⟨e, he, hue⟩ := List.mem_flatten.1 hu
  exact List.all_eq_true.1 (h.one e he) u hue
 refine fn_enter Tryz.func111 rfl Tryz.ntmps111 Tryz.results111 rfl ?_
 intro w0
 cases p with
 | none =>
  obtain rfl := hp rfl
  obtain rfl : es = [] := List.length_eq_zero_iff.1 h.len
  refine tri_nil 121 3 ?_
  refine tS ?_
  refine tR ?_
  refine sP (pA rfl) rfl rfl ?_
  refine sD ?_
  refine nS ?_
  refine tS ?_
  refine tS ?_
  refine tR ?_
  refine sP (pM rfl) rfl rfl ?_
  refine sP (pure_slnil_t rfl rfl rfl) rfl rfl ?_
  refine sD ?_
  refine nS ?_
  refine cT rfl ?_
  refine tS ?_
  refine tR ?_
  refine sP (pA rfl) rfl rfl ?_
  refine sD ?_
  refine nS ?_
  refine tT ?_
  refine rS ?_
  refine ret_own1 (rT rfl) SubH.refl ?_
  exact ⟨rfl, _, _, rfl, rfl⟩
 | some a =>
  refine tS ?_
  refine tR ?_
  refine sP (pA rfl) rfl rfl ?_
  refine sD ?_
  refine nS ?_
  refine tS ?_
  refine tS ?_
  refine tR ?_
  refine sP (pM rfl) rfl rfl ?_
  refine sP (pure_slnil_f rfl rfl rfl) rfl rfl ?_
  refine sD ?_
  refine nS ?_
  refine cF rfl ?_
  refine tK ?_
  refine nS ?_
  refine tS ?_
  refine tR ?_
  (refine seq_step (step_buildSlice rfl rfl rfl (by omega) (by unfold maxLen; omega) rfl) rfl ?_; rintro _ ⟨b18, rfl⟩)
  refine sP (pM rfl) rfl rfl ?_
  refine seq_appendSl rfl rfl rfl rfl rfl (fun _ _ => by repeat (first | exact Sw.here | apply Sw.there)) hS hone (Nat.zero_le _) (by unfold maxLen; omega) (by omega) rfl (fun pn cn => ?_)
  refine sP (pA rfl) rfl rfl ?_
  refine sD ?_
  refine nS ?_
  refine tT ?_
  refine ret_own1 (rT rfl) SubH.refl ?_
  exact ⟨rfl, _, _, by rw [Nat.zero_add], by rw [Nat.zero_add]; rfl⟩
end Gw
end Go.Proofs.YtaiafkcflhcdaaaGreatDoor
namespace Go.Proofs.YtaiafkcflhcdaaaGreatDoor
open Go Go.RowKit
namespace Gw
theorem TyOk.no {r : Option Ty} {G G' : IM} {cu : List Value} {u : Ty} {b : Bool} (hu : RTy G' u cu) (hb : b = false) (h : r = none) : TyOk r G G' (.tuple ⟨[.agg ⟨cu⟩, .bool b]⟩) [] := by
 subst hb h
 exact ⟨rfl, cu, u, rfl, hu, by simp⟩
section
variable {cx : Cx} {k : Int} {nm : ByteArray} {num : Int} {ty fr : Ty} {lb : Int} {ks : List Tm}
theorem mNodeT_go {us w : List Ty} {t : Ty} (h : mWanted cx k nm ty us = some (w, t)) {b : Bool} (hb : tValid t = b) : mNodeT cx k nm ty us = if b = true then some (w, t) else none := by
 unfold mNodeT; rw [h]; simp only [hb]
theorem mNodeT_no {us : List Ty} (h : mWanted cx k nm ty us = none) : mNodeT cx k nm ty us = none := by
 unfold mNodeT; rw [h]
end
end Gw
end Go.Proofs.YtaiafkcflhcdaaaGreatDoor
namespace Go.Proofs.YtaiafkcflhcdaaaGreatDoor
open Go Go.RowKit
namespace Gw
section fin
variable {P : Program} {Γ : Ctx} {env : Env} {hp : List Ent} {G : IM}
theorem ret_own3 {r r2 r3 : ResultVar} {post : IM → Value → List Ent → Prop} {v v2 v3 : Value} {outs : List Ent} (h : ResOne P Γ ⟨env, hp, G⟩ r v) (h2 : ResOne P Γ ⟨env, hp, G⟩ r2 v2) (h3 : ResOne P Γ ⟨env, hp, G⟩ r3 v3) (ho : SubH hp outs) (hk : post G (.tuple ⟨[v, v2, v3]⟩) outs) :
  retK P Γ [r, r2, r3] post .ret ⟨env, hp, G⟩ := ret_fin (.cons h (.cons h2 (.cons h3 .nil))) ho.spec hk
end fin
/-- A term, perhaps cast; labels are counted. -/
def CsP (bx : Nat) (e : Tm) (a b : Ty) (l : Int) : IM → Value → List Ent → Prop := fun G' v outs => ∃ cells, v = .agg ⟨cells⟩ ∧ outs = [.blk bx [.int .i64 (if tSame a b = true then l else l + 1)]] ∧ RTm G' (if tSame a b = true then e else mCst e a b (l + 1)) cells
theorem CsP.yes {G : IM} {bx : Nat} {e : Tm} {a b : Ty} {l : Int} {cells : List Value} (h : tSame a b = true) (hr : RTm G e cells) : CsP bx e a b l G (.agg ⟨cells⟩) [.blk bx [.int .i64 l]] := ⟨cells, rfl, by rw [if_pos h], by rw [if_pos h]; exact hr⟩
theorem CsP.no {G : IM} {bx : Nat} {e : Tm} {a b : Ty} {l : Int} {cells : List Value} (h : tSame a b = false) (hr : RTm G (mCst e a b (l + 1)) cells) : CsP bx e a b l G (.agg ⟨cells⟩) [.blk bx [.int .i64 (l + 1)]] := ⟨cells, rfl, by rw [if_neg (by rw [h]; decide)], by rw [if_neg (by rw [h]; decide)]; exact hr⟩
set_option maxHeartbeats 0 in
set_option maxRecDepth 100000 in
theorem elCast_fn (bx : Nat) (e : Tm) (a b : Ty) (l : Int) (G : IM) (ce ca cb : List Value) (hl : -1000000000000 ≤ l ∧ l ≤ 1000000000000) (hre : RTm G e ce) (hra : RTy G a ca) (hrb : RTy G b cb) :
  Fn Tryz.prog 140 [.pointer (some ⟨bx, 0, none⟩), .agg ⟨ce⟩, .agg ⟨ca⟩, .agg ⟨cb⟩] [.blk bx [.int .i64 l]] G (CsP bx e a b l) := by
 have hel := hre.len
 have heo := hre.one
 have hS := typeSameX_fn a b G ca cb hra hrb
 obtain ⟨v1, v2, v3, v4, v5, v6, v7, v8, v9, rfl⟩ := nine hel
 obtain ⟨ak, aks⟩ := a
 obtain ⟨bk, bks⟩ := b
 obtain ⟨pa, cca, ea, rfl, hka, _⟩ := hra.open
 obtain ⟨pb, ccb, eb, rfl, hkb, _⟩ := hrb.open
 refine fn_enter Tryz.func140 rfl Tryz.ntmps140 Tryz.results140 rfl ?_
 intro w0
 refine tS (tR ?_)
 (refine seq_step (step_box_a rfl rfl) rfl ?_; rintro _ ⟨b3, rfl⟩)
 (refine seq_step (step_box_a rfl rfl) rfl ?_; rintro _ ⟨b4, rfl⟩)
 (refine seq_step (step_box_a rfl rfl) rfl ?_; rintro _ ⟨b5, rfl⟩)
 (refine seq_step (step_alloc rfl) rfl ?_; rintro _ ⟨b6, rfl⟩)
 refine sD (nS (tS (tS (tR (sL (lBa rfl rfl) rfl rfl ?_)))))
 refine sL (lBa rfl rfl) rfl rfl ?_
 refine seq_valb rfl (hS) rfl rfl (fun h14 => ?_) (fun h14 => ?_)
 refine sD (nS (cT rfl ?_))
 refine tS (tR (sL (load_a rfl rfl (at_blk_all (by repeat first | exact mH | apply mT)) hel) rfl rfl ?_))
 refine sS rfl rfl rfl hel heo rfl ?_ (hu := by exact upd_all hel.symm)
 refine sD (nS (tT (rS (ret_own1 (outs := [.blk bx [.int .i64 _]]) (rC rfl (lBa rfl rfl)) (SubH.cons (by repeat (first | exact Pk.here | apply Pk.there)) SubH.nil) ?_))))
 (exact CsP.yes (by assumption) hre)
 refine sD (nS (cF rfl ?_))
 refine tK (nS (tS (tR (sP (pM rfl) rfl rfl (sP (pure_nilCheck rfl) rfl rfl (sP (pF0 rfl) rfl rfl ?_))))))
 refine sL (lBs rfl rfl) rfl rfl ?_
 refine sP (pure_add rfl rfl (by omega) (by omega)) rfl rfl ?_
 refine sP (pure_nilCheck rfl) rfl rfl (sP (pF0 rfl) rfl rfl (sS rfl rfl rfl rfl rfl rfl ?_))
 refine sD (nS (tS (tri_draw mixed rfl ?_)))
 refine any_load (i := 6) (l' := [ff,ff,ff,ff,ff,ff,tt,ff,ff,ff]) rfl npI (load_a rfl rfl (at_blk_all (by repeat first | exact mH | apply mT)) hel) rfl (by kernel_rfl) rfl rfl ?_
 refine aL 0 rfl (lBa rfl rfl) rfl rfl ?_
 refine aL 1 rfl (lBa rfl rfl) rfl rfl ?_
 refine aP 2 rfl (pM rfl) rfl rfl ?_
 refine aP 3 rfl (pure_nilCheck rfl) rfl rfl ?_
 refine aP 4 rfl (pF0 rfl) rfl rfl ?_
 refine aL 5 rfl (lBs rfl rfl) rfl rfl ?_
 refine aO (j := 7) (by kernel_rfl) ?_
 (refine one_step0 (l' := [tt,tt,tt,tt,tt,tt,tt,tt,ff,ff]) rfl (step_buildSlice rfl rfl rfl (by omega) (by unfold maxLen; omega) rfl) rfl rfl ?_; rintro _ ⟨b55, rfl⟩)
 refine aP 8 rfl (pBd rfl rfl) rfl rfl ?_
 refine aO (j := 9) (by kernel_rfl) ?_
 refine oT rfl rfl rfl rfl rfl rfl rfl ?_
 refine aD (by kernel_rfl) ?_
 refine nS ?_
 (refine ret_freeze (cs := [v1, v2, v3, v4, v5, v6, v7, v8, v9]) (by repeat (first | exact Pk.here | apply Pk.there)) (fun G2 hle2 hsl2 hno2 => ?_))
 refine tT (ret_own1 (outs := [.blk bx [.int .i64 _]]) (rC rfl (lBa rfl rfl)) (SubH.cons (by repeat (first | exact Pk.here | apply Pk.there)) SubH.nil) ?_)
 (exact CsP.no (by assumption) (RTm.put (us := [e]) (es := [[v1, v2, v3, v4, v5, v6, v7, v8, v9]]) ⟨by decide, by decide⟩ ⟨by decide, by decide⟩ ⟨by omega, by omega⟩ (hrb.mono hle2) (hra.mono hle2) rfl (SlE.of hsl2 rfl (by intro x hx; obtain rfl := List.mem_singleton.1 hx; rfl) (by intro x hx; obtain rfl := List.mem_singleton.1 hx; exact heo)) (by simp only [RTmL]; exact ⟨_, _, rfl, hre.mono hle2, rfl⟩)))
end Gw
end Go.Proofs.YtaiafkcflhcdaaaGreatDoor
namespace Go.Proofs.YtaiafkcflhcdaaaGreatDoor
open Go Go.RowKit
namespace Gw
/-- A term with casts, its type, the last label, where there is one. -/
def ElP (bx : Nat) (cx : Cx) (e : Tm) (l : Int) : IM → Value → List Ent → Prop := fun G' v outs => ∃ u cu t ct l', v = .tuple ⟨[.agg ⟨cu⟩, .agg ⟨ct⟩, .bool (mEl cx e l).isSome]⟩ ∧ outs = [.blk bx [.int .i64 l']] ∧ RTm G' u cu ∧ RTy G' t ct ∧ l ≤ l' ∧ l' + 1 ≤ l + (tmCount e : Int) ∧ ∀ r, mEl cx e l = some r → r = (u, t, l')
theorem ElP.no {G : IM} {bx : Nat} {cx : Cx} {e : Tm} {l l' : Int} {u : Tm} {t : Ty} {cu ct : List Value} (h : mEl cx e l = none) (hu : RTm G u cu) (ht : RTy G t ct) (h1 : l ≤ l') (h2 : l' + 1 ≤ l + (tmCount e : Int)) : ElP bx cx e l G (.tuple ⟨[.agg ⟨cu⟩, .agg ⟨ct⟩, .bool false]⟩) [.blk bx [.int .i64 l']] :=
 ⟨u, cu, t, ct, l', by rw [h]; rfl, rfl, hu, ht, h1, h2, fun r hr => by rw [h] at hr; cases hr⟩
theorem ElP.yes {G : IM} {bx : Nat} {cx : Cx} {e : Tm} {l l' : Int} {u : Tm} {t : Ty} {cu ct : List Value} (h : mEl cx e l = some (u, t, l')) (hu : RTm G u cu) (ht : RTy G t ct) (h1 : l ≤ l') (h2 : l' + 1 ≤ l + (tmCount e : Int)) : ElP bx cx e l G (.tuple ⟨[.agg ⟨cu⟩, .agg ⟨ct⟩, .bool true]⟩) [.blk bx [.int .i64 l']] :=
 ⟨u, cu, t, ct, l', by rw [h]; rfl, rfl, hu, ht, h1, h2, fun r hr => by rw [h] at hr; cases hr; rfl⟩
section
variable {cx : Cx} {k : Int} {nm : ByteArray} {num : Int} {ty fr : Ty} {lb : Int} {ks us : List Tm} {h : List Ty} {l l' : Int}
theorem mEl_kids (hL : mElL (inCx cx k nm ty) ks l = none) : mEl cx (.mk k nm num ty fr lb ks) l = none := by rw [mEl, hL]
theorem mEl_no (hL : mElL (inCx cx k nm ty) ks l = some (us, h, l')) (hn : mNodeT cx k nm ty h = none) : mEl cx (.mk k nm num ty fr lb ks) l = none := by rw [mEl, hL]; simp only [mElN, hn]
theorem mEl_as {w : List Ty} {t : Ty} (hL : mElL (inCx cx k nm ty) ks l = some (us, h, l')) (hn : mNodeT cx k nm ty h = some (w, t)) (hk : k = 13) : mEl cx (.mk k nm num ty fr lb ks) l = some ((mCasts us h w l').1.getD 0 tm0, t, (mCasts us h w l').2) := by
 rw [mEl, hL]; simp only [mElN, hn, if_pos hk]
theorem mEl_go {w : List Ty} {t : Ty} (hL : mElL (inCx cx k nm ty) ks l = some (us, h, l')) (hn : mNodeT cx k nm ty h = some (w, t)) (hk : k ≠ 13) : mEl cx (.mk k nm num ty fr lb ks) l = some (.mk k nm num ty fr lb (mCasts us h w l').1, t, (mCasts us h w l').2) := by
 rw [mEl, hL]; simp only [mElN, hn, if_neg hk]
end
theorem tValid_ar' {t : Ty} (h : tValid t = true) : tAr t := (tValid_ann h).1
theorem getD0 {us : List Tm} (h : 0 < us.length) : us.getD 0 tm0 = us[0] := by rw [List.getD_eq_getElem?_getD, List.getElem?_eq_getElem h, Option.getD_some]
set_option maxHeartbeats 0 in
set_option maxRecDepth 100000 in
theorem elTerm_fn (bx : Nat) : ∀ (e : Tm) (d : Int) (cx : Cx) (l0 : Int) (G : IM) (pc : Option Addr) (nc cc : Nat) (cells : List Value), sShape 12 14 e d = true → (nc : Int) ≤ d → cxV cx → RCx G cx pc nc cc → RTm G e cells → 0 ≤ l0 → l0 + (tmCount e : Int) ≤ 1000000000 →
  Fn Tryz.prog 92 [.pointer (some ⟨bx, 0, none⟩), .slice pc nc cc, .agg ⟨cells⟩] [.blk bx [.int .i64 l0]] G (ElP bx cx e l0) := by
 refine Tm.ind fun k nm num ty fr lb ks ih d cx l0 G pc nc cc cells hv hnd hcv hx hr hl0 hlc => ?_
 have hr0 := hr
 have hone := hr.one
 obtain ⟨hv1, hv2, hv3, hv4⟩ := sShape_go2 hv
 have hvk := (sShapeL_iff 12 14 ks _).1 hv4
 have har := (tmNode_iff.1 hv3).1
 have hop := tm_ops har
 obtain ⟨hta, hts⟩ := node_ann hv3
 have hkr : 1 ≤ k ∧ k ≤ 14 := tmOps_rng (by rw [har]; omega)
 have hcvX : cxV (inCx cx k nm ty) := cxV_in hcv fun hk => (tmNode_iff.1 hv3).2.2.2.2.2.1 (.inl hk)
 have hck : tmCount (.mk k nm num ty fr lb ks) = tmCountL ks + 1 := tmCount_mk ..
 rw [hck] at hlc
 obtain ⟨tk, tks⟩ := ty
 obtain ⟨fk, fks⟩ := fr
 obtain ⟨pt, ct, pf, cf, q, cq, es, rfl, hk, hnum, hlb, hty, hfr, hsl, hkl⟩ := hr.open9
 have hlen : ks.length ≤ 3 := by have := tmOps_le k; omega
 obtain ⟨hx1, esx, hx2, hx3⟩ := id hx
 have hcl := clone_bd G pc nc cc esx hx2 (by omega)
 have hcnt0 := len_le_count ks
 refine fn_enter Tryz.func92 rfl Tryz.ntmps92 Tryz.results92 rfl ?_
 intro w0
 refine tS ?_
 refine tR ?_
 (refine seq_step (step_box_a rfl rfl) rfl ?_; rintro _ ⟨b3, rfl⟩)
 (refine seq_step (step_alloc rfl) rfl ?_; rintro _ ⟨b4, rfl⟩)
 (refine seq_step (step_alloc rfl) rfl ?_; rintro _ ⟨b5, rfl⟩)
 refine sP (pA rfl) rfl rfl ?_
 refine sD ?_
 refine nS ?_
 refine tS ?_
 refine tR ?_
 refine sP (pM rfl) rfl rfl ?_
 refine sP (pA rfl) rfl rfl ?_
 refine sD ?_
 refine nS ?_
 refine tS ?_
 (show Tri _ _ (.seq (.region 2 _ _) (.cond (.tmp 25) _ _)) _ _; refine tri_cut (fun (x : Option Addr × Nat × Nat × IM) => ⟨[(9, .slice x.1 x.2.1 x.2.2.1), (1, .slice pc nc cc), (0, .pointer (some ⟨bx, 0, none⟩)), (5, .pointer (some ⟨b3, 0, none⟩)), (6, .pointer (some ⟨b4, 0, none⟩)), (7, .pointer (some ⟨b5, 0, none⟩))], [.blk b5 [.int .i64 0, .slice none 0 0], .blk b4 [.int .i64 0, .string ⟨⟨[]⟩⟩, .int .i64 0, .int .i64 0, .slice none 0 0, .int .i64 0, .slice none 0 0, .int .i64 0, .slice none 0 0], .blk b3 [.int .i64 k, .string nm, .int .i64 num, .int .i64 tk, .slice pt tks.length ct, .int .i64 fk, .slice pf fks.length cf, .int .i64 lb, .slice q ks.length cq], .blk bx [.int .i64 l0]], x.2.2.2⟩) (fun x => IMle G x.2.2.2 ∧ RCx x.2.2.2 (inCx cx k nm (.mk tk tks)) x.1 x.2.1 x.2.2.1 ∧ x.2.1 ≤ nc + 1) ?_ ?_)
 ·refine tS ?_
  refine tR ?_
  refine sP (pF0 rfl) rfl rfl ?_
  refine sL (lBs rfl rfl) rfl rfl ?_
  refine sB (pE rfl rfl) rfl rfl (fun h21 => ?_) (fun h21 => ?_)
  ·refine sD ?_
   refine nS ?_
   refine cT rfl ?_
   refine tri_draw mixed rfl ?_
   refine any_pure (i := 0) (l' := [tt,ff,ff,ff,ff,ff,ff,ff,ff,ff]) rfl npI (pM rfl) rfl (by kernel_rfl) rfl rfl ?_
   refine aP 2 rfl (pF0 rfl) rfl rfl ?_
   refine aL 3 rfl (lBs rfl rfl) rfl rfl ?_
   refine aP 4 rfl (pF0 rfl) rfl rfl ?_
   refine aL 5 rfl (lBa rfl rfl) rfl rfl ?_
   refine aP 6 rfl (pBd rfl rfl) rfl rfl ?_
   refine any_two (j := 1) (j' := 7) (by kernel_rfl) ?_ ?_
   ·(refine one_own (l' := [tt,tt,tt,tt,tt,tt,tt,ff,ff,ff]) rfl rfl hcl rfl rfl rfl (fun v33 G33 outs33 hle33 h33 => ?_); obtain ⟨hG, p1, c1, rfl, rfl⟩ := h33; replace hG := hG.symm; subst hG)
    replace hr := hr.mono hle33
    replace hr0 := hr0.mono hle33
    replace hty := hty.mono hle33
    replace hfr := hfr.mono hle33
    replace hsl := hsl.mono hle33
    replace hkl := hkl.mono hle33
    replace hx2 := hx2.mono hle33
    refine aO (j := 7) (by kernel_rfl) ?_
    (refine one_step0 (l' := [tt,tt,tt,tt,tt,tt,tt,tt,ff,ff]) rfl (step_buildSlice rfl rfl rfl (by omega) (by unfold maxLen; omega) rfl) rfl rfl ?_; rintro _ ⟨b35, rfl⟩)
    refine aO (j := 8) (by kernel_rfl) ?_
    (refine one_append (l' := [tt,tt,tt,tt,tt,tt,tt,tt,tt,ff]) rfl rfl rfl rfl rfl rfl (fun _ _ => by repeat (first | exact Sw.here | apply Sw.there)) (at_slc_all (by repeat first | exact mH | apply mT)) rfl (by simp [Value.oneCell']) (by unfold maxLen; omega) (by omega) rfl rfl (by repeat (first | exact HmOk.nil | apply HmOk.dep (by decide +kernel) | apply HmOk.blk (by decide +kernel) (by repeat (first | exact Pk.here | apply Pk.there)) (by repeat first | exact mH | apply mT))) (fun p5 c5 => ?_); refine any_freeze (cs := esx.flatten ++ [.string nm, .int .i64 tk, .slice pt tks.length ct]) (by repeat (first | exact Pk.here | apply Pk.there)) (fun Gf hleF hslF hnoF => ?_); have hxF := RCx.snoc (nm := nm) (t := .mk tk tks) hx1 hx2.len hx2.all hx2.one hx3 hleF ⟨_, _, rfl, hty.mono hleF⟩ hslF)
    refine aP 9 rfl (pA rfl) rfl rfl ?_
    refine aD (by kernel_rfl) ?_
    refine nrm_cut (p5, nc + 1, c5, Gf) (sub_mk (by repeat (first | exact SubE.nil | refine SubE.cons rfl ?_)) (by repeat (first | exact SubH.refl | exact SubH.nil | refine SubH.cons (by repeat (first | exact Pk.here | apply Pk.there)) ?_ | apply SubH.drop))) ⟨hleF, by (dsimp only; rw [inCx, if_pos (by omega)]; exact hxF), by (dsimp only; omega)⟩
   ·(refine one_step0 (l' := [tt,ff,tt,tt,tt,tt,tt,tt,ff,ff]) rfl (step_buildSlice rfl rfl rfl (by omega) (by unfold maxLen; omega) rfl) rfl rfl ?_; rintro _ ⟨b41, rfl⟩)
    refine aO (j := 1) (by kernel_rfl) ?_
    (refine one_own (l' := [tt,tt,tt,tt,tt,tt,tt,tt,ff,ff]) rfl rfl hcl rfl rfl rfl (fun v43 G43 outs43 hle43 h43 => ?_); obtain ⟨hG, p1, c1, rfl, rfl⟩ := h43; replace hG := hG.symm; subst hG)
    replace hr := hr.mono hle43
    replace hr0 := hr0.mono hle43
    replace hty := hty.mono hle43
    replace hfr := hfr.mono hle43
    replace hsl := hsl.mono hle43
    replace hkl := hkl.mono hle43
    replace hx2 := hx2.mono hle43
    refine aO (j := 8) (by kernel_rfl) ?_
    (refine one_append (l' := [tt,tt,tt,tt,tt,tt,tt,tt,tt,ff]) rfl rfl rfl rfl rfl rfl (fun _ _ => by repeat (first | exact Sw.here | apply Sw.there)) (at_slc_all (by repeat first | exact mH | apply mT)) rfl (by simp [Value.oneCell']) (by unfold maxLen; omega) (by omega) rfl rfl (by repeat (first | exact HmOk.nil | apply HmOk.dep (by decide +kernel) | apply HmOk.blk (by decide +kernel) (by repeat (first | exact Pk.here | apply Pk.there)) (by repeat first | exact mH | apply mT))) (fun p5 c5 => ?_); refine any_freeze (cs := esx.flatten ++ [.string nm, .int .i64 tk, .slice pt tks.length ct]) (by repeat (first | exact Pk.here | apply Pk.there)) (fun Gf hleF hslF hnoF => ?_); have hxF := RCx.snoc (nm := nm) (t := .mk tk tks) hx1 hx2.len hx2.all hx2.one hx3 hleF ⟨_, _, rfl, hty.mono hleF⟩ hslF)
    refine aP 9 rfl (pA rfl) rfl rfl ?_
    refine aD (by kernel_rfl) ?_
    refine nrm_cut (p5, nc + 1, c5, Gf) (sub_mk (by repeat (first | exact SubE.nil | refine SubE.cons rfl ?_)) (by repeat (first | exact SubH.refl | exact SubH.nil | refine SubH.cons (by repeat (first | exact Pk.here | apply Pk.there)) ?_ | apply SubH.drop))) ⟨hleF, by (dsimp only; rw [inCx, if_pos (by omega)]; exact hxF), by (dsimp only; omega)⟩
  ·refine sD ?_
   refine nS ?_
   refine cF rfl ?_
   refine tK ?_
   refine nrm_cut (pc, nc, cc, G) (sub_mk (by repeat (first | exact SubE.nil | refine SubE.cons rfl ?_)) (by repeat (first | exact SubH.refl | exact SubH.nil | refine SubH.cons (by repeat (first | exact Pk.here | apply Pk.there)) ?_ | apply SubH.drop))) ⟨IMle.refl _, by (dsimp only; rw [inCx, if_neg (by omega)]; exact hx), by (dsimp only; omega)⟩
 ·(rintro ⟨p6, n6, c6, Gx⟩ ⟨hleX, hxX, hn6⟩; simp only [] at hleX hxX hn6 ⊢; replace hsl := hsl.mono hleX; replace hkl := hkl.mono hleX; replace hx := hx.mono hleX; replace hr0 := hr0.mono hleX; replace hty := hty.mono hleX; replace hfr := hfr.mono hleX)
  refine tS ?_
  refine tR ?_
  refine sL (lBa rfl rfl) rfl rfl ?_
  (refine seq_step (step_alloc rfl) rfl ?_; rintro _ ⟨b58, rfl⟩)
  refine sS rfl rfl rfl rfl rfl rfl ?_
  refine sD ?_
  refine nS ?_
  refine tS ?_
  refine tR ?_
  refine sP (pF0 rfl) rfl rfl ?_
  refine sS rfl rfl rfl rfl rfl rfl ?_
  refine sD ?_
  refine nS ?_
  refine tS ?_
  refine tR ?_
  refine sP (pA rfl) rfl rfl ?_
  refine sD ?_
  refine nS ?_
  refine tS ?_
  refine tS ?_
  refine tR ?_
  refine sP (pF0 rfl) rfl rfl ?_
  refine sL (lBs rfl rfl) rfl rfl ?_
  refine sP (pLn rfl rfl) rfl rfl ?_
  refine sP (pM rfl) rfl rfl ?_
  refine sD ?_
  refine nS ?_
  refine tri_block ?_
  (refine tri_nil 36 9 ?_; refine tri_nil 33 2 ?_; refine tri_loopN (fun (x : Nat × (Option Addr × Nat × List Tm × List (List Value)) × (Option Addr × Nat × List Ty × List (List Value)) × Int × IM) => ⟨[(40, .int .i64 x.1), (39, .int .i64 ks.length), (38, .slice q ks.length cq), (11, .slice x.2.2.1.1 x.1 x.2.2.1.2.1), (9, .slice p6 n6 c6), (1, .slice pc nc cc), (0, .pointer (some ⟨bx, 0, none⟩)), (5, .pointer (some ⟨b3, 0, none⟩)), (6, .pointer (some ⟨b4, 0, none⟩)), (7, .pointer (some ⟨b5, 0, none⟩)), (10, .pointer (some ⟨b58, 0, none⟩))], [.blk b58 [.int .i64 k, .string nm, .int .i64 num, .int .i64 tk, .slice pt tks.length ct, .int .i64 fk, .slice pf fks.length cf, .int .i64 lb, .slice x.2.1.1 x.1 x.2.1.2.1], .slc x.2.1.1 x.2.1.2.1 36 9 x.1 x.2.1.2.2.2.flatten, .slc x.2.2.1.1 x.2.2.1.2.1 33 2 x.1 x.2.2.1.2.2.2.flatten, .blk b5 [.int .i64 0, .slice none 0 0], .blk b4 [.int .i64 0, .string ⟨⟨[]⟩⟩, .int .i64 0, .int .i64 0, .slice none 0 0, .int .i64 0, .slice none 0 0, .int .i64 0, .slice none 0 0], .blk b3 [.int .i64 k, .string nm, .int .i64 num, .int .i64 tk, .slice pt tks.length ct, .int .i64 fk, .slice pf fks.length cf, .int .i64 lb, .slice q ks.length cq], .blk bx [.int .i64 x.2.2.2.1]], x.2.2.2.2⟩) (fun x => x.1 ≤ ks.length ∧ IMle Gx x.2.2.2.2 ∧ x.2.1.2.2.1.length = x.1 ∧ RTmL x.2.2.2.2 x.2.1.2.2.1 x.2.1.2.2.2 ∧ x.2.2.1.2.2.1.length = x.1 ∧ RTyL x.2.2.2.2 x.2.2.1.2.2.1 x.2.2.1.2.2.2 ∧ (∀ t ∈ x.2.2.1.2.2.1, tAr t) ∧ mElL (inCx cx k nm (.mk tk tks)) (ks.take x.1) l0 = some (x.2.1.2.2.1, x.2.2.1.2.2.1, x.2.2.2.1) ∧ l0 ≤ x.2.2.2.1 ∧ x.2.2.2.1 + x.1 ≤ l0 + (tmCountL (ks.take x.1) : Int)) (fun x => ks.length - x.1) (0, (none, 0, [], []), (none, 0, [], []), l0, Gx) ?_ ?_ ?_)
  ·(simp only [List.take_zero, mCasts_nil]; exact (sub_mk (by repeat (first | exact SubE.nil | refine SubE.cons rfl ?_)) (by repeat (first | exact SubH.refl | exact SubH.nil | refine SubH.cons (by repeat (first | exact Pk.here | apply Pk.there)) ?_ | apply SubH.drop))))
  ·(exact ⟨by simp, IMle.refl _, rfl, by simp [RTmL], rfl, by simp [RTyL], by simp, by simp [mElL], Int.le_refl _, by simp [tmCountL]⟩)
  ·(rintro ⟨i, ⟨pn, cn, us, es'⟩, ⟨pm, cm, ts, ess⟩, l, Gi⟩ ⟨hi, hle, hlu, hst, hlt, hstt, hat, hml, hl1, hl2⟩; simp only [] at hi hle hlu hst hlt hstt hat hml hl1 hl2 ⊢; replace hty := hty.mono hle; replace hfr := hfr.mono hle; replace hsl := hsl.mono hle; replace hkl := hkl.mono hle; replace hr0 := hr0.mono hle; replace hx := hx.mono hle; replace hxX := hxX.mono hle)
   refine tS ?_
   refine tR ?_
   refine sB (pure_lss rfl rfl) rfl rfl (fun h89 => ?_) (fun h89 => ?_)
   ·refine sD ?_
    refine nS ?_
    refine tS ?_
    refine cT rfl ?_
    refine tK ?_
    refine nS ?_
    refine tS ?_
    refine tri_block ?_
    refine tS ?_
    refine tR ?_
    (obtain ⟨b, o, e, rfl, hl, hate, hre, hgb⟩ := hsl.kidTm hkl (i := i) (by omega) (by omega); have hon := hre.one; have hsc := tmCountL_succ (ks := ks) (i := i) (by omega); have hsk := tmCountL_take (ks := ks) (i := i) (by omega); refine sP (pIN rfl rfl rfl (by omega)) rfl rfl ?_)
    refine sL (load_a rfl rfl (hate _) hl) rfl rfl ?_
    (refine seq_step (step_alloc rfl) rfl ?_; rintro _ ⟨b102, rfl⟩)
    refine sS rfl rfl rfl hl hon rfl ?_ (hu := by exact upd_all hl.symm)
    refine sD ?_
    refine nS ?_
    refine tS ?_
    refine tR ?_
    refine sP (pM rfl) rfl rfl ?_
    refine sP (pM rfl) rfl rfl ?_
    refine sL (load_a rfl rfl (at_blk_all (by repeat first | exact mH | apply mT)) hl) rfl rfl ?_
    (refine seq_take rfl (ih ks[i] (List.getElem_mem (by omega)) (d + 1) _ l Gi p6 n6 c6 _ (hvk i (by omega)) (by omega) hcvX hxX hre (by omega) (by omega)) (Pk.perm (by repeat (first | exact Pk.here | apply Pk.there))) rfl rfl (fun v G3 outs hle3 hh => ?_); obtain ⟨u, uc, t, tc, l3, rfl, rfl, hru, hrt, hl3, hl4, hu⟩ := hh; obtain ⟨v1, v2, v3, v4, v5, v6, v7, v8, v9, rfl⟩ := nine hru.len; obtain ⟨p3, c3, e3, rfl, _⟩ := hrt.open; have hlu9 := hru.len; have hou9 := hru.one; rcases hE : mEl (inCx cx k nm (Ty.mk tk tks)) ks[i] l with _ | ⟨u2, t2, l2⟩; rotate_left; have hue := hu _ hE; simp only [Prod.mk.injEq] at hue; obtain ⟨rfl, rfl, rfl⟩ := hue; rotate_left)
    ·refine sP (pM rfl) rfl rfl ?_
     refine sP (pX rfl rfl) rfl rfl ?_
     refine sP (pX rfl rfl) rfl rfl ?_
     refine sP (pX rfl rfl) rfl rfl ?_
     (refine seq_step (step_alloc rfl) rfl ?_; rintro _ ⟨b116, rfl⟩)
     (refine seq_step (step_alloc rfl) rfl ?_; rintro _ ⟨b117, rfl⟩)
     refine sS rfl rfl rfl hlu9 hou9 rfl ?_ (hu := by exact upd_all hlu9.symm)
     refine sS rfl rfl rfl rfl rfl rfl ?_
     refine sP (pA rfl) rfl rfl ?_
     refine sD ?_
     refine nS ?_
     refine tS ?_
     refine tS ?_
     refine tR ?_
     refine sP (pM rfl) rfl rfl ?_
     refine sP (pNf rfl) rfl rfl ?_
     refine sD ?_
     refine nS ?_
     refine cT rfl ?_
     refine tS ?_
     refine tR ?_
     refine sP (pBd rfl rfl) rfl rfl ?_
     refine sP (pBd rfl rfl) rfl rfl ?_
     refine sS rfl rfl rfl rfl rfl rfl ?_
     refine sS rfl rfl rfl rfl rfl rfl ?_
     refine sP (pA rfl) rfl rfl ?_
     refine sD ?_
     refine nS ?_
     refine tT ?_
     refine rS ?_
     refine rB ?_
     refine rS ?_
     refine ret_loopN ?_
     refine rB ?_
     refine rS ?_
     refine ret_own3 (outs := [.blk bx [.int .i64 _]]) (rC rfl (lBa rfl rfl)) (rC rfl (lBa rfl rfl)) (rT rfl) (SubH.cons (by repeat (first | exact Pk.here | apply Pk.there)) SubH.nil) ?_
     (exact ElP.no (mEl_kids (mElL_no (by omega) hml hE)) (tm0_r _) (tyLeaf_r _ ⟨by omega, by omega⟩) (by omega) (by rw [hck]; omega))
    ·refine sP (pM rfl) rfl rfl ?_
     refine sP (pX rfl rfl) rfl rfl ?_
     refine sP (pX rfl rfl) rfl rfl ?_
     refine sP (pX rfl rfl) rfl rfl ?_
     (refine seq_step (step_alloc rfl) rfl ?_; rintro _ ⟨b153, rfl⟩)
     (refine seq_step (step_alloc rfl) rfl ?_; rintro _ ⟨b154, rfl⟩)
     refine sS rfl rfl rfl hlu9 hou9 rfl ?_ (hu := by exact upd_all hlu9.symm)
     refine sS rfl rfl rfl rfl rfl rfl ?_
     refine sP (pA rfl) rfl rfl ?_
     refine sD ?_
     refine nS ?_
     refine tS ?_
     refine tS ?_
     refine tR ?_
     refine sP (pM rfl) rfl rfl ?_
     refine sP (pNt rfl) rfl rfl ?_
     refine sD ?_
     refine nS ?_
     refine cF rfl ?_
     refine tK ?_
     refine nS ?_
     refine tri_draw mixed rfl ?_
     refine any_pure (i := 0) (l' := [tt,ff,ff,ff,ff,ff,ff,ff,ff,ff,ff,ff]) rfl npI (pF0 rfl) rfl (by kernel_rfl) rfl rfl ?_
     refine aL 1 rfl (lBs rfl rfl) rfl rfl ?_
     refine aL 2 rfl (lBa rfl rfl) rfl rfl ?_
     refine aP 5 rfl (pM rfl) rfl rfl ?_
     refine aL 6 rfl (lBa rfl rfl) rfl rfl ?_
     refine any_two (j := 3) (j' := 7) (by kernel_rfl) ?_ ?_
     ·(refine one_step0 (l' := [tt,tt,tt,tt,ff,tt,tt,ff,ff,ff,ff,ff]) rfl (step_buildSlice rfl rfl rfl (by omega) (by unfold maxLen; omega) rfl) rfl rfl ?_; rintro _ ⟨b177, rfl⟩)
      refine any_two (j := 4) (j' := 7) (by kernel_rfl) ?_ ?_
      ·(refine one_append (l' := [tt,tt,tt,tt,tt,tt,tt,ff,ff,ff,ff,ff]) rfl rfl rfl rfl rfl rfl (fun _ _ => by repeat (first | exact Sw.here | apply Sw.there)) (at_slc_all (by repeat first | exact mH | apply mT)) rfl (fun u hu => List.all_eq_true.1 hou9 u hu) (by unfold maxLen; omega) (by omega) rfl rfl (by repeat (first | exact HmOk.nil | apply HmOk.dep (by decide +kernel) | apply HmOk.im (by decide +kernel) (by assumption) (by repeat first | exact mH | apply mT) | apply HmOk.blk (by decide +kernel) (by repeat (first | exact Pk.here | apply Pk.there)) (by repeat first | exact mH | apply mT) | apply HmOk.slc (by decide +kernel) (by repeat (first | exact Pk.here | apply Pk.there)) (by repeat first | exact mH | apply mT))) (fun pn' cn' => ?_))
       refine aP 9 rfl (pF0 rfl) rfl rfl ?_
       refine aO (j := 7) (by kernel_rfl) ?_
       (refine one_step0 (l' := [tt,tt,tt,tt,tt,tt,tt,tt,ff,tt,ff,ff]) rfl (step_buildSlice rfl rfl rfl (by omega) (by unfold maxLen; omega) rfl) rfl rfl ?_; rintro _ ⟨b182, rfl⟩)
       refine aO (j := 8) (by kernel_rfl) ?_
       (refine one_append (l' := [tt,tt,tt,tt,tt,tt,tt,tt,tt,tt,ff,ff]) rfl rfl rfl rfl rfl rfl (fun _ _ => by repeat (first | exact Sw.here | apply Sw.there)) (at_slc_all (by repeat first | exact mH | apply mT)) rfl (by simp [Value.oneCell']) (by unfold maxLen; omega) (by omega) rfl rfl (by repeat (first | exact HmOk.nil | apply HmOk.dep (by decide +kernel) | apply HmOk.im (by decide +kernel) (by assumption) (by repeat first | exact mH | apply mT) | apply HmOk.blk (by decide +kernel) (by repeat (first | exact Pk.here | apply Pk.there)) (by repeat first | exact mH | apply mT) | apply HmOk.slc (by decide +kernel) (by repeat (first | exact Pk.here | apply Pk.there)) (by repeat first | exact mH | apply mT))) (fun pm' cm' => ?_))
       refine aO (j := 10) (by kernel_rfl) ?_
       refine oS rfl rfl rfl rfl rfl rfl rfl rfl ?_
       refine aP 11 rfl (pA rfl) rfl rfl ?_
       refine aD (by kernel_rfl) ?_
       refine nrm_block ?_
       refine nS ?_
       refine tR ?_
       refine sP (pure_add rfl rfl (by omega) (by omega)) rfl rfl ?_
       refine sP (pM rfl) rfl rfl ?_
       refine sD ?_
       refine nrm_loopN (i + 1, (pn', cn', us ++ [u2], es' ++ [[v1, v2, v3, v4, v5, v6, v7, v8, v9]]), (pm', cm', ts ++ [t2], ess ++ [[.int .i64 t2.k, .slice p3 t2.ks.length c3]]), l2, G3) ?_ ?_ ?_
       ·(simp only [flat_snoc]; exact sub_mk (by repeat (first | exact SubE.nil | refine SubE.cons rfl ?_)) (by repeat (first | exact SubH.refl | exact SubH.nil | refine SubH.cons (by repeat (first | exact Pk.here | apply Pk.there)) ?_ | apply SubH.drop)))
       ·(dsimp only; exact ⟨by omega, hle.trans hle3, by simp [hlu], RTmL.snoc (hst.mono hle3) hru, by simp [hlt], RTyL.snoc (hstt.mono hle3) hrt, forall_snoc hat (tValid_ar' ((el_tyS ks[i] (d + 1) _ l (hvk i (by omega)) hcvX).1 _ _ _ hE).2), mElL_succ (by omega) hml hE, by omega, by omega⟩)
       ·(show ks.length - (i + 1) < ks.length - i; omega)
      ·(refine one_step0 (l' := [tt,tt,tt,tt,ff,tt,tt,tt,ff,ff,ff,ff]) rfl (step_buildSlice rfl rfl rfl (by omega) (by unfold maxLen; omega) rfl) rfl rfl ?_; rintro _ ⟨b199, rfl⟩)
       refine aO (j := 4) (by kernel_rfl) ?_
       (refine one_append (l' := [tt,tt,tt,tt,tt,tt,tt,tt,ff,ff,ff,ff]) rfl rfl rfl rfl rfl rfl (fun _ _ => by repeat (first | exact Sw.here | apply Sw.there)) (at_slc_all (by repeat first | exact mH | apply mT)) rfl (fun u hu => List.all_eq_true.1 hou9 u hu) (by unfold maxLen; omega) (by omega) rfl rfl (by repeat (first | exact HmOk.nil | apply HmOk.dep (by decide +kernel) | apply HmOk.im (by decide +kernel) (by assumption) (by repeat first | exact mH | apply mT) | apply HmOk.blk (by decide +kernel) (by repeat (first | exact Pk.here | apply Pk.there)) (by repeat first | exact mH | apply mT) | apply HmOk.slc (by decide +kernel) (by repeat (first | exact Pk.here | apply Pk.there)) (by repeat first | exact mH | apply mT))) (fun pn' cn' => ?_))
       refine aP 9 rfl (pF0 rfl) rfl rfl ?_
       refine aO (j := 8) (by kernel_rfl) ?_
       (refine one_append (l' := [tt,tt,tt,tt,tt,tt,tt,tt,tt,tt,ff,ff]) rfl rfl rfl rfl rfl rfl (fun _ _ => by repeat (first | exact Sw.here | apply Sw.there)) (at_slc_all (by repeat first | exact mH | apply mT)) rfl (by simp [Value.oneCell']) (by unfold maxLen; omega) (by omega) rfl rfl (by repeat (first | exact HmOk.nil | apply HmOk.dep (by decide +kernel) | apply HmOk.im (by decide +kernel) (by assumption) (by repeat first | exact mH | apply mT) | apply HmOk.blk (by decide +kernel) (by repeat (first | exact Pk.here | apply Pk.there)) (by repeat first | exact mH | apply mT) | apply HmOk.slc (by decide +kernel) (by repeat (first | exact Pk.here | apply Pk.there)) (by repeat first | exact mH | apply mT))) (fun pm' cm' => ?_))
       refine aO (j := 10) (by kernel_rfl) ?_
       refine oS rfl rfl rfl rfl rfl rfl rfl rfl ?_
       refine aP 11 rfl (pA rfl) rfl rfl ?_
       refine aD (by kernel_rfl) ?_
       refine nrm_block ?_
       refine nS ?_
       refine tR ?_
       refine sP (pure_add rfl rfl (by omega) (by omega)) rfl rfl ?_
       refine sP (pM rfl) rfl rfl ?_
       refine sD ?_
       refine nrm_loopN (i + 1, (pn', cn', us ++ [u2], es' ++ [[v1, v2, v3, v4, v5, v6, v7, v8, v9]]), (pm', cm', ts ++ [t2], ess ++ [[.int .i64 t2.k, .slice p3 t2.ks.length c3]]), l2, G3) ?_ ?_ ?_
       ·(simp only [flat_snoc]; exact sub_mk (by repeat (first | exact SubE.nil | refine SubE.cons rfl ?_)) (by repeat (first | exact SubH.refl | exact SubH.nil | refine SubH.cons (by repeat (first | exact Pk.here | apply Pk.there)) ?_ | apply SubH.drop)))
       ·(dsimp only; exact ⟨by omega, hle.trans hle3, by simp [hlu], RTmL.snoc (hst.mono hle3) hru, by simp [hlt], RTyL.snoc (hstt.mono hle3) hrt, forall_snoc hat (tValid_ar' ((el_tyS ks[i] (d + 1) _ l (hvk i (by omega)) hcvX).1 _ _ _ hE).2), mElL_succ (by omega) hml hE, by omega, by omega⟩)
       ·(show ks.length - (i + 1) < ks.length - i; omega)
     ·(refine one_step0 (l' := [tt,tt,tt,ff,ff,tt,tt,tt,ff,ff,ff,ff]) rfl (step_buildSlice rfl rfl rfl (by omega) (by unfold maxLen; omega) rfl) rfl rfl ?_; rintro _ ⟨b219, rfl⟩)
      refine aO (j := 3) (by kernel_rfl) ?_
      (refine one_step0 (l' := [tt,tt,tt,tt,ff,tt,tt,tt,ff,ff,ff,ff]) rfl (step_buildSlice rfl rfl rfl (by omega) (by unfold maxLen; omega) rfl) rfl rfl ?_; rintro _ ⟨b221, rfl⟩)
      refine aO (j := 4) (by kernel_rfl) ?_
      (refine one_append (l' := [tt,tt,tt,tt,tt,tt,tt,tt,ff,ff,ff,ff]) rfl rfl rfl rfl rfl rfl (fun _ _ => by repeat (first | exact Sw.here | apply Sw.there)) (at_slc_all (by repeat first | exact mH | apply mT)) rfl (fun u hu => List.all_eq_true.1 hou9 u hu) (by unfold maxLen; omega) (by omega) rfl rfl (by repeat (first | exact HmOk.nil | apply HmOk.dep (by decide +kernel) | apply HmOk.im (by decide +kernel) (by assumption) (by repeat first | exact mH | apply mT) | apply HmOk.blk (by decide +kernel) (by repeat (first | exact Pk.here | apply Pk.there)) (by repeat first | exact mH | apply mT) | apply HmOk.slc (by decide +kernel) (by repeat (first | exact Pk.here | apply Pk.there)) (by repeat first | exact mH | apply mT))) (fun pn' cn' => ?_))
      refine aP 9 rfl (pF0 rfl) rfl rfl ?_
      refine aO (j := 8) (by kernel_rfl) ?_
      (refine one_append (l' := [tt,tt,tt,tt,tt,tt,tt,tt,tt,tt,ff,ff]) rfl rfl rfl rfl rfl rfl (fun _ _ => by repeat (first | exact Sw.here | apply Sw.there)) (at_slc_all (by repeat first | exact mH | apply mT)) rfl (by simp [Value.oneCell']) (by unfold maxLen; omega) (by omega) rfl rfl (by repeat (first | exact HmOk.nil | apply HmOk.dep (by decide +kernel) | apply HmOk.im (by decide +kernel) (by assumption) (by repeat first | exact mH | apply mT) | apply HmOk.blk (by decide +kernel) (by repeat (first | exact Pk.here | apply Pk.there)) (by repeat first | exact mH | apply mT) | apply HmOk.slc (by decide +kernel) (by repeat (first | exact Pk.here | apply Pk.there)) (by repeat first | exact mH | apply mT))) (fun pm' cm' => ?_))
      refine aO (j := 10) (by kernel_rfl) ?_
      refine oS rfl rfl rfl rfl rfl rfl rfl rfl ?_
      refine aP 11 rfl (pA rfl) rfl rfl ?_
      refine aD (by kernel_rfl) ?_
      refine nrm_block ?_
      refine nS ?_
      refine tR ?_
      refine sP (pure_add rfl rfl (by omega) (by omega)) rfl rfl ?_
      refine sP (pM rfl) rfl rfl ?_
      refine sD ?_
      refine nrm_loopN (i + 1, (pn', cn', us ++ [u2], es' ++ [[v1, v2, v3, v4, v5, v6, v7, v8, v9]]), (pm', cm', ts ++ [t2], ess ++ [[.int .i64 t2.k, .slice p3 t2.ks.length c3]]), l2, G3) ?_ ?_ ?_
      ·(simp only [flat_snoc]; exact sub_mk (by repeat (first | exact SubE.nil | refine SubE.cons rfl ?_)) (by repeat (first | exact SubH.refl | exact SubH.nil | refine SubH.cons (by repeat (first | exact Pk.here | apply Pk.there)) ?_ | apply SubH.drop)))
      ·(dsimp only; exact ⟨by omega, hle.trans hle3, by simp [hlu], RTmL.snoc (hst.mono hle3) hru, by simp [hlt], RTyL.snoc (hstt.mono hle3) hrt, forall_snoc hat (tValid_ar' ((el_tyS ks[i] (d + 1) _ l (hvk i (by omega)) hcvX).1 _ _ _ hE).2), mElL_succ (by omega) hml hE, by omega, by omega⟩)
      ·(show ks.length - (i + 1) < ks.length - i; omega)
   ·refine sD ?_
    refine nS ?_
    refine tS ?_
    refine cF rfl ?_
    refine tri_exit ?_
    refine ext_seq ?_
    refine ext_loopN ?_
    refine ext_block_eq ?_
    refine nS ?_
    refine tS ?_
    refine tR ?_
    refine sP (pM rfl) rfl rfl ?_
    refine sL (lBa rfl rfl) rfl rfl ?_
    refine sP (pM rfl) rfl rfl ?_
    (obtain rfl : i = ks.length := (by omega); have hk14 : k ≠ 14 := hv2; rw [List.take_length] at hml hl2; refine triL_freeze (cs := ess.flatten) (by repeat (first | exact Pk.here | apply Pk.there)) (fun G3 hle3 hsl3 hno3 => ?_); have hst3 := hstt.mono hle3; have hslU : SlE G3 pm ks.length cm 2 ess := SlE.of hsl3 (by rw [hst3.len, hlt]) hst3.all (fun e he => (hst3.each e he).2); refine seq_imm rfl (wanted_fn cx k nm num (.mk tk tks) (.mk fk fks) lb ks ts G3 pc nc cc _ pm ks.length cm ess (hx.mono hle3) har hlt.symm hk14 hta (hr0.mono hle3) hslU hst3 hat) rfl rfl (fun v G4 hle4 hh => ?_); obtain ⟨pw, nw, cw, ew, w, wc, wt, rfl, hnw, hslw, hstw, hrt, hw⟩ := hh; obtain ⟨p3, c3, e3, rfl, _⟩ := hrt.open; replace hst3 := hst3.mono hle4; replace hslU := hslU.mono hle4; have hle34 := hle3.trans hle4; replace hst := hst.mono hle34; replace hty := hty.mono hle34; replace hfr := hfr.mono hle34; rcases hmw : mWanted cx k nm (Ty.mk tk tks) ts with _ | ⟨w2, t2⟩; rotate_left; have hwe := hw _ hmw; simp only [Prod.mk.injEq] at hwe; obtain ⟨rfl, rfl⟩ := hwe; have hwl := mWanted_len (by rw [hlt]; exact hop) hkr hk14 hmw; have hcl2 := mCasts_lab us ts w2 l; rcases Nat.eq_zero_or_pos ks.length with h0 | h0; rotate_left; rotate_left)
    ·refine sP (pM rfl) rfl rfl ?_
     refine sP (pX rfl rfl) rfl rfl ?_
     refine sP (pX rfl rfl) rfl rfl ?_
     refine sP (pX rfl rfl) rfl rfl ?_
     (refine seq_step (step_alloc rfl) rfl ?_; rintro _ ⟨b260, rfl⟩)
     refine sP (pA rfl) rfl rfl ?_
     refine sS rfl rfl rfl rfl rfl rfl ?_
     refine sP (pA rfl) rfl rfl ?_
     refine sD ?_
     refine nS ?_
     refine tS ?_
     refine tS ?_
     refine tR ?_
     refine sP (pM rfl) rfl rfl ?_
     refine sP (pNf rfl) rfl rfl ?_
     refine sP (pM rfl) rfl rfl ?_
     refine sK rfl rfl ?_
     refine sK rfl rfl ?_
     refine sK rfl rfl ?_
     refine sP (pPt rfl rfl) rfl rfl ?_
     refine sD ?_
     refine nS ?_
     refine cT rfl ?_
     refine tS ?_
     refine tR ?_
     refine sP (pBd rfl rfl) rfl rfl ?_
     refine sP (pBd rfl rfl) rfl rfl ?_
     refine sS rfl rfl rfl rfl rfl rfl ?_
     refine sS rfl rfl rfl rfl rfl rfl ?_
     refine sP (pA rfl) rfl rfl ?_
     refine sD ?_
     refine nS ?_
     (refine ret_freeze (cs := es'.flatten) (by repeat (first | exact Pk.here | apply Pk.there)) (fun G8 hle8 hsl8 hno8 => ?_); have hst8 := hst.mono hle8)
     refine tT ?_
     refine rS ?_
     refine ret_own3 (outs := [.blk bx [.int .i64 _]]) (rC rfl (lBa rfl rfl)) (rC rfl (lBa rfl rfl)) (rT rfl) (SubH.cons (by repeat (first | exact Pk.here | apply Pk.there)) SubH.nil) ?_
     (exact ElP.no (mEl_no hml (mNodeT_no hmw)) (tm0_r _) (tyLeaf_r _ ⟨by omega, by omega⟩) (by omega) (by rw [hck]; omega))
    ·refine sP (pM rfl) rfl rfl ?_
     refine sP (pX rfl rfl) rfl rfl ?_
     refine sP (pX rfl rfl) rfl rfl ?_
     refine sP (pX rfl rfl) rfl rfl ?_
     (refine seq_step (step_alloc rfl) rfl ?_; rintro _ ⟨b297, rfl⟩)
     refine sP (pA rfl) rfl rfl ?_
     refine sS rfl rfl rfl rfl rfl rfl ?_
     refine sP (pA rfl) rfl rfl ?_
     refine sD ?_
     refine nS ?_
     refine tS ?_
     refine tS ?_
     refine tR ?_
     refine sP (pM rfl) rfl rfl ?_
     refine sP (pNt rfl) rfl rfl ?_
     refine sP (pM rfl) rfl rfl ?_
     refine sL (lBa rfl rfl) rfl rfl ?_
     refine seq_valb rfl ((typeValid_fn _ _ _ hrt)) rfl rfl (fun h310 => ?_) (fun h310 => ?_)
     ·refine sP (pNt rfl) rfl rfl ?_
      refine sP (pPf rfl rfl) rfl rfl ?_
      refine sD ?_
      refine nS ?_
      refine cF rfl ?_
      refine tK ?_
      refine nS ?_
      refine tS ?_
      refine tS ?_
      refine tR ?_
      refine sP (pM rfl) rfl rfl ?_
      refine sP (pLn rfl rfl) rfl rfl ?_
      refine sP (pM rfl) rfl rfl ?_
      refine sD ?_
      refine nS ?_
      refine tri_block ?_
      (have h0' : ks.length = 0 := h0; refine tri_loopN (fun (_ : Nat) => ⟨[(86, .int .i64 0), (85, .int .i64 nw), (84, .slice pw nw cw), (11, .slice pm ks.length cm), (1, .slice pc nc cc), (0, .pointer (some ⟨bx, 0, none⟩)), (5, .pointer (some ⟨b3, 0, none⟩)), (6, .pointer (some ⟨b4, 0, none⟩)), (7, .pointer (some ⟨b5, 0, none⟩)), (10, .pointer (some ⟨b58, 0, none⟩)), (18, .pointer (some ⟨b297, 0, none⟩))], [.blk b297 [.int .i64 t2.k, .slice p3 t2.ks.length c3], .blk b58 [.int .i64 k, .string nm, .int .i64 num, .int .i64 tk, .slice pt tks.length ct, .int .i64 fk, .slice pf fks.length cf, .int .i64 lb, .slice pn ks.length cn], .slc pn cn 36 9 ks.length es'.flatten, .blk b5 [.int .i64 0, .slice none 0 0], .blk b4 [.int .i64 0, .string ⟨⟨[]⟩⟩, .int .i64 0, .int .i64 0, .slice none 0 0, .int .i64 0, .slice none 0 0, .int .i64 0, .slice none 0 0], .blk b3 [.int .i64 k, .string nm, .int .i64 num, .int .i64 tk, .slice pt tks.length ct, .int .i64 fk, .slice pf fks.length cf, .int .i64 lb, .slice q ks.length cq], .blk bx [.int .i64 l]], G4⟩) (fun _ => True) (fun i => i) 0 ?_ ?_ ?_)
      ·exact sub_mk (by repeat (first | exact SubE.nil | refine SubE.cons rfl ?_)) (by repeat (first | exact SubH.refl | exact SubH.nil | refine SubH.cons (by repeat (first | exact Pk.here | apply Pk.there)) ?_ | apply SubH.drop))
      ·trivial
      ·(rintro (i0 : Nat) _)
       refine tS ?_
       refine tR ?_
       refine sP (pure_lss_f rfl rfl (by omega)) rfl rfl ?_
       refine sD ?_
       refine nS ?_
       refine tS ?_
       refine cF rfl ?_
       refine tri_exit ?_
       refine ext_seq ?_
       refine ext_loopN ?_
       refine ext_block_eq ?_
       refine nS ?_
       refine tS ?_
       refine tS ?_
       refine tR ?_
       refine sP (pF0 rfl) rfl rfl ?_
       refine sL (lBs rfl rfl) rfl rfl ?_
       refine sP (pure_eql_f rfl rfl (by omega)) rfl rfl ?_
       refine sD ?_
       refine nS ?_
       refine cF rfl ?_
       refine tK ?_
       refine nS ?_
       refine tS ?_
       refine tri_draw mixed rfl ?_
       refine any_load (i := 0) (l' := [tt,ff,ff,ff,ff]) rfl npI (lBa rfl rfl) rfl (by kernel_rfl) rfl rfl ?_
       refine aL 1 rfl (lBa rfl rfl) rfl rfl ?_
       refine aO (j := 2) (by kernel_rfl) ?_
       refine oS rfl rfl rfl rfl rfl rfl rfl rfl ?_
       refine aO (j := 3) (by kernel_rfl) ?_
       refine oS rfl rfl rfl rfl rfl rfl rfl rfl ?_
       refine aP 4 rfl (pA rfl) rfl rfl ?_
       refine aD (by kernel_rfl) ?_
       refine nS ?_
       (refine ret_freeze (cs := es'.flatten) (by repeat (first | exact Pk.here | apply Pk.there)) (fun G8 hle8 hsl8 hno8 => ?_); have hst8 := hst.mono hle8)
       refine tT ?_
       refine ret_own3 (outs := [.blk bx [.int .i64 _]]) (rC rfl (lBa rfl rfl)) (rC rfl (lBa rfl rfl)) (rT rfl) (SubH.cons (by repeat (first | exact Pk.here | apply Pk.there)) SubH.nil) ?_
       (obtain rfl : w2 = [] := List.length_eq_zero_iff.1 (by omega); have hne : k ≠ 13 := (fun h => by have := hop.2.2 (.inr (.inr (.inr h))); omega); have hel := mEl_go (num := num) (fr := .mk fk fks) (lb := lb) hml (mNodeT_go hmw (b := true) (by assumption)) hne; rw [mCasts_nil] at hel; exact ElP.yes hel (RTm.put hk hnum hlb (hty.mono hle8) (hfr.mono hle8) (by rw [hlu]) (SlE.of hsl8 (by rw [hst8.len, hlu]) hst8.all (fun e he => (hst8.each e he).2)) hst8) (hrt.mono hle8) (by omega) (by rw [hck]; omega))
     ·refine sP (pNf rfl) rfl rfl ?_
      refine sP (pPf rfl rfl) rfl rfl ?_
      refine sD ?_
      refine nS ?_
      refine cT rfl ?_
      refine tS ?_
      refine tR ?_
      refine sP (pBd rfl rfl) rfl rfl ?_
      refine sP (pBd rfl rfl) rfl rfl ?_
      refine sS rfl rfl rfl rfl rfl rfl ?_
      refine sS rfl rfl rfl rfl rfl rfl ?_
      refine sP (pA rfl) rfl rfl ?_
      refine sD ?_
      refine nS ?_
      (refine ret_freeze (cs := es'.flatten) (by repeat (first | exact Pk.here | apply Pk.there)) (fun G8 hle8 hsl8 hno8 => ?_); have hst8 := hst.mono hle8)
      refine tT ?_
      refine rS ?_
      refine ret_own3 (outs := [.blk bx [.int .i64 _]]) (rC rfl (lBa rfl rfl)) (rC rfl (lBa rfl rfl)) (rT rfl) (SubH.cons (by repeat (first | exact Pk.here | apply Pk.there)) SubH.nil) ?_
      (exact ElP.no (mEl_no hml (mNodeT_go hmw (b := false) (by assumption))) (tm0_r _) (tyLeaf_r _ ⟨by omega, by omega⟩) (by omega) (by rw [hck]; omega))
    ·(refine triL_open (cs := es'.flatten) (by repeat (first | exact Pk.here | apply Pk.there)) h0 (fun bc C hpe hnc hcm => ?_); subst hpe; refine sP (pM rfl) rfl rfl ?_)
     refine sP (pX rfl rfl) rfl rfl ?_
     refine sP (pX rfl rfl) rfl rfl ?_
     refine sP (pX rfl rfl) rfl rfl ?_
     (refine seq_step (step_alloc rfl) rfl ?_; rintro _ ⟨b392, rfl⟩)
     refine sP (pA rfl) rfl rfl ?_
     refine sS rfl rfl rfl rfl rfl rfl ?_
     refine sP (pA rfl) rfl rfl ?_
     refine sD ?_
     refine nS ?_
     refine tS ?_
     refine tS ?_
     refine tR ?_
     refine sP (pM rfl) rfl rfl ?_
     refine sP (pNt rfl) rfl rfl ?_
     refine sP (pM rfl) rfl rfl ?_
     refine sL (lBa rfl rfl) rfl rfl ?_
     refine seq_valb rfl ((typeValid_fn _ _ _ hrt)) rfl rfl (fun h405 => ?_) (fun h405 => ?_)
     ·refine sP (pNt rfl) rfl rfl ?_
      refine sP (pPf rfl rfl) rfl rfl ?_
      refine sD ?_
      refine nS ?_
      refine cF rfl ?_
      refine tK ?_
      refine nS ?_
      refine tS ?_
      refine tS ?_
      refine tR ?_
      refine sP (pM rfl) rfl rfl ?_
      refine sP (pLn rfl rfl) rfl rfl ?_
      refine sP (pM rfl) rfl rfl ?_
      refine sD ?_
      refine nS ?_
      refine tri_block ?_
      (have h0' := h0; refine tri_loopN (fun (x : Nat × List (List Value) × IM) => ⟨[(86, .int .i64 x.1), (85, .int .i64 nw), (84, .slice pw nw cw), (11, .slice pm ks.length cm), (1, .slice pc nc cc), (0, .pointer (some ⟨bx, 0, none⟩)), (5, .pointer (some ⟨b3, 0, none⟩)), (6, .pointer (some ⟨b4, 0, none⟩)), (7, .pointer (some ⟨b5, 0, none⟩)), (10, .pointer (some ⟨b58, 0, none⟩)), (18, .pointer (some ⟨b392, 0, none⟩))], [.blk b392 [.int .i64 t2.k, .slice p3 t2.ks.length c3], .blk b58 [.int .i64 k, .string nm, .int .i64 num, .int .i64 tk, .slice pt tks.length ct, .int .i64 fk, .slice pf fks.length cf, .int .i64 lb, .slice (some ⟨bc, 0, none⟩) ks.length cn], .blk bc (x.2.1.flatten ++ C), .blk b5 [.int .i64 0, .slice none 0 0], .blk b4 [.int .i64 0, .string ⟨⟨[]⟩⟩, .int .i64 0, .int .i64 0, .slice none 0 0, .int .i64 0, .slice none 0 0, .int .i64 0, .slice none 0 0], .blk b3 [.int .i64 k, .string nm, .int .i64 num, .int .i64 tk, .slice pt tks.length ct, .int .i64 fk, .slice pf fks.length cf, .int .i64 lb, .slice q ks.length cq], .blk bx [.int .i64 (mCasts us ts (w2.take x.1) l).2]], x.2.2⟩) (fun x => x.1 ≤ nw ∧ IMle G4 x.2.2 ∧ RTmL x.2.2 (mCasts us ts (w2.take x.1) l).1 x.2.1) (fun x => nw - x.1) (0, es', G4) ?_ ?_ ?_)
      ·(simp only [List.take_zero, mCasts_nil]; exact (sub_mk (by repeat (first | exact SubE.nil | refine SubE.cons rfl ?_)) (by repeat (first | exact SubH.refl | exact SubH.nil | refine SubH.cons (by repeat (first | exact Pk.here | apply Pk.there)) ?_ | apply SubH.drop))))
      ·(exact ⟨Nat.zero_le _, IMle.refl _, by simp only [List.take_zero, mCasts_nil]; exact hst⟩)
      ·(rintro ⟨j, es2, G6⟩ ⟨hj, hle6, hst2⟩; simp only [] at hj hle6 hst2 ⊢; replace hslw := hslw.mono hle6; replace hstw := hstw.mono hle6; replace hslU := hslU.mono hle6; replace hst3 := hst3.mono hle6; replace hty := hty.mono hle6; replace hfr := hfr.mono hle6; replace hrt := hrt.mono hle6; have hall2 := hst2.all; have hle2s := hst2.len; rw [mCasts_len] at hle2s)
       refine tS ?_
       refine tR ?_
       refine sB (pure_lss rfl rfl) rfl rfl (fun h428 => ?_) (fun h428 => ?_)
       ·refine sD ?_
        refine nS ?_
        refine tS ?_
        refine cT rfl ?_
        refine tK ?_
        refine nS ?_
        refine tS ?_
        refine tri_block ?_
        refine tS ?_
        refine tR ?_
        refine sP (pM rfl) rfl rfl ?_
        (have hjw : j < w2.length := (by omega); obtain ⟨b5w, o5w, q5, d5, hp5, hat, hrw, hgb⟩ := hslw.kidTy hstw (i := j) (by omega) (by omega); cases hp5; refine sP (pIN rfl rfl rfl (by omega)) rfl rfl ?_)
        refine sL (load_a rfl rfl (hat _) rfl) rfl rfl ?_
        (refine seq_step (step_alloc rfl) rfl ?_; rintro _ ⟨b442, rfl⟩)
        refine sP (pA rfl) rfl rfl ?_
        refine sS rfl rfl rfl rfl rfl rfl ?_
        refine sD ?_
        refine nS ?_
        (have hjw2 := hjw; obtain ⟨b0, o0, q0, d0, hp0, hat0, hre0, hg0⟩ := hslU.kidTy hst3 (i := j) (by omega) (by omega); cases hp0; obtain ⟨m1, m2, _⟩ := mCasts_succ us ts w2 l j hjw (by omega) (by omega); obtain ⟨m3, m4⟩ := mCasts_next (us := us) (h := ts) (w := w2) (l := l) hjw (by omega) (by omega); obtain ⟨hE1, hE2⟩ := hst2.at2 (i := j) (by omega) (by omega); rw [m2] at hE2; have hE3 := hE2.len; have hE4 := hE2.one; have hcj := mCasts_lab us ts (w2.take j) l; refine tri_draw mixed rfl ?_)
        refine any_pure (i := 0) (l' := [tt,ff,ff,ff,ff,ff,ff,ff,ff,ff,ff,ff,ff,ff,ff,ff,ff]) rfl npI (pF0 rfl) rfl (by kernel_rfl) rfl rfl ?_
        refine aL 1 rfl (lBs rfl rfl) rfl rfl ?_
        refine aP 2 rfl (pM rfl) rfl rfl ?_
        refine aP 3 rfl (pM rfl) rfl rfl ?_
        refine aP 4 rfl (pF0 rfl) rfl rfl ?_
        refine aL 5 rfl (lBs rfl rfl) rfl rfl ?_
        refine aP 6 rfl (pM rfl) rfl rfl ?_
        refine aP 7 rfl (pIN (j := j) rfl rfl rfl (by omega)) rfl rfl ?_
        refine aL 8 rfl (load_a rfl rfl (at_elem (es := es2) (by repeat first | exact mH | apply mT) (by omega) hall2) hE3) rfl rfl ?_
        refine aP 9 rfl (pM rfl) rfl rfl ?_
        refine aP 10 rfl (pM rfl) rfl rfl ?_
        refine aP 11 rfl (pIN (j := j) rfl rfl rfl (by omega)) rfl rfl ?_
        refine aL 12 rfl (load_a rfl rfl (hat0 _) rfl) rfl rfl ?_
        refine aL 13 rfl (lBa rfl rfl) rfl rfl ?_
        refine aO (j := 14) (by kernel_rfl) ?_
        (refine one_take (l' := [tt,tt,tt,tt,tt,tt,tt,tt,tt,tt,tt,tt,tt,tt,tt,ff,ff]) rfl rfl (elCast_fn bx us[j] ts[j] w2[j] (mCasts us ts (w2.take j) l).2 G6 _ _ _ (by omega) hE2 hre0 hrw) (Pk.perm (by repeat (first | exact Pk.here | apply Pk.there))) rfl rfl rfl (by repeat (first | exact HmOk.nil | apply HmOk.dep (by decide +kernel) | apply HmOk.im (by decide +kernel) (by assumption) (by repeat first | exact mH | apply mT) | apply HmOk.blk (by decide +kernel) (by repeat (first | exact Pk.here | apply Pk.there)) (by repeat first | exact mH | apply mT) | apply HmOk.slc (by decide +kernel) (by repeat (first | exact Pk.here | apply Pk.there)) (by repeat first | exact mH | apply mT))) (fun v G7 outs hle7 hh => ?_); obtain ⟨uc, rfl, rfl, hru⟩ := hh; rw [← m4]; have hlu9 := hru.len; have hou9 := hru.one)
        refine aP 15 rfl (pIN (j := j) rfl rfl rfl (by omega)) rfl rfl ?_
        refine aO (j := 16) (by kernel_rfl) ?_
        refine one_store rfl rfl rfl rfl hlu9 hou9 rfl rfl (by kernel_rfl) (by repeat first | exact Sw.here | apply Sw.there) (by exact upd_set (by omega) hall2 hlu9) ?_
        refine aD (by kernel_rfl) ?_
        refine nrm_block ?_
        refine nS ?_
        refine tR ?_
        refine sP (pure_add rfl rfl (by omega) (by omega)) rfl rfl ?_
        refine sP (pM rfl) rfl rfl ?_
        refine sD ?_
        refine nrm_loopN (j + 1, es2.set j uc, G7) ?_ ?_ ?_
        ·(simp only [List.take_zero, mCasts_nil]; exact (sub_mk (by repeat (first | exact SubE.nil | refine SubE.cons rfl ?_)) (by repeat (first | exact SubH.refl | exact SubH.nil | refine SubH.cons (by repeat (first | exact Pk.here | apply Pk.there)) ?_ | apply SubH.drop))))
        ·(dsimp only; exact ⟨by omega, hle6.trans hle7, by rw [m3]; exact RTmL.set (hst2.mono hle7) hru⟩)
        ·(show nw - (j + 1) < nw - j; omega)
       ·refine sD ?_
        refine nS ?_
        refine tS ?_
        refine cF rfl ?_
        refine tri_exit ?_
        refine ext_seq ?_
        refine ext_loopN ?_
        refine ext_block_eq ?_
        refine nS ?_
        refine tS ?_
        refine tS ?_
        refine tR ?_
        refine sP (pF0 rfl) rfl rfl ?_
        refine sL (lBs rfl rfl) rfl rfl ?_
        refine sB (pE rfl rfl) rfl rfl (fun h492 => ?_) (fun h492 => ?_)
        ·refine sD ?_
         refine nS ?_
         refine cT rfl ?_
         refine tS ?_
         (have hq13 : k = 13 := (by omega); have hl13 := hop.2.2 (.inr (.inr (.inr hq13))); have hjw : j = w2.length := (by omega); rw [hjw, List.take_length] at hst2; have hm0 := mCasts_len us ts w2 l; obtain ⟨hE1, hE2⟩ := hst2.at2 (i := 0) (by omega) (by omega); have hE3 := hE2.len; have hE4 := hE2.one; refine tri_draw mixed rfl ?_)
         refine any_pure (i := 0) (l' := [tt,ff,ff,ff,ff,ff,ff,ff]) rfl npI (pF0 rfl) rfl (by kernel_rfl) rfl rfl ?_
         refine aL 1 rfl (lBs rfl rfl) rfl rfl ?_
         refine aP 2 rfl (pIN (j := 0) rfl rfl rfl (by omega)) rfl rfl ?_
         refine aL 3 rfl (load_a rfl rfl (at_elem (es := es2) (by repeat first | exact mH | apply mT) (by omega) hall2) hE3) rfl rfl ?_
         refine aL 4 rfl (lBa rfl rfl) rfl rfl ?_
         refine aO (j := 5) (by kernel_rfl) ?_
         refine oS rfl rfl rfl rfl hE3 hE4 rfl rfl ?_ (hu := by exact upd_all hE3.symm)
         refine aO (j := 6) (by kernel_rfl) ?_
         refine oS rfl rfl rfl rfl rfl rfl rfl rfl ?_
         refine aP 7 rfl (pA rfl) rfl rfl ?_
         refine aD (by kernel_rfl) ?_
         refine nS ?_
         (refine tri_freezes (bs := [(bc, es2.flatten ++ C)]) (Pk.perm (by repeat (first | exact Pk.here | apply Pk.there))) (fun hn9 hd9 hle9 => ?_))
         refine tT ?_
         refine rS ?_
         refine ret_own3 (outs := [.blk bx [.int .i64 _]]) (rC rfl (load_a rfl rfl (at_blk_all (by repeat first | exact mH | apply mT)) hE3)) (rC rfl (lBa rfl rfl)) (rT rfl) (SubH.cons (by repeat (first | exact Pk.here | apply Pk.there)) SubH.nil) ?_
         (have hel := mEl_as (num := num) (fr := .mk fk fks) (lb := lb) hml (mNodeT_go hmw (b := true) (by assumption)) hq13; rw [getD0 (by omega)] at hel; rw [hjw, List.take_length]; exact ElP.yes hel (hE2.mono hle9) (hrt.mono hle9) (by omega) (by rw [hck]; omega))
        ·refine sD ?_
         refine nS ?_
         refine cF rfl ?_
         refine tK ?_
         refine nS ?_
         refine tS ?_
         refine tri_draw mixed rfl ?_
         refine any_load (i := 0) (l' := [tt,ff,ff,ff,ff]) rfl npI (lBa rfl rfl) rfl (by kernel_rfl) rfl rfl ?_
         refine aL 1 rfl (lBa rfl rfl) rfl rfl ?_
         refine aO (j := 2) (by kernel_rfl) ?_
         refine oS rfl rfl rfl rfl rfl rfl rfl rfl ?_
         refine aO (j := 3) (by kernel_rfl) ?_
         refine oS rfl rfl rfl rfl rfl rfl rfl rfl ?_
         refine aP 4 rfl (pA rfl) rfl rfl ?_
         refine aD (by kernel_rfl) ?_
         refine nS ?_
         (refine tri_freezes (bs := [(bc, es2.flatten ++ C)]) (Pk.perm (by repeat (first | exact Pk.here | apply Pk.there))) (fun hn9 hd9 hle9 => ?_))
         refine tT ?_
         refine ret_own3 (outs := [.blk bx [.int .i64 _]]) (rC rfl (lBa rfl rfl)) (rC rfl (lBa rfl rfl)) (rT rfl) (SubH.cons (by repeat (first | exact Pk.here | apply Pk.there)) SubH.nil) ?_
         (have hjw : j = w2.length := (by omega); rw [hjw, List.take_length] at hst2; have hst9 := hst2.mono hle9; have hel := mEl_go (num := num) (fr := .mk fk fks) (lb := lb) hml (mNodeT_go hmw (b := true) (by assumption)) (show k ≠ 13 by omega); rw [hjw, List.take_length]; have hm0 := mCasts_len us ts w2 l; exact ElP.yes hel (RTm.put hk hnum hlb (hty.mono hle9) (hfr.mono hle9) (by rw [hm0, hlu]) (SlE.of (Sl.of_blk (A := []) (by rw [flat_len hst9.all, hst9.len, hm0, hlu]) (by omega) hcm (Wi.in hn9 List.mem_cons_self)) (by rw [hst9.len, hm0, hlu]) hst9.all (fun e he => (hst9.each e he).2)) hst9) (hrt.mono hle9) (by omega) (by rw [hck]; omega))
     ·refine sP (pNf rfl) rfl rfl ?_
      refine sP (pPf rfl rfl) rfl rfl ?_
      refine sD ?_
      refine nS ?_
      refine cT rfl ?_
      refine tS ?_
      refine tR ?_
      refine sP (pBd rfl rfl) rfl rfl ?_
      refine sP (pBd rfl rfl) rfl rfl ?_
      refine sS rfl rfl rfl rfl rfl rfl ?_
      refine sS rfl rfl rfl rfl rfl rfl ?_
      refine sP (pA rfl) rfl rfl ?_
      refine sD ?_
      refine nS ?_
      refine tT ?_
      refine rS ?_
      refine ret_own3 (outs := [.blk bx [.int .i64 _]]) (rC rfl (lBa rfl rfl)) (rC rfl (lBa rfl rfl)) (rT rfl) (SubH.cons (by repeat (first | exact Pk.here | apply Pk.there)) SubH.nil) ?_
      (exact ElP.no (mEl_no hml (mNodeT_go hmw (b := false) (by assumption))) (tm0_r _) (tyLeaf_r _ ⟨by omega, by omega⟩) (by omega) (by rw [hck]; omega))
end Gw
end Go.Proofs.YtaiafkcflhcdaaaGreatDoor
namespace Go.Proofs.YtaiafkcflhcdaaaGreatDoor
open Go Go.RowKit
namespace Gw
/-- A term that is valid, or none. -/
def mChk (r : Tm) : Tm × Bool := if castValid r = true then (r, true) else (tm0, false)
def mReplaceAt (t : Tm) (path : List Int) (x : Tm) : Tm × Bool := if castValid t = true ∧ castValid x = true ∧ tAt t path ≠ none then mChk (mPut t path x) else (tm0, false)
end Gw
end Go.Proofs.YtaiafkcflhcdaaaGreatDoor
namespace Go.Proofs.YtaiafkcflhcdaaaGreatDoor
open Go Go.RowKit
namespace Gw
mutual
theorem sShape_down (D N : Int) : ∀ (t : Tm) (d d' : Int), d' ≤ d → sShape D N t d = true → sShape D N t d' = true
 | .mk k nm num ty fr lb ks, d, d', hd, h => by
  obtain ⟨h1, h2, h3, h4⟩ := sShape_go2 h
  rw [sShape_go (by omega) h2 h3]
  exact sShapeL_down D N ks _ _ (by omega) h4
theorem sShapeL_down (D N : Int) : ∀ (ts : List Tm) (d d' : Int), d' ≤ d → sShapeL D N ts d = true → sShapeL D N ts d' = true
 | [], d, d', hd, h => by rw [sShapeL]
 | t :: ts, d, d', hd, h => by
  rw [sShapeL, Bool.and_eq_true] at h ⊢
  exact ⟨sShape_down D N t d d' hd h.1, sShapeL_down D N ts d d' hd h.2⟩
end
end Gw
end Go.Proofs.YtaiafkcflhcdaaaGreatDoor
namespace Go.Proofs.YtaiafkcflhcdaaaGreatDoor
open Go Go.RowKit
namespace Gw
end Gw
end Go.Proofs.YtaiafkcflhcdaaaGreatDoor
namespace Go.Proofs.YtaiafkcflhcdaaaGreatDoor
open Go Go.RowKit
namespace Gw
end Gw
end Go.Proofs.YtaiafkcflhcdaaaGreatDoor
namespace Go.Proofs.YtaiafkcflhcdaaaGreatDoor
open Go Go.RowKit
namespace Gw
theorem castTy_go' {cx : Cx} {k : Int} {nm : ByteArray} {num : Int} {ty fr : Ty} {lb : Int} {ks : List Tm} {T : Ty} {us w : List Ty} (hu : castTyL (inCx cx k nm ty) ks = some us) (hk : k ≠ 14) (hv : tValid T = true) (hw : mWanted cx k nm ty us = some (w, T)) (hs : sameTo w us = true) : castTy cx (.mk k nm num ty fr lb ks) = some T := by
 rw [castTy, hu]
 simp only [if_neg hk]
 unfold mNodeT
 rw [hw]
 simp only [hv, if_true, hs]
theorem castTyL_1 {cx : Cx} {a : Tm} {us : List Ty} (h : castTyL cx [a] = some us) : ∃ x, castTy cx a = some x ∧ us = [x] := by
 rw [castTyL] at h
 split at h
 ·cases h
 ·rename_i x hx
  rw [castTyL] at h
  simp only [Option.some.injEq] at h
  exact ⟨x, hx, h.symm⟩
theorem castTyL_mk1 {cx : Cx} {a : Tm} {x : Ty} (h : castTy cx a = some x) : castTyL cx [a] = some [x] := by rw [castTyL, h]; rfl
mutual
theorem tCons_self : ∀ a : Ty, tCons a a = true
 | .mk k ks => by rw [tCons_mk, tConsL_self ks]; simp
theorem tConsL_self : ∀ xs : List Ty, tConsL xs xs = true
 | [] => rfl
 | a :: xs => by rw [tConsL, tCons_self a, tConsL_self xs]; rfl
end
mutual
theorem mMeet_self : ∀ a : Ty, mMeet a a = a
 | .mk k ks => by
  rw [mMeet_mk, mMeetL_self ks]
  by_cases h : k = 1
  ·rw [if_pos h]
  ·rw [if_neg h, if_neg h]
theorem mMeetL_self : ∀ xs : List Ty, mMeetL xs xs = xs
 | [] => rfl
 | a :: xs => by rw [mMeetL, mMeet_self a, mMeetL_self xs]
end
theorem two_of {k : Int} {ks : List Ty} (hk : k = 4 ∨ k = 5) (h : tValid (.mk k ks) = true) : ∃ a b, ks = [a, b] ∧ tValid a = true ∧ tValid b = true := by
 unfold tValid at h ⊢
 rw [tScan_mk, Bool.and_eq_true, Bool.and_eq_true, decide_eq_true_eq, decide_eq_true_eq] at h
 have h2 : ks.length = 2 := by
  have : tyOps k = 2 := by rcases hk with rfl | rfl <;> rfl
  omega
 match ks, h2, h.2 with
 | [x, y], _, hL =>
  simp only [tScanL, Bool.and_eq_true] at hL
  exact ⟨x, y, rfl, tScan_up _ 2 1 (by omega) hL.1, tScan_up _ 2 1 (by omega) hL.2.1⟩
section inv
variable {cx : Cx} {nm : ByteArray} {num : Int} {ty fr : Ty} {lb : Int} {a b c : Tm} {T : Ty}
theorem sameTo_self : ∀ xs : List Ty, sameTo xs xs = true
 | [] => rfl
 | a :: xs => by rw [sameTo, tSame_self, sameTo_self xs]; rfl
theorem ty_cast_mk (h : castTy cx a = some fr) : castTy cx (.mk 14 nm num ty fr lb [a]) = some ty := by
 rw [castTy, show inCx cx 14 nm ty = cx from rfl, castTyL_mk1 h]
 simp only [if_true, List.getD_cons_zero, tSame_self]
end inv
/- A type depends on what the names stand for, no more. -/
end Gw
end Go.Proofs.YtaiafkcflhcdaaaGreatDoor
namespace Go.Proofs.YtaiafkcflhcdaaaGreatDoor
open Go Go.RowKit
namespace Gw
mutual
/-- All labels of casts are of a kind. -/
def lbOk (L : Int → Prop) : Tm → Prop
 | .mk k nm num ty fr lb ks => (k = 14 → L lb) ∧ lbOkL L ks
def lbOkL (L : Int → Prop) : List Tm → Prop
 | [] => True
 | t :: ts => lbOk L t ∧ lbOkL L ts
end
/-- What a step of a closed term with a type is. -/
def Good (L : Int → Prop) (T : Ty) (r : Stp) : Prop := (r.2.1 = 1 ∧ castTy [] r.1 = some T ∧ lbOk L r.1) ∨ (r.2.1 = 2 ∧ L r.2.2)
end Gw
end Go.Proofs.YtaiafkcflhcdaaaGreatDoor
namespace Go.Proofs.YtaiafkcflhcdaaaGreatDoor
open Go Go.RowKit
namespace Gw
mutual
theorem tCons_symm : ∀ a b : Ty, tCons a b = true → tCons b a = true
 | .mk k ks, .mk k' ks', h => by
  rw [tCons_mk] at h ⊢
  simp only [Bool.or_eq_true, Bool.and_eq_true, decide_eq_true_eq] at h ⊢
  rcases h with (h | h) | h
  ·exact .inl (.inr h)
  ·exact .inl (.inl h)
  ·exact .inr ⟨h.1.symm, tConsL_symm ks ks' h.2⟩
theorem tConsL_symm : ∀ xs ys : List Ty, tConsL xs ys = true → tConsL ys xs = true
 | [], [], _ => rfl
 | [], b :: ys, h => by simp [tConsL] at h
 | a :: xs, [], h => by simp [tConsL] at h
 | a :: xs, b :: ys, h => by
  simp only [tConsL, Bool.and_eq_true] at h ⊢
  exact ⟨tCons_symm a b h.1, tConsL_symm xs ys h.2⟩
end
mutual
theorem cons_meet : ∀ a b : Ty, tCons a b = true → tCons a (mMeet a b) = true ∧ tCons b (mMeet a b) = true
 | .mk k ks, .mk k' ks', h => by
  rw [mMeet_mk]
  by_cases h1 : k = 1
  ·rw [if_pos h1]
   exact ⟨h, tCons_self _⟩
  ·rw [if_neg h1]
   by_cases h2 : k' = 1
   ·rw [if_pos h2]
    exact ⟨tCons_self _, tCons_symm _ _ h⟩
   ·rw [if_neg h2]
    rw [tCons_mk] at h
    simp only [Bool.or_eq_true, Bool.and_eq_true, decide_eq_true_eq] at h
    have h3 : k = k' ∧ tConsL ks ks' = true := by
     rcases h with (h | h) | h
     ·exact absurd h h1
     ·exact absurd h h2
     ·exact h
    obtain ⟨m1, m2⟩ := cons_meetL ks ks' h3.2
    rw [tCons_mk, tCons_mk, m1, m2]
    simp [h3.1]
theorem cons_meetL : ∀ xs ys : List Ty, tConsL xs ys = true → tConsL xs (mMeetL xs ys) = true ∧ tConsL ys (mMeetL xs ys) = true
 | [], [], _ => ⟨rfl, rfl⟩
 | [], b :: ys, h => by simp [tConsL] at h
 | a :: xs, [], h => by simp [tConsL] at h
 | a :: xs, b :: ys, h => by
  simp only [tConsL, Bool.and_eq_true] at h
  obtain ⟨m1, m2⟩ := cons_meet a b h.1
  obtain ⟨m3, m4⟩ := cons_meetL xs ys h.2
  simp only [mMeetL, tConsL, m1, m2, m3, m4]
  exact ⟨rfl, rfl⟩
end
theorem valid_two {k : Int} {a b : Ty} (hk : k = 4 ∨ k = 5) (h : tValid (.mk k [a, b]) = true) : tValid a = true ∧ tValid b = true := by
 obtain ⟨x, y, he, h1, h2⟩ := two_of hk h
 cases he
 exact ⟨h1, h2⟩
theorem valid_any2 {k : Int} (hk : k = 4 ∨ k = 5) : tValid (.mk k [tyAny, tyAny]) = true := by rcases hk with rfl | rfl <;> decide
/-- The operands of a matched type: the type wanted is valid, and consistent with it. -/
theorem match_ok {k : Int} {t a b : Ty} (hk : k = 4 ∨ k = 5) (ht : tValid t = true) (h : mMatch k t = some (a, b)) : tValid (.mk k [a, b]) = true ∧ tCons t (.mk k [a, b]) = true := by
 obtain ⟨tk, ks⟩ := t
 rw [mMatch_mk] at h
 by_cases he : tk = k
 ·subst he
  rw [if_pos rfl] at h
  obtain ⟨x, y, rfl, _, _⟩ := two_of hk ht
  cases h
  exact ⟨ht, tCons_self _⟩
 ·rw [if_neg he] at h
  by_cases h1 : tk = 1
  ·rw [if_pos h1] at h
   cases h
   refine ⟨valid_any2 hk, ?_⟩
   rw [tCons_mk, h1]; rfl
  ·rw [if_neg h1] at h; cases h
/-- What is wanted of the operands. -/
structure Wt (cx : Cx) (k : Int) (nm : ByteArray) (ty : Ty) (h w : List Ty) (t : Ty) : Prop where
 len : w = [] ∨ w.length = h.length
 ok : ∀ i, (hi : i < w.length) → (hh : i < h.length) → tCons h[i] w[i] = true ∧ tValid w[i] = true
 again : k ≠ 13 → mWanted cx k nm ty (if w = [] then h else w) = some (w, t)
 asT : k = 13 → w = [t]
theorem wanted_wt {cx : Cx} {k : Int} {nm : ByteArray} {ty : Ty} {h w : List Ty} {t : Ty} (hh : ∀ a ∈ h, tValid a = true) (hty : k = 13 → tValid ty = true) (hn : tmOps k = (h.length : Int)) (h14 : k ≠ 14) (hw : mWanted cx k nm ty h = some (w, t)) : Wt cx k nm ty h w t := by
 have hkr := tmOps_rng (by rw [hn]; omega : 0 ≤ tmOps k)
 have hkk : k = 1 ∨ k = 2 ∨ (k = 3 ∨ k = 4) ∨ k = 5 ∨ k = 6 ∨ (k = 7 ∨ k = 8) ∨ k = 9 ∨ k = 10 ∨ (k = 11 ∨ k = 12) ∨ k = 13 := by omega
 have nil : w = [] → k ≠ 13 → Wt cx k nm ty h w t := by
  rintro rfl h13
  exact ⟨.inl rfl, fun i hi => by simp at hi, fun _ => by rw [if_pos rfl]; exact hw, fun h => absurd h h13⟩
 rcases hkk with rfl | rfl | hk | rfl | rfl | hk | rfl | rfl | hk | rfl
 ·refine nil ?_ (by decide)
  rw [mW1] at hw; split at hw <;> cases hw; rfl
 ·refine nil ?_ (by decide)
  rw [mW2] at hw; cases hw; rfl
 ·refine nil ?_ (by omega)
  rw [mW34 hk] at hw; cases hw; rfl
 ·refine nil ?_ (by decide)
  rw [mW5] at hw; cases hw; rfl
 ·match h, (show h.length = 2 by have : tmOps 6 = 2 := rfl; omega) with
  | [x, y], _ =>
  rw [mW6] at hw
  simp only [List.getD_cons_zero, List.getD_cons_succ] at hw
  split at hw
  ·rename_i a b hm
   split at hw
   ·rename_i hc
    cases hw
    obtain ⟨v1, v2⟩ := match_ok (.inl rfl) (hh x (by simp)) hm
    obtain ⟨v3, v4⟩ := valid_two (.inl rfl) v1
    refine ⟨.inr rfl, fun i hi hi2 => ?_, fun _ => ?_, fun h => absurd h (by decide)⟩
    ·match i, hi with
     | 0, _ => exact ⟨v2, v1⟩
     | 1, _ => exact ⟨hc, v3⟩
    ·rw [if_neg (by simp), mW6]
     simp only [List.getD_cons_zero, List.getD_cons_succ, mMatch_mk, if_true, tCons_self]
   ·cases hw
  ·cases hw
 ·match h, (show h.length = 2 by rcases hk with rfl | rfl <;> (first | (have : tmOps 7 = 2 := rfl; omega) | (have : tmOps 8 = 2 := rfl; omega))) with
  | [x, y], _ =>
  rw [mW78 hk] at hw
  simp only [List.getD_cons_zero, List.getD_cons_succ] at hw
  split at hw
  ·rename_i hc
   cases hw
   refine ⟨.inr rfl, fun i hi hi2 => ?_, fun _ => ?_, fun h => by omega⟩
   ·match i, hi with
    | 0, _ => exact ⟨hc.1, (show tValid tyInt = true by decide)⟩
    | 1, _ => exact ⟨hc.2, (show tValid tyInt = true by decide)⟩
   ·rw [if_neg (by simp), mW78 hk]
    simp only [List.getD_cons_zero, List.getD_cons_succ, tCons_self, and_self, if_true]
  ·cases hw
 ·match h, (show h.length = 3 by have : tmOps 9 = 3 := rfl; omega) with
  | [x, y, z], _ =>
  rw [mW9] at hw
  simp only [List.getD_cons_zero, List.getD_cons_succ] at hw
  split at hw
  ·rename_i hc
   cases hw
   obtain ⟨c1, c2⟩ := cons_meet y z hc.2
   have vm := meet_scan y z 1 hc.2 (hh y (by simp)) (hh z (by simp))
   refine ⟨.inr rfl, fun i hi hi2 => ?_, fun _ => ?_, fun h => absurd h (by decide)⟩
   ·match i, hi with
    | 0, _ => exact ⟨hc.1, (show tValid tyBool = true by decide)⟩
    | 1, _ => exact ⟨c1, vm⟩
    | 2, _ => exact ⟨c2, vm⟩
   ·rw [if_neg (by simp), mW9]
    simp only [List.getD_cons_zero, List.getD_cons_succ, tCons_self, and_self, if_true, mMeet_self]
  ·cases hw
 ·refine nil ?_ (by decide)
  rw [mW10] at hw; cases hw; rfl
 ·match h, (show h.length = 1 by rcases hk with rfl | rfl <;> (first | (have : tmOps 11 = 1 := rfl; omega) | (have : tmOps 12 = 1 := rfl; omega))) with
  | [x], _ =>
  rw [mW11 hk] at hw
  simp only [List.getD_cons_zero] at hw
  split at hw
  ·rename_i a b hm
   cases hw
   obtain ⟨v1, v2⟩ := match_ok (.inr rfl) (hh x (by simp)) hm
   refine ⟨.inr rfl, fun i hi hi2 => ?_, fun _ => ?_, fun h => by omega⟩
   ·match i, hi with
    | 0, _ => exact ⟨v2, v1⟩
   ·rw [if_neg (by simp), mW11 hk]
    simp only [List.getD_cons_zero, List.getD_cons_succ, mMatch_mk, if_true]
  ·cases hw
 ·match h, (show h.length = 1 by have : tmOps 13 = 1 := rfl; omega) with
  | [x], _ =>
  rw [mW13] at hw
  simp only [List.getD_cons_zero] at hw
  split at hw
  ·rename_i hc
   cases hw
   refine ⟨.inr rfl, fun i hi hi2 => ?_, fun h => absurd rfl h, fun _ => rfl⟩
   match i, hi with
   | 0, _ => exact ⟨hc, hty rfl⟩
  ·cases hw
theorem labelOk_of {l : Int} (h1 : 1 ≤ l) (h2 : l ≤ 99) : labelOk l = true := by
 unfold labelOk
 rw [withinB_iff.2 ⟨h1, h2⟩]; rfl
/-- A cast that is put in is valid. -/
theorem cst_shape {u : Tm} {a b : Ty} {l D : Int} (hu : sShape 40 13 u (D + 1) = true) (hc : tCons a b = true) (ha : tValid a = true) (hb : tValid b = true) (h1 : 1 ≤ l) (h2 : l ≤ 99) (hD : D ≤ 40) : sShape 40 13 (mCst u a b l) D = true := by
 unfold mCst
 rw [sShape_go hD (by decide) (tmNode_iff.2 ⟨rfl, by simp, fun _ => rfl, by simp, fun _ => rfl, fun _ => hb, by simp, fun _ => ⟨by simp [tConsistent, ha, hb, hc], labelOk_of h1 h2⟩, by simp⟩)]
 simp [sShapeL, hu]
theorem casts_ok {cx : Cx} : ∀ (us : List Tm) (h w : List Ty) (l D : Int), us.length = h.length → w.length = h.length → (∀ i, (hi : i < w.length) → (hh : i < h.length) → tCons h[i] w[i] = true ∧ tValid w[i] = true) → (∀ a ∈ h, tValid a = true) → castTyL cx us = some h → sShapeL 40 13 us (D + 1) = true → 0 ≤ l → (mCasts us h w l).2 ≤ 99 → D ≤ 40 →
  castTyL cx (mCasts us h w l).1 = some w ∧ sShapeL 40 13 (mCasts us h w l).1 D = true ∧ (tmCountL (mCasts us h w l).1 : Int) = tmCountL us + ((mCasts us h w l).2 - l)
 | [], [], [], l, D, _, _, _, _, ht, _, _, _, _ => by simp [mCasts, castTyL, sShapeL, tmCountL]
 | [], a :: h, w, l, D, hl, _, _, _, _, _, _, _, _ => by simp at hl
 | u :: us, [], w, l, D, hl, _, _, _, _, _, _, _, _ => by simp at hl
 | [], [], b :: w, l, D, _, hl, _, _, _, _, _, _, _ => by simp at hl
 | u :: us, a :: h, [], l, D, _, hl, _, _, _, _, _, _, _ => by simp at hl
 | u :: us, a :: h, b :: w, l, D, h1, h2, hw, hv, ht, hs, hl, h99, hD => by
  rw [castTyL] at ht
  split at ht
  ·cases ht
  ·rename_i a' ha
   split at ht
   ·cases ht
   ·rename_i h' hh'
    simp only [Option.some.injEq, List.cons.injEq] at ht
    obtain ⟨rfl, rfl⟩ := ht
    rw [sShapeL, Bool.and_eq_true] at hs
    obtain ⟨c1, c2⟩ := hw 0 (by simp) (by simp)
    have hw' : ∀ i, (hi : i < w.length) → (hh : i < h'.length) → tCons h'[i] w[i] = true ∧ tValid w[i] = true := fun i hi hh => hw (i + 1) (by simpa using hi) (by simpa using hh)
    have hv' : ∀ x ∈ h', tValid x = true := fun x hx => hv x (List.mem_cons_of_mem _ hx)
    simp only [mCasts] at h99 ⊢
    by_cases he : tSame a' b = true
    ·simp only [if_pos he] at h99 ⊢
     obtain ⟨i1, i2, i3⟩ := casts_ok us h' w l D (by simpa using h1) (by simpa using h2) hw' hv' hh' hs.2 hl h99 hD
     have hab := (tSame_iff _ _).1 he
     subst hab
     refine ⟨by rw [castTyL, ha, i1], ?_, ?_⟩
     ·rw [sShapeL, Bool.and_eq_true]; exact ⟨sShape_down 40 13 u (D + 1) D (by omega) hs.1, i2⟩
     ·simp only [tmCountL]; omega
    ·simp only [if_neg he] at h99 ⊢
     obtain ⟨i1, i2, i3⟩ := casts_ok us h' w (l + 1) D (by simpa using h1) (by simpa using h2) hw' hv' hh' hs.2 (by omega) h99 hD
     have hlab := mCasts_lab us h' w (l + 1)
     refine ⟨by rw [castTyL, mCst, ty_cast_mk ha, i1], ?_, ?_⟩
     ·rw [sShapeL, Bool.and_eq_true]
      exact ⟨cst_shape hs.1 c1 (hv a' List.mem_cons_self) c2 (by omega) (by omega) hD, i2⟩
     ·simp only [tmCountL, cst_count]; omega
def ElGood (cx : Cx) (t : Tm) (D l : Int) (u : Tm) (a : Ty) (l' : Int) : Prop := sShape 40 13 u D = true ∧ castTy cx u = some a ∧ tValid a = true ∧ l ≤ l' ∧ l' + 1 ≤ l + (tmCount t : Int) ∧ (tmCount u : Int) ≤ tmCount t + (l' - l)
theorem el_goodL (ks : List Tm) (ih : ∀ t ∈ ks, ∀ (d D : Int) (cx : Cx) (l : Int) (u : Tm) (a : Ty) (l' : Int), sShape 12 14 t d = true → cxV cx → 0 ≤ l → mEl cx t l = some (u, a, l') → l' ≤ 99 → D + 2 * (13 - d) ≤ 41 → ElGood cx t D l u a l') :
  ∀ (d D : Int) (cx : Cx) (l : Int) (us : List Tm) (h : List Ty) (l' : Int), sShapeL 12 14 ks d = true → cxV cx → 0 ≤ l → mElL cx ks l = some (us, h, l') → l' ≤ 99 → D + 2 * (13 - d) ≤ 41 →
   sShapeL 40 13 us D = true ∧ castTyL cx us = some h ∧ (∀ a ∈ h, tValid a = true) ∧ l ≤ l' ∧ l' + ks.length ≤ l + (tmCountL ks : Int) ∧ (tmCountL us : Int) ≤ tmCountL ks + (l' - l) ∧ h.length = ks.length ∧ us.length = ks.length := by
 induction ks with
 | nil =>
  intro d D cx l us h l' _ _ _ he _ _
  simp only [mElL, Option.some.injEq, Prod.mk.injEq] at he
  obtain ⟨rfl, rfl, rfl⟩ := he
  simp [sShapeL, castTyL, tmCountL]
 | cons t ts ihl =>
  intro d D cx l us h l' hs hcx hl he h99 hD
  rw [sShapeL, Bool.and_eq_true] at hs
  rw [mElL] at he
  split at he
  ·cases he
  ·rename_i u a l1 h1
   split at he
   ·cases he
   ·rename_i us' h' l2 h2
    simp only [Option.some.injEq, Prod.mk.injEq] at he
    obtain ⟨rfl, rfl, rfl⟩ := he
    have hp := tmCount_pos t
    -- the labels of the later operands go on from here
    have hmono : l1 ≤ l2 := by
     have : ∀ (zs : List Tm) (l : Int) us h l', mElL cx zs l = some (us, h, l') → l ≤ l' := by
      intro zs
      induction zs with
      | nil => intro l us h l' he; simp only [mElL, Option.some.injEq, Prod.mk.injEq] at he; omega
      | cons z zs ihz =>
       intro l us h l' he
       rw [mElL] at he
       split at he
       ·cases he
       ·rename_i u a l1 hz
        split at he
        ·cases he
        ·rename_i us' h' l2 hzs
         simp only [Option.some.injEq, Prod.mk.injEq] at he
         have := ihz _ _ _ _ hzs
         have := el_mono cx z l _ _ _ hz
         omega
     exact this ts l1 us' h' l2 h2
    obtain ⟨a1, a2, a3, a4, a5, a6⟩ := ih t List.mem_cons_self d D cx l u a l1 hs.1 hcx hl h1 (by omega) hD
    obtain ⟨b1, b2, b3, b4, b5, b6, b7, b8⟩ := ihl (fun x hx => ih x (List.mem_cons_of_mem _ hx)) d D cx l1 us' h' l2 hs.2 hcx (by omega) h2 h99 hD
    refine ⟨by rw [sShapeL, a1, b1]; rfl, by rw [castTyL, a2, b2], ?_, by omega, ?_, ?_, by simp [b7], by simp [b8]⟩
    ·intro x hx
     rcases List.mem_cons.1 hx with h | h
     ·rw [h]; exact a3
     ·exact b3 x h
    ·simp only [tmCountL, List.length_cons]; omega
    ·simp only [tmCountL]; omega
where
 el_mono (cx : Cx) : ∀ (z : Tm) (l : Int) (u : Tm) (a : Ty) (l' : Int), mEl cx z l = some (u, a, l') → l ≤ l' := by
  intro z
  revert cx
  refine Tm.ind (C := fun z => ∀ (cx : Cx) (l : Int) (u : Tm) (a : Ty) (l' : Int), mEl cx z l = some (u, a, l') → l ≤ l') ?_ z
  intro k nm num ty fr lb ks ih cx l u a l' he
  rw [mEl] at he
  have hL : ∀ (zs : List Tm), (∀ t ∈ zs, t ∈ ks) → ∀ (cx : Cx) (l : Int) us h l', mElL cx zs l = some (us, h, l') → l ≤ l' := by
   intro zs
   induction zs with
   | nil => intro _ cx l us h l' he; simp only [mElL, Option.some.injEq, Prod.mk.injEq] at he; omega
   | cons z zs ihz =>
    intro hin cx l us h l' he
    rw [mElL] at he
    split at he
    ·cases he
    ·rename_i u a l1 hz
     split at he
     ·cases he
     ·rename_i us' h' l2 hzs
      simp only [Option.some.injEq, Prod.mk.injEq] at he
      have := ihz (fun t ht => hin t (List.mem_cons_of_mem _ ht)) _ _ _ _ _ hzs
      have := ih z (hin z List.mem_cons_self) _ l _ _ _ hz
      omega
  split at he
  ·cases he
  ·rename_i us h l1 hk
   have h1 := hL ks (fun _ h => h) _ _ _ _ _ hk
   unfold mElN at he
   split at he
   ·cases he
   ·rename_i w t hn
    simp only [Option.some.injEq, Prod.mk.injEq] at he
    have := mCasts_lab us h w l1
    omega
theorem el_good : ∀ (t : Tm) (d D : Int) (cx : Cx) (l : Int) (u : Tm) (a : Ty) (l' : Int), sShape 12 14 t d = true → cxV cx → 0 ≤ l → mEl cx t l = some (u, a, l') → l' ≤ 99 → D + 2 * (13 - d) ≤ 41 → ElGood cx t D l u a l' := by
 refine Tm.ind fun k nm num ty fr lb ks ih d D cx l u a l' hs hcx hl he h99 hD => ?_
 obtain ⟨hd, h14, h3, h4⟩ := sShape_go2 hs
 obtain ⟨n1, n2, n3, n4, n5, n6, n7, n8, n9⟩ := tmNode_iff.1 h3
 rw [mEl] at he
 split at he
 ·cases he
 ·rename_i us h l1 hL
  unfold mElN at he
  split at he
  ·cases he
  ·rename_i w t hN
   simp only [Option.some.injEq, Prod.mk.injEq] at he
   obtain ⟨hu, rfl, rfl⟩ := he
   have hlab := mCasts_lab us h w l1
   obtain ⟨b1, b2, b3, b4, b5, b6, b7, b8⟩ := el_goodL ks ih (d + 1) (D + 2) (inCx cx k nm ty) l us h l1 h4 (cxV_in hcx fun hk => n6 (.inl hk)) hl hL (by omega) (by omega)
   obtain ⟨hv, hw⟩ := mNodeT_valid hN
   have hwt := wanted_wt b3 (fun hk => n6 (.inr (.inl hk))) (by rw [b7]; exact n1) h14 hw
   -- the operands behind their casts
   obtain ⟨c1, c2, c3⟩ : castTyL (inCx cx k nm ty) (mCasts us h w l1).1 = some (if w = [] then h else w) ∧ sShapeL 40 13 (mCasts us h w l1).1 (D + 1) = true ∧ (tmCountL (mCasts us h w l1).1 : Int) = tmCountL us + ((mCasts us h w l1).2 - l1) := by
    rcases hwt.len with hn | hn
    ·subst hn
     rw [mCasts_nil, if_pos rfl]
     refine ⟨b2, ?_, by simp⟩
     exact sShapeL_down 40 13 us (D + 2) (D + 1) (by omega) b1
    ·by_cases hn0 : w = []
     ·subst hn0
      rw [mCasts_nil, if_pos rfl]
      refine ⟨b2, ?_, by simp⟩
      exact sShapeL_down 40 13 us (D + 2) (D + 1) (by omega) b1
     ·rw [if_neg hn0]
      exact casts_ok us h w l1 (D + 1) (by omega) hn hwt.ok b3 b2 (by rw [show D + 1 + 1 = D + 2 by omega]; exact b1) (by omega) h99 (by omega)
   have hlm := mCasts_len us h w l1
   have hck : tmCount (.mk k nm num ty fr lb ks) = tmCountL ks + 1 := tmCount_mk ..
   refine ⟨?_, ?_, hv, by omega, by rw [hck]; omega, ?_⟩
   ·rw [← hu]
    split
    ·rename_i hk
     have hl1 : ks.length = 1 := by rw [hk] at n1; have : tmOps 13 = 1 := rfl; omega
     have h0 : 0 < (mCasts us h w l1).1.length := by omega
     rw [getD0' h0]
     have := (sShapeL_iff 40 13 _ _).1 c2 0 h0
     exact sShape_down 40 13 _ (D + 1) D (by omega) this
    ·rename_i hk
     rw [sShape_go (by omega) hk (by rw [hlm, b8]; exact h3)]
     exact c2
   ·rw [← hu]
    split
    ·rename_i hk
     have hl1 : ks.length = 1 := by rw [hk] at n1; have : tmOps 13 = 1 := rfl; omega
     have h0 : 0 < (mCasts us h w l1).1.length := by omega
     rw [getD0' h0]
     rw [hwt.asT hk, if_neg (by simp)] at c1
     rw [inCx, if_neg (by omega)] at c1
     rw [← hwt.asT hk] at c1
     obtain ⟨x, hx⟩ : ∃ x, (mCasts us h w l1).1 = [x] := by
      match hm : (mCasts us h w l1).1, (show (mCasts us h w l1).1.length = 1 by omega) with
      | [x], _ => exact ⟨x, rfl⟩
     simp only [hx, List.getElem_cons_zero] at c1 ⊢
     obtain ⟨y, hy, he⟩ := castTyL_1 c1
     rw [hwt.asT hk] at he
     cases he; exact hy
    ·rename_i hk
     refine castTy_go' c1 h14 hv (hwt.again hk) ?_
     by_cases hn0 : w = []
     ·rw [hn0]; rfl
     ·rw [if_neg hn0]; exact sameTo_self w
   ·rw [← hu, hck]
    split
    ·rename_i hk
     have hl1 : ks.length = 1 := by rw [hk] at n1; have : tmOps 13 = 1 := rfl; omega
     have h0 : 0 < (mCasts us h w l1).1.length := by omega
     rw [getD0' h0]
     have := tmCount_mem (List.getElem_mem h0)
     omega
    ·rw [tmCount_mk]; omega
where
 getD0' {us : List Tm} (h : 0 < us.length) : us.getD 0 tm0 = us[0] := by rw [List.getD_eq_getElem?_getD, List.getElem?_eq_getElem h, Option.getD_some]
theorem el_labK : ∀ (t : Tm) (d : Int) (cx : Cx) (l : Int) (u : Tm) (a : Ty) (l' : Int), sShape 12 14 t d = true → mEl cx t l = some (u, a, l') → l' + 1 ≤ l + (tmCount t : Int) := by
 refine Tm.ind fun k nm num ty fr lb ks ih d cx l u a l' hs he => ?_
 obtain ⟨hd, h14, h3, h4⟩ := sShape_go2 hs
 obtain ⟨n1, _⟩ := tmNode_iff.1 h3
 have hL : ∀ (zs : List Tm), (∀ t ∈ zs, t ∈ ks) → sShapeL 12 14 zs (d + 1) = true → ∀ (cx : Cx) (l : Int) us h l', mElL cx zs l = some (us, h, l') → l' + zs.length ≤ l + (tmCountL zs : Int) ∧ us.length = zs.length := by
  intro zs
  induction zs with
  | nil => intro _ _ cx l us h l' he; simp only [mElL, Option.some.injEq, Prod.mk.injEq] at he; obtain ⟨rfl, _, rfl⟩ := he; simp [tmCountL]
  | cons z zs ihz =>
   intro hin hsz cx l us h l' he
   rw [sShapeL, Bool.and_eq_true] at hsz
   rw [mElL] at he
   split at he
   ·cases he
   ·rename_i u a l1 hz
    split at he
    ·cases he
    ·rename_i us' h' l2 hzs
     simp only [Option.some.injEq, Prod.mk.injEq] at he
     obtain ⟨rfl, rfl, rfl⟩ := he
     have h5 := ihz (fun t ht => hin t (List.mem_cons_of_mem _ ht)) hsz.2 _ _ _ _ _ hzs
     have h6 := ih z (hin z List.mem_cons_self) (d + 1) _ l _ _ _ hsz.1 hz
     simp only [tmCountL, List.length_cons]
     exact ⟨by omega, by omega⟩
 rw [mEl] at he
 split at he
 ·cases he
 ·rename_i us h l1 hk
  obtain ⟨g1, g2⟩ := hL ks (fun _ h => h) h4 _ _ _ _ _ hk
  unfold mElN at he
  split at he
  ·cases he
  ·rename_i w t hn
   simp only [Option.some.injEq, Prod.mk.injEq] at he
   have := mCasts_lab us h w l1
   have hck : tmCount (.mk k nm num ty fr lb ks) = tmCountL ks + 1 := tmCount_mk ..
   rw [hck]; omega
/-- What comes of putting in casts is a valid term with casts, of the type. -/
theorem insert_good {e u : Tm} {t : Ty} (h : mInsert e = some (u, t)) : castValid u = true ∧ castTy [] u = some t ∧ tValid t = true := by
 unfold mInsert at h
 split at h
 ·rename_i hv
  obtain ⟨h1, h2⟩ := (termValid_iff e).1 hv
  split at h
  ·rename_i u' t' l' he
   cases h
   have hl : l' ≤ 99 := by
    have := el_goodL.el_mono [] e 0 _ _ _ he
    have h3 : ∀ (t : Tm) (cx : Cx) (l : Int) (u : Tm) (a : Ty) (l' : Int), mEl cx t l = some (u, a, l') → l' ≤ l + 4 * (tmCount t : Int) → True := fun _ _ _ _ _ _ _ _ => trivial
    exact el_lab e 1 h1 (by omega) he
   obtain ⟨g1, g2, g3, g4, g5, g6⟩ := el_good e 1 1 [] 0 u t l' h1 cxV_nil (by omega) he hl (by omega)
   exact ⟨(castValid_iff u).2 ⟨g1, by omega⟩, g2, g3⟩
  ·cases h
 ·cases h
where
 el_lab (e : Tm) (d : Int) (h1 : sShape 12 14 e d = true) (h2 : tmCount e ≤ 30) {u : Tm} {t : Ty} {l' : Int} (he : mEl [] e 0 = some (u, t, l')) : l' ≤ 99 := by
  have := el_labK e d [] 0 u t l' h1 he
  omega
end Gw
end Go.Proofs.YtaiafkcflhcdaaaGreatDoor
namespace Go.Proofs.YtaiafkcflhcdaaaGreatDoor
open Go Go.RowKit
namespace Gw
end Gw
end Go.Proofs.YtaiafkcflhcdaaaGreatDoor
namespace Go.Proofs.YtaiafkcflhcdaaaGreatDoor
open Go Go.RowKit
namespace Gw
/-- A term with casts and its type, if there are such. -/
def InsX (r : Option (Tm × Ty)) : IM → Value → List Ent → Prop := Imm fun G' v => ∃ cu ct, v = .tuple ⟨[.agg ⟨cu⟩, .agg ⟨ct⟩, .bool r.isSome]⟩ ∧ RTm G' (r.getD (tm0, ty0)).1 cu ∧ RTy G' (r.getD (tm0, ty0)).2 ct
theorem InsX.no {G : IM} {r : Option (Tm × Ty)} {cu ct : List Value} (h : r = none) (hu : RTm G tm0 cu) (ht : RTy G ty0 ct) : InsX r G (.tuple ⟨[.agg ⟨cu⟩, .agg ⟨ct⟩, .bool false]⟩) [] := by subst h; exact ⟨rfl, cu, ct, rfl, hu, ht⟩
theorem InsX.yes {G : IM} {r : Option (Tm × Ty)} {u : Tm} {t : Ty} {cu ct : List Value} (h : r = some (u, t)) (hu : RTm G u cu) (ht : RTy G t ct) : InsX r G (.tuple ⟨[.agg ⟨cu⟩, .agg ⟨ct⟩, .bool true]⟩) [] := by subst h; exact ⟨rfl, cu, ct, rfl, hu, ht⟩
theorem insert_no {e : Tm} (h : termValid e = false) : mInsert e = none := by unfold mInsert; rw [if_neg (by rw [h]; decide)]
theorem insert_none {e : Tm} (h : termValid e = true) (h2 : mEl [] e 0 = none) : mInsert e = none := by unfold mInsert; rw [if_pos h, h2]
theorem insert_some {e u : Tm} {t : Ty} {l : Int} (h : termValid e = true) (h2 : mEl [] e 0 = some (u, t, l)) : mInsert e = some (u, t) := by unfold mInsert; rw [if_pos h, h2]
set_option maxHeartbeats 0 in
set_option maxRecDepth 100000 in
theorem insertCastsX_fn (e : Tm) (G : IM) (cells : List Value) (hr : RTm G e cells) : Fn Tryz.prog 44 [.agg ⟨cells⟩] [] G (InsX (mInsert e)) := by
 have hRl := hr.len
 have hRo := hr.one
 have hV := termValid_fn e G cells hr
 have hno := @insert_no e
 have hnn := @insert_none e
 have hso := @insert_some e
 refine fn_enter Tryz.func44 rfl Tryz.ntmps44 Tryz.results44 rfl ?_
 intro w0
 refine tS (tR ?_)
 (refine seq_step (step_box_a rfl rfl) rfl ?_; rintro _ ⟨b3, rfl⟩)
 (refine seq_step (step_alloc rfl) rfl ?_; rintro _ ⟨b4, rfl⟩)
 (refine seq_step (step_alloc rfl) rfl ?_; rintro _ ⟨b5, rfl⟩)
 refine sP (pA rfl) rfl rfl (sD (nS (tS (tS (tR (sL (load_a rfl rfl (at_blk_all (by repeat first | exact mH | apply mT)) hRl) rfl rfl ?_))))))
 refine seq_valb rfl (hV) rfl rfl (fun h13 => ?_) (fun h13 => ?_)
 refine sP (pNt rfl) rfl rfl (sD (nS (cF rfl ?_)))
 refine tK (nS (tS (tR (sP (pBd rfl rfl) rfl rfl ?_))))
 (refine seq_step (step_box_a rfl rfl) rfl ?_; rintro _ ⟨b23, rfl⟩)
 refine sL (load_a rfl rfl (at_blk_all (by repeat first | exact mH | apply mT)) hRl) rfl rfl ?_
 focus (have htv : termValid e = true := (by assumption); obtain ⟨hsh, hcn⟩ := (termValid_iff e).1 htv; refine seq_take rfl (elTerm_fn _ e 1 [] 0 G none 0 0 _ hsh (by omega) cxV_nil (RCx.nil G) hr (by omega) (by omega)) (Pk.perm (by repeat (first | exact Pk.here | apply Pk.there))) rfl rfl (fun v G1 outs hle1 hh => ?_); obtain ⟨u, uc, t, tc, l3, rfl, rfl, hru, hrt, hl3, hl4, hu⟩ := hh; have hul := hru.len; have huo := hru.one; obtain ⟨p3, c3, e3, rfl, _⟩ := hrt.open; have hnn := hnn htv; have hso := @hso u t l3 htv; rcases hE : mEl [] e 0 with _ | ⟨u2, t2, l2⟩; rotate_left; have hue := hu _ hE; simp only [Prod.mk.injEq] at hue; obtain ⟨rfl, rfl, rfl⟩ := hue; have hso := hso hE; obtain ⟨hg1, hg2, hg3⟩ := insert_good hso; rotate_left; simp only [Option.isSome]; rotate_left; simp only [Option.isSome])
 refine sP (pM rfl) rfl rfl (sP (pX rfl rfl) rfl rfl (sP (pX rfl rfl) rfl rfl (sP (pX rfl rfl) rfl rfl ?_)))
 (refine seq_step (step_alloc rfl) rfl ?_; rintro _ ⟨b30, rfl⟩)
 (refine seq_step (step_alloc rfl) rfl ?_; rintro _ ⟨b31, rfl⟩)
 refine sS rfl rfl rfl hul huo rfl ?_ (hu := by exact upd_all hul.symm)
 refine sS rfl rfl rfl rfl rfl rfl ?_
 refine sP (pA rfl) rfl rfl (sD (nS (tS (tS (tR (sP (pM rfl) rfl rfl ?_))))))
 refine sP (pNt rfl) rfl rfl (sD (nS (cF rfl ?_)))
 refine tK (nS (tS (tri_draw mixed rfl ?_)))
 refine any_load (i := 0) (l' := [tt,ff,ff,ff,ff,ff,ff]) rfl npI (load_a rfl rfl (at_blk_all (by repeat first | exact mH | apply mT)) hul) rfl (by kernel_rfl) rfl rfl ?_
 refine aL 2 rfl (lBa rfl rfl) rfl rfl ?_
 refine aO (j := 1) (by kernel_rfl) ?_
 (refine one_imm (l' := [tt,tt,tt,ff,ff,ff,ff]) rfl rfl (own_fn _ _ _ (cV_small hg1) hru) rfl rfl rfl (fun v G2 hle2 hh => ?_); obtain ⟨cs2, F2, rfl, hs2, hn2⟩ := hh; have hwl := hs2.R.len; have hwo := hs2.R.one; have hr2 := hs2.R.mono (Dif.le G2 G1); replace hrt := hrt.mono hle2)
 refine aO (j := 3) (by kernel_rfl) ?_
 (refine one_imm (l' := [tt,tt,tt,tt,ff,ff,ff]) rfl rfl (ownType_fn _ _ _ (tValid_ar' hg3).small hrt) rfl rfl rfl (fun v G3 hle3 hh => ?_); obtain ⟨cs3, F3, rfl, hs3, hn3⟩ := hh; obtain ⟨p4, c4, rfl, _⟩ := hs3.open; have hr3 := hs3.R.mono (Dif.le G3 G2); replace hr2 := hr2.mono hle3)
 refine aO (j := 4) (by kernel_rfl) ?_
 refine oS rfl rfl rfl rfl hwl hwo rfl rfl ?_ (hu := by exact upd_all hwl.symm)
 refine aO (j := 5) (by kernel_rfl) ?_
 refine oS rfl rfl rfl rfl rfl rfl rfl rfl ?_
 refine aP 6 rfl (pA rfl) rfl rfl ?_
 refine aD (by kernel_rfl) ?_
 refine nS (tT (rF3 (rC rfl (load_a rfl rfl (at_blk_all (by repeat first | exact mH | apply mT)) hwl)) (rC rfl (lBa rfl rfl)) (rT rfl) ?_))
 (exact InsX.yes hso hr2 hr3)
 refine sP (pM rfl) rfl rfl (sP (pX rfl rfl) rfl rfl (sP (pX rfl rfl) rfl rfl (sP (pX rfl rfl) rfl rfl ?_)))
 (refine seq_step (step_alloc rfl) rfl ?_; rintro _ ⟨b69, rfl⟩)
 (refine seq_step (step_alloc rfl) rfl ?_; rintro _ ⟨b70, rfl⟩)
 refine sS rfl rfl rfl hul huo rfl ?_ (hu := by exact upd_all hul.symm)
 refine sS rfl rfl rfl rfl rfl rfl ?_
 refine sP (pA rfl) rfl rfl (sD (nS (tS (tS (tR (sP (pM rfl) rfl rfl ?_))))))
 refine sP (pNf rfl) rfl rfl (sD (nS (cT rfl ?_)))
 refine tS (tR (sP (pBd rfl rfl) rfl rfl (sP (pBd rfl rfl) rfl rfl (sS rfl rfl rfl rfl rfl rfl ?_))))
 refine sS rfl rfl rfl rfl rfl rfl ?_
 refine sP (pA rfl) rfl rfl (sD (nS (tT (rS (rF3 (rC rfl (lBa rfl rfl)) (rC rfl (lBa rfl rfl)) (rT rfl) ?_)))))
 (exact InsX.no (hnn hE) (tm0_r _) (tyLeaf_r _ ⟨by omega, by omega⟩))
 refine sP (pNf rfl) rfl rfl (sD (nS (cT rfl ?_)))
 refine tS (tR (sP (pBd rfl rfl) rfl rfl (sP (pBd rfl rfl) rfl rfl (sS rfl rfl rfl rfl rfl rfl ?_))))
 refine sS rfl rfl rfl rfl rfl rfl ?_
 refine sP (pA rfl) rfl rfl (sD (nS (tT (rS (rF3 (rC rfl (lBa rfl rfl)) (rC rfl (lBa rfl rfl)) (rT rfl) ?_)))))
 (exact InsX.no (hno (by assumption)) (tm0_r _) (tyLeaf_r _ ⟨by omega, by omega⟩))
/-- The type of a term. -/
def mTypeOf (e : Tm) : Option Ty := match mInsert e with | some (_, t) => some t | none => none
theorem typeOf_no {e : Tm} (h : termValid e = false) : mTypeOf e = none := by unfold mTypeOf; rw [insert_no h]
end Gw
end Go.Proofs.YtaiafkcflhcdaaaGreatDoor
namespace Go.Proofs.YtaiafkcflhcdaaaGreatDoor
open Go Go.RowKit
namespace Gw
section
variable {ak bk : Int} {aks bks : List Ty}
theorem tS_k (h : ak ≠ bk) : tSame (.mk ak aks) (.mk bk bks) = false := by rw [tSame_mk, decide_eq_false h]; rfl
theorem tS_len (h : aks.length ≠ bks.length) : tSame (.mk ak aks) (.mk bk bks) = false := by
 rw [tSame_mk]
 cases hl : tSameL aks bks with
 | false => simp
 | true => exact absurd ((tSameL_iff _ _).1 hl).1 h
theorem tS_no {i : Nat} (hi : i < aks.length) (hi' : i < bks.length) (h : tSame aks[i] bks[i] = false) : tSame (.mk ak aks) (.mk bk bks) = false := by
 rw [tSame_mk]
 cases hl : tSameL aks bks with
 | false => simp
 | true => have := ((tSameL_iff _ _).1 hl).2 i hi hi'; rw [h] at this; cases this
theorem tS_yes (hk : ak = bk) (hl : aks.length = bks.length) (h : ∀ i, (h : i < aks.length) → (h' : i < bks.length) → tSame aks[i] bks[i] = true) : tSame (.mk ak aks) (.mk bk bks) = true := by
 rw [tSame_mk, decide_eq_true hk, (tSameL_iff _ _).2 ⟨hl, h⟩]; rfl
end
set_option maxHeartbeats 0 in
set_option maxRecDepth 100000 in
theorem sTypeSameX_fn : ∀ (a b : Ty) (G : IM) (ca cb : List Value), RTy G a ca → RTy G b cb → Fn Tryz.prog 150 [.agg ⟨ca⟩, .agg ⟨cb⟩] [] G (Val (.bool (tSame a b)) G) := by
 refine Ty.ind fun ak aks ih b G ca cb hra hrb => ?_
 obtain ⟨bk, bks⟩ := b
 obtain ⟨pa, cca, ea, rfl, hak, hsla, hkla⟩ := hra.open
 obtain ⟨pb, ccb, eb, rfl, hbk, hslb, hklb⟩ := hrb.open
 simp only [Ty.k, Ty.ks] at hak hsla hkla hbk hslb hklb ⊢
 have hna := hsla.le
 have hnb := hslb.le
 have e1 := @tS_k ak bk aks bks
 have e2 := @tS_len ak bk aks bks
 have e3 := fun i => @tS_no ak bk aks bks i
 have e4 := @tS_yes ak bk aks bks
 generalize tSame (.mk ak aks) (.mk bk bks) = R at e1 e2 e3 e4 ⊢
 refine fn_enter Tryz.func150 rfl Tryz.ntmps150 Tryz.results150 rfl ?_
 intro w0
 refine tS (tR ?_)
 (refine seq_step (step_box_a rfl rfl) rfl ?_; rintro _ ⟨b3, rfl⟩)
 (refine seq_step (step_box_a rfl rfl) rfl ?_; rintro _ ⟨b4, rfl⟩)
 refine sP (pA rfl) rfl rfl (sD (nS (tS (tS (tR (sP (pF0 rfl) rfl rfl ?_))))))
 refine sL (lBs rfl rfl) rfl rfl ?_
 refine sP (pF0 rfl) rfl rfl (sL (lBs rfl rfl) rfl rfl ?_)
 refine sB (pure_neq rfl rfl) rfl rfl (fun h15 => ?_) (fun h15 => ?_)
 refine sP (pM rfl) rfl rfl (sK rfl rfl (sK rfl rfl (sK rfl rfl (sK rfl rfl (sK rfl rfl (sK rfl rfl ?_))))))
 refine sK rfl rfl (sP (pPt rfl rfl) rfl rfl (sD (nS (cT rfl ?_))))
 refine tS (tR (sP (pA rfl) rfl rfl (sD (nS (tT (rS ?_))))))
 refine rF1 (rT rfl) ?_
 (exact ⟨rfl, by rw [e1 (by omega)], rfl⟩)
 refine sP (pM rfl) rfl rfl (sP (pF0 rfl) rfl rfl (sL (lBs rfl rfl) rfl rfl ?_))
 refine sP (pLn rfl rfl) rfl rfl (sP (pF0 rfl) rfl rfl (sL (lBs rfl rfl) rfl rfl ?_))
 refine sP (pLn rfl rfl) rfl rfl (sB (pure_neq rfl rfl) rfl rfl (fun h44 => ?_) (fun h44 => ?_))
 refine sP (pPf rfl rfl) rfl rfl (sD (nS (cT rfl ?_)))
 refine tS (tR (sP (pA rfl) rfl rfl (sD (nS (tT (rS ?_))))))
 refine rF1 (rT rfl) ?_
 (exact ⟨rfl, by rw [e2 (by omega)], rfl⟩)
 refine sP (pPf rfl rfl) rfl rfl (sD (nS (cF rfl ?_)))
 refine tK (nS (tS (tS (tR (sP (pA rfl) rfl rfl (sD ?_))))))
 refine nS (tri_block ?_)
 (refine tri_loopN (fun (i : Nat) => ⟨[(5, .int .i64 i), (2, .pointer (some ⟨b3, 0, none⟩)), (3, .pointer (some ⟨b4, 0, none⟩))], [.blk b4 [.int .i64 bk, .slice pb bks.length ccb], .blk b3 [.int .i64 ak, .slice pa aks.length cca]], G⟩) (fun i => i ≤ aks.length ∧ ∀ j, (h : j < aks.length) → (h' : j < bks.length) → j < i → tSame aks[j] bks[j] = true) (fun i => aks.length - i) 0 ?_ ?_ ?_)
 exact sub_mk (by repeat (first | exact SubE.nil | refine SubE.cons rfl ?_)) (by repeat (first | exact SubH.refl | exact SubH.nil | refine SubH.cons (by repeat (first | exact Pk.here | apply Pk.there)) ?_ | apply SubH.drop))
 (exact ⟨Nat.zero_le _, fun j _ _ hj => absurd hj (Nat.not_lt_zero j)⟩)
 (rintro i ⟨hi, hall⟩)
 refine tS (tS (tR (sP (pM rfl) rfl rfl (sP (pF0 rfl) rfl rfl (sL (lBs rfl rfl) rfl rfl ?_)))))
 refine sP (pLn rfl rfl) rfl rfl (sB (pure_lss rfl rfl) rfl rfl (fun h82 => ?_) (fun h82 => ?_))
 refine sD (nS (cT rfl ?_))
 refine tK (nS (tS (tri_block (tS ?_))))
 (obtain ⟨b, o, q0, d0, hp0, hat0, hre0, hg0⟩ := hsla.kidTy hkla (i := i) (by omega) (by omega); obtain ⟨b', o', q1, d1, hp1, hat1, hre1, hg1⟩ := hslb.kidTy hklb (i := i) (by omega) (by omega); subst hp0; subst hp1; have hih := ih aks[i] (List.getElem_mem (by omega)) bks[i] G _ _ hre0 hre1; refine tri_draw mixed rfl ?_)
 refine any_pure (i := 0) (l' := [tt,ff,ff,ff,ff,ff,ff,ff,ff,ff,ff,ff]) rfl npI (pF0 rfl) rfl (by kernel_rfl) rfl rfl ?_
 refine aL 1 rfl (lBs rfl rfl) rfl rfl ?_
 refine aP 2 rfl (pM rfl) rfl rfl ?_
 refine aP 3 rfl (pIN rfl rfl rfl (by omega)) rfl rfl ?_
 refine aL 4 rfl (load_a rfl rfl (hat0 _) rfl) rfl rfl ?_
 refine aP 5 rfl (pF0 rfl) rfl rfl ?_
 refine aL 6 rfl (lBs rfl rfl) rfl rfl ?_
 refine aP 7 rfl (pM rfl) rfl rfl ?_
 refine aP 8 rfl (pIN rfl rfl rfl (by omega)) rfl rfl ?_
 refine aL 9 rfl (load_a rfl rfl (hat1 _) rfl) rfl rfl ?_
 refine aO (j := 10) (by kernel_rfl) ?_
 refine one_valb (l' := [tt,tt,tt,tt,tt,tt,tt,tt,tt,tt,tt,ff]) rfl rfl (hih) rfl rfl rfl (fun h103 => ?_) (fun h103 => ?_)
 refine aP 11 rfl (pNt rfl) rfl rfl ?_
 refine aD (by kernel_rfl) ?_
 refine nS (cF rfl ?_)
 refine tK (nrm_block (nS (tR (sP (pM rfl) rfl rfl (sP (pure_add rfl rfl (by omega) (by omega)) rfl rfl ?_)))))
 refine sP (pA rfl) rfl rfl (sD (nrm_loopN (i + 1) ?_ ?_ ?_))
 exact sub_mk (by repeat (first | exact SubE.nil | refine SubE.cons rfl ?_)) (by repeat (first | exact SubH.refl | exact SubH.nil | refine SubH.cons (by repeat (first | exact Pk.here | apply Pk.there)) ?_ | apply SubH.drop))
 (exact ⟨by omega, fun j h h' hj => by by_cases hji : j = i; (subst hji; assumption); exact hall j h h' (by omega)⟩)
 omega
 refine aP 11 rfl (pNf rfl) rfl rfl ?_
 refine aD (by kernel_rfl) ?_
 refine nS (cT rfl ?_)
 refine tS (tR (sP (pA rfl) rfl rfl (sD (nS (tT (rB ?_))))))
 refine rS (ret_loopN (rB (rS (rF1 (rT rfl) ?_))))
 (exact ⟨rfl, by rw [e3 i (by omega) (by omega) (by assumption)], rfl⟩)
 refine sD (nS (cF rfl ?_))
 refine tri_exit ?_
 refine ext_seq ?_
 refine ext_loopN ?_
 refine ext_block_eq ?_
 refine nS (tS (tR (sP (pA rfl) rfl rfl (sD (nS (tT ?_))))))
 refine rF1 (rT rfl) ?_
 (exact ⟨rfl, by rw [e4 (by omega) (by omega) (fun j h h' => hall j h h' (by omega))], rfl⟩)
set_option maxHeartbeats 0 in
set_option maxRecDepth 100000 in
theorem l3MoreX_fn (G : IM) (cx : Cx) (p : Option Addr) (n c : Nat) (nm : ByteArray) (t : Ty) (cells : List Value) (hx : RCx G cx p n c) (hn : n ≤ 1000) (hr : RTy G t cells) :
  Fn Tryz.prog 137 [.slice p n c, .string nm, .agg ⟨cells⟩] [] G (Imm fun G' v => ∃ p' c', v = .slice p' (n + 1) c' ∧ RCx G' (cx ++ [(nm, t)]) p' (n + 1) c') := by
 obtain ⟨k, ks⟩ := t
 obtain ⟨q, d, es0, rfl, _⟩ := hr.open
 simp only [Ty.k, Ty.ks] at hr ⊢
 obtain ⟨hx1, es, h2, h3⟩ := id hx
 have hSl : Sl G p n c 3 es.flatten := h2.1
 have h1c : ∀ u ∈ es.flatten, u.oneCell' = true := by
  intro u hu
  obtain ⟨e, he, hue⟩ := List.mem_flatten.1 hu
  exact List.all_eq_true.1 (h2.one e he) u hue
 refine fn_enter Tryz.func137 rfl Tryz.ntmps137 Tryz.results137 rfl ?_
 intro w0
 refine tS (tR ?_)
 (refine seq_step (step_box_a rfl rfl) rfl ?_; rintro _ ⟨b3, rfl⟩)
 refine sP (pA rfl) rfl rfl (sD (nS (tS (tri_draw mixed rfl ?_))))
 refine any_pure (i := 1) (l' := [ff,tt,ff,ff,ff,ff,ff,ff,ff]) rfl npI (pM rfl) rfl (by kernel_rfl) rfl rfl ?_
 refine aP 3 rfl (pM rfl) rfl rfl ?_
 refine aL 4 rfl (lBa rfl rfl) rfl rfl ?_
 refine aP 5 rfl (pBd rfl rfl) rfl rfl ?_
 refine any_two (j := 0) (j' := 6) (by kernel_rfl) ?_ ?_
 (refine one_step0 (l' := [tt,tt,ff,tt,tt,tt,ff,ff,ff]) rfl (step_buildSlice rfl rfl rfl (by omega) (by unfold maxLen; omega) rfl) rfl rfl ?_; rintro _ ⟨b14, rfl⟩)
 refine any_two (j := 2) (j' := 6) (by kernel_rfl) ?_ ?_
 (refine one_appendSl (l' := [tt,tt,tt,tt,tt,tt,ff,ff,ff]) rfl rfl rfl rfl rfl rfl (fun _ _ => by repeat (first | exact Sw.here | apply Sw.there)) hSl h1c (Nat.zero_le _) (by unfold maxLen; omega) (by omega) rfl rfl (by repeat (first | exact HmOk.nil | apply HmOk.dep (by decide +kernel) | apply HmOk.blk (by decide +kernel) (by repeat (first | exact Pk.here | apply Pk.there)) (by repeat first | exact mH | apply mT))) (fun p4 c4 => ?_); simp only [Nat.zero_add, List.nil_append])
 refine aO (j := 6) (by kernel_rfl) ?_
 (refine one_step0 (l' := [tt,tt,tt,tt,tt,tt,tt,ff,ff]) rfl (step_buildSlice rfl rfl rfl (by omega) (by unfold maxLen; omega) rfl) rfl rfl ?_; rintro _ ⟨b18, rfl⟩)
 refine aO (j := 7) (by kernel_rfl) ?_
 (refine one_append (l' := [tt,tt,tt,tt,tt,tt,tt,tt,ff]) rfl rfl rfl rfl rfl rfl (fun _ _ => by repeat (first | exact Sw.here | apply Sw.there)) (at_slc_all (by repeat first | exact mH | apply mT)) rfl (by simp [Value.oneCell']) (by unfold maxLen; omega) (by omega) rfl rfl (by repeat (first | exact HmOk.nil | apply HmOk.dep (by decide +kernel) | apply HmOk.blk (by decide +kernel) (by repeat (first | exact Pk.here | apply Pk.there)) (by repeat first | exact mH | apply mT))) (fun p5 c5 => ?_))
 refine aP 8 rfl (pA rfl) rfl rfl ?_
 refine aD (by kernel_rfl) ?_
 refine nS ?_
 (refine ret_freeze (cs := es.flatten ++ [.string nm, .int .i64 k, .slice q ks.length d]) (by repeat (first | exact Pk.here | apply Pk.there)) (fun G5 hle5 hsl5 hno5 => ?_))
 refine tT (rF1 (rT rfl) ?_)
 (exact ⟨rfl, _, _, rfl, RCx.snoc (nm := nm) (t := .mk k ks) hx1 h2.len h2.all h2.one h3 hle5 ⟨_, _, rfl, hr.mono hle5⟩ hsl5⟩)
 (refine one_step0 (l' := [tt,tt,ff,tt,tt,tt,tt,ff,ff]) rfl (step_buildSlice rfl rfl rfl (by omega) (by unfold maxLen; omega) rfl) rfl rfl ?_; rintro _ ⟨b28, rfl⟩)
 refine aO (j := 2) (by kernel_rfl) ?_
 (refine one_appendSl (l' := [tt,tt,tt,tt,tt,tt,tt,ff,ff]) rfl rfl rfl rfl rfl rfl (fun _ _ => by repeat (first | exact Sw.here | apply Sw.there)) hSl h1c (Nat.zero_le _) (by unfold maxLen; omega) (by omega) rfl rfl (by repeat (first | exact HmOk.nil | apply HmOk.dep (by decide +kernel) | apply HmOk.blk (by decide +kernel) (by repeat (first | exact Pk.here | apply Pk.there)) (by repeat first | exact mH | apply mT))) (fun p4 c4 => ?_); simp only [Nat.zero_add, List.nil_append])
 refine aO (j := 7) (by kernel_rfl) ?_
 (refine one_append (l' := [tt,tt,tt,tt,tt,tt,tt,tt,ff]) rfl rfl rfl rfl rfl rfl (fun _ _ => by repeat (first | exact Sw.here | apply Sw.there)) (at_slc_all (by repeat first | exact mH | apply mT)) rfl (by simp [Value.oneCell']) (by unfold maxLen; omega) (by omega) rfl rfl (by repeat (first | exact HmOk.nil | apply HmOk.dep (by decide +kernel) | apply HmOk.blk (by decide +kernel) (by repeat (first | exact Pk.here | apply Pk.there)) (by repeat first | exact mH | apply mT))) (fun p5 c5 => ?_))
 refine aP 8 rfl (pA rfl) rfl rfl ?_
 refine aD (by kernel_rfl) ?_
 refine nS ?_
 (refine ret_freeze (cs := es.flatten ++ [.string nm, .int .i64 k, .slice q ks.length d]) (by repeat (first | exact Pk.here | apply Pk.there)) (fun G5 hle5 hsl5 hno5 => ?_))
 refine tT (rF1 (rT rfl) ?_)
 (exact ⟨rfl, _, _, rfl, RCx.snoc (nm := nm) (t := .mk k ks) hx1 h2.len h2.all h2.one h3 hle5 ⟨_, _, rfl, hr.mono hle5⟩ hsl5⟩)
 (refine one_step0 (l' := [ff,tt,ff,tt,tt,tt,tt,ff,ff]) rfl (step_buildSlice rfl rfl rfl (by omega) (by unfold maxLen; omega) rfl) rfl rfl ?_; rintro _ ⟨b40, rfl⟩)
 refine aO (j := 0) (by kernel_rfl) ?_
 (refine one_step0 (l' := [tt,tt,ff,tt,tt,tt,tt,ff,ff]) rfl (step_buildSlice rfl rfl rfl (by omega) (by unfold maxLen; omega) rfl) rfl rfl ?_; rintro _ ⟨b42, rfl⟩)
 refine aO (j := 2) (by kernel_rfl) ?_
 (refine one_appendSl (l' := [tt,tt,tt,tt,tt,tt,tt,ff,ff]) rfl rfl rfl rfl rfl rfl (fun _ _ => by repeat (first | exact Sw.here | apply Sw.there)) hSl h1c (Nat.zero_le _) (by unfold maxLen; omega) (by omega) rfl rfl (by repeat (first | exact HmOk.nil | apply HmOk.dep (by decide +kernel) | apply HmOk.blk (by decide +kernel) (by repeat (first | exact Pk.here | apply Pk.there)) (by repeat first | exact mH | apply mT))) (fun p4 c4 => ?_); simp only [Nat.zero_add, List.nil_append])
 refine aO (j := 7) (by kernel_rfl) ?_
 (refine one_append (l' := [tt,tt,tt,tt,tt,tt,tt,tt,ff]) rfl rfl rfl rfl rfl rfl (fun _ _ => by repeat (first | exact Sw.here | apply Sw.there)) (at_slc_all (by repeat first | exact mH | apply mT)) rfl (by simp [Value.oneCell']) (by unfold maxLen; omega) (by omega) rfl rfl (by repeat (first | exact HmOk.nil | apply HmOk.dep (by decide +kernel) | apply HmOk.blk (by decide +kernel) (by repeat (first | exact Pk.here | apply Pk.there)) (by repeat first | exact mH | apply mT))) (fun p5 c5 => ?_))
 refine aP 8 rfl (pA rfl) rfl rfl ?_
 refine aD (by kernel_rfl) ?_
 refine nS ?_
 (refine ret_freeze (cs := es.flatten ++ [.string nm, .int .i64 k, .slice q ks.length d]) (by repeat (first | exact Pk.here | apply Pk.there)) (fun G5 hle5 hsl5 hno5 => ?_))
 refine tT (rF1 (rT rfl) ?_)
 (exact ⟨rfl, _, _, rfl, RCx.snoc (nm := nm) (t := .mk k ks) hx1 h2.len h2.all h2.one h3 hle5 ⟨_, _, rfl, hr.mono hle5⟩ hsl5⟩)
/- What the reference's look for a type meets. -/
theorem tySL_succ {cx : Cx} : ∀ {ks : List Tm} {i : Nat} {us : List Ty} {u : Ty} (hi : i < ks.length), mTySL cx (ks.take i) = some us → mTyS cx ks[i] = some u → mTySL cx (ks.take (i + 1)) = some (us ++ [u])
 | [], i, us, u, hi, _, _ => by simp at hi
 | t :: ts, 0, us, u, _, h1, h2 => by
  simp only [List.take_zero, mTySL, Option.some.injEq] at h1
  subst h1
  simp only [List.getElem_cons_zero] at h2
  simp [mTySL, h2]
 | t :: ts, i + 1, us, u, hi, h1, h2 => by
  simp only [List.take_succ_cons, mTySL] at h1 ⊢
  split at h1
  ·cases h1
  ·rename_i a ha
   split at h1
   ·cases h1
   ·rename_i bs has
    simp only [Option.some.injEq] at h1
    subst h1
    simp only [List.getElem_cons_succ] at h2
    have := tySL_succ (ks := ts) (i := i) (by simpa using hi) has h2
    simp only [this, List.cons_append]
theorem tySL_no {cx : Cx} : ∀ {ks : List Tm} {i : Nat} (hi : i < ks.length), mTyS cx ks[i] = none → mTySL cx ks = none
 | [], i, hi, _ => by simp at hi
 | t :: ts, 0, _, h => by simp only [List.getElem_cons_zero] at h; rw [mTySL, h]
 | t :: ts, i + 1, hi, h => by
  simp only [List.getElem_cons_succ] at h
  have := tySL_no (ks := ts) (i := i) (by simpa using hi) h
  rw [mTySL, this]
  cases mTyS cx t <;> rfl
section
variable {cx : Cx} {k : Int} {nm : ByteArray} {num : Int} {ty fr : Ty} {lb : Int} {ks : List Tm}
theorem tyS_1 (hk : k = 1) (h0 : ks = []) : mTyS cx (.mk k nm num ty fr lb ks) = mLook cx nm := by
 subst hk h0
 rw [mTyS, mTySL]
 simp only [mTySN, mW1]
 cases mLook cx nm with
 | none => rfl
 | some t => simp
theorem tyS_2 (hk : k = 2) (h0 : ks = []) : mTyS cx (.mk k nm num ty fr lb ks) = some tyInt := by subst hk h0; rfl
theorem tyS_34 (hk : k = 3 ∨ k = 4) (h0 : ks = []) : mTyS cx (.mk k nm num ty fr lb ks) = some tyBool := by subst h0; rcases hk with rfl | rfl <;> rfl
theorem tyS_5n {b : Tm} (hk : k = 5) (h : mTyS (cx ++ [(nm, ty)]) b = none) : mTyS cx (.mk k nm num ty fr lb [b]) = none := by
 subst hk; rw [mTyS, inCx, if_pos rfl, mTySL, h]
theorem tyS_5 {b : Tm} {t : Ty} (hk : k = 5) (h : mTyS (cx ++ [(nm, ty)]) b = some t) : mTyS cx (.mk k nm num ty fr lb [b]) = if tValid (.mk 4 [ty, t]) = true then some (.mk 4 [ty, t]) else none := by
 subst hk
 rw [mTyS, inCx, if_pos rfl, mTySL, h]
 simp only [mTySL, mTySN, mW5, List.getD_cons_zero]
 cases tValid (.mk 4 [ty, t]) <;> simp
theorem tyS_n (hk : k ≠ 5) (h : mTySL cx ks = none) : mTyS cx (.mk k nm num ty fr lb ks) = none := by rw [mTyS, inCx, if_neg hk, h]
theorem tyS_y {ts : List Ty} (hk : k ≠ 5) (h : mTySL cx ks = some ts) : mTyS cx (.mk k nm num ty fr lb ks) = mTySN cx k nm ty ts := by rw [mTyS, inCx, if_neg hk, h]
end
set_option maxHeartbeats 0 in
set_option maxRecDepth 100000 in
theorem l3TypeX_fn : ∀ (e : Tm) (d : Int) (cx : Cx) (G : IM) (p : Option Addr) (n c : Nat) (cells : List Value), sShape 12 14 e d = true → (n : Int) ≤ d → cxV cx → RCx G cx p n c → RTm G e cells →
  Fn Tryz.prog 135 [.slice p n c, .agg ⟨cells⟩] [] G (TyO (mTyS cx e) G) := by
 refine Tm.ind fun k nm num ty fr lb ks ih d cx G p n c cells hv hnd hcv hx hr => ?_
 have hr0 := hr
 have hone := hr.one
 obtain ⟨hv1, hv2, hv3, hv4⟩ := sShape_go2 hv
 have hvk := (sShapeL_iff 12 14 ks _).1 hv4
 have har := (tmNode_iff.1 hv3).1
 have hop := tm_ops har
 obtain ⟨hta, hts⟩ := node_ann hv3
 have hkr : 1 ≤ k ∧ k ≤ 14 := tmOps_rng (by rw [har]; omega)
 have hcv5 : k = 5 → cxV (cx ++ [(nm, ty)]) := fun hk => by have := cxV_in (k := k) (nm := nm) (ty := ty) hcv fun hk => (tmNode_iff.1 hv3).2.2.2.2.2.1 (.inl hk); rwa [inCx, if_pos hk] at this
 have h0 : k ≤ 4 → ks = [] := fun h => List.length_eq_zero_iff.1 (by
  have hk : k = 1 ∨ k = 2 ∨ k = 3 ∨ k = 4 := by omega
  rcases hk with rfl | rfl | rfl | rfl
  ·have : tmOps 1 = 0 := rfl; omega
  ·have : tmOps 2 = 0 := rfl; omega
  ·have : tmOps 3 = 0 := rfl; omega
  ·have : tmOps 4 = 0 := rfl; omega)
 have f1 := fun hk => @tyS_1 cx k nm num ty fr lb ks hk (h0 (by omega))
 have f2 := fun hk => @tyS_2 cx k nm num ty fr lb ks hk (h0 (by omega))
 have f3 := fun hk => @tyS_34 cx k nm num ty fr lb ks hk (h0 (by omega))
 have f4 : ∀ (hk : k = 5) (hl : 0 < ks.length), mTyS (cx ++ [(nm, ty)]) ks[0] = none → mTyS cx (.mk k nm num ty fr lb ks) = none := fun hk hl h => by
  obtain ⟨b, rfl⟩ := ks1 (hop.2.2 (.inl hk)); exact tyS_5n hk h
 have f5 : ∀ (t : Ty) (hk : k = 5) (hl : 0 < ks.length), mTyS (cx ++ [(nm, ty)]) ks[0] = some t → mTyS cx (.mk k nm num ty fr lb ks) = if tValid (.mk 4 [ty, t]) = true then some (.mk 4 [ty, t]) else none := fun t hk hl h => by
  obtain ⟨b, rfl⟩ := ks1 (hop.2.2 (.inl hk)); exact tyS_5 hk h
 have f6 := @tyS_n cx k nm num ty fr lb ks
 have f7 := fun ts => @tyS_y cx k nm num ty fr lb ks ts
 generalize mTyS cx (.mk k nm num ty fr lb ks) = R at f1 f2 f3 f4 f5 f6 f7 ⊢
 obtain ⟨tk, tks⟩ := ty
 obtain ⟨fk, fks⟩ := fr
 obtain ⟨pt, ct, pf, cf, q, cq, es, rfl, hk, hnum, hlb, hty, hfr, hsl, hkl⟩ := hr.open9
 have hlen : ks.length ≤ 3 := by have := tmOps_le k; omega
 refine fn_enter Tryz.func135 rfl Tryz.ntmps135 Tryz.results135 rfl ?_
 intro w0
 refine tS (tR ?_)
 (refine seq_step (step_box_a rfl rfl) rfl ?_; rintro _ ⟨b3, rfl⟩)
 (refine seq_step (step_alloc rfl) rfl ?_; rintro _ ⟨b4, rfl⟩)
 refine sP (pA rfl) rfl rfl (sD (nS (tS (tS (tR (sP (pF0 rfl) rfl rfl ?_))))))
 refine sL (lBs rfl rfl) rfl rfl ?_
 refine sD (nS (tri_block (tS (tR (sB (pE rfl rfl) rfl rfl (fun h18 => ?_) (fun h18 => ?_))))))
 refine sP (pA rfl) rfl rfl (sD (nS (cT rfl ?_)))
 refine tS (tR (sP (pM rfl) rfl rfl (sP (pF0 rfl) rfl rfl (sL (lBs rfl rfl) rfl rfl ?_))))
 (refine seq_imm rfl (l3LookX_fn G cx hcv p n c nm hx) rfl rfl (fun v G1 hle1 hh => ?_); obtain ⟨mt, mc, rfl, hmr, hma, hmu⟩ := hh; obtain ⟨p1, c1, e1, rfl, _⟩ := hmr.open)
 refine sP (pX rfl rfl) rfl rfl (sP (pX rfl rfl) rfl rfl (sS rfl rfl rfl rfl rfl rfl ?_))
 refine sP (pA rfl) rfl rfl (sD (nS (tT (rB (rS (rF2 (rC rfl (lBa rfl rfl)) (rT rfl) ?_))))))
 (rw [f1 (by omega)]; exact ⟨rfl, _, _, rfl, hmr, hma, hmu⟩)
 refine sP (pA rfl) rfl rfl (sD (nS (cF rfl ?_)))
 refine tS (tR (sB (pE rfl rfl) rfl rfl (fun h46 => ?_) (fun h46 => ?_)))
 refine sP (pA rfl) rfl rfl (sD (nS (cT rfl ?_)))
 refine tS (tR (seq_val rfl ((l3Int_fn _)) rfl rfl ?_))
 refine sS rfl rfl rfl rfl rfl rfl ?_
 refine sP (pA rfl) rfl rfl (sD (nS (tT (rB (rS (rF2 (rC rfl (lBa rfl rfl)) (rT rfl) ?_))))))
 (rw [f2 (by omega)]; exact TyO.yes rfl (tyInt_r _) (tAr_leaf (by omega) (by omega)))
 refine sP (pA rfl) rfl rfl (sD (nS (cF rfl ?_)))
 refine tS (tS (tR (sB (pE rfl rfl) rfl rfl (fun h70 => ?_) (fun h70 => ?_))))
 refine sP (pA rfl) rfl rfl (sD (nS (cT rfl ?_)))
 refine tK (nS (cT rfl ?_))
 refine tS (tR (seq_val rfl ((l3Bool_fn _)) rfl rfl ?_))
 refine sS rfl rfl rfl rfl rfl rfl ?_
 refine sP (pA rfl) rfl rfl (sD (nS (tT (rB (rS (rF2 (rC rfl (lBa rfl rfl)) (rT rfl) ?_))))))
 (rw [f3 (by omega)]; exact TyO.yes rfl (tyBool_r _) (tAr_leaf (by omega) (by omega)))
 refine sP (pA rfl) rfl rfl (sD (nS (cF rfl ?_)))
 refine tR (sB (pE rfl rfl) rfl rfl (fun h95 => ?_) (fun h95 => ?_))
 refine sP (pA rfl) rfl rfl (sD (nS (cT rfl ?_)))
 refine tS (tR (seq_val rfl ((l3Bool_fn _)) rfl rfl ?_))
 refine sS rfl rfl rfl rfl rfl rfl ?_
 refine sP (pA rfl) rfl rfl (sD (nS (tT (rB (rS (rF2 (rC rfl (lBa rfl rfl)) (rT rfl) ?_))))))
 (rw [f3 (by omega)]; exact TyO.yes rfl (tyBool_r _) (tAr_leaf (by omega) (by omega)))
 refine sP (pA rfl) rfl rfl (sD (nS (cF rfl ?_)))
 refine tS (tR (sB (pE rfl rfl) rfl rfl (fun h118 => ?_) (fun h118 => ?_)))
 refine sP (pA rfl) rfl rfl (sD (nS (cT rfl ?_)))
 refine tS ?_
 (have hl1 : ks.length = 1 := hop.2.2 (by omega); obtain ⟨b, o, e, rfl, hl, hat, hre, hgb⟩ := hsl.kidTm hkl (i := 0) (by omega) (by omega); have hMore := l3MoreX_fn G cx p n c nm (.mk tk tks) _ hx (by omega) hty; refine tri_draw mixed rfl ?_)
 refine any_pure (i := 0) (l' := [tt,ff,ff,ff,ff,ff,ff,ff,ff,ff,ff,ff,ff,ff,ff,ff,ff]) rfl npI (pM rfl) rfl (by kernel_rfl) rfl rfl ?_
 refine aP 1 rfl (pF0 rfl) rfl rfl ?_
 refine aL 2 rfl (lBs rfl rfl) rfl rfl ?_
 refine aP 3 rfl (pF0 rfl) rfl rfl ?_
 refine aL 4 rfl (lBa rfl rfl) rfl rfl ?_
 refine aP 6 rfl (pF0 rfl) rfl rfl ?_
 refine aL 7 rfl (lBs rfl rfl) rfl rfl ?_
 refine aP 8 rfl (pIN (j := 0) rfl rfl rfl (by omega)) rfl rfl ?_
 refine aL 9 rfl (load_a rfl rfl (hat _) hl) rfl rfl ?_
 refine any_two (j := 5) (j' := 14) (by kernel_rfl) ?_ ?_
 (refine one_imm (l' := [tt,tt,tt,tt,tt,tt,tt,tt,tt,tt,ff,ff,ff,ff,ff,ff,ff]) rfl rfl hMore rfl rfl rfl (fun v G1 hle1 hh => ?_); obtain ⟨pm, cm, rfl, hxm⟩ := hh; have hreM := hre.mono hle1; have hLam := ih ks[0] (List.getElem_mem (by omega)) (d + 1) _ G1 pm (n + 1) cm _ (hvk 0 (by omega)) (by omega) (hcv5 (by omega)) hxm hreM; have htyM := hty.mono hle1)
 refine any_two (j := 10) (j' := 14) (by kernel_rfl) ?_ ?_
 focus (refine one_imm (l' := [tt,tt,tt,tt,tt,tt,tt,tt,tt,tt,tt,ff,ff,ff,ff,ff,ff]) rfl rfl hLam rfl rfl rfl (fun v G2 hle2 hh => ?_); obtain ⟨mt, mc, rfl, hmr, hma, hmu⟩ := hh; obtain ⟨p1, c1, e1, rfl, _⟩ := hmr.open; have htyN := htyM.mono hle2; rcases hE : mTyS (cx ++ [(nm, Ty.mk tk tks)]) ks[0] with _ | mt2; rotate_left; obtain rfl := hmu _ hE; rotate_left; all_goals simp only [Option.isSome])
 refine aP 11 rfl (pM rfl) rfl rfl ?_
 refine aP 12 rfl (pX rfl rfl) rfl rfl ?_
 refine aP 13 rfl (pX rfl rfl) rfl rfl ?_
 refine aO (j := 14) (by kernel_rfl) ?_
 (refine one_step0 (l' := [tt,tt,tt,tt,tt,tt,tt,tt,tt,tt,tt,tt,tt,tt,tt,ff,ff]) rfl (step_alloc rfl) rfl rfl ?_; rintro _ ⟨b142, rfl⟩)
 refine aO (j := 15) (by kernel_rfl) ?_
 refine oT rfl rfl rfl rfl rfl rfl rfl ?_
 refine aP 16 rfl (pA rfl) rfl rfl ?_
 refine aD (by kernel_rfl) ?_
 refine nS (tS (tS (tR (sP (pM rfl) rfl rfl (sP (pNf rfl) rfl rfl (sD ?_))))))
 refine nS (cT rfl ?_)
 refine tS (tR (sP (pBd rfl rfl) rfl rfl (sS rfl rfl rfl rfl rfl rfl ?_)))
 refine sP (pA rfl) rfl rfl (sD (nS (tT (rS (rB (rS ?_))))))
 refine rF2 (rC rfl (lBa rfl rfl)) (rT rfl) ?_
 (rw [f4 (by omega) (by omega) (by first | exact hE | assumption)]; exact TyO.no rfl (tyLeaf_r _ ⟨by omega, by omega⟩) (tAr_leaf (by omega) (by omega)))
 refine aP 11 rfl (pM rfl) rfl rfl ?_
 refine aP 12 rfl (pX rfl rfl) rfl rfl ?_
 refine aP 13 rfl (pX rfl rfl) rfl rfl ?_
 refine aO (j := 14) (by kernel_rfl) ?_
 (refine one_step0 (l' := [tt,tt,tt,tt,tt,tt,tt,tt,tt,tt,tt,tt,tt,tt,tt,ff,ff]) rfl (step_alloc rfl) rfl rfl ?_; rintro _ ⟨b173, rfl⟩)
 refine aO (j := 15) (by kernel_rfl) ?_
 refine oT rfl rfl rfl rfl rfl rfl rfl ?_
 refine aP 16 rfl (pA rfl) rfl rfl ?_
 refine aD (by kernel_rfl) ?_
 refine nS (tS (tS (tR (sP (pM rfl) rfl rfl (sP (pNt rfl) rfl rfl (sD ?_))))))
 refine nS (cF rfl ?_)
 refine tK (nS (tS (tR (sP (pF0 rfl) rfl rfl (sL (lBa rfl rfl) rfl rfl ?_)))))
 refine sL (lBa rfl rfl) rfl rfl ?_
 (refine seq_imm rfl (l3TwoX_fn 4 (.mk tk tks) _ _ _ _ (.inl rfl) hta hma htyN hmr) rfl rfl (fun v G3 hle3 hh => ?_); obtain ⟨mc2, rfl, hmr2⟩ := hh; obtain ⟨p2, c2, e2, rfl, _⟩ := hmr2.open)
 refine sP (pX rfl rfl) rfl rfl (sP (pX rfl rfl) rfl rfl (sS rfl rfl rfl rfl rfl rfl ?_))
 refine sP (pA rfl) rfl rfl (sD (nS (tT (rB (rS (rF2 (rC rfl (lBa rfl rfl)) (rT rfl) ?_))))))
 (rw [f5 _ (by omega) (by omega) (by first | exact hE | assumption)]; exact TyO.mk rfl hmr2 (tAr_two (.inl rfl) hta hma))
 (refine one_step0 (l' := [tt,tt,tt,tt,tt,tt,tt,tt,tt,tt,ff,ff,ff,ff,tt,ff,ff]) rfl (step_alloc rfl) rfl rfl ?_; rintro _ ⟨b206, rfl⟩)
 refine aO (j := 10) (by kernel_rfl) ?_
 focus (refine one_imm (l' := [tt,tt,tt,tt,tt,tt,tt,tt,tt,tt,tt,ff,ff,ff,tt,ff,ff]) rfl rfl hLam rfl rfl rfl (fun v G2 hle2 hh => ?_); obtain ⟨mt, mc, rfl, hmr, hma, hmu⟩ := hh; obtain ⟨p1, c1, e1, rfl, _⟩ := hmr.open; have htyN := htyM.mono hle2; rcases hE : mTyS (cx ++ [(nm, Ty.mk tk tks)]) ks[0] with _ | mt2; rotate_left; obtain rfl := hmu _ hE; rotate_left; all_goals simp only [Option.isSome])
 refine aP 11 rfl (pM rfl) rfl rfl ?_
 refine aP 12 rfl (pX rfl rfl) rfl rfl ?_
 refine aP 13 rfl (pX rfl rfl) rfl rfl ?_
 refine aO (j := 15) (by kernel_rfl) ?_
 refine oT rfl rfl rfl rfl rfl rfl rfl ?_
 refine aP 16 rfl (pA rfl) rfl rfl ?_
 refine aD (by kernel_rfl) ?_
 refine nS (tS (tS (tR (sP (pM rfl) rfl rfl (sP (pNf rfl) rfl rfl (sD ?_))))))
 refine nS (cT rfl ?_)
 refine tS (tR (sP (pBd rfl rfl) rfl rfl (sS rfl rfl rfl rfl rfl rfl ?_)))
 refine sP (pA rfl) rfl rfl (sD (nS (tT (rS (rB (rS ?_))))))
 refine rF2 (rC rfl (lBa rfl rfl)) (rT rfl) ?_
 (rw [f4 (by omega) (by omega) (by first | exact hE | assumption)]; exact TyO.no rfl (tyLeaf_r _ ⟨by omega, by omega⟩) (tAr_leaf (by omega) (by omega)))
 refine aP 11 rfl (pM rfl) rfl rfl ?_
 refine aP 12 rfl (pX rfl rfl) rfl rfl ?_
 refine aP 13 rfl (pX rfl rfl) rfl rfl ?_
 refine aO (j := 15) (by kernel_rfl) ?_
 refine oT rfl rfl rfl rfl rfl rfl rfl ?_
 refine aP 16 rfl (pA rfl) rfl rfl ?_
 refine aD (by kernel_rfl) ?_
 refine nS (tS (tS (tR (sP (pM rfl) rfl rfl (sP (pNt rfl) rfl rfl (sD ?_))))))
 refine nS (cF rfl ?_)
 refine tK (nS (tS (tR (sP (pF0 rfl) rfl rfl (sL (lBa rfl rfl) rfl rfl ?_)))))
 refine sL (lBa rfl rfl) rfl rfl ?_
 (refine seq_imm rfl (l3TwoX_fn 4 (.mk tk tks) _ _ _ _ (.inl rfl) hta hma htyN hmr) rfl rfl (fun v G3 hle3 hh => ?_); obtain ⟨mc2, rfl, hmr2⟩ := hh; obtain ⟨p2, c2, e2, rfl, _⟩ := hmr2.open)
 refine sP (pX rfl rfl) rfl rfl (sP (pX rfl rfl) rfl rfl (sS rfl rfl rfl rfl rfl rfl ?_))
 refine sP (pA rfl) rfl rfl (sD (nS (tT (rB (rS (rF2 (rC rfl (lBa rfl rfl)) (rT rfl) ?_))))))
 (rw [f5 _ (by omega) (by omega) (by first | exact hE | assumption)]; exact TyO.mk rfl hmr2 (tAr_two (.inl rfl) hta hma))
 (refine one_step0 (l' := [tt,tt,tt,tt,tt,ff,tt,tt,tt,tt,ff,ff,ff,ff,tt,ff,ff]) rfl (step_alloc rfl) rfl rfl ?_; rintro _ ⟨b273, rfl⟩)
 refine aO (j := 5) (by kernel_rfl) ?_
 (refine one_imm (l' := [tt,tt,tt,tt,tt,tt,tt,tt,tt,tt,ff,ff,ff,ff,tt,ff,ff]) rfl rfl hMore rfl rfl rfl (fun v G1 hle1 hh => ?_); obtain ⟨pm, cm, rfl, hxm⟩ := hh; have hreM := hre.mono hle1; have hLam := ih ks[0] (List.getElem_mem (by omega)) (d + 1) _ G1 pm (n + 1) cm _ (hvk 0 (by omega)) (by omega) (hcv5 (by omega)) hxm hreM; have htyM := hty.mono hle1)
 refine aO (j := 10) (by kernel_rfl) ?_
 focus (refine one_imm (l' := [tt,tt,tt,tt,tt,tt,tt,tt,tt,tt,tt,ff,ff,ff,tt,ff,ff]) rfl rfl hLam rfl rfl rfl (fun v G2 hle2 hh => ?_); obtain ⟨mt, mc, rfl, hmr, hma, hmu⟩ := hh; obtain ⟨p1, c1, e1, rfl, _⟩ := hmr.open; have htyN := htyM.mono hle2; rcases hE : mTyS (cx ++ [(nm, Ty.mk tk tks)]) ks[0] with _ | mt2; rotate_left; obtain rfl := hmu _ hE; rotate_left; all_goals simp only [Option.isSome])
 refine aP 11 rfl (pM rfl) rfl rfl ?_
 refine aP 12 rfl (pX rfl rfl) rfl rfl ?_
 refine aP 13 rfl (pX rfl rfl) rfl rfl ?_
 refine aO (j := 15) (by kernel_rfl) ?_
 refine oT rfl rfl rfl rfl rfl rfl rfl ?_
 refine aP 16 rfl (pA rfl) rfl rfl ?_
 refine aD (by kernel_rfl) ?_
 refine nS (tS (tS (tR (sP (pM rfl) rfl rfl (sP (pNf rfl) rfl rfl (sD ?_))))))
 refine nS (cT rfl ?_)
 refine tS (tR (sP (pBd rfl rfl) rfl rfl (sS rfl rfl rfl rfl rfl rfl ?_)))
 refine sP (pA rfl) rfl rfl (sD (nS (tT (rS (rB (rS ?_))))))
 refine rF2 (rC rfl (lBa rfl rfl)) (rT rfl) ?_
 (rw [f4 (by omega) (by omega) (by first | exact hE | assumption)]; exact TyO.no rfl (tyLeaf_r _ ⟨by omega, by omega⟩) (tAr_leaf (by omega) (by omega)))
 refine aP 11 rfl (pM rfl) rfl rfl ?_
 refine aP 12 rfl (pX rfl rfl) rfl rfl ?_
 refine aP 13 rfl (pX rfl rfl) rfl rfl ?_
 refine aO (j := 15) (by kernel_rfl) ?_
 refine oT rfl rfl rfl rfl rfl rfl rfl ?_
 refine aP 16 rfl (pA rfl) rfl rfl ?_
 refine aD (by kernel_rfl) ?_
 refine nS (tS (tS (tR (sP (pM rfl) rfl rfl (sP (pNt rfl) rfl rfl (sD ?_))))))
 refine nS (cF rfl ?_)
 refine tK (nS (tS (tR (sP (pF0 rfl) rfl rfl (sL (lBa rfl rfl) rfl rfl ?_)))))
 refine sL (lBa rfl rfl) rfl rfl ?_
 (refine seq_imm rfl (l3TwoX_fn 4 (.mk tk tks) _ _ _ _ (.inl rfl) hta hma htyN hmr) rfl rfl (fun v G3 hle3 hh => ?_); obtain ⟨mc2, rfl, hmr2⟩ := hh; obtain ⟨p2, c2, e2, rfl, _⟩ := hmr2.open)
 refine sP (pX rfl rfl) rfl rfl (sP (pX rfl rfl) rfl rfl (sS rfl rfl rfl rfl rfl rfl ?_))
 refine sP (pA rfl) rfl rfl (sD (nS (tT (rB (rS (rF2 (rC rfl (lBa rfl rfl)) (rT rfl) ?_))))))
 (rw [f5 _ (by omega) (by omega) (by first | exact hE | assumption)]; exact TyO.mk rfl hmr2 (tAr_two (.inl rfl) hta hma))
 refine sP (pA rfl) rfl rfl (sD (nS (cF rfl ?_)))
 refine tK (nrm_block (nS (tS (tR ?_))))
 (refine seq_step (step_buildSlice rfl rfl rfl (by omega) (by unfold maxLen; omega) rfl) rfl ?_; rintro _ ⟨b351, rfl⟩)
 refine sP (pA rfl) rfl rfl (sD (nS (tS (tS (tR (sP (pA rfl) rfl rfl ?_))))))
 refine sD (nS (tri_block ?_))
 (refine tri_loopN (fun (x : Nat × Option Addr × Nat × List Ty × List (List Value) × IM) => ⟨[(9, .int .i64 x.1), (8, .slice x.2.1 x.1 x.2.2.1), (3, .pointer (some ⟨b3, 0, none⟩)), (4, .pointer (some ⟨b4, 0, none⟩)), (0, .slice p n c)], [.slc x.2.1 x.2.2.1 33 2 x.1 x.2.2.2.2.1.flatten, .blk b4 [.int .i64 0, .slice none 0 0], .blk b3 [.int .i64 k, .string nm, .int .i64 num, .int .i64 tk, .slice pt tks.length ct, .int .i64 fk, .slice pf fks.length cf, .int .i64 lb, .slice q ks.length cq]], x.2.2.2.2.2⟩) (fun x => x.1 ≤ ks.length ∧ IMle G x.2.2.2.2.2 ∧ x.2.2.2.1.length = x.1 ∧ RTyL x.2.2.2.2.2 x.2.2.2.1 x.2.2.2.2.1 ∧ (∀ u ∈ x.2.2.2.1, tAr u) ∧ mTySL cx (ks.take x.1) = some x.2.2.2.1) (fun x => ks.length - x.1) (0, some ⟨b351, 0, none⟩, 0, [], [], G) ?_ ?_ ?_)
 (simp only [flat_snoc]; exact sub_mk (by repeat (first | exact SubE.nil | refine SubE.cons rfl ?_)) (by repeat (first | exact SubH.refl | exact SubH.nil | refine SubH.cons (by repeat (first | exact Pk.here | apply Pk.there)) ?_ | apply SubH.drop)))
 (exact ⟨by simp, IMle.refl _, rfl, by simp [RTyL], by simp, by simp [mTySL]⟩)
 (rintro ⟨i, pn, cn, us, es', Gi⟩ ⟨hi, hle, hlu, hst, hau, hsu⟩; simp only [] at hi hle hlu hst hau hsu ⊢; replace hsl := hsl.mono hle; replace hkl := hkl.mono hle; replace hx := hx.mono hle; replace hr0 := hr0.mono hle)
 refine tS (tS (tR (sP (pM rfl) rfl rfl (sP (pF0 rfl) rfl rfl (sL (lBs rfl rfl) rfl rfl ?_)))))
 refine sP (pLn rfl rfl) rfl rfl (sB (pure_lss rfl rfl) rfl rfl (fun h373 => ?_) (fun h373 => ?_))
 refine sD (nS (cT rfl ?_))
 refine tK (nS (tS (tri_block (tS (tR (sP (pM rfl) rfl rfl ?_))))))
 refine sP (pF0 rfl) rfl rfl (sL (lBs rfl rfl) rfl rfl ?_)
 refine sP (pM rfl) rfl rfl ?_
 (obtain ⟨b, o, e, rfl, hl, hat, hre, hgb⟩ := hsl.kidTm hkl (i := i) (by omega) (by omega); refine sP (pIN rfl rfl rfl (by omega)) rfl rfl ?_)
 refine sL (load_a rfl rfl (hat _) hl) rfl rfl ?_
 focus (refine seq_imm rfl (ih ks[i] (List.getElem_mem (by omega)) (d + 1) cx Gi p n c _ (hvk i (by omega)) (by omega) hcv hx hre) rfl rfl (fun v G2 hle2 hh => ?_); obtain ⟨u, uc, rfl, hru, hua, huu⟩ := hh; obtain ⟨p3, c3, e3, rfl, _⟩ := hru.open; rcases hE : mTyS cx ks[i] with _ | u2; rotate_left; obtain rfl := huu _ hE; rotate_left; all_goals simp only [Option.isSome])
 refine sP (pM rfl) rfl rfl (sP (pX rfl rfl) rfl rfl (sP (pX rfl rfl) rfl rfl ?_))
 (refine seq_step (step_alloc rfl) rfl ?_; rintro _ ⟨b393, rfl⟩)
 refine sS rfl rfl rfl rfl rfl rfl ?_
 refine sP (pA rfl) rfl rfl (sD (nS (tS (tS (tR (sP (pM rfl) rfl rfl ?_))))))
 refine sP (pNf rfl) rfl rfl (sD (nS (cT rfl ?_)))
 refine tS (tR (sP (pBd rfl rfl) rfl rfl (sS rfl rfl rfl rfl rfl rfl ?_)))
 refine sP (pA rfl) rfl rfl (sD (nS (tT (rS (rB (rS ?_))))))
 refine ret_loopN (rB (rS (rF2 (rC rfl (lBa rfl rfl)) (rT rfl) ?_)))
 (rw [f6 (by omega) (tySL_no (by omega) hE)]; exact TyO.no rfl (tyLeaf_r _ ⟨by omega, by omega⟩) (tAr_leaf (by omega) (by omega)))
 refine sP (pM rfl) rfl rfl (sP (pX rfl rfl) rfl rfl (sP (pX rfl rfl) rfl rfl ?_))
 (refine seq_step (step_alloc rfl) rfl ?_; rintro _ ⟨b425, rfl⟩)
 refine sS rfl rfl rfl rfl rfl rfl ?_
 refine sP (pA rfl) rfl rfl (sD (nS (tS (tS (tR (sP (pM rfl) rfl rfl ?_))))))
 refine sP (pNt rfl) rfl rfl (sD (nS (cF rfl ?_)))
 refine tK (nS (tR (sP (pM rfl) rfl rfl (sL (lBa rfl rfl) rfl rfl ?_))))
 (refine seq_step (step_buildSlice rfl rfl rfl (by omega) (by unfold maxLen; omega) rfl) rfl ?_; rintro _ ⟨b443, rfl⟩)
 refine seq_append rfl rfl rfl rfl rfl (fun _ _ => by repeat (first | exact Sw.here | apply Sw.there)) (at_slc_all (by repeat first | exact mH | apply mT)) rfl (by simp [Value.oneCell']) (by unfold maxLen; omega) (by omega) rfl (fun pn' cn' => ?_)
 refine sP (pA rfl) rfl rfl (sD (nrm_block (nS (tR (sP (pM rfl) rfl rfl (sP (pure_add rfl rfl (by omega) (by omega)) rfl rfl ?_))))))
 refine sP (pA rfl) rfl rfl (sD (nrm_loopN (i + 1, pn', cn', us ++ [u2], es' ++ [[.int .i64 u2.k, .slice p3 u2.ks.length c3]], G2) ?_ ?_ ?_))
 (simp only [flat_snoc]; exact sub_mk (by repeat (first | exact SubE.nil | refine SubE.cons rfl ?_)) (by repeat (first | exact SubH.refl | exact SubH.nil | refine SubH.cons (by repeat (first | exact Pk.here | apply Pk.there)) ?_ | apply SubH.drop)))
 (dsimp only; exact ⟨by omega, hle.trans hle2, by simp [hlu], RTyL.snoc (hst.mono hle2) hru, forall_snoc hau hua, tySL_succ (by omega) hsu hE⟩)
 (show ks.length - (i + 1) < ks.length - i; omega)
 refine sD (nS (cF rfl ?_))
 refine tri_exit ?_
 refine ext_seq ?_
 refine ext_loopN ?_
 refine ext_block_eq ?_
 refine nS (tS (tR (sL (lBa rfl rfl) rfl rfl ?_)))
 refine sP (pM rfl) rfl rfl ?_
 (obtain rfl : i = ks.length := (by omega); rw [List.take_length] at hsu; refine triL_freeze (cs := es'.flatten) (by repeat (first | exact Pk.here | apply Pk.there)) (fun G3 hle3 hsl3 hno3 => ?_); have hst3 := hst.mono hle3; have hRes := l3ResultX_fn cx k nm num (.mk tk tks) (.mk fk fks) lb ks us G3 _ pn cn es' (by rw [hlu]; exact har) (by omega) hta (hr0.mono hle3) (by rw [hlu]; exact SlE.of hsl3 (by rw [hst3.len, hlu]) hst3.all (fun e he => (hst3.each e he).2)) hst3 hau; rw [hlu] at hRes; refine seq_imm rfl hRes rfl rfl (fun v G4 hle4 hh => ?_); obtain ⟨mt, mc, rfl, hmr, hma, hmu⟩ := hh; obtain ⟨p1, c1, e1, rfl, _⟩ := hmr.open)
 refine sP (pX rfl rfl) rfl rfl (sP (pX rfl rfl) rfl rfl (sS rfl rfl rfl rfl rfl rfl ?_))
 refine sP (pA rfl) rfl rfl (sD (nS (tT (rF2 (rC rfl (lBa rfl rfl)) (rT rfl) ?_))))
 (rw [f7 us (by omega) hsu]; exact ⟨rfl, _, _, rfl, hmr, hma, hmu⟩)
end Gw
end Go.Proofs.YtaiafkcflhcdaaaGreatDoor
