/-
  The reference's typing, exactly. The reference's typing, exactly: meets, the types of nodes. The reference's typing, exactly: types of terms. The reference's insertion of casts, exactly. The types that a term's text holds: the reference's list. TermTypes and CountSlots of the reference. Terms with other types: the reference's. WithTypes of the reference. Drawn terms that are small, terms with blurred types, fuel. Configurations: plain laws (they are valid, ordered by precision; fewer types fail less); `and` and `and not` of masks. The labels of inserted casts: from 1 on, each once; what a run may blame (plain). What is left of a term, and of the term with its casts, is the same; static terms run as what is left of them (plain). Static terms: the program's StaticTerm. A static term gets no casts, so it does not fail: the plain law. Static terms run as what is left of them; casts cost steps (plain). The program's bare terms: which they are, their steps.
-/
import Derived.Test.YtfpgncjeejickaaGreatDoorKc4
import Derived.Test.YtfpgncjeejickaaGreatDoorKc3
import Derived.Test.YtfpgncjeejickaaGreatDoorKc6
import Derived.Test.YtfpgncjeejickaaGreatDoorKc2
import Derived.Test.YtfpgncjeejickaaGreatDoorKc1
import Derived.Test.YtfpgncjeejickaaGreatDoorKc5
set_option linter.unusedVariables false
set_option linter.unusedSimpArgs false
set_option maxHeartbeats 0
set_option maxRecDepth 100000
set_option synthInstance.maxSize 4000
set_option synthInstance.maxHeartbeats 0
namespace Go.Proofs.YtfpgncjeejickaaGreatDoor
open Go Go.RowKit
namespace Gw
def P7 (o : Option Ty) (G : IM) : IM → Value → List A4 → Prop := L5 fun G' v => ∃ t cells, v = .tuple ⟨[.agg ⟨cells⟩, .bool o.isSome]⟩ ∧ B7 G' t cells ∧ E5 t ∧ ∀ u, o = some u → u = t
theorem P7.yes {G G' : IM} {o : Option Ty} {t : Ty} {cells : List Value} (h : o = some t) (hr : B7 G' t cells) (ha : E5 t) : P7 o G G' (.tuple ⟨[.agg ⟨cells⟩, .bool true]⟩) [] := by
 subst h; exact ⟨rfl, t, cells, rfl, hr, ha, fun u h => (by cases h; rfl)⟩
theorem P7.no {G G' : IM} {o : Option Ty} {t : Ty} {cells : List Value} (h : o = none) (hr : B7 G' t cells) (ha : E5 t) : P7 o G G' (.tuple ⟨[.agg ⟨cells⟩, .bool false]⟩) [] := by
 subst h; exact ⟨rfl, t, cells, rfl, hr, ha, fun u h => (by cases h)⟩
theorem P7.mk {G G' : IM} {o : Option Ty} {b : Bool} {t : Ty} {cells : List Value} (h : o = if b = true then some t else none) (hr : B7 G' t cells) (ha : E5 t) : P7 o G G' (.tuple ⟨[.agg ⟨cells⟩, .bool b]⟩) [] := by
 cases b
 ·exact P7.no h hr ha
 ·exact P7.yes h hr ha
theorem B5F {t : Ty} (h : E7 t = true) : E5 t := (A3Q h).1
theorem A5n (k : Int) (a b : Ty) (G : IM) (ca cb : List Value) (hk : k = 4 ∨ k = 5) (ha : E5 a) (hb : E5 b) (hra : B7 G a ca) (hrb : B7 G b cb) :
  Fn Tryz.prog 198 [.int .i64 k, .agg ⟨ca⟩, .agg ⟨cb⟩] [] G (L5 fun G' v => ∃ cells, v = .tuple ⟨[.agg ⟨cells⟩, .bool (E7 (.mk k [a, b]))]⟩ ∧ B7 G' (.mk k [a, b]) cells) := by
 obtain ⟨ak, aks⟩ := a
 obtain ⟨bk, bks⟩ := b
 obtain ⟨pa, cca, ea, rfl, _⟩ := hra.open
 obtain ⟨pb, ccb, eb, rfl, _⟩ := hrb.open
 have hki : E6 k := ⟨by omega, by omega⟩
 refine B2 Tryz.func198 rfl Tryz.ntmps198 Tryz.results198 rfl ?_
 intro w0
 refine tS (tR ?_)
 refine sE (B9 rfl rfl) rfl (fun b3 => ?_)
 refine sE (B9 rfl rfl) rfl (fun b4 => ?_)
 refine sE (A5 rfl) rfl (fun b5 => ?_)
 refine sQ (qA rfl) rfl (sD (nS (tS ?_)))
 refine E1 E2 rfl ?_
 refine J5 (i := 0) (l' := [tt,ff,ff,ff,ff,ff,ff,ff,ff]) rfl D5 (qM rfl) rfl (by kernel_rfl) rfl rfl ?_
 refine aL 1 rfl (A2 rfl rfl) rfl ?_
 refine aL 3 rfl (A2 rfl rfl) rfl ?_
 refine V3 (j := 2) (j' := 7) (by kernel_rfl) ?_ ?_
 (refine K0 rfl rfl (W5 _ G _ ha.small hra) rfl rfl rfl (fun v G1 hle1 hh => ?_); obtain ⟨cs1, F1, rfl, hs1, hn1⟩ := hh; obtain ⟨p1, c1, rfl, _⟩ := hs1.open; have hC2 := W5 _ G1 _ hb.small (hrb.mono hle1))
 refine V3 (j := 4) (j' := 7) (by kernel_rfl) ?_ ?_
 (refine K0 rfl rfl hC2 rfl rfl rfl (fun v G2 hle2 hh => ?_); obtain ⟨cs2, F2, rfl, hs2, hn2⟩ := hh; obtain ⟨p2, c2, rfl, _⟩ := hs2.open; have hr1 := hs1.R.mono ((C1.le G1 G).trans hle2); have hr2 := hs2.R.mono (C1.le G2 G1))
 refine V3 (j := 5) (j' := 7) (by kernel_rfl) ?_ ?_
 (refine E4 rfl (C9 rfl rfl rfl (by omega) (by unfold maxLen; omega) rfl) rfl rfl ?_; rintro _ ⟨b19, rfl⟩)
 refine aP 6 rfl (W1 rfl rfl) rfl ?_
 refine A3 7 ?_
 (refine E4 rfl (A5 rfl) rfl rfl ?_; rintro _ ⟨b22, rfl⟩)
 refine A3 8 ?_
 refine J0 rfl ?_
 refine C5 (nS (tS ?_))
 (have hr1' := hr1; refine A1W (by repeat (first | exact Pk.here | apply Pk.there)) (fun G5 hle5 hsl5 hno5 => ?_); have hRT : B7 G5 (.mk k [.mk ak aks, .mk bk bks]) _ := D2.ty (ts := [.mk ak aks, .mk bk bks]) (es := [[.int .i64 ak, .slice p1 aks.length c1], [.int .i64 bk, .slice p2 bks.length c2]]) ⟨_, _, rfl, hr1.mono hle5, _, _, rfl, hr2.mono hle5, rfl⟩ rfl hsl5 hki; have hV := A1Z _ G5 _ hRT; refine E1 E2 rfl ?_)
 refine P9 (i := 0) (l' := [tt,ff,ff,ff,ff]) rfl D5 (A2 rfl rfl) rfl (by kernel_rfl) rfl rfl ?_
 refine aL 1 rfl (A2 rfl rfl) rfl ?_
 refine A3 2 ?_
 refine P6 rfl rfl (hV) rfl rfl rfl ?_
 refine A3 3 ?_
 refine J0 rfl ?_
 refine aP 4 rfl (qA rfl) rfl ?_
 refine C5 (nS (tT ?_))
 refine I2 (rC rfl (A2 rfl rfl)) (rT rfl) ?_
 (exact ⟨rfl, _, rfl, hRT⟩)
 (refine E4 rfl (A5 rfl) rfl rfl ?_; rintro _ ⟨b41, rfl⟩)
 refine A3 5 ?_
 (refine E4 rfl (C9 rfl rfl rfl (by omega) (by unfold maxLen; omega) rfl) rfl rfl ?_; rintro _ ⟨b43, rfl⟩)
 refine aP 6 rfl (W1 rfl rfl) rfl ?_
 refine A3 8 ?_
 refine J0 rfl ?_
 refine C5 (nS (tS ?_))
 (have hr1' := hr1; refine A1W (by repeat (first | exact Pk.here | apply Pk.there)) (fun G5 hle5 hsl5 hno5 => ?_); have hRT : B7 G5 (.mk k [.mk ak aks, .mk bk bks]) _ := D2.ty (ts := [.mk ak aks, .mk bk bks]) (es := [[.int .i64 ak, .slice p1 aks.length c1], [.int .i64 bk, .slice p2 bks.length c2]]) ⟨_, _, rfl, hr1.mono hle5, _, _, rfl, hr2.mono hle5, rfl⟩ rfl hsl5 hki; have hV := A1Z _ G5 _ hRT; refine E1 E2 rfl ?_)
 refine P9 (i := 0) (l' := [tt,ff,ff,ff,ff]) rfl D5 (A2 rfl rfl) rfl (by kernel_rfl) rfl rfl ?_
 refine aL 1 rfl (A2 rfl rfl) rfl ?_
 refine A3 2 ?_
 refine P6 rfl rfl (hV) rfl rfl rfl ?_
 refine A3 3 ?_
 refine J0 rfl ?_
 refine aP 4 rfl (qA rfl) rfl ?_
 refine C5 (nS (tT ?_))
 refine I2 (rC rfl (A2 rfl rfl)) (rT rfl) ?_
 (exact ⟨rfl, _, rfl, hRT⟩)
 (refine E4 rfl (A5 rfl) rfl rfl ?_; rintro _ ⟨b63, rfl⟩)
 refine A3 4 ?_
 (refine K0 rfl rfl hC2 rfl rfl rfl (fun v G2 hle2 hh => ?_); obtain ⟨cs2, F2, rfl, hs2, hn2⟩ := hh; obtain ⟨p2, c2, rfl, _⟩ := hs2.open; have hr1 := hs1.R.mono ((C1.le G1 G).trans hle2); have hr2 := hs2.R.mono (C1.le G2 G1))
 refine A3 5 ?_
 (refine E4 rfl (C9 rfl rfl rfl (by omega) (by unfold maxLen; omega) rfl) rfl rfl ?_; rintro _ ⟨b67, rfl⟩)
 refine aP 6 rfl (W1 rfl rfl) rfl ?_
 refine A3 8 ?_
 refine J0 rfl ?_
 refine C5 (nS (tS ?_))
 (have hr1' := hr1; refine A1W (by repeat (first | exact Pk.here | apply Pk.there)) (fun G5 hle5 hsl5 hno5 => ?_); have hRT : B7 G5 (.mk k [.mk ak aks, .mk bk bks]) _ := D2.ty (ts := [.mk ak aks, .mk bk bks]) (es := [[.int .i64 ak, .slice p1 aks.length c1], [.int .i64 bk, .slice p2 bks.length c2]]) ⟨_, _, rfl, hr1.mono hle5, _, _, rfl, hr2.mono hle5, rfl⟩ rfl hsl5 hki; have hV := A1Z _ G5 _ hRT; refine E1 E2 rfl ?_)
 refine P9 (i := 0) (l' := [tt,ff,ff,ff,ff]) rfl D5 (A2 rfl rfl) rfl (by kernel_rfl) rfl rfl ?_
 refine aL 1 rfl (A2 rfl rfl) rfl ?_
 refine A3 2 ?_
 refine P6 rfl rfl (hV) rfl rfl rfl ?_
 refine A3 3 ?_
 refine J0 rfl ?_
 refine aP 4 rfl (qA rfl) rfl ?_
 refine C5 (nS (tT ?_))
 refine I2 (rC rfl (A2 rfl rfl)) (rT rfl) ?_
 (exact ⟨rfl, _, rfl, hRT⟩)
 (refine E4 rfl (A5 rfl) rfl rfl ?_; rintro _ ⟨b87, rfl⟩)
 refine A3 2 ?_
 (refine K0 rfl rfl (W5 _ G _ ha.small hra) rfl rfl rfl (fun v G1 hle1 hh => ?_); obtain ⟨cs1, F1, rfl, hs1, hn1⟩ := hh; obtain ⟨p1, c1, rfl, _⟩ := hs1.open; have hC2 := W5 _ G1 _ hb.small (hrb.mono hle1))
 refine A3 4 ?_
 (refine K0 rfl rfl hC2 rfl rfl rfl (fun v G2 hle2 hh => ?_); obtain ⟨cs2, F2, rfl, hs2, hn2⟩ := hh; obtain ⟨p2, c2, rfl, _⟩ := hs2.open; have hr1 := hs1.R.mono ((C1.le G1 G).trans hle2); have hr2 := hs2.R.mono (C1.le G2 G1))
 refine A3 5 ?_
 (refine E4 rfl (C9 rfl rfl rfl (by omega) (by unfold maxLen; omega) rfl) rfl rfl ?_; rintro _ ⟨b93, rfl⟩)
 refine aP 6 rfl (W1 rfl rfl) rfl ?_
 refine A3 8 ?_
 refine J0 rfl ?_
 refine C5 (nS (tS ?_))
 (have hr1' := hr1; refine A1W (by repeat (first | exact Pk.here | apply Pk.there)) (fun G5 hle5 hsl5 hno5 => ?_); have hRT : B7 G5 (.mk k [.mk ak aks, .mk bk bks]) _ := D2.ty (ts := [.mk ak aks, .mk bk bks]) (es := [[.int .i64 ak, .slice p1 aks.length c1], [.int .i64 bk, .slice p2 bks.length c2]]) ⟨_, _, rfl, hr1.mono hle5, _, _, rfl, hr2.mono hle5, rfl⟩ rfl hsl5 hki; have hV := A1Z _ G5 _ hRT; refine E1 E2 rfl ?_)
 refine P9 (i := 0) (l' := [tt,ff,ff,ff,ff]) rfl D5 (A2 rfl rfl) rfl (by kernel_rfl) rfl rfl ?_
 refine aL 1 rfl (A2 rfl rfl) rfl ?_
 refine A3 2 ?_
 refine P6 rfl rfl (hV) rfl rfl rfl ?_
 refine A3 3 ?_
 refine J0 rfl ?_
 refine aP 4 rfl (qA rfl) rfl ?_
 refine C5 (nS (tT ?_))
 refine I2 (rC rfl (A2 rfl rfl)) (rT rfl) ?_
 (exact ⟨rfl, _, rfl, hRT⟩)
theorem A68 (k : Int) (t : Ty) (G : IM) (cells : List Value) (hk : k = 4 ∨ k = 5) (ha : E5 t) (hr : B7 G t cells) :
  Fn Tryz.prog 239 [.int .i64 k, .agg ⟨cells⟩] [] G (A9c k t G) := by
 obtain ⟨tk, ks⟩ := t
 have ha2 := ha
 rw [E5] at ha2
 have hkid := ha.kid
 obtain ⟨p, c, es, rfl, htk, hsl, hkl⟩ := hr.open
 simp only [Ty.k, Ty.ks] at htk hsl hkl ⊢
 refine B2 Tryz.func239 rfl Tryz.ntmps239 Tryz.results239 rfl ?_
 intro w0
 refine tS (tR ?_)
 refine sE (B9 rfl rfl) rfl (fun b3 => ?_)
 refine sE (A5 rfl) rfl (fun b4 => ?_)
 refine sE (A5 rfl) rfl (fun b5 => ?_)
 refine D3 ?_
 refine sB (qE rfl rfl) rfl rfl (fun h14 => ?_) (fun h14 => ?_)
 refine sD (nS (qT rfl (tS (tR ?_))))
 refine H3 rfl ((A1k _)) rfl rfl ?_
 refine H3 rfl ((A1k _)) rfl rfl ?_
 refine F9 ?_
 refine F9 ?_
 refine sQ (qA rfl) rfl (sD (nS (tT (rS ?_))))
 refine C4 (rC rfl (A2 rfl rfl)) (rC rfl (A2 rfl rfl)) (rT rfl) ?_
 (refine ⟨rfl, _, _, _, _, ?_, A0H _, A0H _, A3E, A3E, ?_⟩ <;> rw [A1O, if_neg (by omega), if_pos (by omega)] <;> first | rfl | (intro p hp; cases hp; rfl))
 refine I6 ?_
 refine sB (M7 rfl rfl) rfl rfl (fun h42 => ?_) (fun h42 => ?_)
 refine J2 ?_
 refine C4 (rC rfl (A2 rfl rfl)) (rC rfl (A2 rfl rfl)) (rT rfl) ?_
 (refine ⟨rfl, A7, _, A7, _, ?_, N3 _ ⟨by omega, by omega⟩, N3 _ ⟨by omega, by omega⟩, T9 (by omega) (by omega), T9 (by omega) (by omega), ?_⟩ <;> rw [A1O, if_neg (by omega), if_neg (by omega)] <;> first | rfl | (intro p hp; cases hp))
 refine sD (nS (cF rfl (tK (nS (tS ?_)))))
 (have hlen : ks.length = 2 := ha2.1 (by omega); obtain ⟨b, o, q0, d0, hp0, hat0, hre0, hg0⟩ := hsl.kidTy hkl (i := 0) (by omega) (by omega); obtain ⟨b', o', q1, d1, hp1, hat1, hre1, hg1⟩ := hsl.kidTy hkl (i := 1) (by omega) (by omega); subst hp0; cases hp1; have hC1 := W5 _ G _ (hkid _ (List.getElem_mem (by omega))).small hre0; refine E1 E2 rfl ?_)
 refine J5 (i := 0) (l' := [tt,ff,ff,ff,ff,ff,ff,ff,ff,ff,ff,ff,ff]) rfl D5 (B1 rfl) rfl (by kernel_rfl) rfl rfl ?_
 refine aL 1 rfl (C0 rfl rfl) rfl ?_
 refine aP 2 rfl (B3 (j := 0) rfl rfl rfl (by omega)) rfl ?_
 refine aL 3 rfl (A1 rfl rfl (hat0 _) rfl) rfl ?_
 refine aP 5 rfl (B1 rfl) rfl ?_
 refine aL 6 rfl (C0 rfl rfl) rfl ?_
 refine aP 7 rfl (B3 (j := 1) rfl rfl rfl (by omega)) rfl ?_
 refine aL 8 rfl (A1 rfl rfl (hat1 _) rfl) rfl ?_
 refine A3 4 ?_
 (refine K0 rfl rfl hC1 rfl rfl rfl (fun v G1 hle1 hh => ?_); obtain ⟨cs1, F1, rfl, hs1, hn1⟩ := hh; obtain ⟨p1, c1, rfl, _⟩ := hs1.open; have hC2 := W5 _ G1 _ (hkid _ (List.getElem_mem (by omega))).small (hre1.mono hle1))
 refine A3 9 ?_
 (refine K0 rfl rfl hC2 rfl rfl rfl (fun v G2 hle2 hh => ?_); obtain ⟨cs2, F2, rfl, hs2, hn2⟩ := hh; obtain ⟨p2, c2, rfl, _⟩ := hs2.open; have hr1 := hs1.R.mono ((C1.le G1 G).trans hle2); have hr2 := hs2.R.mono (C1.le G2 G1))
 refine A3 10 ?_
 refine J0 rfl ?_
 refine A3 11 ?_
 refine R2 rfl rfl rfl rfl rfl rfl rfl rfl (by decide +kernel) (by repeat first | exact Sw.here | apply Sw.there) (by rfl) ?_
 refine aP 12 rfl (qA rfl) rfl ?_
 refine C5 (nS (tT ?_))
 refine C4 (rC rfl (A2 rfl rfl)) (rC rfl (A2 rfl rfl)) (rT rfl) ?_
 (refine ⟨rfl, _, _, _, _, ?_, hr1, hr2, hkid _ (List.getElem_mem (by omega)), hkid _ (List.getElem_mem (by omega)), ?_⟩ <;> rw [A1O, if_pos (by omega)] <;> first | rfl | (intro p hp; cases hp; simp [hlen]))
theorem B5G (G : IM) (cx : Cx) (hv : Y2 cx) (p : Option Addr) (n c : Nat) (nm : ByteArray) (hx : T2 G cx p n c) :
  Fn Tryz.prog 177 [.slice p n c, .string nm] [] G (P7 (W3 cx nm) G) := by
 have hn := hx.le
 refine B2 Tryz.func177 rfl Tryz.ntmps177 Tryz.results177 rfl ?_
 intro w0
 refine tS (tR ?_)
 refine sE (A5 rfl) rfl (fun b3 => ?_)
 refine D3 ?_
 refine sP (P5 rfl rfl (by omega) (by omega)) rfl rfl ?_
 refine sQ (qA rfl) rfl (sD (nS ?_))
 refine B4 ?_
 (refine K9 (fun (i : Nat) => ⟨[(6, .int .i64 ((i : Int) - 1)), (0, .slice p n c), (1, .string nm), (4, .pointer (some ⟨b3, 0, none⟩))], [.blk b3 [.int .i64 0, .slice none 0 0]], G⟩) (fun i => i ≤ n ∧ W3 cx nm = X1 cx nm i) (fun i => i) n ?_ ?_ ?_)
 exact D1
 (exact ⟨Nat.le_refl _, by unfold W3; rw [hx.1]⟩)
 (rintro i ⟨hi, hlk⟩)
 refine tS (tS (tR (sQ (qM rfl) rfl ?_)))
 refine sB (A0L rfl rfl) rfl rfl (fun h25 => ?_) (fun h25 => ?_)
 refine sD (nS (qT rfl (tK (nS (tS ?_)))))
 (show I8 _ _ (.block 1 _) _ _; obtain ⟨j, rfl⟩ : ∃ j, i = j + 1 := ⟨i - 1, by omega⟩; rw [show ((j + 1 : Nat) : Int) - 1 = (j : Int) from by omega]; obtain ⟨b, o, nm1, t1, q1, d1, hcx, rfl, hat, hr1, hgb⟩ := hx.get (i := j) (by omega); have ha1 := B5F (hv _ (List.mem_of_getElem? hcx)); refine B4 ?_)
 refine tS (tR (sQ (qM rfl) rfl (sQ (qM rfl) rfl ?_)))
 refine sP (B3 rfl rfl rfl (by omega)) rfl rfl ?_
 refine sQ (qF rfl) rfl ?_
 refine sL (A0p rfl rfl ((hat _).sub (j := 0) rfl)) rfl rfl ?_
 refine sQ (qM rfl) rfl ?_
 refine sB (A1b rfl rfl) rfl rfl (fun h41 => ?_) (fun h41 => ?_)
 refine C2 ?_
 refine sP (B3 rfl rfl rfl (by omega)) rfl rfl ?_
 refine sQ (qF rfl) rfl ?_
 refine sL (A1 rfl rfl (hat _).drop rfl) rfl rfl ?_
 (refine E0 rfl (W5 _ G _ ha1.small hr1) rfl rfl (fun v G1 hle1 hh => ?_); obtain ⟨cs1, F1, rfl, hs1', hn1⟩ := hh; obtain ⟨p1, c1, rfl, _⟩ := hs1'.open; have hrr := hs1'.R.mono (C1.le G1 G))
 refine I9 ?_
 refine I2 (rC rfl (A2 rfl rfl)) (rT rfl) ?_
 (exact P7.yes (by rw [hlk]; exact A6c hcx (by assumption)) hrr ha1)
 refine D3 ?_
 refine sP (P5 rfl rfl (by omega) (by omega)) rfl rfl ?_
 refine sQ (qA rfl) rfl (sD ?_)
 refine K7 j ?_ ?_ ?_
 exact D1
 (exact ⟨by omega, by rw [hlk]; exact A6d hcx (by assumption)⟩)
 (show _ < _ + 1; omega)
 refine K4 ?_
 refine I2 (rC rfl (A2 rfl rfl)) (rT rfl) ?_
 (obtain rfl : i = 0 := (by omega); exact P7.no (by rw [hlk]; rfl) (N3 _ ⟨by omega, by omega⟩) (T9 (by omega) (by omega)))
theorem A5o : ∀ (xs ys : List Ty), xs.length = ys.length → (S7 xs ys).length = xs.length
 | [], [], _ => rfl
 | a :: xs, b :: ys, h => by simp only [S7, List.length_cons]; rw [A5o xs ys (by simpa using h)]
 | [], b :: ys, h => by simp at h
 | a :: xs, [], h => by simp at h
theorem A69 : ∀ (xs ys : List Ty) (i : Nat) (h : i < xs.length) (h' : i < ys.length) (hl : i < (S7 xs ys).length), (S7 xs ys)[i] = V0 xs[i] ys[i]
 | [], _, i, h, _, _ => by simp at h
 | a :: xs, [], i, _, h', _ => by simp at h'
 | a :: xs, b :: ys, 0, _, _, _ => by simp [S7]
 | a :: xs, b :: ys, i + 1, h, h', hl => by
  simp only [S7, List.getElem_cons_succ]
  exact A69 xs ys i (by simpa using h) (by simpa using h') _
theorem B5H {xs ys : List Ty} {i : Nat} (hl : xs.length = ys.length) (h : i < xs.length) : (S7 xs ys).take (i + 1) = (S7 xs ys).take i ++ [V0 xs[i] (ys[i]'(by omega))] := by
 rw [List.take_succ_eq_append_getElem (by rw [A5o _ _ hl]; exact h), A69 _ _ i h (by omega)]
theorem B5I : ∀ (a b : Ty) (G : IM) (ca cb : List Value), K1 a b = true → E5 a → E5 b → B7 G a ca → B7 G b cb → Fn Tryz.prog 250 [.agg ⟨ca⟩, .agg ⟨cb⟩] [] G (L5 fun G' v => ∃ cells, v = .agg ⟨cells⟩ ∧ B7 G' (V0 a b) cells) := by
 refine Ty.ind fun ak aks ih b G ca cb hc ha hb hra hrb => ?_
 obtain ⟨bk, bks⟩ := b
 have hka := ha.kid
 have hkb := hb.kid
 have hca := W5 _ G _ ha.small hra
 have hcb := W5 _ G _ hb.small hrb
 have hcc : ak ≠ 1 → bk ≠ 1 → aks.length = bks.length ∧ ∀ i, (h : i < aks.length) → (h' : i < bks.length) → K1 aks[i] bks[i] = true := by
  intro h1 h2
  rw [S5, decide_eq_false h1, decide_eq_false h2] at hc
  simp only [Bool.false_or, Bool.and_eq_true, decide_eq_true_eq] at hc
  exact (A1X _ _).1 hc.2
 rw [A06]
 obtain ⟨pa, cca, ea, rfl, hak, hsla, hkla⟩ := hra.open
 obtain ⟨pb, ccb, eb, rfl, hbk, hslb, hklb⟩ := hrb.open
 simp only [Ty.k, Ty.ks] at hak hsla hkla hbk hslb hklb ⊢
 have hna := hsla.le
 have hnb := hslb.le
 have hl2 := ha.two
 refine B2 Tryz.func250 rfl Tryz.ntmps250 Tryz.results250 rfl ?_
 intro w0
 refine tS (tR ?_)
 refine sE (B9 rfl rfl) rfl (fun b3 => ?_)
 refine sE (B9 rfl rfl) rfl (fun b4 => ?_)
 refine sE (A5 rfl) rfl (fun b5 => ?_)
 refine C2 ?_
 refine sB (qE rfl rfl) rfl rfl (fun h13 => ?_) (fun h13 => ?_)
 refine sD (nS (qT rfl (tS (tR (sL (A2 rfl rfl) rfl rfl ?_)))))
 (refine E0 rfl (by first | exact hcb | exact hca) rfl rfl (fun v G1 hle1 hh => ?_); obtain ⟨cs1, F1, rfl, hs1, hn1⟩ := hh; obtain ⟨p1, c1, rfl, _⟩ := hs1.open; have hr1 := hs1.R.mono (C1.le G1 G))
 refine F9 ?_
 refine sD (nS (tT (rS ?_)))
 refine D9 (rC rfl (A2 rfl rfl)) ?_
 (rw [if_pos (by omega)]; exact ⟨rfl, _, rfl, hr1⟩)
 refine I9 ?_
 refine sB (qE rfl rfl) rfl rfl (fun h38 => ?_) (fun h38 => ?_)
 refine sD (nS (qT rfl (tS (tR (sL (A2 rfl rfl) rfl rfl ?_)))))
 (refine E0 rfl (by first | exact hcb | exact hca) rfl rfl (fun v G1 hle1 hh => ?_); obtain ⟨cs1, F1, rfl, hs1, hn1⟩ := hh; obtain ⟨p1, c1, rfl, _⟩ := hs1.open; have hr1 := hs1.R.mono (C1.le G1 G))
 refine F9 ?_
 refine sD (nS (tT (rS ?_)))
 refine D9 (rC rfl (A2 rfl rfl)) ?_
 (rw [if_neg (by omega), if_pos (by omega)]; exact ⟨rfl, _, rfl, hr1⟩)
 refine I9 ?_
 refine sE (A5 rfl) rfl (fun b63 => ?_)
 refine F9 ?_
 refine sD (nS (tS (tS (tR (sQ (qA rfl) rfl (sD (nS ?_)))))))
 refine B4 ?_
 (obtain ⟨hlab, hcab⟩ := hcc (by omega) (by omega); refine V5 25 2 ?_; refine K9 (fun (x : Nat × Option Addr × Nat × List Ty × List (List Value) × IM) => ⟨[(6, .int .i64 x.1), (5, .pointer (some ⟨b63, 0, none⟩)), (4, .pointer (some ⟨b5, 0, none⟩)), (2, .pointer (some ⟨b3, 0, none⟩)), (3, .pointer (some ⟨b4, 0, none⟩))], [.blk b63 [.int .i64 ak, .slice x.2.1 x.1 x.2.2.1], .slc x.2.1 x.2.2.1 25 2 x.1 x.2.2.2.2.1.flatten, .blk b5 [.int .i64 0, .slice none 0 0], .blk b4 [.int .i64 bk, .slice pb bks.length ccb], .blk b3 [.int .i64 ak, .slice pa aks.length cca]], x.2.2.2.2.2⟩) (fun x => x.1 ≤ aks.length ∧ B6 G x.2.2.2.2.2 ∧ x.2.2.2.1.length = x.1 ∧ D2 x.2.2.2.2.2 x.2.2.2.1 x.2.2.2.2.1 ∧ x.2.2.2.1 = (S7 aks bks).take x.1) (fun x => aks.length - x.1) (0, none, 0, [], [], G) ?_ ?_ ?_)
 (simp only [J6]; exact D1)
 (exact ⟨by simp, B6.refl _, rfl, by simp [D2], rfl⟩)
 (rintro ⟨i, pn, cn, us, es', Gi⟩ ⟨hi, hle, hlu, hst, hus⟩; simp only [] at hi hle hlu hst hus ⊢; replace hsla := hsla.mono hle; replace hkla := hkla.mono hle; replace hslb := hslb.mono hle; replace hklb := hklb.mono hle)
 refine C2 ?_
 refine sB (K6 rfl rfl) rfl rfl (fun h85 => ?_) (fun h85 => ?_)
 refine sD (nS (qT rfl (tK (nS (tS ?_)))))
 refine B4 ?_
 (obtain ⟨b, o, q0, d0, hp0, hat0, hre0, hg0⟩ := hsla.kidTy hkla (i := i) (by omega) (by omega); obtain ⟨b', o', q1, d1, hp1, hat1, hre1, hg1⟩ := hslb.kidTy hklb (i := i) (by omega) (by omega); subst hp0; subst hp1; have hih := ih aks[i] (List.getElem_mem (by omega)) bks[i] Gi _ _ (hcab i (by omega) (by omega)) (hka _ (List.getElem_mem (by omega))) (hkb _ (List.getElem_mem (by omega))) hre0 hre1; refine E1 E2 rfl ?_)
 refine J5 (i := 0) (l' := [tt,ff,ff,ff,ff,ff,ff,ff,ff,ff,ff,ff,ff,ff,ff,ff,ff]) rfl D5 (B1 rfl) rfl (by kernel_rfl) rfl rfl ?_
 refine aL 1 rfl (C0 rfl rfl) rfl ?_
 refine aP 2 rfl (B1 rfl) rfl ?_
 refine aL 3 rfl (C0 rfl rfl) rfl ?_
 refine aP 4 rfl (qM rfl) rfl ?_
 refine aP 5 rfl (B3 rfl rfl rfl (by omega)) rfl ?_
 refine aL 6 rfl (A1 rfl rfl (hat0 _) rfl) rfl ?_
 refine aP 7 rfl (B1 rfl) rfl ?_
 refine aL 8 rfl (C0 rfl rfl) rfl ?_
 refine aP 9 rfl (qM rfl) rfl ?_
 refine aP 10 rfl (B3 rfl rfl rfl (by omega)) rfl ?_
 refine aL 11 rfl (A1 rfl rfl (hat1 _) rfl) rfl ?_
 refine A3 12 ?_
 (refine K0 rfl rfl hih rfl rfl rfl (fun v G1 hle1 hh => ?_); obtain ⟨cells', rfl, hru⟩ := hh; generalize hu : V0 aks[i] bks[i] = u at hru; obtain ⟨p3, c3, es3, rfl, _⟩ := hru.open)
 refine A3 13 ?_
 (refine E4 rfl (C9 rfl rfl rfl (by omega) (by unfold maxLen; omega) rfl) rfl rfl ?_; rintro _ ⟨b109, rfl⟩)
 refine A3 14 ?_
 refine Q5 rfl rfl rfl rfl rfl rfl (fun _ _ => by repeat (first | exact Sw.here | apply Sw.there)) (P3 (by repeat first | exact mH | apply mT)) rfl (by simp [Value.oneCell']) (by unfold maxLen; omega) (by omega) rfl rfl (by repeat (first | exact A6.nil | apply A6.dep (by decide +kernel) | apply A6.blk (by decide +kernel) (by repeat (first | exact Pk.here | apply Pk.there)) (by repeat first | exact mH | apply mT))) (fun pn' cn' => ?_)
 refine aP 15 rfl (B1 rfl) rfl ?_
 refine A3 16 ?_
 refine R2 rfl rfl rfl rfl rfl rfl rfl rfl (by decide +kernel) (by repeat first | exact Sw.here | apply Sw.there) (by rfl) ?_
 refine C5 (M8 (nS (tR (sQ (qM rfl) rfl ?_))))
 refine sP (K2 rfl rfl (by omega) (by omega)) rfl rfl ?_
 refine sQ (qA rfl) rfl (sD ?_)
 refine K7 (i + 1, pn', cn', us ++ [u], es' ++ [[.int .i64 u.k, .slice p3 u.ks.length c3]], G1) ?_ ?_ ?_
 (simp only [J6]; exact D1)
 (dsimp only; exact ⟨by omega, hle.trans hle1, by simp [hlu], D2.snoc (hst.mono hle1) hru, by rw [B5H hlab (by omega), ← hus, hu]⟩)
 (show aks.length - (i + 1) < aks.length - i; omega)
 refine J2 ?_
 (refine I5 (by repeat (first | exact Pk.here | apply Pk.there)) (fun G2 hle2 hsl2 hno2 => ?_); obtain rfl : i = aks.length := (by omega))
 refine tT ?_
 refine D9 (rC rfl (A2 rfl rfl)) ?_
 (rw [List.take_of_length_le (by rw [A5o _ _ hlab]; omega)] at hus; rw [if_neg (by omega), if_neg (by omega), ← hus]; exact ⟨rfl, _, rfl, (hst.mono hle2).ty hlu hsl2 hak⟩)
theorem gD {ts : List Ty} {i : Nat} (h : i < ts.length) : ts.getD i A7 = ts[i] := by rw [List.getD_eq_getElem?_getD, List.getElem?_eq_getElem h, Option.getD_some]
section
variable {cx : Cx} {k : Int} {nm : ByteArray} {ty : Ty} {ts : List Ty}
theorem B0y (h : 1 < ts.length) : X3 cx 6 nm ty ts = match R3 4 ts[0] with | some (a, b) => if K1 ts[1] a = true then some b else none | none => none := by
 unfold X3 N2
 rw [gD (i := 0) (by omega), gD (i := 1) h]
 simp only [show ¬((6 : Int) = 1) by decide, show ¬((6 : Int) = 2) by decide, show ¬((6 : Int) = 3 ∨ (6 : Int) = 4) by decide, show ¬((6 : Int) = 5) by decide, if_false, if_true]
 cases R3 4 ts[0] with
 | none => rfl
 | some p =>
  obtain ⟨a, b⟩ := p
  by_cases hc : K1 ts[1] a = true
  ·simp [hc]
  ·simp [hc]
theorem A5p (hk : k = 7 ∨ k = 8) (h : 1 < ts.length) : X3 cx k nm ty ts = if K1 ts[0] T1 = true ∧ K1 ts[1] T1 = true then some (if k = 8 then Y0 else T1) else none := by
 unfold X3 N2
 rw [gD (i := 0) (by omega), gD (i := 1) h, if_neg (by omega), if_neg (by omega), if_neg (by omega), if_neg (by omega), if_neg (by omega), if_pos hk]
 by_cases hc : K1 ts[0] T1 = true ∧ K1 ts[1] T1 = true
 ·rw [if_pos hc, if_pos hc]; simp only; rw [if_neg (by omega)]
 ·rw [if_neg hc, if_neg hc]
theorem B0z (h : 2 < ts.length) : X3 cx 9 nm ty ts = if K1 ts[0] Y0 = true ∧ K1 ts[1] ts[2] = true then some (V0 ts[1] ts[2]) else none := by
 unfold X3 N2
 rw [gD (i := 0) (by omega), gD (i := 1) (by omega), gD (i := 2) h, if_neg (by omega), if_neg (by omega), if_neg (by omega), if_neg (by omega), if_neg (by omega), if_neg (by omega), if_pos rfl]
 by_cases hc : K1 ts[0] Y0 = true ∧ K1 ts[1] ts[2] = true
 ·rw [if_pos hc, if_pos hc]; simp
 ·rw [if_neg hc, if_neg hc]
theorem B5J (h : 1 < ts.length) : X3 cx 10 nm ty ts = if E7 (.mk 5 [ts[0], ts[1]]) = true then some (.mk 5 [ts[0], ts[1]]) else none := by
 unfold X3 N2
 rw [gD (i := 0) (by omega), gD (i := 1) h, if_neg (by omega), if_neg (by omega), if_neg (by omega), if_neg (by omega), if_neg (by omega), if_neg (by omega), if_neg (by omega), if_pos rfl]
 cases hv : E7 (.mk 5 [ts[0], ts[1]]) <;> simp [hv]
theorem B5K (h : 0 < ts.length) : X3 cx 13 nm ty ts = if K1 ts[0] ty = true then some ty else none := by
 unfold X3 N2
 rw [gD (i := 0) h, if_neg (by omega), if_neg (by omega), if_neg (by omega), if_neg (by omega), if_neg (by omega), if_neg (by omega), if_neg (by omega), if_neg (by omega), if_pos rfl]
 by_cases hc : K1 ts[0] ty = true
 ·rw [if_pos hc, if_pos hc]; simp
 ·rw [if_neg hc, if_neg hc]
theorem A5q (hk : k = 11 ∨ k = 12) (h : 0 < ts.length) : X3 cx k nm ty ts = match R3 5 ts[0] with | some (a, b) => some (if k = 12 then b else a) | none => none := by
 unfold X3 N2
 rw [gD (i := 0) h, if_neg (by omega), if_neg (by omega), if_neg (by omega), if_neg (by omega), if_neg (by omega), if_neg (by omega), if_neg (by omega), if_neg (by omega), if_neg (by omega)]
 cases R3 5 ts[0] with
 | none => rfl
 | some p =>
  obtain ⟨a, b⟩ := p
  simp only
  rw [if_neg (by omega)]
end
theorem B5L : ∀ (a b : Ty), K1 a b = true → E5 a → E5 b → E5 (V0 a b) := by
 refine Ty.ind fun k ks ih b hc ha hb => ?_
 obtain ⟨k', ks'⟩ := b
 rw [A06]
 split
 ·exact hb
 ·split
  ·exact ha
  ·rw [S5] at hc
   simp only [Bool.or_eq_true, Bool.and_eq_true, decide_eq_true_eq] at hc
   obtain ⟨hk, hl⟩ : k = k' ∧ N0 ks ks' = true := by
    rcases hc with (h | h) | h
    ·contradiction
    ·contradiction
    ·exact h
   obtain ⟨hll, hcc⟩ := (A1X _ _).1 hl
   have hlen := A5o ks ks' hll
   refine A8U ha hlen fun u hu => ?_
   obtain ⟨i, hi, rfl⟩ := List.mem_iff_getElem.1 hu
   rw [A69 ks ks' i (by omega) (by omega)]
   exact ih _ (List.getElem_mem _) _ (hcc i (by omega) (by omega)) (ha.kid _ (List.getElem_mem _)) (hb.kid _ (List.getElem_mem _))
theorem B5M (cx : Cx) (k : Int) (nm : ByteArray) (num : Int) (ty fr : Ty) (lb : Int) (ks : List Tm) (ts : List Ty) (G : IM) (cells : List Value) (p : Option Addr) (c : Nat) (es : List (List Value))
  (hops : C7 k = ts.length) (hk6 : 6 ≤ k ∧ k ≤ 13) (hty : E5 ty) (hr : A8 G (.mk k nm num ty fr lb ks) cells) (hsl : D0 G p ts.length c 2 es) (hkl : D2 G ts es) (har : ∀ t ∈ ts, E5 t) :
  Fn Tryz.prog 232 [.agg ⟨cells⟩, .slice p ts.length c] [] G (P7 (X3 cx k nm ty ts) G) := by
 have hone := hr.one
 have hop := A4R hops
 have ha0 := fun h : 0 < ts.length => har _ (List.getElem_mem h)
 have ha1 := fun h : 1 < ts.length => har _ (List.getElem_mem h)
 have ha2 := fun h : 2 < ts.length => har _ (List.getElem_mem h)
 obtain ⟨tk, tks⟩ := ty
 obtain ⟨fk, fks⟩ := fr
 obtain ⟨pt, ct, pf, cf, pk, ck, ek, rfl, hk, hnum, hlb, hrty, hrfr, _, _⟩ := hr.open9
 refine B2 Tryz.func232 rfl Tryz.ntmps232 Tryz.results232 rfl ?_
 intro w0
 refine tS (tR ?_)
 refine sE (B9 rfl rfl) rfl (fun b3 => ?_)
 refine sE (A5 rfl) rfl (fun b4 => ?_)
 refine I9 ?_
 refine B4 (tS (tR (sB (qE rfl rfl) rfl rfl (fun h18 => ?_) (fun h18 => ?_))))
 refine C2 ?_
 (have hl2 : ts.length = 2 := hop.1 (by omega); obtain ⟨b0, o0, q0, d0, hp0, hat0, hre0, hg0⟩ := hsl.kidTy hkl (i := 0) (by omega) (by omega); obtain ⟨b1, o1, q1, d1, hp1, hat1, hre1, hg1⟩ := hsl.kidTy hkl (i := 1) (by omega) (by omega); cases hp0; cases hp1; refine sP (B3 (j := 0) rfl rfl rfl (by omega)) rfl rfl ?_)
 refine sL (A1 rfl rfl (hat0 _) rfl) rfl rfl ?_
 focus (refine E0 rfl (A68 4 ts[0] G _ (.inl rfl) (ha0 (by omega)) hre0) rfl rfl (fun v G1 hle1 hh => ?_); obtain ⟨ma, mca, mb, mcb, rfl, hma, hmb, hma2, hmb2, hpp⟩ := hh; obtain ⟨p1, c1, e1, rfl, _⟩ := hma.open; obtain ⟨p2, c2, e2, rfl, _⟩ := hmb.open; replace hsl := hsl.mono hle1; replace hkl := hkl.mono hle1; rcases hm : R3 4 ts[0] with _ | pr; rotate_left; obtain rfl := hpp _ hm; rotate_left; all_goals simp only [Option.isSome])
 refine F0 ?_
 refine sE (A5 rfl) rfl (fun b33 => ?_)
 refine sE (A5 rfl) rfl (fun b34 => ?_)
 refine F9 ?_
 refine F9 ?_
 refine sQ (qA rfl) rfl (sD (nS (tS ?_)))
 (have hl2 : ts.length = 2 := hop.1 (by omega); obtain ⟨b0, o0, q0, d0, hp0, hat0, hre0, hg0⟩ := hsl.kidTy hkl (i := 0) (by omega) (by omega); obtain ⟨b1, o1, q1, d1, hp1, hat1, hre1, hg1⟩ := hsl.kidTy hkl (i := 1) (by omega) (by omega); cases hp0; cases hp1; refine E1 E2 rfl ?_)
 refine P9 (i := 0) (l' := [tt,ff,ff,ff,ff,ff,ff,ff,ff,ff,ff]) rfl D5 (A2 rfl rfl) rfl (by kernel_rfl) rfl rfl ?_
 refine aP 1 rfl (qM rfl) rfl ?_
 refine aP 2 rfl (qM rfl) rfl ?_
 refine B5 3 rfl rfl rfl ?_
 refine B5 4 rfl rfl rfl ?_
 refine B5 5 rfl rfl rfl ?_
 refine B5 6 rfl rfl rfl ?_
 refine B5 7 rfl rfl rfl ?_
 refine aP 8 rfl (O3 rfl rfl) rfl ?_
 refine A3 9 ?_
 refine J0 rfl ?_
 refine aP 10 rfl (qA rfl) rfl ?_
 refine C5 (nS (tT (rB (rS ?_))))
 refine I2 (rC rfl (A2 rfl rfl)) (rT rfl) ?_
 (obtain rfl : k = 6 := (by omega); exact P7.no (by rw [B0y (by omega), hm]) hmb hmb2)
 refine F0 ?_
 refine sE (A5 rfl) rfl (fun b65 => ?_)
 refine sE (A5 rfl) rfl (fun b66 => ?_)
 refine F9 ?_
 refine F9 ?_
 refine sQ (qA rfl) rfl (sD (nS (tS ?_)))
 (have hl2 : ts.length = 2 := hop.1 (by omega); obtain ⟨b0, o0, q0, d0, hp0, hat0, hre0, hg0⟩ := hsl.kidTy hkl (i := 0) (by omega) (by omega); obtain ⟨b1, o1, q1, d1, hp1, hat1, hre1, hg1⟩ := hsl.kidTy hkl (i := 1) (by omega) (by omega); cases hp0; cases hp1; refine E1 E2 rfl ?_)
 refine P9 (i := 0) (l' := [tt,ff,ff,ff,ff,ff,ff,ff,ff,ff,ff]) rfl D5 (A2 rfl rfl) rfl (by kernel_rfl) rfl rfl ?_
 refine aP 1 rfl (qM rfl) rfl ?_
 refine aP 2 rfl (qM rfl) rfl ?_
 refine aP 3 rfl (qM rfl) rfl ?_
 refine aP 4 rfl (B3 (j := 1) rfl rfl rfl (by omega)) rfl ?_
 refine aL 5 rfl (A1 rfl rfl (hat1 _) rfl) rfl ?_
 refine aL 6 rfl (A2 rfl rfl) rfl ?_
 refine A3 7 ?_
 refine P6 rfl rfl ((A1M ts[1] ma _ _ _ (ha1 (by omega)) hma2 hre1 hma)) rfl rfl rfl ?_
 refine aP 8 rfl (L4 rfl rfl) rfl ?_
 refine A3 9 ?_
 refine J0 rfl ?_
 refine aP 10 rfl (qA rfl) rfl ?_
 refine C5 (nS (tT (rB (rS ?_))))
 refine I2 (rC rfl (A2 rfl rfl)) (rT rfl) ?_
 (obtain rfl : k = 6 := (by omega); exact P7.mk (by rw [B0y (by omega), hm]) hmb hmb2)
 refine sQ (qA rfl) rfl (sD (nS (cF rfl (tS (tR ?_)))))
 refine sB (qE rfl rfl) rfl rfl (fun h100 => ?_) (fun h100 => ?_)
 refine sQ (qA rfl) rfl (sD (nS (qT rfl (tS ?_))))
 (have hl2 : ts.length = 2 := hop.1 (by omega); obtain ⟨b0, o0, q0, d0, hp0, hat0, hre0, hg0⟩ := hsl.kidTy hkl (i := 0) (by omega) (by omega); obtain ⟨b1, o1, q1, d1, hp1, hat1, hre1, hg1⟩ := hsl.kidTy hkl (i := 1) (by omega) (by omega); cases hp0; cases hp1; refine E1 E2 rfl ?_)
 refine J5 (i := 1) (l' := [ff,tt,ff,ff,ff,ff,ff,ff,ff,ff,ff,ff,ff,ff,ff]) rfl D5 (qM rfl) rfl (by kernel_rfl) rfl rfl ?_
 refine aP 2 rfl (B3 (j := 0) rfl rfl rfl (by omega)) rfl ?_
 refine aL 3 rfl (A1 rfl rfl (hat0 _) rfl) rfl ?_
 refine A3 0 ?_
 refine P6 rfl rfl ((A1n _)) rfl rfl rfl ?_
 refine A3 4 ?_
 refine P6 rfl rfl ((A1n _)) rfl rfl rfl ?_
 refine A3 5 ?_
 refine U7 rfl rfl ((A1M ts[0] (.mk 2 []) _ _ _ (ha0 (by omega)) (T9 (by decide) (by decide)) hre0 (N3 _ ⟨by omega, by omega⟩))) rfl rfl rfl (fun h115 => ?_) (fun h115 => ?_)
 refine aP 6 rfl (qM rfl) rfl ?_
 refine aP 7 rfl (qM rfl) rfl ?_
 refine aP 8 rfl (B3 (j := 1) rfl rfl rfl (by omega)) rfl ?_
 refine aL 9 rfl (A1 rfl rfl (hat1 _) rfl) rfl ?_
 refine A3 10 ?_
 refine P6 rfl rfl ((A1n _)) rfl rfl rfl ?_
 refine A3 11 ?_
 refine P6 rfl rfl ((A1M ts[1] (.mk 2 []) _ _ _ (ha1 (by omega)) (T9 (by decide) (by decide)) hre1 (N3 _ ⟨by omega, by omega⟩))) rfl rfl rfl ?_
 refine aP 12 rfl (L4 rfl rfl) rfl ?_
 refine A3 13 ?_
 refine J0 rfl ?_
 refine aP 14 rfl (qA rfl) rfl ?_
 refine C5 (nS (tT (rB (rS ?_))))
 refine I2 (rC rfl (A2 rfl rfl)) (rT rfl) ?_
 (have hk7 : k = 7 := (by omega); exact P7.mk (by rw [A5p (.inl hk7) (by omega)]; simp_all [T1]) (N3 _ ⟨by omega, by omega⟩) (T9 (by omega) (by omega)))
 refine aP 6 rfl (qM rfl) rfl ?_
 refine B5 7 rfl rfl rfl ?_
 refine B5 8 rfl rfl rfl ?_
 refine B5 9 rfl rfl rfl ?_
 refine B5 10 rfl rfl rfl ?_
 refine B5 11 rfl rfl rfl ?_
 refine aP 12 rfl (O3 rfl rfl) rfl ?_
 refine A3 13 ?_
 refine J0 rfl ?_
 refine aP 14 rfl (qA rfl) rfl ?_
 refine C5 (nS (tT (rB (rS ?_))))
 refine I2 (rC rfl (A2 rfl rfl)) (rT rfl) ?_
 (have hk7 : k = 7 := (by omega); exact P7.mk (by rw [A5p (.inl hk7) (by omega)]; simp_all [T1]) (N3 _ ⟨by omega, by omega⟩) (T9 (by omega) (by omega)))
 refine sQ (qA rfl) rfl (sD (nS (cF rfl (tS (tR ?_)))))
 refine sB (qE rfl rfl) rfl rfl (fun h158 => ?_) (fun h158 => ?_)
 refine sQ (qA rfl) rfl (sD (nS (qT rfl (tS ?_))))
 (have hl2 : ts.length = 2 := hop.1 (by omega); obtain ⟨b0, o0, q0, d0, hp0, hat0, hre0, hg0⟩ := hsl.kidTy hkl (i := 0) (by omega) (by omega); obtain ⟨b1, o1, q1, d1, hp1, hat1, hre1, hg1⟩ := hsl.kidTy hkl (i := 1) (by omega) (by omega); cases hp0; cases hp1; refine E1 E2 rfl ?_)
 refine J5 (i := 1) (l' := [ff,tt,ff,ff,ff,ff,ff,ff,ff,ff,ff,ff,ff,ff,ff]) rfl D5 (qM rfl) rfl (by kernel_rfl) rfl rfl ?_
 refine aP 2 rfl (B3 (j := 0) rfl rfl rfl (by omega)) rfl ?_
 refine aL 3 rfl (A1 rfl rfl (hat0 _) rfl) rfl ?_
 refine A3 0 ?_
 refine P6 rfl rfl ((A3P _)) rfl rfl rfl ?_
 refine A3 4 ?_
 refine P6 rfl rfl ((A1n _)) rfl rfl rfl ?_
 refine A3 5 ?_
 refine U7 rfl rfl ((A1M ts[0] (.mk 2 []) _ _ _ (ha0 (by omega)) (T9 (by decide) (by decide)) hre0 (N3 _ ⟨by omega, by omega⟩))) rfl rfl rfl (fun h173 => ?_) (fun h173 => ?_)
 refine aP 6 rfl (qM rfl) rfl ?_
 refine aP 7 rfl (qM rfl) rfl ?_
 refine aP 8 rfl (B3 (j := 1) rfl rfl rfl (by omega)) rfl ?_
 refine aL 9 rfl (A1 rfl rfl (hat1 _) rfl) rfl ?_
 refine A3 10 ?_
 refine P6 rfl rfl ((A1n _)) rfl rfl rfl ?_
 refine A3 11 ?_
 refine P6 rfl rfl ((A1M ts[1] (.mk 2 []) _ _ _ (ha1 (by omega)) (T9 (by decide) (by decide)) hre1 (N3 _ ⟨by omega, by omega⟩))) rfl rfl rfl ?_
 refine aP 12 rfl (L4 rfl rfl) rfl ?_
 refine A3 13 ?_
 refine J0 rfl ?_
 refine aP 14 rfl (qA rfl) rfl ?_
 refine C5 (nS (tT (rB (rS ?_))))
 refine I2 (rC rfl (A2 rfl rfl)) (rT rfl) ?_
 (have hk8 : k = 8 := (by omega); exact P7.mk (by rw [A5p (.inr hk8) (by omega)]; simp_all [T1, Y0]) (N3 _ ⟨by omega, by omega⟩) (T9 (by omega) (by omega)))
 refine aP 6 rfl (qM rfl) rfl ?_
 refine B5 7 rfl rfl rfl ?_
 refine B5 8 rfl rfl rfl ?_
 refine B5 9 rfl rfl rfl ?_
 refine B5 10 rfl rfl rfl ?_
 refine B5 11 rfl rfl rfl ?_
 refine aP 12 rfl (O3 rfl rfl) rfl ?_
 refine A3 13 ?_
 refine J0 rfl ?_
 refine aP 14 rfl (qA rfl) rfl ?_
 refine C5 (nS (tT (rB (rS ?_))))
 refine I2 (rC rfl (A2 rfl rfl)) (rT rfl) ?_
 (have hk8 : k = 8 := (by omega); exact P7.mk (by rw [A5p (.inr hk8) (by omega)]; simp_all [T1, Y0]) (N3 _ ⟨by omega, by omega⟩) (T9 (by omega) (by omega)))
 refine sQ (qA rfl) rfl (sD (nS (cF rfl (tS (tR ?_)))))
 refine sB (qE rfl rfl) rfl rfl (fun h216 => ?_) (fun h216 => ?_)
 refine sQ (qA rfl) rfl (sD (nS (qT rfl (tS (tS ?_)))))
 (have hl3 : ts.length = 3 := hop.2.1 (by omega); obtain ⟨b0, o0, q0, d0, hp0, hat0, hre0, hg0⟩ := hsl.kidTy hkl (i := 0) (by omega) (by omega); obtain ⟨b1, o1, q1, d1, hp1, hat1, hre1, hg1⟩ := hsl.kidTy hkl (i := 1) (by omega) (by omega); obtain ⟨b2, o2, q2, d2, hp2, hat2, hre2, hg2⟩ := hsl.kidTy hkl (i := 2) (by omega) (by omega); cases hp0; cases hp1; cases hp2; refine E1 E2 rfl ?_)
 refine J5 (i := 0) (l' := [tt,ff,ff,ff,ff,ff,ff,ff]) rfl D5 (qM rfl) rfl (by kernel_rfl) rfl rfl ?_
 refine aP 1 rfl (B3 (j := 1) rfl rfl rfl (by omega)) rfl ?_
 refine aL 2 rfl (A1 rfl rfl (hat1 _) rfl) rfl ?_
 refine aP 3 rfl (qM rfl) rfl ?_
 refine aP 4 rfl (B3 (j := 2) rfl rfl rfl (by omega)) rfl ?_
 refine aL 5 rfl (A1 rfl rfl (hat2 _) rfl) rfl ?_
 refine A3 6 ?_
 refine U7 rfl rfl ((A1M ts[1] ts[2] _ _ _ (ha1 (by omega)) (ha2 (by omega)) hre1 hre2)) rfl rfl rfl (fun h231 => ?_) (fun h231 => ?_)
 refine aP 7 rfl (Z3 rfl) rfl ?_
 refine C5 (nS (cF rfl (tK (nS (tS ?_)))))
 (have hl3 : ts.length = 3 := hop.2.1 (by omega); obtain ⟨b0, o0, q0, d0, hp0, hat0, hre0, hg0⟩ := hsl.kidTy hkl (i := 0) (by omega) (by omega); obtain ⟨b1, o1, q1, d1, hp1, hat1, hre1, hg1⟩ := hsl.kidTy hkl (i := 1) (by omega) (by omega); obtain ⟨b2, o2, q2, d2, hp2, hat2, hre2, hg2⟩ := hsl.kidTy hkl (i := 2) (by omega) (by omega); cases hp0; cases hp1; cases hp2; refine E1 E2 rfl ?_)
 refine J5 (i := 0) (l' := [tt,ff,ff,ff,ff,ff,ff,ff,ff,ff,ff,ff,ff,ff]) rfl D5 (qM rfl) rfl (by kernel_rfl) rfl rfl ?_
 refine aP 1 rfl (B3 (j := 1) rfl rfl rfl (by omega)) rfl ?_
 refine aL 2 rfl (A1 rfl rfl (hat1 _) rfl) rfl ?_
 refine aP 3 rfl (qM rfl) rfl ?_
 refine aP 4 rfl (B3 (j := 2) rfl rfl rfl (by omega)) rfl ?_
 refine aL 5 rfl (A1 rfl rfl (hat2 _) rfl) rfl ?_
 refine aP 7 rfl (qM rfl) rfl ?_
 refine aP 8 rfl (B3 (j := 0) rfl rfl rfl (by omega)) rfl ?_
 refine aL 9 rfl (A1 rfl rfl (hat0 _) rfl) rfl ?_
 refine A3 6 ?_
 (refine K0 rfl rfl (B5I ts[1] ts[2] G _ _ (by assumption) (ha1 (by omega)) (ha2 (by omega)) hre1 hre2) rfl rfl rfl (fun v G1 hle1 hh => ?_); obtain ⟨mc, rfl, hmr⟩ := hh; obtain ⟨mt, hmt⟩ : ∃ mt, V0 ts[1] ts[2] = mt := ⟨_, rfl⟩; rw [hmt] at hmr; have hma : E5 mt := (hmt ▸ B5L ts[1] ts[2] (by assumption) (ha1 (by omega)) (ha2 (by omega))); obtain ⟨p1, c1, e1, rfl, _⟩ := hmr.open; have hre0q := hre0.mono hle1)
 refine A3 10 ?_
 refine P6 rfl rfl ((A3P _)) rfl rfl rfl ?_
 refine A3 11 ?_
 refine P6 rfl rfl ((A1M ts[0] (.mk 3 []) _ _ _ (ha0 (by omega)) (T9 (by decide) (by decide)) hre0q (N3 _ ⟨by omega, by omega⟩))) rfl rfl rfl ?_
 refine A3 12 ?_
 refine J0 rfl ?_
 refine aP 13 rfl (qA rfl) rfl ?_
 refine C5 (nS (tT (rB (rS ?_))))
 refine I2 (rC rfl (A2 rfl rfl)) (rT rfl) ?_
 (obtain rfl : k = 9 := (by omega); exact P7.mk (by rw [B0z (by omega), hmt]; simp_all [Y0]) hmr hma)
 refine aP 7 rfl (pNf rfl) rfl ?_
 refine J2 ?_
 refine I2 (rC rfl (A2 rfl rfl)) (rT rfl) ?_
 (obtain rfl : k = 9 := (by omega); exact P7.no (by rw [B0z (by omega)]; simp_all) (N3 _ ⟨by omega, by omega⟩) (T9 (by omega) (by omega)))
 refine sQ (qA rfl) rfl (sD (nS (cF rfl (tS (tR ?_)))))
 refine sB (qE rfl rfl) rfl rfl (fun h288 => ?_) (fun h288 => ?_)
 refine sQ (qA rfl) rfl (sD (nS (qT rfl (tS ?_))))
 (have hl2 : ts.length = 2 := hop.1 (by omega); obtain ⟨b0, o0, q0, d0, hp0, hat0, hre0, hg0⟩ := hsl.kidTy hkl (i := 0) (by omega) (by omega); obtain ⟨b1, o1, q1, d1, hp1, hat1, hre1, hg1⟩ := hsl.kidTy hkl (i := 1) (by omega) (by omega); cases hp0; cases hp1; refine E1 E2 rfl ?_)
 refine J5 (i := 0) (l' := [tt,ff,ff,ff,ff,ff,ff,ff,ff,ff,ff]) rfl D5 (qM rfl) rfl (by kernel_rfl) rfl rfl ?_
 refine aP 1 rfl (B3 (j := 0) rfl rfl rfl (by omega)) rfl ?_
 refine aL 2 rfl (A1 rfl rfl (hat0 _) rfl) rfl ?_
 refine aP 3 rfl (qM rfl) rfl ?_
 refine aP 4 rfl (B3 (j := 1) rfl rfl rfl (by omega)) rfl ?_
 refine aL 5 rfl (A1 rfl rfl (hat1 _) rfl) rfl ?_
 refine A3 6 ?_
 (refine K0 rfl rfl (A5n 5 ts[0] ts[1] G _ _ (.inr rfl) (ha0 (by omega)) (ha1 (by omega)) hre0 hre1) rfl rfl rfl (fun v G1 hle1 hh => ?_); obtain ⟨mc, rfl, hmr⟩ := hh; have hma := A4Q (.inr rfl) (ha0 (by omega)) (ha1 (by omega)); obtain ⟨p1, c1, e1, rfl, _⟩ := hmr.open)
 refine aP 7 rfl (pX rfl rfl) rfl ?_
 refine aP 8 rfl (pX rfl rfl) rfl ?_
 refine A3 9 ?_
 refine J0 rfl ?_
 refine aP 10 rfl (qA rfl) rfl ?_
 refine C5 (nS (tT (rB (rS ?_))))
 refine I2 (rC rfl (A2 rfl rfl)) (rT rfl) ?_
 (obtain rfl : k = 10 := (by omega); exact P7.mk (by rw [B5J (by omega)]) hmr hma)
 refine sQ (qA rfl) rfl (sD (nS (cF rfl (tS (tR ?_)))))
 refine sB (qE rfl rfl) rfl rfl (fun h321 => ?_) (fun h321 => ?_)
 refine C2 ?_
 (have hl1 : ts.length = 1 := hop.2.2 (by omega); obtain ⟨b0, o0, q0, d0, hp0, hat0, hre0, hg0⟩ := hsl.kidTy hkl (i := 0) (by omega) (by omega); cases hp0; refine sP (B3 (j := 0) rfl rfl rfl (by omega)) rfl rfl ?_)
 refine sL (A1 rfl rfl (hat0 _) rfl) rfl rfl ?_
 focus (refine E0 rfl (A68 5 ts[0] G _ (.inr rfl) (ha0 (by omega)) hre0) rfl rfl (fun v G1 hle1 hh => ?_); obtain ⟨ma, mca, mb, mcb, rfl, hma, hmb, hma2, hmb2, hpp⟩ := hh; obtain ⟨p1, c1, e1, rfl, _⟩ := hma.open; obtain ⟨p2, c2, e2, rfl, _⟩ := hmb.open; rcases hm : R3 5 ts[0] with _ | pr; rotate_left; obtain rfl := hpp _ hm; rotate_left; all_goals simp only [Option.isSome])
 refine F0 ?_
 refine sE (A5 rfl) rfl (fun b336 => ?_)
 refine sE (A5 rfl) rfl (fun b337 => ?_)
 refine K4 ?_
 refine I2 (rC rfl (A2 rfl rfl)) (rT rfl) ?_
 (have hk11 : k = 11 := (by omega); exact P7.no (by rw [A5q (.inl hk11) (by omega), hm]) hma hma2)
 refine F0 ?_
 refine sE (A5 rfl) rfl (fun b360 => ?_)
 refine sE (A5 rfl) rfl (fun b361 => ?_)
 refine K4 ?_
 refine I2 (rC rfl (A2 rfl rfl)) (rT rfl) ?_
 (have hk11 : k = 11 := (by omega); exact P7.yes (by rw [A5q (.inl hk11) (by omega), hm]; simp only; rw [if_neg (by omega)]) hma hma2)
 refine sQ (qA rfl) rfl (sD (nS (cF rfl (tS (tR ?_)))))
 refine sB (qE rfl rfl) rfl rfl (fun h386 => ?_) (fun h386 => ?_)
 refine C2 ?_
 (have hl1 : ts.length = 1 := hop.2.2 (by omega); obtain ⟨b0, o0, q0, d0, hp0, hat0, hre0, hg0⟩ := hsl.kidTy hkl (i := 0) (by omega) (by omega); cases hp0; refine sP (B3 (j := 0) rfl rfl rfl (by omega)) rfl rfl ?_)
 refine sL (A1 rfl rfl (hat0 _) rfl) rfl rfl ?_
 focus (refine E0 rfl (A68 5 ts[0] G _ (.inr rfl) (ha0 (by omega)) hre0) rfl rfl (fun v G1 hle1 hh => ?_); obtain ⟨ma, mca, mb, mcb, rfl, hma, hmb, hma2, hmb2, hpp⟩ := hh; obtain ⟨p1, c1, e1, rfl, _⟩ := hma.open; obtain ⟨p2, c2, e2, rfl, _⟩ := hmb.open; rcases hm : R3 5 ts[0] with _ | pr; rotate_left; obtain rfl := hpp _ hm; rotate_left; all_goals simp only [Option.isSome])
 refine F0 ?_
 refine sE (A5 rfl) rfl (fun b401 => ?_)
 refine sE (A5 rfl) rfl (fun b402 => ?_)
 refine K4 ?_
 refine I2 (rC rfl (A2 rfl rfl)) (rT rfl) ?_
 (have hk12 : k = 12 := (by omega); exact P7.no (by rw [A5q (.inr hk12) (by omega), hm]) hmb hmb2)
 refine F0 ?_
 refine sE (A5 rfl) rfl (fun b425 => ?_)
 refine sE (A5 rfl) rfl (fun b426 => ?_)
 refine K4 ?_
 refine I2 (rC rfl (A2 rfl rfl)) (rT rfl) ?_
 (have hk12 : k = 12 := (by omega); exact P7.yes (by rw [A5q (.inr hk12) (by omega), hm]; simp only; rw [if_pos (by omega)]) hmb hmb2)
 refine sQ (qA rfl) rfl (sD (nS (cF rfl (tS (tR ?_)))))
 refine sP (T5 rfl rfl (by omega)) rfl rfl ?_
 refine sQ (qA rfl) rfl (sD (nS (qT rfl (tS ?_))))
 (have hl1 : ts.length = 1 := hop.2.2 (by omega); obtain ⟨b0, o0, q0, d0, hp0, hat0, hre0, hg0⟩ := hsl.kidTy hkl (i := 0) (by omega) (by omega); cases hp0; refine E1 E2 rfl ?_)
 refine J5 (i := 0) (l' := [tt,ff,ff,ff,ff,ff,ff,ff,ff,ff,ff]) rfl D5 (B1 rfl) rfl (by kernel_rfl) rfl rfl ?_
 refine aL 1 rfl (A2 rfl rfl) rfl ?_
 refine aP 3 rfl (qM rfl) rfl ?_
 refine aP 4 rfl (B3 (j := 0) rfl rfl rfl (by omega)) rfl ?_
 refine aL 5 rfl (A1 rfl rfl (hat0 _) rfl) rfl ?_
 refine aP 6 rfl (B1 rfl) rfl ?_
 refine aL 7 rfl (A2 rfl rfl) rfl ?_
 refine A3 2 ?_
 (refine K0 rfl rfl (W5 (.mk tk tks) G _ hty.small hrty) rfl rfl rfl (fun v G1 hle1 hh => ?_); obtain ⟨cs1, F1, rfl, hs1, hn1⟩ := hh; obtain ⟨p1, c1, rfl, _⟩ := hs1.open; have hmr := hs1.R.mono (C1.le G1 G); have hre0q := hre0.mono hle1; have hrtyq := hrty.mono hle1)
 refine A3 8 ?_
 refine P6 rfl rfl ((A1M ts[0] (.mk tk tks) _ _ _ (ha0 (by omega)) hty hre0q hrtyq)) rfl rfl rfl ?_
 refine A3 9 ?_
 refine J0 rfl ?_
 refine aP 10 rfl (qA rfl) rfl ?_
 refine C5 (nS (tT (rB (rS ?_))))
 refine I2 (rC rfl (A2 rfl rfl)) (rT rfl) ?_
 (obtain rfl : k = 13 := (by omega); exact P7.mk (by rw [B5K (by omega)]) hmr hty)
section
variable {ak bk : Int} {aks bks : List Ty}
theorem B5N (h : ak ≠ bk) : O2 (.mk ak aks) (.mk bk bks) = false := by rw [A2t, decide_eq_false h]; rfl
theorem B5O (h : aks.length ≠ bks.length) : O2 (.mk ak aks) (.mk bk bks) = false := by
 rw [A2t]
 cases hl : A0j aks bks with
 | false => simp
 | true => exact absurd ((A3H _ _).1 hl).1 h
theorem B5P {i : Nat} (hi : i < aks.length) (hi' : i < bks.length) (h : O2 aks[i] bks[i] = false) : O2 (.mk ak aks) (.mk bk bks) = false := by
 rw [A2t]
 cases hl : A0j aks bks with
 | false => simp
 | true => have := ((A3H _ _).1 hl).2 i hi hi'; rw [h] at this; cases this
theorem B5Q (hk : ak = bk) (hl : aks.length = bks.length) (h : ∀ i, (h : i < aks.length) → (h' : i < bks.length) → O2 aks[i] bks[i] = true) : O2 (.mk ak aks) (.mk bk bks) = true := by
 rw [A2t, decide_eq_true hk, (A3H _ _).2 ⟨hl, h⟩]; rfl
end
theorem B5R : ∀ (a b : Ty) (G : IM) (ca cb : List Value), B7 G a ca → B7 G b cb → Fn Tryz.prog 146 [.agg ⟨ca⟩, .agg ⟨cb⟩] [] G (H0 (.bool (O2 a b)) G) := by
 refine Ty.ind fun ak aks ih b G ca cb hra hrb => ?_
 obtain ⟨bk, bks⟩ := b
 obtain ⟨pa, cca, ea, rfl, hak, hsla, hkla⟩ := hra.open
 obtain ⟨pb, ccb, eb, rfl, hbk, hslb, hklb⟩ := hrb.open
 simp only [Ty.k, Ty.ks] at hak hsla hkla hbk hslb hklb ⊢
 have hna := hsla.le
 have hnb := hslb.le
 have e1 := @B5N ak bk aks bks
 have e2 := @B5O ak bk aks bks
 have e3 := fun i => @B5P ak bk aks bks i
 have e4 := @B5Q ak bk aks bks
 generalize O2 (.mk ak aks) (.mk bk bks) = R at e1 e2 e3 e4 ⊢
 refine B2 Tryz.func146 rfl Tryz.ntmps146 Tryz.results146 rfl ?_
 intro w0
 refine tS (tR ?_)
 refine sE (B9 rfl rfl) rfl (fun b3 => ?_)
 refine sE (B9 rfl rfl) rfl (fun b4 => ?_)
 refine I9 ?_
 refine sB (M7 rfl rfl) rfl rfl (fun h15 => ?_) (fun h15 => ?_)
 refine A0u ?_
 (exact ⟨rfl, by rw [e1 (by omega)], rfl⟩)
 refine C2 ?_
 refine sB (M7 rfl rfl) rfl rfl (fun h44 => ?_) (fun h44 => ?_)
 refine N6 ?_
 (exact ⟨rfl, by rw [e2 (by omega)], rfl⟩)
 refine N6 ?_
 refine B4 ?_
 (refine K9 (fun (i : Nat) => ⟨[(5, .int .i64 i), (2, .pointer (some ⟨b3, 0, none⟩)), (3, .pointer (some ⟨b4, 0, none⟩))], [.blk b4 [.int .i64 bk, .slice pb bks.length ccb], .blk b3 [.int .i64 ak, .slice pa aks.length cca]], G⟩) (fun i => i ≤ aks.length ∧ ∀ j, (h : j < aks.length) → (h' : j < bks.length) → j < i → O2 aks[j] bks[j] = true) (fun i => aks.length - i) 0 ?_ ?_ ?_)
 exact D1
 (exact ⟨Nat.zero_le _, fun j _ _ hj => absurd hj (Nat.not_lt_zero j)⟩)
 (rintro i ⟨hi, hall⟩)
 refine C2 ?_
 refine sB (K6 rfl rfl) rfl rfl (fun h82 => ?_) (fun h82 => ?_)
 refine sD (nS (qT rfl (tK (nS (tS ?_)))))
 refine B4 ?_
 refine tS ?_
 (obtain ⟨b, o, q0, d0, hp0, hat0, hre0, hg0⟩ := hsla.kidTy hkla (i := i) (by omega) (by omega); obtain ⟨b', o', q1, d1, hp1, hat1, hre1, hg1⟩ := hslb.kidTy hklb (i := i) (by omega) (by omega); subst hp0; subst hp1; have hih := ih aks[i] (List.getElem_mem (by omega)) bks[i] G _ _ hre0 hre1; refine E1 E2 rfl ?_)
 refine J5 (i := 0) (l' := [tt,ff,ff,ff,ff,ff,ff,ff,ff,ff,ff,ff]) rfl D5 (B1 rfl) rfl (by kernel_rfl) rfl rfl ?_
 refine aL 1 rfl (C0 rfl rfl) rfl ?_
 refine aP 2 rfl (qM rfl) rfl ?_
 refine aP 3 rfl (B3 rfl rfl rfl (by omega)) rfl ?_
 refine aL 4 rfl (A1 rfl rfl (hat0 _) rfl) rfl ?_
 refine aP 5 rfl (B1 rfl) rfl ?_
 refine aL 6 rfl (C0 rfl rfl) rfl ?_
 refine aP 7 rfl (qM rfl) rfl ?_
 refine aP 8 rfl (B3 rfl rfl rfl (by omega)) rfl ?_
 refine aL 9 rfl (A1 rfl rfl (hat1 _) rfl) rfl ?_
 refine A3 10 ?_
 refine U7 rfl rfl (hih) rfl rfl rfl (fun h103 => ?_) (fun h103 => ?_)
 refine aP 11 rfl (Z3 rfl) rfl ?_
 refine D3 ?_
 refine sP (K2 rfl rfl (by omega) (by omega)) rfl rfl ?_
 refine sQ (qA rfl) rfl (sD ?_)
 refine K7 (i + 1) ?_ ?_ ?_
 exact D1
 (exact ⟨by omega, fun j h h' hj => by by_cases hji : j = i; (subst hji; assumption); exact hall j h h' (by omega)⟩)
 omega
 refine aP 11 rfl (pNf rfl) rfl ?_
 refine H9 ?_
 (exact ⟨rfl, by rw [e3 i (by omega) (by omega) (by assumption)], rfl⟩)
 refine H9 ?_
 (exact ⟨rfl, by rw [e4 (by omega) (by omega) (fun j h h' => hall j h h' (by omega))], rfl⟩)
theorem B5S (G : IM) (cx : Cx) (p : Option Addr) (n c : Nat) (nm : ByteArray) (t : Ty) (cells : List Value) (hx : T2 G cx p n c) (hn : n ≤ 1000) (hr : B7 G t cells) :
  Fn Tryz.prog 197 [.slice p n c, .string nm, .agg ⟨cells⟩] [] G (L5 fun G' v => ∃ p' c', v = .slice p' (n + 1) c' ∧ T2 G' (cx ++ [(nm, t)]) p' (n + 1) c') := by
 obtain ⟨k, ks⟩ := t
 obtain ⟨q, d, es0, rfl, _⟩ := hr.open
 simp only [Ty.k, Ty.ks] at hr ⊢
 obtain ⟨hx1, es, h2, h3⟩ := id hx
 have hSl : Sl G p n c 3 es.flatten := h2.1
 have h1c : ∀ u ∈ es.flatten, u.oneCell' = true := by
  intro u hu
  obtain ⟨e, he, hue⟩ := List.mem_flatten.1 hu
  exact List.all_eq_true.1 (h2.one e he) u hue
 refine B2 Tryz.func197 rfl Tryz.ntmps197 Tryz.results197 rfl ?_
 intro w0
 refine tS (tR ?_)
 refine sE (B9 rfl rfl) rfl (fun b3 => ?_)
 refine sQ (qA rfl) rfl (sD (nS (tS ?_)))
 refine E1 E2 rfl ?_
 refine J5 (i := 1) (l' := [ff,tt,ff,ff,ff,ff,ff,ff,ff]) rfl D5 (qM rfl) rfl (by kernel_rfl) rfl rfl ?_
 refine aP 3 rfl (qM rfl) rfl ?_
 refine aL 4 rfl (A2 rfl rfl) rfl ?_
 refine aP 5 rfl (W1 rfl rfl) rfl ?_
 refine V3 (j := 0) (j' := 6) (by kernel_rfl) ?_ ?_
 (refine E4 rfl (C9 rfl rfl rfl (by omega) (by unfold maxLen; omega) rfl) rfl rfl ?_; rintro _ ⟨b14, rfl⟩)
 refine V3 (j := 2) (j' := 6) (by kernel_rfl) ?_ ?_
 (refine A2V rfl rfl rfl rfl rfl rfl (fun _ _ => by repeat (first | exact Sw.here | apply Sw.there)) hSl h1c (Nat.zero_le _) (by unfold maxLen; omega) (by omega) rfl rfl (by repeat (first | exact A6.nil | apply A6.dep (by decide +kernel) | apply A6.blk (by decide +kernel) (by repeat (first | exact Pk.here | apply Pk.there)) (by repeat first | exact mH | apply mT))) (fun p4 c4 => ?_); simp only [Nat.zero_add, List.nil_append])
 refine A3 6 ?_
 (refine E4 rfl (C9 rfl rfl rfl (by omega) (by unfold maxLen; omega) rfl) rfl rfl ?_; rintro _ ⟨b18, rfl⟩)
 refine A3 7 ?_
 (refine Q5 rfl rfl rfl rfl rfl rfl (fun _ _ => by repeat (first | exact Sw.here | apply Sw.there)) (P3 (by repeat first | exact mH | apply mT)) rfl (by simp [Value.oneCell']) (by unfold maxLen; omega) (by omega) rfl rfl (by repeat (first | exact A6.nil | apply A6.dep (by decide +kernel) | apply A6.blk (by decide +kernel) (by repeat (first | exact Pk.here | apply Pk.there)) (by repeat first | exact mH | apply mT))) (fun p5 c5 => ?_))
 refine aP 8 rfl (qA rfl) rfl ?_
 refine C5 (nS ?_)
 (refine I5 (cs := es.flatten ++ [.string nm, .int .i64 k, .slice q ks.length d]) (by repeat (first | exact Pk.here | apply Pk.there)) (fun G5 hle5 hsl5 hno5 => ?_))
 refine tT (D9 (rT rfl) ?_)
 (exact ⟨rfl, _, _, rfl, T2.snoc (nm := nm) (t := .mk k ks) hx1 h2.len h2.all h2.one h3 hle5 ⟨_, _, rfl, hr.mono hle5⟩ hsl5⟩)
 (refine E4 rfl (C9 rfl rfl rfl (by omega) (by unfold maxLen; omega) rfl) rfl rfl ?_; rintro _ ⟨b28, rfl⟩)
 refine A3 2 ?_
 (refine A2V rfl rfl rfl rfl rfl rfl (fun _ _ => by repeat (first | exact Sw.here | apply Sw.there)) hSl h1c (Nat.zero_le _) (by unfold maxLen; omega) (by omega) rfl rfl (by repeat (first | exact A6.nil | apply A6.dep (by decide +kernel) | apply A6.blk (by decide +kernel) (by repeat (first | exact Pk.here | apply Pk.there)) (by repeat first | exact mH | apply mT))) (fun p4 c4 => ?_); simp only [Nat.zero_add, List.nil_append])
 refine A3 7 ?_
 (refine Q5 rfl rfl rfl rfl rfl rfl (fun _ _ => by repeat (first | exact Sw.here | apply Sw.there)) (P3 (by repeat first | exact mH | apply mT)) rfl (by simp [Value.oneCell']) (by unfold maxLen; omega) (by omega) rfl rfl (by repeat (first | exact A6.nil | apply A6.dep (by decide +kernel) | apply A6.blk (by decide +kernel) (by repeat (first | exact Pk.here | apply Pk.there)) (by repeat first | exact mH | apply mT))) (fun p5 c5 => ?_))
 refine aP 8 rfl (qA rfl) rfl ?_
 refine C5 (nS ?_)
 (refine I5 (cs := es.flatten ++ [.string nm, .int .i64 k, .slice q ks.length d]) (by repeat (first | exact Pk.here | apply Pk.there)) (fun G5 hle5 hsl5 hno5 => ?_))
 refine tT (D9 (rT rfl) ?_)
 (exact ⟨rfl, _, _, rfl, T2.snoc (nm := nm) (t := .mk k ks) hx1 h2.len h2.all h2.one h3 hle5 ⟨_, _, rfl, hr.mono hle5⟩ hsl5⟩)
 (refine E4 rfl (C9 rfl rfl rfl (by omega) (by unfold maxLen; omega) rfl) rfl rfl ?_; rintro _ ⟨b40, rfl⟩)
 refine A3 0 ?_
 (refine E4 rfl (C9 rfl rfl rfl (by omega) (by unfold maxLen; omega) rfl) rfl rfl ?_; rintro _ ⟨b42, rfl⟩)
 refine A3 2 ?_
 (refine A2V rfl rfl rfl rfl rfl rfl (fun _ _ => by repeat (first | exact Sw.here | apply Sw.there)) hSl h1c (Nat.zero_le _) (by unfold maxLen; omega) (by omega) rfl rfl (by repeat (first | exact A6.nil | apply A6.dep (by decide +kernel) | apply A6.blk (by decide +kernel) (by repeat (first | exact Pk.here | apply Pk.there)) (by repeat first | exact mH | apply mT))) (fun p4 c4 => ?_); simp only [Nat.zero_add, List.nil_append])
 refine A3 7 ?_
 (refine Q5 rfl rfl rfl rfl rfl rfl (fun _ _ => by repeat (first | exact Sw.here | apply Sw.there)) (P3 (by repeat first | exact mH | apply mT)) rfl (by simp [Value.oneCell']) (by unfold maxLen; omega) (by omega) rfl rfl (by repeat (first | exact A6.nil | apply A6.dep (by decide +kernel) | apply A6.blk (by decide +kernel) (by repeat (first | exact Pk.here | apply Pk.there)) (by repeat first | exact mH | apply mT))) (fun p5 c5 => ?_))
 refine aP 8 rfl (qA rfl) rfl ?_
 refine C5 (nS ?_)
 (refine I5 (cs := es.flatten ++ [.string nm, .int .i64 k, .slice q ks.length d]) (by repeat (first | exact Pk.here | apply Pk.there)) (fun G5 hle5 hsl5 hno5 => ?_))
 refine tT (D9 (rT rfl) ?_)
 (exact ⟨rfl, _, _, rfl, T2.snoc (nm := nm) (t := .mk k ks) hx1 h2.len h2.all h2.one h3 hle5 ⟨_, _, rfl, hr.mono hle5⟩ hsl5⟩)
theorem B0A {cx : Cx} : ∀ {ks : List Tm} {i : Nat} {us : List Ty} {u : Ty} (hi : i < ks.length), W7 cx (ks.take i) = some us → Q3 cx ks[i] = some u → W7 cx (ks.take (i + 1)) = some (us ++ [u])
 | [], i, us, u, hi, _, _ => by simp at hi
 | t :: ts, 0, us, u, _, h1, h2 => by
  simp only [List.take_zero, W7, Option.some.injEq] at h1
  subst h1
  simp only [List.getElem_cons_zero] at h2
  simp [W7, h2]
 | t :: ts, i + 1, us, u, hi, h1, h2 => by
  simp only [List.take_succ_cons, W7] at h1 ⊢
  split at h1
  ·cases h1
  ·rename_i a ha
   split at h1
   ·cases h1
   ·rename_i bs has
    simp only [Option.some.injEq] at h1
    subst h1
    simp only [List.getElem_cons_succ] at h2
    have := B0A (ks := ts) (i := i) (by simpa using hi) has h2
    simp only [this, List.cons_append]
theorem B0B {cx : Cx} : ∀ {ks : List Tm} {i : Nat} (hi : i < ks.length), Q3 cx ks[i] = none → W7 cx ks = none
 | [], i, hi, _ => by simp at hi
 | t :: ts, 0, _, h => by simp only [List.getElem_cons_zero] at h; rw [W7, h]
 | t :: ts, i + 1, hi, h => by
  simp only [List.getElem_cons_succ] at h
  have := B0B (ks := ts) (i := i) (by simpa using hi) h
  rw [W7, this]
  cases Q3 cx t <;> rfl
section
variable {cx : Cx} {k : Int} {nm : ByteArray} {num : Int} {ty fr : Ty} {lb : Int} {ks : List Tm}
theorem B5T (hk : k = 1) (h0 : ks = []) : Q3 cx (.mk k nm num ty fr lb ks) = W3 cx nm := by
 subst hk h0
 rw [Q3, W7]
 simp only [X3, mW1]
 cases W3 cx nm with
 | none => rfl
 | some t => simp
theorem B5U (hk : k = 2) (h0 : ks = []) : Q3 cx (.mk k nm num ty fr lb ks) = some T1 := by subst hk h0; rfl
theorem B5V (hk : k = 3 ∨ k = 4) (h0 : ks = []) : Q3 cx (.mk k nm num ty fr lb ks) = some Y0 := by subst h0; rcases hk with rfl | rfl <;> rfl
theorem B5W {b : Tm} (hk : k = 5) (h : Q3 (cx ++ [(nm, ty)]) b = none) : Q3 cx (.mk k nm num ty fr lb [b]) = none := by
 subst hk; rw [Q3, P0, if_pos rfl, W7, h]
theorem B5X {b : Tm} {t : Ty} (hk : k = 5) (h : Q3 (cx ++ [(nm, ty)]) b = some t) : Q3 cx (.mk k nm num ty fr lb [b]) = if E7 (.mk 4 [ty, t]) = true then some (.mk 4 [ty, t]) else none := by
 subst hk
 rw [Q3, P0, if_pos rfl, W7, h]
 simp only [W7, X3, mW5, List.getD_cons_zero]
 cases E7 (.mk 4 [ty, t]) <;> simp
theorem B5Y (hk : k ≠ 5) (h : W7 cx ks = none) : Q3 cx (.mk k nm num ty fr lb ks) = none := by rw [Q3, P0, if_neg hk, h]
theorem B5Z {ts : List Ty} (hk : k ≠ 5) (h : W7 cx ks = some ts) : Q3 cx (.mk k nm num ty fr lb ks) = X3 cx k nm ty ts := by rw [Q3, P0, if_neg hk, h]
end
theorem B50 : ∀ (e : Tm) (d : Int) (cx : Cx) (G : IM) (p : Option Addr) (n c : Nat) (cells : List Value), J1 12 14 e d = true → (n : Int) ≤ d → Y2 cx → T2 G cx p n c → A8 G e cells →
  Fn Tryz.prog 196 [.slice p n c, .agg ⟨cells⟩] [] G (P7 (Q3 cx e) G) := by
 refine Tm.ind fun k nm num ty fr lb ks ih d cx G p n c cells hv hnd hcv hx hr => ?_
 have hr0 := hr
 have hone := hr.one
 obtain ⟨hv1, hv2, hv3, hv4⟩ := W6 hv
 have hvk := (A05 12 14 ks _).1 hv4
 have har := (U8.1 hv3).1
 have hop := A4R har
 obtain ⟨hta, hts⟩ := A4S hv3
 have hkr : 1 ≤ k ∧ k ≤ 14 := A5e (by rw [har]; omega)
 have hcv5 : k = 5 → Y2 (cx ++ [(nm, ty)]) := fun hk => by have := A3Y (k := k) (nm := nm) (ty := ty) hcv fun hk => (U8.1 hv3).2.2.2.2.2.1 (.inl hk); rwa [P0, if_pos hk] at this
 have h0 : k ≤ 4 → ks = [] := fun h => List.length_eq_zero_iff.1 (by
  have hk : k = 1 ∨ k = 2 ∨ k = 3 ∨ k = 4 := by omega
  rcases hk with rfl | rfl | rfl | rfl
  ·have : C7 1 = 0 := rfl; omega
  ·have : C7 2 = 0 := rfl; omega
  ·have : C7 3 = 0 := rfl; omega
  ·have : C7 4 = 0 := rfl; omega)
 have f1 := fun hk => @B5T cx k nm num ty fr lb ks hk (h0 (by omega))
 have f2 := fun hk => @B5U cx k nm num ty fr lb ks hk (h0 (by omega))
 have f3 := fun hk => @B5V cx k nm num ty fr lb ks hk (h0 (by omega))
 have f4 : ∀ (hk : k = 5) (hl : 0 < ks.length), Q3 (cx ++ [(nm, ty)]) ks[0] = none → Q3 cx (.mk k nm num ty fr lb ks) = none := fun hk hl h => by
  obtain ⟨b, rfl⟩ := ks1 (hop.2.2 (.inl hk)); exact B5W hk h
 have f5 : ∀ (t : Ty) (hk : k = 5) (hl : 0 < ks.length), Q3 (cx ++ [(nm, ty)]) ks[0] = some t → Q3 cx (.mk k nm num ty fr lb ks) = if E7 (.mk 4 [ty, t]) = true then some (.mk 4 [ty, t]) else none := fun t hk hl h => by
  obtain ⟨b, rfl⟩ := ks1 (hop.2.2 (.inl hk)); exact B5X hk h
 have f6 := @B5Y cx k nm num ty fr lb ks
 have f7 := fun ts => @B5Z cx k nm num ty fr lb ks ts
 generalize Q3 cx (.mk k nm num ty fr lb ks) = R at f1 f2 f3 f4 f5 f6 f7 ⊢
 obtain ⟨tk, tks⟩ := ty
 obtain ⟨fk, fks⟩ := fr
 obtain ⟨pt, ct, pf, cf, q, cq, es, rfl, hk, hnum, hlb, hty, hfr, hsl, hkl⟩ := hr.open9
 have hlen : ks.length ≤ 3 := by have := A1L k; omega
 refine B2 Tryz.func196 rfl Tryz.ntmps196 Tryz.results196 rfl ?_
 intro w0
 refine tS (tR ?_)
 refine sE (B9 rfl rfl) rfl (fun b3 => ?_)
 refine sE (A5 rfl) rfl (fun b4 => ?_)
 refine I9 ?_
 refine B4 (tS (tR (sB (qE rfl rfl) rfl rfl (fun h18 => ?_) (fun h18 => ?_))))
 refine D4 ?_
 (refine E0 rfl (B5G G cx hcv p n c nm hx) rfl rfl (fun v G1 hle1 hh => ?_); obtain ⟨mt, mc, rfl, hmr, hma, hmu⟩ := hh; obtain ⟨p1, c1, e1, rfl, _⟩ := hmr.open)
 refine D4 ?_
 refine I2 (rC rfl (A2 rfl rfl)) (rT rfl) ?_
 (rw [f1 (by omega)]; exact ⟨rfl, _, _, rfl, hmr, hma, hmu⟩)
 refine sQ (qA rfl) rfl (sD (nS (cF rfl (tS (tR ?_)))))
 refine sB (qE rfl rfl) rfl rfl (fun h46 => ?_) (fun h46 => ?_)
 refine sQ (qA rfl) rfl (sD (nS (qT rfl (tS (tR ?_)))))
 refine H3 rfl ((A1n _)) rfl rfl ?_
 refine F9 ?_
 refine sQ (qA rfl) rfl (sD (nS (tT (rB (rS ?_)))))
 refine I2 (rC rfl (A2 rfl rfl)) (rT rfl) ?_
 (rw [f2 (by omega)]; exact P7.yes rfl (L0 _) (T9 (by omega) (by omega)))
 refine sQ (qA rfl) rfl (sD (nS (cF rfl (tS (tS (tR ?_))))))
 refine sB (qE rfl rfl) rfl rfl (fun h70 => ?_) (fun h70 => ?_)
 refine D4 ?_
 refine H3 rfl ((A3P _)) rfl rfl ?_
 refine F9 ?_
 refine sQ (qA rfl) rfl (sD (nS (tT (rB (rS ?_)))))
 refine I2 (rC rfl (A2 rfl rfl)) (rT rfl) ?_
 (rw [f3 (by omega)]; exact P7.yes rfl (A0l _) (T9 (by omega) (by omega)))
 refine sQ (qA rfl) rfl (sD (nS (cF rfl (tR ?_))))
 refine sB (qE rfl rfl) rfl rfl (fun h95 => ?_) (fun h95 => ?_)
 refine sQ (qA rfl) rfl (sD (nS (qT rfl (tS (tR ?_)))))
 refine H3 rfl ((A3P _)) rfl rfl ?_
 refine F9 ?_
 refine sQ (qA rfl) rfl (sD (nS (tT (rB (rS ?_)))))
 refine I2 (rC rfl (A2 rfl rfl)) (rT rfl) ?_
 (rw [f3 (by omega)]; exact P7.yes rfl (A0l _) (T9 (by omega) (by omega)))
 refine sQ (qA rfl) rfl (sD (nS (cF rfl (tS (tR ?_)))))
 refine sB (qE rfl rfl) rfl rfl (fun h118 => ?_) (fun h118 => ?_)
 refine sQ (qA rfl) rfl (sD (nS (qT rfl (tS ?_))))
 (have hl1 : ks.length = 1 := hop.2.2 (by omega); obtain ⟨b, o, e, rfl, hl, hat, hre, hgb⟩ := hsl.kidTm hkl (i := 0) (by omega) (by omega); have hMore := B5S G cx p n c nm (.mk tk tks) _ hx (by omega) hty; refine E1 E2 rfl ?_)
 refine J5 (i := 0) (l' := [tt,ff,ff,ff,ff,ff,ff,ff,ff,ff,ff,ff,ff,ff,ff,ff,ff]) rfl D5 (qM rfl) rfl (by kernel_rfl) rfl rfl ?_
 refine aP 1 rfl (B1 rfl) rfl ?_
 refine aL 2 rfl (C0 rfl rfl) rfl ?_
 refine aP 3 rfl (B1 rfl) rfl ?_
 refine aL 4 rfl (A2 rfl rfl) rfl ?_
 refine aP 6 rfl (B1 rfl) rfl ?_
 refine aL 7 rfl (C0 rfl rfl) rfl ?_
 refine aP 8 rfl (B3 (j := 0) rfl rfl rfl (by omega)) rfl ?_
 refine aL 9 rfl (A1 rfl rfl (hat _) hl) rfl ?_
 refine V3 (j := 5) (j' := 14) (by kernel_rfl) ?_ ?_
 (refine K0 rfl rfl hMore rfl rfl rfl (fun v G1 hle1 hh => ?_); obtain ⟨pm, cm, rfl, hxm⟩ := hh; have hreM := hre.mono hle1; have hLam := ih ks[0] (List.getElem_mem (by omega)) (d + 1) _ G1 pm (n + 1) cm _ (hvk 0 (by omega)) (by omega) (hcv5 (by omega)) hxm hreM; have htyM := hty.mono hle1)
 refine V3 (j := 10) (j' := 14) (by kernel_rfl) ?_ ?_
 focus (refine K0 rfl rfl hLam rfl rfl rfl (fun v G2 hle2 hh => ?_); obtain ⟨mt, mc, rfl, hmr, hma, hmu⟩ := hh; obtain ⟨p1, c1, e1, rfl, _⟩ := hmr.open; have htyN := htyM.mono hle2; rcases hE : Q3 (cx ++ [(nm, Ty.mk tk tks)]) ks[0] with _ | mt2; rotate_left; obtain rfl := hmu _ hE; rotate_left; all_goals simp only [Option.isSome])
 refine aP 11 rfl (qM rfl) rfl ?_
 refine aP 12 rfl (pX rfl rfl) rfl ?_
 refine aP 13 rfl (pX rfl rfl) rfl ?_
 refine A3 14 ?_
 (refine E4 rfl (A5 rfl) rfl rfl ?_; rintro _ ⟨b142, rfl⟩)
 refine A3 15 ?_
 refine J0 rfl ?_
 refine aP 16 rfl (qA rfl) rfl ?_
 refine A0D ?_
 refine I2 (rC rfl (A2 rfl rfl)) (rT rfl) ?_
 (rw [f4 (by omega) (by omega) (by first | exact hE | assumption)]; exact P7.no rfl (N3 _ ⟨by omega, by omega⟩) (T9 (by omega) (by omega)))
 refine aP 11 rfl (qM rfl) rfl ?_
 refine aP 12 rfl (pX rfl rfl) rfl ?_
 refine aP 13 rfl (pX rfl rfl) rfl ?_
 refine A3 14 ?_
 (refine E4 rfl (A5 rfl) rfl rfl ?_; rintro _ ⟨b173, rfl⟩)
 refine A3 15 ?_
 refine J0 rfl ?_
 refine aP 16 rfl (qA rfl) rfl ?_
 refine T0 ?_
 (refine E0 rfl (A5n 4 (.mk tk tks) _ _ _ _ (.inl rfl) hta hma htyN hmr) rfl rfl (fun v G3 hle3 hh => ?_); obtain ⟨mc2, rfl, hmr2⟩ := hh; obtain ⟨p2, c2, e2, rfl, _⟩ := hmr2.open)
 refine D4 ?_
 refine I2 (rC rfl (A2 rfl rfl)) (rT rfl) ?_
 (rw [f5 _ (by omega) (by omega) (by first | exact hE | assumption)]; exact P7.mk rfl hmr2 (A4Q (.inl rfl) hta hma))
 (refine E4 rfl (A5 rfl) rfl rfl ?_; rintro _ ⟨b206, rfl⟩)
 refine A3 10 ?_
 focus (refine K0 rfl rfl hLam rfl rfl rfl (fun v G2 hle2 hh => ?_); obtain ⟨mt, mc, rfl, hmr, hma, hmu⟩ := hh; obtain ⟨p1, c1, e1, rfl, _⟩ := hmr.open; have htyN := htyM.mono hle2; rcases hE : Q3 (cx ++ [(nm, Ty.mk tk tks)]) ks[0] with _ | mt2; rotate_left; obtain rfl := hmu _ hE; rotate_left; all_goals simp only [Option.isSome])
 refine aP 11 rfl (qM rfl) rfl ?_
 refine aP 12 rfl (pX rfl rfl) rfl ?_
 refine aP 13 rfl (pX rfl rfl) rfl ?_
 refine A3 15 ?_
 refine J0 rfl ?_
 refine aP 16 rfl (qA rfl) rfl ?_
 refine A0D ?_
 refine I2 (rC rfl (A2 rfl rfl)) (rT rfl) ?_
 (rw [f4 (by omega) (by omega) (by first | exact hE | assumption)]; exact P7.no rfl (N3 _ ⟨by omega, by omega⟩) (T9 (by omega) (by omega)))
 refine aP 11 rfl (qM rfl) rfl ?_
 refine aP 12 rfl (pX rfl rfl) rfl ?_
 refine aP 13 rfl (pX rfl rfl) rfl ?_
 refine A3 15 ?_
 refine J0 rfl ?_
 refine aP 16 rfl (qA rfl) rfl ?_
 refine T0 ?_
 (refine E0 rfl (A5n 4 (.mk tk tks) _ _ _ _ (.inl rfl) hta hma htyN hmr) rfl rfl (fun v G3 hle3 hh => ?_); obtain ⟨mc2, rfl, hmr2⟩ := hh; obtain ⟨p2, c2, e2, rfl, _⟩ := hmr2.open)
 refine D4 ?_
 refine I2 (rC rfl (A2 rfl rfl)) (rT rfl) ?_
 (rw [f5 _ (by omega) (by omega) (by first | exact hE | assumption)]; exact P7.mk rfl hmr2 (A4Q (.inl rfl) hta hma))
 (refine E4 rfl (A5 rfl) rfl rfl ?_; rintro _ ⟨b273, rfl⟩)
 refine A3 5 ?_
 (refine K0 rfl rfl hMore rfl rfl rfl (fun v G1 hle1 hh => ?_); obtain ⟨pm, cm, rfl, hxm⟩ := hh; have hreM := hre.mono hle1; have hLam := ih ks[0] (List.getElem_mem (by omega)) (d + 1) _ G1 pm (n + 1) cm _ (hvk 0 (by omega)) (by omega) (hcv5 (by omega)) hxm hreM; have htyM := hty.mono hle1)
 refine A3 10 ?_
 focus (refine K0 rfl rfl hLam rfl rfl rfl (fun v G2 hle2 hh => ?_); obtain ⟨mt, mc, rfl, hmr, hma, hmu⟩ := hh; obtain ⟨p1, c1, e1, rfl, _⟩ := hmr.open; have htyN := htyM.mono hle2; rcases hE : Q3 (cx ++ [(nm, Ty.mk tk tks)]) ks[0] with _ | mt2; rotate_left; obtain rfl := hmu _ hE; rotate_left; all_goals simp only [Option.isSome])
 refine aP 11 rfl (qM rfl) rfl ?_
 refine aP 12 rfl (pX rfl rfl) rfl ?_
 refine aP 13 rfl (pX rfl rfl) rfl ?_
 refine A3 15 ?_
 refine J0 rfl ?_
 refine aP 16 rfl (qA rfl) rfl ?_
 refine A0D ?_
 refine I2 (rC rfl (A2 rfl rfl)) (rT rfl) ?_
 (rw [f4 (by omega) (by omega) (by first | exact hE | assumption)]; exact P7.no rfl (N3 _ ⟨by omega, by omega⟩) (T9 (by omega) (by omega)))
 refine aP 11 rfl (qM rfl) rfl ?_
 refine aP 12 rfl (pX rfl rfl) rfl ?_
 refine aP 13 rfl (pX rfl rfl) rfl ?_
 refine A3 15 ?_
 refine J0 rfl ?_
 refine aP 16 rfl (qA rfl) rfl ?_
 refine T0 ?_
 (refine E0 rfl (A5n 4 (.mk tk tks) _ _ _ _ (.inl rfl) hta hma htyN hmr) rfl rfl (fun v G3 hle3 hh => ?_); obtain ⟨mc2, rfl, hmr2⟩ := hh; obtain ⟨p2, c2, e2, rfl, _⟩ := hmr2.open)
 refine D4 ?_
 refine I2 (rC rfl (A2 rfl rfl)) (rT rfl) ?_
 (rw [f5 _ (by omega) (by omega) (by first | exact hE | assumption)]; exact P7.mk rfl hmr2 (A4Q (.inl rfl) hta hma))
 refine D4 ?_
 (refine L9 (C9 rfl rfl rfl (by omega) (by unfold maxLen; omega) rfl) rfl ?_; rintro _ ⟨b351, rfl⟩)
 refine D4 ?_
 refine B4 ?_
 (refine K9 (fun (x : Nat × Option Addr × Nat × List Ty × List (List Value) × IM) => ⟨[(9, .int .i64 x.1), (8, .slice x.2.1 x.1 x.2.2.1), (3, .pointer (some ⟨b3, 0, none⟩)), (4, .pointer (some ⟨b4, 0, none⟩)), (0, .slice p n c)], [.slc x.2.1 x.2.2.1 25 2 x.1 x.2.2.2.2.1.flatten, .blk b4 [.int .i64 0, .slice none 0 0], .blk b3 [.int .i64 k, .string nm, .int .i64 num, .int .i64 tk, .slice pt tks.length ct, .int .i64 fk, .slice pf fks.length cf, .int .i64 lb, .slice q ks.length cq]], x.2.2.2.2.2⟩) (fun x => x.1 ≤ ks.length ∧ B6 G x.2.2.2.2.2 ∧ x.2.2.2.1.length = x.1 ∧ D2 x.2.2.2.2.2 x.2.2.2.1 x.2.2.2.2.1 ∧ (∀ u ∈ x.2.2.2.1, E5 u) ∧ W7 cx (ks.take x.1) = some x.2.2.2.1) (fun x => ks.length - x.1) (0, some ⟨b351, 0, none⟩, 0, [], [], G) ?_ ?_ ?_)
 (simp only [J6]; exact D1)
 (exact ⟨by simp, B6.refl _, rfl, by simp [D2], by simp, by simp [W7]⟩)
 (rintro ⟨i, pn, cn, us, es', Gi⟩ ⟨hi, hle, hlu, hst, hau, hsu⟩; simp only [] at hi hle hlu hst hau hsu ⊢; replace hsl := hsl.mono hle; replace hkl := hkl.mono hle; replace hx := hx.mono hle; replace hr0 := hr0.mono hle)
 refine C2 ?_
 refine sB (K6 rfl rfl) rfl rfl (fun h373 => ?_) (fun h373 => ?_)
 refine sD (nS (qT rfl (tK (nS (tS ?_)))))
 refine B4 ?_
 refine J8 ?_
 (obtain ⟨b, o, e, rfl, hl, hat, hre, hgb⟩ := hsl.kidTm hkl (i := i) (by omega) (by omega); refine sP (B3 rfl rfl rfl (by omega)) rfl rfl ?_)
 refine sL (A1 rfl rfl (hat _) hl) rfl rfl ?_
 focus (refine E0 rfl (ih ks[i] (List.getElem_mem (by omega)) (d + 1) cx Gi p n c _ (hvk i (by omega)) (by omega) hcv hx hre) rfl rfl (fun v G2 hle2 hh => ?_); obtain ⟨u, uc, rfl, hru, hua, huu⟩ := hh; obtain ⟨p3, c3, e3, rfl, _⟩ := hru.open; rcases hE : Q3 cx ks[i] with _ | u2; rotate_left; obtain rfl := huu _ hE; rotate_left; all_goals simp only [Option.isSome])
 refine K3 ?_
 refine sE (A5 rfl) rfl (fun b393 => ?_)
 refine A4r ?_
 refine I2 (rC rfl (A2 rfl rfl)) (rT rfl) ?_
 (rw [f6 (by omega) (B0B (by omega) hE)]; exact P7.no rfl (N3 _ ⟨by omega, by omega⟩) (T9 (by omega) (by omega)))
 refine K3 ?_
 refine sE (A5 rfl) rfl (fun b425 => ?_)
 refine T0 ?_
 (refine L9 (C9 rfl rfl rfl (by omega) (by unfold maxLen; omega) rfl) rfl ?_; rintro _ ⟨b443, rfl⟩)
 refine A4s rfl rfl rfl rfl rfl (fun _ _ => by repeat (first | exact Sw.here | apply Sw.there)) (P3 (by repeat first | exact mH | apply mT)) rfl (by simp [Value.oneCell']) (by unfold maxLen; omega) (by omega) rfl (fun pn' cn' => ?_)
 refine J8 ?_
 refine sP (K2 rfl rfl (by omega) (by omega)) rfl rfl ?_
 refine sQ (qA rfl) rfl (sD ?_)
 refine K7 (i + 1, pn', cn', us ++ [u2], es' ++ [[.int .i64 u2.k, .slice p3 u2.ks.length c3]], G2) ?_ ?_ ?_
 (simp only [J6]; exact D1)
 (dsimp only; exact ⟨by omega, hle.trans hle2, by simp [hlu], D2.snoc (hst.mono hle2) hru, A2X hau hua, B0A (by omega) hsu hE⟩)
 (show ks.length - (i + 1) < ks.length - i; omega)
 refine N6 ?_
 (obtain rfl : i = ks.length := (by omega); rw [List.take_length] at hsu; refine T6 (cs := es'.flatten) (by repeat (first | exact Pk.here | apply Pk.there)) (fun G3 hle3 hsl3 hno3 => ?_); have hst3 := hst.mono hle3; have hRes := B5M cx k nm num (.mk tk tks) (.mk fk fks) lb ks us G3 _ pn cn es' (by rw [hlu]; exact har) (by omega) hta (hr0.mono hle3) (by rw [hlu]; exact D0.of hsl3 (by rw [hst3.len, hlu]) hst3.all (fun e he => (hst3.each e he).2)) hst3 hau; rw [hlu] at hRes; refine E0 rfl hRes rfl rfl (fun v G4 hle4 hh => ?_); obtain ⟨mt, mc, rfl, hmr, hma, hmu⟩ := hh; obtain ⟨p1, c1, e1, rfl, _⟩ := hmr.open)
 refine C2 ?_
 refine I2 (rC rfl (A2 rfl rfl)) (rT rfl) ?_
 (rw [f7 us (by omega) hsu]; exact ⟨rfl, _, _, rfl, hmr, hma, hmu⟩)
theorem B51 {e : Tm} (h : N9 e = true) : U4 e = Q3 [] e := by
 have hs := ((A0a e).1 h).1
 obtain ⟨h1, h2⟩ := A3Z e 1 [] 0 hs A23
 unfold U4
 cases hE : M5 [] e 0 with
 | none => rw [A6U h hE, h2 hE]
 | some r =>
  obtain ⟨u, a, l⟩ := r
  rw [A6V h hE, (h1 u a l hE).1]
def A7a (t : Ty) (x : Bool) (G : IM) : IM → Value → List A4 → Prop := L5 fun G' v => ∃ cells, v = .tuple ⟨[.agg ⟨cells⟩, .bool x]⟩ ∧ B7 G' (if x = true then t else A7) cells
theorem B52 (t : Ty) (G : IM) (cells : List Value) (hr : B7 G t cells) : Fn Tryz.prog 149 [.agg ⟨cells⟩, .bool true] [] G (A7a t true G) := by
 obtain ⟨p, c, e, rfl, _⟩ := hr.open
 refine B2 Tryz.func149 rfl Tryz.ntmps149 Tryz.results149 rfl ?_
 intro w0
 refine tS (tR ?_)
 refine sE (B9 rfl rfl) rfl (fun b3 => ?_)
 refine sE (A5 rfl) rfl (fun b4 => ?_)
 refine A0D ?_
 refine I2 (rC rfl (A2 rfl rfl)) (rT rfl) ?_
 (exact ⟨rfl, _, rfl, hr⟩)
theorem B53 (t : Ty) (G : IM) (cells : List Value) (hr : B7 G t cells) : Fn Tryz.prog 149 [.agg ⟨cells⟩, .bool false] [] G (A7a t false G) := by
 obtain ⟨p, c, e, rfl, _⟩ := hr.open
 refine B2 Tryz.func149 rfl Tryz.ntmps149 Tryz.results149 rfl ?_
 intro w0
 refine tS (tR ?_)
 refine sE (B9 rfl rfl) rfl (fun b3 => ?_)
 refine sE (A5 rfl) rfl (fun b4 => ?_)
 refine A0u ?_
 refine I2 (rC rfl (A2 rfl rfl)) (rT rfl) ?_
 (exact ⟨rfl, _, rfl, N3 _ ⟨by omega, by omega⟩⟩)
theorem B54 (t : Ty) (x : Bool) (G : IM) (cells : List Value) (hr : B7 G t cells) : Fn Tryz.prog 149 [.agg ⟨cells⟩, .bool x] [] G (A7a t x G) := by
 cases x
 ·exact B53 t G cells hr
 ·exact B52 t G cells hr
theorem Y1.sure {o : Option Ty} {t : Ty} {G G' : IM} {cells : List Value} (h : ∀ u, o = some u → u = t) (hr : B7 G' (if o.isSome = true then t else A7) cells) : Y1 o G G' (.tuple ⟨[.agg ⟨cells⟩, .bool o.isSome]⟩) [] := by
 cases o with
 | none => exact ⟨rfl, cells, A7, rfl, hr, by simp⟩
 | some u => exact ⟨rfl, cells, t, rfl, hr, fun x hx => by cases hx; exact (h _ rfl).symm⟩
theorem B55 (e : Tm) (G : IM) (cells : List Value) (hcnt : C6 e ≤ 4294967296) (hr : A8 G e cells) :
  Fn Tryz.prog 184 [.slice none 0 0, .agg ⟨cells⟩] [] G (Y1 (U4 e) G) := by
 have hl := hr.len
 have hone := hr.one
 have hw := A4L e G cells hcnt hr
 have hT := fun h : N9 e = true => B50 e 1 [] G none 0 0 cells ((A0a e).1 h).1 (by omega) A23 (T2.nil G) hr
 have hts := fun h => @B51 e h
 have hno := @A97 e
 refine B2 Tryz.func184 rfl Tryz.ntmps184 Tryz.results184 rfl ?_
 intro w0
 refine tS (tR ?_)
 refine sE (B9 rfl rfl) rfl (fun b3 => ?_)
 refine sE (A5 rfl) rfl (fun b4 => ?_)
 refine C2 ?_
 refine H3 rfl ((B3l _)) rfl rfl ?_
 refine sQ (Z3 rfl) rfl (sQ (qM rfl) rfl ?_)
 refine sL (A1 rfl rfl (A9 (by repeat first | exact mH | apply mT)) (by assumption)) rfl rfl ?_
 refine D8 rfl (hw) rfl rfl (fun h16 => ?_) (fun h16 => ?_)
 refine I9 ?_
 refine sL (A1 rfl rfl (A9 (by repeat first | exact mH | apply mT)) (by assumption)) rfl rfl ?_
 (refine E0 rfl (hT (by assumption)) rfl rfl (fun v G1 hle1 hh => ?_); obtain ⟨mt, mc, rfl, hmr, hma, hmu⟩ := hh; obtain ⟨p1, c1, e1, rfl, _⟩ := hmr.open; have hmo := hts (by assumption))
 refine sQ (pX rfl rfl) rfl (sQ (pX rfl rfl) rfl ?_)
 (refine E0 rfl (B54 mt _ _ _ hmr) rfl rfl (fun v G2 hle2 hh => ?_); obtain ⟨mc2, rfl, hmr2⟩ := hh; obtain ⟨p2, c2, e2, rfl, _⟩ := hmr2.open)
 refine C2 ?_
 refine I2 (rC rfl (A2 rfl rfl)) (rT rfl) ?_
 (rw [hmo]; exact Y1.sure hmu hmr2)
 refine J2 ?_
 refine I2 (rC rfl (A2 rfl rfl)) (rT rfl) ?_
 (exact Y1.no (u := A7) (N3 _ ⟨by omega, by omega⟩) rfl (hno (by assumption)))
theorem B56 (e : Tm) (G : IM) (cells : List Value) (hcnt : C6 e ≤ 4294967296) (hr : A8 G e cells) :
  Fn Tryz.prog 129 [.agg ⟨cells⟩] [] G (Y1 (U4 e) G) := by
 have hl := hr.len
 have hone := hr.one
 refine B2 Tryz.func129 rfl Tryz.ntmps129 Tryz.results129 rfl ?_
 intro w0
 refine tS (tR ?_)
 refine sE (B9 rfl rfl) rfl (fun b3 => ?_)
 refine sE (A5 rfl) rfl (fun b4 => ?_)
 refine sQ (qA rfl) rfl (sD (nS (tS (tR ?_))))
 refine sL (A1 rfl rfl (A9 (by repeat first | exact mH | apply mT)) (by assumption)) rfl rfl ?_
 (refine E0 rfl (B55 e G cells hcnt hr) rfl rfl (fun v G1 hle1 hh => ?_); obtain ⟨cu, u, rfl, hru, hu⟩ := hh; obtain ⟨p1, c1, e1, rfl, _⟩ := hru.open)
 refine C2 ?_
 refine I2 (rC rfl (A2 rfl rfl)) (rT rfl) ?_
 (exact ⟨rfl, _, u, rfl, hru, hu⟩)
def B71 (e : Tm) (a b : Ty) (l : Int) : IM → Value → List A4 → Prop := L5 fun G' v => ∃ cells, v = .tuple ⟨[.agg ⟨cells⟩, .int .i64 (if O2 a b = true then l else l + 1)]⟩ ∧ A8 G' (if O2 a b = true then e else O7 e a b l) cells
def B72 (w ts : List Ty) : List Ty := if w = [] then ts else w
def B73 (ws : List Ty) (n : Nat) (G : IM) : IM → Value → List A4 → Prop := L5 fun G' v => ∃ p c es, v = .slice p n c ∧ ws.length = n ∧ D0 G' p n c 2 es ∧ D2 G' ws es
section
variable {cx : Cx} {k : Int} {nm : ByteArray} {ty : Ty} {ts w : List Ty} {t : Ty}
end
def B74 (u : Tm) (t : Ty) (l : Int) (G : IM) : IM → Value → List A4 → Prop := L5 fun G' v => ∃ cu ct, v = .tuple ⟨[.agg ⟨cu⟩, .agg ⟨ct⟩, .int .i64 (l + 1)]⟩ ∧ A8 G' u cu ∧ B7 G' t ct
def B57 (t : Tm) : List Ty := if N9 t = true then V2 t else []
def B75 (u : Tm) (n : Int) : IM → Value → List A4 → Prop := fun G' v outs => outs = [] ∧ ∃ cu, v = .tuple ⟨[.agg ⟨cu⟩, .int .i64 n]⟩ ∧ A8 G' u cu
def B76 (t : Tm) (L : List Ty) : Option Tm := if N9 t = true ∧ (B57 t).length = L.length ∧ ∀ u ∈ L, E7 u = true then some (A67 t L) else none
def TmB (o : Option Tm) : IM → Value → List A4 → Prop := L5 fun G' v => ∃ cu, v = .tuple ⟨[.agg ⟨cu⟩, .bool o.isSome]⟩ ∧ A8 G' (o.getD F4) cu
theorem A5r {e : Tm} (h : (U4 e).isSome = true) : N9 e = true := by
 unfold U4 T3 at h
 split at h
 ·rename_i u t hx
  split at hx
  ·assumption
  ·cases hx
 ·cases h
mutual
theorem B0C : ∀ (t : Tm) (d : Int), J1 12 14 t d = true → t.small
 | .mk k nm num ty fr lb ks, d, h => by
  obtain ⟨_, h2, h3, h4⟩ := W6 h
  obtain ⟨n1, n2, n3, n4, n5, n6, n7, n8, n9⟩ := U8.1 h3
  rw [Tm.small]
  refine ⟨by have := A8V h3; omega, (A4S h3).1.small, by rw [A1J (n9 h2).1]; exact A13, ?_, B0D ks _ h4⟩
  have := A1L k; omega
theorem B0D : ∀ (ts : List Tm) (d : Int), E9 12 14 ts d = true → Tm.smallL ts
 | [], _, _ => by rw [Tm.smallL]; trivial
 | t :: ts, d, h => by
  rw [E9, Bool.and_eq_true] at h
  rw [Tm.smallL]
  exact ⟨B0C t d h.1, B0D ts d h.2⟩
end
theorem A7b {e : Tm} (h : N9 e = true) : e.fit 30 := by
 obtain ⟨h1, h2⟩ := (A0a e).1 h
 exact ⟨B0C e 1 h1, h2⟩
theorem Tm.fit.le {e : Tm} {n m : Nat} (h : e.fit n) (hm : n ≤ m) : e.fit m := ⟨h.1, Nat.le_trans h.2 hm⟩
mutual
theorem B0E : ∀ (t : Tm) (d : Int), J1 12 14 t d = true → ∀ u ∈ V2 t, E7 u = true
 | .mk k nm num ty fr lb ks, d, h => by
  obtain ⟨_, h2, h3, h4⟩ := W6 h
  obtain ⟨n1, n2, n3, n4, n5, n6, n7, n8, n9⟩ := U8.1 h3
  intro u hu
  rw [V2, List.mem_append] at hu
  rcases hu with hu | hu
  ·split at hu
   ·rename_i hk
    obtain rfl := List.mem_singleton.1 hu
    exact n6 (by omega)
   ·simp at hu
  ·exact B0F ks _ h4 u hu
theorem B0F : ∀ (ts : List Tm) (d : Int), E9 12 14 ts d = true → ∀ u ∈ S0 ts, E7 u = true
 | [], _, _ => by simp [S0]
 | t :: ts, d, h => by
  rw [E9, Bool.and_eq_true] at h
  intro u hu
  rw [S0, List.mem_append] at hu
  rcases hu with hu | hu
  ·exact B0E t d h.1 u hu
  ·exact B0F ts d h.2 u hu
end
theorem B0G (br : Nat) (pb : Option Addr) (nb cb : Nat) (bs : List UInt8) (hnb : nb ≤ 2000) (p : Nat) (G : IM) (hb : Sl G pb nb cb 1 (O6 bs)) (hp : p < 1099511627776) :
  Fn Tryz.prog 62 [.pointer (some ⟨br, 0, none⟩)] [rd br pb nb cb p] G
   (A0s br pb nb cb p 1 (fun _ v => ∃ k, v = .int .i64 k ∧ E6 k)) := by
 refine B2 Tryz.func62 rfl Tryz.ntmps62 Tryz.results62 rfl ?_
 intro w0
 refine D3 ?_
 (refine L9 (C9 rfl rfl rfl (by omega) (by unfold maxLen; omega) rfl) rfl ?_; rintro _ ⟨b9, rfl⟩)
 (refine T6 (by repeat (first | exact Pk.here | apply Pk.there)) (fun Gf hlef hslf _ => ?_); refine I7 rfl (A0c Gf br pb nb cb p bs _ _ _ _ (hb.mono hlef) hnb (by omega) hslf (by decide)) (Pk.perm (by repeat (first | exact Pk.here | apply Pk.there))) rfl rfl (fun v Gm outs hlen hh => ?_); obtain ⟨rfl, rfl, hv⟩ := hh; obtain ⟨kn, rfl, hkn⟩ : ∃ k, v = .int .i64 k ∧ E6 k := (by simp only [List.mem_cons, List.not_mem_nil, or_false] at hv; rcases hv with rfl | rfl | rfl | rfl | rfl | rfl | rfl | rfl <;> exact ⟨_, rfl, by unfold E6; omega⟩))
 refine sQ (qA rfl) rfl (sD (nS (tT ?_)))
 refine H6 (outs := [rd br pb nb cb (p + 1)]) (rT rfl) (by repeat (first | exact A0.nil | refine A0.cons Pk.here ?_ | refine A0.cons (Pk.there Pk.here) ?_ | refine A0.cons (Pk.there (Pk.there Pk.here)) ?_ | apply A0.drop)) ?_
 (exact ⟨p + 1, by omega, by omega, rfl, kn, rfl, hkn⟩)
theorem B58 (br : Nat) (pb : Option Addr) (nb cb : Nat) (bs : List UInt8) (hnb : nb ≤ 2000) (p : Nat) (G : IM) (hb : Sl G pb nb cb 1 (O6 bs)) (hp : p + 9000000 < 1099511627776) :
  Fn Tryz.prog 59 [.pointer (some ⟨br, 0, none⟩)] [rd br pb nb cb p] G
   (A0s br pb nb cb p 9000000 (fun G' v => ∃ e cells, v = .agg ⟨cells⟩ ∧ A8 G' e cells ∧ e.fit 1100)) := by
 have hm8 : mB 8 = 1968200 := by decide
 refine B2 Tryz.func59 rfl Tryz.ntmps59 Tryz.results59 rfl ?_
 intro w0
 refine tS (tR ?_)
 refine sE (A5 rfl) rfl (fun b3 => ?_)
 refine sD (nS (tS (tS (tR (sQ (qA rfl) rfl (sD (nS ?_)))))))
 refine B4 ?_
 (refine K9 (fun (x : Nat × Nat × IM) => ⟨[(3, .int .i64 x.1), (0, .pointer (some ⟨br, 0, none⟩)), (2, .pointer (some ⟨b3, 0, none⟩))], [rd br pb nb cb x.2.1, .blk b3 [.int .i64 0, .string ⟨⟨[]⟩⟩, .int .i64 0, .int .i64 0, .slice none 0 0, .int .i64 0, .slice none 0 0, .int .i64 0, .slice none 0 0]], x.2.2⟩) (fun x => x.1 ≤ 4 ∧ B6 G x.2.2 ∧ p ≤ x.2.1 ∧ x.2.1 ≤ p + x.1 * 2000000) (fun x => 4 - x.1) (0, p, G) ?_ ?_ ?_)
 (simp only [J6]; exact D1)
 (exact ⟨by omega, B6.refl _, Nat.le_refl _, by dsimp only; omega⟩)
 (rintro ⟨(i : Nat), (p1 : Nat), G1⟩ ⟨hi, hleL, hpL, hpL2⟩; simp only [] at hi hleL hpL hpL2 ⊢; replace hb := hb.mono hleL)
 refine tS (tS (tR (sQ (qM rfl) rfl ?_)))
 refine sB (K6 rfl rfl) rfl rfl (fun h21 => ?_) (fun h21 => ?_)
 refine sD (nS (qT rfl (tK (nS (tS ?_)))))
 refine B4 ?_
 refine R1 ?_
 (refine L9 (C9 rfl rfl rfl (by omega) (by unfold maxLen; omega) rfl) rfl ?_; rintro _ ⟨b34, rfl⟩)
 (refine T6 (by repeat (first | exact Pk.here | apply Pk.there)) (fun Gf hlef hslf _ => ?_); refine I7 rfl (A0c Gf br pb nb cb (p1) bs _ _ _ _ (hb.mono hlef) hnb (by omega) hslf (by decide)) (Pk.perm (by repeat (first | exact Pk.here | apply Pk.there))) rfl rfl (fun v Gm outs hlen hh => ?_); obtain ⟨rfl, rfl, hv⟩ := hh; replace hb := hb.mono hlef; obtain ⟨dd, rfl, hdd⟩ : ∃ d : Nat, v = .int .i64 ((d + 1 : Nat) : Int) ∧ d ≤ 2 := (by simp only [List.mem_cons, List.not_mem_nil, or_false] at hv; rcases hv with rfl | rfl | rfl | rfl <;> first | exact ⟨0, rfl, by decide⟩ | exact ⟨1, rfl, by decide⟩ | exact ⟨2, rfl, by decide⟩); have hdB := A6o hdd; replace hleL := hleL.trans hlef)
 (have hcall := A3N br pb nb cb bs hnb dd (p1 + 1) _ (by omega) hb (by omega); refine I7 rfl hcall (Pk.perm (by repeat (first | exact Pk.here | apply Pk.there))) rfl rfl (fun v Gn outs hleD hh => ?_); obtain ⟨pD, hpD1, hpD2, rfl, uD, cD, rfl, hrD, hsD, haD⟩ := hh; obtain ⟨qD, dD, eD, rfl, _⟩ := hrD.open; replace hb := hb.mono hleD; replace hleL := hleL.trans hleD)
 refine sQ (qM rfl) rfl ?_
 (refine L9 (C9 rfl rfl rfl (by omega) (by unfold maxLen; omega) rfl) rfl ?_; rintro _ ⟨b38, rfl⟩)
 (refine T6 (by repeat (first | exact Pk.here | apply Pk.there)) (fun Gf hlef hslf _ => ?_); refine I7 rfl (A0c Gf br pb nb cb (pD) bs _ _ _ _ (hb.mono hlef) hnb (by omega) hslf (by decide)) (Pk.perm (by repeat (first | exact Pk.here | apply Pk.there))) rfl rfl (fun v Gm outs hlen hh => ?_); obtain ⟨rfl, rfl, hv⟩ := hh; replace hb := hb.mono hlef; replace hleL := hleL.trans hlef; replace hrD := hrD.mono hlef; obtain ⟨dp, rfl, hdp1, hdp2⟩ : ∃ d : Int, v = .int .i64 d ∧ 3 ≤ d ∧ d ≤ 5 := (by simp only [List.mem_cons, List.not_mem_nil, or_false] at hv; rcases hv with rfl | rfl | rfl | rfl <;> exact ⟨_, rfl, by decide, by decide⟩))
 (have hcall := B5E br pb nb cb bs hnb 8 dp uD (pD + 1) _ none 0 0 _ ⟨haD.le (by omega), by omega, by omega, .inr ⟨by omega, by omega⟩⟩ (by omega) (by omega) (by omega) (X2.nil _) hrD hb (by omega); refine I7 rfl hcall (Pk.perm (by repeat (first | exact Pk.here | apply Pk.there))) rfl rfl (fun v Gn outs hleM hh => ?_); obtain ⟨pM, hpM1, hpM2, rfl, eM, cM, rfl, hrM, hsmM, hcM⟩ := hh; have hlM := hrM.len; have hoM := hrM.one; replace hb := hb.mono hleM; replace hleL := hleL.trans hleM)
 refine sE (A5 rfl) rfl (fun b41 => ?_)
 refine X7 rfl rfl rfl hlM hoM rfl (by repeat first | exact Sw.here | apply Sw.there) (by exact C3 (by first | exact hlM.symm | omega)) ?_
 refine sD (nS (tS (tR ?_)))
 refine sL (A1 rfl rfl (A9 (by repeat first | exact mH | apply mT)) hlM) rfl rfl ?_
 (refine E0 rfl (B56 eM _ _ (by omega) hrM) rfl rfl (fun v G9 hle9 hh => ?_); have hmv := @A5r eM; obtain ⟨mc, mt, rfl, hmr, hmu⟩ := hh; obtain ⟨pt, ct, et, rfl, _⟩ := hmr.open; replace hb := hb.mono hle9; replace hleL := hleL.trans hle9; replace hrM := hrM.mono hle9; generalize (U4 eM).isSome = mx at *; cases mx)
 refine K3 ?_
 refine sE (A5 rfl) rfl (fun b52 => ?_)
 refine H9 ?_
 refine sP (K2 rfl rfl (by omega) (by omega)) rfl rfl ?_
 refine sQ (qA rfl) rfl (sD ?_)
 refine K7 (i + 1, pM, G9) ?_ ?_ ?_
 (simp only [J6]; exact D1)
 (dsimp only; exact ⟨by omega, hleL, by omega, by omega⟩)
 (show 4 - (i + 1) < 4 - i; omega)
 refine K3 ?_
 refine sE (A5 rfl) rfl (fun b78 => ?_)
 refine N6 ?_
 refine sL (A1 rfl rfl (A9 (by repeat first | exact mH | apply mT)) hlM) rfl rfl ?_
 refine X7 rfl rfl rfl hlM hoM rfl (by repeat first | exact Sw.here | apply Sw.there) (by exact C3 (by first | exact hlM.symm | omega)) ?_
 refine sD (nS (tT (rB (rS (A2G (rB (rS ?_)))))))
 refine H6 (outs := [rd br pb nb cb pM]) (rC rfl (A1 rfl rfl (A9 (by repeat first | exact mH | apply mT)) hlM)) (by repeat (first | exact A0.nil | refine A0.cons Pk.here ?_ | refine A0.cons (Pk.there Pk.here) ?_ | refine A0.cons (Pk.there (Pk.there Pk.here)) ?_ | apply A0.drop)) ?_
 (exact ⟨pM, by omega, by omega, rfl, eM, _, rfl, hrM, (A7b (hmv rfl)).le (by omega)⟩)
 refine I6 ?_
 (have hcall := A8S br pb nb cb bs hnb p1 _ hb (by omega); refine I7 rfl hcall (Pk.perm (by repeat (first | exact Pk.here | apply Pk.there))) rfl rfl (fun v Gn outs hleC hh => ?_); obtain ⟨pC, hpC1, hpC2, rfl, eC, cC, rfl, hrC, hcC⟩ := hh; have hlC := hrC.len; have hoC := hrC.one; have hcnt := A3C eC)
 refine X7 rfl rfl rfl hlC hoC rfl (by repeat first | exact Sw.here | apply Sw.there) (by exact C3 (by first | exact hlC.symm | omega)) ?_
 refine sD (nS (tT ?_))
 refine H6 (outs := [rd br pb nb cb pC]) (rC rfl (A1 rfl rfl (A9 (by repeat first | exact mH | apply mT)) hlC)) (by repeat (first | exact A0.nil | refine A0.cons Pk.here ?_ | refine A0.cons (Pk.there Pk.here) ?_ | refine A0.cons (Pk.there (Pk.there Pk.here)) ?_ | apply A0.drop)) ?_
 (exact ⟨pC, by omega, by omega, rfl, eC, _, rfl, hrC, A57 _ (by omega), by omega⟩)
mutual
theorem B0H : ∀ a : Ty, A1P a a = true
 | .mk k ks => by rw [A1p, B0I ks]; simp
theorem B0I : ∀ xs : List Ty, A0z xs xs = true
 | [] => rfl
 | a :: xs => by rw [A0z, B0H a, B0I xs]; rfl
end
def PLe (l l' : List Ty) : Prop := ∀ i, A1P (l.getD i A7) (l'.getD i A7) = true
section masks
variable {P : Program} {Γ : M0} {env : M4} {hp : List A4} {G : IM} {ty : TypeId}
end masks
def mLb (t : Tm) : List Int := (A3g t).map Tm.lb
def B77 (ts : List Tm) : List Int := (A65 ts).map Tm.lb
structure Lbs (ls : List Int) (l l' : Int) : Prop where
 le : l ≤ l'
 nd : ls.Nodup
 len : (ls.length : Int) = l' - l
 mem : ∀ m ∈ ls, l < m ∧ m ≤ l'
theorem A7c {us : List Tm} {h w : List Ty} {l : Int} (hn : us = [] ∨ h = [] ∨ w = []) : E8 us h w l = (us, l) := by
 rcases hn with rfl | rfl | rfl
 ·simp [E8]
 ·simp [E8]
 ·simp [E8]
mutual
theorem B0J : ∀ a : Tm, A2B a a = true
 | .mk k nm num ty fr lb ks => A9q.2 ⟨rfl, rfl, rfl, fun _ => B0H ty, B0K ks⟩
theorem B0K : ∀ xs : List Tm, A19 xs xs = true
 | [] => rfl
 | a :: xs => by rw [A19, B0J a, B0K xs]; rfl
end
theorem B0L {e u : Tm} {t : Ty} (h : T3 e = some (u, t)) : ∃ g A g' A', u = g.tm ∧ t = A.ty ∧ GP N1 g g' A A' := by
 have hv : N9 e = true := A5r (by rw [B0a h]; rfl)
 obtain ⟨g, g', A, A', h1, h2, _, h4⟩ := B4f h (b := e) (by unfold A45; rw [hv, B0J]; rfl)
 exact ⟨g, A, g', A', h1, h2, h4⟩
theorem B0M : ∀ g : GE, H8 g.tm = g.er.tm := by
 intro g
 induction g with
 | var x => rw [GE.er, GE.tm, H8, F8]; simp
 | num n => rw [GE.er, GE.tm, H8, F8]; simp
 | tru b => rw [GE.er, GE.tm, H8, F8]; cases b <;> simp
 | lam x A e i => rw [GE.er, GE.tm, GE.tm, H8, F8, F8, i]; rfl
 | app f a i j => rw [GE.er, GE.tm, GE.tm, H8, F8, F8, F8, i, j]; rfl
 | ar s a b i j => rw [GE.er, GE.tm, GE.tm, H8, F8, F8, F8, i, j]; cases s <;> rfl
 | ite c a b i j k => rw [GE.er, GE.tm, GE.tm, H8, F8, F8, F8, F8, i, j, k]; rfl
 | pair a b i j => rw [GE.er, GE.tm, GE.tm, H8, F8, F8, F8, i, j]; rfl
 | part s e i => rw [GE.er, GE.tm, GE.tm, H8, F8, F8, i]; cases s <;> rfl
 | cast A B l e i => rw [GE.er, GE.tm, H8, F8, F8, i]; rfl
theorem B59 (u : Tm) (a b : Ty) (l : Int) : H8 (O7 u a b l) = H8 u := by rw [O7, H8, F8, F8]; rfl
theorem A5s : ∀ (us : List Tm) (h w : List Ty) (l : Int), F8 (E8 us h w l).1 = F8 us
 | [], h, w, l => by rw [A7c (by simp)]
 | u :: us, [], w, l => by rw [A7c (by simp)]
 | u :: us, a :: h, [], l => by rw [A7c (by simp)]
 | u :: us, a :: h, b :: w, l => by
  rw [E8]
  split
  ·rw [F8, F8, A5s us h w l]
  ·rw [F8, F8, B59, A5s us h w (l + 1)]
theorem B6a : ∀ (us : List Tm), H8 (us.getD 0 F4) = (F8 us).headD (H8 F4)
 | [] => rfl
 | u :: us => by rw [F8]; rfl
theorem B6b (ks : List Tm) (ih : ∀ t ∈ ks, ∀ (d : Int) (cx : Cx) (l : Int) (u : Tm) (a : Ty) (l' : Int), J1 12 14 t d = true → M5 cx t l = some (u, a, l') → H8 u = H8 t) :
  ∀ (d : Int) (cx : Cx) (l : Int) (us : List Tm) (h : List Ty) (l' : Int), E9 12 14 ks d = true → M1 cx ks l = some (us, h, l') → F8 us = F8 ks := by
 induction ks with
 | nil =>
  intro d cx l us h l' _ hE
  rw [M1] at hE
  cases hE
  rfl
 | cons t ts ihl =>
  intro d cx l us h l' hs hE
  rw [E9, Bool.and_eq_true] at hs
  rw [M1] at hE
  split at hE
  ·cases hE
  ·rename_i u a l1 h1
   split at hE
   ·cases hE
   ·rename_i us2 h2 l2 hE2
    cases hE
    rw [F8, F8, ih t List.mem_cons_self d cx l u a l1 hs.1 h1, ihl (fun t ht => ih t (List.mem_cons_of_mem _ ht)) d cx l1 us2 h2 _ hs.2 hE2]
theorem B6c : ∀ (t : Tm) (d : Int) (cx : Cx) (l : Int) (u : Tm) (a : Ty) (l' : Int), J1 12 14 t d = true → M5 cx t l = some (u, a, l') → H8 u = H8 t := by
 refine Tm.ind fun k nm num ty fr lb ks ih d cx l u a l' hs hE => ?_
 obtain ⟨_, h2, h3, h4⟩ := W6 hs
 have hops := (U8.1 h3).1
 rw [M5] at hE
 split at hE
 ·cases hE
 ·rename_i us h l1 hL
  have g1 := B6b ks ih _ _ _ _ _ _ h4 hL
  rw [Q8] at hE
  split at hE
  ·cases hE
  ·rename_i w t' hN
   cases hE
   split
   ·rename_i hk
    subst hk
    rw [B6a, A5s, g1, H8, if_pos (.inl rfl)]
    have hl : ks.length = 1 := by rw [show C7 13 = 1 from rfl] at hops; omega
    obtain ⟨x, hx⟩ : ∃ x, ks = [x] := List.length_eq_one_iff.1 hl
    rw [hx, F8]; rfl
   ·rename_i hk
    have hE : ∀ vs, H8 (.mk k nm num ty fr lb vs) = .mk k nm num (if k = 5 then O9 else A7) A7 0 (F8 vs) := fun vs => by rw [H8, if_neg (by omega)]
    rw [hE, hE, A5s, g1]
theorem B0N {e u : Tm} {t : Ty} (h : T3 e = some (u, t)) : H8 u = H8 e := by
 unfold T3 at h
 split at h
 ·rename_i hv
  split at h
  ·rename_i u' t' l' he
   cases h
   exact B6c e 1 [] 0 u t l' ((A0a e).1 hv).1 he
  ·cases h
 ·cases h
mutual
theorem A7d : ∀ (t : Tm) (d d' : Int), d' ≤ d → J1 12 14 t d = true → J1 12 14 (H8 t) d' = true
 | .mk k nm num ty fr lb ks, d, d', hd, h => by
  obtain ⟨h1, h2, h3, h4⟩ := W6 h
  obtain ⟨n1, n2, n3, n4, n5, n6, n7, n8, n9⟩ := U8.1 h3
  rw [H8]
  by_cases hk : k = 13 ∨ k = 14
  ·rw [if_pos hk]
   have hk13 : k = 13 := by omega
   subst hk13
   have hl : ks.length = 1 := by rw [show C7 13 = 1 from rfl] at n1; omega
   match ks, hl, h4 with
   | [x], _, h4 =>
    rw [E9, Bool.and_eq_true] at h4
    rw [F8]
    exact A7d x (d + 1) d' (by omega) h4.1
  ·rw [if_neg hk, A0O (by omega) h2]
   ·exact B0O ks (d + 1) (d' + 1) (by omega) h4
   ·have hlen : (F8 ks).length = ks.length := by rw [A2W, List.length_map]
    rw [hlen]
    obtain ⟨hf, hl⟩ := n9 h2
    refine U8.2 ⟨n1, n2, n3, n4, n5, fun h5 => ?_, fun h5 => ?_, fun h14 => absurd h14 h2, fun _ => ⟨by decide, rfl⟩⟩
    ·rw [if_pos (by omega)]; decide
    ·rw [if_neg (by omega)]; decide
theorem B0O : ∀ (ts : List Tm) (d d' : Int), d' ≤ d → E9 12 14 ts d = true → E9 12 14 (F8 ts) d' = true
 | [], _, _, _, _ => by rw [F8]; rfl
 | t :: ts, d, d', hd, h => by
  rw [E9, Bool.and_eq_true] at h
  rw [F8, E9, A7d t d d' hd h.1, B0O ts d d' hd h.2]; rfl
end
theorem B6d {e : Tm} (h : N9 e = true) : J3 (H8 e) = true := by
 obtain ⟨h1, h2⟩ := (A0a e).1 h
 refine B3b ((A0a _).2 ⟨A7d e 1 1 (Int.le_refl _) h1, ?_⟩)
 have := (A4O e (A7b h).1).2
 omega
theorem B6e {e : Tm} {fuel : Int} (h : (A0d e fuel).2.1 = 0) : N9 e = true ∧ ((Q4 (H8 e) 300).2.1 = 4 ∨ ((Q4 (H8 e) 300).2.1 = 0 ∧ U3 (Q4 (H8 e) 300).1 = (A0d e fuel).1 ∧ (Q4 (H8 e) 300).2.2 = 0)) := by
 cases hu : T3 e with
 | none => rw [A98 hu] at h; cases h
 | some p =>
  obtain ⟨u, t⟩ := p
  have hv : N9 e = true := A5r (by rw [B0a hu]; rfl)
  refine ⟨hv, ?_⟩
  obtain ⟨g, A, g', A', rfl, rfl, hP⟩ := B0L hu
  by_cases he : (S3 g.tm fuel).2.1 = 0
  ·rw [A6X hu he]
   have hf : 0 ≤ fuel ∧ fuel ≤ 300 := by
    apply Classical.byContradiction
    intro hn
    unfold S3 at he
    rw [if_neg hn] at he
    cases he
   have hE : S3 g.tm fuel = ((N4 fuel.toNat g.tm).1, (N4 fuel.toNat g.tm).2.1, (N4 fuel.toNat g.tm).2.2.1) := by unfold S3; rw [if_pos hf]
   rw [hE] at he ⊢
   have hb : H8 e = g.er.tm := by rw [← B0N hu, B0M]
   have hc : J3 g.er.tm = true := by rw [← hb]; exact B6d hv
   have := B5y (n := fuel.toNat) (N := 300) hP he (by omega) hc
   have hB : Q4 (H8 e) 300 = ((I4 300 g.er.tm).1, (I4 300 g.er.tm).2.1, (I4 300 g.er.tm).2.2.1) := by unfold Q4; rw [if_pos (by decide), hb]; rfl
   rw [hB]
   rcases this with g1 | ⟨g1, g2, _, g4⟩
   ·exact .inl g1
   ·exact .inr ⟨g1, g2, g4⟩
  ·rw [A5j hu he] at h; exact absurd h he
def GE.lt : GE → Prop
 | .var _ => True
 | .num _ => True
 | .tru _ => True
 | .lam _ A e => E7 A.ty = true ∧ e.lt
 | .app f a => f.lt ∧ a.lt
 | .ar _ a b => a.lt ∧ b.lt
 | .ite c a b => c.lt ∧ a.lt ∧ b.lt
 | .pair a b => a.lt ∧ b.lt
 | .part _ e => e.lt
 | .cast _ _ _ _ => False
theorem B6f {x : ByteArray} {v : GE} (hv : v.lt) : ∀ e : GE, e.lt → (e.sub x v).lt := by
 intro e
 induction e with
 | var y => intro _; rw [GE.sub]; split; exact hv; trivial
 | num n => intro h; exact h
 | tru b => intro h; exact h
 | lam y A e i => intro h; rw [GE.sub]; split; exact h; exact ⟨h.1, i h.2⟩
 | app f a i j => intro h; exact ⟨i h.1, j h.2⟩
 | ar s a b i j => intro h; exact ⟨i h.1, j h.2⟩
 | ite c a b i j k => intro h; exact ⟨i h.1, j h.2.1, k h.2.2⟩
 | pair a b i j => intro h; exact ⟨i h.1, j h.2⟩
 | part s e i => intro h; exact i h
 | cast A B l e i => intro h; exact h.elim
theorem B0P {e r : GE} (h : GS e r) : e.lt → GS e.er r.er ∧ r.lt := by
 induction h with
 | app1 _ i => exact fun h => ⟨.app1 (i h.1).1, (i h.1).2, h.2⟩
 | app2 v _ i => exact fun h => ⟨.app2 (Z0 v) (i h.2).1, h.1, (i h.2).2⟩
 | ar1 _ i => exact fun h => ⟨.ar1 (i h.1).1, (i h.1).2, h.2⟩
 | ar2 v _ i => exact fun h => ⟨.ar2 (Z0 v) (i h.2).1, h.1, (i h.2).2⟩
 | ite1 _ i => exact fun h => ⟨.ite1 (i h.1).1, (i h.1).2, h.2⟩
 | pair1 _ i => exact fun h => ⟨.pair1 (i h.1).1, (i h.1).2, h.2⟩
 | pair2 v _ i => exact fun h => ⟨.pair2 (Z0 v) (i h.2).1, h.1, (i h.2).2⟩
 | part1 _ i => exact fun h => ⟨.part1 (i h).1, (i h).2⟩
 | cast1 _ _ => exact fun h => h.elim
 | beta v => exact fun h => ⟨by rw [B0b]; exact .beta (Z0 v), B6f h.2 _ h.1.2⟩
 | appx _ _ => exact fun h => h.1.elim
 | @ar s m n => exact fun _ => ⟨by rw [show (A0G s m n).er = A0G s m n by unfold A0G; split <;> rfl]; exact .ar, by unfold A0G; split <;> trivial⟩
 | @ite b x y => exact fun h => ⟨by rw [show (if b = true then x else y).er = if b = true then x.er else y.er by split <;> rfl]; exact .ite, by cases b; exact h.2.2; exact h.2.1⟩
 | @part s a b v v2 => exact fun h => ⟨by rw [show (if s = true then b else a).er = if s = true then b.er else a.er by split <;> rfl]; exact .part (Z0 v) (Z0 v2), by cases s; exact h.1; exact h.2⟩
 | partx _ => exact fun h => h.elim
 | cid _ _ => exact fun h => h.elim
 | up _ _ _ => exact fun h => h.elim
 | down _ _ _ => exact fun h => h.elim
 | hit _ _ => exact fun h => h.elim
theorem B0Q : ∀ {e : GE}, e.lt → e.er.tx = e.tx := by
 intro e
 cases e with
 | cast A B l e => intro h; exact h.elim
 | _ => intro _; rfl
theorem B6g : ∀ (e : GE) (d : Int), e.lt → J1 40 13 e.er.tm d = J1 40 13 e.tm d := by
 intro e
 induction e with
 | var x => intro d _; rfl
 | num n => intro d _; rfl
 | tru b => intro d _; rfl
 | lam x A e i =>
  intro d h
  rw [GE.er, GE.tm, GE.tm, J1, J1, E9, E9, i _ h.2]
  have : T8 5 x 0 GT.any.ty A7 0 1 = T8 5 x 0 A.ty A7 0 1 := by
   unfold T8
   rw [show E7 GT.any.ty = E7 A.ty by rw [h.1]; rfl]
   rfl
  exact congrArg (fun z => decide (d ≤ 40) && decide ((5 : Int) ≠ 13) && z && (J1 40 13 e.tm (d + 1) && true)) this
 | app f a i j => intro d h; rw [GE.er, GE.tm, GE.tm, J1, J1, E9, E9, E9, E9, i _ h.1, j _ h.2]; rfl
 | ar s a b i j => intro d h; rw [GE.er, GE.tm, GE.tm, J1, J1, E9, E9, E9, E9, i _ h.1, j _ h.2]; rfl
 | ite c a b i j k => intro d h; rw [GE.er, GE.tm, GE.tm, J1, J1, E9, E9, E9, E9, E9, E9, i _ h.1, j _ h.2.1, k _ h.2.2]; rfl
 | pair a b i j => intro d h; rw [GE.er, GE.tm, GE.tm, J1, J1, E9, E9, E9, E9, i _ h.1, j _ h.2]; rfl
 | part s e i => intro d h; rw [GE.er, GE.tm, GE.tm, J1, J1, E9, E9, i _ h]; rfl
 | cast A B l e i => intro d h; exact h.elim
theorem B6h : ∀ (e : GE), e.lt → C6 e.er.tm = C6 e.tm := by
 intro e
 induction e with
 | var x => intro _; rfl
 | num n => intro _; rfl
 | tru b => intro _; rfl
 | lam x A e i => intro h; rw [GE.er, GE.tm, GE.tm, U1, U1]; simp only [D6, i h.2]
 | app f a i j => intro h; rw [GE.er, GE.tm, GE.tm, U1, U1]; simp only [D6, i h.1, j h.2]
 | ar s a b i j => intro h; rw [GE.er, GE.tm, GE.tm, U1, U1]; simp only [D6, i h.1, j h.2]
 | ite c a b i j k => intro h; rw [GE.er, GE.tm, GE.tm, U1, U1]; simp only [D6, i h.1, j h.2.1, k h.2.2]
 | pair a b i j => intro h; rw [GE.er, GE.tm, GE.tm, U1, U1]; simp only [D6, i h.1, j h.2]
 | part s e i => intro h; rw [GE.er, GE.tm, GE.tm, U1, U1]; simp only [D6, i h]
 | cast A B l e i => intro h; exact h.elim
theorem A3j {e : GE} (h : e.lt) : J3 e.er.tm = J3 e.tm := by
 have := A1I e.er.tm
 have h2 := A1I e.tm
 rw [B6g e 1 h, B6h e h] at this
 cases h3 : J3 e.tm with
 | true => exact this.2 (h2.1 h3)
 | false =>
  cases h4 : J3 e.er.tm with
  | false => rfl
  | true => rw [h2.2 (this.1 h4)] at h3; cases h3
theorem B0R : ∀ (e : GE), e.lt → GQ (fun _ _ _ => False) e := by
 intro e
 induction e with
 | var x => intro _; trivial
 | num n => intro _; trivial
 | tru b => intro _; trivial
 | lam x A e i => intro h; exact i h.2
 | app f a i j => intro h; exact ⟨i h.1, j h.2⟩
 | ar s a b i j => intro h; exact ⟨i h.1, j h.2⟩
 | ite c a b i j k => intro h; exact ⟨i h.1, j h.2.1, k h.2.2⟩
 | pair a b i j => intro h; exact ⟨i h.1, j h.2⟩
 | part s e i => intro h; exact i h
 | cast A B l e i => intro h; exact h.elim
theorem B6i : ∀ (n : Nat) {e e' : GE} {A A' : GT}, GP N1 e e' A A' → e.lt → J3 e.tm = true →
  (I4 n e.er.tm).2.1 = (N4 n e.tm).2.1 ∧ (N4 n e.tm).2.1 ≠ 2 ∧ ((N4 n e.tm).2.1 = 0 → U3 (I4 n e.er.tm).1 = U3 (N4 n e.tm).1) ∧ (I4 n e.er.tm).2.2.1 = 0 := by
 intro n
 induction n with
 | zero =>
  intro e e' A A' hp hl hc
  rcases A4Y hp rfl with hv | ⟨r, s⟩ | b
  ·have h1 : H5 e.tm = (e.tm, 0, 0) := A5f hc ((Q0 _).2 hv)
   have h2 : H2 e.er.tm = (e.er.tm, 0, 0) := A3d (by unfold M9; rw [A3j hl, hc, (A1U _).2 (A1T e)]; rfl) ((Q0 _).2 (Z0 hv))
   rw [N4, I4, h1, h2]
   exact ⟨rfl, by show (0 : Int) ≠ 2; decide, fun _ => by show U3 e.er.tm = U3 e.tm; rw [A3c (Z0 hv), A3c hv, B0Q hl], rfl⟩
  ·obtain ⟨s2, hlr⟩ := B0P s hl
   obtain ⟨hb, hnb⟩ := A63 s2 (A1T e)
   have hs := A4W s
   have hbv : M9 e.er.tm = true := by unfold M9; rw [A3j hl, hc, (A1U _).2 (A1T e)]; rfl
   have hbr : M9 r.er.tm = J3 r.tm := by unfold M9; rw [A3j hlr, (A1U _).2 (A1T r), Bool.and_true]
   cases hcr : J3 r.tm with
   | false =>
    rw [N4, I4, A5g hc (nv s) (by rw [hs]) (by rw [hs]; exact hcr), A3e hbv (nv s2) (by rw [hb]) (by rw [hb]; show M9 r.er.tm = false; rw [hbr, hcr])]
    exact ⟨rfl, by show (4 : Int) ≠ 2; decide, fun h => absurd h (by show ¬ (4 : Int) = 0; decide), rfl⟩
   | true =>
    rw [N4, I4, A5h hc (nv s) (by rw [hs]) (by rw [hs]; exact hcr), A3f hbv (nv s2) (by rw [hb]) (by rw [hb]; show M9 r.er.tm = true; rw [hbr, hcr])]
    exact ⟨rfl, by show (5 : Int) ≠ 2; decide, fun h => absurd h (by show ¬ (5 : Int) = 0; decide), rfl⟩
  ·obtain ⟨B, _, hq⟩ := B0q (Q := fun _ _ _ => False) e (A0Q hc).1 (B0R e hl) b.2
   exact hq.elim
 | succ n ih =>
  intro e e' A A' hp hl hc
  rcases A4Y hp rfl with hv | ⟨r, s⟩ | b
  ·have h1 : H5 e.tm = (e.tm, 0, 0) := A5f hc ((Q0 _).2 hv)
   have h2 : H2 e.er.tm = (e.er.tm, 0, 0) := A3d (by unfold M9; rw [A3j hl, hc, (A1U _).2 (A1T e)]; rfl) ((Q0 _).2 (Z0 hv))
   rw [N4, I4, h1, h2]
   exact ⟨rfl, by show (0 : Int) ≠ 2; decide, fun _ => by show U3 e.er.tm = U3 e.tm; rw [A3c (Z0 hv), A3c hv, B0Q hl], rfl⟩
  ·obtain ⟨s2, hlr⟩ := B0P s hl
   obtain ⟨hb, hnb⟩ := A63 s2 (A1T e)
   have hs := A4W s
   have hbv : M9 e.er.tm = true := by unfold M9; rw [A3j hl, hc, (A1U _).2 (A1T e)]; rfl
   have hbr : M9 r.er.tm = J3 r.tm := by unfold M9; rw [A3j hlr, (A1U _).2 (A1T r), Bool.and_true]
   obtain ⟨r', _, hp'⟩ := sim hp rfl s
   cases hcr : J3 r.tm with
   | false =>
    rw [N4, I4, A5g hc (nv s) (by rw [hs]) (by rw [hs]; exact hcr), A3e hbv (nv s2) (by rw [hb]) (by rw [hb]; show M9 r.er.tm = false; rw [hbr, hcr])]
    exact ⟨rfl, by show (4 : Int) ≠ 2; decide, fun h => absurd h (by show ¬ (4 : Int) = 0; decide), rfl⟩
   | true =>
    have e1 := A5h hc (nv s) (by rw [hs]) (by rw [hs]; exact hcr)
    have e2 := A3f hbv (nv s2) (by rw [hb]) (by rw [hb]; show M9 r.er.tm = true; rw [hbr, hcr])
    rw [hs] at e1
    rw [hb] at e2
    rw [A88 (by rw [e1]), B0m (by rw [e2]), e1, e2]
    exact ih hp' hlr hcr
  ·obtain ⟨B, _, hq⟩ := B0q (Q := fun _ _ _ => False) e (A0Q hc).1 (B0R e hl) b.2
   exact hq.elim
mutual
def N5 : Ty → Int
 | .mk k ks => if k = 1 then 1 else R6 ks
def R6 : List Ty → Int
 | [] => 0
 | t :: ts => N5 t + R6 ts
end
theorem B0S {k : Int} {ks : List Ty} (h : k = 1) : N5 (.mk k ks) = 1 := by rw [N5, if_pos h]
theorem B6j {k : Int} {ks : List Ty} (h : ¬k = 1) : N5 (.mk k ks) = R6 ks := by rw [N5, if_neg h]
mutual
theorem A3k : ∀ t : Ty, 0 ≤ N5 t ∧ N5 t ≤ J7 t + 1
 | .mk k ks => by
  have h := A2k ks
  rw [N5, J7]
  split
  ·have := A1F ks
   omega
  ·omega
theorem A2k : ∀ ts : List Ty, 0 ≤ R6 ts ∧ R6 ts ≤ O4 ts + ts.length
 | [] => by simp [R6, O4]
 | t :: ts => by
  have h1 := A3k t
  have h2 := A2k ts
  rw [R6, O4, List.length_cons]; omega
end
theorem A7e : ∀ (a b : List Ty), R6 (a ++ b) = R6 a + R6 b
 | [], b => by simp [R6]
 | t :: a, b => by rw [List.cons_append, R6, R6, A7e a b]; omega
theorem B0T {ks : List Ty} {i : Nat} (hi : i < ks.length) : R6 (ks.take (i + 1)) = R6 (ks.take i) + N5 ks[i] := by
 rw [List.take_succ_eq_append_getElem hi, A7e, R6, R6]; omega
theorem B6k {ks : List Ty} {i : Nat} (hi : i < ks.length) : R6 (ks.take i) + N5 ks[i] ≤ R6 ks := by
 have h : R6 ks = R6 (ks.take (i + 1)) + R6 (ks.drop (i + 1)) := by rw [← A7e, List.take_append_drop]
 have := (A2k (ks.drop (i + 1))).1
 rw [h, B0T hi]; omega
theorem B6l : ∀ (t : Ty) (G : IM) (cells : List Value), J7 t ≤ 4294967296 → B7 G t cells →
  Fn Tryz.prog 74 [.agg ⟨cells⟩] [] G (H0 (.int .i64 (N5 t)) G) := by
 refine Ty.ind fun k ks ih G cells hsz hr => ?_
 have hb := A2k ks
 have hyes := @B0S k ks
 have hno := @B6j k ks
 rw [J7] at hsz
 obtain ⟨p, c, es, rfl, hk, hsl, hkl⟩ := hr.open
 simp only [Ty.k, Ty.ks] at hk hsl hkl ⊢
 have hn := hsl.le
 obtain ⟨R, hR⟩ : ∃ R, N5 (.mk k ks) = R := ⟨_, rfl⟩
 rw [hR] at hyes hno ⊢
 refine B2 Tryz.func74 rfl Tryz.ntmps74 Tryz.results74 rfl ?_
 intro w0
 refine tS (tR ?_)
 refine sE (B9 rfl rfl) rfl (fun b3 => ?_)
 refine D3 ?_
 refine sB (qE rfl rfl) rfl rfl (fun h12 => ?_) (fun h12 => ?_)
 refine I6 ?_
 (exact ⟨rfl, by rw [hyes (by omega)], rfl⟩)
 refine A0q ?_
 refine B4 ?_
 (have hR2 := hno (by omega); refine K9 (fun (i : Nat) => ⟨[(12, .int .i64 i), (11, .int .i64 ks.length), (10, .slice p ks.length c), (3, .int .i64 (R6 (ks.take i)))], [], G⟩) (fun i => i ≤ ks.length) (fun i => ks.length - i) 0 ?_ ?_ ?_)
 exact D1
 (exact Nat.zero_le _)
 (rintro (i : Nat) hi)
 refine tS (tR ?_)
 refine sB (K6 rfl rfl) rfl rfl (fun h51 => ?_) (fun h51 => ?_)
 refine sD (nS (tS (qT rfl (tK (nS (tS ?_))))))
 refine B4 ?_
 refine tS (tR ?_)
 (obtain ⟨b, o, p2, c2, rfl, hat, hre, hgb⟩ := hsl.kidTy hkl (i := i) (by omega) (by omega); have hsi : J7 ks[i] ≤ O4 ks := A6p (List.getElem_mem (by omega)); have hti := B6k (ks := ks) (i := i) (by omega); have hs1 := B0T (ks := ks) (i := i) (by omega); have hb1 := A3k ks[i]; have hb2 := A2k (ks.take i); refine sP (B3 rfl rfl rfl (by omega)) rfl rfl ?_)
 refine sL (A1 rfl rfl (hat _) rfl) rfl rfl ?_
 refine sE (A5 rfl) rfl (fun b64 => ?_)
 refine J8 ?_
 refine H3 rfl (ih ks[i] (List.getElem_mem (by omega)) G _ (by omega) hre) rfl rfl ?_
 refine sP (K2 rfl rfl (by omega) (by omega)) rfl rfl ?_
 refine sQ (qA rfl) rfl (sD (M8 (nS (tR ?_))))
 refine sP (K2 rfl rfl (by omega) (by omega)) rfl rfl ?_
 refine sQ (qM rfl) rfl (sD ?_)
 refine K7 (i + 1) (by rw [hs1]; exact (O1 (by repeat (first | exact E3.nil | refine E3.cons rfl ?_)) (by repeat (first | exact A0.refl | exact A0.nil | refine A0.cons (by repeat (first | exact Pk.here | apply Pk.there)) ?_ | apply A0.drop)))) ?_ ?_
 (show i + 1 ≤ ks.length; omega)
 (show ks.length - (i + 1) < ks.length - i; omega)
 refine T0 ?_
 (obtain rfl : i = ks.length := (by omega); exact ⟨rfl, by rw [hR2, List.take_length], rfl⟩)
def tSt (t : Ty) : Bool := decide (N5 t = 0)
theorem B6m (G : IM) (t : Ty) (e : List Value) (hs : J7 t ≤ 4294967296) (hr : B7 G t e) :
  Fn Tryz.prog 73 [.agg ⟨e⟩] [] G (U6 (.bool (!tSt t)) [] G) := by
 have hl := hr.len
 have hone := hr.one
 have hb := A3k t
 have hc := B6l t G e hs hr
 unfold tSt
 refine B2 Tryz.func73 rfl Tryz.ntmps73 Tryz.results73 rfl ?_
 intro w0
 refine tS (tR ?_)
 refine sE (B9 rfl rfl) rfl (fun b3 => ?_)
 refine sQ (qA rfl) rfl (sD (nS (tS (tR ?_))))
 refine sL (A1 rfl rfl (A9 (by repeat first | exact mH | apply mT)) hl) rfl rfl ?_
 refine H3 rfl (hc) rfl rfl ?_
 refine sB (X6 rfl rfl) rfl rfl (fun h11 => ?_) (fun h11 => ?_)
 refine sQ (qA rfl) rfl (sD (nS (tT (D9 (rT rfl) ?_))))
 (exact ⟨rfl, by rw [decide_eq_false (by omega)]; rfl, rfl⟩)
 refine sQ (qA rfl) rfl (sD (nS (tT (D9 (rT rfl) ?_))))
 (exact ⟨rfl, by rw [decide_eq_true (by omega)]; rfl, rfl⟩)
def A1u (e : Tm) : Bool := N9 e && (V2 e).all tSt
theorem B6n (e : Tm) (G : IM) (cells : List Value) (hr : A8 G e cells) : Fn Tryz.prog 24 [.agg ⟨cells⟩] [] G (L5 fun _ v => v = .bool (A1u e)) := by
 have hl := hr.len
 have hone := hr.one
 have hv := A4G e G cells hr
 have hno : N9 e = false → A1u e = false := fun h => by unfold A1u; rw [h]; rfl
 have hyes : N9 e = true → A1u e = (V2 e).all tSt := fun h => by unfold A1u; rw [h]; rfl
 have hfit := @A7b e
 have htv : N9 e = true → ∀ u ∈ V2 e, E7 u = true := fun h => B0E e 1 ((A0a e).1 h).1
 refine B2 Tryz.func24 rfl Tryz.ntmps24 Tryz.results24 rfl ?_
 intro w0
 refine tS (tR ?_)
 refine sE (B9 rfl rfl) rfl (fun b3 => ?_)
 refine sQ (qA rfl) rfl (sD (nS (tS (tR ?_))))
 refine sL (A1 rfl rfl (A9 (by repeat first | exact mH | apply mT)) hl) rfl rfl ?_
 refine D8 rfl (hv) rfl rfl (fun h10 => ?_) (fun h10 => ?_)
 refine sQ (qM rfl) rfl ?_
 refine sL (A1 rfl rfl (A9 (by repeat first | exact mH | apply mT)) hl) rfl rfl ?_
 (have hf := hfit (by assumption); have htv2 := htv (by assumption); have hy2 := hyes (by assumption); refine A2r rfl (B5B e G cells hf.1 (by have := hf.2; omega) hr) rfl rfl (fun v G1 outs hle1 hh => ?_); obtain ⟨p, c, es, rfl, rfl, hr1⟩ := hh; generalize V2 e = L at *; refine T6 (cs := es.flatten) (by repeat (first | exact Pk.here | apply Pk.there)) (fun G2 hle2 hsl2 hno2 => ?_); have hse := D0.of hsl2 hr1.len hr1.all (fun e he => (hr1.each e he).2); replace hr1 := hr1.mono hle2; obtain ⟨A, hA⟩ : ∃ A, L.all tSt = A := ⟨_, rfl⟩)
 refine A2N rfl (A2T _ _ _ _ _ hse _ [] _ [] tSt L rfl hA (fun i e he => B6m _ _ _ (by have := (A3Q (htv2 _ (hr1.inv he A7).1)).2; omega) (hr1.inv he A7).2)) Z6 rfl rfl (fun h14 => ?_) (fun h14 => ?_)
 simp only [Bool.not_eq_true', Bool.not_eq_false'] at h14
 refine C2 ?_
 (exact ⟨rfl, by rw [hy2, hA]; simp_all⟩)
 simp only [Bool.not_eq_true', Bool.not_eq_false'] at h14
 refine C2 ?_
 (exact ⟨rfl, by rw [hy2, hA]; simp_all⟩)
 refine I6 ?_
 (exact ⟨rfl, by rw [hno (by assumption)]⟩)
mutual
theorem A7f : ∀ (a b : Ty), K1 a b = true → N5 a = 0 → N5 b = 0 → a = b
 | .mk k ks, .mk k' ks', h, h1, h2 => by
  rw [S5] at h
  simp only [Bool.or_eq_true, Bool.and_eq_true, decide_eq_true_eq] at h
  rw [N5] at h1 h2
  have hk : k ≠ 1 := by intro hk; rw [if_pos hk] at h1; cases h1
  have hk' : k' ≠ 1 := by intro hk; rw [if_pos hk] at h2; cases h2
  rw [if_neg hk] at h1
  rw [if_neg hk'] at h2
  rcases h with (h | h) | ⟨rfl, h⟩
  ·exact absurd h hk
  ·exact absurd h hk'
  ·rw [B0U ks ks' h h1 h2]
theorem B0U : ∀ (xs ys : List Ty), N0 xs ys = true → R6 xs = 0 → R6 ys = 0 → xs = ys
 | [], [], _, _, _ => rfl
 | [], _ :: _, h, _, _ => by simp [N0] at h
 | _ :: _, [], h, _, _ => by simp [N0] at h
 | a :: xs, b :: ys, h, h1, h2 => by
  rw [N0, Bool.and_eq_true] at h
  rw [R6] at h1 h2
  have p1 := (A3k a).1
  have p2 := (A2k xs).1
  have p3 := (A3k b).1
  have p4 := (A2k ys).1
  rw [A7f a b h.1 (by omega) (by omega), B0U xs ys h.2 (by omega) (by omega)]
end
theorem A7g {h : List Ty} (hh : ∀ a ∈ h, N5 a = 0) (i : Nat) : N5 (h.getD i A7) = 0 := by
 rw [List.getD_eq_getElem?_getD]
 cases hx : h[i]? with
 | none => rfl
 | some t => exact hh t (List.mem_of_getElem? hx)
theorem B0V : ∀ {ks : List Ty}, R6 ks = 0 → ∀ u ∈ ks, N5 u = 0
 | [], _, u, hu => by simp at hu
 | a :: ks, h, u, hu => by
  rw [R6] at h
  have p1 := (A3k a).1
  have p2 := (A2k ks).1
  rcases List.mem_cons.1 hu with h1 | h1
  ·rw [h1]; omega
  ·exact B0V (by omega) u h1
theorem B0W {k : Int} {ks : List Ty} (h : N5 (.mk k ks) = 0) : ∀ u ∈ ks, N5 u = 0 := by
 rw [N5] at h
 split at h
 ·cases h
 ·exact B0V h
theorem A5t {k : Int} {a b : Ty} (hk : k ≠ 1) (ha : N5 a = 0) (hb : N5 b = 0) : N5 (.mk k [a, b]) = 0 := by
 rw [N5, if_neg hk, R6, R6, R6]; omega
theorem B0X {k : Int} {t a b : Ty} (ht : N5 t = 0) (h : R3 k t = some (a, b)) : N5 a = 0 ∧ N5 b = 0 := by
 obtain ⟨tk, ks⟩ := t
 rw [show R3 k (.mk tk ks) = (if tk = k then some (ks.getD 0 A7, ks.getD 1 A7) else if tk = 1 then some (O9, O9) else none) from rfl] at h
 split at h
 ·cases h; exact ⟨A7g (B0W ht) 0, A7g (B0W ht) 1⟩
 ·split at h
  ·rename_i h1; rw [B0S h1] at ht; cases ht
  ·cases h
theorem B6o {cx : Cx} {k : Int} {nm : ByteArray} {ty : Ty} {h w : List Ty} {t : Ty} (hcx : ∀ x u, W3 cx x = some u → N5 u = 0) (hh : ∀ a ∈ h, N5 a = 0) (hty : k = 5 ∨ k = 13 → N5 ty = 0) (hw : N2 cx k nm ty h = some (w, t)) :
  (∀ a ∈ w, N5 a = 0) ∧ N5 t = 0 := by
 have g := A7g hh
 unfold N2 at hw
 split at hw
 ·split at hw
  ·rename_i u hu; cases hw; exact ⟨by simp, hcx _ _ hu⟩
  ·cases hw
 split at hw
 ·cases hw; exact ⟨by simp, rfl⟩
 split at hw
 ·cases hw; exact ⟨by simp, rfl⟩
 split at hw
 ·rename_i hk; cases hw; exact ⟨by simp, A5t (by decide) (hty (.inl hk)) (g 0)⟩
 split at hw
 ·split at hw
  ·rename_i a b hm
   obtain ⟨h1, h2⟩ := B0X (g 0) hm
   split at hw
   ·cases hw
    exact ⟨by intro x hx; simp only [List.mem_cons, List.not_mem_nil, or_false] at hx; rcases hx with rfl | rfl; exact A5t (by decide) h1 h2; exact h1, h2⟩
   ·cases hw
  ·cases hw
 split at hw
 ·split at hw
  ·cases hw
   refine ⟨by intro x hx; simp only [List.mem_cons, List.not_mem_nil, or_false] at hx; rcases hx with rfl | rfl <;> rfl, ?_⟩
   split <;> rfl
  ·cases hw
 split at hw
 ·split at hw
  ·rename_i hc
   have he := A7f _ _ hc.2 (g 1) (g 2)
   rw [he, A6D] at hw
   cases hw
   exact ⟨by intro x hx; simp only [List.mem_cons, List.not_mem_nil, or_false] at hx; rcases hx with rfl | rfl | rfl; rfl; exact g 2; exact g 2, g 2⟩
  ·cases hw
 split at hw
 ·cases hw; exact ⟨by simp, A5t (by decide) (g 0) (g 1)⟩
 split at hw
 ·rename_i hk
  split at hw
  ·cases hw; exact ⟨by intro x hx; simp only [List.mem_cons, List.not_mem_nil, or_false] at hx; rw [hx]; exact hty (.inr hk), hty (.inr hk)⟩
  ·cases hw
 ·split at hw
  ·rename_i a b hm
   obtain ⟨h1, h2⟩ := B0X (g 0) hm
   cases hw
   refine ⟨by intro x hx; simp only [List.mem_cons, List.not_mem_nil, or_false] at hx; rw [hx]; exact A5t (by decide) h1 h2, ?_⟩
   split
   ·exact h2
   ·exact h1
  ·cases hw
theorem B0Y : ∀ (us : List Tm) (h w : List Ty) (l : Int), (∀ i, (hi : i < w.length) → (hh : i < h.length) → h[i] = w[i]) → E8 us h w l = (us, l)
 | [], h, w, l, _ => by simp [E8]
 | u :: us, [], w, l, _ => by simp [E8]
 | u :: us, a :: h, [], l, _ => by simp [E8]
 | u :: us, a :: h, b :: w, l, hs => by
  have h0 : a = b := hs 0 (by simp) (by simp)
  rw [E8, if_pos (by rw [h0]; exact A6b b), B0Y us h w l (fun i hi hh => hs (i + 1) (by simpa using hi) (by simpa using hh))]
theorem B6p {cx : Cx} {k : Int} {nm : ByteArray} {ty : Ty} (hcx : ∀ x u, W3 cx x = some u → N5 u = 0) (hty : k = 5 → N5 ty = 0) : ∀ x u, W3 (P0 cx k nm ty) x = some u → N5 u = 0 := by
 intro x u hu
 unfold P0 at hu
 split at hu
 ·rw [A9o] at hu
  split at hu
  ·cases hu; exact hty (by assumption)
  ·exact hcx x u hu
 ·exact hcx x u hu
abbrev NoC (u : Tm) : Prop := A3a (fun _ => False) u
theorem B6q (ks : List Tm) (ih : ∀ t ∈ ks, ∀ (d : Int) (cx : Cx) (l : Int) (u : Tm) (a : Ty) (l' : Int), J1 12 14 t d = true → Y2 cx → (∀ x u, W3 cx x = some u → N5 u = 0) → (∀ u ∈ V2 t, N5 u = 0) → M5 cx t l = some (u, a, l') → NoC u ∧ N5 a = 0) :
  ∀ (d : Int) (cx : Cx) (l : Int) (us : List Tm) (h : List Ty) (l' : Int), E9 12 14 ks d = true → Y2 cx → (∀ x u, W3 cx x = some u → N5 u = 0) → (∀ u ∈ S0 ks, N5 u = 0) → M1 cx ks l = some (us, h, l') → (∀ u ∈ us, NoC u) ∧ (∀ a ∈ h, N5 a = 0) := by
 induction ks with
 | nil => intro d cx l us h l' _ _ _ _ he; rw [M1] at he; cases he; exact ⟨by simp, by simp⟩
 | cons t ts ihl =>
  intro d cx l us h l' hs hv hcx hts he
  rw [E9, Bool.and_eq_true] at hs
  rw [S0] at hts
  rw [M1] at he
  split at he
  ·cases he
  ·rename_i u a l1 h1
   split at he
   ·cases he
   ·rename_i us' h' l2 h2
    cases he
    obtain ⟨a1, a2⟩ := ih t List.mem_cons_self d cx l u a l1 hs.1 hv hcx (fun u hu => hts u (List.mem_append_left _ hu)) h1
    obtain ⟨b1, b2⟩ := ihl (fun x hx => ih x (List.mem_cons_of_mem _ hx)) d cx l1 us' h' _ hs.2 hv hcx (fun u hu => hts u (List.mem_append_right _ hu)) h2
    exact ⟨fun x hx => by rcases List.mem_cons.1 hx with e | e; rw [e]; exact a1; exact b1 x e, fun x hx => by rcases List.mem_cons.1 hx with e | e; rw [e]; exact a2; exact b2 x e⟩
theorem B6r : ∀ (t : Tm) (d : Int) (cx : Cx) (l : Int) (u : Tm) (a : Ty) (l' : Int), J1 12 14 t d = true → Y2 cx → (∀ x u, W3 cx x = some u → N5 u = 0) → (∀ u ∈ V2 t, N5 u = 0) → M5 cx t l = some (u, a, l') → NoC u ∧ N5 a = 0 := by
 refine Tm.ind fun k nm num ty fr lb ks ih d cx l u a l' hs hv hcx hts he => ?_
 obtain ⟨n1, n2, n3, n4, n5, n6, n7, n8, n9⟩ := A6F hs
 rw [V2] at hts
 have hty : k = 5 ∨ k = 13 → N5 ty = 0 := fun hk => hts ty (by rw [if_pos hk]; simp)
 have hcv : Y2 (P0 cx k nm ty) := A3Y hv fun hk => n5 (.inl hk)
 rw [M5] at he
 split at he
 ·cases he
 ·rename_i us h l1 hL
  obtain ⟨e1, e2, e3, e4⟩ := (A9k ks (fun t _ d cx l => A3Z t d cx l) (d + 1) (P0 cx k nm ty) l n9 hcv).1 us h l1 hL
  obtain ⟨g1, g2⟩ := B6q ks ih (d + 1) (P0 cx k nm ty) l us h l1 n9 hcv (B6p hcx fun hk => hty (.inl hk)) (fun u hu => hts u (List.mem_append_right _ hu)) hL
  obtain ⟨w, hw, _, hu⟩ := A08 he
  obtain ⟨w1, w2⟩ := B6o hcx g2 hty hw
  have hwt := A9X e2 (fun hk => n5 (.inr hk)) (by rw [e3]; exact n1) n2 hw
  have hsm : E8 us h w l1 = (us, l1) := B0Y us h w l1 fun i hi hh => A7f _ _ (hwt.ok i hi hh).1 (g2 _ (List.getElem_mem hh)) (w1 _ (List.getElem_mem hi))
  refine ⟨?_, w2⟩
  rw [hu, hsm]
  split
  ·show NoC (us.getD 0 F4)
   rw [List.getD_eq_getElem?_getD]
   cases hx : us[0]? with
   | none => exact A1R.2 ⟨fun e => absurd e (by decide), trivial⟩
   | some t => exact g1 t (List.mem_of_getElem? hx)
  ·exact A1R.2 ⟨fun e => absurd e n2, A2c.2 g1⟩
theorem B6s : ∀ (g : GE) (d : Int), J1 40 13 g.tm d = true → NoC g.tm → g.lt := by
 intro g
 induction g with
 | var x => intro _ _ _; trivial
 | num n => intro _ _ _; trivial
 | tru b => intro _ _ _; trivial
 | lam x A e i =>
  intro d h hn
  rw [GE.tm] at h hn
  obtain ⟨_, _, h3, h4⟩ := W6 h
  rw [E9, Bool.and_eq_true] at h4
  exact ⟨(U8.1 h3).2.2.2.2.2.1 (.inl rfl), i _ h4.1 (A2c.1 (A1R.1 hn).2 _ (by simp))⟩
 | app f a i j =>
  intro d h hn
  rw [GE.tm] at h hn
  obtain ⟨_, _, _, h4⟩ := W6 h
  rw [E9, E9, Bool.and_eq_true, Bool.and_eq_true] at h4
  have hm := A2c.1 (A1R.1 hn).2
  exact ⟨i _ h4.1 (hm _ (by simp)), j _ h4.2.1 (hm _ (by simp))⟩
 | ar s f a i j =>
  intro d h hn
  rw [GE.tm] at h hn
  obtain ⟨_, _, _, h4⟩ := W6 h
  rw [E9, E9, Bool.and_eq_true, Bool.and_eq_true] at h4
  have hm := A2c.1 (A1R.1 hn).2
  exact ⟨i _ h4.1 (hm _ (by simp)), j _ h4.2.1 (hm _ (by simp))⟩
 | ite c f a i j k =>
  intro d h hn
  rw [GE.tm] at h hn
  obtain ⟨_, _, _, h4⟩ := W6 h
  rw [E9, E9, E9, Bool.and_eq_true, Bool.and_eq_true, Bool.and_eq_true] at h4
  have hm := A2c.1 (A1R.1 hn).2
  exact ⟨i _ h4.1 (hm _ (by simp)), j _ h4.2.1 (hm _ (by simp)), k _ h4.2.2.1 (hm _ (by simp))⟩
 | pair f a i j =>
  intro d h hn
  rw [GE.tm] at h hn
  obtain ⟨_, _, _, h4⟩ := W6 h
  rw [E9, E9, Bool.and_eq_true, Bool.and_eq_true] at h4
  have hm := A2c.1 (A1R.1 hn).2
  exact ⟨i _ h4.1 (hm _ (by simp)), j _ h4.2.1 (hm _ (by simp))⟩
 | part s e i =>
  intro d h hn
  rw [GE.tm] at h hn
  obtain ⟨_, _, _, h4⟩ := W6 h
  rw [E9, Bool.and_eq_true] at h4
  exact i _ h4.1 (A2c.1 (A1R.1 hn).2 _ (by simp))
 | cast A B l e i =>
  intro d h hn
  rw [GE.tm] at hn
  exact ((A1R.1 hn).1 rfl).elim
theorem B6t {e u : Tm} {t : Ty} (h : A1u e = true) (hu : T3 e = some (u, t)) : NoC u := by
 unfold A1u at h
 rw [Bool.and_eq_true, List.all_eq_true] at h
 unfold T3 at hu
 rw [if_pos h.1] at hu
 split at hu
 ·rename_i u' t' l' he
  cases hu
  exact (B6r e 1 [] 0 u t l' ((A0a e).1 h.1).1 A23 (fun x u hx => by simp [W3, X1] at hx) (fun u hu => of_decide_eq_true (h.2 u hu)) he).1
 ·cases hu
def A0m (e : Tm) (fuel : Int) : ByteArray × Int × Int := if (N9 e || J3 e) = true then (if (Q4 (H8 e) fuel).2.1 = 0 then (U3 (Q4 (H8 e) fuel).1, 0, (Q4 (H8 e) fuel).2.2) else (⟨⟨[]⟩⟩, (Q4 (H8 e) fuel).2.1, (Q4 (H8 e) fuel).2.2)) else (⟨⟨[]⟩⟩, 3, 0)
theorem B0Z {e : Tm} {fuel : Int} (h : (N9 e || J3 e) = false) : A0m e fuel = (⟨⟨[]⟩⟩, 3, 0) := by unfold A0m; rw [if_neg (by rw [h]; decide)]
theorem A5u {e : Tm} {fuel : Int} (h : (N9 e || J3 e) = true) (h0 : (Q4 (H8 e) fuel).2.1 = 0) : A0m e fuel = (U3 (Q4 (H8 e) fuel).1, 0, (Q4 (H8 e) fuel).2.2) := by unfold A0m; rw [if_pos h, if_pos h0]
theorem A4d {e : Tm} {fuel : Int} (h : (N9 e || J3 e) = true) (h0 : (Q4 (H8 e) fuel).2.1 ≠ 0) : A0m e fuel = (⟨⟨[]⟩⟩, (Q4 (H8 e) fuel).2.1, (Q4 (H8 e) fuel).2.2) := by unfold A0m; rw [if_pos h, if_neg h0]
theorem B6u {e : Tm} {fuel : Int} (h : (A0d e fuel).2.1 = 0) : (A0m e 300).2.1 = 4 ∨ ((A0m e 300).2.1 = 0 ∧ (A0m e 300).1 = (A0d e fuel).1) := by
 obtain ⟨hv, h1⟩ := B6e h
 have hok : (N9 e || J3 e) = true := by rw [hv]; rfl
 rcases h1 with h1 | ⟨h1, h2, _⟩
 ·rw [A4d hok (by omega)]; exact .inl h1
 ·rw [A5u hok h1]; exact .inr ⟨rfl, h2⟩
theorem B6v {e : Tm} (h : A1u e = true) (ht : (U4 e).isSome = true) (fuel : Int) : (A0m e fuel).2.1 ≠ 2 ∧ (A0m e fuel).2.1 = (A0d e fuel).2.1 ∧ (A0m e fuel).1 = (A0d e fuel).1 := by
 have hv : N9 e = true := A5r ht
 have hok : (N9 e || J3 e) = true := by rw [hv]; rfl
 obtain ⟨u, t, hu⟩ := B48 ht
 have hn := B6t h hu
 obtain ⟨g, A, g', A', rfl, rfl, hP⟩ := B0L hu
 have hc := (A6P hu).1
 have hl := B6s g 1 ((A1I _).1 hc).1 hn
 have hb : H8 e = g.er.tm := by rw [← B0N hu, B0M]
 by_cases hf : 0 ≤ fuel ∧ fuel ≤ 300
 ·have hE : S3 g.tm fuel = ((N4 fuel.toNat g.tm).1, (N4 fuel.toNat g.tm).2.1, (N4 fuel.toNat g.tm).2.2.1) := by unfold S3; rw [if_pos hf]
  have hB : Q4 (H8 e) fuel = ((I4 fuel.toNat g.er.tm).1, (I4 fuel.toNat g.er.tm).2.1, (I4 fuel.toNat g.er.tm).2.2.1) := by unfold Q4; rw [if_pos hf, hb]
  obtain ⟨l1, l2, l3, l4⟩ := B6i fuel.toNat hP hl hc
  by_cases h0 : (N4 fuel.toNat g.tm).2.1 = 0
  ·rw [A6X hu (by rw [hE]; exact h0), A5u hok (by rw [hB]; exact l1.trans h0), hE, hB]
   exact ⟨by show (0 : Int) ≠ 2; decide, rfl, l3 h0⟩
  ·rw [A5j hu (by rw [hE]; exact h0), A4d hok (by rw [hB]; exact fun hc => h0 (l1.symm.trans hc)), hE, hB]
   exact ⟨by show (I4 fuel.toNat g.er.tm).2.1 ≠ 2; rw [l1]; exact l2, l1, rfl⟩
 ·have hE : S3 g.tm fuel = S8 := by unfold S3; rw [if_neg hf]
  have hB : Q4 (H8 e) fuel = (F4, 3, 0) := by unfold Q4; rw [if_neg hf]
  rw [A5j hu (by rw [hE]; show (3 : Int) ≠ 0; decide), A4d hok (by rw [hB]; show (3 : Int) ≠ 0; decide), hE, hB]
  exact ⟨by show (3 : Int) ≠ 2; decide, rfl, rfl⟩
theorem B6w (t : Tm) (G : IM) (cells : List Value) (hl : cells.length = 9) (ho : cells.all (·.oneCell') = true) (h : Fn Tryz.prog 245 [.agg ⟨cells⟩] [] G (H0 (.bool (M6 t)) G)) :
  Fn Tryz.prog 260 [.agg ⟨cells⟩] [] G (U6 (.bool (!M6 t)) [] G) := by
 refine B2 Tryz.func260 rfl Tryz.ntmps260 Tryz.results260 rfl ?_
 intro w0
 refine tS (tR ?_)
 refine sE (B9 rfl rfl) rfl (fun b3 => ?_)
 refine sQ (qA rfl) rfl (sD (nS (tS (tR ?_))))
 refine sL (A1 rfl rfl (A9 (by repeat first | exact mH | apply mT)) hl) rfl rfl ?_
 refine H3 rfl (h) rfl rfl ?_
 refine sQ (A1A rfl) rfl ?_
 refine sQ (qA rfl) rfl (sD (nS (tT (D9 (rT rfl) ?_))))
 (exact ⟨rfl, rfl, rfl⟩)
theorem B00 {k : Int} {nm : ByteArray} {num : Int} {ty fr : Ty} {lb : Int} {ks : List Tm} {A : Bool} (h : ks.all M6 = A) (h1 : k ≠ 14) (h2 : k ≠ 5 ∨ ty.k = 1) : M6 (.mk k nm num ty fr lb ks) = A := by
 rw [M6, decide_eq_true ⟨h1, h2⟩, A6Y, h, Bool.true_and]
theorem B01 {k : Int} {nm : ByteArray} {num : Int} {ty fr : Ty} {lb : Int} {ks : List Tm} (h : ¬(k ≠ 14 ∧ (k ≠ 5 ∨ ty.k = 1))) : M6 (.mk k nm num ty fr lb ks) = false := by
 rw [M6, decide_eq_false h, Bool.false_and]
theorem B6x : ∀ (t : Tm) (G : IM) (cells : List Value), A8 G t cells → Fn Tryz.prog 245 [.agg ⟨cells⟩] [] G (H0 (.bool (M6 t)) G) := by
 refine Tm.ind fun k nm num ty fr lb ks ih G cells hr => ?_
 obtain ⟨A, hA⟩ : ∃ A, ks.all M6 = A := ⟨_, rfl⟩
 have hy := @B00 k nm num ty fr lb ks A hA
 have hn := @B01 k nm num ty fr lb ks
 generalize M6 (.mk k nm num ty fr lb ks) = R at hy hn ⊢
 obtain ⟨tk, tks⟩ := ty
 obtain ⟨fk, fks⟩ := fr
 rw [show (Ty.mk tk tks).k = tk from rfl] at hy hn
 obtain ⟨pt, ct, pf, cf, p, c, es, rfl, hk, hnum, hlb, hty, hfr, hsl, hkl⟩ := hr.open9
 have hC := A9x G p ks.length c es hsl 260 [] [] [] M6 ks rfl hA (fun i e he => by
  have hx := hkl.inv he F4
  exact B6w _ G e hx.2.len hx.2.one (ih _ hx.1 G e hx.2))
 refine B2 Tryz.func245 rfl Tryz.ntmps245 Tryz.results245 rfl ?_
 intro w0
 refine tS (tR ?_)
 refine sE (B9 rfl rfl) rfl (fun b3 => ?_)
 refine C2 ?_
 refine sB (M7 rfl rfl) rfl rfl (fun h11 => ?_) (fun h11 => ?_)
 refine K3 ?_
 refine sB (M7 rfl rfl) rfl rfl (fun h15 => ?_) (fun h15 => ?_)
 refine I9 ?_
 refine A1D rfl hC Z6 rfl rfl ?_
 refine sQ (A1A rfl) rfl ?_
 refine J8 ?_
 (exact ⟨rfl, by rw [hy (by omega) (by omega)]; cases A <;> rfl, rfl⟩)
 refine F0 ?_
 refine sB (qE rfl rfl) rfl rfl (fun h39 => ?_) (fun h39 => ?_)
 refine R1 ?_
 refine A1D rfl hC Z6 rfl rfl ?_
 refine sQ (A1A rfl) rfl ?_
 refine J8 ?_
 (exact ⟨rfl, by rw [hy (by omega) (by omega)]; cases A <;> rfl, rfl⟩)
 refine J9 ?_
 (exact ⟨rfl, by rw [hn (by omega)], rfl⟩)
 refine A5O ?_
 (exact ⟨rfl, by rw [hn (by omega)], rfl⟩)
theorem B02 (t : Tm) (G : IM) (cells : List Value) (hr : A8 G t cells) : Fn Tryz.prog 226 [.agg ⟨cells⟩] [] G (H0 (.bool (M9 t)) G) := by
 have hRl := hr.len
 have hRo := hr.one
 have hV := A4F t G cells hr
 have hB := B6x t G cells hr
 unfold M9
 generalize J3 t = a at hV ⊢
 generalize M6 t = b at hB ⊢
 refine B2 Tryz.func226 rfl Tryz.ntmps226 Tryz.results226 rfl ?_
 intro w0
 refine tS (tR ?_)
 refine sE (B9 rfl rfl) rfl (fun b3 => ?_)
 refine sQ (qA rfl) rfl (sD (nS (tS (tR ?_))))
 refine sL (A1 rfl rfl (A9 (by repeat first | exact mH | apply mT)) hRl) rfl rfl ?_
 refine D8 rfl (hV) rfl rfl (fun h10 => ?_) (fun h10 => ?_)
 refine sQ (qM rfl) rfl ?_
 refine sL (A1 rfl rfl (A9 (by repeat first | exact mH | apply mT)) hRl) rfl rfl ?_
 refine D8 rfl (hB) rfl rfl (fun h13 => ?_) (fun h13 => ?_)
 refine J8 ?_
 (simp_all; exact ⟨rfl, rfl, rfl⟩)
 refine J8 ?_
 (simp_all; exact ⟨rfl, rfl, rfl⟩)
 refine D4 ?_
 (simp_all; exact ⟨rfl, rfl, rfl⟩)
theorem B6y (t : Tm) (G : IM) (cells : List Value) (hr : A8 G t cells) : Fn Tryz.prog 246 [.agg ⟨cells⟩] [] G (H0 (.int .i64 (A2e t.k)) G) := by
 obtain ⟨k, nm, num, ⟨tk, tks⟩, ⟨fk, fks⟩, lb, ks⟩ := t
 obtain ⟨pt, ct, pf, cf, p, c, es, rfl, hk, hnum, hlb, hty, hfr, hsl, hkl⟩ := hr.open9
 rw [show (Tm.mk k nm num (.mk tk tks) (.mk fk fks) lb ks).k = k from rfl]
 have hw : ∀ v : Int, (k = 6 → v = 1) → (k = 7 ∨ k = 8 → v = 2) → (k = 9 → v = 3) → (k = 11 ∨ k = 12 → v = 4) → (k ≠ 6 → k ≠ 7 → k ≠ 8 → k ≠ 9 → k ≠ 11 → k ≠ 12 → v = 5) → A2e k = v := by
  intro v h1 h2 h3 h4 h5
  unfold A2e
  repeat' split
  all_goals first | exact (h1 (by assumption)).symm | exact (h2 (by assumption)).symm | exact (h3 (by assumption)).symm | exact (h4 (by assumption)).symm | exact (h5 (by omega) (by omega) (by omega) (by omega) (by omega) (by omega)).symm
 refine B2 Tryz.func246 rfl Tryz.ntmps246 Tryz.results246 rfl ?_
 intro w0
 refine tS (tR ?_)
 refine sE (B9 rfl rfl) rfl (fun b3 => ?_)
 refine I9 ?_
 refine B4 (tS (tR (sB (qE rfl rfl) rfl rfl (fun h17 => ?_) (fun h17 => ?_))))
 refine J9 ?_
 (exact ⟨rfl, congrArg (Value.int .i64) (Eq.symm (hw _ (by omega) (by omega) (by omega) (by omega) (by omega))), rfl⟩)
 refine sQ (qA rfl) rfl (sD (nS (cF rfl (tS (tS (tR ?_))))))
 refine sB (qE rfl rfl) rfl rfl (fun h39 => ?_) (fun h39 => ?_)
 refine K4 ?_
 (exact ⟨rfl, congrArg (Value.int .i64) (Eq.symm (hw _ (by omega) (by omega) (by omega) (by omega) (by omega))), rfl⟩)
 refine sQ (qA rfl) rfl (sD (nS (cF rfl (tR ?_))))
 refine sB (qE rfl rfl) rfl rfl (fun h62 => ?_) (fun h62 => ?_)
 refine J9 ?_
 (exact ⟨rfl, congrArg (Value.int .i64) (Eq.symm (hw _ (by omega) (by omega) (by omega) (by omega) (by omega))), rfl⟩)
 refine sQ (qA rfl) rfl (sD (nS (cF rfl (tS (tR ?_)))))
 refine sB (qE rfl rfl) rfl rfl (fun h83 => ?_) (fun h83 => ?_)
 refine J9 ?_
 (exact ⟨rfl, congrArg (Value.int .i64) (Eq.symm (hw _ (by omega) (by omega) (by omega) (by omega) (by omega))), rfl⟩)
 refine sQ (qA rfl) rfl (sD (nS (cF rfl (tS (tS (tR ?_))))))
 refine sB (qE rfl rfl) rfl rfl (fun h105 => ?_) (fun h105 => ?_)
 refine K4 ?_
 (exact ⟨rfl, congrArg (Value.int .i64) (Eq.symm (hw _ (by omega) (by omega) (by omega) (by omega) (by omega))), rfl⟩)
 refine sQ (qA rfl) rfl (sD (nS (cF rfl (tR ?_))))
 refine sB (qE rfl rfl) rfl rfl (fun h128 => ?_) (fun h128 => ?_)
 refine J9 ?_
 (exact ⟨rfl, congrArg (Value.int .i64) (Eq.symm (hw _ (by omega) (by omega) (by omega) (by omega) (by omega))), rfl⟩)
 refine J2 ?_
 (exact ⟨rfl, congrArg (Value.int .i64) (Eq.symm (hw _ (by omega) (by omega) (by omega) (by omega) (by omega))), rfl⟩)
theorem B6z {k : Int} {ks : List Tm} (h : P2 k ks = none) : U5 k ks = (F4, 2, A2e k) := A2f h
theorem B6A : ∀ (t : Tm) (G : IM) (cells : List Value), cv t → C8 t = false → M6 t = true → A8 G t cells → Fn Tryz.prog 227 [.agg ⟨cells⟩] [] G (Q9 (H1 t)) := by
 refine Tm.ind fun k nm num ty fr lb ks ih G cells hc hv hb hr => ?_
 have hr0 := hr
 have hN := hc.node.1
 have hkk := hc.node.2
 have hkb := (X0.1 hb).2
 have hsm := A12 _ hc
 obtain ⟨_, _, _, _, hksm⟩ := A0y.1 hsm
 have hops := hN.ops
 have hle3 := A1L k
 have hkd := @A6J k nm num ty fr lb ks hc hv
 have hrd := @B0i k nm num ty fr lb ks
 have hkidS := fun (i : Nat) => @B5l k nm num ty fr lb ks i
 have hRA := fun h => @A9G k nm num ty fr lb ks G cells hc h hr
 have hW := fun (G1 : IM) (hle : B6 G G1) => B6y _ G1 cells (hr.mono hle)
 have hCt := A9J _ G _ hr
 rw [show (Tm.mk k nm num ty fr lb ks).k = k from rfl] at hW
 rw [show (Tm.mk k nm num ty fr lb ks).k = k from rfl, show (Tm.mk k nm num ty fr lb ks).ks = ks from rfl] at hCt
 obtain ⟨C, hC⟩ : ∃ C : Nat, (if k = 9 then 1 else ks.length : Nat) = C := ⟨_, rfl⟩
 rw [hC] at hCt hkd hrd
 have hkidS' := fun (i : Nat) (hi : i < ks.length) (hn : i < C) => hkidS i hi (by rw [hC]; exact hn)
 have hC9 : C ≤ ks.length := by rw [← hC]; split; (have : C7 k = 3 := by (rename_i h9; rw [h9]; rfl)); omega; omega
 obtain ⟨tk, tks⟩ := ty
 obtain ⟨fk, fks⟩ := fr
 obtain ⟨pt, ct, pf, cf, p, c, es, rfl, hk, hnum, hlb, hty, hfr, hsl, hkl⟩ := hr.open9
 have hn := hsl.le
 have hnc := hsl.sl.2.1
 refine B2 Tryz.func227 rfl Tryz.ntmps227 Tryz.results227 rfl ?_
 intro w0
 refine tS (tR ?_)
 refine sE (B9 rfl rfl) rfl (fun b3 => ?_)
 refine sE (A5 rfl) rfl (fun b4 => ?_)
 refine sQ (qA rfl) rfl (sQ (qA rfl) rfl (sD (nS (tS (tS ?_)))))
 refine E1 E2 rfl ?_
 refine J5 (i := 0) (l' := [tt,ff,ff,ff,ff,ff,ff]) rfl D5 (B1 rfl) rfl (by kernel_rfl) rfl rfl ?_
 refine aL 1 rfl (C0 rfl rfl) rfl ?_
 refine aL 2 rfl (A2 rfl rfl) rfl ?_
 refine aP 6 rfl (qM rfl) rfl ?_
 refine A3 3 ?_
 refine P6 rfl rfl (hCt) rfl rfl rfl ?_
 refine aP 4 rfl (A55 (l := C) rfl rfl rfl (by omega)) rfl ?_
 refine aP 5 rfl (pLn rfl rfl) rfl ?_
 refine C5 (nS ?_)
 refine B4 ?_
 (refine K9 (fun (i : Nat) => ⟨[(19, .int .i64 (i : Int)), (18, .int .i64 (C : Int)), (17, .slice p C c), (1, .pointer (some ⟨b3, 0, none⟩)), (2, .pointer (some ⟨b4, 0, none⟩))], [.blk b4 [.int .i64 0, .string ⟨⟨[]⟩⟩, .int .i64 0, .int .i64 0, .slice none 0 0, .int .i64 0, .slice none 0 0, .int .i64 0, .slice none 0 0], .blk b3 [.int .i64 k, .string nm, .int .i64 num, .int .i64 tk, .slice pt tks.length ct, .int .i64 fk, .slice pf fks.length cf, .int .i64 lb, .slice p ks.length c]], G⟩) (fun i => i ≤ C ∧ ∀ j, j < i → (h : j < ks.length) → C8 ks[j] = true) (fun i => C - i) 0 ?_ ?_ ?_)
 exact D1
 (exact ⟨Nat.zero_le _, fun j hj => absurd hj (Nat.not_lt_zero j)⟩)
 (rintro i ⟨hi, hj⟩)
 refine tS (tR ?_)
 refine sB (K6 rfl rfl) rfl rfl (fun h29 => ?_) (fun h29 => ?_)
 refine sD (nS (tS (qT rfl (tK (nS (tS ?_))))))
 refine B4 ?_
 refine tS (tR (sQ (qM rfl) rfl ?_))
 (have hiC : i < C := (by omega); obtain ⟨bx, ox, e, rfl, hl, hat, hre, hgb⟩ := hsl.kidTm hkl (i := i) (by omega) (by omega); have heo := hre.one; have hVi := A5a ks[i] G e hre; refine sP (B3 (j := i) rfl rfl rfl hiC) rfl rfl ?_)
 refine sL (A1 rfl rfl (hat _) hl) rfl rfl ?_
 refine sE (A5 rfl) rfl (fun b43 => ?_)
 refine sQ (qA rfl) rfl ?_
 refine sS rfl rfl rfl hl heo rfl ?_ (hu := by exact C3 hl.symm)
 refine sD (nS (tS (tS (tR ?_))))
 refine sL (A1 rfl rfl (A9 (by repeat first | exact mH | apply mT)) hl) rfl rfl ?_
 refine D8 rfl (hVi) rfl rfl (fun h52 => ?_) (fun h52 => ?_)
 refine D3 ?_
 refine sP (K2 rfl rfl (by omega) (by omega)) rfl rfl ?_
 refine sQ (qM rfl) rfl (sD ?_)
 refine K7 (i + 1) ?_ ?_ ?_
 exact D1
 (exact ⟨by omega, fun j hji hl2 => (by by_cases he : j = i; (subst he; assumption); exact hj j (by omega) hl2)⟩)
 (show C - (i + 1) < C - i; omega)
 refine sD (nS (cF rfl (tK (nS (tS (tR ?_))))))
 refine sL (A1 rfl rfl (A9 (by repeat first | exact mH | apply mT)) hl) rfl rfl ?_
 (have hvF : C8 ks[i] = false := (by assumption); obtain ⟨hs1, hs2, hs3⟩ := hkidS' i (by omega) hiC (fun j hji hl2 => hj j hji hl2) hvF; refine E0 rfl (ih ks[i] (List.getElem_mem (by omega)) G e (hkk _ (List.getElem_mem (by omega))) hvF (hkb _ (List.getElem_mem (by omega))) hre) rfl rfl (fun v G1 hle1 hh => ?_); obtain ⟨u, uc, rfl, hru, hu1⟩ := hh; have hul := hru.len; have huo := hru.one; have hClo := A9f G1 _ ks.length c es (hsl.mono hle1) (by omega) (by omega))
 refine F0 ?_
 refine sE (A5 rfl) rfl (fun b81 => ?_)
 refine sS rfl rfl rfl hul huo rfl ?_ (hu := by exact C3 hul.symm)
 refine C2 ?_
 refine sE (A5 rfl) rfl (fun b90 => ?_)
 refine C2 ?_
 (refine A2r rfl hClo rfl rfl (fun v98 G98 outs98 hle98 h98 => ?_); obtain ⟨hG, p1, c1, rfl, rfl⟩ := h98; replace hG := hG.symm; subst hG; refine A3R (cs := es.flatten) (by repeat (first | exact Pk.here | apply Pk.there)) (by omega) (fun bc Cc hpe hnc1 hcm => ?_); subst hpe)
 replace hru := hru.mono hle98
 refine D4 ?_
 refine sL (A1 rfl rfl (A9 (by repeat first | exact mH | apply mT)) hul) rfl rfl ?_
 refine sP (B3 (j := i) rfl rfl rfl (by omega)) rfl rfl ?_
 refine X7 rfl rfl rfl hul huo rfl (by repeat first | exact Sw.here | apply Sw.there) (by exact A3S (by rw [hkl.len]; omega) (fun e he => (hsl.all e he)) hul) ?_
 refine N6 ?_
 (refine A2P (bs := [(bc, (es.set i uc).flatten ++ Cc)]) (Pk.perm (by repeat (first | exact Pk.here | apply Pk.there))) (fun hn2 hd2 hle2 => ?_))
 refine tT (rB (rS (A2G (rB (rS ?_)))))
 refine C4 (rC rfl (A2 rfl rfl)) (rT rfl) (rT rfl) ?_
 (have hks2 := D7.set (j := i) ((hkl.mono hle1).mono hle2) (hru.mono hle2); refine A6K (r' := S8) hs1 hs2 (A8.put (us := ks.set i u) (es := es.set i uc) hk hnum hlb ((hty.mono hle1).mono hle2) ((hfr.mono hle1).mono hle2) (by rw [List.length_set]) (D0.of (Sl.of_blk (A := []) (by rw [A1d hks2.all, hks2.len, List.length_set]) (by omega) hcm (Wi.in hn2 List.mem_cons_self)) (by rw [hks2.len, List.length_set]) hks2.all (fun e he => by obtain ⟨q, hq⟩ := List.getElem?_of_mem he; exact (hks2.inv hq F4).2.one)) hks2) (fun h1 => by rw [hs3 h1, hu1 h1]))
 refine N6 ?_
 focus (have hall : ∀ i, i < C → (hl : i < ks.length) → C8 ks[i] = true := (fun j hjc hl2 => hj j (by omega) hl2); have hk8 := hkd hall; have hrd' := hrd hall; refine E0 rfl (hRA hk8) rfl rfl (fun v G1 hle1 hh => ?_); obtain ⟨u, uc, cc, rfl, hru, hy, hno⟩ := hh; have hul := hru.len; have huo := hru.one; rcases hm : P2 k ks with _ | x; rotate_left; obtain ⟨rfl, rfl⟩ := hy _ hm; rotate_left; obtain rfl := hno hm)
 refine K3 ?_
 refine sE (A5 rfl) rfl (fun b148 => ?_)
 refine sS rfl rfl rfl hul huo rfl ?_ (hu := by exact C3 hul.symm)
 refine C2 ?_
 refine sP (A0f rfl rfl (by omega)) rfl rfl ?_
 refine C2 ?_
 refine H3 rfl ((hW _ hle1)) rfl rfl ?_
 refine C2 ?_
 refine C4 (rC rfl (A2 rfl rfl)) (rT rfl) (rT rfl) ?_
 (rw [hrd', B6z hm]; exact Q9.mk rfl (L7 _))
 refine K3 ?_
 refine sE (A5 rfl) rfl (fun b178 => ?_)
 refine sS rfl rfl rfl hul huo rfl ?_ (hu := by exact C3 hul.symm)
 refine C2 ?_
 refine sP (A0Y rfl rfl (by omega)) rfl rfl ?_
 refine sD (nS (cF rfl (tK (nS (tS (tR ?_))))))
 refine sL (A1 rfl rfl (A9 (by repeat first | exact mH | apply mT)) hul) rfl rfl ?_
 refine sQ (qM rfl) rfl ?_
 refine sS rfl rfl rfl hul huo rfl ?_ (hu := by exact C3 hul.symm)
 refine sQ (qA rfl) rfl (sQ (qA rfl) rfl (sD (nS (tT ?_))))
 refine C4 (rC rfl (A1 rfl rfl (A9 (by repeat first | exact mH | apply mT)) hul)) (rT rfl) (rT rfl) ?_
 (rw [hrd', A09 hm]; exact Q9.mk rfl hru)
theorem B6B (t : Tm) (G : IM) (cells : List Value) (hr : A8 G t cells) : Fn Tryz.prog 189 [.agg ⟨cells⟩] [] G (K5 (H2 t)) := by
 have hRl := hr.len
 have hRo := hr.one
 have hV := B02 t G cells hr
 have hI := A5a t G cells hr
 refine B2 Tryz.func189 rfl Tryz.ntmps189 Tryz.results189 rfl ?_
 intro w0
 refine tS (tR ?_)
 refine sE (B9 rfl rfl) rfl (fun b3 => ?_)
 refine sE (A5 rfl) rfl (fun b4 => ?_)
 refine sQ (qA rfl) rfl (sQ (qA rfl) rfl (sD (nS (tS ?_))))
 refine B4 ?_
 refine tS (tR ?_)
 refine sL (A1 rfl rfl (A9 (by repeat first | exact mH | apply mT)) hRl) rfl rfl ?_
 refine D8 rfl (hV) rfl rfl (fun h14 => ?_) (fun h14 => ?_)
 refine C2 ?_
 refine sL (A1 rfl rfl (A9 (by repeat first | exact mH | apply mT)) hRl) rfl rfl ?_
 refine D8 rfl (hI) rfl rfl (fun h23 => ?_) (fun h23 => ?_)
 refine sQ (qA rfl) rfl (sD (nS (qT rfl (tS (tR ?_)))))
 refine sL (A1 rfl rfl (A9 (by repeat first | exact mH | apply mT)) hRl) rfl rfl ?_
 (refine E0 rfl (A3L t G cells (A28 (A0S (by assumption)).1) hr) rfl rfl (fun v G1 hle1 hh => ?_); obtain ⟨cs1, F1, rfl, hs1, hn1⟩ := hh; have hul := hs1.R.len; have huo := hs1.R.one)
 refine sS rfl rfl rfl hul huo rfl ?_ (hu := by exact C3 hul.symm)
 refine C2 ?_
 refine C4 (rC rfl (A1 rfl rfl (A9 (by repeat first | exact mH | apply mT)) hul)) (rT rfl) (rT rfl) ?_
 (exact K5.mk (A3d (by assumption) (by assumption)) (hs1.R.mono (C1.le _ _)))
 refine D4 ?_
 refine sL (A1 rfl rfl (A9 (by repeat first | exact mH | apply mT)) hRl) rfl rfl ?_
 (have hbv := A0S (e := t) (by assumption); refine E0 rfl (B6A t G cells (A0Q hbv.1).1 (by assumption) hbv.2 hr) rfl rfl (fun v G1 hle1 hh => ?_); obtain ⟨u, uc, rfl, hru, hu1⟩ := hh; have hul := hru.len; have huo := hru.one; have hVu := B02 u G1 uc hru)
 refine F0 ?_
 refine sE (A5 rfl) rfl (fun b57 => ?_)
 refine sS rfl rfl rfl hul huo rfl ?_ (hu := by exact C3 hul.symm)
 refine sQ (qA rfl) rfl (sQ (qA rfl) rfl (sD (nS (tS ?_))))
 refine B4 ?_
 refine tS (tR (sQ (qM rfl) rfl ?_))
 refine sB (M7 rfl rfl) rfl rfl (fun h68 => ?_) (fun h68 => ?_)
 refine T0 ?_
 refine C4 (rC rfl (A2 rfl rfl)) (rT rfl) (rT rfl) ?_
 (exact K5.mk (A61 (by assumption) (by assumption) (by omega)) (L7 _))
 refine sQ (qA rfl) rfl (sD (nS (cF rfl (tS (tR ?_)))))
 refine sL (A1 rfl rfl (A9 (by repeat first | exact mH | apply mT)) hul) rfl rfl ?_
 refine D8 rfl (hVu) rfl rfl (fun h95 => ?_) (fun h95 => ?_)
 refine I9 ?_
 refine sL (A1 rfl rfl (A9 (by repeat first | exact mH | apply mT)) hul) rfl rfl ?_
 (refine E0 rfl (A3L u G1 uc (A28 (A0S (by assumption)).1) hru) rfl rfl (fun v G2 hle2 hh => ?_); obtain ⟨cs2, F2, rfl, hs2, hn2⟩ := hh; have hwl := hs2.R.len; have hwo := hs2.R.one)
 refine sS rfl rfl rfl hwl hwo rfl ?_ (hu := by exact C3 hwl.symm)
 refine sQ (qA rfl) rfl (sQ (qA rfl) rfl (sD (nS (tT ?_))))
 refine C4 (rC rfl (A1 rfl rfl (A9 (by repeat first | exact mH | apply mT)) hwl)) (rT rfl) (rT rfl) ?_
 (have h9 := hu1 (by omega); subst h9; exact K5.mk (A3f (by assumption) (by assumption) (by omega) (by assumption)) (hs2.R.mono (C1.le _ _)))
 refine K4 ?_
 refine C4 (rC rfl (A2 rfl rfl)) (rT rfl) (rT rfl) ?_
 (have h9 := hu1 (by omega); subst h9; exact K5.mk (A3e (by assumption) (by assumption) (by omega) (by assumption)) (L7 _))
 refine K4 ?_
 refine C4 (rC rfl (A2 rfl rfl)) (rT rfl) (rT rfl) ?_
 (exact K5.mk (A60 (by assumption)) (L7 _))
end Gw
end Go.Proofs.YtfpgncjeejickaaGreatDoor
