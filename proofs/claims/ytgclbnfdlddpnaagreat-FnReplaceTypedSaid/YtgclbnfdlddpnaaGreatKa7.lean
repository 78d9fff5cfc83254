/-
  The program's functions on types and contexts: each computes what the plain words say. Nodes replaced: the program's put, the reference model's l16Replace. The reference model's replacing of nodes. What a node wants of its operands. The type of a term with casts.
-/
import Derived.Test.YtgclbnfdlddpnaaGreatKa6
import Derived.Test.YtgclbnfdlddpnaaGreatKa1
import Derived.Test.YtgclbnfdlddpnaaGreatKa2
import Derived.Test.YtgclbnfdlddpnaaGreatKa4
import Derived.Test.YtgclbnfdlddpnaaGreatKa5
namespace Go.Proofs.YtgclbnfdlddpnaaGreat
open Go Go.RowKit
namespace Gw
/-- The type u is given back. -/
def RetTy (u : Ty) (G : IM) : IM → Value → List Ent → Prop := Imm fun G' v => ∃ cells, v = .agg ⟨cells⟩ ∧ RTy G' u cells
/-- A type, if there is one. -/
def TyOk (r : Option Ty) (G : IM) : IM → Value → List Ent → Prop := Imm fun G' v => ∃ cells u, v = .tuple ⟨[.agg ⟨cells⟩, .bool r.isSome]⟩ ∧ RTy G' u cells ∧ ∀ t, r = some t → u = t
theorem ty2_mk {G : IM} {k : Int} {a b : Ty} {ca cb : List Value} {p : Option Addr} {c : Nat} (hk : I64 k) (ha : RTy G a ca) (hb : RTy G b cb) (hs : Sl G p 2 c 2 (ca ++ cb)) : RTy G (.mk k [a, b]) [.int .i64 k, .slice p 2 c] := by
 have hL : RTyL G [a, b] [ca, cb] := by simp only [RTyL]; exact ⟨ca, [cb], rfl, ha, cb, [], rfl, hb, rfl⟩
 exact RTyL.ty (ts := [a, b]) (es := [ca, cb]) hL rfl (by simpa using hs) hk
set_option maxRecDepth 100000 in
theorem typeSameX_fn : ∀ (t t' : Ty) (G : IM) (cells cells' : List Value), RTy G t cells → RTy G t' cells' → Fn Tryz.prog 11 [.agg ⟨cells⟩, .agg ⟨cells'⟩] [] G (Val (.bool (tSame t t')) G) := by
 refine Ty.ind fun k ks ih t' G cells cells' hr hr' => ?_
 obtain ⟨k', ks'⟩ := t'
 obtain ⟨p, c, es, rfl, hk, hsl, hkl⟩ := hr.open
 obtain ⟨p', c', es', rfl, hk', hsl', hkl'⟩ := hr'.open
 simp only [Ty.k, Ty.ks] at hk hsl hkl hk' hsl' hkl' ⊢
 obtain ⟨A, hA⟩ : ∃ A, tSameL ks ks' = A := ⟨_, rfl⟩
 have hA' : A = true ↔ ks.length = ks'.length ∧ ∀ i, i < ks.length → tSame (ks.getD i ty0) (ks'.getD i ty0) = true := by
  rw [← hA, tSameL_iff]
  constructor
  ·rintro ⟨h1, h2⟩
   refine ⟨h1, fun i hi => ?_⟩
   have := h2 i hi (by omega)
   simpa [List.getD_eq_getElem?_getD, List.getElem?_eq_getElem hi, List.getElem?_eq_getElem (show i < ks'.length by omega)] using this
  ·rintro ⟨h1, h2⟩
   refine ⟨h1, fun i hi hi' => ?_⟩
   have := h2 i hi
   simpa [List.getD_eq_getElem?_getD, List.getElem?_eq_getElem hi, List.getElem?_eq_getElem hi'] using this
 refine fn_enter Tryz.func11 rfl Tryz.ntmps11 Tryz.results11 rfl ?_
 intro w0
 refine tri_seq (tri_region ?_)
 (refine seq_step (step_box_a rfl rfl) rfl ?_; rintro _ ⟨b3, rfl⟩)
 (refine seq_step (step_box_a rfl rfl) rfl ?_; rintro _ ⟨b4, rfl⟩)
 refine seq_pure (pure_assign rfl) rfl rfl ?_
 refine seq_done (nrm_seq (tri_seq (tri_region (seq_pure (pure_fieldAddr0 rfl) rfl rfl ?_))))
 refine seq_load (load_bs rfl rfl (by repeat first | exact mH | apply mT) (by rfl)) rfl rfl ?_
 refine seq_pure (pure_fieldAddr0 rfl) rfl rfl ?_
 refine seq_load (load_bs rfl rfl (by repeat first | exact mH | apply mT) (by rfl)) rfl rfl ?_
 refine seq_bool (pure_eql rfl rfl) rfl rfl (fun h14 => ?_) (fun h14 => ?_)
 refine seq_pure (pure_move rfl) rfl rfl ?_
 refine seq_pure (pure_fieldAddr0 rfl) rfl rfl ?_
 refine seq_load (load_bs rfl rfl (by repeat first | exact mH | apply mT) (by rfl)) rfl rfl ?_
 refine seq_pure (pure_fieldAddr0 rfl) rfl rfl ?_
 refine seq_load (load_bs rfl rfl (by repeat first | exact mH | apply mT) (by rfl)) rfl rfl ?_
 refine seq_val rfl (equalFunc_Type _ _ _ _ _ _ _ _ _ hsl hsl' _ [] [] [] (fun i => tSame (ks.getD i ty0) (ks'.getD i ty0)) A hA' (fun i e e' he he' => ih _ (hkl.inv he ty0).1 _ _ _ _ (hkl.inv he ty0).2 (hkl'.inv he' ty0).2)) rfl rfl ?_
 refine seq_pure (pure_pick_t rfl rfl) rfl rfl ?_
 refine seq_pure (pure_assign rfl) rfl rfl ?_
 refine seq_done (nrm_seq (tri_ret (ret_fin1 (res_tmp rfl) ?_)))
 exact ⟨rfl, by rw [tSame_mk, hA]; first | (rw [decide_eq_true (p := k = k') (by omega)]; rfl) | (rw [decide_eq_false (p := k = k') (by omega)]; rfl), rfl⟩
 refine seq_pure (pure_move rfl) rfl rfl ?_
 refine seq_skip rfl rfl ?_
 refine seq_skip rfl rfl ?_
 refine seq_skip rfl rfl ?_
 refine seq_skip rfl rfl ?_
 refine seq_skip rfl rfl ?_
 refine seq_pure (pure_pick_f rfl rfl) rfl rfl ?_
 refine seq_pure (pure_assign rfl) rfl rfl ?_
 refine seq_done (nrm_seq (tri_ret (ret_fin1 (res_tmp rfl) ?_)))
 exact ⟨rfl, by rw [tSame_mk, hA]; first | (rw [decide_eq_true (p := k = k') (by omega)]; rfl) | (rw [decide_eq_false (p := k = k') (by omega)]; rfl), rfl⟩
set_option maxRecDepth 100000 in
theorem both_fn (k : Int) (a b : Ty) (G : IM) (ca cb : List Value) (hk : I64 k) (hra : RTy G a ca) (hrb : RTy G b cb) :
  Fn Tryz.prog 93 [.int .i64 k, .agg ⟨ca⟩, .agg ⟨cb⟩] [] G (RetTy (.mk k [a, b]) G) := by
 obtain ⟨pa, cca, ea, rfl, _⟩ := hra.open
 obtain ⟨pb, ccb, eb, rfl, _⟩ := hrb.open
 refine fn_enter Tryz.func93 rfl Tryz.ntmps93 Tryz.results93 rfl ?_
 intro w0
 refine tri_seq (tri_region ?_)
 (refine seq_step (step_box_a rfl rfl) rfl ?_; rintro _ ⟨b3, rfl⟩)
 (refine seq_step (step_box_a rfl rfl) rfl ?_; rintro _ ⟨b4, rfl⟩)
 (refine seq_step (step_alloc rfl) rfl ?_; rintro _ ⟨b5, rfl⟩)
 refine seq_done (nrm_seq (tri_seq (tri_region (seq_pure (pure_move rfl) rfl rfl ?_))))
 refine seq_load (load_ba rfl rfl (by repeat first | exact mH | apply mT) (by rfl)) rfl rfl ?_
 refine seq_load (load_ba rfl rfl (by repeat first | exact mH | apply mT) (by rfl)) rfl rfl ?_
 (refine seq_step (step_buildSlice rfl rfl rfl (by omega) (by unfold maxLen; omega) rfl) rfl ?_; rintro _ ⟨b13, rfl⟩)
 refine seq_pure (pure_build rfl rfl) rfl rfl ?_
 refine seq_store rfl rfl rfl rfl rfl rfl (by repeat first | exact Sw.here | apply Sw.there) (by rfl) ?_
 refine seq_done (nrm_seq ?_)
 (refine ret_freeze (by repeat (first | exact Pk.here | apply Pk.there)) (fun G5 hle5 hsl5 hno5 => ?_))
 refine tri_ret (ret_fin1 (res_cell rfl (load_ba rfl rfl (by repeat first | exact mH | apply mT) (by rfl))) ?_)
 exact ⟨rfl, _, rfl, ty2_mk hk (hra.mono hle5) (hrb.mono hle5) hsl5⟩
theorem mMatch_mk (k tk : Int) (ks : List Ty) : mMatch k (.mk tk ks) = if tk = k then some (ks.getD 0 ty0, ks.getD 1 ty0) else if tk = 1 then some (tyAny, tyAny) else none := rfl
/-- The operands of a type as one of a kind, and whether they are. -/
def MatchP (k : Int) (t : Ty) (G : IM) : IM → Value → List Ent → Prop := Imm fun G' v => ∃ a ca b cb, v = .tuple ⟨[.agg ⟨ca⟩, .agg ⟨cb⟩, .bool (mMatch k t).isSome]⟩ ∧ RTy G' a ca ∧ RTy G' b cb ∧ tAr a ∧ tAr b ∧ ∀ p, mMatch k t = some p → p = (a, b)
set_option maxRecDepth 100000 in
theorem match_fn (k : Int) (t : Ty) (G : IM) (cells : List Value) (hk : k = 4 ∨ k = 5) (ha : tAr t) (hr : RTy G t cells) :
  Fn Tryz.prog 94 [.agg ⟨cells⟩, .int .i64 k] [] G (MatchP k t G) := by
 obtain ⟨tk, ks⟩ := t
 have ha2 := ha
 rw [tAr] at ha2
 have hkid := ha.kid
 obtain ⟨p, c, es, rfl, htk, hsl, hkl⟩ := hr.open
 simp only [Ty.k, Ty.ks] at htk hsl hkl ⊢
 refine fn_enter Tryz.func94 rfl Tryz.ntmps94 Tryz.results94 rfl ?_
 intro w0
 refine tri_seq (tri_region ?_)
 (refine seq_step (step_box_a rfl rfl) rfl ?_; rintro _ ⟨b3, rfl⟩)
 (refine seq_step (step_alloc rfl) rfl ?_; rintro _ ⟨b4, rfl⟩)
 (refine seq_step (step_alloc rfl) rfl ?_; rintro _ ⟨b5, rfl⟩)
 refine seq_pure (pure_assign rfl) rfl rfl ?_
 refine seq_done (nrm_seq (tri_seq (tri_seq (tri_region (seq_pure (pure_fieldAddr0 rfl) rfl rfl ?_)))))
 refine seq_load (load_bs rfl rfl (by repeat first | exact mH | apply mT) (by rfl)) rfl rfl ?_
 refine seq_done (nrm_seq (tri_block (tri_seq (tri_region (seq_pure (pure_move rfl) rfl rfl ?_)))))
 refine seq_bool (pure_eql rfl rfl) rfl rfl (fun h20 => ?_) (fun h20 => ?_)
 refine seq_pure (pure_assign rfl) rfl rfl ?_
 refine seq_done (nrm_seq (tri_cond_t rfl ?_))
 refine tri_seq ?_
 (have hlen : ks.length = 2 := ha2.1 (by omega); obtain ⟨b, o, q0, d0, hp0, hat0, hre0, hg0⟩ := hsl.kidTy hkl (i := 0) (by omega) (by omega); obtain ⟨b', o', q1, d1, hp1, hat1, hre1, hg1⟩ := hsl.kidTy hkl (i := 1) (by omega) (by omega); subst hp0; cases hp1; refine tri_draw mixed rfl ?_)
 refine any_pure (i := 0) (listed' := [tt,ff,ff,ff,ff,ff,ff,ff,ff,ff,ff]) rfl npI (pure_fieldAddr0 rfl) rfl (by kernel_rfl) rfl rfl ?_
 refine any_load (i := 1) (listed' := [tt,tt,ff,ff,ff,ff,ff,ff,ff,ff,ff]) rfl npI (load_bs rfl rfl (by repeat first | exact mH | apply mT) (by rfl)) rfl (by kernel_rfl) rfl rfl ?_
 refine any_pure (i := 2) (listed' := [tt,tt,tt,ff,ff,ff,ff,ff,ff,ff,ff]) rfl npI (pure_indexAddrN (j := 0) rfl rfl rfl (by omega)) rfl (by kernel_rfl) rfl rfl ?_
 refine any_load (i := 3) (listed' := [tt,tt,tt,tt,ff,ff,ff,ff,ff,ff,ff]) rfl npI (load_a rfl rfl (hat0 _) rfl) rfl (by kernel_rfl) rfl rfl ?_
 refine any_pure (i := 4) (listed' := [tt,tt,tt,tt,tt,ff,ff,ff,ff,ff,ff]) rfl npI (pure_fieldAddr0 rfl) rfl (by kernel_rfl) rfl rfl ?_
 refine any_load (i := 5) (listed' := [tt,tt,tt,tt,tt,tt,ff,ff,ff,ff,ff]) rfl npI (load_bs rfl rfl (by repeat first | exact mH | apply mT) (by rfl)) rfl (by kernel_rfl) rfl rfl ?_
 refine any_pure (i := 6) (listed' := [tt,tt,tt,tt,tt,tt,tt,ff,ff,ff,ff]) rfl npI (pure_indexAddrN (j := 1) rfl rfl rfl (by omega)) rfl (by kernel_rfl) rfl rfl ?_
 refine any_load (i := 7) (listed' := [tt,tt,tt,tt,tt,tt,tt,tt,ff,ff,ff]) rfl npI (load_a rfl rfl (hat1 _) rfl) rfl (by kernel_rfl) rfl rfl ?_
 refine any_one (j := 8) (by kernel_rfl) ?_
 refine one_storeM (listed' := [tt,tt,tt,tt,tt,tt,tt,tt,tt,ff,ff]) rfl rfl rfl rfl rfl rfl rfl rfl (by repeat first | exact Sw.here | apply Sw.there) (by rfl) (by repeat (first | exact HmOk.nil | apply HmOk.dep (by decide +kernel) | apply HmOk.im (by decide +kernel) (by assumption) (by repeat first | exact mH | apply mT) | apply HmOk.blk (by decide +kernel) (by repeat (first | exact Pk.here | apply Pk.there)) (by repeat first | exact mH | apply mT))) ?_
 refine any_one (j := 9) (by kernel_rfl) ?_
 refine one_storeM (listed' := [tt,tt,tt,tt,tt,tt,tt,tt,tt,tt,ff]) rfl rfl rfl rfl rfl rfl rfl rfl (by repeat first | exact Sw.here | apply Sw.there) (by rfl) (by repeat (first | exact HmOk.nil | apply HmOk.dep (by decide +kernel) | apply HmOk.im (by decide +kernel) (by assumption) (by repeat first | exact mH | apply mT) | apply HmOk.blk (by decide +kernel) (by repeat (first | exact Pk.here | apply Pk.there)) (by repeat first | exact mH | apply mT))) ?_
 refine any_pure (i := 10) (listed' := [tt,tt,tt,tt,tt,tt,tt,tt,tt,tt,tt]) rfl npI (pure_assign rfl) rfl (by kernel_rfl) rfl rfl ?_
 refine any_done (by kernel_rfl) ?_
 refine nrm_seq (tri_ret (ret_block (ret_seq (ret_fin3 (res_cell rfl (load_ba rfl rfl (by repeat first | exact mH | apply mT) (by rfl))) (res_cell rfl (load_ba rfl rfl (by repeat first | exact mH | apply mT) (by rfl))) (res_tmp rfl) ?_))))
 (refine ⟨rfl, _, _, _, _, ?_, hre0, hre1, hkid _ (List.getElem_mem (by omega)), hkid _ (List.getElem_mem (by omega)), ?_⟩ <;> rw [mMatch_mk, if_pos (by omega)] <;> first | rfl | (intro p hp; cases hp; simp [hlen]))
 refine seq_pure (pure_assign rfl) rfl rfl ?_
 refine seq_done (nrm_seq (tri_cond_f rfl ?_))
 refine tri_seq (tri_region (seq_bool (pure_eql rfl rfl) rfl rfl (fun h53 => ?_) (fun h53 => ?_)))
 refine seq_pure (pure_assign rfl) rfl rfl ?_
 refine seq_done (nrm_seq (tri_cond_t rfl ?_))
 refine tri_seq (tri_region (seq_val rfl ((base_fn _ _)) rfl rfl ?_))
 refine seq_val rfl ((base_fn _ _)) rfl rfl ?_
 refine seq_store rfl rfl rfl rfl rfl rfl (by repeat first | exact Sw.here | apply Sw.there) (by rfl) ?_
 refine seq_store rfl rfl rfl rfl rfl rfl (by repeat first | exact Sw.here | apply Sw.there) (by rfl) ?_
 refine seq_pure (pure_assign rfl) rfl rfl ?_
 refine seq_done (nrm_seq (tri_ret (ret_block (ret_seq (ret_fin3 (res_cell rfl (load_ba rfl rfl (by repeat first | exact mH | apply mT) (by rfl))) (res_cell rfl (load_ba rfl rfl (by repeat first | exact mH | apply mT) (by rfl))) (res_tmp rfl) ?_)))))
 (refine ⟨rfl, _, _, _, _, ?_, tyAny_r _, tyAny_r _, tAr_any, tAr_any, ?_⟩ <;> rw [mMatch_mk, if_neg (by omega), if_pos (by omega)] <;> first | rfl | (intro p hp; cases hp; rfl))
 refine seq_pure (pure_assign rfl) rfl rfl ?_
 refine seq_done (nrm_seq (tri_cond_f rfl ?_))
 refine tri_skip (nrm_block (nrm_seq (tri_seq (tri_region (seq_pure (pure_build rfl rfl) rfl rfl ?_)))))
 refine seq_pure (pure_build rfl rfl) rfl rfl ?_
 refine seq_store rfl rfl rfl rfl rfl rfl (by repeat first | exact Sw.here | apply Sw.there) (by rfl) ?_
 refine seq_store rfl rfl rfl rfl rfl rfl (by repeat first | exact Sw.here | apply Sw.there) (by rfl) ?_
 refine seq_pure (pure_assign rfl) rfl rfl ?_
 refine seq_done (nrm_seq (tri_ret (ret_fin3 (res_cell rfl (load_ba rfl rfl (by repeat first | exact mH | apply mT) (by rfl))) (res_cell rfl (load_ba rfl rfl (by repeat first | exact mH | apply mT) (by rfl))) (res_tmp rfl) ?_)))
 (refine ⟨rfl, ty0, _, ty0, _, ?_, tyLeaf_r _ ⟨by omega, by omega⟩, tyLeaf_r _ ⟨by omega, by omega⟩, tAr_leaf (by omega) (by omega), tAr_leaf (by omega) (by omega), ?_⟩ <;> rw [mMatch_mk, if_neg (by omega), if_neg (by omega)] <;> first | rfl | (intro p hp; cases hp))
/-- How a context lies in memory. -/
def RBd2 (G : IM) (b : ByteArray × Ty) (e : List Value) : Prop := ∃ q d, e = [.string b.1, .int .i64 b.2.k, .slice q b.2.ks.length d] ∧ RTy G b.2 [.int .i64 b.2.k, .slice q b.2.ks.length d]
theorem RBd2.mono {G G' : IM} {b : ByteArray × Ty} {e : List Value} (h : RBd2 G b e) (hg : IMle G G') : RBd2 G' b e := by
 obtain ⟨q, d, h1, h2⟩ := h
 exact ⟨q, d, h1, h2.mono hg⟩
def RCx (G : IM) (cx : Cx) (p : Option Addr) (n c : Nat) : Prop := n = cx.length ∧ ∃ es : List (List Value), SlE G p n c 3 es ∧ ∀ (i : Nat) (b : ByteArray × Ty), cx[i]? = some b → ∃ e, es[i]? = some e ∧ RBd2 G b e
theorem RCx.mono {G G' : IM} {cx : Cx} {p : Option Addr} {n c : Nat} (h : RCx G cx p n c) (hg : IMle G G') : RCx G' cx p n c := by
 obtain ⟨h1, es, h2, h3⟩ := h
 refine ⟨h1, es, h2.mono hg, fun i b hb => ?_⟩
 obtain ⟨e, he, hr⟩ := h3 i b hb
 exact ⟨e, he, hr.mono hg⟩
theorem RCx.nil (G : IM) : RCx G [] none 0 0 := ⟨rfl, [], SlE.nil _ _, by simp⟩
theorem RCx.le {G : IM} {cx : Cx} {p : Option Addr} {n c : Nat} (h : RCx G cx p n c) : n ≤ 9223372036854775807 := by
 obtain ⟨h1, es, h2, h3⟩ := h
 exact h2.le
theorem RCx.get {G : IM} {cx : Cx} {p : Option Addr} {n c : Nat} (h : RCx G cx p n c) {i : Nat} (hi : i < n) :
  ∃ b o nm t q d, cx[i]? = some (nm, t) ∧ p = some ⟨b, o, none⟩ ∧ (∀ hp, At hp G b (o + i * 3) [.string nm, .int .i64 t.k, .slice q t.ks.length d]) ∧ RTy G t [.int .i64 t.k, .slice q t.ks.length d] ∧ G b ≠ none := by
 obtain ⟨h1, es, h2, h3⟩ := h
 obtain ⟨e, b, o, he, rfl, hl, _, hat, hgb⟩ := h2.get (i := i) (by omega)
 have hx : cx[i]? = some cx[i] := List.getElem?_eq_getElem (by omega)
 obtain ⟨e', he', q, d, h4, h5⟩ := h3 i _ hx
 rw [he] at he'
 obtain rfl := Option.some.inj he'
 rw [h4] at hat
 exact ⟨b, o, cx[i].1, cx[i].2, q, d, hx, rfl, hat, h5, hgb⟩
set_option maxHeartbeats 0 in
set_option maxRecDepth 100000 in
theorem lookup_fn (G : IM) (cx : Cx) (p : Option Addr) (n c : Nat) (nm : ByteArray) (hx : RCx G cx p n c) :
  Fn Tryz.prog 92 [.slice p n c, .string nm] [] G (TyOk (mLook cx nm) G) := by
 have hn := hx.le
 have hn1 := hx.1
 refine fn_enter Tryz.func92 rfl Tryz.ntmps92 Tryz.results92 rfl ?_
 intro w0
 refine tri_seq (tri_region ?_)
 (refine seq_step (step_alloc rfl) rfl ?_; rintro _ ⟨b3, rfl⟩)
 refine seq_pure (pure_assign rfl) rfl rfl ?_
 refine seq_done (nrm_seq (tri_seq (tri_seq (tri_region (seq_pure (pure_move rfl) rfl rfl ?_)))))
 refine seq_pure (pure_len rfl rfl) rfl rfl ?_
 refine seq_pure (pure_sub rfl rfl (by omega) (by omega)) rfl rfl ?_
 refine seq_pure (pure_assign rfl) rfl rfl ?_
 refine seq_done (nrm_seq (tri_block ?_))
 (refine tri_loopN (fun (i : Nat) => ⟨[(6, .int .i64 ((i : Int) - 1)), (0, .slice p n c), (1, .string nm), (4, .pointer (some ⟨b3, 0, none⟩))], [.blk b3 [.int .i64 0, .slice none 0 0]], G⟩) (fun i => i ≤ n ∧ lookN cx nm i = mLook cx nm) (fun i => i) n ?_ ?_ ?_)
 exact sub_mk (by repeat (first | exact SubE.nil | refine SubE.cons rfl ?_)) (by repeat (first | exact SubH.refl | exact SubH.nil | refine SubH.cons (by repeat (first | exact Pk.here | apply Pk.there)) ?_ | apply SubH.drop))
 exact ⟨Nat.le_refl _, by rw [hn1]; rfl⟩
 (rintro i ⟨hi, hlk⟩)
 refine tri_seq (tri_seq (tri_region (seq_pure (pure_move rfl) rfl rfl ?_)))
 refine seq_bool (pure_geq rfl rfl) rfl rfl (fun h25 => ?_) (fun h25 => ?_)
 refine seq_done (nrm_seq (tri_cond_t rfl ?_))
 refine tri_skip (nrm_seq (tri_seq ?_))
 (show Tri _ _ (.block 1 _) _ _; obtain ⟨j, rfl⟩ : ∃ j, i = j + 1 := ⟨i - 1, by omega⟩; rw [show ((j + 1 : Nat) : Int) - 1 = (j : Int) from by omega]; obtain ⟨b, o, nm1, t1, q1, d1, hcx, rfl, hat, hr1, hgb⟩ := hx.get (i := j) (by omega); refine tri_block ?_)
 refine tri_seq (tri_region (seq_pure (pure_move rfl) rfl rfl ?_))
 refine seq_pure (pure_move rfl) rfl rfl ?_
 refine seq_pure (pure_indexAddrN rfl rfl rfl (by omega)) rfl rfl ?_
 refine seq_pure (pure_fieldAddr rfl) rfl rfl ?_
 refine seq_load (load_s rfl rfl ((hat _).sub (j := 0) rfl)) rfl rfl ?_
 refine seq_pure (pure_move rfl) rfl rfl ?_
 refine seq_bool (pure_seql rfl rfl) rfl rfl (fun h41 => ?_) (fun h41 => ?_)
 refine seq_done (nrm_seq (tri_cond_t rfl ?_))
 refine tri_seq (tri_region (seq_pure (pure_move rfl) rfl rfl ?_))
 refine seq_pure (pure_move rfl) rfl rfl ?_
 refine seq_pure (pure_indexAddrN rfl rfl rfl (by omega)) rfl rfl ?_
 refine seq_pure (pure_fieldAddr rfl) rfl rfl ?_
 refine seq_load (load_a rfl rfl (hat _).drop rfl) rfl rfl ?_
 refine seq_store rfl rfl rfl rfl rfl rfl (by repeat first | exact Sw.here | apply Sw.there) (by rfl) ?_
 refine seq_pure (pure_assign rfl) rfl rfl ?_
 refine seq_done (nrm_seq (tri_ret (ret_block (ret_seq (ret_loopN (ret_block ?_))))))
 refine ret_seq (ret_fin2 (res_cell rfl (load_ba rfl rfl (by repeat first | exact mH | apply mT) (by rfl))) (res_tmp rfl) ?_)
 (rw [lookN_eq hcx (by assumption)] at hlk; rw [← hlk]; exact ⟨rfl, _, _, rfl, hr1, fun t ht => by cases ht; rfl⟩)
 refine seq_done (nrm_seq (tri_cond_f rfl ?_))
 refine tri_skip (nrm_block (nrm_seq (tri_region (seq_pure (pure_move rfl) rfl rfl ?_))))
 refine seq_pure (pure_sub rfl rfl (by omega) (by omega)) rfl rfl ?_
 refine seq_pure (pure_assign rfl) rfl rfl ?_
 refine seq_done (nrm_loopN j ?_ ?_ ?_)
 exact sub_mk (by repeat (first | exact SubE.nil | refine SubE.cons rfl ?_)) (by repeat (first | exact SubH.refl | exact SubH.nil | refine SubH.cons (by repeat (first | exact Pk.here | apply Pk.there)) ?_ | apply SubH.drop))
 (rw [lookN_ne hcx (by assumption)] at hlk; exact ⟨by omega, hlk⟩)
 (show _ < _ + 1; omega)
 refine seq_done (nrm_seq (tri_cond_f rfl ?_))
 refine tri_exit ?_
 refine ext_seq ?_
 refine ext_loopN ?_
 refine ext_block_eq ?_
 refine nrm_seq (tri_seq (tri_region (seq_pure (pure_build rfl rfl) rfl rfl ?_)))
 refine seq_store rfl rfl rfl rfl rfl rfl (by repeat first | exact Sw.here | apply Sw.there) (by rfl) ?_
 refine seq_pure (pure_assign rfl) rfl rfl ?_
 refine seq_done (nrm_seq (tri_ret (ret_fin2 (res_cell rfl (load_ba rfl rfl (by repeat first | exact mH | apply mT) (by rfl))) (res_tmp rfl) ?_)))
 (obtain rfl : i = 0 := (by omega); rw [lookN] at hlk; rw [← hlk]; exact ⟨rfl, _, ty0, rfl, tyLeaf_r _ ⟨by omega, by omega⟩, fun t ht => by cases ht⟩)
theorem mMeetL_two {xs ys : List Ty} (h : xs.length = 2) (h' : ys.length = 2) : mMeetL xs ys = [mMeet (xs[0]'(by omega)) (ys[0]'(by omega)), mMeet (xs[1]'(by omega)) (ys[1]'(by omega))] := by
 match xs, ys, h, h' with
 | [a, b], [c, d], _, _ => rfl
theorem cons_same {k k' : Int} {ks bs : List Ty} (h : tCons (.mk k ks) (.mk k' bs) = true) (hk : k ≠ 1) (hk' : k' ≠ 1) : k = k' ∧ tConsL ks bs = true := by
 rw [tCons_mk] at h
 simpa [hk, hk'] using h
set_option maxHeartbeats 0 in
set_option maxRecDepth 100000 in
theorem meet_fn : ∀ (a b : Ty) (G : IM) (ca cb : List Value), tCons a b = true → tAr a → tAr b → RTy G a ca → RTy G b cb →
  Fn Tryz.prog 96 [.agg ⟨ca⟩, .agg ⟨cb⟩] [] G (RetTy (mMeet a b) G) := by
 refine Ty.ind fun k ks ih b G ca cb hc haa hab hra hrb => ?_
 have hsa := haa.small
 have hsb := hab.small
 obtain ⟨bk, bks⟩ := b
 have hra0 := hra
 have hrb0 := hrb
 have ha2 := haa
 have hb2 := hab
 rw [tAr] at ha2 hb2
 have hkida := haa.kid
 have hkidb := hab.kid
 obtain ⟨p, c, es, rfl, hk, hsl, hkl⟩ := hra.open
 obtain ⟨p', c', es', rfl, hk', hsl', hkl'⟩ := hrb.open
 simp only [Ty.k, Ty.ks] at hk hsl hkl hk' hsl' hkl' ⊢
 have hn := hsl.le
 rw [mMeet_mk]
 refine fn_enter Tryz.func96 rfl Tryz.ntmps96 Tryz.results96 rfl ?_
 intro w0
 refine tri_seq (tri_region ?_)
 (refine seq_step (step_box_a rfl rfl) rfl ?_; rintro _ ⟨b3, rfl⟩)
 (refine seq_step (step_box_a rfl rfl) rfl ?_; rintro _ ⟨b4, rfl⟩)
 (refine seq_step (step_alloc rfl) rfl ?_; rintro _ ⟨b5, rfl⟩)
 refine seq_done (nrm_seq (tri_seq (tri_block (tri_seq (tri_region (seq_pure (pure_fieldAddr0 rfl) rfl rfl ?_))))))
 refine seq_load (load_bs rfl rfl (by repeat first | exact mH | apply mT) (by rfl)) rfl rfl ?_
 refine seq_bool (pure_eql rfl rfl) rfl rfl (fun h14 => ?_) (fun h14 => ?_)
 refine seq_pure (pure_assign rfl) rfl rfl ?_
 refine seq_done (nrm_seq (tri_cond_t rfl ?_))
 refine tri_seq (tri_region (seq_load (load_ba rfl rfl (by repeat first | exact mH | apply mT) (by rfl)) rfl rfl ?_))
 (refine seq_imm rfl (ownType_fn _ _ _ hsb hrb0) rfl rfl (fun v G1 hle1 hh => ?_); obtain ⟨cs1, F1, rfl, hs1, hn1⟩ := hh; obtain ⟨p1, c1, rfl, _⟩ := hs1.open; have hr1 := hs1.R.mono (Dif.le G1 _))
 refine seq_store rfl rfl rfl rfl rfl rfl (by repeat first | exact Sw.here | apply Sw.there) (by rfl) ?_
 refine seq_done (nrm_seq (tri_ret (ret_block (ret_seq (ret_fin1 (res_cell rfl (load_ba rfl rfl (by repeat first | exact mH | apply mT) (by rfl))) ?_)))))
 (rw [if_pos (by omega)]; exact ⟨rfl, _, rfl, hr1⟩)
 refine seq_pure (pure_assign rfl) rfl rfl ?_
 refine seq_done (nrm_seq (tri_cond_f rfl ?_))
 refine tri_seq (tri_region (seq_pure (pure_fieldAddr0 rfl) rfl rfl ?_))
 refine seq_load (load_bs rfl rfl (by repeat first | exact mH | apply mT) (by rfl)) rfl rfl ?_
 refine seq_bool (pure_eql rfl rfl) rfl rfl (fun h39 => ?_) (fun h39 => ?_)
 refine seq_pure (pure_move rfl) rfl rfl ?_
 refine seq_skip rfl rfl ?_
 refine seq_skip rfl rfl ?_
 refine seq_skip rfl rfl ?_
 refine seq_skip rfl rfl ?_
 refine seq_pure (pure_pick_t rfl rfl) rfl rfl ?_
 refine seq_pure (pure_assign rfl) rfl rfl ?_
 refine seq_done (nrm_seq (tri_cond_t rfl ?_))
 refine tri_seq (tri_region (seq_load (load_ba rfl rfl (by repeat first | exact mH | apply mT) (by rfl)) rfl rfl ?_))
 (refine seq_imm rfl (ownType_fn _ _ _ hsa hra0) rfl rfl (fun v G1 hle1 hh => ?_); obtain ⟨cs1, F1, rfl, hs1, hn1⟩ := hh; obtain ⟨p1, c1, rfl, _⟩ := hs1.open; have hr1 := hs1.R.mono (Dif.le G1 _))
 refine seq_store rfl rfl rfl rfl rfl rfl (by repeat first | exact Sw.here | apply Sw.there) (by rfl) ?_
 refine seq_done (nrm_seq (tri_ret (ret_block (ret_seq (ret_fin1 (res_cell rfl (load_ba rfl rfl (by repeat first | exact mH | apply mT) (by rfl))) ?_)))))
 (rw [if_neg (by omega)]; split <;> first | exact ⟨rfl, _, rfl, hr1⟩ | (obtain rfl : ks = [] := List.length_eq_zero_iff.1 (by omega); rw [mMeetL]; exact ⟨rfl, _, rfl, hr1⟩; simp))
 refine seq_pure (pure_move rfl) rfl rfl ?_
 refine seq_pure (pure_fieldAddr0 rfl) rfl rfl ?_
 refine seq_load (load_bs rfl rfl (by repeat first | exact mH | apply mT) (by rfl)) rfl rfl ?_
 refine seq_pure (pure_len rfl rfl) rfl rfl ?_
 refine seq_bool (pure_eql rfl rfl) rfl rfl (fun h66 => ?_) (fun h66 => ?_)
 refine seq_pure (pure_pick_f rfl rfl) rfl rfl ?_
 refine seq_pure (pure_assign rfl) rfl rfl ?_
 refine seq_done (nrm_seq (tri_cond_t rfl ?_))
 refine tri_seq (tri_region (seq_load (load_ba rfl rfl (by repeat first | exact mH | apply mT) (by rfl)) rfl rfl ?_))
 (refine seq_imm rfl (ownType_fn _ _ _ hsa hra0) rfl rfl (fun v G1 hle1 hh => ?_); obtain ⟨cs1, F1, rfl, hs1, hn1⟩ := hh; obtain ⟨p1, c1, rfl, _⟩ := hs1.open; have hr1 := hs1.R.mono (Dif.le G1 _))
 refine seq_store rfl rfl rfl rfl rfl rfl (by repeat first | exact Sw.here | apply Sw.there) (by rfl) ?_
 refine seq_done (nrm_seq (tri_ret (ret_block (ret_seq (ret_fin1 (res_cell rfl (load_ba rfl rfl (by repeat first | exact mH | apply mT) (by rfl))) ?_)))))
 (rw [if_neg (by omega)]; split <;> first | exact ⟨rfl, _, rfl, hr1⟩ | (obtain rfl : ks = [] := List.length_eq_zero_iff.1 (by omega); rw [mMeetL]; exact ⟨rfl, _, rfl, hr1⟩; simp))
 refine seq_pure (pure_pick_f rfl rfl) rfl rfl ?_
 refine seq_pure (pure_assign rfl) rfl rfl ?_
 refine seq_done (nrm_seq (tri_cond_f rfl ?_))
 refine tri_skip (nrm_block (nrm_seq (tri_seq ?_)))
 (obtain ⟨hkk, hcl0⟩ := cons_same hc (by omega) (by omega); subst hkk; have hcl := (tConsL_iff _ _).1 hcl0; have hlen : ks.length = 2 := (by have := ha2.2.1; have := ha2.1; omega); have hlen' : bks.length = 2 := (by omega); obtain ⟨b0, o0, q0, d0, hp0, hat0, hre0, hg0⟩ := hsl.kidTy hkl (i := 0) (by omega) (by omega); obtain ⟨b1, o1, q1, d1, hp1, hat1, hre1, hg1⟩ := hsl.kidTy hkl (i := 1) (by omega) (by omega); subst hp0; cases hp1; obtain ⟨b2, o2, q2, d2, hp2, hat2, hre2, hg2⟩ := hsl'.kidTy hkl' (i := 0) (by omega) (by omega); obtain ⟨b3, o3, q3, d3, hp3, hat3, hre3, hg3⟩ := hsl'.kidTy hkl' (i := 1) (by omega) (by omega); subst hp2; cases hp3; have hM1 := ih ks[0] (List.getElem_mem (by omega)) bks[0] G _ _ (hcl.2 0 (by omega) (by omega)) (hkida _ (List.getElem_mem (by omega))) (hkidb _ (List.getElem_mem (by omega))) hre0 hre2; refine tri_draw mixed rfl ?_)
 refine any_pure (i := 0) (listed' := [tt,ff,ff,ff,ff,ff,ff,ff,ff,ff,ff,ff,ff,ff,ff,ff,ff,ff,ff,ff,ff,ff]) rfl npI (pure_fieldAddr0 rfl) rfl (by kernel_rfl) rfl rfl ?_
 refine any_load (i := 1) (listed' := [tt,tt,ff,ff,ff,ff,ff,ff,ff,ff,ff,ff,ff,ff,ff,ff,ff,ff,ff,ff,ff,ff]) rfl npI (load_bs rfl rfl (by repeat first | exact mH | apply mT) (by rfl)) rfl (by kernel_rfl) rfl rfl ?_
 refine any_pure (i := 2) (listed' := [tt,tt,tt,ff,ff,ff,ff,ff,ff,ff,ff,ff,ff,ff,ff,ff,ff,ff,ff,ff,ff,ff]) rfl npI (pure_fieldAddr0 rfl) rfl (by kernel_rfl) rfl rfl ?_
 refine any_load (i := 3) (listed' := [tt,tt,tt,tt,ff,ff,ff,ff,ff,ff,ff,ff,ff,ff,ff,ff,ff,ff,ff,ff,ff,ff]) rfl npI (load_bs rfl rfl (by repeat first | exact mH | apply mT) (by rfl)) rfl (by kernel_rfl) rfl rfl ?_
 refine any_pure (i := 4) (listed' := [tt,tt,tt,tt,tt,ff,ff,ff,ff,ff,ff,ff,ff,ff,ff,ff,ff,ff,ff,ff,ff,ff]) rfl npI (pure_indexAddrN (j := 0) rfl rfl rfl (by omega)) rfl (by kernel_rfl) rfl rfl ?_
 refine any_load (i := 5) (listed' := [tt,tt,tt,tt,tt,tt,ff,ff,ff,ff,ff,ff,ff,ff,ff,ff,ff,ff,ff,ff,ff,ff]) rfl npI (load_a rfl rfl (hat0 _) rfl) rfl (by kernel_rfl) rfl rfl ?_
 refine any_pure (i := 6) (listed' := [tt,tt,tt,tt,tt,tt,tt,ff,ff,ff,ff,ff,ff,ff,ff,ff,ff,ff,ff,ff,ff,ff]) rfl npI (pure_fieldAddr0 rfl) rfl (by kernel_rfl) rfl rfl ?_
 refine any_load (i := 7) (listed' := [tt,tt,tt,tt,tt,tt,tt,tt,ff,ff,ff,ff,ff,ff,ff,ff,ff,ff,ff,ff,ff,ff]) rfl npI (load_bs rfl rfl (by repeat first | exact mH | apply mT) (by rfl)) rfl (by kernel_rfl) rfl rfl ?_
 refine any_pure (i := 8) (listed' := [tt,tt,tt,tt,tt,tt,tt,tt,tt,ff,ff,ff,ff,ff,ff,ff,ff,ff,ff,ff,ff,ff]) rfl npI (pure_indexAddrN (j := 0) rfl rfl rfl (by omega)) rfl (by kernel_rfl) rfl rfl ?_
 refine any_load (i := 9) (listed' := [tt,tt,tt,tt,tt,tt,tt,tt,tt,tt,ff,ff,ff,ff,ff,ff,ff,ff,ff,ff,ff,ff]) rfl npI (load_a rfl rfl (hat2 _) rfl) rfl (by kernel_rfl) rfl rfl ?_
 refine any_pure (i := 11) (listed' := [tt,tt,tt,tt,tt,tt,tt,tt,tt,tt,ff,tt,ff,ff,ff,ff,ff,ff,ff,ff,ff,ff]) rfl npI (pure_fieldAddr0 rfl) rfl (by kernel_rfl) rfl rfl ?_
 refine any_load (i := 12) (listed' := [tt,tt,tt,tt,tt,tt,tt,tt,tt,tt,ff,tt,tt,ff,ff,ff,ff,ff,ff,ff,ff,ff]) rfl npI (load_bs rfl rfl (by repeat first | exact mH | apply mT) (by rfl)) rfl (by kernel_rfl) rfl rfl ?_
 refine any_pure (i := 13) (listed' := [tt,tt,tt,tt,tt,tt,tt,tt,tt,tt,ff,tt,tt,tt,ff,ff,ff,ff,ff,ff,ff,ff]) rfl npI (pure_indexAddrN (j := 1) rfl rfl rfl (by omega)) rfl (by kernel_rfl) rfl rfl ?_
 refine any_load (i := 14) (listed' := [tt,tt,tt,tt,tt,tt,tt,tt,tt,tt,ff,tt,tt,tt,tt,ff,ff,ff,ff,ff,ff,ff]) rfl npI (load_a rfl rfl (hat1 _) rfl) rfl (by kernel_rfl) rfl rfl ?_
 refine any_pure (i := 15) (listed' := [tt,tt,tt,tt,tt,tt,tt,tt,tt,tt,ff,tt,tt,tt,tt,tt,ff,ff,ff,ff,ff,ff]) rfl npI (pure_fieldAddr0 rfl) rfl (by kernel_rfl) rfl rfl ?_
 refine any_load (i := 16) (listed' := [tt,tt,tt,tt,tt,tt,tt,tt,tt,tt,ff,tt,tt,tt,tt,tt,tt,ff,ff,ff,ff,ff]) rfl npI (load_bs rfl rfl (by repeat first | exact mH | apply mT) (by rfl)) rfl (by kernel_rfl) rfl rfl ?_
 refine any_pure (i := 17) (listed' := [tt,tt,tt,tt,tt,tt,tt,tt,tt,tt,ff,tt,tt,tt,tt,tt,tt,tt,ff,ff,ff,ff]) rfl npI (pure_indexAddrN (j := 1) rfl rfl rfl (by omega)) rfl (by kernel_rfl) rfl rfl ?_
 refine any_load (i := 18) (listed' := [tt,tt,tt,tt,tt,tt,tt,tt,tt,tt,ff,tt,tt,tt,tt,tt,tt,tt,tt,ff,ff,ff]) rfl npI (load_a rfl rfl (hat3 _) rfl) rfl (by kernel_rfl) rfl rfl ?_
 refine any_one (j := 10) (by kernel_rfl) ?_
 (refine one_imm (listed' := [tt,tt,tt,tt,tt,tt,tt,tt,tt,tt,tt,tt,tt,tt,tt,tt,tt,tt,tt,ff,ff,ff]) rfl rfl hM1 rfl rfl rfl (fun v G1 hle1 hh => ?_); obtain ⟨cm1, rfl, hm1⟩ := hh; have hM2 := ih ks[1] (List.getElem_mem (by omega)) bks[1] G1 _ _ (hcl.2 1 (by omega) (by omega)) (hkida _ (List.getElem_mem (by omega))) (hkidb _ (List.getElem_mem (by omega))) (hre1.mono hle1) (hre3.mono hle1))
 refine any_one (j := 19) (by kernel_rfl) ?_
 (refine one_imm (listed' := [tt,tt,tt,tt,tt,tt,tt,tt,tt,tt,tt,tt,tt,tt,tt,tt,tt,tt,tt,tt,ff,ff]) rfl rfl hM2 rfl rfl rfl (fun v G2 hle2 hh => ?_); obtain ⟨cm2, rfl, hm2⟩ := hh; have hB := both_fn k _ _ G2 _ _ hk (hm1.mono hle2) hm2)
 refine any_one (j := 20) (by kernel_rfl) ?_
 (refine one_imm (listed' := [tt,tt,tt,tt,tt,tt,tt,tt,tt,tt,tt,tt,tt,tt,tt,tt,tt,tt,tt,tt,tt,ff]) rfl rfl hB rfl rfl rfl (fun v G3 hle3 hh => ?_); obtain ⟨cm3, rfl, hm3⟩ := hh; obtain ⟨p5, c5, e5, rfl, _⟩ := hm3.open)
 refine any_one (j := 21) (by kernel_rfl) ?_
 refine one_storeM (listed' := [tt,tt,tt,tt,tt,tt,tt,tt,tt,tt,tt,tt,tt,tt,tt,tt,tt,tt,tt,tt,tt,tt]) rfl rfl rfl rfl rfl rfl rfl rfl (by repeat first | exact Sw.here | apply Sw.there) (by rfl) (by repeat (first | exact HmOk.nil | apply HmOk.dep (by decide +kernel) | apply HmOk.im (by decide +kernel) (by assumption) (by repeat first | exact mH | apply mT) | apply HmOk.blk (by decide +kernel) (by repeat (first | exact Pk.here | apply Pk.there)) (by repeat first | exact mH | apply mT))) ?_
 refine any_done (by kernel_rfl) ?_
 refine nrm_seq (tri_ret (ret_fin1 (res_cell rfl (load_ba rfl rfl (by repeat first | exact mH | apply mT) (by rfl))) ?_))
 (rw [if_neg (by omega), if_neg (by omega)]; rw [mMeetL_two hlen hlen']; exact ⟨rfl, _, rfl, hm3⟩)
end Gw
end Go.Proofs.YtgclbnfdlddpnaaGreat
namespace Go.Proofs.YtgclbnfdlddpnaaGreat
open Go Go.RowKit
namespace Gw
set_option maxRecDepth 100000 in
theorem clone_tm (G : IM) (p : Option Addr) (n c : Nat) (es : List (List Value)) (h : SlE G p n c 9 es) (h0 : 0 < n) (hn : n ≤ 4294967296) :
  Fn Tryz.prog 64 [.slice p n c] [] G (fun G' v outs => G' = G ∧ ∃ p' c', v = .slice p' n c' ∧ outs = [.slc p' c' 28 9 n es.flatten]) := by
 obtain ⟨hl, hc, hm, hat⟩ := h.sl
 obtain ⟨b, o, full, rfl, hg, hv⟩ := hat.resolve_left (by omega)
 have ho : ∀ u ∈ es.flatten, u.oneCell' = true := by
  intro u hu
  obtain ⟨e, he, hue⟩ := List.mem_flatten.1 hu
  exact List.all_eq_true.1 (h.one e he) u hue
 refine fn_enter Tryz.func64 rfl Tryz.ntmps64 Tryz.results64 rfl ?_
 intro w0
 refine tri_seq (tri_region (seq_pure (pure_assign rfl) rfl rfl ?_))
 refine seq_done (nrm_seq (tri_seq (tri_seq (tri_region (seq_pure (pure_move rfl) rfl rfl ?_)))))
 refine seq_pure (pure_slnil_f rfl rfl rfl) rfl rfl ?_
 refine seq_done (nrm_seq (tri_cond_f rfl ?_))
 refine tri_skip (nrm_seq (tri_seq (tri_region ?_)))
 (refine seq_step (step_buildSlice rfl rfl rfl (by omega) (by unfold maxLen; omega) rfl) rfl ?_; rintro _ ⟨b18, rfl⟩)
 refine seq_pure (pure_move rfl) rfl rfl ?_
 refine seq_append rfl rfl rfl rfl rfl (fun _ _ => by repeat (first | exact Sw.here | apply Sw.there)) (at_im hg hv) hl ho (by unfold maxLen; omega) (by omega) rfl (fun pn cn => ?_)
 refine seq_pure (pure_assign rfl) rfl rfl ?_
 refine seq_done (nrm_seq (tri_ret (ret_own1 (res_tmp rfl) SubH.refl ?_)))
 exact ⟨rfl, _, _, by rw [Nat.zero_add], by rw [Nat.zero_add]; rfl⟩
set_option maxHeartbeats 0 in
set_option maxRecDepth 100000 in
theorem put_fn : ∀ (path : List Int) (t x y : Tm) (G : IM) (cells xcells : List Value) (p : Option Addr) (c : Nat), tAt t path = some y → t.small → RTm G t cells → RTm G x xcells → Sl G p path.length c 1 (ints path) →
  Fn Tryz.prog 27 [.agg ⟨cells⟩, .slice p path.length c, .agg ⟨xcells⟩] [] G (Imm fun G' v => ∃ cells', v = .agg ⟨cells'⟩ ∧ RTm G' (mPut t path x) cells') := by
 intro path
 induction path with
 | nil =>
  intro t x y G cells xcells p c hat hts hr hx hp
  have hl := hr.len
  have hone := hr.one
  have hlx := hx.len
  have hox := hx.one
  simp only [List.length_nil]
  refine fn_enter Tryz.func27 rfl Tryz.ntmps27 Tryz.results27 rfl ?_
  intro w0
  refine tri_seq (tri_region ?_)
  (refine seq_step (step_box_a rfl rfl) rfl ?_; rintro _ ⟨b3, rfl⟩)
  (refine seq_step (step_box_a rfl rfl) rfl ?_; rintro _ ⟨b4, rfl⟩)
  (refine seq_step (step_alloc rfl) rfl ?_; rintro _ ⟨b5, rfl⟩)
  refine seq_done (nrm_seq (tri_seq (tri_seq (tri_region (seq_pure (pure_move rfl) rfl rfl ?_)))))
  refine seq_pure (pure_len rfl rfl) rfl rfl ?_
  refine seq_pure (pure_eql_t rfl rfl (by omega)) rfl rfl ?_
  refine seq_done (nrm_seq (tri_cond_t rfl ?_))
  refine tri_seq (tri_region (seq_load (load_a rfl rfl (at_blk_all (by repeat first | exact mH | apply mT)) (by assumption)) rfl rfl ?_))
  refine seq_store rfl rfl rfl hlx hox rfl (by repeat first | exact Sw.here | apply Sw.there) (by exact upd_all hlx.symm) ?_
  refine seq_done (nrm_seq (tri_ret (ret_seq (ret_fin1 (res_cell rfl (load_a rfl rfl (at_blk_all (by repeat first | exact mH | apply mT)) hlx)) ?_))))
  exact ⟨rfl, xcells, rfl, by rw [mPut_nil]; exact hx⟩
 | cons i is ih =>
  intro t x y G cells xcells p c hat hts hr hx hp
  have hone := hr.one
  have hlx := hx.len
  have hox := hx.one
  obtain ⟨k, nm, num, ⟨tk, tks⟩, ⟨fk, fks⟩, lb, ks⟩ := t
  obtain ⟨j, rfl, hj, haj⟩ := tAt_some hat
  simp only [Tm.ks] at hj haj
  simp only [Tm.small] at hts
  obtain ⟨hnm, hty', hfr', hsm, hks⟩ := hts
  obtain ⟨pt, ct, pf, cf, pk, ck, es, rfl, hk, hnum, hlb, hty, hfr, hsl, hkl⟩ := hr.open9
  have hn := hsl.le
  have hpn := hp.le
  have hC := clone_tm G pk ks.length ck es hsl (by omega) hsm
  obtain ⟨pb, po, pv, rfl, hpv, hatp, hpg⟩ := hp.kid (i := 0) (by simp)
  obtain rfl : pv = .int .i64 (j : Int) := by simpa [ints] using hpv.symm
  have hpt := hp.from (l := 1) (by simp)
  rw [show (ints ((j : Int) :: is)).drop (1 * 1) = ints is from rfl] at hpt
  obtain ⟨kb, ko, ke, hpk, hlk, hatk, hrk, hgk⟩ := hsl.kidTm hkl (i := j) hj hj
  subst hpk
  have hok := hrk.one
  have hih := ih ks[j] x y G ke xcells _ _ haj (Tm.smallL_mem hks _ (List.getElem_mem hj)) hrk hx (by rw [show is.length = (((j : Int) :: is).length - 1) from rfl]; exact hpt)
  rw [mPut_go hj]
  simp only [List.length_cons] at hih hpt ⊢
  refine fn_enter Tryz.func27 rfl Tryz.ntmps27 Tryz.results27 rfl ?_
  intro w0
  refine tri_seq (tri_region ?_)
  (refine seq_step (step_box_a rfl rfl) rfl ?_; rintro _ ⟨b3, rfl⟩)
  (refine seq_step (step_box_a rfl rfl) rfl ?_; rintro _ ⟨b4, rfl⟩)
  (refine seq_step (step_alloc rfl) rfl ?_; rintro _ ⟨b5, rfl⟩)
  refine seq_done (nrm_seq (tri_seq (tri_seq (tri_region (seq_pure (pure_move rfl) rfl rfl ?_)))))
  refine seq_pure (pure_len rfl rfl) rfl rfl ?_
  refine seq_pure (pure_eql_f rfl rfl (by omega)) rfl rfl ?_
  refine seq_done (nrm_seq (tri_cond_f rfl ?_))
  refine tri_skip (nrm_seq (tri_seq (tri_region (seq_load (load_ba rfl rfl (by repeat first | exact mH | apply mT) (by rfl)) rfl rfl ?_))))
  (refine seq_step (step_alloc rfl) rfl ?_; rintro _ ⟨b22, rfl⟩)
  refine seq_store rfl rfl rfl rfl rfl rfl (by repeat first | exact Sw.here | apply Sw.there) (by rfl) ?_
  refine seq_done (nrm_seq (tri_seq (tri_region (seq_pure (pure_fieldAddr0 rfl) rfl rfl ?_))))
  refine seq_load (load_bs rfl rfl (by repeat first | exact mH | apply mT) (by rfl)) rfl rfl ?_
  (refine seq_own rfl hC rfl rfl (fun v30 G30 outs30 hle30 h30 => ?_); obtain ⟨hG, p1, c1, rfl, rfl⟩ := h30; replace hG := hG.symm; subst hG; refine triL_open (cs := es.flatten) (by repeat (first | exact Pk.here | apply Pk.there)) (by omega) (fun bc C hpe hnc hcm => ?_); subst hpe)
  replace hx := hx.mono hle30
  replace hty := hty.mono hle30
  replace hfr := hfr.mono hle30
  replace hkl := hkl.mono hle30
  replace hp := hp.mono hle30
  replace hpt := hpt.mono hle30
  replace hrk := hrk.mono hle30
  replace hr := hr.mono hle30
  replace hsl := hsl.mono hle30
  refine seq_pure (pure_fieldAddr0 rfl) rfl rfl ?_
  refine seq_store rfl rfl rfl rfl rfl rfl (by repeat first | exact Sw.here | apply Sw.there) (by rfl) ?_
  refine seq_done (nrm_seq (tri_seq (tri_draw mixed rfl ?_)))
  refine any_pure (i := 0) (listed' := [tt,ff,ff,ff,ff,ff,ff,ff,ff,ff,ff,ff,ff,ff,ff,ff,ff,ff]) rfl npI (pure_fieldAddr0 rfl) rfl (by kernel_rfl) rfl rfl ?_
  refine any_load (i := 1) (listed' := [tt,tt,ff,ff,ff,ff,ff,ff,ff,ff,ff,ff,ff,ff,ff,ff,ff,ff]) rfl npI (load_bs rfl rfl (by repeat first | exact mH | apply mT) (by rfl)) rfl (by kernel_rfl) rfl rfl ?_
  refine any_pure (i := 2) (listed' := [tt,tt,tt,ff,ff,ff,ff,ff,ff,ff,ff,ff,ff,ff,ff,ff,ff,ff]) rfl npI (pure_move rfl) rfl (by kernel_rfl) rfl rfl ?_
  refine any_pure (i := 3) (listed' := [tt,tt,tt,tt,ff,ff,ff,ff,ff,ff,ff,ff,ff,ff,ff,ff,ff,ff]) rfl npI (pure_indexAddrN (j := 0) rfl rfl rfl (by omega)) rfl (by kernel_rfl) rfl rfl ?_
  refine any_load (i := 4) (listed' := [tt,tt,tt,tt,tt,ff,ff,ff,ff,ff,ff,ff,ff,ff,ff,ff,ff,ff]) rfl npI (load_s rfl rfl (hatp _)) rfl (by kernel_rfl) rfl rfl ?_
  refine any_pure (i := 5) (listed' := [tt,tt,tt,tt,tt,tt,ff,ff,ff,ff,ff,ff,ff,ff,ff,ff,ff,ff]) rfl npI (pure_fieldAddr0 rfl) rfl (by kernel_rfl) rfl rfl ?_
  refine any_load (i := 6) (listed' := [tt,tt,tt,tt,tt,tt,tt,ff,ff,ff,ff,ff,ff,ff,ff,ff,ff,ff]) rfl npI (load_bs rfl rfl (by repeat first | exact mH | apply mT) (by rfl)) rfl (by kernel_rfl) rfl rfl ?_
  refine any_pure (i := 7) (listed' := [tt,tt,tt,tt,tt,tt,tt,tt,ff,ff,ff,ff,ff,ff,ff,ff,ff,ff]) rfl npI (pure_move rfl) rfl (by kernel_rfl) rfl rfl ?_
  refine any_pure (i := 8) (listed' := [tt,tt,tt,tt,tt,tt,tt,tt,tt,ff,ff,ff,ff,ff,ff,ff,ff,ff]) rfl npI (pure_indexAddrN (j := 0) rfl rfl rfl (by omega)) rfl (by kernel_rfl) rfl rfl ?_
  refine any_load (i := 9) (listed' := [tt,tt,tt,tt,tt,tt,tt,tt,tt,tt,ff,ff,ff,ff,ff,ff,ff,ff]) rfl npI (load_s rfl rfl (hatp _)) rfl (by kernel_rfl) rfl rfl ?_
  refine any_pure (i := 10) (listed' := [tt,tt,tt,tt,tt,tt,tt,tt,tt,tt,tt,ff,ff,ff,ff,ff,ff,ff]) rfl npI (pure_indexAddrN (j := j) rfl rfl rfl (by omega)) rfl (by kernel_rfl) rfl rfl ?_
  refine any_load (i := 11) (listed' := [tt,tt,tt,tt,tt,tt,tt,tt,tt,tt,tt,tt,ff,ff,ff,ff,ff,ff]) rfl npI (load_a rfl rfl (hatk _) hlk) rfl (by kernel_rfl) rfl rfl ?_
  refine any_pure (i := 12) (listed' := [tt,tt,tt,tt,tt,tt,tt,tt,tt,tt,tt,tt,tt,ff,ff,ff,ff,ff]) rfl npI (pure_move rfl) rfl (by kernel_rfl) rfl rfl ?_
  refine any_pure (i := 13) (listed' := [tt,tt,tt,tt,tt,tt,tt,tt,tt,tt,tt,tt,tt,tt,ff,ff,ff,ff]) rfl npI (pure_slice_from (l := 1) rfl rfl rfl (by omega)) rfl (by kernel_rfl) rfl rfl ?_
  refine any_load (i := 14) (listed' := [tt,tt,tt,tt,tt,tt,tt,tt,tt,tt,tt,tt,tt,tt,tt,ff,ff,ff]) rfl npI (load_a rfl rfl (at_blk_all (by repeat first | exact mH | apply mT)) (by assumption)) rfl (by kernel_rfl) rfl rfl ?_
  refine any_one (j := 15) (by kernel_rfl) ?_
  (refine one_imm (listed' := [tt,tt,tt,tt,tt,tt,tt,tt,tt,tt,tt,tt,tt,tt,tt,tt,ff,ff]) rfl rfl hih rfl rfl rfl (fun v1 G1 hle1 hh => ?_); obtain ⟨yc, rfl, hry⟩ := hh; have hly := hry.len; have hoy := hry.one)
  refine any_pure (i := 16) (listed' := [tt,tt,tt,tt,tt,tt,tt,tt,tt,tt,tt,tt,tt,tt,tt,tt,tt,ff]) rfl npI (pure_indexAddrN (j := j) rfl rfl rfl (by omega)) rfl (by kernel_rfl) rfl rfl ?_
  refine any_one (j := 17) (by kernel_rfl) ?_
  refine one_store rfl rfl rfl rfl hly hoy rfl rfl (by kernel_rfl) (by repeat first | exact Sw.here | apply Sw.there) (by exact upd_set (by rw [hkl.len]; omega) (fun e he => (hsl.all e he)) hly) ?_
  refine any_done (by kernel_rfl) ?_
  refine nrm_seq (tri_seq (tri_region (seq_load (load_ba rfl rfl (by repeat first | exact mH | apply mT) (by rfl)) rfl rfl ?_)))
  refine seq_store rfl rfl rfl rfl rfl rfl (by repeat first | exact Sw.here | apply Sw.there) (by rfl) ?_
  refine seq_done (nrm_seq ?_)
  (refine tri_freezes (bs := [(bc, (es.set j yc).flatten ++ C)]) (Pk.perm (by repeat (first | exact Pk.here | apply Pk.there))) (fun hn2 hd2 hle2 => ?_))
  refine tri_ret (ret_fin1 (res_cell rfl (load_ba rfl rfl (by repeat first | exact mH | apply mT) (by rfl))) ?_)
  (have hks2 := RTmL.set (j := j) ((hkl.mono hle1).mono hle2) (hry.mono hle2); refine ⟨rfl, _, rfl, ?_⟩; simp only [RTm]; exact ⟨_, _, _, _, es.set j yc, by rw [List.length_set]; rfl, hk, hnum, hlb, (hty.mono hle1).mono hle2, (hfr.mono hle1).mono hle2, SlE.of (Sl.of_blk (A := []) (by rw [flat_len hks2.all, hks2.len]) (by rw [List.length_set]; omega) hcm (Wi.in hn2 List.mem_cons_self)) hks2.len hks2.all (fun e he => by obtain ⟨q, hq⟩ := List.getElem?_of_mem he; exact (hks2.inv hq tm0).2.one), hks2⟩)
end Gw
end Go.Proofs.YtgclbnfdlddpnaaGreat
namespace Go.Proofs.YtgclbnfdlddpnaaGreat
open Go Go.RowKit
namespace Gw
theorem upd_setA {A C : List Value} {es : List (List Value)} {vs : List Value} {j sz : Nat} (hj : j < es.length) (ha : ∀ e ∈ es, e.length = sz) (hv : vs.length = sz) : upd (A ++ (es.flatten ++ C)) (A.length + j * sz) vs = some (A ++ ((es.set j vs).flatten ++ C)) := by
 have h := upd_el (A := A) (D := es.take j) (e := es[j]) (e' := vs) (R := (es.drop (j + 1)).flatten ++ C) (vs := vs) (i := j) (sz := sz) (off := 0)
  (by rw [List.length_take]; omega) (fun e he => ha e (List.mem_of_mem_take he)) (upd_all (by rw [ha _ (List.getElem_mem hj), hv]))
 rw [flat_at hj, flat_set hj]
 simp only [List.append_assoc, Nat.add_zero] at h ⊢
 exact h
theorem At.mono' {hp : List Ent} {G G' : IM} {b o : Nat} {vs : List Value} (hg : IMle G G') (h : At [] G b o vs) : At hp G' b o vs := by
 rcases h with ⟨cs, hm, hv⟩ | ⟨n, c, el, sz, cs, hm, hv⟩ | ⟨full, hx, hv⟩
 ·cases hm
 ·cases hm
 ·exact .inr (.inr ⟨full, hg _ _ hx, hv⟩)
theorem STm.repl {G G1 G2 G3 : IM} {bc j c : Nat} {k num lb : Int} {nm : ByteArray} {ty fr : Ty} {ks : List Tm} {y : Tm} {tc fc A C yc : List Value} {es : List (List Value)} {Ft Ff Fs F' : List Nat}
  (hk : I64 k) (hnum : I64 num) (hlb : I64 lb) (hle1 : IMle G G1) (ht : STy (Dif G1 G) ty tc Ft) (hf : STy (Dif G1 G) fr fc Ff) (hkl : STmL (Dif G1 G) ks es Fs) (hg : Dif G1 G bc = some (A ++ (es.flatten ++ C)))
  (hn : (Ft ++ (Ff ++ ([bc] ++ Fs))).Nodup) (hj : j < ks.length) (hc : ks.length ≤ c) (hm : c ≤ maxLen) (hle2 : IMle (Wo G1 [bc]) G2) (hy : STm (Dif G2 (Wo G1 [bc])) y yc F') (hn' : F'.Nodup) (hd : G2 bc = none)
  (hle3 : IMle G2 G3) (h3 : G3 bc = some (A ++ ((es.set j yc).flatten ++ C))) :
  ∃ F, STm (Dif G3 G) (.mk k nm num ty fr lb (ks.set j y)) ([.int .i64 k, .string nm, .int .i64 num] ++ tc ++ fc ++ [.int .i64 lb, .slice (some ⟨bc, A.length, none⟩) (ks.set j y).length c]) F ∧ F.Nodup := by
 have hGb : G bc = none := Dif.out (by rw [hg]; simp)
 rw [List.nodup_append, List.nodup_append, List.nodup_append] at hn
 obtain ⟨n1, ⟨n2, ⟨_, n4, d1⟩, d2⟩, d3⟩ := hn
 have hbt : ∀ x ∈ Ft, x ∉ [bc] := fun x hx hb => d3 x hx x (by simp at hb; subst hb; simp) rfl
 have hbf : ∀ x ∈ Ff, x ∉ [bc] := fun x hx hb => d2 x hx x (by simp at hb; subst hb; simp) rfl
 have hbs : ∀ x ∈ Fs, x ∉ [bc] := fun x hx hb => d1 x hb x hx rfl
 have hH : IMle (Wo (Dif G1 G) [bc]) (Dif G3 G) := by
  intro x l hx
  obtain ⟨h1, h2⟩ := Wo.get hx
  have hgx : G x = none := Dif.out (by rw [h1]; simp)
  have h4 : G3 x = some l := hle3 _ _ (hle2 _ _ (by rw [Wo.at h2]; exact Dif.le _ _ _ _ h1))
  simp [Dif, hgx, h4]
 have hGle : IMle G (Wo G1 [bc]) := Wo.keep hle1 (fun b hb => by simp at hb; subst hb; exact hGb)
 have hyH : IMle (Dif G2 (Wo G1 [bc])) (Dif G3 G) := fun b l h => Dif.mono hle3 b l (Dif.anti hGle b l h)
 have hl := hkl.R.len
 obtain ⟨F2, s1, s2, s3⟩ := STmL.set (j := j) ((hkl.wo hbs).mono hH) (hy.mono hyH) hj
 have hF' : ∀ x ∈ F', Wo G1 [bc] x = none ∧ G2 x ≠ none := fun x hx => by
  have := hy.inG x hx
  refine ⟨Dif.out this, fun h => this ?_⟩
  cases hq : Dif G2 (Wo G1 [bc]) x with
  | none => rfl
  | some l => rw [Dif.le _ _ _ _ hq] at h; cases h
 have old : ∀ {x : Nat}, Dif G1 G x ≠ none → x ∉ [bc] → x ∉ F' := fun {x} h1 h2 h3 => by
  have h4 := (hF' x h3).1
  rw [Wo.at h2] at h4
  exact h1 (none_le (Dif.le G1 G) h4)
 have dbF : bc ∉ F' := fun h => (hF' bc h).2 hd
 have hin : Dif G3 G bc = some (A ++ ((es.set j yc).flatten ++ C)) := by simp [Dif, hGb, h3]
 have hR := s1.R
 refine ⟨Ft ++ (Ff ++ (vfp (some ⟨bc, A.length, none⟩) ++ F2)), ?_, ?_⟩
 ·simp only [STm]
  exact ⟨tc, fc, _, c, es.set j yc, Ft, Ff, F2, rfl, hk, hnum, hlb, (ht.wo hbt).mono hH, (hf.wo hbf).mono hH,
   SlE.of (Sl.of_blk (by rw [flat_len hR.all, hR.len]) (by rw [List.length_set]; exact hc) hm hin) hR.len hR.all (fun e he => by obtain ⟨q, hq⟩ := List.getElem?_of_mem he; exact (hR.inv hq tm0).2.one), s1, rfl,
   fun b hb => by simp [vfp] at hb; subst hb; rw [hin]; simp⟩
 ·rw [List.nodup_append, List.nodup_append, List.nodup_append]
  refine ⟨n1, ⟨n2, ⟨by simp [vfp], s3 n4 hn' (fun x hx => old (hkl.inG x hx) (hbs x hx)), ?_⟩, ?_⟩, ?_⟩
  ·rintro x hx z hz rfl
   simp [vfp] at hx; subst hx
   rcases s2 _ hz with hz | hz
   ·exact hbs _ hz (by simp)
   ·exact dbF hz
  ·rintro x hx z hz rfl
   rcases List.mem_append.1 hz with hz | hz
   ·exact hbf x hx (by simpa [vfp] using hz)
   ·rcases s2 _ hz with hz | hz
    ·exact d2 x hx x (List.mem_append_right _ hz) rfl
    ·exact old (hf.inG x hx) (hbf x hx) hz
  ·rintro x hx z hz rfl
   rcases List.mem_append.1 hz with hz | hz
   ·exact d3 x hx x (List.mem_append_left _ hz) rfl
   ·rcases List.mem_append.1 hz with hz | hz
    ·exact hbt x hx (by simpa [vfp] using hz)
    ·rcases s2 _ hz with hz | hz
     ·exact d3 x hx x (List.mem_append_right _ (List.mem_append_right _ hz)) rfl
     ·exact old (ht.inG x hx) (hbt x hx) hz
set_option maxHeartbeats 0 in
set_option maxRecDepth 100000 in
theorem l16Replace_fn : ∀ (path : List Int) (t x y : Tm) (G : IM) (cells xcells : List Value) (p : Option Addr) (c : Nat), tAt t path = some y → t.small → x.small → RTm G t cells → RTm G x xcells → Sl G p path.length c 1 (ints path) →
  Fn Tryz.prog 30 [.agg ⟨cells⟩, .slice p path.length c, .agg ⟨xcells⟩] [] G (ToTm (mPut t path x) G) := by
 intro path
 induction path with
 | nil =>
  intro t x y G cells xcells p c hat hts hxs hr hx hp
  have hl := hr.len
  have hone := hr.one
  have hlx := hx.len
  have hox := hx.one
  simp only [List.length_nil]
  refine fn_enter Tryz.func30 rfl Tryz.ntmps30 Tryz.results30 rfl ?_
  intro w0
  refine tri_seq (tri_region ?_)
  (refine seq_step (step_box_a rfl rfl) rfl ?_; rintro _ ⟨b3, rfl⟩)
  (refine seq_step (step_box_a rfl rfl) rfl ?_; rintro _ ⟨b4, rfl⟩)
  (refine seq_step (step_alloc rfl) rfl ?_; rintro _ ⟨b5, rfl⟩)
  refine seq_done (nrm_seq (tri_seq (tri_seq (tri_region (seq_pure (pure_move rfl) rfl rfl ?_)))))
  refine seq_pure (pure_len rfl rfl) rfl rfl ?_
  refine seq_pure (pure_eql_t rfl rfl (by omega)) rfl rfl ?_
  refine seq_done (nrm_seq (tri_cond_t rfl ?_))
  refine tri_seq (tri_region (seq_load (load_a rfl rfl (at_blk_all (by repeat first | exact mH | apply mT)) (by assumption)) rfl rfl ?_))
  (refine seq_imm rfl (l2Copy_fn x G xcells hxs hx) rfl rfl (fun v G3 hle3 hh => ?_); obtain ⟨cells', F', rfl, hs', hnd'⟩ := hh; have hl' := hs'.R.len; have ho' := hs'.R.one)
  refine seq_store rfl rfl rfl hl' ho' rfl (by repeat first | exact Sw.here | apply Sw.there) (by exact upd_all hl'.symm) ?_
  refine seq_done (nrm_seq (tri_ret (ret_seq (ret_fin1 (res_cell rfl (load_a rfl rfl (at_blk_all (by repeat first | exact mH | apply mT)) hl')) ?_))))
  (rw [mPut_nil]; exact ⟨rfl, cells', F', rfl, hs', hnd'⟩)
 | cons i is ih =>
  intro t x y G cells xcells p c hat hts hxs hr hx hp
  have hone := hr.one
  have hlx := hx.len
  have hox := hx.one
  have hC := l2Copy_fn t G cells hts hr
  obtain ⟨k, nm, num, ⟨tk, tks⟩, ⟨fk, fks⟩, lb, ks⟩ := t
  obtain ⟨j, rfl, hj, haj⟩ := tAt_some hat
  simp only [Tm.ks] at hj haj
  simp only [Tm.small] at hts
  obtain ⟨hnm, hty', hfr', hsm, hks⟩ := hts
  obtain ⟨pt, ct, pf, cf, pk, ck, es, rfl, hk, hnum, hlb, hty, hfr, hsl, hkl⟩ := hr.open9
  have hn := hsl.le
  have hpn := hp.le
  obtain ⟨pb, po, pv, rfl, hpv, hatp, hpg⟩ := hp.kid (i := 0) (by simp)
  obtain rfl : pv = .int .i64 (j : Int) := by simpa [ints] using hpv.symm
  have hpt := hp.from (l := 1) (by simp)
  rw [show (ints ((j : Int) :: is)).drop (1 * 1) = ints is from rfl] at hpt
  obtain ⟨kb, ko, ke, hpk, hlk, hatk, hrk, hgk⟩ := hsl.kidTm hkl (i := j) hj hj
  subst hpk
  have hok := hrk.one
  rw [mPut_go hj]
  simp only [List.length_cons] at hpt ⊢
  refine fn_enter Tryz.func30 rfl Tryz.ntmps30 Tryz.results30 rfl ?_
  intro w0
  refine tri_seq (tri_region ?_)
  (refine seq_step (step_box_a rfl rfl) rfl ?_; rintro _ ⟨b3, rfl⟩)
  (refine seq_step (step_box_a rfl rfl) rfl ?_; rintro _ ⟨b4, rfl⟩)
  (refine seq_step (step_alloc rfl) rfl ?_; rintro _ ⟨b5, rfl⟩)
  refine seq_done (nrm_seq (tri_seq (tri_seq (tri_region (seq_pure (pure_move rfl) rfl rfl ?_)))))
  refine seq_pure (pure_len rfl rfl) rfl rfl ?_
  refine seq_pure (pure_eql_f rfl rfl (by omega)) rfl rfl ?_
  refine seq_done (nrm_seq (tri_cond_f rfl ?_))
  refine tri_skip (nrm_seq (tri_seq (tri_region (seq_load (load_ba rfl rfl (by repeat first | exact mH | apply mT) (by rfl)) rfl rfl ?_))))
  (refine seq_imm rfl hC rfl rfl (fun v G1 hle1 hh => ?_); obtain ⟨cells1, F1, rfl, hs1, hn1⟩ := hh; simp only [STm] at hs1; obtain ⟨tc, fc, p1, c1, es1, Ft, Ff, Fs, rfl, _, _, _, ht1, hf1, hsl1, hkl1, rfl, hg1⟩ := hs1; obtain ⟨p7, c7, rfl, _⟩ := ht1.open; obtain ⟨p8, c8, rfl, _⟩ := hf1.open; simp only [Ty.k, Ty.ks, List.cons_append, List.nil_append]; obtain ⟨bc, A, C, rfl, hgb⟩ := hsl1.sl.blk (fun h0 => by have hq := hsl1.sl.1; rw [h0] at hq; simp at hq; omega); have hc1 := hsl1.sl.2.1; have hm1 := hsl1.sl.2.2.1; have hGb : G bc = none := Dif.out (by rw [hgb]; simp); have hGle : IMle G (Wo G1 [bc]) := Wo.keep hle1 (fun b hb => by simp at hb; subst hb; exact hGb); have hih := ih ks[j] x y (Wo G1 [bc]) ke xcells _ _ haj (Tm.smallL_mem hks _ (List.getElem_mem hj)) hxs (hrk.mono hGle) (hx.mono hGle) (by rw [show is.length = (((j : Int) :: is).length - 1) from rfl]; exact hpt.mono hGle))
  (refine seq_step (step_alloc rfl) rfl ?_; rintro _ ⟨b23, rfl⟩)
  refine seq_store rfl rfl rfl rfl rfl rfl (by repeat first | exact Sw.here | apply Sw.there) (by rfl) ?_
  refine seq_done (nrm_seq (tri_seq ?_))
  (refine tri_thaw [(bc, A ++ (es1.flatten ++ C))] (by simp) (by simp only [List.mem_singleton, forall_eq]; exact ⟨Dif.le _ _ _ _ hgb, hGb⟩) ?_; refine tri_draw mixed rfl ?_)
  refine any_pure (i := 0) (listed' := [tt,ff,ff,ff,ff,ff,ff,ff,ff,ff,ff,ff,ff,ff,ff,ff,ff,ff]) rfl npI (pure_fieldAddr0 rfl) rfl (by kernel_rfl) rfl rfl ?_
  refine any_load (i := 1) (listed' := [tt,tt,ff,ff,ff,ff,ff,ff,ff,ff,ff,ff,ff,ff,ff,ff,ff,ff]) rfl npI (load_bs rfl rfl (by repeat first | exact mH | apply mT) (by rfl)) rfl (by kernel_rfl) rfl rfl ?_
  refine any_pure (i := 2) (listed' := [tt,tt,tt,ff,ff,ff,ff,ff,ff,ff,ff,ff,ff,ff,ff,ff,ff,ff]) rfl npI (pure_move rfl) rfl (by kernel_rfl) rfl rfl ?_
  refine any_pure (i := 3) (listed' := [tt,tt,tt,tt,ff,ff,ff,ff,ff,ff,ff,ff,ff,ff,ff,ff,ff,ff]) rfl npI (pure_indexAddrN (j := 0) rfl rfl rfl (by omega)) rfl (by kernel_rfl) rfl rfl ?_
  refine any_load (i := 4) (listed' := [tt,tt,tt,tt,tt,ff,ff,ff,ff,ff,ff,ff,ff,ff,ff,ff,ff,ff]) rfl npI (load_s rfl rfl (At.mono' hGle (hatp []))) rfl (by kernel_rfl) rfl rfl ?_
  refine any_pure (i := 5) (listed' := [tt,tt,tt,tt,tt,tt,ff,ff,ff,ff,ff,ff,ff,ff,ff,ff,ff,ff]) rfl npI (pure_fieldAddr0 rfl) rfl (by kernel_rfl) rfl rfl ?_
  refine any_load (i := 6) (listed' := [tt,tt,tt,tt,tt,tt,tt,ff,ff,ff,ff,ff,ff,ff,ff,ff,ff,ff]) rfl npI (load_bs rfl rfl (by repeat first | exact mH | apply mT) (by rfl)) rfl (by kernel_rfl) rfl rfl ?_
  refine any_pure (i := 7) (listed' := [tt,tt,tt,tt,tt,tt,tt,tt,ff,ff,ff,ff,ff,ff,ff,ff,ff,ff]) rfl npI (pure_move rfl) rfl (by kernel_rfl) rfl rfl ?_
  refine any_pure (i := 8) (listed' := [tt,tt,tt,tt,tt,tt,tt,tt,tt,ff,ff,ff,ff,ff,ff,ff,ff,ff]) rfl npI (pure_indexAddrN (j := 0) rfl rfl rfl (by omega)) rfl (by kernel_rfl) rfl rfl ?_
  refine any_load (i := 9) (listed' := [tt,tt,tt,tt,tt,tt,tt,tt,tt,tt,ff,ff,ff,ff,ff,ff,ff,ff]) rfl npI (load_s rfl rfl (At.mono' hGle (hatp []))) rfl (by kernel_rfl) rfl rfl ?_
  refine any_pure (i := 10) (listed' := [tt,tt,tt,tt,tt,tt,tt,tt,tt,tt,tt,ff,ff,ff,ff,ff,ff,ff]) rfl npI (pure_indexAddrN (j := j) rfl rfl rfl (by omega)) rfl (by kernel_rfl) rfl rfl ?_
  refine any_load (i := 11) (listed' := [tt,tt,tt,tt,tt,tt,tt,tt,tt,tt,tt,tt,ff,ff,ff,ff,ff,ff]) rfl npI (load_a rfl rfl (At.mono' hGle (hatk [])) hlk) rfl (by kernel_rfl) rfl rfl ?_
  refine any_pure (i := 12) (listed' := [tt,tt,tt,tt,tt,tt,tt,tt,tt,tt,tt,tt,tt,ff,ff,ff,ff,ff]) rfl npI (pure_move rfl) rfl (by kernel_rfl) rfl rfl ?_
  refine any_pure (i := 13) (listed' := [tt,tt,tt,tt,tt,tt,tt,tt,tt,tt,tt,tt,tt,tt,ff,ff,ff,ff]) rfl npI (pure_slice_from (l := 1) rfl rfl rfl (by omega)) rfl (by kernel_rfl) rfl rfl ?_
  refine any_load (i := 14) (listed' := [tt,tt,tt,tt,tt,tt,tt,tt,tt,tt,tt,tt,tt,tt,tt,ff,ff,ff]) rfl npI (load_a rfl rfl (at_blk_all (by repeat first | exact mH | apply mT)) (by assumption)) rfl (by kernel_rfl) rfl rfl ?_
  refine any_one (j := 15) (by kernel_rfl) ?_
  (refine one_imm (listed' := [tt,tt,tt,tt,tt,tt,tt,tt,tt,tt,tt,tt,tt,tt,tt,tt,ff,ff]) rfl rfl hih rfl rfl rfl (fun v2 G2 hle2 hh => ?_); obtain ⟨yc, F', rfl, hsy, hny⟩ := hh; have hly := hsy.R.len; have hoy := hsy.R.one)
  refine any_pure (i := 16) (listed' := [tt,tt,tt,tt,tt,tt,tt,tt,tt,tt,tt,tt,tt,tt,tt,tt,tt,ff]) rfl npI (pure_indexAddrN (j := j) rfl rfl rfl (by omega)) rfl (by kernel_rfl) rfl rfl ?_
  refine any_one (j := 17) (by kernel_rfl) ?_
  refine one_store rfl rfl rfl rfl hly hoy rfl rfl (by kernel_rfl) (by repeat first | exact Sw.here | apply Sw.there) (by exact upd_setA (by rw [hkl1.R.len]; omega) (fun e he => (hsl1.all e he)) hly) ?_
  refine any_done (by kernel_rfl) ?_
  refine nrm_seq (tri_seq (tri_region (seq_load (load_ba rfl rfl (by repeat first | exact mH | apply mT) (by rfl)) rfl rfl ?_)))
  refine seq_store rfl rfl rfl rfl rfl rfl (by repeat first | exact Sw.here | apply Sw.there) (by rfl) ?_
  refine seq_done (nrm_seq ?_)
  (refine tri_freezes (bs := [(bc, A ++ ((es1.set j yc).flatten ++ C))]) (Pk.perm (by repeat (first | exact Pk.here | apply Pk.there))) (fun hn2 hd2 hle3 => ?_))
  refine tri_ret (ret_fin1 (res_cell rfl (load_ba rfl rfl (by repeat first | exact mH | apply mT) (by rfl))) ?_)
  (obtain ⟨F, hf1, hf2⟩ := STm.repl (nm := nm) (j := j) hk hnum hlb hle1 ht1 hf1 hkl1 hgb (by simpa [vfp] using hn1) hj hc1 hm1 hle2 hsy hny (hd2 _ List.mem_cons_self) hle3 (Wi.in hn2 List.mem_cons_self); rw [List.length_set] at hf1; exact ⟨rfl, _, F, rfl, hf1, hf2⟩)
end Gw
end Go.Proofs.YtgclbnfdlddpnaaGreat
namespace Go.Proofs.YtgclbnfdlddpnaaGreat
open Go Go.RowKit
namespace Gw
theorem SlE.kidD {G : IM} {p : Option Addr} {n c : Nat} {es : List (List Value)} {ks : List Ty} (h : SlE G p n c 2 es) (hk : RTyL G ks es) {i : Nat} (hi : i < n) (hn : i < ks.length) :
  ∃ b o q d, p = some ⟨b, o, none⟩ ∧ (∀ hp, At hp G b (o + i * 2) [.int .i64 (ks.getD i ty0).k, .slice q (ks.getD i ty0).ks.length d]) ∧ RTy G (ks.getD i ty0) [.int .i64 (ks.getD i ty0).k, .slice q (ks.getD i ty0).ks.length d] ∧ G b ≠ none := by
 obtain ⟨b, o, q, d, h1, h2, h3, h4⟩ := h.kidTy hk hi hn
 rw [List.getD_eq_getElem?_getD, List.getElem?_eq_getElem hn, Option.getD_some]
 exact ⟨b, o, q, d, h1, h2, h3, h4⟩
theorem getD_ar {hs : List Ty} (h : ∀ t ∈ hs, tAr t) {i : Nat} (hi : i < hs.length) : tAr (hs.getD i ty0) := by
 rw [List.getD_eq_getElem?_getD, List.getElem?_eq_getElem hi, Option.getD_some]
 exact h _ (List.getElem_mem hi)
/-- What a node wants, and its type. -/
def WtP (r : Option (List Ty × Ty)) (G : IM) : IM → Value → List Ent → Prop := Imm fun G' v => ∃ p n c es w cu u, v = .tuple ⟨[.slice p n c, .agg ⟨cu⟩, .bool r.isSome]⟩ ∧ n = w.length ∧ SlE G' p n c 2 es ∧ RTyL G' w es ∧ RTy G' u cu ∧ ∀ q, r = some q → q = (w, u)
theorem WtP.mk {r : Option (List Ty × Ty)} {G G' : IM} {p : Option Addr} {n c : Nat} {es : List (List Value)} {w : List Ty} {cu : List Value} {u : Ty} {b : Bool} (hl : n = w.length) (hs : Sl G' p n c 2 es.flatten) (hw : RTyL G' w es) (hu : RTy G' u cu) (h : r = if b = true then some (w, u) else none) :
  WtP r G G' (.tuple ⟨[.slice p n c, .agg ⟨cu⟩, .bool b]⟩) [] := by
 refine ⟨rfl, p, n, c, es, w, cu, u, ?_, hl, SlE.of hs (by rw [hw.len, hl]) hw.all (fun e he => (hw.each e he).2), hw, hu, ?_⟩
 ·subst h; cases b <;> rfl
 ·subst h; cases b
  ·simp
  ·intro q hq; simpa using hq.symm
theorem WtP.nil {r : Option (List Ty × Ty)} {G G' : IM} {cu : List Value} {u : Ty} {b : Bool} (hu : RTy G' u cu) (h : r = if b = true then some ([], u) else none) :
  WtP r G G' (.tuple ⟨[.slice none 0 0, .agg ⟨cu⟩, .bool b]⟩) [] := WtP.mk (es := []) rfl (Sl.nil _ _) (by simp [RTyL]) hu h
theorem WtP.one {r : Option (List Ty × Ty)} {G G' : IM} {p : Option Addr} {c : Nat} {a : Ty} {ca : List Value} {cu : List Value} {u : Ty} {b : Bool} (hs : Sl G' p 1 c 2 ca) (ha : RTy G' a ca) (hu : RTy G' u cu) (h : r = if b = true then some ([a], u) else none) :
  WtP r G G' (.tuple ⟨[.slice p 1 c, .agg ⟨cu⟩, .bool b]⟩) [] := WtP.mk (es := [ca]) (w := [a]) rfl (by simpa using hs) ⟨_, _, rfl, ha, rfl⟩ hu h
theorem WtP.two {r : Option (List Ty × Ty)} {G G' : IM} {p : Option Addr} {c : Nat} {a a2 : Ty} {ca ca2 : List Value} {cu : List Value} {u : Ty} {b : Bool} (hs : Sl G' p 2 c 2 (ca ++ ca2)) (ha : RTy G' a ca) (ha2 : RTy G' a2 ca2) (hu : RTy G' u cu) (h : r = if b = true then some ([a, a2], u) else none) :
  WtP r G G' (.tuple ⟨[.slice p 2 c, .agg ⟨cu⟩, .bool b]⟩) [] := WtP.mk (es := [ca, ca2]) (w := [a, a2]) rfl (by simpa using hs) ⟨_, _, rfl, ha, _, _, rfl, ha2, rfl⟩ hu h
theorem WtP.three {r : Option (List Ty × Ty)} {G G' : IM} {p : Option Addr} {c : Nat} {a a2 a3 : Ty} {ca ca2 ca3 : List Value} {cu : List Value} {u : Ty} {b : Bool} (hs : Sl G' p 3 c 2 (ca ++ (ca2 ++ ca3))) (ha : RTy G' a ca) (ha2 : RTy G' a2 ca2) (ha3 : RTy G' a3 ca3) (hu : RTy G' u cu) (h : r = if b = true then some ([a, a2, a3], u) else none) :
  WtP r G G' (.tuple ⟨[.slice p 3 c, .agg ⟨cu⟩, .bool b]⟩) [] := WtP.mk (es := [ca, ca2, ca3]) (w := [a, a2, a3]) rfl (by simpa using hs) ⟨_, _, rfl, ha, _, _, rfl, ha2, _, _, rfl, ha3, rfl⟩ hu h
section
variable {cx : Cx} {nm : ByteArray} {ty : Ty} {h : List Ty}
theorem mW1 : mWanted cx 1 nm ty h = match mLook cx nm with | some t => some ([], t) | none => none := rfl
theorem mW2 : mWanted cx 2 nm ty h = some ([], tyInt) := rfl
theorem mW34 {k : Int} (hk : k = 3 ∨ k = 4) : mWanted cx k nm ty h = some ([], tyBool) := by rcases hk with rfl | rfl <;> rfl
theorem mW5 : mWanted cx 5 nm ty h = some ([], .mk 4 [ty, h.getD 0 ty0]) := rfl
theorem mW6 : mWanted cx 6 nm ty h = match mMatch 4 (h.getD 0 ty0) with | some (a, b) => if tCons (h.getD 1 ty0) a = true then some ([.mk 4 [a, b], a], b) else none | none => none := rfl
theorem mW78 {k : Int} (hk : k = 7 ∨ k = 8) : mWanted cx k nm ty h = if tCons (h.getD 0 ty0) tyInt = true ∧ tCons (h.getD 1 ty0) tyInt = true then some ([tyInt, tyInt], if k = 8 then tyBool else tyInt) else none := by rcases hk with rfl | rfl <;> rfl
theorem mW9 : mWanted cx 9 nm ty h = if tCons (h.getD 0 ty0) tyBool = true ∧ tCons (h.getD 1 ty0) (h.getD 2 ty0) = true then some ([tyBool, mMeet (h.getD 1 ty0) (h.getD 2 ty0), mMeet (h.getD 1 ty0) (h.getD 2 ty0)], mMeet (h.getD 1 ty0) (h.getD 2 ty0)) else none := rfl
theorem mW10 : mWanted cx 10 nm ty h = some ([], .mk 5 [h.getD 0 ty0, h.getD 1 ty0]) := rfl
theorem mW13 : mWanted cx 13 nm ty h = if tCons (h.getD 0 ty0) ty = true then some ([ty], ty) else none := rfl
theorem mW11 {k : Int} (hk : k = 11 ∨ k = 12) : mWanted cx k nm ty h = match mMatch 5 (h.getD 0 ty0) with | some (a, b) => some ([.mk 5 [a, b]], if k = 12 then b else a) | none => none := by rcases hk with rfl | rfl <;> rfl
end
theorem tyInt_r (G : IM) : RTy G tyInt [.int .i64 2, .slice none 0 0] := tyLeaf_r G ⟨by omega, by omega⟩
theorem tyBool_r (G : IM) : RTy G tyBool [.int .i64 3, .slice none 0 0] := tyLeaf_r G ⟨by omega, by omega⟩
set_option maxHeartbeats 0 in
set_option maxRecDepth 100000 in
theorem wanted_fn (cx : Cx) (k : Int) (nm : ByteArray) (num : Int) (ty fr : Ty) (lb : Int) (ks : List Tm) (h : List Ty) (G : IM) (pc : Option Addr) (nc cc : Nat) (cells : List Value) (p : Option Addr) (n c : Nat) (es : List (List Value))
  (hx : RCx G cx pc nc cc) (hops : tmOps k = n) (hnl : n = h.length) (hk14 : k ≠ 14) (hta : tAr ty) (hr : RTm G (.mk k nm num ty fr lb ks) cells) (hsl : SlE G p n c 2 es) (hkl : RTyL G h es) (har : ∀ t ∈ h, tAr t) :
  Fn Tryz.prog 69 [.slice pc nc cc, .agg ⟨cells⟩, .slice p n c] [] G (WtP (mWanted cx k nm ty h) G) := by
 have hone := hr.one
 have hop := tm_ops hops
 have hkr : 1 ≤ k ∧ k ≤ 14 := by
  apply Classical.byContradiction
  intro hc
  rw [tmOps_no hc] at hops; omega
 obtain ⟨tyk, tyks⟩ := ty
 obtain ⟨fk, fks⟩ := fr
 obtain ⟨pt, ct, pf, cf, pk, ck, ek, rfl, hk, hnum, hlb, hrty, hrfr, _, _⟩ := hr.open9
 refine fn_enter Tryz.func69 rfl Tryz.ntmps69 Tryz.results69 rfl ?_
 intro w0
 refine tri_seq (tri_region ?_)
 (refine seq_step (step_box_a rfl rfl) rfl ?_; rintro _ ⟨b3, rfl⟩)
 refine seq_pure (pure_assign rfl) rfl rfl ?_
 (refine seq_step (step_alloc rfl) rfl ?_; rintro _ ⟨b5, rfl⟩)
 refine seq_pure (pure_assign rfl) rfl rfl ?_
 refine seq_done (nrm_seq (tri_seq (tri_region (seq_val rfl ((base_fn _ _)) rfl rfl ?_))))
 refine seq_val rfl ((base_fn _ _)) rfl rfl ?_
 (refine seq_step (step_alloc rfl) rfl ?_; rintro _ ⟨b13, rfl⟩)
 (refine seq_step (step_alloc rfl) rfl ?_; rintro _ ⟨b14, rfl⟩)
 refine seq_store rfl rfl rfl rfl rfl rfl (by repeat first | exact Sw.here | apply Sw.there) (by rfl) ?_
 refine seq_store rfl rfl rfl rfl rfl rfl (by repeat first | exact Sw.here | apply Sw.there) (by rfl) ?_
 refine seq_done (nrm_seq (tri_seq (tri_seq (tri_region (seq_pure (pure_fieldAddr0 rfl) rfl rfl ?_)))))
 refine seq_load (load_bs rfl rfl (by repeat first | exact mH | apply mT) (by rfl)) rfl rfl ?_
 refine seq_done (nrm_seq (tri_block (tri_seq (tri_region (seq_bool (pure_eql rfl rfl) rfl rfl (fun h29 => ?_) (fun h29 => ?_))))))
 refine seq_pure (pure_assign rfl) rfl rfl ?_
 refine seq_done (nrm_seq (tri_cond_t rfl ?_))
 refine tri_seq (tri_region (seq_pure (pure_move rfl) rfl rfl ?_))
 refine seq_pure (pure_fieldAddr0 rfl) rfl rfl ?_
 refine seq_load (load_bs rfl rfl (by repeat first | exact mH | apply mT) (by rfl)) rfl rfl ?_
 (refine seq_imm rfl (lookup_fn G cx pc nc cc nm hx) rfl rfl (fun v G1 hle1 hh => ?_); obtain ⟨cu, u, rfl, hru, hu⟩ := hh; obtain ⟨p1, c1, e1, rfl, _⟩ := hru.open)
 refine seq_pure (pure_move rfl) rfl rfl ?_
 refine seq_pure (pure_extract rfl rfl) rfl rfl ?_
 refine seq_pure (pure_extract rfl rfl) rfl rfl ?_
 (refine seq_step (step_alloc rfl) rfl ?_; rintro _ ⟨b43, rfl⟩)
 refine seq_store rfl rfl rfl rfl rfl rfl (by repeat first | exact Sw.here | apply Sw.there) (by rfl) ?_
 refine seq_pure (pure_assign rfl) rfl rfl ?_
 refine seq_done (nrm_seq (tri_seq (tri_draw mixed rfl ?_)))
 refine any_load (i := 0) (listed' := [tt,ff,ff,ff,ff]) rfl npI (load_ba rfl rfl (by repeat first | exact mH | apply mT) (by rfl)) rfl (by kernel_rfl) rfl rfl ?_
 refine any_pure (i := 1) (listed' := [tt,tt,ff,ff,ff]) rfl npI (pure_move rfl) rfl (by kernel_rfl) rfl rfl ?_
 refine any_pure (i := 2) (listed' := [tt,tt,tt,ff,ff]) rfl npI (pure_assign rfl) rfl (by kernel_rfl) rfl rfl ?_
 refine any_one (j := 3) (by kernel_rfl) ?_
 refine one_storeM (listed' := [tt,tt,tt,tt,ff]) rfl rfl rfl rfl rfl rfl rfl rfl (by repeat first | exact Sw.here | apply Sw.there) (by rfl) (by repeat (first | exact HmOk.nil | apply HmOk.dep (by decide +kernel) | apply HmOk.im (by decide +kernel) (by assumption) (by repeat first | exact mH | apply mT) | apply HmOk.blk (by decide +kernel) (by repeat (first | exact Pk.here | apply Pk.there)) (by repeat first | exact mH | apply mT))) ?_
 refine any_pure (i := 4) (listed' := [tt,tt,tt,tt,tt]) rfl npI (pure_assign rfl) rfl (by kernel_rfl) rfl rfl ?_
 refine any_done (by kernel_rfl) ?_
 refine nrm_seq (tri_ret (ret_block (ret_seq (ret_fin3 (res_tmp rfl) (res_cell rfl (load_ba rfl rfl (by repeat first | exact mH | apply mT) (by rfl))) (res_tmp rfl) ?_))))
 (have hk1 : k = 1 := (by omega); subst hk1; rw [mW1]; refine WtP.nil hru ?_; generalize mLook cx nm = r at hu ⊢; cases r with | none => rfl | some t => (rw [hu t rfl]; rfl))
 refine seq_pure (pure_assign rfl) rfl rfl ?_
 refine seq_done (nrm_seq (tri_cond_f rfl ?_))
 refine tri_seq (tri_region (seq_bool (pure_eql rfl rfl) rfl rfl (fun h69 => ?_) (fun h69 => ?_)))
 refine seq_pure (pure_assign rfl) rfl rfl ?_
 refine seq_done (nrm_seq (tri_cond_t rfl ?_))
 refine tri_seq (tri_draw mixed rfl ?_)
 refine any_load (i := 0) (listed' := [tt,ff,ff,ff]) rfl npI (load_ba rfl rfl (by repeat first | exact mH | apply mT) (by rfl)) rfl (by kernel_rfl) rfl rfl ?_
 refine any_pure (i := 1) (listed' := [tt,tt,ff,ff]) rfl npI (pure_assign rfl) rfl (by kernel_rfl) rfl rfl ?_
 refine any_one (j := 2) (by kernel_rfl) ?_
 refine one_storeM (listed' := [tt,tt,tt,ff]) rfl rfl rfl rfl rfl rfl rfl rfl (by repeat first | exact Sw.here | apply Sw.there) (by rfl) (by repeat (first | exact HmOk.nil | apply HmOk.dep (by decide +kernel) | apply HmOk.im (by decide +kernel) (by assumption) (by repeat first | exact mH | apply mT) | apply HmOk.blk (by decide +kernel) (by repeat (first | exact Pk.here | apply Pk.there)) (by repeat first | exact mH | apply mT))) ?_
 refine any_pure (i := 3) (listed' := [tt,tt,tt,tt]) rfl npI (pure_assign rfl) rfl (by kernel_rfl) rfl rfl ?_
 refine any_done (by kernel_rfl) ?_
 refine nrm_seq (tri_ret (ret_block (ret_seq (ret_fin3 (res_tmp rfl) (res_cell rfl (load_ba rfl rfl (by repeat first | exact mH | apply mT) (by rfl))) (res_tmp rfl) ?_))))
 (have hk1 : k = 2 := (by omega); subst hk1; exact WtP.nil (tyInt_r _) mW2)
 refine seq_pure (pure_assign rfl) rfl rfl ?_
 refine seq_done (nrm_seq (tri_cond_f rfl ?_))
 refine tri_seq (tri_seq (tri_region (seq_bool (pure_eql rfl rfl) rfl rfl (fun h95 => ?_) (fun h95 => ?_))))
 refine seq_pure (pure_assign rfl) rfl rfl ?_
 refine seq_done (nrm_seq (tri_cond_t rfl ?_))
 refine tri_skip (nrm_seq (tri_cond_t rfl ?_))
 refine tri_seq (tri_draw mixed rfl ?_)
 refine any_load (i := 0) (listed' := [tt,ff,ff,ff]) rfl npI (load_ba rfl rfl (by repeat first | exact mH | apply mT) (by rfl)) rfl (by kernel_rfl) rfl rfl ?_
 refine any_pure (i := 1) (listed' := [tt,tt,ff,ff]) rfl npI (pure_assign rfl) rfl (by kernel_rfl) rfl rfl ?_
 refine any_one (j := 2) (by kernel_rfl) ?_
 refine one_storeM (listed' := [tt,tt,tt,ff]) rfl rfl rfl rfl rfl rfl rfl rfl (by repeat first | exact Sw.here | apply Sw.there) (by rfl) (by repeat (first | exact HmOk.nil | apply HmOk.dep (by decide +kernel) | apply HmOk.im (by decide +kernel) (by assumption) (by repeat first | exact mH | apply mT) | apply HmOk.blk (by decide +kernel) (by repeat (first | exact Pk.here | apply Pk.there)) (by repeat first | exact mH | apply mT))) ?_
 refine any_pure (i := 3) (listed' := [tt,tt,tt,tt]) rfl npI (pure_assign rfl) rfl (by kernel_rfl) rfl rfl ?_
 refine any_done (by kernel_rfl) ?_
 refine nrm_seq (tri_ret (ret_block (ret_seq (ret_fin3 (res_tmp rfl) (res_cell rfl (load_ba rfl rfl (by repeat first | exact mH | apply mT) (by rfl))) (res_tmp rfl) ?_))))
 (exact WtP.nil (tyBool_r _) (by rw [mW34 (by omega)]; rfl))
 refine seq_pure (pure_assign rfl) rfl rfl ?_
 refine seq_done (nrm_seq (tri_cond_f rfl ?_))
 refine tri_region (seq_bool (pure_eql rfl rfl) rfl rfl (fun h122 => ?_) (fun h122 => ?_))
 refine seq_pure (pure_assign rfl) rfl rfl ?_
 refine seq_done (nrm_seq (tri_cond_t rfl ?_))
 refine tri_seq (tri_draw mixed rfl ?_)
 refine any_load (i := 0) (listed' := [tt,ff,ff,ff]) rfl npI (load_ba rfl rfl (by repeat first | exact mH | apply mT) (by rfl)) rfl (by kernel_rfl) rfl rfl ?_
 refine any_pure (i := 1) (listed' := [tt,tt,ff,ff]) rfl npI (pure_assign rfl) rfl (by kernel_rfl) rfl rfl ?_
 refine any_one (j := 2) (by kernel_rfl) ?_
 refine one_storeM (listed' := [tt,tt,tt,ff]) rfl rfl rfl rfl rfl rfl rfl rfl (by repeat first | exact Sw.here | apply Sw.there) (by rfl) (by repeat (first | exact HmOk.nil | apply HmOk.dep (by decide +kernel) | apply HmOk.im (by decide +kernel) (by assumption) (by repeat first | exact mH | apply mT) | apply HmOk.blk (by decide +kernel) (by repeat (first | exact Pk.here | apply Pk.there)) (by repeat first | exact mH | apply mT))) ?_
 refine any_pure (i := 3) (listed' := [tt,tt,tt,tt]) rfl npI (pure_assign rfl) rfl (by kernel_rfl) rfl rfl ?_
 refine any_done (by kernel_rfl) ?_
 refine nrm_seq (tri_ret (ret_block (ret_seq (ret_fin3 (res_tmp rfl) (res_cell rfl (load_ba rfl rfl (by repeat first | exact mH | apply mT) (by rfl))) (res_tmp rfl) ?_))))
 (exact WtP.nil (tyBool_r _) (by rw [mW34 (by omega)]; rfl))
 refine seq_pure (pure_assign rfl) rfl rfl ?_
 refine seq_done (nrm_seq (tri_cond_f rfl ?_))
 refine tri_seq (tri_region (seq_bool (pure_eql rfl rfl) rfl rfl (fun h147 => ?_) (fun h147 => ?_)))
 refine seq_pure (pure_assign rfl) rfl rfl ?_
 refine seq_done (nrm_seq (tri_cond_t rfl ?_))
 refine tri_seq ?_
 (have hl1 : n = 1 := hop.2.2 (by omega); obtain ⟨b0, o0, q0, d0, hp0, hat0, hre0, hg0⟩ := hsl.kidD hkl (i := 0) (by omega) (by omega); cases hp0; refine tri_draw mixed rfl ?_)
 refine any_pure (i := 0) (listed' := [tt,ff,ff,ff,ff,ff,ff,ff,ff]) rfl npI (pure_fieldAddr0 rfl) rfl (by kernel_rfl) rfl rfl ?_
 refine any_load (i := 1) (listed' := [tt,tt,ff,ff,ff,ff,ff,ff,ff]) rfl npI (load_ba rfl rfl (by repeat first | exact mH | apply mT) (by rfl)) rfl (by kernel_rfl) rfl rfl ?_
 refine any_pure (i := 2) (listed' := [tt,tt,tt,ff,ff,ff,ff,ff,ff]) rfl npI (pure_move rfl) rfl (by kernel_rfl) rfl rfl ?_
 refine any_pure (i := 3) (listed' := [tt,tt,tt,tt,ff,ff,ff,ff,ff]) rfl npI (pure_indexAddrN (j := 0) rfl rfl rfl (by omega)) rfl (by kernel_rfl) rfl rfl ?_
 refine any_load (i := 4) (listed' := [tt,tt,tt,tt,tt,ff,ff,ff,ff]) rfl npI (load_a rfl rfl (hat0 _) rfl) rfl (by kernel_rfl) rfl rfl ?_
 refine any_one (j := 5) (by kernel_rfl) ?_
 (refine one_imm (listed' := [tt,tt,tt,tt,tt,tt,ff,ff,ff]) rfl rfl (both_fn 4 _ _ _ _ _ ⟨by omega, by omega⟩ hrty hre0) rfl rfl rfl (fun v GB hleB hh => ?_); obtain ⟨cB, rfl, hrB⟩ := hh; obtain ⟨p7, c7, e7, rfl, _⟩ := hrB.open)
 refine any_pure (i := 6) (listed' := [tt,tt,tt,tt,tt,tt,tt,ff,ff]) rfl npI (pure_assign rfl) rfl (by kernel_rfl) rfl rfl ?_
 refine any_one (j := 7) (by kernel_rfl) ?_
 refine one_storeM (listed' := [tt,tt,tt,tt,tt,tt,tt,tt,ff]) rfl rfl rfl rfl rfl rfl rfl rfl (by repeat first | exact Sw.here | apply Sw.there) (by rfl) (by repeat (first | exact HmOk.nil | apply HmOk.dep (by decide +kernel) | apply HmOk.im (by decide +kernel) (by assumption) (by repeat first | exact mH | apply mT) | apply HmOk.blk (by decide +kernel) (by repeat (first | exact Pk.here | apply Pk.there)) (by repeat first | exact mH | apply mT))) ?_
 refine any_pure (i := 8) (listed' := [tt,tt,tt,tt,tt,tt,tt,tt,tt]) rfl npI (pure_assign rfl) rfl (by kernel_rfl) rfl rfl ?_
 refine any_done (by kernel_rfl) ?_
 refine nrm_seq (tri_ret (ret_block (ret_seq (ret_fin3 (res_tmp rfl) (res_cell rfl (load_ba rfl rfl (by repeat first | exact mH | apply mT) (by rfl))) (res_tmp rfl) ?_))))
 (have hk1 : k = 5 := (by omega); subst hk1; exact WtP.nil hrB mW5)
 refine seq_pure (pure_assign rfl) rfl rfl ?_
 refine seq_done (nrm_seq (tri_cond_f rfl ?_))
 refine tri_seq (tri_region (seq_bool (pure_eql rfl rfl) rfl rfl (fun h178 => ?_) (fun h178 => ?_)))
 refine seq_pure (pure_assign rfl) rfl rfl ?_
 refine seq_done (nrm_seq (tri_cond_t rfl ?_))
 refine tri_seq (tri_region (seq_pure (pure_move rfl) rfl rfl ?_))
 (have hl2 : n = 2 := hop.1 (by omega); obtain ⟨b0, o0, q0, d0, hp0, hat0, hre0, hg0⟩ := hsl.kidD hkl (i := 0) (by omega) (by omega); cases hp0; refine seq_pure (pure_indexAddrN (j := 0) rfl rfl rfl (by omega)) rfl rfl ?_)
 refine seq_load (load_a rfl rfl (hat0 _) rfl) rfl rfl ?_
 (refine seq_imm rfl (match_fn 4 (h.getD 0 ty0) G _ (.inl rfl) (getD_ar har (by omega)) hre0) rfl rfl (fun v G1 hle1 hh => ?_); obtain ⟨ma, mca, mb, mcb, rfl, hma, hmb, hma2, hmb2, hmm⟩ := hh; obtain ⟨p1, c1, e1, rfl, _⟩ := hma.open; obtain ⟨p2, c2, e2, rfl, _⟩ := hmb.open; replace hsl := hsl.mono hle1; replace hkl := hkl.mono hle1; generalize hmi : (mMatch 4 (h.getD 0 ty0)).isSome = mi; cases mi)
 refine seq_pure (pure_move rfl) rfl rfl ?_
 refine seq_pure (pure_extract rfl rfl) rfl rfl ?_
 refine seq_pure (pure_extract rfl rfl) rfl rfl ?_
 refine seq_pure (pure_extract rfl rfl) rfl rfl ?_
 (refine seq_step (step_alloc rfl) rfl ?_; rintro _ ⟨b193, rfl⟩)
 (refine seq_step (step_alloc rfl) rfl ?_; rintro _ ⟨b194, rfl⟩)
 refine seq_store rfl rfl rfl rfl rfl rfl (by repeat first | exact Sw.here | apply Sw.there) (by rfl) ?_
 refine seq_store rfl rfl rfl rfl rfl rfl (by repeat first | exact Sw.here | apply Sw.there) (by rfl) ?_
 refine seq_pure (pure_assign rfl) rfl rfl ?_
 refine seq_done (nrm_seq (tri_seq ?_))
 (have hl2 : n = 2 := hop.1 (by omega); obtain ⟨b0, o0, q0, d0, hp0, hat0, hre0, hg0⟩ := hsl.kidD hkl (i := 0) (by omega) (by omega); obtain ⟨b1, o1, q1, d1, hp1, hat1, hre1, hg1⟩ := hsl.kidD hkl (i := 1) (by omega) (by omega); cases hp0; cases hp1; refine tri_draw mixed rfl ?_)
 refine any_load (i := 0) (listed' := [tt,ff,ff,ff,ff,ff,ff,ff,ff,ff,ff,ff,ff,ff,ff,ff,ff]) rfl npI (load_ba rfl rfl (by repeat first | exact mH | apply mT) (by rfl)) rfl (by kernel_rfl) rfl rfl ?_
 refine any_load (i := 1) (listed' := [tt,tt,ff,ff,ff,ff,ff,ff,ff,ff,ff,ff,ff,ff,ff,ff,ff]) rfl npI (load_ba rfl rfl (by repeat first | exact mH | apply mT) (by rfl)) rfl (by kernel_rfl) rfl rfl ?_
 refine any_load (i := 3) (listed' := [tt,tt,ff,tt,ff,ff,ff,ff,ff,ff,ff,ff,ff,ff,ff,ff,ff]) rfl npI (load_ba rfl rfl (by repeat first | exact mH | apply mT) (by rfl)) rfl (by kernel_rfl) rfl rfl ?_
 refine any_load (i := 5) (listed' := [tt,tt,ff,tt,ff,tt,ff,ff,ff,ff,ff,ff,ff,ff,ff,ff,ff]) rfl npI (load_ba rfl rfl (by repeat first | exact mH | apply mT) (by rfl)) rfl (by kernel_rfl) rfl rfl ?_
 refine any_pure (i := 6) (listed' := [tt,tt,ff,tt,ff,tt,tt,ff,ff,ff,ff,ff,ff,ff,ff,ff,ff]) rfl npI (pure_move rfl) rfl (by kernel_rfl) rfl rfl ?_
 refine any_one (j := 2) (by kernel_rfl) ?_
 (refine one_imm (listed' := [tt,tt,tt,tt,ff,tt,tt,ff,ff,ff,ff,ff,ff,ff,ff,ff,ff]) rfl rfl (both_fn _ ma mb _ _ _ ⟨by omega, by omega⟩ hma hmb) rfl rfl rfl (fun v GB hleB hh => ?_); obtain ⟨cB, rfl, hrB⟩ := hh; obtain ⟨p7, c7, e7, rfl, _⟩ := hrB.open; have hma' := hma.mono hleB; have hmb' := hmb.mono hleB)
 refine any_pure (i := 7) (listed' := [tt,tt,tt,tt,ff,tt,tt,tt,ff,ff,ff,ff,ff,ff,ff,ff,ff]) rfl npI (pure_move rfl) rfl (by kernel_rfl) rfl rfl ?_
 refine any_skip (i := 8) (listed' := [tt,tt,tt,tt,ff,tt,tt,tt,tt,ff,ff,ff,ff,ff,ff,ff,ff]) rfl npI rfl (by kernel_rfl) rfl rfl ?_
 refine any_skip (i := 9) (listed' := [tt,tt,tt,tt,ff,tt,tt,tt,tt,tt,ff,ff,ff,ff,ff,ff,ff]) rfl npI rfl (by kernel_rfl) rfl rfl ?_
 refine any_skip (i := 10) (listed' := [tt,tt,tt,tt,ff,tt,tt,tt,tt,tt,tt,ff,ff,ff,ff,ff,ff]) rfl npI rfl (by kernel_rfl) rfl rfl ?_
 refine any_skip (i := 11) (listed' := [tt,tt,tt,tt,ff,tt,tt,tt,tt,tt,tt,tt,ff,ff,ff,ff,ff]) rfl npI rfl (by kernel_rfl) rfl rfl ?_
 refine any_two (j := 4) (j' := 12) (by kernel_rfl) ?_ ?_
 (refine one_step0 (listed' := [tt,tt,tt,tt,tt,tt,tt,tt,tt,tt,tt,tt,ff,ff,ff,ff,ff]) rfl (step_buildSlice rfl rfl rfl (by omega) (by unfold maxLen; omega) rfl) rfl rfl ?_; rintro _ ⟨b215, rfl⟩)
 refine any_skip (i := 12) (listed' := [tt,tt,tt,tt,tt,tt,tt,tt,tt,tt,tt,tt,tt,ff,ff,ff,ff]) rfl npI rfl (by kernel_rfl) rfl rfl ?_
 refine any_pure (i := 13) (listed' := [tt,tt,tt,tt,tt,tt,tt,tt,tt,tt,tt,tt,tt,tt,ff,ff,ff]) rfl npI (pure_pick_f rfl rfl) rfl (by kernel_rfl) rfl rfl ?_
 refine any_pure (i := 14) (listed' := [tt,tt,tt,tt,tt,tt,tt,tt,tt,tt,tt,tt,tt,tt,tt,ff,ff]) rfl npI (pure_assign rfl) rfl (by kernel_rfl) rfl rfl ?_
 refine any_one (j := 15) (by kernel_rfl) ?_
 refine one_storeM (listed' := [tt,tt,tt,tt,tt,tt,tt,tt,tt,tt,tt,tt,tt,tt,tt,tt,ff]) rfl rfl rfl rfl rfl rfl rfl rfl (by repeat first | exact Sw.here | apply Sw.there) (by rfl) (by repeat (first | exact HmOk.nil | apply HmOk.dep (by decide +kernel) | apply HmOk.im (by decide +kernel) (by assumption) (by repeat first | exact mH | apply mT) | apply HmOk.blk (by decide +kernel) (by repeat (first | exact Pk.here | apply Pk.there)) (by repeat first | exact mH | apply mT))) ?_
 refine any_pure (i := 16) (listed' := [tt,tt,tt,tt,tt,tt,tt,tt,tt,tt,tt,tt,tt,tt,tt,tt,tt]) rfl npI (pure_assign rfl) rfl (by kernel_rfl) rfl rfl ?_
 refine any_done (by kernel_rfl) ?_
 refine nrm_seq ?_
 (refine ret_freeze Pk.here (fun G5 hle5 hsl5 hno5 => ?_))
 refine tri_ret (ret_block (ret_seq (ret_fin3 (res_tmp rfl) (res_cell rfl (load_ba rfl rfl (by repeat first | exact mH | apply mT) (by rfl))) (res_tmp rfl) ?_)))
 (have hk1 : k = 6 := (by omega); subst hk1; refine WtP.two hsl5 (hrB.mono hle5) (hma'.mono hle5) (hmb'.mono hle5) ?_; rw [mW6]; cases hq : mMatch 4 (h.getD 0 ty0) with | none => rfl | some q => (rw [hq] at hmi; cases hmi))
 refine one_skip (listed' := [tt,tt,tt,tt,ff,tt,tt,tt,tt,tt,tt,tt,tt,ff,ff,ff,ff]) rfl rfl rfl rfl ?_
 refine any_pure (i := 13) (listed' := [tt,tt,tt,tt,ff,tt,tt,tt,tt,tt,tt,tt,tt,tt,ff,ff,ff]) rfl npI (pure_pick_f rfl rfl) rfl (by kernel_rfl) rfl rfl ?_
 refine any_one (j := 4) (by kernel_rfl) ?_
 (refine one_step0 (listed' := [tt,tt,tt,tt,tt,tt,tt,tt,tt,tt,tt,tt,tt,tt,ff,ff,ff]) rfl (step_buildSlice rfl rfl rfl (by omega) (by unfold maxLen; omega) rfl) rfl rfl ?_; rintro _ ⟨b233, rfl⟩)
 refine any_pure (i := 14) (listed' := [tt,tt,tt,tt,tt,tt,tt,tt,tt,tt,tt,tt,tt,tt,tt,ff,ff]) rfl npI (pure_assign rfl) rfl (by kernel_rfl) rfl rfl ?_
 refine any_one (j := 15) (by kernel_rfl) ?_
 refine one_storeM (listed' := [tt,tt,tt,tt,tt,tt,tt,tt,tt,tt,tt,tt,tt,tt,tt,tt,ff]) rfl rfl rfl rfl rfl rfl rfl rfl (by repeat first | exact Sw.here | apply Sw.there) (by rfl) (by repeat (first | exact HmOk.nil | apply HmOk.dep (by decide +kernel) | apply HmOk.im (by decide +kernel) (by assumption) (by repeat first | exact mH | apply mT) | apply HmOk.blk (by decide +kernel) (by repeat (first | exact Pk.here | apply Pk.there)) (by repeat first | exact mH | apply mT))) ?_
 refine any_pure (i := 16) (listed' := [tt,tt,tt,tt,tt,tt,tt,tt,tt,tt,tt,tt,tt,tt,tt,tt,tt]) rfl npI (pure_assign rfl) rfl (by kernel_rfl) rfl rfl ?_
 refine any_done (by kernel_rfl) ?_
 refine nrm_seq ?_
 (refine ret_freeze Pk.here (fun G5 hle5 hsl5 hno5 => ?_))
 refine tri_ret (ret_block (ret_seq (ret_fin3 (res_tmp rfl) (res_cell rfl (load_ba rfl rfl (by repeat first | exact mH | apply mT) (by rfl))) (res_tmp rfl) ?_)))
 (have hk1 : k = 6 := (by omega); subst hk1; refine WtP.two hsl5 (hrB.mono hle5) (hma'.mono hle5) (hmb'.mono hle5) ?_; rw [mW6]; cases hq : mMatch 4 (h.getD 0 ty0) with | none => rfl | some q => (rw [hq] at hmi; cases hmi))
 refine seq_pure (pure_move rfl) rfl rfl ?_
 refine seq_pure (pure_extract rfl rfl) rfl rfl ?_
 refine seq_pure (pure_extract rfl rfl) rfl rfl ?_
 refine seq_pure (pure_extract rfl rfl) rfl rfl ?_
 (refine seq_step (step_alloc rfl) rfl ?_; rintro _ ⟨b250, rfl⟩)
 (refine seq_step (step_alloc rfl) rfl ?_; rintro _ ⟨b251, rfl⟩)
 refine seq_store rfl rfl rfl rfl rfl rfl (by repeat first | exact Sw.here | apply Sw.there) (by rfl) ?_
 refine seq_store rfl rfl rfl rfl rfl rfl (by repeat first | exact Sw.here | apply Sw.there) (by rfl) ?_
 refine seq_pure (pure_assign rfl) rfl rfl ?_
 refine seq_done (nrm_seq (tri_seq ?_))
 (have hl2 : n = 2 := hop.1 (by omega); obtain ⟨b0, o0, q0, d0, hp0, hat0, hre0, hg0⟩ := hsl.kidD hkl (i := 0) (by omega) (by omega); obtain ⟨b1, o1, q1, d1, hp1, hat1, hre1, hg1⟩ := hsl.kidD hkl (i := 1) (by omega) (by omega); cases hp0; cases hp1; refine tri_draw mixed rfl ?_)
 refine any_load (i := 0) (listed' := [tt,ff,ff,ff,ff,ff,ff,ff,ff,ff,ff,ff,ff,ff,ff,ff,ff]) rfl npI (load_ba rfl rfl (by repeat first | exact mH | apply mT) (by rfl)) rfl (by kernel_rfl) rfl rfl ?_
 refine any_load (i := 1) (listed' := [tt,tt,ff,ff,ff,ff,ff,ff,ff,ff,ff,ff,ff,ff,ff,ff,ff]) rfl npI (load_ba rfl rfl (by repeat first | exact mH | apply mT) (by rfl)) rfl (by kernel_rfl) rfl rfl ?_
 refine any_load (i := 3) (listed' := [tt,tt,ff,tt,ff,ff,ff,ff,ff,ff,ff,ff,ff,ff,ff,ff,ff]) rfl npI (load_ba rfl rfl (by repeat first | exact mH | apply mT) (by rfl)) rfl (by kernel_rfl) rfl rfl ?_
 refine any_load (i := 5) (listed' := [tt,tt,ff,tt,ff,tt,ff,ff,ff,ff,ff,ff,ff,ff,ff,ff,ff]) rfl npI (load_ba rfl rfl (by repeat first | exact mH | apply mT) (by rfl)) rfl (by kernel_rfl) rfl rfl ?_
 refine any_pure (i := 6) (listed' := [tt,tt,ff,tt,ff,tt,tt,ff,ff,ff,ff,ff,ff,ff,ff,ff,ff]) rfl npI (pure_move rfl) rfl (by kernel_rfl) rfl rfl ?_
 refine any_one (j := 2) (by kernel_rfl) ?_
 (refine one_imm (listed' := [tt,tt,tt,tt,ff,tt,tt,ff,ff,ff,ff,ff,ff,ff,ff,ff,ff]) rfl rfl (both_fn _ ma mb _ _ _ ⟨by omega, by omega⟩ hma hmb) rfl rfl rfl (fun v GB hleB hh => ?_); obtain ⟨cB, rfl, hrB⟩ := hh; obtain ⟨p7, c7, e7, rfl, _⟩ := hrB.open; have hma' := hma.mono hleB; have hmb' := hmb.mono hleB)
 refine any_pure (i := 7) (listed' := [tt,tt,tt,tt,ff,tt,tt,tt,ff,ff,ff,ff,ff,ff,ff,ff,ff]) rfl npI (pure_move rfl) rfl (by kernel_rfl) rfl rfl ?_
 refine any_pure (i := 8) (listed' := [tt,tt,tt,tt,ff,tt,tt,tt,tt,ff,ff,ff,ff,ff,ff,ff,ff]) rfl npI (pure_move rfl) rfl (by kernel_rfl) rfl rfl ?_
 refine any_pure (i := 9) (listed' := [tt,tt,tt,tt,ff,tt,tt,tt,tt,tt,ff,ff,ff,ff,ff,ff,ff]) rfl npI (pure_indexAddrN (j := 1) rfl rfl rfl (by omega)) rfl (by kernel_rfl) rfl rfl ?_
 refine any_load (i := 10) (listed' := [tt,tt,tt,tt,ff,tt,tt,tt,tt,tt,tt,ff,ff,ff,ff,ff,ff]) rfl npI (load_a rfl rfl (At.mono' hleB (hat1 _)) rfl) rfl (by kernel_rfl) rfl rfl ?_
 refine any_load (i := 11) (listed' := [tt,tt,tt,tt,ff,tt,tt,tt,tt,tt,tt,tt,ff,ff,ff,ff,ff]) rfl npI (load_ba rfl rfl (by repeat first | exact mH | apply mT) (by rfl)) rfl (by kernel_rfl) rfl rfl ?_
 refine any_two (j := 4) (j' := 12) (by kernel_rfl) ?_ ?_
 (refine one_step0 (listed' := [tt,tt,tt,tt,tt,tt,tt,tt,tt,tt,tt,tt,ff,ff,ff,ff,ff]) rfl (step_buildSlice rfl rfl rfl (by omega) (by unfold maxLen; omega) rfl) rfl rfl ?_; rintro _ ⟨b272, rfl⟩)
 refine any_one (j := 12) (by kernel_rfl) ?_
 refine one_valb (listed' := [tt,tt,tt,tt,tt,tt,tt,tt,tt,tt,tt,tt,tt,ff,ff,ff,ff]) rfl rfl ((consistent_fn _ _ _ _ _ (hre1.mono hleB) hma')) rfl rfl rfl (fun h274 => ?_) (fun h274 => ?_)
 refine any_pure (i := 13) (listed' := [tt,tt,tt,tt,tt,tt,tt,tt,tt,tt,tt,tt,tt,tt,ff,ff,ff]) rfl npI (pure_pick_t rfl rfl) rfl (by kernel_rfl) rfl rfl ?_
 refine any_pure (i := 14) (listed' := [tt,tt,tt,tt,tt,tt,tt,tt,tt,tt,tt,tt,tt,tt,tt,ff,ff]) rfl npI (pure_assign rfl) rfl (by kernel_rfl) rfl rfl ?_
 refine any_one (j := 15) (by kernel_rfl) ?_
 refine one_storeM (listed' := [tt,tt,tt,tt,tt,tt,tt,tt,tt,tt,tt,tt,tt,tt,tt,tt,ff]) rfl rfl rfl rfl rfl rfl rfl rfl (by repeat first | exact Sw.here | apply Sw.there) (by rfl) (by repeat (first | exact HmOk.nil | apply HmOk.dep (by decide +kernel) | apply HmOk.im (by decide +kernel) (by assumption) (by repeat first | exact mH | apply mT) | apply HmOk.blk (by decide +kernel) (by repeat (first | exact Pk.here | apply Pk.there)) (by repeat first | exact mH | apply mT))) ?_
 refine any_pure (i := 16) (listed' := [tt,tt,tt,tt,tt,tt,tt,tt,tt,tt,tt,tt,tt,tt,tt,tt,tt]) rfl npI (pure_assign rfl) rfl (by kernel_rfl) rfl rfl ?_
 refine any_done (by kernel_rfl) ?_
 refine nrm_seq ?_
 (refine ret_freeze Pk.here (fun G5 hle5 hsl5 hno5 => ?_))
 refine tri_ret (ret_block (ret_seq (ret_fin3 (res_tmp rfl) (res_cell rfl (load_ba rfl rfl (by repeat first | exact mH | apply mT) (by rfl))) (res_tmp rfl) ?_)))
 (have hk1 : k = 6 := (by omega); subst hk1; refine WtP.two hsl5 (hrB.mono hle5) (hma'.mono hle5) (hmb'.mono hle5) ?_; rw [mW6]; cases hq : mMatch 4 (h.getD 0 ty0) with | none => (rw [hq] at hmi; cases hmi) | some q => (have hq2 := hmm q hq; subst hq2; dsimp only; split <;> first | rfl | (exfalso; simp_all; done)))
 refine any_pure (i := 13) (listed' := [tt,tt,tt,tt,tt,tt,tt,tt,tt,tt,tt,tt,tt,tt,ff,ff,ff]) rfl npI (pure_pick_t rfl rfl) rfl (by kernel_rfl) rfl rfl ?_
 refine any_pure (i := 14) (listed' := [tt,tt,tt,tt,tt,tt,tt,tt,tt,tt,tt,tt,tt,tt,tt,ff,ff]) rfl npI (pure_assign rfl) rfl (by kernel_rfl) rfl rfl ?_
 refine any_one (j := 15) (by kernel_rfl) ?_
 refine one_storeM (listed' := [tt,tt,tt,tt,tt,tt,tt,tt,tt,tt,tt,tt,tt,tt,tt,tt,ff]) rfl rfl rfl rfl rfl rfl rfl rfl (by repeat first | exact Sw.here | apply Sw.there) (by rfl) (by repeat (first | exact HmOk.nil | apply HmOk.dep (by decide +kernel) | apply HmOk.im (by decide +kernel) (by assumption) (by repeat first | exact mH | apply mT) | apply HmOk.blk (by decide +kernel) (by repeat (first | exact Pk.here | apply Pk.there)) (by repeat first | exact mH | apply mT))) ?_
 refine any_pure (i := 16) (listed' := [tt,tt,tt,tt,tt,tt,tt,tt,tt,tt,tt,tt,tt,tt,tt,tt,tt]) rfl npI (pure_assign rfl) rfl (by kernel_rfl) rfl rfl ?_
 refine any_done (by kernel_rfl) ?_
 refine nrm_seq ?_
 (refine ret_freeze Pk.here (fun G5 hle5 hsl5 hno5 => ?_))
 refine tri_ret (ret_block (ret_seq (ret_fin3 (res_tmp rfl) (res_cell rfl (load_ba rfl rfl (by repeat first | exact mH | apply mT) (by rfl))) (res_tmp rfl) ?_)))
 (have hk1 : k = 6 := (by omega); subst hk1; refine WtP.two hsl5 (hrB.mono hle5) (hma'.mono hle5) (hmb'.mono hle5) ?_; rw [mW6]; cases hq : mMatch 4 (h.getD 0 ty0) with | none => (rw [hq] at hmi; cases hmi) | some q => (have hq2 := hmm q hq; subst hq2; dsimp only; split <;> first | rfl | (exfalso; simp_all; done)))
 refine one_valb (listed' := [tt,tt,tt,tt,ff,tt,tt,tt,tt,tt,tt,tt,tt,ff,ff,ff,ff]) rfl rfl ((consistent_fn _ _ _ _ _ (hre1.mono hleB) hma')) rfl rfl rfl (fun h301 => ?_) (fun h301 => ?_)
 refine any_pure (i := 13) (listed' := [tt,tt,tt,tt,ff,tt,tt,tt,tt,tt,tt,tt,tt,tt,ff,ff,ff]) rfl npI (pure_pick_t rfl rfl) rfl (by kernel_rfl) rfl rfl ?_
 refine any_one (j := 4) (by kernel_rfl) ?_
 (refine one_step0 (listed' := [tt,tt,tt,tt,tt,tt,tt,tt,tt,tt,tt,tt,tt,tt,ff,ff,ff]) rfl (step_buildSlice rfl rfl rfl (by omega) (by unfold maxLen; omega) rfl) rfl rfl ?_; rintro _ ⟨b304, rfl⟩)
 refine any_pure (i := 14) (listed' := [tt,tt,tt,tt,tt,tt,tt,tt,tt,tt,tt,tt,tt,tt,tt,ff,ff]) rfl npI (pure_assign rfl) rfl (by kernel_rfl) rfl rfl ?_
 refine any_one (j := 15) (by kernel_rfl) ?_
 refine one_storeM (listed' := [tt,tt,tt,tt,tt,tt,tt,tt,tt,tt,tt,tt,tt,tt,tt,tt,ff]) rfl rfl rfl rfl rfl rfl rfl rfl (by repeat first | exact Sw.here | apply Sw.there) (by rfl) (by repeat (first | exact HmOk.nil | apply HmOk.dep (by decide +kernel) | apply HmOk.im (by decide +kernel) (by assumption) (by repeat first | exact mH | apply mT) | apply HmOk.blk (by decide +kernel) (by repeat (first | exact Pk.here | apply Pk.there)) (by repeat first | exact mH | apply mT))) ?_
 refine any_pure (i := 16) (listed' := [tt,tt,tt,tt,tt,tt,tt,tt,tt,tt,tt,tt,tt,tt,tt,tt,tt]) rfl npI (pure_assign rfl) rfl (by kernel_rfl) rfl rfl ?_
 refine any_done (by kernel_rfl) ?_
 refine nrm_seq ?_
 (refine ret_freeze Pk.here (fun G5 hle5 hsl5 hno5 => ?_))
 refine tri_ret (ret_block (ret_seq (ret_fin3 (res_tmp rfl) (res_cell rfl (load_ba rfl rfl (by repeat first | exact mH | apply mT) (by rfl))) (res_tmp rfl) ?_)))
 (have hk1 : k = 6 := (by omega); subst hk1; refine WtP.two hsl5 (hrB.mono hle5) (hma'.mono hle5) (hmb'.mono hle5) ?_; rw [mW6]; cases hq : mMatch 4 (h.getD 0 ty0) with | none => (rw [hq] at hmi; cases hmi) | some q => (have hq2 := hmm q hq; subst hq2; dsimp only; split <;> first | rfl | (exfalso; simp_all; done)))
 refine any_pure (i := 13) (listed' := [tt,tt,tt,tt,ff,tt,tt,tt,tt,tt,tt,tt,tt,tt,ff,ff,ff]) rfl npI (pure_pick_t rfl rfl) rfl (by kernel_rfl) rfl rfl ?_
 refine any_one (j := 4) (by kernel_rfl) ?_
 (refine one_step0 (listed' := [tt,tt,tt,tt,tt,tt,tt,tt,tt,tt,tt,tt,tt,tt,ff,ff,ff]) rfl (step_buildSlice rfl rfl rfl (by omega) (by unfold maxLen; omega) rfl) rfl rfl ?_; rintro _ ⟨b319, rfl⟩)
 refine any_pure (i := 14) (listed' := [tt,tt,tt,tt,tt,tt,tt,tt,tt,tt,tt,tt,tt,tt,tt,ff,ff]) rfl npI (pure_assign rfl) rfl (by kernel_rfl) rfl rfl ?_
 refine any_one (j := 15) (by kernel_rfl) ?_
 refine one_storeM (listed' := [tt,tt,tt,tt,tt,tt,tt,tt,tt,tt,tt,tt,tt,tt,tt,tt,ff]) rfl rfl rfl rfl rfl rfl rfl rfl (by repeat first | exact Sw.here | apply Sw.there) (by rfl) (by repeat (first | exact HmOk.nil | apply HmOk.dep (by decide +kernel) | apply HmOk.im (by decide +kernel) (by assumption) (by repeat first | exact mH | apply mT) | apply HmOk.blk (by decide +kernel) (by repeat (first | exact Pk.here | apply Pk.there)) (by repeat first | exact mH | apply mT))) ?_
 refine any_pure (i := 16) (listed' := [tt,tt,tt,tt,tt,tt,tt,tt,tt,tt,tt,tt,tt,tt,tt,tt,tt]) rfl npI (pure_assign rfl) rfl (by kernel_rfl) rfl rfl ?_
 refine any_done (by kernel_rfl) ?_
 refine nrm_seq ?_
 (refine ret_freeze Pk.here (fun G5 hle5 hsl5 hno5 => ?_))
 refine tri_ret (ret_block (ret_seq (ret_fin3 (res_tmp rfl) (res_cell rfl (load_ba rfl rfl (by repeat first | exact mH | apply mT) (by rfl))) (res_tmp rfl) ?_)))
 (have hk1 : k = 6 := (by omega); subst hk1; refine WtP.two hsl5 (hrB.mono hle5) (hma'.mono hle5) (hmb'.mono hle5) ?_; rw [mW6]; cases hq : mMatch 4 (h.getD 0 ty0) with | none => (rw [hq] at hmi; cases hmi) | some q => (have hq2 := hmm q hq; subst hq2; dsimp only; split <;> first | rfl | (exfalso; simp_all; done)))
 refine seq_pure (pure_assign rfl) rfl rfl ?_
 refine seq_done (nrm_seq (tri_cond_f rfl ?_))
 refine tri_seq (tri_seq (tri_region (seq_bool (pure_eql rfl rfl) rfl rfl (fun h339 => ?_) (fun h339 => ?_))))
 refine seq_pure (pure_assign rfl) rfl rfl ?_
 refine seq_done (nrm_seq (tri_cond_t rfl ?_))
 refine tri_skip (nrm_seq (tri_cond_t rfl ?_))
 refine tri_seq (tri_region (seq_load (load_ba rfl rfl (by repeat first | exact mH | apply mT) (by rfl)) rfl rfl ?_))
 (refine seq_step (step_alloc rfl) rfl ?_; rintro _ ⟨b350, rfl⟩)
 refine seq_store rfl rfl rfl rfl rfl rfl (by repeat first | exact Sw.here | apply Sw.there) (by rfl) ?_
 refine seq_done (nrm_seq (tri_seq (tri_seq (tri_region (seq_pure (pure_fieldAddr0 rfl) rfl rfl ?_)))))
 refine seq_load (load_bs rfl rfl (by repeat first | exact mH | apply mT) (by rfl)) rfl rfl ?_
 refine seq_pure (pure_eql_f rfl rfl (by omega)) rfl rfl ?_
 refine seq_done (nrm_seq (tri_cond_f rfl ?_))
 refine tri_skip (nrm_seq (tri_seq ?_))
 (have hl2 : n = 2 := hop.1 (by omega); obtain ⟨b0, o0, q0, d0, hp0, hat0, hre0, hg0⟩ := hsl.kidD hkl (i := 0) (by omega) (by omega); obtain ⟨b1, o1, q1, d1, hp1, hat1, hre1, hg1⟩ := hsl.kidD hkl (i := 1) (by omega) (by omega); cases hp0; cases hp1; refine tri_draw mixed rfl ?_)
 refine any_load (i := 0) (listed' := [tt,ff,ff,ff,ff,ff,ff,ff,ff,ff,ff,ff,ff,ff,ff,ff,ff,ff,ff]) rfl npI (load_ba rfl rfl (by repeat first | exact mH | apply mT) (by rfl)) rfl (by kernel_rfl) rfl rfl ?_
 refine any_load (i := 1) (listed' := [tt,tt,ff,ff,ff,ff,ff,ff,ff,ff,ff,ff,ff,ff,ff,ff,ff,ff,ff]) rfl npI (load_ba rfl rfl (by repeat first | exact mH | apply mT) (by rfl)) rfl (by kernel_rfl) rfl rfl ?_
 refine any_load (i := 3) (listed' := [tt,tt,ff,tt,ff,ff,ff,ff,ff,ff,ff,ff,ff,ff,ff,ff,ff,ff,ff]) rfl npI (load_ba rfl rfl (by repeat first | exact mH | apply mT) (by rfl)) rfl (by kernel_rfl) rfl rfl ?_
 refine any_pure (i := 4) (listed' := [tt,tt,ff,tt,tt,ff,ff,ff,ff,ff,ff,ff,ff,ff,ff,ff,ff,ff,ff]) rfl npI (pure_move rfl) rfl (by kernel_rfl) rfl rfl ?_
 refine any_pure (i := 5) (listed' := [tt,tt,ff,tt,tt,tt,ff,ff,ff,ff,ff,ff,ff,ff,ff,ff,ff,ff,ff]) rfl npI (pure_indexAddrN (j := 0) rfl rfl rfl (by omega)) rfl (by kernel_rfl) rfl rfl ?_
 refine any_load (i := 6) (listed' := [tt,tt,ff,tt,tt,tt,tt,ff,ff,ff,ff,ff,ff,ff,ff,ff,ff,ff,ff]) rfl npI (load_a rfl rfl (hat0 _) rfl) rfl (by kernel_rfl) rfl rfl ?_
 refine any_load (i := 7) (listed' := [tt,tt,ff,tt,tt,tt,tt,tt,ff,ff,ff,ff,ff,ff,ff,ff,ff,ff,ff]) rfl npI (load_ba rfl rfl (by repeat first | exact mH | apply mT) (by rfl)) rfl (by kernel_rfl) rfl rfl ?_
 refine any_two (j := 2) (j' := 8) (by kernel_rfl) ?_ ?_
 (refine one_step0 (listed' := [tt,tt,tt,tt,tt,tt,tt,tt,ff,ff,ff,ff,ff,ff,ff,ff,ff,ff,ff]) rfl (step_buildSlice rfl rfl rfl (by omega) (by unfold maxLen; omega) rfl) rfl rfl ?_; rintro _ ⟨b375, rfl⟩)
 refine any_one (j := 8) (by kernel_rfl) ?_
 refine one_valb (listed' := [tt,tt,tt,tt,tt,tt,tt,tt,tt,ff,ff,ff,ff,ff,ff,ff,ff,ff,ff]) rfl rfl ((consistent_fn _ _ _ _ _ hre0 (tyInt_r _))) rfl rfl rfl (fun h377 => ?_) (fun h377 => ?_)
 refine any_pure (i := 9) (listed' := [tt,tt,tt,tt,tt,tt,tt,tt,tt,tt,ff,ff,ff,ff,ff,ff,ff,ff,ff]) rfl npI (pure_move rfl) rfl (by kernel_rfl) rfl rfl ?_
 refine any_pure (i := 10) (listed' := [tt,tt,tt,tt,tt,tt,tt,tt,tt,tt,tt,ff,ff,ff,ff,ff,ff,ff,ff]) rfl npI (pure_move rfl) rfl (by kernel_rfl) rfl rfl ?_
 refine any_pure (i := 11) (listed' := [tt,tt,tt,tt,tt,tt,tt,tt,tt,tt,tt,tt,ff,ff,ff,ff,ff,ff,ff]) rfl npI (pure_indexAddrN (j := 1) rfl rfl rfl (by omega)) rfl (by kernel_rfl) rfl rfl ?_
 refine any_load (i := 12) (listed' := [tt,tt,tt,tt,tt,tt,tt,tt,tt,tt,tt,tt,tt,ff,ff,ff,ff,ff,ff]) rfl npI (load_a rfl rfl (hat1 _) rfl) rfl (by kernel_rfl) rfl rfl ?_
 refine any_load (i := 13) (listed' := [tt,tt,tt,tt,tt,tt,tt,tt,tt,tt,tt,tt,tt,tt,ff,ff,ff,ff,ff]) rfl npI (load_ba rfl rfl (by repeat first | exact mH | apply mT) (by rfl)) rfl (by kernel_rfl) rfl rfl ?_
 refine any_one (j := 14) (by kernel_rfl) ?_
 refine one_valb (listed' := [tt,tt,tt,tt,tt,tt,tt,tt,tt,tt,tt,tt,tt,tt,tt,ff,ff,ff,ff]) rfl rfl ((consistent_fn _ _ _ _ _ hre1 (tyInt_r _))) rfl rfl rfl (fun h384 => ?_) (fun h384 => ?_)
 refine any_pure (i := 15) (listed' := [tt,tt,tt,tt,tt,tt,tt,tt,tt,tt,tt,tt,tt,tt,tt,tt,ff,ff,ff]) rfl npI (pure_pick_t rfl rfl) rfl (by kernel_rfl) rfl rfl ?_
 refine any_pure (i := 16) (listed' := [tt,tt,tt,tt,tt,tt,tt,tt,tt,tt,tt,tt,tt,tt,tt,tt,tt,ff,ff]) rfl npI (pure_assign rfl) rfl (by kernel_rfl) rfl rfl ?_
 refine any_one (j := 17) (by kernel_rfl) ?_
 refine one_storeM (listed' := [tt,tt,tt,tt,tt,tt,tt,tt,tt,tt,tt,tt,tt,tt,tt,tt,tt,tt,ff]) rfl rfl rfl rfl rfl rfl rfl rfl (by repeat first | exact Sw.here | apply Sw.there) (by rfl) (by repeat (first | exact HmOk.nil | apply HmOk.dep (by decide +kernel) | apply HmOk.im (by decide +kernel) (by assumption) (by repeat first | exact mH | apply mT) | apply HmOk.blk (by decide +kernel) (by repeat (first | exact Pk.here | apply Pk.there)) (by repeat first | exact mH | apply mT))) ?_
 refine any_pure (i := 18) (listed' := [tt,tt,tt,tt,tt,tt,tt,tt,tt,tt,tt,tt,tt,tt,tt,tt,tt,tt,tt]) rfl npI (pure_assign rfl) rfl (by kernel_rfl) rfl rfl ?_
 refine any_done (by kernel_rfl) ?_
 refine nrm_seq ?_
 (refine ret_freeze Pk.here (fun G5 hle5 hsl5 hno5 => ?_))
 refine tri_ret (ret_block (ret_seq (ret_fin3 (res_tmp rfl) (res_cell rfl (load_ba rfl rfl (by repeat first | exact mH | apply mT) (by rfl))) (res_tmp rfl) ?_)))
 (refine WtP.two hsl5 (tyInt_r _) (tyInt_r _) (tyInt_r _) ?_; rw [mW78 (by omega)]; first | (rw [if_pos ⟨by assumption, by assumption⟩, if_neg (by omega)]; rfl) | (rw [if_neg (fun hc => by first | exact Bool.noConfusion (hc.1.symm.trans (by assumption)) | exact Bool.noConfusion (hc.2.symm.trans (by assumption)) | exact Bool.noConfusion (hc.symm.trans (by assumption)))]; rfl))
 refine any_pure (i := 15) (listed' := [tt,tt,tt,tt,tt,tt,tt,tt,tt,tt,tt,tt,tt,tt,tt,tt,ff,ff,ff]) rfl npI (pure_pick_t rfl rfl) rfl (by kernel_rfl) rfl rfl ?_
 refine any_pure (i := 16) (listed' := [tt,tt,tt,tt,tt,tt,tt,tt,tt,tt,tt,tt,tt,tt,tt,tt,tt,ff,ff]) rfl npI (pure_assign rfl) rfl (by kernel_rfl) rfl rfl ?_
 refine any_one (j := 17) (by kernel_rfl) ?_
 refine one_storeM (listed' := [tt,tt,tt,tt,tt,tt,tt,tt,tt,tt,tt,tt,tt,tt,tt,tt,tt,tt,ff]) rfl rfl rfl rfl rfl rfl rfl rfl (by repeat first | exact Sw.here | apply Sw.there) (by rfl) (by repeat (first | exact HmOk.nil | apply HmOk.dep (by decide +kernel) | apply HmOk.im (by decide +kernel) (by assumption) (by repeat first | exact mH | apply mT) | apply HmOk.blk (by decide +kernel) (by repeat (first | exact Pk.here | apply Pk.there)) (by repeat first | exact mH | apply mT))) ?_
 refine any_pure (i := 18) (listed' := [tt,tt,tt,tt,tt,tt,tt,tt,tt,tt,tt,tt,tt,tt,tt,tt,tt,tt,tt]) rfl npI (pure_assign rfl) rfl (by kernel_rfl) rfl rfl ?_
 refine any_done (by kernel_rfl) ?_
 refine nrm_seq ?_
 (refine ret_freeze Pk.here (fun G5 hle5 hsl5 hno5 => ?_))
 refine tri_ret (ret_block (ret_seq (ret_fin3 (res_tmp rfl) (res_cell rfl (load_ba rfl rfl (by repeat first | exact mH | apply mT) (by rfl))) (res_tmp rfl) ?_)))
 (refine WtP.two hsl5 (tyInt_r _) (tyInt_r _) (tyInt_r _) ?_; rw [mW78 (by omega)]; first | (rw [if_pos ⟨by assumption, by assumption⟩, if_neg (by omega)]; rfl) | (rw [if_neg (fun hc => by first | exact Bool.noConfusion (hc.1.symm.trans (by assumption)) | exact Bool.noConfusion (hc.2.symm.trans (by assumption)) | exact Bool.noConfusion (hc.symm.trans (by assumption)))]; rfl))
 refine any_pure (i := 9) (listed' := [tt,tt,tt,tt,tt,tt,tt,tt,tt,tt,ff,ff,ff,ff,ff,ff,ff,ff,ff]) rfl npI (pure_move rfl) rfl (by kernel_rfl) rfl rfl ?_
 refine any_skip (i := 10) (listed' := [tt,tt,tt,tt,tt,tt,tt,tt,tt,tt,tt,ff,ff,ff,ff,ff,ff,ff,ff]) rfl npI rfl (by kernel_rfl) rfl rfl ?_
 refine any_skip (i := 11) (listed' := [tt,tt,tt,tt,tt,tt,tt,tt,tt,tt,tt,tt,ff,ff,ff,ff,ff,ff,ff]) rfl npI rfl (by kernel_rfl) rfl rfl ?_
 refine any_skip (i := 12) (listed' := [tt,tt,tt,tt,tt,tt,tt,tt,tt,tt,tt,tt,tt,ff,ff,ff,ff,ff,ff]) rfl npI rfl (by kernel_rfl) rfl rfl ?_
 refine any_skip (i := 13) (listed' := [tt,tt,tt,tt,tt,tt,tt,tt,tt,tt,tt,tt,tt,tt,ff,ff,ff,ff,ff]) rfl npI rfl (by kernel_rfl) rfl rfl ?_
 refine any_skip (i := 14) (listed' := [tt,tt,tt,tt,tt,tt,tt,tt,tt,tt,tt,tt,tt,tt,tt,ff,ff,ff,ff]) rfl npI rfl (by kernel_rfl) rfl rfl ?_
 refine any_pure (i := 15) (listed' := [tt,tt,tt,tt,tt,tt,tt,tt,tt,tt,tt,tt,tt,tt,tt,tt,ff,ff,ff]) rfl npI (pure_pick_f rfl rfl) rfl (by kernel_rfl) rfl rfl ?_
 refine any_pure (i := 16) (listed' := [tt,tt,tt,tt,tt,tt,tt,tt,tt,tt,tt,tt,tt,tt,tt,tt,tt,ff,ff]) rfl npI (pure_assign rfl) rfl (by kernel_rfl) rfl rfl ?_
 refine any_one (j := 17) (by kernel_rfl) ?_
 refine one_storeM (listed' := [tt,tt,tt,tt,tt,tt,tt,tt,tt,tt,tt,tt,tt,tt,tt,tt,tt,tt,ff]) rfl rfl rfl rfl rfl rfl rfl rfl (by repeat first | exact Sw.here | apply Sw.there) (by rfl) (by repeat (first | exact HmOk.nil | apply HmOk.dep (by decide +kernel) | apply HmOk.im (by decide +kernel) (by assumption) (by repeat first | exact mH | apply mT) | apply HmOk.blk (by decide +kernel) (by repeat (first | exact Pk.here | apply Pk.there)) (by repeat first | exact mH | apply mT))) ?_
 refine any_pure (i := 18) (listed' := [tt,tt,tt,tt,tt,tt,tt,tt,tt,tt,tt,tt,tt,tt,tt,tt,tt,tt,tt]) rfl npI (pure_assign rfl) rfl (by kernel_rfl) rfl rfl ?_
 refine any_done (by kernel_rfl) ?_
 refine nrm_seq ?_
 (refine ret_freeze Pk.here (fun G5 hle5 hsl5 hno5 => ?_))
 refine tri_ret (ret_block (ret_seq (ret_fin3 (res_tmp rfl) (res_cell rfl (load_ba rfl rfl (by repeat first | exact mH | apply mT) (by rfl))) (res_tmp rfl) ?_)))
 (refine WtP.two hsl5 (tyInt_r _) (tyInt_r _) (tyInt_r _) ?_; rw [mW78 (by omega)]; first | (rw [if_pos ⟨by assumption, by assumption⟩, if_neg (by omega)]; rfl) | (rw [if_neg (fun hc => by first | exact Bool.noConfusion (hc.1.symm.trans (by assumption)) | exact Bool.noConfusion (hc.2.symm.trans (by assumption)) | exact Bool.noConfusion (hc.symm.trans (by assumption)))]; rfl))
 refine one_valb (listed' := [tt,tt,ff,tt,tt,tt,tt,tt,tt,ff,ff,ff,ff,ff,ff,ff,ff,ff,ff]) rfl rfl ((consistent_fn _ _ _ _ _ hre0 (tyInt_r _))) rfl rfl rfl (fun h430 => ?_) (fun h430 => ?_)
 refine any_pure (i := 9) (listed' := [tt,tt,ff,tt,tt,tt,tt,tt,tt,tt,ff,ff,ff,ff,ff,ff,ff,ff,ff]) rfl npI (pure_move rfl) rfl (by kernel_rfl) rfl rfl ?_
 refine any_pure (i := 10) (listed' := [tt,tt,ff,tt,tt,tt,tt,tt,tt,tt,tt,ff,ff,ff,ff,ff,ff,ff,ff]) rfl npI (pure_move rfl) rfl (by kernel_rfl) rfl rfl ?_
 refine any_pure (i := 11) (listed' := [tt,tt,ff,tt,tt,tt,tt,tt,tt,tt,tt,tt,ff,ff,ff,ff,ff,ff,ff]) rfl npI (pure_indexAddrN (j := 1) rfl rfl rfl (by omega)) rfl (by kernel_rfl) rfl rfl ?_
 refine any_load (i := 12) (listed' := [tt,tt,ff,tt,tt,tt,tt,tt,tt,tt,tt,tt,tt,ff,ff,ff,ff,ff,ff]) rfl npI (load_a rfl rfl (hat1 _) rfl) rfl (by kernel_rfl) rfl rfl ?_
 refine any_load (i := 13) (listed' := [tt,tt,ff,tt,tt,tt,tt,tt,tt,tt,tt,tt,tt,tt,ff,ff,ff,ff,ff]) rfl npI (load_ba rfl rfl (by repeat first | exact mH | apply mT) (by rfl)) rfl (by kernel_rfl) rfl rfl ?_
 refine any_two (j := 2) (j' := 14) (by kernel_rfl) ?_ ?_
 (refine one_step0 (listed' := [tt,tt,tt,tt,tt,tt,tt,tt,tt,tt,tt,tt,tt,tt,ff,ff,ff,ff,ff]) rfl (step_buildSlice rfl rfl rfl (by omega) (by unfold maxLen; omega) rfl) rfl rfl ?_; rintro _ ⟨b437, rfl⟩)
 refine any_one (j := 14) (by kernel_rfl) ?_
 refine one_valb (listed' := [tt,tt,tt,tt,tt,tt,tt,tt,tt,tt,tt,tt,tt,tt,tt,ff,ff,ff,ff]) rfl rfl ((consistent_fn _ _ _ _ _ hre1 (tyInt_r _))) rfl rfl rfl (fun h439 => ?_) (fun h439 => ?_)
 refine any_pure (i := 15) (listed' := [tt,tt,tt,tt,tt,tt,tt,tt,tt,tt,tt,tt,tt,tt,tt,tt,ff,ff,ff]) rfl npI (pure_pick_t rfl rfl) rfl (by kernel_rfl) rfl rfl ?_
 refine any_pure (i := 16) (listed' := [tt,tt,tt,tt,tt,tt,tt,tt,tt,tt,tt,tt,tt,tt,tt,tt,tt,ff,ff]) rfl npI (pure_assign rfl) rfl (by kernel_rfl) rfl rfl ?_
 refine any_one (j := 17) (by kernel_rfl) ?_
 refine one_storeM (listed' := [tt,tt,tt,tt,tt,tt,tt,tt,tt,tt,tt,tt,tt,tt,tt,tt,tt,tt,ff]) rfl rfl rfl rfl rfl rfl rfl rfl (by repeat first | exact Sw.here | apply Sw.there) (by rfl) (by repeat (first | exact HmOk.nil | apply HmOk.dep (by decide +kernel) | apply HmOk.im (by decide +kernel) (by assumption) (by repeat first | exact mH | apply mT) | apply HmOk.blk (by decide +kernel) (by repeat (first | exact Pk.here | apply Pk.there)) (by repeat first | exact mH | apply mT))) ?_
 refine any_pure (i := 18) (listed' := [tt,tt,tt,tt,tt,tt,tt,tt,tt,tt,tt,tt,tt,tt,tt,tt,tt,tt,tt]) rfl npI (pure_assign rfl) rfl (by kernel_rfl) rfl rfl ?_
 refine any_done (by kernel_rfl) ?_
 refine nrm_seq ?_
 (refine ret_freeze Pk.here (fun G5 hle5 hsl5 hno5 => ?_))
 refine tri_ret (ret_block (ret_seq (ret_fin3 (res_tmp rfl) (res_cell rfl (load_ba rfl rfl (by repeat first | exact mH | apply mT) (by rfl))) (res_tmp rfl) ?_)))
 (refine WtP.two hsl5 (tyInt_r _) (tyInt_r _) (tyInt_r _) ?_; rw [mW78 (by omega)]; first | (rw [if_pos ⟨by assumption, by assumption⟩, if_neg (by omega)]; rfl) | (rw [if_neg (fun hc => by first | exact Bool.noConfusion (hc.1.symm.trans (by assumption)) | exact Bool.noConfusion (hc.2.symm.trans (by assumption)) | exact Bool.noConfusion (hc.symm.trans (by assumption)))]; rfl))
 refine any_pure (i := 15) (listed' := [tt,tt,tt,tt,tt,tt,tt,tt,tt,tt,tt,tt,tt,tt,tt,tt,ff,ff,ff]) rfl npI (pure_pick_t rfl rfl) rfl (by kernel_rfl) rfl rfl ?_
 refine any_pure (i := 16) (listed' := [tt,tt,tt,tt,tt,tt,tt,tt,tt,tt,tt,tt,tt,tt,tt,tt,tt,ff,ff]) rfl npI (pure_assign rfl) rfl (by kernel_rfl) rfl rfl ?_
 refine any_one (j := 17) (by kernel_rfl) ?_
 refine one_storeM (listed' := [tt,tt,tt,tt,tt,tt,tt,tt,tt,tt,tt,tt,tt,tt,tt,tt,tt,tt,ff]) rfl rfl rfl rfl rfl rfl rfl rfl (by repeat first | exact Sw.here | apply Sw.there) (by rfl) (by repeat (first | exact HmOk.nil | apply HmOk.dep (by decide +kernel) | apply HmOk.im (by decide +kernel) (by assumption) (by repeat first | exact mH | apply mT) | apply HmOk.blk (by decide +kernel) (by repeat (first | exact Pk.here | apply Pk.there)) (by repeat first | exact mH | apply mT))) ?_
 refine any_pure (i := 18) (listed' := [tt,tt,tt,tt,tt,tt,tt,tt,tt,tt,tt,tt,tt,tt,tt,tt,tt,tt,tt]) rfl npI (pure_assign rfl) rfl (by kernel_rfl) rfl rfl ?_
 refine any_done (by kernel_rfl) ?_
 refine nrm_seq ?_
 (refine ret_freeze Pk.here (fun G5 hle5 hsl5 hno5 => ?_))
 refine tri_ret (ret_block (ret_seq (ret_fin3 (res_tmp rfl) (res_cell rfl (load_ba rfl rfl (by repeat first | exact mH | apply mT) (by rfl))) (res_tmp rfl) ?_)))
 (refine WtP.two hsl5 (tyInt_r _) (tyInt_r _) (tyInt_r _) ?_; rw [mW78 (by omega)]; first | (rw [if_pos ⟨by assumption, by assumption⟩, if_neg (by omega)]; rfl) | (rw [if_neg (fun hc => by first | exact Bool.noConfusion (hc.1.symm.trans (by assumption)) | exact Bool.noConfusion (hc.2.symm.trans (by assumption)) | exact Bool.noConfusion (hc.symm.trans (by assumption)))]; rfl))
 refine one_valb (listed' := [tt,tt,ff,tt,tt,tt,tt,tt,tt,tt,tt,tt,tt,tt,tt,ff,ff,ff,ff]) rfl rfl ((consistent_fn _ _ _ _ _ hre1 (tyInt_r _))) rfl rfl rfl (fun h466 => ?_) (fun h466 => ?_)
 refine any_pure (i := 15) (listed' := [tt,tt,ff,tt,tt,tt,tt,tt,tt,tt,tt,tt,tt,tt,tt,tt,ff,ff,ff]) rfl npI (pure_pick_t rfl rfl) rfl (by kernel_rfl) rfl rfl ?_
 refine any_one (j := 2) (by kernel_rfl) ?_
 (refine one_step0 (listed' := [tt,tt,tt,tt,tt,tt,tt,tt,tt,tt,tt,tt,tt,tt,tt,tt,ff,ff,ff]) rfl (step_buildSlice rfl rfl rfl (by omega) (by unfold maxLen; omega) rfl) rfl rfl ?_; rintro _ ⟨b469, rfl⟩)
 refine any_pure (i := 16) (listed' := [tt,tt,tt,tt,tt,tt,tt,tt,tt,tt,tt,tt,tt,tt,tt,tt,tt,ff,ff]) rfl npI (pure_assign rfl) rfl (by kernel_rfl) rfl rfl ?_
 refine any_one (j := 17) (by kernel_rfl) ?_
 refine one_storeM (listed' := [tt,tt,tt,tt,tt,tt,tt,tt,tt,tt,tt,tt,tt,tt,tt,tt,tt,tt,ff]) rfl rfl rfl rfl rfl rfl rfl rfl (by repeat first | exact Sw.here | apply Sw.there) (by rfl) (by repeat (first | exact HmOk.nil | apply HmOk.dep (by decide +kernel) | apply HmOk.im (by decide +kernel) (by assumption) (by repeat first | exact mH | apply mT) | apply HmOk.blk (by decide +kernel) (by repeat (first | exact Pk.here | apply Pk.there)) (by repeat first | exact mH | apply mT))) ?_
 refine any_pure (i := 18) (listed' := [tt,tt,tt,tt,tt,tt,tt,tt,tt,tt,tt,tt,tt,tt,tt,tt,tt,tt,tt]) rfl npI (pure_assign rfl) rfl (by kernel_rfl) rfl rfl ?_
 refine any_done (by kernel_rfl) ?_
 refine nrm_seq ?_
 (refine ret_freeze Pk.here (fun G5 hle5 hsl5 hno5 => ?_))
 refine tri_ret (ret_block (ret_seq (ret_fin3 (res_tmp rfl) (res_cell rfl (load_ba rfl rfl (by repeat first | exact mH | apply mT) (by rfl))) (res_tmp rfl) ?_)))
 (refine WtP.two hsl5 (tyInt_r _) (tyInt_r _) (tyInt_r _) ?_; rw [mW78 (by omega)]; first | (rw [if_pos ⟨by assumption, by assumption⟩, if_neg (by omega)]; rfl) | (rw [if_neg (fun hc => by first | exact Bool.noConfusion (hc.1.symm.trans (by assumption)) | exact Bool.noConfusion (hc.2.symm.trans (by assumption)) | exact Bool.noConfusion (hc.symm.trans (by assumption)))]; rfl))
 refine any_pure (i := 15) (listed' := [tt,tt,ff,tt,tt,tt,tt,tt,tt,tt,tt,tt,tt,tt,tt,tt,ff,ff,ff]) rfl npI (pure_pick_t rfl rfl) rfl (by kernel_rfl) rfl rfl ?_
 refine any_one (j := 2) (by kernel_rfl) ?_
 (refine one_step0 (listed' := [tt,tt,tt,tt,tt,tt,tt,tt,tt,tt,tt,tt,tt,tt,tt,tt,ff,ff,ff]) rfl (step_buildSlice rfl rfl rfl (by omega) (by unfold maxLen; omega) rfl) rfl rfl ?_; rintro _ ⟨b484, rfl⟩)
 refine any_pure (i := 16) (listed' := [tt,tt,tt,tt,tt,tt,tt,tt,tt,tt,tt,tt,tt,tt,tt,tt,tt,ff,ff]) rfl npI (pure_assign rfl) rfl (by kernel_rfl) rfl rfl ?_
 refine any_one (j := 17) (by kernel_rfl) ?_
 refine one_storeM (listed' := [tt,tt,tt,tt,tt,tt,tt,tt,tt,tt,tt,tt,tt,tt,tt,tt,tt,tt,ff]) rfl rfl rfl rfl rfl rfl rfl rfl (by repeat first | exact Sw.here | apply Sw.there) (by rfl) (by repeat (first | exact HmOk.nil | apply HmOk.dep (by decide +kernel) | apply HmOk.im (by decide +kernel) (by assumption) (by repeat first | exact mH | apply mT) | apply HmOk.blk (by decide +kernel) (by repeat (first | exact Pk.here | apply Pk.there)) (by repeat first | exact mH | apply mT))) ?_
 refine any_pure (i := 18) (listed' := [tt,tt,tt,tt,tt,tt,tt,tt,tt,tt,tt,tt,tt,tt,tt,tt,tt,tt,tt]) rfl npI (pure_assign rfl) rfl (by kernel_rfl) rfl rfl ?_
 refine any_done (by kernel_rfl) ?_
 refine nrm_seq ?_
 (refine ret_freeze Pk.here (fun G5 hle5 hsl5 hno5 => ?_))
 refine tri_ret (ret_block (ret_seq (ret_fin3 (res_tmp rfl) (res_cell rfl (load_ba rfl rfl (by repeat first | exact mH | apply mT) (by rfl))) (res_tmp rfl) ?_)))
 (refine WtP.two hsl5 (tyInt_r _) (tyInt_r _) (tyInt_r _) ?_; rw [mW78 (by omega)]; first | (rw [if_pos ⟨by assumption, by assumption⟩, if_neg (by omega)]; rfl) | (rw [if_neg (fun hc => by first | exact Bool.noConfusion (hc.1.symm.trans (by assumption)) | exact Bool.noConfusion (hc.2.symm.trans (by assumption)) | exact Bool.noConfusion (hc.symm.trans (by assumption)))]; rfl))
 refine any_pure (i := 9) (listed' := [tt,tt,ff,tt,tt,tt,tt,tt,tt,tt,ff,ff,ff,ff,ff,ff,ff,ff,ff]) rfl npI (pure_move rfl) rfl (by kernel_rfl) rfl rfl ?_
 refine any_skip (i := 10) (listed' := [tt,tt,ff,tt,tt,tt,tt,tt,tt,tt,tt,ff,ff,ff,ff,ff,ff,ff,ff]) rfl npI rfl (by kernel_rfl) rfl rfl ?_
 refine any_skip (i := 11) (listed' := [tt,tt,ff,tt,tt,tt,tt,tt,tt,tt,tt,tt,ff,ff,ff,ff,ff,ff,ff]) rfl npI rfl (by kernel_rfl) rfl rfl ?_
 refine any_skip (i := 12) (listed' := [tt,tt,ff,tt,tt,tt,tt,tt,tt,tt,tt,tt,tt,ff,ff,ff,ff,ff,ff]) rfl npI rfl (by kernel_rfl) rfl rfl ?_
 refine any_skip (i := 13) (listed' := [tt,tt,ff,tt,tt,tt,tt,tt,tt,tt,tt,tt,tt,tt,ff,ff,ff,ff,ff]) rfl npI rfl (by kernel_rfl) rfl rfl ?_
 refine any_two (j := 2) (j' := 14) (by kernel_rfl) ?_ ?_
 (refine one_step0 (listed' := [tt,tt,tt,tt,tt,tt,tt,tt,tt,tt,tt,tt,tt,tt,ff,ff,ff,ff,ff]) rfl (step_buildSlice rfl rfl rfl (by omega) (by unfold maxLen; omega) rfl) rfl rfl ?_; rintro _ ⟨b503, rfl⟩)
 refine any_skip (i := 14) (listed' := [tt,tt,tt,tt,tt,tt,tt,tt,tt,tt,tt,tt,tt,tt,tt,ff,ff,ff,ff]) rfl npI rfl (by kernel_rfl) rfl rfl ?_
 refine any_pure (i := 15) (listed' := [tt,tt,tt,tt,tt,tt,tt,tt,tt,tt,tt,tt,tt,tt,tt,tt,ff,ff,ff]) rfl npI (pure_pick_f rfl rfl) rfl (by kernel_rfl) rfl rfl ?_
 refine any_pure (i := 16) (listed' := [tt,tt,tt,tt,tt,tt,tt,tt,tt,tt,tt,tt,tt,tt,tt,tt,tt,ff,ff]) rfl npI (pure_assign rfl) rfl (by kernel_rfl) rfl rfl ?_
 refine any_one (j := 17) (by kernel_rfl) ?_
 refine one_storeM (listed' := [tt,tt,tt,tt,tt,tt,tt,tt,tt,tt,tt,tt,tt,tt,tt,tt,tt,tt,ff]) rfl rfl rfl rfl rfl rfl rfl rfl (by repeat first | exact Sw.here | apply Sw.there) (by rfl) (by repeat (first | exact HmOk.nil | apply HmOk.dep (by decide +kernel) | apply HmOk.im (by decide +kernel) (by assumption) (by repeat first | exact mH | apply mT) | apply HmOk.blk (by decide +kernel) (by repeat (first | exact Pk.here | apply Pk.there)) (by repeat first | exact mH | apply mT))) ?_
 refine any_pure (i := 18) (listed' := [tt,tt,tt,tt,tt,tt,tt,tt,tt,tt,tt,tt,tt,tt,tt,tt,tt,tt,tt]) rfl npI (pure_assign rfl) rfl (by kernel_rfl) rfl rfl ?_
 refine any_done (by kernel_rfl) ?_
 refine nrm_seq ?_
 (refine ret_freeze Pk.here (fun G5 hle5 hsl5 hno5 => ?_))
 refine tri_ret (ret_block (ret_seq (ret_fin3 (res_tmp rfl) (res_cell rfl (load_ba rfl rfl (by repeat first | exact mH | apply mT) (by rfl))) (res_tmp rfl) ?_)))
 (refine WtP.two hsl5 (tyInt_r _) (tyInt_r _) (tyInt_r _) ?_; rw [mW78 (by omega)]; first | (rw [if_pos ⟨by assumption, by assumption⟩, if_neg (by omega)]; rfl) | (rw [if_neg (fun hc => by first | exact Bool.noConfusion (hc.1.symm.trans (by assumption)) | exact Bool.noConfusion (hc.2.symm.trans (by assumption)) | exact Bool.noConfusion (hc.symm.trans (by assumption)))]; rfl))
 refine one_skip (listed' := [tt,tt,ff,tt,tt,tt,tt,tt,tt,tt,tt,tt,tt,tt,tt,ff,ff,ff,ff]) rfl rfl rfl rfl ?_
 refine any_pure (i := 15) (listed' := [tt,tt,ff,tt,tt,tt,tt,tt,tt,tt,tt,tt,tt,tt,tt,tt,ff,ff,ff]) rfl npI (pure_pick_f rfl rfl) rfl (by kernel_rfl) rfl rfl ?_
 refine any_one (j := 2) (by kernel_rfl) ?_
 (refine one_step0 (listed' := [tt,tt,tt,tt,tt,tt,tt,tt,tt,tt,tt,tt,tt,tt,tt,tt,ff,ff,ff]) rfl (step_buildSlice rfl rfl rfl (by omega) (by unfold maxLen; omega) rfl) rfl rfl ?_; rintro _ ⟨b521, rfl⟩)
 refine any_pure (i := 16) (listed' := [tt,tt,tt,tt,tt,tt,tt,tt,tt,tt,tt,tt,tt,tt,tt,tt,tt,ff,ff]) rfl npI (pure_assign rfl) rfl (by kernel_rfl) rfl rfl ?_
 refine any_one (j := 17) (by kernel_rfl) ?_
 refine one_storeM (listed' := [tt,tt,tt,tt,tt,tt,tt,tt,tt,tt,tt,tt,tt,tt,tt,tt,tt,tt,ff]) rfl rfl rfl rfl rfl rfl rfl rfl (by repeat first | exact Sw.here | apply Sw.there) (by rfl) (by repeat (first | exact HmOk.nil | apply HmOk.dep (by decide +kernel) | apply HmOk.im (by decide +kernel) (by assumption) (by repeat first | exact mH | apply mT) | apply HmOk.blk (by decide +kernel) (by repeat (first | exact Pk.here | apply Pk.there)) (by repeat first | exact mH | apply mT))) ?_
 refine any_pure (i := 18) (listed' := [tt,tt,tt,tt,tt,tt,tt,tt,tt,tt,tt,tt,tt,tt,tt,tt,tt,tt,tt]) rfl npI (pure_assign rfl) rfl (by kernel_rfl) rfl rfl ?_
 refine any_done (by kernel_rfl) ?_
 refine nrm_seq ?_
 (refine ret_freeze Pk.here (fun G5 hle5 hsl5 hno5 => ?_))
 refine tri_ret (ret_block (ret_seq (ret_fin3 (res_tmp rfl) (res_cell rfl (load_ba rfl rfl (by repeat first | exact mH | apply mT) (by rfl))) (res_tmp rfl) ?_)))
 (refine WtP.two hsl5 (tyInt_r _) (tyInt_r _) (tyInt_r _) ?_; rw [mW78 (by omega)]; first | (rw [if_pos ⟨by assumption, by assumption⟩, if_neg (by omega)]; rfl) | (rw [if_neg (fun hc => by first | exact Bool.noConfusion (hc.1.symm.trans (by assumption)) | exact Bool.noConfusion (hc.2.symm.trans (by assumption)) | exact Bool.noConfusion (hc.symm.trans (by assumption)))]; rfl))
 refine seq_pure (pure_assign rfl) rfl rfl ?_
 refine seq_done (nrm_seq (tri_cond_f rfl ?_))
 refine tri_region (seq_bool (pure_eql rfl rfl) rfl rfl (fun h539 => ?_) (fun h539 => ?_))
 refine seq_pure (pure_assign rfl) rfl rfl ?_
 refine seq_done (nrm_seq (tri_cond_t rfl ?_))
 refine tri_seq (tri_region (seq_load (load_ba rfl rfl (by repeat first | exact mH | apply mT) (by rfl)) rfl rfl ?_))
 (refine seq_step (step_alloc rfl) rfl ?_; rintro _ ⟨b547, rfl⟩)
 refine seq_store rfl rfl rfl rfl rfl rfl (by repeat first | exact Sw.here | apply Sw.there) (by rfl) ?_
 refine seq_done (nrm_seq (tri_seq (tri_seq (tri_region (seq_pure (pure_fieldAddr0 rfl) rfl rfl ?_)))))
 refine seq_load (load_bs rfl rfl (by repeat first | exact mH | apply mT) (by rfl)) rfl rfl ?_
 refine seq_pure (pure_eql_t rfl rfl (by omega)) rfl rfl ?_
 refine seq_done (nrm_seq (tri_cond_t rfl ?_))
 refine tri_region (seq_load (load_ba rfl rfl (by repeat first | exact mH | apply mT) (by rfl)) rfl rfl ?_)
 refine seq_store rfl rfl rfl rfl rfl rfl (by repeat first | exact Sw.here | apply Sw.there) (by rfl) ?_
 refine seq_done (nrm_seq (tri_seq ?_))
 (have hl2 : n = 2 := hop.1 (by omega); obtain ⟨b0, o0, q0, d0, hp0, hat0, hre0, hg0⟩ := hsl.kidD hkl (i := 0) (by omega) (by omega); obtain ⟨b1, o1, q1, d1, hp1, hat1, hre1, hg1⟩ := hsl.kidD hkl (i := 1) (by omega) (by omega); cases hp0; cases hp1; refine tri_draw mixed rfl ?_)
 refine any_load (i := 0) (listed' := [tt,ff,ff,ff,ff,ff,ff,ff,ff,ff,ff,ff,ff,ff,ff,ff,ff,ff,ff]) rfl npI (load_ba rfl rfl (by repeat first | exact mH | apply mT) (by rfl)) rfl (by kernel_rfl) rfl rfl ?_
 refine any_load (i := 1) (listed' := [tt,tt,ff,ff,ff,ff,ff,ff,ff,ff,ff,ff,ff,ff,ff,ff,ff,ff,ff]) rfl npI (load_ba rfl rfl (by repeat first | exact mH | apply mT) (by rfl)) rfl (by kernel_rfl) rfl rfl ?_
 refine any_load (i := 3) (listed' := [tt,tt,ff,tt,ff,ff,ff,ff,ff,ff,ff,ff,ff,ff,ff,ff,ff,ff,ff]) rfl npI (load_ba rfl rfl (by repeat first | exact mH | apply mT) (by rfl)) rfl (by kernel_rfl) rfl rfl ?_
 refine any_pure (i := 4) (listed' := [tt,tt,ff,tt,tt,ff,ff,ff,ff,ff,ff,ff,ff,ff,ff,ff,ff,ff,ff]) rfl npI (pure_move rfl) rfl (by kernel_rfl) rfl rfl ?_
 refine any_pure (i := 5) (listed' := [tt,tt,ff,tt,tt,tt,ff,ff,ff,ff,ff,ff,ff,ff,ff,ff,ff,ff,ff]) rfl npI (pure_indexAddrN (j := 0) rfl rfl rfl (by omega)) rfl (by kernel_rfl) rfl rfl ?_
 refine any_load (i := 6) (listed' := [tt,tt,ff,tt,tt,tt,tt,ff,ff,ff,ff,ff,ff,ff,ff,ff,ff,ff,ff]) rfl npI (load_a rfl rfl (hat0 _) rfl) rfl (by kernel_rfl) rfl rfl ?_
 refine any_load (i := 7) (listed' := [tt,tt,ff,tt,tt,tt,tt,tt,ff,ff,ff,ff,ff,ff,ff,ff,ff,ff,ff]) rfl npI (load_ba rfl rfl (by repeat first | exact mH | apply mT) (by rfl)) rfl (by kernel_rfl) rfl rfl ?_
 refine any_two (j := 2) (j' := 8) (by kernel_rfl) ?_ ?_
 (refine one_step0 (listed' := [tt,tt,tt,tt,tt,tt,tt,tt,ff,ff,ff,ff,ff,ff,ff,ff,ff,ff,ff]) rfl (step_buildSlice rfl rfl rfl (by omega) (by unfold maxLen; omega) rfl) rfl rfl ?_; rintro _ ⟨b575, rfl⟩)
 refine any_one (j := 8) (by kernel_rfl) ?_
 refine one_valb (listed' := [tt,tt,tt,tt,tt,tt,tt,tt,tt,ff,ff,ff,ff,ff,ff,ff,ff,ff,ff]) rfl rfl ((consistent_fn _ _ _ _ _ hre0 (tyInt_r _))) rfl rfl rfl (fun h577 => ?_) (fun h577 => ?_)
 refine any_pure (i := 9) (listed' := [tt,tt,tt,tt,tt,tt,tt,tt,tt,tt,ff,ff,ff,ff,ff,ff,ff,ff,ff]) rfl npI (pure_move rfl) rfl (by kernel_rfl) rfl rfl ?_
 refine any_pure (i := 10) (listed' := [tt,tt,tt,tt,tt,tt,tt,tt,tt,tt,tt,ff,ff,ff,ff,ff,ff,ff,ff]) rfl npI (pure_move rfl) rfl (by kernel_rfl) rfl rfl ?_
 refine any_pure (i := 11) (listed' := [tt,tt,tt,tt,tt,tt,tt,tt,tt,tt,tt,tt,ff,ff,ff,ff,ff,ff,ff]) rfl npI (pure_indexAddrN (j := 1) rfl rfl rfl (by omega)) rfl (by kernel_rfl) rfl rfl ?_
 refine any_load (i := 12) (listed' := [tt,tt,tt,tt,tt,tt,tt,tt,tt,tt,tt,tt,tt,ff,ff,ff,ff,ff,ff]) rfl npI (load_a rfl rfl (hat1 _) rfl) rfl (by kernel_rfl) rfl rfl ?_
 refine any_load (i := 13) (listed' := [tt,tt,tt,tt,tt,tt,tt,tt,tt,tt,tt,tt,tt,tt,ff,ff,ff,ff,ff]) rfl npI (load_ba rfl rfl (by repeat first | exact mH | apply mT) (by rfl)) rfl (by kernel_rfl) rfl rfl ?_
 refine any_one (j := 14) (by kernel_rfl) ?_
 refine one_valb (listed' := [tt,tt,tt,tt,tt,tt,tt,tt,tt,tt,tt,tt,tt,tt,tt,ff,ff,ff,ff]) rfl rfl ((consistent_fn _ _ _ _ _ hre1 (tyInt_r _))) rfl rfl rfl (fun h584 => ?_) (fun h584 => ?_)
 refine any_pure (i := 15) (listed' := [tt,tt,tt,tt,tt,tt,tt,tt,tt,tt,tt,tt,tt,tt,tt,tt,ff,ff,ff]) rfl npI (pure_pick_t rfl rfl) rfl (by kernel_rfl) rfl rfl ?_
 refine any_pure (i := 16) (listed' := [tt,tt,tt,tt,tt,tt,tt,tt,tt,tt,tt,tt,tt,tt,tt,tt,tt,ff,ff]) rfl npI (pure_assign rfl) rfl (by kernel_rfl) rfl rfl ?_
 refine any_one (j := 17) (by kernel_rfl) ?_
 refine one_storeM (listed' := [tt,tt,tt,tt,tt,tt,tt,tt,tt,tt,tt,tt,tt,tt,tt,tt,tt,tt,ff]) rfl rfl rfl rfl rfl rfl rfl rfl (by repeat first | exact Sw.here | apply Sw.there) (by rfl) (by repeat (first | exact HmOk.nil | apply HmOk.dep (by decide +kernel) | apply HmOk.im (by decide +kernel) (by assumption) (by repeat first | exact mH | apply mT) | apply HmOk.blk (by decide +kernel) (by repeat (first | exact Pk.here | apply Pk.there)) (by repeat first | exact mH | apply mT))) ?_
 refine any_pure (i := 18) (listed' := [tt,tt,tt,tt,tt,tt,tt,tt,tt,tt,tt,tt,tt,tt,tt,tt,tt,tt,tt]) rfl npI (pure_assign rfl) rfl (by kernel_rfl) rfl rfl ?_
 refine any_done (by kernel_rfl) ?_
 refine nrm_seq ?_
 (refine ret_freeze Pk.here (fun G5 hle5 hsl5 hno5 => ?_))
 refine tri_ret (ret_block (ret_seq (ret_fin3 (res_tmp rfl) (res_cell rfl (load_ba rfl rfl (by repeat first | exact mH | apply mT) (by rfl))) (res_tmp rfl) ?_)))
 (refine WtP.two hsl5 (tyInt_r _) (tyInt_r _) (tyBool_r _) ?_; rw [mW78 (by omega)]; first | (rw [if_pos ⟨by assumption, by assumption⟩, if_pos (by omega)]; rfl) | (rw [if_neg (fun hc => by first | exact Bool.noConfusion (hc.1.symm.trans (by assumption)) | exact Bool.noConfusion (hc.2.symm.trans (by assumption)) | exact Bool.noConfusion (hc.symm.trans (by assumption)))]; rfl))
 refine any_pure (i := 15) (listed' := [tt,tt,tt,tt,tt,tt,tt,tt,tt,tt,tt,tt,tt,tt,tt,tt,ff,ff,ff]) rfl npI (pure_pick_t rfl rfl) rfl (by kernel_rfl) rfl rfl ?_
 refine any_pure (i := 16) (listed' := [tt,tt,tt,tt,tt,tt,tt,tt,tt,tt,tt,tt,tt,tt,tt,tt,tt,ff,ff]) rfl npI (pure_assign rfl) rfl (by kernel_rfl) rfl rfl ?_
 refine any_one (j := 17) (by kernel_rfl) ?_
 refine one_storeM (listed' := [tt,tt,tt,tt,tt,tt,tt,tt,tt,tt,tt,tt,tt,tt,tt,tt,tt,tt,ff]) rfl rfl rfl rfl rfl rfl rfl rfl (by repeat first | exact Sw.here | apply Sw.there) (by rfl) (by repeat (first | exact HmOk.nil | apply HmOk.dep (by decide +kernel) | apply HmOk.im (by decide +kernel) (by assumption) (by repeat first | exact mH | apply mT) | apply HmOk.blk (by decide +kernel) (by repeat (first | exact Pk.here | apply Pk.there)) (by repeat first | exact mH | apply mT))) ?_
 refine any_pure (i := 18) (listed' := [tt,tt,tt,tt,tt,tt,tt,tt,tt,tt,tt,tt,tt,tt,tt,tt,tt,tt,tt]) rfl npI (pure_assign rfl) rfl (by kernel_rfl) rfl rfl ?_
 refine any_done (by kernel_rfl) ?_
 refine nrm_seq ?_
 (refine ret_freeze Pk.here (fun G5 hle5 hsl5 hno5 => ?_))
 refine tri_ret (ret_block (ret_seq (ret_fin3 (res_tmp rfl) (res_cell rfl (load_ba rfl rfl (by repeat first | exact mH | apply mT) (by rfl))) (res_tmp rfl) ?_)))
 (refine WtP.two hsl5 (tyInt_r _) (tyInt_r _) (tyBool_r _) ?_; rw [mW78 (by omega)]; first | (rw [if_pos ⟨by assumption, by assumption⟩, if_pos (by omega)]; rfl) | (rw [if_neg (fun hc => by first | exact Bool.noConfusion (hc.1.symm.trans (by assumption)) | exact Bool.noConfusion (hc.2.symm.trans (by assumption)) | exact Bool.noConfusion (hc.symm.trans (by assumption)))]; rfl))
 refine any_pure (i := 9) (listed' := [tt,tt,tt,tt,tt,tt,tt,tt,tt,tt,ff,ff,ff,ff,ff,ff,ff,ff,ff]) rfl npI (pure_move rfl) rfl (by kernel_rfl) rfl rfl ?_
 refine any_skip (i := 10) (listed' := [tt,tt,tt,tt,tt,tt,tt,tt,tt,tt,tt,ff,ff,ff,ff,ff,ff,ff,ff]) rfl npI rfl (by kernel_rfl) rfl rfl ?_
 refine any_skip (i := 11) (listed' := [tt,tt,tt,tt,tt,tt,tt,tt,tt,tt,tt,tt,ff,ff,ff,ff,ff,ff,ff]) rfl npI rfl (by kernel_rfl) rfl rfl ?_
 refine any_skip (i := 12) (listed' := [tt,tt,tt,tt,tt,tt,tt,tt,tt,tt,tt,tt,tt,ff,ff,ff,ff,ff,ff]) rfl npI rfl (by kernel_rfl) rfl rfl ?_
 refine any_skip (i := 13) (listed' := [tt,tt,tt,tt,tt,tt,tt,tt,tt,tt,tt,tt,tt,tt,ff,ff,ff,ff,ff]) rfl npI rfl (by kernel_rfl) rfl rfl ?_
 refine any_skip (i := 14) (listed' := [tt,tt,tt,tt,tt,tt,tt,tt,tt,tt,tt,tt,tt,tt,tt,ff,ff,ff,ff]) rfl npI rfl (by kernel_rfl) rfl rfl ?_
 refine any_pure (i := 15) (listed' := [tt,tt,tt,tt,tt,tt,tt,tt,tt,tt,tt,tt,tt,tt,tt,tt,ff,ff,ff]) rfl npI (pure_pick_f rfl rfl) rfl (by kernel_rfl) rfl rfl ?_
 refine any_pure (i := 16) (listed' := [tt,tt,tt,tt,tt,tt,tt,tt,tt,tt,tt,tt,tt,tt,tt,tt,tt,ff,ff]) rfl npI (pure_assign rfl) rfl (by kernel_rfl) rfl rfl ?_
 refine any_one (j := 17) (by kernel_rfl) ?_
 refine one_storeM (listed' := [tt,tt,tt,tt,tt,tt,tt,tt,tt,tt,tt,tt,tt,tt,tt,tt,tt,tt,ff]) rfl rfl rfl rfl rfl rfl rfl rfl (by repeat first | exact Sw.here | apply Sw.there) (by rfl) (by repeat (first | exact HmOk.nil | apply HmOk.dep (by decide +kernel) | apply HmOk.im (by decide +kernel) (by assumption) (by repeat first | exact mH | apply mT) | apply HmOk.blk (by decide +kernel) (by repeat (first | exact Pk.here | apply Pk.there)) (by repeat first | exact mH | apply mT))) ?_
 refine any_pure (i := 18) (listed' := [tt,tt,tt,tt,tt,tt,tt,tt,tt,tt,tt,tt,tt,tt,tt,tt,tt,tt,tt]) rfl npI (pure_assign rfl) rfl (by kernel_rfl) rfl rfl ?_
 refine any_done (by kernel_rfl) ?_
 refine nrm_seq ?_
 (refine ret_freeze Pk.here (fun G5 hle5 hsl5 hno5 => ?_))
 refine tri_ret (ret_block (ret_seq (ret_fin3 (res_tmp rfl) (res_cell rfl (load_ba rfl rfl (by repeat first | exact mH | apply mT) (by rfl))) (res_tmp rfl) ?_)))
 (refine WtP.two hsl5 (tyInt_r _) (tyInt_r _) (tyBool_r _) ?_; rw [mW78 (by omega)]; first | (rw [if_pos ⟨by assumption, by assumption⟩, if_pos (by omega)]; rfl) | (rw [if_neg (fun hc => by first | exact Bool.noConfusion (hc.1.symm.trans (by assumption)) | exact Bool.noConfusion (hc.2.symm.trans (by assumption)) | exact Bool.noConfusion (hc.symm.trans (by assumption)))]; rfl))
 refine one_valb (listed' := [tt,tt,ff,tt,tt,tt,tt,tt,tt,ff,ff,ff,ff,ff,ff,ff,ff,ff,ff]) rfl rfl ((consistent_fn _ _ _ _ _ hre0 (tyInt_r _))) rfl rfl rfl (fun h630 => ?_) (fun h630 => ?_)
 refine any_pure (i := 9) (listed' := [tt,tt,ff,tt,tt,tt,tt,tt,tt,tt,ff,ff,ff,ff,ff,ff,ff,ff,ff]) rfl npI (pure_move rfl) rfl (by kernel_rfl) rfl rfl ?_
 refine any_pure (i := 10) (listed' := [tt,tt,ff,tt,tt,tt,tt,tt,tt,tt,tt,ff,ff,ff,ff,ff,ff,ff,ff]) rfl npI (pure_move rfl) rfl (by kernel_rfl) rfl rfl ?_
 refine any_pure (i := 11) (listed' := [tt,tt,ff,tt,tt,tt,tt,tt,tt,tt,tt,tt,ff,ff,ff,ff,ff,ff,ff]) rfl npI (pure_indexAddrN (j := 1) rfl rfl rfl (by omega)) rfl (by kernel_rfl) rfl rfl ?_
 refine any_load (i := 12) (listed' := [tt,tt,ff,tt,tt,tt,tt,tt,tt,tt,tt,tt,tt,ff,ff,ff,ff,ff,ff]) rfl npI (load_a rfl rfl (hat1 _) rfl) rfl (by kernel_rfl) rfl rfl ?_
 refine any_load (i := 13) (listed' := [tt,tt,ff,tt,tt,tt,tt,tt,tt,tt,tt,tt,tt,tt,ff,ff,ff,ff,ff]) rfl npI (load_ba rfl rfl (by repeat first | exact mH | apply mT) (by rfl)) rfl (by kernel_rfl) rfl rfl ?_
 refine any_two (j := 2) (j' := 14) (by kernel_rfl) ?_ ?_
 (refine one_step0 (listed' := [tt,tt,tt,tt,tt,tt,tt,tt,tt,tt,tt,tt,tt,tt,ff,ff,ff,ff,ff]) rfl (step_buildSlice rfl rfl rfl (by omega) (by unfold maxLen; omega) rfl) rfl rfl ?_; rintro _ ⟨b637, rfl⟩)
 refine any_one (j := 14) (by kernel_rfl) ?_
 refine one_valb (listed' := [tt,tt,tt,tt,tt,tt,tt,tt,tt,tt,tt,tt,tt,tt,tt,ff,ff,ff,ff]) rfl rfl ((consistent_fn _ _ _ _ _ hre1 (tyInt_r _))) rfl rfl rfl (fun h639 => ?_) (fun h639 => ?_)
 refine any_pure (i := 15) (listed' := [tt,tt,tt,tt,tt,tt,tt,tt,tt,tt,tt,tt,tt,tt,tt,tt,ff,ff,ff]) rfl npI (pure_pick_t rfl rfl) rfl (by kernel_rfl) rfl rfl ?_
 refine any_pure (i := 16) (listed' := [tt,tt,tt,tt,tt,tt,tt,tt,tt,tt,tt,tt,tt,tt,tt,tt,tt,ff,ff]) rfl npI (pure_assign rfl) rfl (by kernel_rfl) rfl rfl ?_
 refine any_one (j := 17) (by kernel_rfl) ?_
 refine one_storeM (listed' := [tt,tt,tt,tt,tt,tt,tt,tt,tt,tt,tt,tt,tt,tt,tt,tt,tt,tt,ff]) rfl rfl rfl rfl rfl rfl rfl rfl (by repeat first | exact Sw.here | apply Sw.there) (by rfl) (by repeat (first | exact HmOk.nil | apply HmOk.dep (by decide +kernel) | apply HmOk.im (by decide +kernel) (by assumption) (by repeat first | exact mH | apply mT) | apply HmOk.blk (by decide +kernel) (by repeat (first | exact Pk.here | apply Pk.there)) (by repeat first | exact mH | apply mT))) ?_
 refine any_pure (i := 18) (listed' := [tt,tt,tt,tt,tt,tt,tt,tt,tt,tt,tt,tt,tt,tt,tt,tt,tt,tt,tt]) rfl npI (pure_assign rfl) rfl (by kernel_rfl) rfl rfl ?_
 refine any_done (by kernel_rfl) ?_
 refine nrm_seq ?_
 (refine ret_freeze Pk.here (fun G5 hle5 hsl5 hno5 => ?_))
 refine tri_ret (ret_block (ret_seq (ret_fin3 (res_tmp rfl) (res_cell rfl (load_ba rfl rfl (by repeat first | exact mH | apply mT) (by rfl))) (res_tmp rfl) ?_)))
 (refine WtP.two hsl5 (tyInt_r _) (tyInt_r _) (tyBool_r _) ?_; rw [mW78 (by omega)]; first | (rw [if_pos ⟨by assumption, by assumption⟩, if_pos (by omega)]; rfl) | (rw [if_neg (fun hc => by first | exact Bool.noConfusion (hc.1.symm.trans (by assumption)) | exact Bool.noConfusion (hc.2.symm.trans (by assumption)) | exact Bool.noConfusion (hc.symm.trans (by assumption)))]; rfl))
 refine any_pure (i := 15) (listed' := [tt,tt,tt,tt,tt,tt,tt,tt,tt,tt,tt,tt,tt,tt,tt,tt,ff,ff,ff]) rfl npI (pure_pick_t rfl rfl) rfl (by kernel_rfl) rfl rfl ?_
 refine any_pure (i := 16) (listed' := [tt,tt,tt,tt,tt,tt,tt,tt,tt,tt,tt,tt,tt,tt,tt,tt,tt,ff,ff]) rfl npI (pure_assign rfl) rfl (by kernel_rfl) rfl rfl ?_
 refine any_one (j := 17) (by kernel_rfl) ?_
 refine one_storeM (listed' := [tt,tt,tt,tt,tt,tt,tt,tt,tt,tt,tt,tt,tt,tt,tt,tt,tt,tt,ff]) rfl rfl rfl rfl rfl rfl rfl rfl (by repeat first | exact Sw.here | apply Sw.there) (by rfl) (by repeat (first | exact HmOk.nil | apply HmOk.dep (by decide +kernel) | apply HmOk.im (by decide +kernel) (by assumption) (by repeat first | exact mH | apply mT) | apply HmOk.blk (by decide +kernel) (by repeat (first | exact Pk.here | apply Pk.there)) (by repeat first | exact mH | apply mT))) ?_
 refine any_pure (i := 18) (listed' := [tt,tt,tt,tt,tt,tt,tt,tt,tt,tt,tt,tt,tt,tt,tt,tt,tt,tt,tt]) rfl npI (pure_assign rfl) rfl (by kernel_rfl) rfl rfl ?_
 refine any_done (by kernel_rfl) ?_
 refine nrm_seq ?_
 (refine ret_freeze Pk.here (fun G5 hle5 hsl5 hno5 => ?_))
 refine tri_ret (ret_block (ret_seq (ret_fin3 (res_tmp rfl) (res_cell rfl (load_ba rfl rfl (by repeat first | exact mH | apply mT) (by rfl))) (res_tmp rfl) ?_)))
 (refine WtP.two hsl5 (tyInt_r _) (tyInt_r _) (tyBool_r _) ?_; rw [mW78 (by omega)]; first | (rw [if_pos ⟨by assumption, by assumption⟩, if_pos (by omega)]; rfl) | (rw [if_neg (fun hc => by first | exact Bool.noConfusion (hc.1.symm.trans (by assumption)) | exact Bool.noConfusion (hc.2.symm.trans (by assumption)) | exact Bool.noConfusion (hc.symm.trans (by assumption)))]; rfl))
 refine one_valb (listed' := [tt,tt,ff,tt,tt,tt,tt,tt,tt,tt,tt,tt,tt,tt,tt,ff,ff,ff,ff]) rfl rfl ((consistent_fn _ _ _ _ _ hre1 (tyInt_r _))) rfl rfl rfl (fun h666 => ?_) (fun h666 => ?_)
 refine any_pure (i := 15) (listed' := [tt,tt,ff,tt,tt,tt,tt,tt,tt,tt,tt,tt,tt,tt,tt,tt,ff,ff,ff]) rfl npI (pure_pick_t rfl rfl) rfl (by kernel_rfl) rfl rfl ?_
 refine any_one (j := 2) (by kernel_rfl) ?_
 (refine one_step0 (listed' := [tt,tt,tt,tt,tt,tt,tt,tt,tt,tt,tt,tt,tt,tt,tt,tt,ff,ff,ff]) rfl (step_buildSlice rfl rfl rfl (by omega) (by unfold maxLen; omega) rfl) rfl rfl ?_; rintro _ ⟨b669, rfl⟩)
 refine any_pure (i := 16) (listed' := [tt,tt,tt,tt,tt,tt,tt,tt,tt,tt,tt,tt,tt,tt,tt,tt,tt,ff,ff]) rfl npI (pure_assign rfl) rfl (by kernel_rfl) rfl rfl ?_
 refine any_one (j := 17) (by kernel_rfl) ?_
 refine one_storeM (listed' := [tt,tt,tt,tt,tt,tt,tt,tt,tt,tt,tt,tt,tt,tt,tt,tt,tt,tt,ff]) rfl rfl rfl rfl rfl rfl rfl rfl (by repeat first | exact Sw.here | apply Sw.there) (by rfl) (by repeat (first | exact HmOk.nil | apply HmOk.dep (by decide +kernel) | apply HmOk.im (by decide +kernel) (by assumption) (by repeat first | exact mH | apply mT) | apply HmOk.blk (by decide +kernel) (by repeat (first | exact Pk.here | apply Pk.there)) (by repeat first | exact mH | apply mT))) ?_
 refine any_pure (i := 18) (listed' := [tt,tt,tt,tt,tt,tt,tt,tt,tt,tt,tt,tt,tt,tt,tt,tt,tt,tt,tt]) rfl npI (pure_assign rfl) rfl (by kernel_rfl) rfl rfl ?_
 refine any_done (by kernel_rfl) ?_
 refine nrm_seq ?_
 (refine ret_freeze Pk.here (fun G5 hle5 hsl5 hno5 => ?_))
 refine tri_ret (ret_block (ret_seq (ret_fin3 (res_tmp rfl) (res_cell rfl (load_ba rfl rfl (by repeat first | exact mH | apply mT) (by rfl))) (res_tmp rfl) ?_)))
 (refine WtP.two hsl5 (tyInt_r _) (tyInt_r _) (tyBool_r _) ?_; rw [mW78 (by omega)]; first | (rw [if_pos ⟨by assumption, by assumption⟩, if_pos (by omega)]; rfl) | (rw [if_neg (fun hc => by first | exact Bool.noConfusion (hc.1.symm.trans (by assumption)) | exact Bool.noConfusion (hc.2.symm.trans (by assumption)) | exact Bool.noConfusion (hc.symm.trans (by assumption)))]; rfl))
 refine any_pure (i := 15) (listed' := [tt,tt,ff,tt,tt,tt,tt,tt,tt,tt,tt,tt,tt,tt,tt,tt,ff,ff,ff]) rfl npI (pure_pick_t rfl rfl) rfl (by kernel_rfl) rfl rfl ?_
 refine any_one (j := 2) (by kernel_rfl) ?_
 (refine one_step0 (listed' := [tt,tt,tt,tt,tt,tt,tt,tt,tt,tt,tt,tt,tt,tt,tt,tt,ff,ff,ff]) rfl (step_buildSlice rfl rfl rfl (by omega) (by unfold maxLen; omega) rfl) rfl rfl ?_; rintro _ ⟨b684, rfl⟩)
 refine any_pure (i := 16) (listed' := [tt,tt,tt,tt,tt,tt,tt,tt,tt,tt,tt,tt,tt,tt,tt,tt,tt,ff,ff]) rfl npI (pure_assign rfl) rfl (by kernel_rfl) rfl rfl ?_
 refine any_one (j := 17) (by kernel_rfl) ?_
 refine one_storeM (listed' := [tt,tt,tt,tt,tt,tt,tt,tt,tt,tt,tt,tt,tt,tt,tt,tt,tt,tt,ff]) rfl rfl rfl rfl rfl rfl rfl rfl (by repeat first | exact Sw.here | apply Sw.there) (by rfl) (by repeat (first | exact HmOk.nil | apply HmOk.dep (by decide +kernel) | apply HmOk.im (by decide +kernel) (by assumption) (by repeat first | exact mH | apply mT) | apply HmOk.blk (by decide +kernel) (by repeat (first | exact Pk.here | apply Pk.there)) (by repeat first | exact mH | apply mT))) ?_
 refine any_pure (i := 18) (listed' := [tt,tt,tt,tt,tt,tt,tt,tt,tt,tt,tt,tt,tt,tt,tt,tt,tt,tt,tt]) rfl npI (pure_assign rfl) rfl (by kernel_rfl) rfl rfl ?_
 refine any_done (by kernel_rfl) ?_
 refine nrm_seq ?_
 (refine ret_freeze Pk.here (fun G5 hle5 hsl5 hno5 => ?_))
 refine tri_ret (ret_block (ret_seq (ret_fin3 (res_tmp rfl) (res_cell rfl (load_ba rfl rfl (by repeat first | exact mH | apply mT) (by rfl))) (res_tmp rfl) ?_)))
 (refine WtP.two hsl5 (tyInt_r _) (tyInt_r _) (tyBool_r _) ?_; rw [mW78 (by omega)]; first | (rw [if_pos ⟨by assumption, by assumption⟩, if_pos (by omega)]; rfl) | (rw [if_neg (fun hc => by first | exact Bool.noConfusion (hc.1.symm.trans (by assumption)) | exact Bool.noConfusion (hc.2.symm.trans (by assumption)) | exact Bool.noConfusion (hc.symm.trans (by assumption)))]; rfl))
 refine any_pure (i := 9) (listed' := [tt,tt,ff,tt,tt,tt,tt,tt,tt,tt,ff,ff,ff,ff,ff,ff,ff,ff,ff]) rfl npI (pure_move rfl) rfl (by kernel_rfl) rfl rfl ?_
 refine any_skip (i := 10) (listed' := [tt,tt,ff,tt,tt,tt,tt,tt,tt,tt,tt,ff,ff,ff,ff,ff,ff,ff,ff]) rfl npI rfl (by kernel_rfl) rfl rfl ?_
 refine any_skip (i := 11) (listed' := [tt,tt,ff,tt,tt,tt,tt,tt,tt,tt,tt,tt,ff,ff,ff,ff,ff,ff,ff]) rfl npI rfl (by kernel_rfl) rfl rfl ?_
 refine any_skip (i := 12) (listed' := [tt,tt,ff,tt,tt,tt,tt,tt,tt,tt,tt,tt,tt,ff,ff,ff,ff,ff,ff]) rfl npI rfl (by kernel_rfl) rfl rfl ?_
 refine any_skip (i := 13) (listed' := [tt,tt,ff,tt,tt,tt,tt,tt,tt,tt,tt,tt,tt,tt,ff,ff,ff,ff,ff]) rfl npI rfl (by kernel_rfl) rfl rfl ?_
 refine any_two (j := 2) (j' := 14) (by kernel_rfl) ?_ ?_
 (refine one_step0 (listed' := [tt,tt,tt,tt,tt,tt,tt,tt,tt,tt,tt,tt,tt,tt,ff,ff,ff,ff,ff]) rfl (step_buildSlice rfl rfl rfl (by omega) (by unfold maxLen; omega) rfl) rfl rfl ?_; rintro _ ⟨b703, rfl⟩)
 refine any_skip (i := 14) (listed' := [tt,tt,tt,tt,tt,tt,tt,tt,tt,tt,tt,tt,tt,tt,tt,ff,ff,ff,ff]) rfl npI rfl (by kernel_rfl) rfl rfl ?_
 refine any_pure (i := 15) (listed' := [tt,tt,tt,tt,tt,tt,tt,tt,tt,tt,tt,tt,tt,tt,tt,tt,ff,ff,ff]) rfl npI (pure_pick_f rfl rfl) rfl (by kernel_rfl) rfl rfl ?_
 refine any_pure (i := 16) (listed' := [tt,tt,tt,tt,tt,tt,tt,tt,tt,tt,tt,tt,tt,tt,tt,tt,tt,ff,ff]) rfl npI (pure_assign rfl) rfl (by kernel_rfl) rfl rfl ?_
 refine any_one (j := 17) (by kernel_rfl) ?_
 refine one_storeM (listed' := [tt,tt,tt,tt,tt,tt,tt,tt,tt,tt,tt,tt,tt,tt,tt,tt,tt,tt,ff]) rfl rfl rfl rfl rfl rfl rfl rfl (by repeat first | exact Sw.here | apply Sw.there) (by rfl) (by repeat (first | exact HmOk.nil | apply HmOk.dep (by decide +kernel) | apply HmOk.im (by decide +kernel) (by assumption) (by repeat first | exact mH | apply mT) | apply HmOk.blk (by decide +kernel) (by repeat (first | exact Pk.here | apply Pk.there)) (by repeat first | exact mH | apply mT))) ?_
 refine any_pure (i := 18) (listed' := [tt,tt,tt,tt,tt,tt,tt,tt,tt,tt,tt,tt,tt,tt,tt,tt,tt,tt,tt]) rfl npI (pure_assign rfl) rfl (by kernel_rfl) rfl rfl ?_
 refine any_done (by kernel_rfl) ?_
 refine nrm_seq ?_
 (refine ret_freeze Pk.here (fun G5 hle5 hsl5 hno5 => ?_))
 refine tri_ret (ret_block (ret_seq (ret_fin3 (res_tmp rfl) (res_cell rfl (load_ba rfl rfl (by repeat first | exact mH | apply mT) (by rfl))) (res_tmp rfl) ?_)))
 (refine WtP.two hsl5 (tyInt_r _) (tyInt_r _) (tyBool_r _) ?_; rw [mW78 (by omega)]; first | (rw [if_pos ⟨by assumption, by assumption⟩, if_pos (by omega)]; rfl) | (rw [if_neg (fun hc => by first | exact Bool.noConfusion (hc.1.symm.trans (by assumption)) | exact Bool.noConfusion (hc.2.symm.trans (by assumption)) | exact Bool.noConfusion (hc.symm.trans (by assumption)))]; rfl))
 refine one_skip (listed' := [tt,tt,ff,tt,tt,tt,tt,tt,tt,tt,tt,tt,tt,tt,tt,ff,ff,ff,ff]) rfl rfl rfl rfl ?_
 refine any_pure (i := 15) (listed' := [tt,tt,ff,tt,tt,tt,tt,tt,tt,tt,tt,tt,tt,tt,tt,tt,ff,ff,ff]) rfl npI (pure_pick_f rfl rfl) rfl (by kernel_rfl) rfl rfl ?_
 refine any_one (j := 2) (by kernel_rfl) ?_
 (refine one_step0 (listed' := [tt,tt,tt,tt,tt,tt,tt,tt,tt,tt,tt,tt,tt,tt,tt,tt,ff,ff,ff]) rfl (step_buildSlice rfl rfl rfl (by omega) (by unfold maxLen; omega) rfl) rfl rfl ?_; rintro _ ⟨b721, rfl⟩)
 refine any_pure (i := 16) (listed' := [tt,tt,tt,tt,tt,tt,tt,tt,tt,tt,tt,tt,tt,tt,tt,tt,tt,ff,ff]) rfl npI (pure_assign rfl) rfl (by kernel_rfl) rfl rfl ?_
 refine any_one (j := 17) (by kernel_rfl) ?_
 refine one_storeM (listed' := [tt,tt,tt,tt,tt,tt,tt,tt,tt,tt,tt,tt,tt,tt,tt,tt,tt,tt,ff]) rfl rfl rfl rfl rfl rfl rfl rfl (by repeat first | exact Sw.here | apply Sw.there) (by rfl) (by repeat (first | exact HmOk.nil | apply HmOk.dep (by decide +kernel) | apply HmOk.im (by decide +kernel) (by assumption) (by repeat first | exact mH | apply mT) | apply HmOk.blk (by decide +kernel) (by repeat (first | exact Pk.here | apply Pk.there)) (by repeat first | exact mH | apply mT))) ?_
 refine any_pure (i := 18) (listed' := [tt,tt,tt,tt,tt,tt,tt,tt,tt,tt,tt,tt,tt,tt,tt,tt,tt,tt,tt]) rfl npI (pure_assign rfl) rfl (by kernel_rfl) rfl rfl ?_
 refine any_done (by kernel_rfl) ?_
 refine nrm_seq ?_
 (refine ret_freeze Pk.here (fun G5 hle5 hsl5 hno5 => ?_))
 refine tri_ret (ret_block (ret_seq (ret_fin3 (res_tmp rfl) (res_cell rfl (load_ba rfl rfl (by repeat first | exact mH | apply mT) (by rfl))) (res_tmp rfl) ?_)))
 (refine WtP.two hsl5 (tyInt_r _) (tyInt_r _) (tyBool_r _) ?_; rw [mW78 (by omega)]; first | (rw [if_pos ⟨by assumption, by assumption⟩, if_pos (by omega)]; rfl) | (rw [if_neg (fun hc => by first | exact Bool.noConfusion (hc.1.symm.trans (by assumption)) | exact Bool.noConfusion (hc.2.symm.trans (by assumption)) | exact Bool.noConfusion (hc.symm.trans (by assumption)))]; rfl))
 refine seq_pure (pure_assign rfl) rfl rfl ?_
 refine seq_done (nrm_seq (tri_cond_f rfl ?_))
 refine tri_seq (tri_region (seq_bool (pure_eql rfl rfl) rfl rfl (fun h740 => ?_) (fun h740 => ?_)))
 refine seq_pure (pure_assign rfl) rfl rfl ?_
 refine seq_done (nrm_seq (tri_cond_t rfl ?_))
 refine tri_seq (tri_seq ?_)
 (have hl3 : n = 3 := hop.2.1 (by omega); obtain ⟨b0, o0, q0, d0, hp0, hat0, hre0, hg0⟩ := hsl.kidD hkl (i := 0) (by omega) (by omega); obtain ⟨b1, o1, q1, d1, hp1, hat1, hre1, hg1⟩ := hsl.kidD hkl (i := 1) (by omega) (by omega); cases hp0; cases hp1; obtain ⟨b2, o2, q2, d2, hp2, hat2, hre2, hg2⟩ := hsl.kidD hkl (i := 2) (by omega) (by omega); cases hp2; refine tri_draw mixed rfl ?_)
 refine any_pure (i := 0) (listed' := [tt,ff,ff,ff,ff,ff,ff,ff,ff,ff,ff,ff,ff,ff,ff,ff]) rfl npI (pure_move rfl) rfl (by kernel_rfl) rfl rfl ?_
 refine any_pure (i := 1) (listed' := [tt,tt,ff,ff,ff,ff,ff,ff,ff,ff,ff,ff,ff,ff,ff,ff]) rfl npI (pure_indexAddrN (j := 0) rfl rfl rfl (by omega)) rfl (by kernel_rfl) rfl rfl ?_
 refine any_load (i := 2) (listed' := [tt,tt,tt,ff,ff,ff,ff,ff,ff,ff,ff,ff,ff,ff,ff,ff]) rfl npI (load_a rfl rfl (hat0 _) rfl) rfl (by kernel_rfl) rfl rfl ?_
 refine any_load (i := 3) (listed' := [tt,tt,tt,tt,ff,ff,ff,ff,ff,ff,ff,ff,ff,ff,ff,ff]) rfl npI (load_ba rfl rfl (by repeat first | exact mH | apply mT) (by rfl)) rfl (by kernel_rfl) rfl rfl ?_
 refine any_one (j := 4) (by kernel_rfl) ?_
 refine one_valb (listed' := [tt,tt,tt,tt,tt,ff,ff,ff,ff,ff,ff,ff,ff,ff,ff,ff]) rfl rfl ((consistent_fn _ _ _ _ _ hre0 (tyBool_r _))) rfl rfl rfl (fun h753 => ?_) (fun h753 => ?_)
 refine any_pure (i := 5) (listed' := [tt,tt,tt,tt,tt,tt,ff,ff,ff,ff,ff,ff,ff,ff,ff,ff]) rfl npI (pure_not_t rfl) rfl (by kernel_rfl) rfl rfl ?_
 refine any_pure (i := 6) (listed' := [tt,tt,tt,tt,tt,tt,tt,ff,ff,ff,ff,ff,ff,ff,ff,ff]) rfl npI (pure_move rfl) rfl (by kernel_rfl) rfl rfl ?_
 refine any_pure (i := 7) (listed' := [tt,tt,tt,tt,tt,tt,tt,tt,ff,ff,ff,ff,ff,ff,ff,ff]) rfl npI (pure_move rfl) rfl (by kernel_rfl) rfl rfl ?_
 refine any_pure (i := 8) (listed' := [tt,tt,tt,tt,tt,tt,tt,tt,tt,ff,ff,ff,ff,ff,ff,ff]) rfl npI (pure_indexAddrN (j := 1) rfl rfl rfl (by omega)) rfl (by kernel_rfl) rfl rfl ?_
 refine any_load (i := 9) (listed' := [tt,tt,tt,tt,tt,tt,tt,tt,tt,tt,ff,ff,ff,ff,ff,ff]) rfl npI (load_a rfl rfl (hat1 _) rfl) rfl (by kernel_rfl) rfl rfl ?_
 refine any_pure (i := 10) (listed' := [tt,tt,tt,tt,tt,tt,tt,tt,tt,tt,tt,ff,ff,ff,ff,ff]) rfl npI (pure_move rfl) rfl (by kernel_rfl) rfl rfl ?_
 refine any_pure (i := 11) (listed' := [tt,tt,tt,tt,tt,tt,tt,tt,tt,tt,tt,tt,ff,ff,ff,ff]) rfl npI (pure_indexAddrN (j := 2) rfl rfl rfl (by omega)) rfl (by kernel_rfl) rfl rfl ?_
 refine any_load (i := 12) (listed' := [tt,tt,tt,tt,tt,tt,tt,tt,tt,tt,tt,tt,tt,ff,ff,ff]) rfl npI (load_a rfl rfl (hat2 _) rfl) rfl (by kernel_rfl) rfl rfl ?_
 refine any_one (j := 13) (by kernel_rfl) ?_
 refine one_valb (listed' := [tt,tt,tt,tt,tt,tt,tt,tt,tt,tt,tt,tt,tt,tt,ff,ff]) rfl rfl ((consistent_fn _ _ _ _ _ hre1 hre2)) rfl rfl rfl (fun h763 => ?_) (fun h763 => ?_)
 refine any_pure (i := 14) (listed' := [tt,tt,tt,tt,tt,tt,tt,tt,tt,tt,tt,tt,tt,tt,tt,ff]) rfl npI (pure_not_t rfl) rfl (by kernel_rfl) rfl rfl ?_
 refine any_pure (i := 15) (listed' := [tt,tt,tt,tt,tt,tt,tt,tt,tt,tt,tt,tt,tt,tt,tt,tt]) rfl npI (pure_pick_f rfl rfl) rfl (by kernel_rfl) rfl rfl ?_
 refine any_done (by kernel_rfl) ?_
 refine nrm_seq (tri_cond_f rfl ?_)
 refine tri_skip (nrm_seq (tri_seq ?_))
 (have hl3 : n = 3 := hop.2.1 (by omega); obtain ⟨b0, o0, q0, d0, hp0, hat0, hre0, hg0⟩ := hsl.kidD hkl (i := 0) (by omega) (by omega); obtain ⟨b1, o1, q1, d1, hp1, hat1, hre1, hg1⟩ := hsl.kidD hkl (i := 1) (by omega) (by omega); cases hp0; cases hp1; obtain ⟨b2, o2, q2, d2, hp2, hat2, hre2, hg2⟩ := hsl.kidD hkl (i := 2) (by omega) (by omega); cases hp2; refine tri_draw mixed rfl ?_)
 refine any_pure (i := 0) (listed' := [tt,ff,ff,ff,ff,ff,ff,ff,ff]) rfl npI (pure_move rfl) rfl (by kernel_rfl) rfl rfl ?_
 refine any_pure (i := 1) (listed' := [tt,tt,ff,ff,ff,ff,ff,ff,ff]) rfl npI (pure_indexAddrN (j := 1) rfl rfl rfl (by omega)) rfl (by kernel_rfl) rfl rfl ?_
 refine any_load (i := 2) (listed' := [tt,tt,tt,ff,ff,ff,ff,ff,ff]) rfl npI (load_a rfl rfl (hat1 _) rfl) rfl (by kernel_rfl) rfl rfl ?_
 refine any_pure (i := 3) (listed' := [tt,tt,tt,tt,ff,ff,ff,ff,ff]) rfl npI (pure_move rfl) rfl (by kernel_rfl) rfl rfl ?_
 refine any_pure (i := 4) (listed' := [tt,tt,tt,tt,tt,ff,ff,ff,ff]) rfl npI (pure_indexAddrN (j := 2) rfl rfl rfl (by omega)) rfl (by kernel_rfl) rfl rfl ?_
 refine any_load (i := 5) (listed' := [tt,tt,tt,tt,tt,tt,ff,ff,ff]) rfl npI (load_a rfl rfl (hat2 _) rfl) rfl (by kernel_rfl) rfl rfl ?_
 refine any_two (j := 6) (j' := 7) (by kernel_rfl) ?_ ?_
 (refine one_imm (listed' := [tt,tt,tt,tt,tt,tt,tt,ff,ff]) rfl rfl (meet_fn _ _ _ _ _ (by assumption) (getD_ar har (by omega)) (getD_ar har (by omega)) hre1 hre2) rfl rfl rfl (fun v GM hleM hh => ?_); obtain ⟨cM, rfl, hrM⟩ := hh; obtain ⟨p7, c7, e7, rfl, _⟩ := hrM.open)
 refine any_one (j := 7) (by kernel_rfl) ?_
 (refine one_step0 (listed' := [tt,tt,tt,tt,tt,tt,tt,tt,ff]) rfl (step_alloc rfl) rfl rfl ?_; rintro _ ⟨b782, rfl⟩)
 refine any_one (j := 8) (by kernel_rfl) ?_
 refine one_storeM (listed' := [tt,tt,tt,tt,tt,tt,tt,tt,tt]) rfl rfl rfl rfl rfl rfl rfl rfl (by repeat first | exact Sw.here | apply Sw.there) (by rfl) (by repeat (first | exact HmOk.nil | apply HmOk.dep (by decide +kernel) | apply HmOk.im (by decide +kernel) (by assumption) (by repeat first | exact mH | apply mT) | apply HmOk.blk (by decide +kernel) (by repeat (first | exact Pk.here | apply Pk.there)) (by repeat first | exact mH | apply mT))) ?_
 refine any_done (by kernel_rfl) ?_
 refine nrm_seq (tri_seq ?_)
 (have hl3 : n = 3 := hop.2.1 (by omega); obtain ⟨b0, o0, q0, d0, hp0, hat0, hre0, hg0⟩ := hsl.kidD hkl (i := 0) (by omega) (by omega); obtain ⟨b1, o1, q1, d1, hp1, hat1, hre1, hg1⟩ := hsl.kidD hkl (i := 1) (by omega) (by omega); cases hp0; cases hp1; obtain ⟨b2, o2, q2, d2, hp2, hat2, hre2, hg2⟩ := hsl.kidD hkl (i := 2) (by omega) (by omega); cases hp2; refine tri_draw mixed rfl ?_)
 refine any_load (i := 0) (listed' := [tt,ff,ff,ff,ff,ff,ff,ff]) rfl npI (load_ba rfl rfl (by repeat first | exact mH | apply mT) (by rfl)) rfl (by kernel_rfl) rfl rfl ?_
 refine any_load (i := 1) (listed' := [tt,tt,ff,ff,ff,ff,ff,ff]) rfl npI (load_ba rfl rfl (by repeat first | exact mH | apply mT) (by rfl)) rfl (by kernel_rfl) rfl rfl ?_
 refine any_load (i := 2) (listed' := [tt,tt,tt,ff,ff,ff,ff,ff]) rfl npI (load_ba rfl rfl (by repeat first | exact mH | apply mT) (by rfl)) rfl (by kernel_rfl) rfl rfl ?_
 refine any_load (i := 4) (listed' := [tt,tt,tt,ff,tt,ff,ff,ff]) rfl npI (load_ba rfl rfl (by repeat first | exact mH | apply mT) (by rfl)) rfl (by kernel_rfl) rfl rfl ?_
 refine any_one (j := 3) (by kernel_rfl) ?_
 (refine one_step0 (listed' := [tt,tt,tt,tt,tt,ff,ff,ff]) rfl (step_buildSlice rfl rfl rfl (by omega) (by unfold maxLen; omega) rfl) rfl rfl ?_; rintro _ ⟨b794, rfl⟩)
 refine any_pure (i := 5) (listed' := [tt,tt,tt,tt,tt,tt,ff,ff]) rfl npI (pure_assign rfl) rfl (by kernel_rfl) rfl rfl ?_
 refine any_one (j := 6) (by kernel_rfl) ?_
 refine one_storeM (listed' := [tt,tt,tt,tt,tt,tt,tt,ff]) rfl rfl rfl rfl rfl rfl rfl rfl (by repeat first | exact Sw.here | apply Sw.there) (by rfl) (by repeat (first | exact HmOk.nil | apply HmOk.dep (by decide +kernel) | apply HmOk.im (by decide +kernel) (by assumption) (by repeat first | exact mH | apply mT) | apply HmOk.blk (by decide +kernel) (by repeat (first | exact Pk.here | apply Pk.there)) (by repeat first | exact mH | apply mT))) ?_
 refine any_pure (i := 7) (listed' := [tt,tt,tt,tt,tt,tt,tt,tt]) rfl npI (pure_assign rfl) rfl (by kernel_rfl) rfl rfl ?_
 refine any_done (by kernel_rfl) ?_
 refine nrm_seq ?_
 (refine ret_freeze Pk.here (fun G5 hle5 hsl5 hno5 => ?_))
 refine tri_ret (ret_block (ret_seq (ret_fin3 (res_tmp rfl) (res_cell rfl (load_ba rfl rfl (by repeat first | exact mH | apply mT) (by rfl))) (res_tmp rfl) ?_)))
 (have hk1 : k = 9 := (by omega); subst hk1; exact WtP.three hsl5 (tyBool_r _) (hrM.mono hle5) (hrM.mono hle5) (hrM.mono hle5) (by rw [mW9, if_pos ⟨by assumption, by assumption⟩]; rfl))
 (refine one_step0 (listed' := [tt,tt,tt,tt,tt,tt,ff,tt,ff]) rfl (step_alloc rfl) rfl rfl ?_; rintro _ ⟨b807, rfl⟩)
 refine any_one (j := 6) (by kernel_rfl) ?_
 (refine one_imm (listed' := [tt,tt,tt,tt,tt,tt,tt,tt,ff]) rfl rfl (meet_fn _ _ _ _ _ (by assumption) (getD_ar har (by omega)) (getD_ar har (by omega)) hre1 hre2) rfl rfl rfl (fun v GM hleM hh => ?_); obtain ⟨cM, rfl, hrM⟩ := hh; obtain ⟨p7, c7, e7, rfl, _⟩ := hrM.open)
 refine any_one (j := 8) (by kernel_rfl) ?_
 refine one_storeM (listed' := [tt,tt,tt,tt,tt,tt,tt,tt,tt]) rfl rfl rfl rfl rfl rfl rfl rfl (by repeat first | exact Sw.here | apply Sw.there) (by rfl) (by repeat (first | exact HmOk.nil | apply HmOk.dep (by decide +kernel) | apply HmOk.im (by decide +kernel) (by assumption) (by repeat first | exact mH | apply mT) | apply HmOk.blk (by decide +kernel) (by repeat (first | exact Pk.here | apply Pk.there)) (by repeat first | exact mH | apply mT))) ?_
 refine any_done (by kernel_rfl) ?_
 refine nrm_seq (tri_seq ?_)
 (have hl3 : n = 3 := hop.2.1 (by omega); obtain ⟨b0, o0, q0, d0, hp0, hat0, hre0, hg0⟩ := hsl.kidD hkl (i := 0) (by omega) (by omega); obtain ⟨b1, o1, q1, d1, hp1, hat1, hre1, hg1⟩ := hsl.kidD hkl (i := 1) (by omega) (by omega); cases hp0; cases hp1; obtain ⟨b2, o2, q2, d2, hp2, hat2, hre2, hg2⟩ := hsl.kidD hkl (i := 2) (by omega) (by omega); cases hp2; refine tri_draw mixed rfl ?_)
 refine any_load (i := 0) (listed' := [tt,ff,ff,ff,ff,ff,ff,ff]) rfl npI (load_ba rfl rfl (by repeat first | exact mH | apply mT) (by rfl)) rfl (by kernel_rfl) rfl rfl ?_
 refine any_load (i := 1) (listed' := [tt,tt,ff,ff,ff,ff,ff,ff]) rfl npI (load_ba rfl rfl (by repeat first | exact mH | apply mT) (by rfl)) rfl (by kernel_rfl) rfl rfl ?_
 refine any_load (i := 2) (listed' := [tt,tt,tt,ff,ff,ff,ff,ff]) rfl npI (load_ba rfl rfl (by repeat first | exact mH | apply mT) (by rfl)) rfl (by kernel_rfl) rfl rfl ?_
 refine any_load (i := 4) (listed' := [tt,tt,tt,ff,tt,ff,ff,ff]) rfl npI (load_ba rfl rfl (by repeat first | exact mH | apply mT) (by rfl)) rfl (by kernel_rfl) rfl rfl ?_
 refine any_one (j := 3) (by kernel_rfl) ?_
 (refine one_step0 (listed' := [tt,tt,tt,tt,tt,ff,ff,ff]) rfl (step_buildSlice rfl rfl rfl (by omega) (by unfold maxLen; omega) rfl) rfl rfl ?_; rintro _ ⟨b821, rfl⟩)
 refine any_pure (i := 5) (listed' := [tt,tt,tt,tt,tt,tt,ff,ff]) rfl npI (pure_assign rfl) rfl (by kernel_rfl) rfl rfl ?_
 refine any_one (j := 6) (by kernel_rfl) ?_
 refine one_storeM (listed' := [tt,tt,tt,tt,tt,tt,tt,ff]) rfl rfl rfl rfl rfl rfl rfl rfl (by repeat first | exact Sw.here | apply Sw.there) (by rfl) (by repeat (first | exact HmOk.nil | apply HmOk.dep (by decide +kernel) | apply HmOk.im (by decide +kernel) (by assumption) (by repeat first | exact mH | apply mT) | apply HmOk.blk (by decide +kernel) (by repeat (first | exact Pk.here | apply Pk.there)) (by repeat first | exact mH | apply mT))) ?_
 refine any_pure (i := 7) (listed' := [tt,tt,tt,tt,tt,tt,tt,tt]) rfl npI (pure_assign rfl) rfl (by kernel_rfl) rfl rfl ?_
 refine any_done (by kernel_rfl) ?_
 refine nrm_seq ?_
 (refine ret_freeze Pk.here (fun G5 hle5 hsl5 hno5 => ?_))
 refine tri_ret (ret_block (ret_seq (ret_fin3 (res_tmp rfl) (res_cell rfl (load_ba rfl rfl (by repeat first | exact mH | apply mT) (by rfl))) (res_tmp rfl) ?_)))
 (have hk1 : k = 9 := (by omega); subst hk1; exact WtP.three hsl5 (tyBool_r _) (hrM.mono hle5) (hrM.mono hle5) (hrM.mono hle5) (by rw [mW9, if_pos ⟨by assumption, by assumption⟩]; rfl))
 refine any_pure (i := 14) (listed' := [tt,tt,tt,tt,tt,tt,tt,tt,tt,tt,tt,tt,tt,tt,tt,ff]) rfl npI (pure_not_f rfl) rfl (by kernel_rfl) rfl rfl ?_
 refine any_pure (i := 15) (listed' := [tt,tt,tt,tt,tt,tt,tt,tt,tt,tt,tt,tt,tt,tt,tt,tt]) rfl npI (pure_pick_f rfl rfl) rfl (by kernel_rfl) rfl rfl ?_
 refine any_done (by kernel_rfl) ?_
 refine nrm_seq (tri_cond_t rfl ?_)
 refine tri_seq (tri_region (seq_pure (pure_build rfl rfl) rfl rfl ?_))
 refine seq_pure (pure_assign rfl) rfl rfl ?_
 refine seq_store rfl rfl rfl rfl rfl rfl (by repeat first | exact Sw.here | apply Sw.there) (by rfl) ?_
 refine seq_pure (pure_assign rfl) rfl rfl ?_
 refine seq_done (nrm_seq (tri_ret (ret_seq (ret_block (ret_seq (ret_fin3 (res_tmp rfl) (res_cell rfl (load_ba rfl rfl (by repeat first | exact mH | apply mT) (by rfl))) (res_tmp rfl) ?_))))))
 (have hk1 : k = 9 := (by omega); subst hk1; exact WtP.nil (u := ty0) (tyLeaf_r _ ⟨by omega, by omega⟩) (by rw [mW9, if_neg (fun hc => by first | exact Bool.noConfusion (hc.1.symm.trans (by assumption)) | exact Bool.noConfusion (hc.2.symm.trans (by assumption)) | exact Bool.noConfusion (hc.symm.trans (by assumption)))]; rfl))
 refine any_pure (i := 5) (listed' := [tt,tt,tt,tt,tt,tt,ff,ff,ff,ff,ff,ff,ff,ff,ff,ff]) rfl npI (pure_not_f rfl) rfl (by kernel_rfl) rfl rfl ?_
 refine any_pure (i := 6) (listed' := [tt,tt,tt,tt,tt,tt,tt,ff,ff,ff,ff,ff,ff,ff,ff,ff]) rfl npI (pure_move rfl) rfl (by kernel_rfl) rfl rfl ?_
 refine any_skip (i := 7) (listed' := [tt,tt,tt,tt,tt,tt,tt,tt,ff,ff,ff,ff,ff,ff,ff,ff]) rfl npI rfl (by kernel_rfl) rfl rfl ?_
 refine any_skip (i := 8) (listed' := [tt,tt,tt,tt,tt,tt,tt,tt,tt,ff,ff,ff,ff,ff,ff,ff]) rfl npI rfl (by kernel_rfl) rfl rfl ?_
 refine any_skip (i := 9) (listed' := [tt,tt,tt,tt,tt,tt,tt,tt,tt,tt,ff,ff,ff,ff,ff,ff]) rfl npI rfl (by kernel_rfl) rfl rfl ?_
 refine any_skip (i := 10) (listed' := [tt,tt,tt,tt,tt,tt,tt,tt,tt,tt,tt,ff,ff,ff,ff,ff]) rfl npI rfl (by kernel_rfl) rfl rfl ?_
 refine any_skip (i := 11) (listed' := [tt,tt,tt,tt,tt,tt,tt,tt,tt,tt,tt,tt,ff,ff,ff,ff]) rfl npI rfl (by kernel_rfl) rfl rfl ?_
 refine any_skip (i := 12) (listed' := [tt,tt,tt,tt,tt,tt,tt,tt,tt,tt,tt,tt,tt,ff,ff,ff]) rfl npI rfl (by kernel_rfl) rfl rfl ?_
 refine any_skip (i := 13) (listed' := [tt,tt,tt,tt,tt,tt,tt,tt,tt,tt,tt,tt,tt,tt,ff,ff]) rfl npI rfl (by kernel_rfl) rfl rfl ?_
 refine any_skip (i := 14) (listed' := [tt,tt,tt,tt,tt,tt,tt,tt,tt,tt,tt,tt,tt,tt,tt,ff]) rfl npI rfl (by kernel_rfl) rfl rfl ?_
 refine any_pure (i := 15) (listed' := [tt,tt,tt,tt,tt,tt,tt,tt,tt,tt,tt,tt,tt,tt,tt,tt]) rfl npI (pure_pick_t rfl rfl) rfl (by kernel_rfl) rfl rfl ?_
 refine any_done (by kernel_rfl) ?_
 refine nrm_seq (tri_cond_t rfl ?_)
 refine tri_seq (tri_region (seq_pure (pure_build rfl rfl) rfl rfl ?_))
 refine seq_pure (pure_assign rfl) rfl rfl ?_
 refine seq_store rfl rfl rfl rfl rfl rfl (by repeat first | exact Sw.here | apply Sw.there) (by rfl) ?_
 refine seq_pure (pure_assign rfl) rfl rfl ?_
 refine seq_done (nrm_seq (tri_ret (ret_seq (ret_block (ret_seq (ret_fin3 (res_tmp rfl) (res_cell rfl (load_ba rfl rfl (by repeat first | exact mH | apply mT) (by rfl))) (res_tmp rfl) ?_))))))
 (have hk1 : k = 9 := (by omega); subst hk1; exact WtP.nil (u := ty0) (tyLeaf_r _ ⟨by omega, by omega⟩) (by rw [mW9, if_neg (fun hc => by first | exact Bool.noConfusion (hc.1.symm.trans (by assumption)) | exact Bool.noConfusion (hc.2.symm.trans (by assumption)) | exact Bool.noConfusion (hc.symm.trans (by assumption)))]; rfl))
 refine seq_pure (pure_assign rfl) rfl rfl ?_
 refine seq_done (nrm_seq (tri_cond_f rfl ?_))
 refine tri_seq (tri_region (seq_bool (pure_eql rfl rfl) rfl rfl (fun h887 => ?_) (fun h887 => ?_)))
 refine seq_pure (pure_assign rfl) rfl rfl ?_
 refine seq_done (nrm_seq (tri_cond_t rfl ?_))
 refine tri_seq ?_
 (have hl2 : n = 2 := hop.1 (by omega); obtain ⟨b0, o0, q0, d0, hp0, hat0, hre0, hg0⟩ := hsl.kidD hkl (i := 0) (by omega) (by omega); obtain ⟨b1, o1, q1, d1, hp1, hat1, hre1, hg1⟩ := hsl.kidD hkl (i := 1) (by omega) (by omega); cases hp0; cases hp1; refine tri_draw mixed rfl ?_)
 refine any_pure (i := 0) (listed' := [tt,ff,ff,ff,ff,ff,ff,ff,ff,ff]) rfl npI (pure_move rfl) rfl (by kernel_rfl) rfl rfl ?_
 refine any_pure (i := 1) (listed' := [tt,tt,ff,ff,ff,ff,ff,ff,ff,ff]) rfl npI (pure_indexAddrN (j := 0) rfl rfl rfl (by omega)) rfl (by kernel_rfl) rfl rfl ?_
 refine any_load (i := 2) (listed' := [tt,tt,tt,ff,ff,ff,ff,ff,ff,ff]) rfl npI (load_a rfl rfl (hat0 _) rfl) rfl (by kernel_rfl) rfl rfl ?_
 refine any_pure (i := 3) (listed' := [tt,tt,tt,tt,ff,ff,ff,ff,ff,ff]) rfl npI (pure_move rfl) rfl (by kernel_rfl) rfl rfl ?_
 refine any_pure (i := 4) (listed' := [tt,tt,tt,tt,tt,ff,ff,ff,ff,ff]) rfl npI (pure_indexAddrN (j := 1) rfl rfl rfl (by omega)) rfl (by kernel_rfl) rfl rfl ?_
 refine any_load (i := 5) (listed' := [tt,tt,tt,tt,tt,tt,ff,ff,ff,ff]) rfl npI (load_a rfl rfl (hat1 _) rfl) rfl (by kernel_rfl) rfl rfl ?_
 refine any_one (j := 6) (by kernel_rfl) ?_
 (refine one_imm (listed' := [tt,tt,tt,tt,tt,tt,tt,ff,ff,ff]) rfl rfl (both_fn 5 _ _ _ _ _ ⟨by omega, by omega⟩ hre0 hre1) rfl rfl rfl (fun v GB hleB hh => ?_); obtain ⟨cB, rfl, hrB⟩ := hh; obtain ⟨p7, c7, e7, rfl, _⟩ := hrB.open)
 refine any_pure (i := 7) (listed' := [tt,tt,tt,tt,tt,tt,tt,tt,ff,ff]) rfl npI (pure_assign rfl) rfl (by kernel_rfl) rfl rfl ?_
 refine any_one (j := 8) (by kernel_rfl) ?_
 refine one_storeM (listed' := [tt,tt,tt,tt,tt,tt,tt,tt,tt,ff]) rfl rfl rfl rfl rfl rfl rfl rfl (by repeat first | exact Sw.here | apply Sw.there) (by rfl) (by repeat (first | exact HmOk.nil | apply HmOk.dep (by decide +kernel) | apply HmOk.im (by decide +kernel) (by assumption) (by repeat first | exact mH | apply mT) | apply HmOk.blk (by decide +kernel) (by repeat (first | exact Pk.here | apply Pk.there)) (by repeat first | exact mH | apply mT))) ?_
 refine any_pure (i := 9) (listed' := [tt,tt,tt,tt,tt,tt,tt,tt,tt,tt]) rfl npI (pure_assign rfl) rfl (by kernel_rfl) rfl rfl ?_
 refine any_done (by kernel_rfl) ?_
 refine nrm_seq (tri_ret (ret_block (ret_seq (ret_fin3 (res_tmp rfl) (res_cell rfl (load_ba rfl rfl (by repeat first | exact mH | apply mT) (by rfl))) (res_tmp rfl) ?_))))
 (have hk1 : k = 10 := (by omega); subst hk1; exact WtP.nil hrB mW10)
 refine seq_pure (pure_assign rfl) rfl rfl ?_
 refine seq_done (nrm_seq (tri_cond_f rfl ?_))
 refine tri_seq (tri_region (seq_bool (pure_eql rfl rfl) rfl rfl (fun h919 => ?_) (fun h919 => ?_)))
 refine seq_pure (pure_assign rfl) rfl rfl ?_
 refine seq_done (nrm_seq (tri_cond_t rfl ?_))
 refine tri_seq ?_
 (have hl1 : n = 1 := hop.2.2 (by omega); obtain ⟨b0, o0, q0, d0, hp0, hat0, hre0, hg0⟩ := hsl.kidD hkl (i := 0) (by omega) (by omega); cases hp0; refine tri_draw mixed rfl ?_)
 refine any_pure (i := 0) (listed' := [tt,ff,ff,ff,ff,ff,ff,ff,ff,ff,ff,ff,ff,ff]) rfl npI (pure_fieldAddr0 rfl) rfl (by kernel_rfl) rfl rfl ?_
 refine any_load (i := 1) (listed' := [tt,tt,ff,ff,ff,ff,ff,ff,ff,ff,ff,ff,ff,ff]) rfl npI (load_ba rfl rfl (by repeat first | exact mH | apply mT) (by rfl)) rfl (by kernel_rfl) rfl rfl ?_
 refine any_pure (i := 3) (listed' := [tt,tt,ff,tt,ff,ff,ff,ff,ff,ff,ff,ff,ff,ff]) rfl npI (pure_fieldAddr0 rfl) rfl (by kernel_rfl) rfl rfl ?_
 refine any_load (i := 4) (listed' := [tt,tt,ff,tt,tt,ff,ff,ff,ff,ff,ff,ff,ff,ff]) rfl npI (load_ba rfl rfl (by repeat first | exact mH | apply mT) (by rfl)) rfl (by kernel_rfl) rfl rfl ?_
 refine any_pure (i := 5) (listed' := [tt,tt,ff,tt,tt,tt,ff,ff,ff,ff,ff,ff,ff,ff]) rfl npI (pure_move rfl) rfl (by kernel_rfl) rfl rfl ?_
 refine any_pure (i := 6) (listed' := [tt,tt,ff,tt,tt,tt,tt,ff,ff,ff,ff,ff,ff,ff]) rfl npI (pure_indexAddrN (j := 0) rfl rfl rfl (by omega)) rfl (by kernel_rfl) rfl rfl ?_
 refine any_load (i := 7) (listed' := [tt,tt,ff,tt,tt,tt,tt,tt,ff,ff,ff,ff,ff,ff]) rfl npI (load_a rfl rfl (hat0 _) rfl) rfl (by kernel_rfl) rfl rfl ?_
 refine any_pure (i := 8) (listed' := [tt,tt,ff,tt,tt,tt,tt,tt,tt,ff,ff,ff,ff,ff]) rfl npI (pure_fieldAddr0 rfl) rfl (by kernel_rfl) rfl rfl ?_
 refine any_load (i := 9) (listed' := [tt,tt,ff,tt,tt,tt,tt,tt,tt,tt,ff,ff,ff,ff]) rfl npI (load_ba rfl rfl (by repeat first | exact mH | apply mT) (by rfl)) rfl (by kernel_rfl) rfl rfl ?_
 refine any_two (j := 2) (j' := 10) (by kernel_rfl) ?_ ?_
 (refine one_step0 (listed' := [tt,tt,tt,tt,tt,tt,tt,tt,tt,tt,ff,ff,ff,ff]) rfl (step_buildSlice rfl rfl rfl (by omega) (by unfold maxLen; omega) rfl) rfl rfl ?_; rintro _ ⟨b936, rfl⟩)
 refine any_one (j := 10) (by kernel_rfl) ?_
 refine one_valb (listed' := [tt,tt,tt,tt,tt,tt,tt,tt,tt,tt,tt,ff,ff,ff]) rfl rfl ((consistent_fn _ _ _ _ _ hre0 hrty)) rfl rfl rfl (fun h938 => ?_) (fun h938 => ?_)
 refine any_pure (i := 11) (listed' := [tt,tt,tt,tt,tt,tt,tt,tt,tt,tt,tt,tt,ff,ff]) rfl npI (pure_assign rfl) rfl (by kernel_rfl) rfl rfl ?_
 refine any_one (j := 12) (by kernel_rfl) ?_
 refine one_storeM (listed' := [tt,tt,tt,tt,tt,tt,tt,tt,tt,tt,tt,tt,tt,ff]) rfl rfl rfl rfl rfl rfl rfl rfl (by repeat first | exact Sw.here | apply Sw.there) (by rfl) (by repeat (first | exact HmOk.nil | apply HmOk.dep (by decide +kernel) | apply HmOk.im (by decide +kernel) (by assumption) (by repeat first | exact mH | apply mT) | apply HmOk.blk (by decide +kernel) (by repeat (first | exact Pk.here | apply Pk.there)) (by repeat first | exact mH | apply mT))) ?_
 refine any_pure (i := 13) (listed' := [tt,tt,tt,tt,tt,tt,tt,tt,tt,tt,tt,tt,tt,tt]) rfl npI (pure_assign rfl) rfl (by kernel_rfl) rfl rfl ?_
 refine any_done (by kernel_rfl) ?_
 refine nrm_seq ?_
 (refine ret_freeze Pk.here (fun G5 hle5 hsl5 hno5 => ?_))
 refine tri_ret (ret_block (ret_seq (ret_fin3 (res_tmp rfl) (res_cell rfl (load_ba rfl rfl (by repeat first | exact mH | apply mT) (by rfl))) (res_tmp rfl) ?_)))
 (have hk1 : k = 13 := (by omega); subst hk1; refine WtP.one hsl5 (hrty.mono hle5) (hrty.mono hle5) ?_; rw [mW13]; split <;> first | rfl | (exfalso; simp_all; done))
 refine any_pure (i := 11) (listed' := [tt,tt,tt,tt,tt,tt,tt,tt,tt,tt,tt,tt,ff,ff]) rfl npI (pure_assign rfl) rfl (by kernel_rfl) rfl rfl ?_
 refine any_one (j := 12) (by kernel_rfl) ?_
 refine one_storeM (listed' := [tt,tt,tt,tt,tt,tt,tt,tt,tt,tt,tt,tt,tt,ff]) rfl rfl rfl rfl rfl rfl rfl rfl (by repeat first | exact Sw.here | apply Sw.there) (by rfl) (by repeat (first | exact HmOk.nil | apply HmOk.dep (by decide +kernel) | apply HmOk.im (by decide +kernel) (by assumption) (by repeat first | exact mH | apply mT) | apply HmOk.blk (by decide +kernel) (by repeat (first | exact Pk.here | apply Pk.there)) (by repeat first | exact mH | apply mT))) ?_
 refine any_pure (i := 13) (listed' := [tt,tt,tt,tt,tt,tt,tt,tt,tt,tt,tt,tt,tt,tt]) rfl npI (pure_assign rfl) rfl (by kernel_rfl) rfl rfl ?_
 refine any_done (by kernel_rfl) ?_
 refine nrm_seq ?_
 (refine ret_freeze Pk.here (fun G5 hle5 hsl5 hno5 => ?_))
 refine tri_ret (ret_block (ret_seq (ret_fin3 (res_tmp rfl) (res_cell rfl (load_ba rfl rfl (by repeat first | exact mH | apply mT) (by rfl))) (res_tmp rfl) ?_)))
 (have hk1 : k = 13 := (by omega); subst hk1; refine WtP.one hsl5 (hrty.mono hle5) (hrty.mono hle5) ?_; rw [mW13]; split <;> first | rfl | (exfalso; simp_all; done))
 refine one_valb (listed' := [tt,tt,ff,tt,tt,tt,tt,tt,tt,tt,tt,ff,ff,ff]) rfl rfl ((consistent_fn _ _ _ _ _ hre0 hrty)) rfl rfl rfl (fun h963 => ?_) (fun h963 => ?_)
 refine any_one (j := 2) (by kernel_rfl) ?_
 (refine one_step0 (listed' := [tt,tt,tt,tt,tt,tt,tt,tt,tt,tt,tt,ff,ff,ff]) rfl (step_buildSlice rfl rfl rfl (by omega) (by unfold maxLen; omega) rfl) rfl rfl ?_; rintro _ ⟨b965, rfl⟩)
 refine any_pure (i := 11) (listed' := [tt,tt,tt,tt,tt,tt,tt,tt,tt,tt,tt,tt,ff,ff]) rfl npI (pure_assign rfl) rfl (by kernel_rfl) rfl rfl ?_
 refine any_one (j := 12) (by kernel_rfl) ?_
 refine one_storeM (listed' := [tt,tt,tt,tt,tt,tt,tt,tt,tt,tt,tt,tt,tt,ff]) rfl rfl rfl rfl rfl rfl rfl rfl (by repeat first | exact Sw.here | apply Sw.there) (by rfl) (by repeat (first | exact HmOk.nil | apply HmOk.dep (by decide +kernel) | apply HmOk.im (by decide +kernel) (by assumption) (by repeat first | exact mH | apply mT) | apply HmOk.blk (by decide +kernel) (by repeat (first | exact Pk.here | apply Pk.there)) (by repeat first | exact mH | apply mT))) ?_
 refine any_pure (i := 13) (listed' := [tt,tt,tt,tt,tt,tt,tt,tt,tt,tt,tt,tt,tt,tt]) rfl npI (pure_assign rfl) rfl (by kernel_rfl) rfl rfl ?_
 refine any_done (by kernel_rfl) ?_
 refine nrm_seq ?_
 (refine ret_freeze Pk.here (fun G5 hle5 hsl5 hno5 => ?_))
 refine tri_ret (ret_block (ret_seq (ret_fin3 (res_tmp rfl) (res_cell rfl (load_ba rfl rfl (by repeat first | exact mH | apply mT) (by rfl))) (res_tmp rfl) ?_)))
 (have hk1 : k = 13 := (by omega); subst hk1; refine WtP.one hsl5 (hrty.mono hle5) (hrty.mono hle5) ?_; rw [mW13]; split <;> first | rfl | (exfalso; simp_all; done))
 refine any_one (j := 2) (by kernel_rfl) ?_
 (refine one_step0 (listed' := [tt,tt,tt,tt,tt,tt,tt,tt,tt,tt,tt,ff,ff,ff]) rfl (step_buildSlice rfl rfl rfl (by omega) (by unfold maxLen; omega) rfl) rfl rfl ?_; rintro _ ⟨b979, rfl⟩)
 refine any_pure (i := 11) (listed' := [tt,tt,tt,tt,tt,tt,tt,tt,tt,tt,tt,tt,ff,ff]) rfl npI (pure_assign rfl) rfl (by kernel_rfl) rfl rfl ?_
 refine any_one (j := 12) (by kernel_rfl) ?_
 refine one_storeM (listed' := [tt,tt,tt,tt,tt,tt,tt,tt,tt,tt,tt,tt,tt,ff]) rfl rfl rfl rfl rfl rfl rfl rfl (by repeat first | exact Sw.here | apply Sw.there) (by rfl) (by repeat (first | exact HmOk.nil | apply HmOk.dep (by decide +kernel) | apply HmOk.im (by decide +kernel) (by assumption) (by repeat first | exact mH | apply mT) | apply HmOk.blk (by decide +kernel) (by repeat (first | exact Pk.here | apply Pk.there)) (by repeat first | exact mH | apply mT))) ?_
 refine any_pure (i := 13) (listed' := [tt,tt,tt,tt,tt,tt,tt,tt,tt,tt,tt,tt,tt,tt]) rfl npI (pure_assign rfl) rfl (by kernel_rfl) rfl rfl ?_
 refine any_done (by kernel_rfl) ?_
 refine nrm_seq ?_
 (refine ret_freeze Pk.here (fun G5 hle5 hsl5 hno5 => ?_))
 refine tri_ret (ret_block (ret_seq (ret_fin3 (res_tmp rfl) (res_cell rfl (load_ba rfl rfl (by repeat first | exact mH | apply mT) (by rfl))) (res_tmp rfl) ?_)))
 (have hk1 : k = 13 := (by omega); subst hk1; refine WtP.one hsl5 (hrty.mono hle5) (hrty.mono hle5) ?_; rw [mW13]; split <;> first | rfl | (exfalso; simp_all; done))
 refine seq_pure (pure_assign rfl) rfl rfl ?_
 refine seq_done (nrm_seq (tri_cond_f rfl ?_))
 refine tri_skip (nrm_block (nrm_seq (tri_seq (tri_region (seq_pure (pure_move rfl) rfl rfl ?_)))))
 (have hk11 : k = 11 ∨ k = 12 := (by omega); have hl1 : n = 1 := hop.2.2 (by omega); obtain ⟨b0, o0, q0, d0, hp0, hat0, hre0, hg0⟩ := hsl.kidD hkl (i := 0) (by omega) (by omega); cases hp0; refine seq_pure (pure_indexAddrN (j := 0) rfl rfl rfl (by omega)) rfl rfl ?_)
 refine seq_load (load_a rfl rfl (hat0 _) rfl) rfl rfl ?_
 (refine seq_imm rfl (match_fn 5 (h.getD 0 ty0) G _ (.inr rfl) (getD_ar har (by omega)) hre0) rfl rfl (fun v G1 hle1 hh => ?_); obtain ⟨ma, mca, mb, mcb, rfl, hma, hmb, hma2, hmb2, hmm⟩ := hh; obtain ⟨p1, c1, e1, rfl, _⟩ := hma.open; obtain ⟨p2, c2, e2, rfl, _⟩ := hmb.open)
 refine seq_pure (pure_move rfl) rfl rfl ?_
 refine seq_pure (pure_extract rfl rfl) rfl rfl ?_
 refine seq_pure (pure_extract rfl rfl) rfl rfl ?_
 refine seq_pure (pure_extract rfl rfl) rfl rfl ?_
 (refine seq_step (step_alloc rfl) rfl ?_; rintro _ ⟨b1009, rfl⟩)
 (refine seq_step (step_alloc rfl) rfl ?_; rintro _ ⟨b1010, rfl⟩)
 refine seq_store rfl rfl rfl rfl rfl rfl (by repeat first | exact Sw.here | apply Sw.there) (by rfl) ?_
 refine seq_store rfl rfl rfl rfl rfl rfl (by repeat first | exact Sw.here | apply Sw.there) (by rfl) ?_
 refine seq_pure (pure_assign rfl) rfl rfl ?_
 refine seq_done (nrm_seq (tri_seq (tri_region (seq_load (load_ba rfl rfl (by repeat first | exact mH | apply mT) (by rfl)) rfl rfl ?_))))
 (refine seq_step (step_alloc rfl) rfl ?_; rintro _ ⟨b1019, rfl⟩)
 refine seq_store rfl rfl rfl rfl rfl rfl (by repeat first | exact Sw.here | apply Sw.there) (by rfl) ?_
 refine seq_done (nrm_seq (tri_seq (tri_seq (tri_region (seq_pure (pure_fieldAddr0 rfl) rfl rfl ?_)))))
 refine seq_load (load_bs rfl rfl (by repeat first | exact mH | apply mT) (by rfl)) rfl rfl ?_
 refine seq_bool (pure_eql rfl rfl) rfl rfl (fun h1028 => ?_) (fun h1028 => ?_)
 refine seq_done (nrm_seq (tri_cond_t rfl ?_))
 refine tri_region (seq_load (load_ba rfl rfl (by repeat first | exact mH | apply mT) (by rfl)) rfl rfl ?_)
 refine seq_store rfl rfl rfl rfl rfl rfl (by repeat first | exact Sw.here | apply Sw.there) (by rfl) ?_
 refine seq_done (nrm_seq (tri_seq ?_))
 (have hl1 : n = 1 := hop.2.2 (by omega); obtain ⟨b0, o0, q0, d0, hp0, hat0, hre0, hg0⟩ := hsl.kidD hkl (i := 0) (by omega) (by omega); cases hp0; refine tri_draw mixed rfl ?_)
 refine any_load (i := 0) (listed' := [tt,ff,ff,ff,ff,ff,ff,ff,ff]) rfl npI (load_ba rfl rfl (by repeat first | exact mH | apply mT) (by rfl)) rfl (by kernel_rfl) rfl rfl ?_
 refine any_load (i := 1) (listed' := [tt,tt,ff,ff,ff,ff,ff,ff,ff]) rfl npI (load_ba rfl rfl (by repeat first | exact mH | apply mT) (by rfl)) rfl (by kernel_rfl) rfl rfl ?_
 refine any_load (i := 4) (listed' := [tt,tt,ff,ff,tt,ff,ff,ff,ff]) rfl npI (load_ba rfl rfl (by repeat first | exact mH | apply mT) (by rfl)) rfl (by kernel_rfl) rfl rfl ?_
 refine any_pure (i := 5) (listed' := [tt,tt,ff,ff,tt,tt,ff,ff,ff]) rfl npI (pure_move rfl) rfl (by kernel_rfl) rfl rfl ?_
 refine any_one (j := 2) (by kernel_rfl) ?_
 (refine one_imm (listed' := [tt,tt,tt,ff,tt,tt,ff,ff,ff]) rfl rfl (both_fn _ ma mb _ _ _ ⟨by omega, by omega⟩ hma hmb) rfl rfl rfl (fun v GB hleB hh => ?_); obtain ⟨cB, rfl, hrB⟩ := hh; obtain ⟨p7, c7, e7, rfl, _⟩ := hrB.open; have hma' := hma.mono hleB; have hmb' := hmb.mono hleB)
 refine any_one (j := 3) (by kernel_rfl) ?_
 (refine one_step0 (listed' := [tt,tt,tt,tt,tt,tt,ff,ff,ff]) rfl (step_buildSlice rfl rfl rfl (by omega) (by unfold maxLen; omega) rfl) rfl rfl ?_; rintro _ ⟨b1046, rfl⟩)
 refine any_pure (i := 6) (listed' := [tt,tt,tt,tt,tt,tt,tt,ff,ff]) rfl npI (pure_assign rfl) rfl (by kernel_rfl) rfl rfl ?_
 refine any_one (j := 7) (by kernel_rfl) ?_
 refine one_storeM (listed' := [tt,tt,tt,tt,tt,tt,tt,tt,ff]) rfl rfl rfl rfl rfl rfl rfl rfl (by repeat first | exact Sw.here | apply Sw.there) (by rfl) (by repeat (first | exact HmOk.nil | apply HmOk.dep (by decide +kernel) | apply HmOk.im (by decide +kernel) (by assumption) (by repeat first | exact mH | apply mT) | apply HmOk.blk (by decide +kernel) (by repeat (first | exact Pk.here | apply Pk.there)) (by repeat first | exact mH | apply mT))) ?_
 refine any_pure (i := 8) (listed' := [tt,tt,tt,tt,tt,tt,tt,tt,tt]) rfl npI (pure_assign rfl) rfl (by kernel_rfl) rfl rfl ?_
 refine any_done (by kernel_rfl) ?_
 refine nrm_seq ?_
 (refine ret_freeze Pk.here (fun G5 hle5 hsl5 hno5 => ?_))
 refine tri_ret (ret_fin3 (res_tmp rfl) (res_cell rfl (load_ba rfl rfl (by repeat first | exact mH | apply mT) (by rfl))) (res_tmp rfl) ?_)
 (refine WtP.one hsl5 (hrB.mono hle5) (hmb'.mono hle5) ?_; rw [mW11 (by omega)]; cases hq : mMatch 5 (h.getD 0 ty0) with | none => rfl | some q => (have hq2 := hmm q hq; subst hq2; dsimp only; rw [if_pos (by omega)]; rfl))
 refine seq_done (nrm_seq (tri_cond_f rfl ?_))
 refine tri_skip (nrm_seq (tri_seq ?_))
 (have hl1 : n = 1 := hop.2.2 (by omega); obtain ⟨b0, o0, q0, d0, hp0, hat0, hre0, hg0⟩ := hsl.kidD hkl (i := 0) (by omega) (by omega); cases hp0; refine tri_draw mixed rfl ?_)
 refine any_load (i := 0) (listed' := [tt,ff,ff,ff,ff,ff,ff,ff,ff]) rfl npI (load_ba rfl rfl (by repeat first | exact mH | apply mT) (by rfl)) rfl (by kernel_rfl) rfl rfl ?_
 refine any_load (i := 1) (listed' := [tt,tt,ff,ff,ff,ff,ff,ff,ff]) rfl npI (load_ba rfl rfl (by repeat first | exact mH | apply mT) (by rfl)) rfl (by kernel_rfl) rfl rfl ?_
 refine any_load (i := 4) (listed' := [tt,tt,ff,ff,tt,ff,ff,ff,ff]) rfl npI (load_ba rfl rfl (by repeat first | exact mH | apply mT) (by rfl)) rfl (by kernel_rfl) rfl rfl ?_
 refine any_pure (i := 5) (listed' := [tt,tt,ff,ff,tt,tt,ff,ff,ff]) rfl npI (pure_move rfl) rfl (by kernel_rfl) rfl rfl ?_
 refine any_one (j := 2) (by kernel_rfl) ?_
 (refine one_imm (listed' := [tt,tt,tt,ff,tt,tt,ff,ff,ff]) rfl rfl (both_fn _ ma mb _ _ _ ⟨by omega, by omega⟩ hma hmb) rfl rfl rfl (fun v GB hleB hh => ?_); obtain ⟨cB, rfl, hrB⟩ := hh; obtain ⟨p7, c7, e7, rfl, _⟩ := hrB.open; have hma' := hma.mono hleB; have hmb' := hmb.mono hleB)
 refine any_one (j := 3) (by kernel_rfl) ?_
 (refine one_step0 (listed' := [tt,tt,tt,tt,tt,tt,ff,ff,ff]) rfl (step_buildSlice rfl rfl rfl (by omega) (by unfold maxLen; omega) rfl) rfl rfl ?_; rintro _ ⟨b1071, rfl⟩)
 refine any_pure (i := 6) (listed' := [tt,tt,tt,tt,tt,tt,tt,ff,ff]) rfl npI (pure_assign rfl) rfl (by kernel_rfl) rfl rfl ?_
 refine any_one (j := 7) (by kernel_rfl) ?_
 refine one_storeM (listed' := [tt,tt,tt,tt,tt,tt,tt,tt,ff]) rfl rfl rfl rfl rfl rfl rfl rfl (by repeat first | exact Sw.here | apply Sw.there) (by rfl) (by repeat (first | exact HmOk.nil | apply HmOk.dep (by decide +kernel) | apply HmOk.im (by decide +kernel) (by assumption) (by repeat first | exact mH | apply mT) | apply HmOk.blk (by decide +kernel) (by repeat (first | exact Pk.here | apply Pk.there)) (by repeat first | exact mH | apply mT))) ?_
 refine any_pure (i := 8) (listed' := [tt,tt,tt,tt,tt,tt,tt,tt,tt]) rfl npI (pure_assign rfl) rfl (by kernel_rfl) rfl rfl ?_
 refine any_done (by kernel_rfl) ?_
 refine nrm_seq ?_
 (refine ret_freeze Pk.here (fun G5 hle5 hsl5 hno5 => ?_))
 refine tri_ret (ret_fin3 (res_tmp rfl) (res_cell rfl (load_ba rfl rfl (by repeat first | exact mH | apply mT) (by rfl))) (res_tmp rfl) ?_)
 (refine WtP.one hsl5 (hrB.mono hle5) (hma'.mono hle5) ?_; rw [mW11 (by omega)]; cases hq : mMatch 5 (h.getD 0 ty0) with | none => rfl | some q => (have hq2 := hmm q hq; subst hq2; dsimp only; rw [if_neg (by omega)]; rfl))
end Gw
end Go.Proofs.YtgclbnfdlddpnaaGreat
namespace Go.Proofs.YtgclbnfdlddpnaaGreat
open Go Go.RowKit
namespace Gw
theorem castTyL_succ {cx : Cx} : ∀ {ks : List Tm} {i : Nat} {us : List Ty} {u : Ty} (hi : i < ks.length), castTyL cx (ks.take i) = some us → castTy cx ks[i] = some u → castTyL cx (ks.take (i + 1)) = some (us ++ [u])
 | [], i, us, u, hi, _, _ => by simp at hi
 | t :: ts, 0, us, u, hi, h, h2 => by
  simp only [List.take_zero, castTyL] at h
  cases h
  simp only [List.getElem_cons_zero] at h2
  simp [castTyL, h2]
 | t :: ts, i + 1, us, u, hi, h, h2 => by
  simp only [List.take_succ_cons, castTyL] at h ⊢
  simp only [List.getElem_cons_succ] at h2
  split at h
  ·cases h
  ·rename_i v hv
   split at h
   ·cases h
   ·rename_i vs hvs
    cases h
    rw [castTyL_succ (by simpa using hi) hvs h2]
    rfl
theorem castTyL_none {cx : Cx} : ∀ {ks : List Tm} {i : Nat} (hi : i < ks.length), castTy cx ks[i] = none → castTyL cx ks = none
 | [], i, hi, _ => by simp at hi
 | t :: ts, 0, hi, h2 => by
  simp only [List.getElem_cons_zero] at h2
  simp [castTyL, h2]
 | t :: ts, i + 1, hi, h2 => by
  simp only [List.getElem_cons_succ] at h2
  have := castTyL_none (ks := ts) (i := i) (by simpa using hi) h2
  rw [castTyL, this]
  split <;> rfl
theorem mNodeT_valid {cx : Cx} {k : Int} {nm : ByteArray} {ty : Ty} {h w : List Ty} {t : Ty} (he : mNodeT cx k nm ty h = some (w, t)) : tValid t = true ∧ mWanted cx k nm ty h = some (w, t) := by
 unfold mNodeT at he
 split at he
 ·rename_i w' t' hw
  split at he
  ·cases he; exact ⟨by assumption, hw⟩
  ·cases he
 ·cases he
theorem castTy_valid {cx : Cx} {k : Int} {nm : ByteArray} {num : Int} {ty fr : Ty} {lb : Int} {ks : List Tm} {t : Ty} (h14 : k = 14 → tValid ty = true) (h : castTy cx (.mk k nm num ty fr lb ks) = some t) : tValid t = true := by
 rw [castTy] at h
 split at h
 ·cases h
 ·split at h
  ·rename_i hk
   split at h
   ·cases h; exact h14 hk
   ·cases h
  ·split at h
   ·cases h
   ·rename_i w u hw
    split at h
    ·cases h; exact (mNodeT_valid hw).1
    ·cases h
theorem castTy_ar {cx : Cx} {e : Tm} {D N d : Int} {t : Ty} (hv : sShape D N e d = true) (h : castTy cx e = some t) : tAr t := by
 obtain ⟨k, nm, num, ty, fr, lb, ks⟩ := e
 have hn := tmNode_iff.1 (sShape_go2 hv).2.2.1
 exact (tValid_ann (castTy_valid (fun hk => hn.2.2.2.2.2.1 (by omega)) h)).1
theorem mWanted_len {cx : Cx} {k : Int} {nm : ByteArray} {ty : Ty} {h w : List Ty} {t : Ty} (hop : (k = 6 ∨ k = 7 ∨ k = 8 ∨ k = 10 → h.length = 2) ∧ (k = 9 → h.length = 3) ∧ (k = 5 ∨ k = 11 ∨ k = 12 ∨ k = 13 → h.length = 1)) (hk : 1 ≤ k ∧ k ≤ 14) (h14 : k ≠ 14) (he : mWanted cx k nm ty h = some (w, t)) : w.length ≤ h.length := by
 have hkk : k = 1 ∨ k = 2 ∨ (k = 3 ∨ k = 4) ∨ k = 5 ∨ k = 6 ∨ (k = 7 ∨ k = 8) ∨ k = 9 ∨ k = 10 ∨ (k = 11 ∨ k = 12) ∨ k = 13 := by omega
 rcases hkk with rfl | rfl | hk | rfl | rfl | hk | rfl | rfl | hk | rfl
 ·rw [mW1] at he; split at he <;> cases he; simp
 ·rw [mW2] at he; cases he; simp
 ·rw [mW34 hk] at he; cases he; simp
 ·rw [mW5] at he; cases he; simp
 ·rw [mW6] at he
  split at he
  ·split at he <;> cases he
   have := hop.1 (by omega); simp [this]
  ·cases he
 ·rw [mW78 hk] at he
  split at he <;> cases he
  have := hop.1 (by omega); simp [this]
 ·rw [mW9] at he
  split at he <;> cases he
  have := hop.2.1 (by omega); simp [this]
 ·rw [mW10] at he; cases he; simp
 ·rw [mW11 hk] at he
  split at he
  ·cases he; have := hop.2.2 (by omega); simp [this]
  ·cases he
 ·rw [mW13] at he
  split at he <;> cases he
  have := hop.2.2 (by omega); simp [this]
theorem sameTo_t {w h : List Ty} {i : Nat} (hw : i < w.length) (hh : i < h.length) (hs : tSame w[i] h[i] = true) : sameTo (w.drop i) (h.drop i) = sameTo (w.drop (i + 1)) (h.drop (i + 1)) := by
 rw [List.drop_eq_getElem_cons hw, List.drop_eq_getElem_cons hh, sameTo, hs, Bool.true_and]
theorem sameTo_f {w h : List Ty} {i : Nat} (hw : i < w.length) (hh : i < h.length) (hs : tSame w[i] h[i] = false) : sameTo (w.drop i) (h.drop i) = false := by
 rw [List.drop_eq_getElem_cons hw, List.drop_eq_getElem_cons hh, sameTo, hs, Bool.false_and]
theorem sameTo_end {w h : List Ty} {i : Nat} (hw : i = w.length) : sameTo (w.drop i) (h.drop i) = true := by
 subst hw; rw [List.drop_length, sameTo]
theorem RCx.snoc {G G' : IM} {cx : Cx} {n : Nat} {p' : Option Addr} {c' : Nat} {es : List (List Value)} {e : List Value} {nm : ByteArray} {t : Ty} (h1 : n = cx.length) (hl : es.length = n) (h2 : ∀ x ∈ es, x.length = 3) (h3 : ∀ x ∈ es, x.all (·.oneCell') = true)
  (h4 : ∀ (i : Nat) (b : ByteArray × Ty), cx[i]? = some b → ∃ e, es[i]? = some e ∧ RBd2 G b e) (hg : IMle G G') (he : RBd2 G' (nm, t) e) (hs : Sl G' p' (n + 1) c' 3 (es.flatten ++ e)) : RCx G' (cx ++ [(nm, t)]) p' (n + 1) c' := by
 have hel : e.length = 3 ∧ e.all (·.oneCell') = true := by obtain ⟨q, d, rfl, _⟩ := he; exact ⟨rfl, rfl⟩
 refine ⟨by simp [h1], es ++ [e], SlE.of (by simpa using hs) (by simp [hl]) ?_ ?_, ?_⟩
 ·simp only [List.forall_mem_append, List.forall_mem_singleton]; exact ⟨h2, hel.1⟩
 ·simp only [List.forall_mem_append, List.forall_mem_singleton]; exact ⟨h3, hel.2⟩
 ·intro i b hb
  rw [List.getElem?_append] at hb ⊢
  split at hb
  ·rename_i hi
   obtain ⟨e', he', hr⟩ := h4 i b hb
   rw [if_pos (by omega)]
   exact ⟨e', he', hr.mono hg⟩
  ·rename_i hi
   have : i - cx.length = 0 := by
    apply Classical.byContradiction; intro hc
    rw [List.getElem?_eq_none (by simp; omega)] at hb; cases hb
   rw [this] at hb
   simp only [List.getElem?_cons_zero, Option.some.injEq] at hb
   subst hb
   rw [if_neg (by omega)]
   exact ⟨e, by rw [show i - es.length = 0 by omega]; rfl, he⟩
set_option maxRecDepth 100000 in
theorem clone_bd (G : IM) (p : Option Addr) (n c : Nat) (es : List (List Value)) (h : SlE G p n c 3 es) (hn : n ≤ 4294967296) :
  Fn Tryz.prog 68 [.slice p n c] [] G (fun G' v outs => G' = G ∧ ∃ p' c', v = .slice p' n c' ∧ outs = [.slc p' c' 89 3 n es.flatten]) := by
 have hp := h.sl.nn
 have hS := h.sl
 have hone : ∀ u ∈ es.flatten, u.oneCell' = true := by
  intro u hu
  obtain ⟨e, he, hue⟩ := List.mem_flatten.1 hu
  exact List.all_eq_true.1 (h.one e he) u hue
 refine fn_enter Tryz.func68 rfl Tryz.ntmps68 Tryz.results68 rfl ?_
 intro w0
 cases p with
 | none =>
  obtain rfl := hp rfl
  obtain rfl : es = [] := List.length_eq_zero_iff.1 h.len
  refine tri_nil 89 3 ?_
  refine tri_seq ?_
  refine tri_region ?_
  refine seq_pure (pure_assign rfl) rfl rfl ?_
  refine seq_done ?_
  refine nrm_seq ?_
  refine tri_seq ?_
  refine tri_seq ?_
  refine tri_region ?_
  refine seq_pure (pure_move rfl) rfl rfl ?_
  refine seq_pure (pure_slnil_t rfl rfl rfl) rfl rfl ?_
  refine seq_done ?_
  refine nrm_seq ?_
  refine tri_cond_t rfl ?_
  refine tri_seq ?_
  refine tri_region ?_
  refine seq_pure (pure_assign rfl) rfl rfl ?_
  refine seq_done ?_
  refine nrm_seq ?_
  refine tri_ret ?_
  refine ret_seq ?_
  refine ret_own1 (res_tmp rfl) SubH.refl ?_
  exact ⟨rfl, _, _, rfl, rfl⟩
 | some a =>
  refine tri_seq ?_
  refine tri_region ?_
  refine seq_pure (pure_assign rfl) rfl rfl ?_
  refine seq_done ?_
  refine nrm_seq ?_
  refine tri_seq ?_
  refine tri_seq ?_
  refine tri_region ?_
  refine seq_pure (pure_move rfl) rfl rfl ?_
  refine seq_pure (pure_slnil_f rfl rfl rfl) rfl rfl ?_
  refine seq_done ?_
  refine nrm_seq ?_
  refine tri_cond_f rfl ?_
  refine tri_skip ?_
  refine nrm_seq ?_
  refine tri_seq ?_
  refine tri_region ?_
  (refine seq_step (step_buildSlice rfl rfl rfl (by omega) (by unfold maxLen; omega) rfl) rfl ?_; rintro _ ⟨b18, rfl⟩)
  refine seq_pure (pure_move rfl) rfl rfl ?_
  refine seq_appendSl rfl rfl rfl rfl rfl (fun _ _ => by repeat (first | exact Sw.here | apply Sw.there)) hS hone (Nat.zero_le _) (by unfold maxLen; omega) (by omega) rfl (fun pn cn => ?_)
  refine seq_pure (pure_assign rfl) rfl rfl ?_
  refine seq_done ?_
  refine nrm_seq ?_
  refine tri_ret ?_
  refine ret_own1 (res_tmp rfl) SubH.refl ?_
  exact ⟨rfl, _, _, by rw [Nat.zero_add], by rw [Nat.zero_add]; rfl⟩
end Gw
end Go.Proofs.YtgclbnfdlddpnaaGreat
