/-
  The reference's insertion of casts, exactly. Values of the stack machine: as trees, and as they lie in memory; what an instruction does, in plain words. The reference's decimal digits of a number. The program's RunTerm: texts of values. The program's RunTerm. The reference's evaluator: a step, runs of steps, RunTerm. The reference's StepCast, EvalCast, RunTerm. The cast that is blamed, on both sides. The law FnExactBlamedCast: its walk.
-/
import Derived.Test.YtmnfamimopcldaaGreatDoorKb6
import Derived.Test.YtmnfamimopcldaaGreatDoorKb3
import Derived.Test.YtmnfamimopcldaaGreatDoorKb1
import Derived.Lib.ItoaNum
import Derived.Test.YtmnfamimopcldaaGreatDoorKb5
set_option linter.unusedVariables false
set_option linter.unusedSimpArgs false
set_option maxHeartbeats 0
set_option maxRecDepth 100000
set_option synthInstance.maxSize 4000
set_option synthInstance.maxHeartbeats 0
namespace Go.Proofs.YtmnfamimopcldaaGreatDoor
open Go Go.RowKit
namespace Gw
theorem typeOf_tyS {e : Tm} (h : termValid e = true) : mTypeOf e = mTyS [] e := by
 have hs := ((termValid_iff e).1 h).1
 obtain ⟨h1, h2⟩ := el_tyS e 1 [] 0 hs cxV_nil
 unfold mTypeOf
 cases hE : mEl [] e 0 with
 | none => rw [insert_none h hE, h2 hE]
 | some r =>
  obtain ⟨u, a, l⟩ := r
  rw [insert_some h hE, (h1 u a l hE).1]
theorem insert_inv {e u : Tm} {t : Ty} (h : mInsert e = some (u, t)) : termValid e = true ∧ ∃ l, mEl [] e 0 = some (u, t, l) := by
 unfold mInsert at h
 split at h
 ·rename_i hv
  refine ⟨hv, ?_⟩
  split at h
  ·rename_i u' t' l' he; cases h; exact ⟨l', he⟩
  ·cases h
 ·cases h
/-- A type where there is one, the zero value elsewhere. -/
def SureX (t : Ty) (x : Bool) (G : IM) : IM → Value → List Ent → Prop := Imm fun G' v => ∃ cells, v = .tuple ⟨[.agg ⟨cells⟩, .bool x]⟩ ∧ RTy G' (if x = true then t else ty0) cells
theorem l3SureXT_fn (t : Ty) (G : IM) (cells : List Value) (hr : RTy G t cells) : Fn Tryz.prog 62 [.agg ⟨cells⟩, .bool true] [] G (SureX t true G) := by
 obtain ⟨p, c, e, rfl, _⟩ := hr.open
 refine fn_enter Tryz.func62 rfl Tryz.ntmps62 Tryz.results62 rfl ?_
 intro w0
 refine tS (tR ?_)
 refine sE (step_box_a rfl rfl) rfl (fun b3 => ?_)
 refine sE (step_alloc rfl) rfl (fun b4 => ?_)
 refine sQ (pA rfl) rfl (sD (nS (tS (tS (tR (sQ (pM rfl) rfl ?_))))))
 refine sQ (pNt rfl) rfl (sD (nS (cF rfl ?_)))
 refine tK (nS (tS (tR (sL (lBa rfl rfl) rfl rfl ?_))))
 refine sS' ?_
 refine sQ (pA rfl) rfl (sD (nS (tT (rF2 (rC rfl (lBa rfl rfl)) (rT rfl) ?_))))
 (exact ⟨rfl, _, rfl, hr⟩)
theorem l3SureXF_fn (t : Ty) (G : IM) (cells : List Value) (hr : RTy G t cells) : Fn Tryz.prog 62 [.agg ⟨cells⟩, .bool false] [] G (SureX t false G) := by
 obtain ⟨p, c, e, rfl, _⟩ := hr.open
 refine fn_enter Tryz.func62 rfl Tryz.ntmps62 Tryz.results62 rfl ?_
 intro w0
 refine tS (tR ?_)
 refine sE (step_box_a rfl rfl) rfl (fun b3 => ?_)
 refine sE (step_alloc rfl) rfl (fun b4 => ?_)
 refine sQ (pA rfl) rfl (sD (nS (tS (tS (tR (sQ (pM rfl) rfl ?_))))))
 refine sQ (pNf rfl) rfl (sD (nS (cT rfl ?_)))
 refine tS (tR (sQ (pBd rfl rfl) rfl (sS' ?_)))
 refine sQ (pA rfl) rfl (sD (nS (tT (rS (rF2 (rC rfl (lBa rfl rfl)) (rT rfl) ?_)))))
 (exact ⟨rfl, _, rfl, tyLeaf_r _ ⟨by omega, by omega⟩⟩)
theorem l3SureX_fn (t : Ty) (x : Bool) (G : IM) (cells : List Value) (hr : RTy G t cells) : Fn Tryz.prog 62 [.agg ⟨cells⟩, .bool x] [] G (SureX t x G) := by
 cases x
 ·exact l3SureXF_fn t G cells hr
 ·exact l3SureXT_fn t G cells hr
theorem TyOk.sure {o : Option Ty} {t : Ty} {G G' : IM} {cells : List Value} (h : ∀ u, o = some u → u = t) (hr : RTy G' (if o.isSome = true then t else ty0) cells) : TyOk o G G' (.tuple ⟨[.agg ⟨cells⟩, .bool o.isSome]⟩) [] := by
 cases o with
 | none => exact ⟨rfl, cells, ty0, rfl, hr, by simp⟩
 | some u => exact ⟨rfl, cells, t, rfl, hr, fun x hx => by cases hx; exact (h _ rfl).symm⟩
theorem typeInX_fn (e : Tm) (G : IM) (cells : List Value) (hcnt : tmCount e ≤ 4294967296) (hr : RTm G e cells) :
  Fn Tryz.prog 37 [.slice none 0 0, .agg ⟨cells⟩] [] G (TyOk (mTypeOf e) G) := by
 have hl := hr.len
 have hone := hr.one
 have hw := sTermValid_fn e G cells hcnt hr
 have hT := fun h : termValid e = true => l3TypeX_fn e 1 [] G none 0 0 cells ((termValid_iff e).1 h).1 (by omega) cxV_nil (RCx.nil G) hr
 have hts := fun h => @typeOf_tyS e h
 have hno := @typeOf_no e
 refine fn_enter Tryz.func37 rfl Tryz.ntmps37 Tryz.results37 rfl ?_
 intro w0
 refine tS (tR ?_)
 refine sE (step_box_a rfl rfl) rfl (fun b3 => ?_)
 refine sE (step_alloc rfl) rfl (fun b4 => ?_)
 refine sQ (pA rfl) rfl (sD (nS (tS (tS (tR (sQ (pM rfl) rfl ?_))))))
 refine seq_val rfl ((ctxValid_fn _)) rfl rfl ?_
 refine sQ (pNt rfl) rfl (sQ (pM rfl) rfl (sL (load_a rfl rfl (at_blk_all (by repeat first | exact mH | apply mT)) (by assumption)) rfl rfl ?_))
 refine seq_valb rfl (hw) rfl rfl (fun h16 => ?_) (fun h16 => ?_)
 refine sQ (pNt rfl) rfl (sQ (pPf rfl rfl) rfl (sD (nS (cF rfl ?_))))
 refine tK (nS (tS (tR (sQ (pM rfl) rfl (sL (load_a rfl rfl (at_blk_all (by repeat first | exact mH | apply mT)) (by assumption)) rfl rfl ?_)))))
 (refine seq_imm rfl (hT (by assumption)) rfl rfl (fun v G1 hle1 hh => ?_); obtain ⟨mt, mc, rfl, hmr, hma, hmu⟩ := hh; obtain ⟨p1, c1, e1, rfl, _⟩ := hmr.open; have hmo := hts (by assumption))
 refine sQ (pX rfl rfl) rfl (sQ (pX rfl rfl) rfl ?_)
 (refine seq_imm rfl (l3SureX_fn mt _ _ _ hmr) rfl rfl (fun v G2 hle2 hh => ?_); obtain ⟨mc2, rfl, hmr2⟩ := hh; obtain ⟨p2, c2, e2, rfl, _⟩ := hmr2.open)
 refine sQ (pX rfl rfl) rfl (sQ (pX rfl rfl) rfl (sS' ?_))
 refine sQ (pA rfl) rfl (sD (nS (tT (rF2 (rC rfl (lBa rfl rfl)) (rT rfl) ?_))))
 (rw [hmo]; exact TyOk.sure hmu hmr2)
 refine sQ (pNf rfl) rfl (sQ (pPf rfl rfl) rfl (sD (nS (cT rfl ?_))))
 refine tS (tR (sQ (pBd rfl rfl) rfl (sS' ?_)))
 refine sQ (pA rfl) rfl (sD (nS (tT (rS (rF2 (rC rfl (lBa rfl rfl)) (rT rfl) ?_)))))
 (exact TyOk.no (u := ty0) (tyLeaf_r _ ⟨by omega, by omega⟩) rfl (hno (by assumption)))
theorem typeOfX_fn (e : Tm) (G : IM) (cells : List Value) (hcnt : tmCount e ≤ 4294967296) (hr : RTm G e cells) :
  Fn Tryz.prog 18 [.agg ⟨cells⟩] [] G (TyOk (mTypeOf e) G) := by
 have hl := hr.len
 have hone := hr.one
 refine fn_enter Tryz.func18 rfl Tryz.ntmps18 Tryz.results18 rfl ?_
 intro w0
 refine tS (tR ?_)
 refine sE (step_box_a rfl rfl) rfl (fun b3 => ?_)
 refine sE (step_alloc rfl) rfl (fun b4 => ?_)
 refine sQ (pA rfl) rfl (sD (nS (tS (tR (sL (load_a rfl rfl (at_blk_all (by repeat first | exact mH | apply mT)) (by assumption)) rfl rfl ?_)))))
 (refine seq_imm rfl (typeInX_fn e G cells hcnt hr) rfl rfl (fun v G1 hle1 hh => ?_); obtain ⟨cu, u, rfl, hru, hu⟩ := hh; obtain ⟨p1, c1, e1, rfl, _⟩ := hru.open)
 refine sQ (pX rfl rfl) rfl (sQ (pX rfl rfl) rfl (sS' ?_))
 refine sQ (pA rfl) rfl (sD (nS (tT (rF2 (rC rfl (lBa rfl rfl)) (rT rfl) ?_))))
 (exact ⟨rfl, _, u, rfl, hru, hu⟩)
/-- A term, perhaps cast, and the next label. -/
def CastX (e : Tm) (a b : Ty) (l : Int) : IM → Value → List Ent → Prop := Imm fun G' v => ∃ cells, v = .tuple ⟨[.agg ⟨cells⟩, .int .i64 (if tSame a b = true then l else l + 1)]⟩ ∧ RTm G' (if tSame a b = true then e else mCst e a b l) cells
theorem CastX.yes {G : IM} {e : Tm} {a b : Ty} {l : Int} {cells : List Value} (h : tSame a b = true) (hr : RTm G e cells) : CastX e a b l G (.tuple ⟨[.agg ⟨cells⟩, .int .i64 l]⟩) [] := ⟨rfl, cells, by rw [if_pos h], by rw [if_pos h]; exact hr⟩
theorem CastX.no {G : IM} {e : Tm} {a b : Ty} {l : Int} {cells : List Value} (h : tSame a b = false) (hr : RTm G (mCst e a b l) cells) : CastX e a b l G (.tuple ⟨[.agg ⟨cells⟩, .int .i64 (l + 1)]⟩) [] := ⟨rfl, cells, by rw [if_neg (by rw [h]; decide)], by rw [if_neg (by rw [h]; decide)]; exact hr⟩
theorem l4CastX_fn (e : Tm) (a b : Ty) (label : Int) (G : IM) (ce ca cb : List Value) (hlab : -1099511627776 ≤ label ∧ label ≤ 1099511627776) (hr : RTm G e ce) (hra : RTy G a ca) (hrb : RTy G b cb) (hsa : a.small) (hsb : b.small) :
  Fn Tryz.prog 85 [.agg ⟨ce⟩, .agg ⟨ca⟩, .agg ⟨cb⟩, .int .i64 label] [] G (CastX e a b label) := by
 have hl := hr.len
 have hone := hr.one
 obtain ⟨hlab1, hlab2⟩ := hlab
 have hSame := sTypeSameX_fn a b G ca cb hra hrb
 obtain ⟨ak, aks⟩ := a
 obtain ⟨bk, bks⟩ := b
 obtain ⟨pa, cca, ea, rfl, _⟩ := hra.open
 obtain ⟨pb, ccb, eb, rfl, _⟩ := hrb.open
 simp only [Ty.k, Ty.ks] at hra hrb hSame ⊢
 obtain ⟨v1, v2, v3, v4, v5, v6, v7, v8, v9, rfl⟩ := nine hl
 refine fn_enter Tryz.func85 rfl Tryz.ntmps85 Tryz.results85 rfl ?_
 intro w0
 refine tS (tR ?_)
 refine sE (step_box_a rfl rfl) rfl (fun b3 => ?_)
 refine sE (step_box_a rfl rfl) rfl (fun b4 => ?_)
 refine sE (step_box_a rfl rfl) rfl (fun b5 => ?_)
 refine sE (step_alloc rfl) rfl (fun b6 => ?_)
 refine sQ (pA rfl) rfl (sD (nS (tS (tS (tR (sL (lBa rfl rfl) rfl rfl ?_))))))
 refine sL (lBa rfl rfl) rfl rfl ?_
 refine seq_valb rfl (hSame) rfl rfl (fun h15 => ?_) (fun h15 => ?_)
 refine sD (nS (cT rfl ?_))
 refine tS (tR (sL (load_a rfl rfl (at_blk_all (by repeat first | exact mH | apply mT)) hl) rfl rfl ?_))
 refine sQ (pM rfl) rfl (sS rfl rfl rfl hl hone rfl ?_ (hu := by exact upd_all hl.symm))
 refine sQ (pA rfl) rfl (sD (nS (tT (rS (rF2 (rC rfl (load_a rfl rfl (at_blk_all (by repeat first | exact mH | apply mT)) hl)) (rT rfl) ?_)))))
 (exact CastX.yes (by assumption) hr)
 refine sD (nS (cF rfl ?_))
 refine tK (nS (tS (tri_draw mixed rfl ?_)))
 refine any_load (i := 5) (l' := [ff,ff,ff,ff,ff,tt,ff,ff,ff,ff,ff,ff]) rfl npI (load_a rfl rfl (at_blk_all (by repeat first | exact mH | apply mT)) hl) rfl (by kernel_rfl) rfl rfl ?_
 refine aL 0 rfl (lBa rfl rfl) rfl ?_
 refine aL 2 rfl (lBa rfl rfl) rfl ?_
 refine aP 4 rfl (pM rfl) rfl ?_
 refine aP 8 rfl (pM rfl) rfl ?_
 refine aP 9 rfl (pure_add rfl rfl (by omega) (by omega)) rfl ?_
 refine any_two (j := 1) (j' := 6) (by kernel_rfl) ?_ ?_
 (refine one_imm rfl rfl (l1Copy_fn _ _ _ hsa hra) rfl rfl rfl (fun v G1 hle1 hh => ?_); obtain ⟨cs1, F1, rfl, hs1, hn1⟩ := hh; obtain ⟨p1, c1, rfl, _⟩ := hs1.open; have hC2 := l1Copy_fn _ G1 _ hsb (hrb.mono hle1))
 refine any_two (j := 3) (j' := 6) (by kernel_rfl) ?_ ?_
 (refine one_imm rfl rfl hC2 rfl rfl rfl (fun v G2 hle2 hh => ?_); obtain ⟨cs2, F2, rfl, hs2, hn2⟩ := hh; obtain ⟨p2, c2, rfl, _⟩ := hs2.open; have hr1 := hs1.R.mono ((Dif.le G1 _).trans hle2); have hr2 := hs2.R.mono (Dif.le G2 G1); have hre := hr.mono (hle1.trans hle2))
 refine aO' 6 ?_
 (refine one_step0 rfl (step_buildSlice rfl rfl rfl (by omega) (by unfold maxLen; omega) rfl) rfl rfl ?_; rintro _ ⟨b49, rfl⟩)
 refine aP 7 rfl (pBd rfl rfl) rfl ?_
 refine aO' 10 ?_
 refine oT' rfl ?_
 refine aP 11 rfl (pA rfl) rfl ?_
 refine aD' ?_
 refine nS ?_
 (refine ret_freeze (cs := [v1, v2, v3, v4, v5, v6, v7, v8, v9]) (by repeat (first | exact Pk.here | apply Pk.there)) (fun G5 hle5 hsl5 hno5 => ?_); obtain ⟨hone1, hone2⟩ := tm_one (hre.mono hle5) hsl5)
 refine tT (rF2 (rC rfl (lBa rfl rfl)) (rT rfl) ?_)
 (exact CastX.no (by assumption) (RTm.of9 (ks := [e]) ⟨by omega, by omega⟩ ⟨by omega, by omega⟩ ⟨by omega, by omega⟩ (hr2.mono hle5) (hr1.mono hle5) hone1 hone2))
 (refine one_step0 rfl (step_buildSlice rfl rfl rfl (by omega) (by unfold maxLen; omega) rfl) rfl rfl ?_; rintro _ ⟨b60, rfl⟩)
 refine aO' 3 ?_
 (refine one_imm rfl rfl hC2 rfl rfl rfl (fun v G2 hle2 hh => ?_); obtain ⟨cs2, F2, rfl, hs2, hn2⟩ := hh; obtain ⟨p2, c2, rfl, _⟩ := hs2.open; have hr1 := hs1.R.mono ((Dif.le G1 _).trans hle2); have hr2 := hs2.R.mono (Dif.le G2 G1); have hre := hr.mono (hle1.trans hle2))
 refine aP 7 rfl (pBd rfl rfl) rfl ?_
 refine aO' 10 ?_
 refine oT' rfl ?_
 refine aP 11 rfl (pA rfl) rfl ?_
 refine aD' ?_
 refine nS ?_
 (refine ret_freeze (cs := [v1, v2, v3, v4, v5, v6, v7, v8, v9]) (by repeat (first | exact Pk.here | apply Pk.there)) (fun G5 hle5 hsl5 hno5 => ?_); obtain ⟨hone1, hone2⟩ := tm_one (hre.mono hle5) hsl5)
 refine tT (rF2 (rC rfl (lBa rfl rfl)) (rT rfl) ?_)
 (exact CastX.no (by assumption) (RTm.of9 (ks := [e]) ⟨by omega, by omega⟩ ⟨by omega, by omega⟩ ⟨by omega, by omega⟩ (hr2.mono hle5) (hr1.mono hle5) hone1 hone2))
 (refine one_step0 rfl (step_buildSlice rfl rfl rfl (by omega) (by unfold maxLen; omega) rfl) rfl rfl ?_; rintro _ ⟨b73, rfl⟩)
 refine aO' 1 ?_
 (refine one_imm rfl rfl (l1Copy_fn _ _ _ hsa hra) rfl rfl rfl (fun v G1 hle1 hh => ?_); obtain ⟨cs1, F1, rfl, hs1, hn1⟩ := hh; obtain ⟨p1, c1, rfl, _⟩ := hs1.open; have hC2 := l1Copy_fn _ G1 _ hsb (hrb.mono hle1))
 refine aO' 3 ?_
 (refine one_imm rfl rfl hC2 rfl rfl rfl (fun v G2 hle2 hh => ?_); obtain ⟨cs2, F2, rfl, hs2, hn2⟩ := hh; obtain ⟨p2, c2, rfl, _⟩ := hs2.open; have hr1 := hs1.R.mono ((Dif.le G1 _).trans hle2); have hr2 := hs2.R.mono (Dif.le G2 G1); have hre := hr.mono (hle1.trans hle2))
 refine aP 7 rfl (pBd rfl rfl) rfl ?_
 refine aO' 10 ?_
 refine oT' rfl ?_
 refine aP 11 rfl (pA rfl) rfl ?_
 refine aD' ?_
 refine nS ?_
 (refine ret_freeze (cs := [v1, v2, v3, v4, v5, v6, v7, v8, v9]) (by repeat (first | exact Pk.here | apply Pk.there)) (fun G5 hle5 hsl5 hno5 => ?_); obtain ⟨hone1, hone2⟩ := tm_one (hre.mono hle5) hsl5)
 refine tT (rF2 (rC rfl (lBa rfl rfl)) (rT rfl) ?_)
 (exact CastX.no (by assumption) (RTm.of9 (ks := [e]) ⟨by omega, by omega⟩ ⟨by omega, by omega⟩ ⟨by omega, by omega⟩ (hr2.mono hle5) (hr1.mono hle5) hone1 hone2))
/-- What the reference casts the operands to. -/
def wantOf (w ts : List Ty) : List Ty := if w = [] then ts else w
theorem wantOf_cons {a : Ty} {w ts : List Ty} : wantOf (a :: w) ts = a :: w := by unfold wantOf; rw [if_neg (by simp)]
def WantX (ws : List Ty) (n : Nat) (G : IM) : IM → Value → List Ent → Prop := Imm fun G' v => ∃ p c es, v = .slice p n c ∧ ws.length = n ∧ SlE G' p n c 2 es ∧ RTyL G' ws es
theorem WantX.mk {G G' : IM} {p : Option Addr} {n c : Nat} {ws ws' : List Ty} {es : List (List Value)} (he : ws = ws') (hl : ws'.length = n) (hs : Sl G' p n c 2 es.flatten) (hst : RTyL G' ws' es) : WantX ws n G G' (.slice p n c) [] := by
 subst he
 exact ⟨rfl, p, c, es, rfl, hl, SlE.of hs (by rw [hst.len, hl]) hst.all (fun e he => (hst.each e he).2), hst⟩
theorem WantX.mk1 {G G' : IM} {p : Option Addr} {n c : Nat} {ws : List Ty} {a : Ty} {ca : List Value} (he : ws = [a]) (hn : n = 1) (hs : Sl G' p 1 c 2 ca) (ha : RTy G' a ca) : WantX ws n G G' (.slice p 1 c) [] := by
 subst hn
 exact WantX.mk (ws' := [a]) (es := [ca]) he rfl (by simpa using hs) ⟨_, _, rfl, ha, rfl⟩
theorem WantX.mk2 {G G' : IM} {p : Option Addr} {n c : Nat} {ws : List Ty} {a b : Ty} {ca cb : List Value} (he : ws = [a, b]) (hn : n = 2) (hs : Sl G' p 2 c 2 (ca ++ cb)) (ha : RTy G' a ca) (hb : RTy G' b cb) : WantX ws n G G' (.slice p 2 c) [] := by
 subst hn
 exact WantX.mk (ws' := [a, b]) (es := [ca, cb]) he rfl (by simpa using hs) ⟨_, _, rfl, ha, _, _, rfl, hb, rfl⟩
theorem WantX.mk3 {G G' : IM} {p : Option Addr} {n c : Nat} {ws : List Ty} {a b d : Ty} {ca cb cd : List Value} (he : ws = [a, b, d]) (hn : n = 3) (hs : Sl G' p 3 c 2 (ca ++ (cb ++ cd))) (ha : RTy G' a ca) (hb : RTy G' b cb) (hd : RTy G' d cd) : WantX ws n G G' (.slice p 3 c) [] := by
 subst hn
 exact WantX.mk (ws' := [a, b, d]) (es := [ca, cb, cd]) he rfl (by simpa using hs) ⟨_, _, rfl, ha, _, _, rfl, hb, _, _, rfl, hd, rfl⟩
section
variable {cx : Cx} {k : Int} {nm : ByteArray} {ty : Ty} {ts w : List Ty} {t : Ty}
theorem wo6 (hk : k = 6) (h : mWanted cx k nm ty ts = some (w, t)) (hl : 0 < ts.length) : ∃ a b, mMatch 4 ts[0] = some (a, b) ∧ wantOf w ts = [.mk 4 [a, b], a] := by
 subst hk
 rw [mW6, gD hl] at h
 split at h
 ·rename_i a b hm
  split at h
  ·cases h; exact ⟨a, _, hm, wantOf_cons⟩
  ·cases h
 ·cases h
theorem wo78 (hk : k = 7 ∨ k = 8) (h : mWanted cx k nm ty ts = some (w, t)) : wantOf w ts = [tyInt, tyInt] := by
 rw [mW78 hk] at h
 split at h
 ·cases h; exact wantOf_cons
 ·cases h
theorem wo9 (hk : k = 9) (h : mWanted cx k nm ty ts = some (w, t)) : wantOf w ts = [tyBool, t, t] := by
 subst hk
 rw [mW9] at h
 split at h
 ·cases h; exact wantOf_cons
 ·cases h
theorem wo11 (hk : k = 11 ∨ k = 12) (h : mWanted cx k nm ty ts = some (w, t)) (hl : 0 < ts.length) : ∃ a b, mMatch 5 ts[0] = some (a, b) ∧ wantOf w ts = [.mk 5 [a, b]] := by
 rw [mW11 hk, gD hl] at h
 split at h
 ·rename_i a b hm; cases h; exact ⟨a, b, hm, wantOf_cons⟩
 ·cases h
theorem wo13 (hk : k = 13) (h : mWanted cx k nm ty ts = some (w, t)) : wantOf w ts = [t] := by
 subst hk
 rw [mW13] at h
 split at h
 ·cases h; exact wantOf_cons
 ·cases h
theorem wo0 (hk : 1 ≤ k ∧ k ≤ 5 ∨ k = 10) (h : mWanted cx k nm ty ts = some (w, t)) : wantOf w ts = ts := by
 have : w = [] := by
  have hk' : k = 1 ∨ k = 2 ∨ (k = 3 ∨ k = 4) ∨ k = 5 ∨ k = 10 := by omega
  rcases hk' with rfl | rfl | hk | rfl | rfl
  ·rw [mW1] at h; split at h <;> cases h; rfl
  ·rw [mW2] at h; cases h; rfl
  ·rw [mW34 hk] at h; cases h; rfl
  ·rw [mW5] at h; cases h; rfl
  ·rw [mW10] at h; cases h; rfl
 subst this; rfl
end
theorem l4WantX_fn (cx : Cx) (k : Int) (nm : ByteArray) (num : Int) (ty fr : Ty) (lb : Int) (ks : List Tm) (ts w : List Ty) (t : Ty) (G : IM) (cells tcells : List Value) (p : Option Addr) (c : Nat) (es : List (List Value))
  (hw : mWanted cx k nm ty ts = some (w, t)) (hk14 : k ≠ 14) (hops : tmOps k = ts.length) (hr : RTm G (.mk k nm num ty fr lb ks) cells) (hsl : SlE G p ts.length c 2 es) (hkl : RTyL G ts es) (har : ∀ t ∈ ts, tAr t) (hrt : RTy G t tcells) :
  Fn Tryz.prog 84 [.agg ⟨cells⟩, .slice p ts.length c, .agg ⟨tcells⟩] [] G (WantX (wantOf w ts) ts.length G) := by
 have hone := hr.one
 have hop := tm_ops hops
 have hkr : 1 ≤ k ∧ k ≤ 14 := tmOps_rng (by rw [hops]; omega)
 have ha0 := fun h : 0 < ts.length => har _ (List.getElem_mem h)
 obtain ⟨tyk, tyks⟩ := ty
 obtain ⟨fk, fks⟩ := fr
 obtain ⟨tk, tks⟩ := t
 obtain ⟨q9, d9, e9, rfl, _⟩ := hrt.open
 obtain ⟨pt, ct, pf, cf, pk, ck, ek, rfl, hk, hnum, hlb, hrty, hrfr, _, _⟩ := hr.open9
 have o6 := fun h hl => wo6 h hw hl
 have o78 := fun h => wo78 h hw
 have o9 := fun h => wo9 h hw
 have o11 := fun h hl => wo11 h hw hl
 have o13 := fun h => wo13 h hw
 have o0 := fun h => wo0 h hw
 refine fn_enter Tryz.func84 rfl Tryz.ntmps84 Tryz.results84 rfl ?_
 intro w0
 refine tS (tR ?_)
 refine sE (step_box_a rfl rfl) rfl (fun b3 => ?_)
 refine sE (step_box_a rfl rfl) rfl (fun b4 => ?_)
 refine sQ (pA rfl) rfl (sD (nS (tS (tS (tR (sQ (pF0 rfl) rfl ?_))))))
 refine sL (lBs rfl rfl) rfl rfl ?_
 refine sD (nS (tri_block (tS (tR (sB (pE rfl rfl) rfl rfl (fun h18 => ?_) (fun h18 => ?_))))))
 refine sQ (pA rfl) rfl (sD (nS (cT rfl ?_)))
 refine tS (tR (sQ (pM rfl) rfl ?_))
 (have hl2 : ts.length = 2 := hop.1 (by omega); obtain ⟨b0, o0', q0, d0, hp0, hat0, hre0, hg0⟩ := hsl.kidTy hkl (i := 0) (by omega) (by omega); cases hp0; refine sP (pIN (j := 0) rfl rfl rfl (by omega)) rfl rfl ?_)
 refine sL (load_a rfl rfl (hat0 _) rfl) rfl rfl ?_
 (obtain ⟨ma', mb', hm, hwo⟩ := o6 (by omega) (by omega); refine seq_imm rfl (l3MatchX_fn 4 ts[0] G _ (.inl rfl) (ha0 (by omega)) hre0) rfl rfl (fun v G1 hle1 hh => ?_); obtain ⟨ma, mca, mb, mcb, rfl, hma, hmb, hma2, hmb2, hpp⟩ := hh; have hpe := hpp _ hm; simp only [Prod.mk.injEq] at hpe; obtain ⟨rfl, rfl⟩ := hpe; obtain ⟨p1, c1, e1, rfl, _⟩ := hma.open; obtain ⟨p2, c2, e2, rfl, _⟩ := hmb.open; have hTwo := l3TwoX_fn 4 _ _ G1 _ _ (.inl rfl) hma2 hmb2 hma hmb)
 refine sQ (pM rfl) rfl (sQ (pX rfl rfl) rfl (sQ (pX rfl rfl) rfl (sQ (pX rfl rfl) rfl ?_)))
 refine sE (step_alloc rfl) rfl (fun b33 => ?_)
 refine sE (step_alloc rfl) rfl (fun b34 => ?_)
 refine sS' ?_
 refine sS' ?_
 refine sQ (pA rfl) rfl (sD (nS (tS (tR (sL (lBa rfl rfl) rfl rfl ?_)))))
 refine sL (lBa rfl rfl) rfl rfl ?_
 (refine seq_imm rfl hTwo rfl rfl (fun v G2 hle2 hh => ?_); obtain ⟨mc, rfl, hmr⟩ := hh; obtain ⟨p3, c3, e3, rfl, _⟩ := hmr.open; have hma4 := hma.mono hle2)
 refine sQ (pM rfl) rfl (sQ (pX rfl rfl) rfl (sQ (pX rfl rfl) rfl ?_))
 refine sE (step_alloc rfl) rfl (fun b48 => ?_)
 refine sS' ?_
 refine sQ (pA rfl) rfl (sD (nS (tS (tR (sL (lBa rfl rfl) rfl rfl ?_)))))
 refine sL (lBa rfl rfl) rfl rfl ?_
 (refine seq_step (step_buildSlice rfl rfl rfl (by omega) (by unfold maxLen; omega) rfl) rfl ?_; rintro _ ⟨b57, rfl⟩)
 refine sQ (pA rfl) rfl (sD (nS ?_))
 (refine ret_freeze (by repeat (first | exact Pk.here | apply Pk.there)) (fun G5 hle5 hsl5 hno5 => ?_))
 refine tT (rB (rS (rF1 (rT rfl) ?_)))
 (exact WantX.mk2 hwo (hop.1 (by omega)) hsl5 (hmr.mono hle5) (hma4.mono hle5))
 refine sQ (pA rfl) rfl (sD (nS (cF rfl ?_)))
 refine tS (tS (tR (sB (pE rfl rfl) rfl rfl (fun h74 => ?_) (fun h74 => ?_))))
 refine sQ (pA rfl) rfl (sD (nS (cT rfl ?_)))
 refine tK (nS (cT rfl ?_))
 refine tS (tR (seq_val rfl ((l3Int_fn _)) rfl rfl ?_))
 refine seq_val rfl ((l3Int_fn _)) rfl rfl ?_
 (refine seq_step (step_buildSlice rfl rfl rfl (by omega) (by unfold maxLen; omega) rfl) rfl ?_; rintro _ ⟨b86, rfl⟩)
 refine sQ (pA rfl) rfl (sD (nS ?_))
 (refine ret_freeze (by repeat (first | exact Pk.here | apply Pk.there)) (fun G5 hle5 hsl5 hno5 => ?_))
 refine tT (rB (rS (rF1 (rT rfl) ?_)))
 (exact WantX.mk2 (o78 (by omega)) (hop.1 (by omega)) hsl5 (tyInt_r _) (tyInt_r _))
 refine sQ (pA rfl) rfl (sD (nS (cF rfl ?_)))
 refine tR (sB (pE rfl rfl) rfl rfl (fun h101 => ?_) (fun h101 => ?_))
 refine sQ (pA rfl) rfl (sD (nS (cT rfl ?_)))
 refine tS (tR (seq_val rfl ((l3Int_fn _)) rfl rfl ?_))
 refine seq_val rfl ((l3Int_fn _)) rfl rfl ?_
 (refine seq_step (step_buildSlice rfl rfl rfl (by omega) (by unfold maxLen; omega) rfl) rfl ?_; rintro _ ⟨b110, rfl⟩)
 refine sQ (pA rfl) rfl (sD (nS ?_))
 (refine ret_freeze (by repeat (first | exact Pk.here | apply Pk.there)) (fun G5 hle5 hsl5 hno5 => ?_))
 refine tT (rB (rS (rF1 (rT rfl) ?_)))
 (exact WantX.mk2 (o78 (by omega)) (hop.1 (by omega)) hsl5 (tyInt_r _) (tyInt_r _))
 refine sQ (pA rfl) rfl (sD (nS (cF rfl ?_)))
 refine tS (tR (sB (pE rfl rfl) rfl rfl (fun h126 => ?_) (fun h126 => ?_)))
 refine sQ (pA rfl) rfl (sD (nS (cT rfl ?_)))
 refine tS (tri_draw mixed rfl ?_)
 refine any_load (i := 1) (l' := [ff,tt,ff,ff,ff]) rfl npI (lBa rfl rfl) rfl (by kernel_rfl) rfl rfl ?_
 refine aL 2 rfl (lBa rfl rfl) rfl ?_
 refine aO' 0 ?_
 refine one_val rfl rfl ((l3Bool_fn _)) rfl rfl rfl ?_
 refine aO' 3 ?_
 (refine one_step0 rfl (step_buildSlice rfl rfl rfl (by omega) (by unfold maxLen; omega) rfl) rfl rfl ?_; rintro _ ⟨b138, rfl⟩)
 refine aP 4 rfl (pA rfl) rfl ?_
 refine aD' ?_
 refine nS ?_
 (refine ret_freeze (by repeat (first | exact Pk.here | apply Pk.there)) (fun G5 hle5 hsl5 hno5 => ?_))
 refine tT (rB (rS (rF1 (rT rfl) ?_)))
 (exact WantX.mk3 (o9 (by omega)) (hop.2.1 (by omega)) hsl5 (tyBool_r _) (hrt.mono hle5) (hrt.mono hle5))
 refine sQ (pA rfl) rfl (sD (nS (cF rfl ?_)))
 refine tS (tS (tR (sB (pE rfl rfl) rfl rfl (fun h155 => ?_) (fun h155 => ?_))))
 refine sQ (pA rfl) rfl (sD (nS (cT rfl ?_)))
 refine tK (nS (cT rfl ?_))
 refine tS (tR (sQ (pM rfl) rfl ?_))
 (have hl1 : ts.length = 1 := hop.2.2 (by omega); obtain ⟨b0, o0', q0, d0, hp0, hat0, hre0, hg0⟩ := hsl.kidTy hkl (i := 0) (by omega) (by omega); cases hp0; refine sP (pIN (j := 0) rfl rfl rfl (by omega)) rfl rfl ?_)
 refine sL (load_a rfl rfl (hat0 _) rfl) rfl rfl ?_
 (obtain ⟨ma', mb', hm, hwo⟩ := o11 (by omega) (by omega); refine seq_imm rfl (l3MatchX_fn 5 ts[0] G _ (.inr rfl) (ha0 (by omega)) hre0) rfl rfl (fun v G1 hle1 hh => ?_); obtain ⟨ma, mca, mb, mcb, rfl, hma, hmb, hma2, hmb2, hpp⟩ := hh; have hpe := hpp _ hm; simp only [Prod.mk.injEq] at hpe; obtain ⟨rfl, rfl⟩ := hpe; obtain ⟨p1, c1, e1, rfl, _⟩ := hma.open; obtain ⟨p2, c2, e2, rfl, _⟩ := hmb.open; have hTwo := l3TwoX_fn 5 _ _ G1 _ _ (.inr rfl) hma2 hmb2 hma hmb)
 refine sQ (pM rfl) rfl (sQ (pX rfl rfl) rfl (sQ (pX rfl rfl) rfl (sQ (pX rfl rfl) rfl ?_)))
 refine sE (step_alloc rfl) rfl (fun b173 => ?_)
 refine sE (step_alloc rfl) rfl (fun b174 => ?_)
 refine sS' ?_
 refine sS' ?_
 refine sQ (pA rfl) rfl (sD (nS (tS (tR (sL (lBa rfl rfl) rfl rfl ?_)))))
 refine sL (lBa rfl rfl) rfl rfl ?_
 (refine seq_imm rfl hTwo rfl rfl (fun v G2 hle2 hh => ?_); obtain ⟨mc, rfl, hmr⟩ := hh; obtain ⟨p3, c3, e3, rfl, _⟩ := hmr.open; have hma4 := hma.mono hle2)
 refine sQ (pM rfl) rfl (sQ (pX rfl rfl) rfl (sQ (pX rfl rfl) rfl ?_))
 refine sE (step_alloc rfl) rfl (fun b188 => ?_)
 refine sS' ?_
 refine sQ (pA rfl) rfl (sD (nS (tS (tR (sL (lBa rfl rfl) rfl rfl ?_)))))
 (refine seq_step (step_buildSlice rfl rfl rfl (by omega) (by unfold maxLen; omega) rfl) rfl ?_; rintro _ ⟨b196, rfl⟩)
 refine sQ (pA rfl) rfl (sD (nS ?_))
 (refine ret_freeze (by repeat (first | exact Pk.here | apply Pk.there)) (fun G5 hle5 hsl5 hno5 => ?_))
 refine tT (rB (rS (rF1 (rT rfl) ?_)))
 (exact WantX.mk1 hwo (hop.2.2 (by omega)) hsl5 (hmr.mono hle5))
 refine sQ (pA rfl) rfl (sD (nS (cF rfl ?_)))
 refine tR (sB (pE rfl rfl) rfl rfl (fun h211 => ?_) (fun h211 => ?_))
 refine sQ (pA rfl) rfl (sD (nS (cT rfl ?_)))
 refine tS (tR (sQ (pM rfl) rfl ?_))
 (have hl1 : ts.length = 1 := hop.2.2 (by omega); obtain ⟨b0, o0', q0, d0, hp0, hat0, hre0, hg0⟩ := hsl.kidTy hkl (i := 0) (by omega) (by omega); cases hp0; refine sP (pIN (j := 0) rfl rfl rfl (by omega)) rfl rfl ?_)
 refine sL (load_a rfl rfl (hat0 _) rfl) rfl rfl ?_
 (obtain ⟨ma', mb', hm, hwo⟩ := o11 (by omega) (by omega); refine seq_imm rfl (l3MatchX_fn 5 ts[0] G _ (.inr rfl) (ha0 (by omega)) hre0) rfl rfl (fun v G1 hle1 hh => ?_); obtain ⟨ma, mca, mb, mcb, rfl, hma, hmb, hma2, hmb2, hpp⟩ := hh; have hpe := hpp _ hm; simp only [Prod.mk.injEq] at hpe; obtain ⟨rfl, rfl⟩ := hpe; obtain ⟨p1, c1, e1, rfl, _⟩ := hma.open; obtain ⟨p2, c2, e2, rfl, _⟩ := hmb.open; have hTwo := l3TwoX_fn 5 _ _ G1 _ _ (.inr rfl) hma2 hmb2 hma hmb)
 refine sQ (pM rfl) rfl (sQ (pX rfl rfl) rfl (sQ (pX rfl rfl) rfl (sQ (pX rfl rfl) rfl ?_)))
 refine sE (step_alloc rfl) rfl (fun b226 => ?_)
 refine sE (step_alloc rfl) rfl (fun b227 => ?_)
 refine sS' ?_
 refine sS' ?_
 refine sQ (pA rfl) rfl (sD (nS (tS (tR (sL (lBa rfl rfl) rfl rfl ?_)))))
 refine sL (lBa rfl rfl) rfl rfl ?_
 (refine seq_imm rfl hTwo rfl rfl (fun v G2 hle2 hh => ?_); obtain ⟨mc, rfl, hmr⟩ := hh; obtain ⟨p3, c3, e3, rfl, _⟩ := hmr.open; have hma4 := hma.mono hle2)
 refine sQ (pM rfl) rfl (sQ (pX rfl rfl) rfl (sQ (pX rfl rfl) rfl ?_))
 refine sE (step_alloc rfl) rfl (fun b241 => ?_)
 refine sS' ?_
 refine sQ (pA rfl) rfl (sD (nS (tS (tR (sL (lBa rfl rfl) rfl rfl ?_)))))
 (refine seq_step (step_buildSlice rfl rfl rfl (by omega) (by unfold maxLen; omega) rfl) rfl ?_; rintro _ ⟨b249, rfl⟩)
 refine sQ (pA rfl) rfl (sD (nS ?_))
 (refine ret_freeze (by repeat (first | exact Pk.here | apply Pk.there)) (fun G5 hle5 hsl5 hno5 => ?_))
 refine tT (rB (rS (rF1 (rT rfl) ?_)))
 (exact WantX.mk1 hwo (hop.2.2 (by omega)) hsl5 (hmr.mono hle5))
 refine sQ (pA rfl) rfl (sD (nS (cF rfl ?_)))
 refine tS (tR (sB (pE rfl rfl) rfl rfl (fun h265 => ?_) (fun h265 => ?_)))
 refine sQ (pA rfl) rfl (sD (nS (cT rfl ?_)))
 refine tS (tR (sL (lBa rfl rfl) rfl rfl ?_))
 (refine seq_step (step_buildSlice rfl rfl rfl (by omega) (by unfold maxLen; omega) rfl) rfl ?_; rintro _ ⟨b273, rfl⟩)
 refine sQ (pA rfl) rfl (sD (nS ?_))
 (refine ret_freeze (by repeat (first | exact Pk.here | apply Pk.there)) (fun G5 hle5 hsl5 hno5 => ?_))
 refine tT (rB (rS (rF1 (rT rfl) ?_)))
 (exact WantX.mk1 (o13 (by omega)) (hop.2.2 (by omega)) hsl5 (hrt.mono hle5))
 refine sQ (pA rfl) rfl (sD (nS (cF rfl ?_)))
 refine tK (nrm_block (nS (tS (tR (sQ (pM rfl) rfl (sQ (pA rfl) rfl ?_))))))
 refine sD (nS (tT (rF1 (rT rfl) ?_)))
 (exact WantX.mk (o0 (by omega)) rfl hsl.sl hkl)
theorem mCasts_self : ∀ (us : List Tm) (h : List Ty) (l : Int), mCasts us h h l = (us, l)
 | [], h, l => by simp [mCasts]
 | u :: us, [], l => by simp [mCasts]
 | u :: us, a :: h, l => by simp only [mCasts, tSame_self, if_true, mCasts_self us h l]
theorem mCasts_want {us : List Tm} {h w : List Ty} {l : Int} : mCasts us h (wantOf w h) l = mCasts us h w l := by
 unfold wantOf
 split
 ·rename_i hw; subst hw; rw [mCasts_self, mCasts_nil]
 ·rfl
theorem wantOf_valid {cx : Cx} {k : Int} {nm : ByteArray} {ty : Ty} {h w : List Ty} {t : Ty} (hh : ∀ a ∈ h, tValid a = true) (hw : Wt cx k nm ty h w t) : ∀ a ∈ wantOf w h, tValid a = true := by
 intro a ha
 unfold wantOf at ha
 split at ha
 ·exact hh a ha
 ·rename_i hne
  obtain ⟨i, hi, rfl⟩ := List.mem_iff_getElem.1 ha
  exact (hw.ok i hi (by rcases hw.len with h1 | h1; exact absurd h1 hne; omega)).2
/-- A term with casts, its type, the next label. -/
def InsXR (u : Tm) (t : Ty) (l : Int) (G : IM) : IM → Value → List Ent → Prop := Imm fun G' v => ∃ cu ct, v = .tuple ⟨[.agg ⟨cu⟩, .agg ⟨ct⟩, .int .i64 (l + 1)]⟩ ∧ RTm G' u cu ∧ RTy G' t ct
theorem elL_len {cx : Cx} : ∀ {ks : List Tm} {l : Int} {us : List Tm} {h : List Ty} {l' : Int}, mElL cx ks l = some (us, h, l') → us.length = ks.length ∧ h.length = ks.length
 | [], l, us, h, l', he => by simp only [mElL, Option.some.injEq, Prod.mk.injEq] at he; obtain ⟨rfl, rfl, _⟩ := he; exact ⟨rfl, rfl⟩
 | t :: ts, l, us, h, l', he => by
  rw [mElL] at he
  split at he
  ·cases he
  ·split at he
   ·cases he
   ·rename_i hz
    simp only [Option.some.injEq, Prod.mk.injEq] at he
    obtain ⟨rfl, rfl, _⟩ := he
    have := elL_len hz
    simp [this.1, this.2]
theorem l4InsertX_fn : ∀ (e : Tm) (d : Int) (cx : Cx) (l0 : Int) (u0 : Tm) (t0 : Ty) (l1 : Int) (G : IM) (p : Option Addr) (n c : Nat) (cells : List Value), mEl cx e l0 = some (u0, t0, l1) → sShape 12 14 e d = true → (n : Int) ≤ d → cxV cx → RCx G cx p n c → RTm G e cells → 0 ≤ l0 → l0 + (tmCount e : Int) ≤ 1000000000 →
  Fn Tryz.prog 51 [.slice p n c, .agg ⟨cells⟩, .int .i64 (l0 + 1)] [] G (InsXR u0 t0 l1 G) := by
 refine Tm.ind fun k nm num ty fr lb ks ih d cx l0 u0 t0 l1 G p n c cells hel hv hnd hcv hx hr hl0 hlc => ?_
 have hr0 := hr
 have hone := hr.one
 have hT := l3TypeX_fn _ d cx G p n c cells hv hnd hcv hx hr
 obtain ⟨hts1, hts2⟩ := (el_tyS _ d cx l0 hv hcv).1 u0 t0 l1 hel
 rw [hts1] at hT
 have hsm := shape_small _ d hv
 obtain ⟨hv1, hv2, hv3, hv4⟩ := sShape_go2 hv
 have hvk := (sShapeL_iff 12 14 ks _).1 hv4
 have har := (tmNode_iff.1 hv3).1
 have hop := tm_ops har
 obtain ⟨hta, hts⟩ := node_ann hv3
 have hcvX : cxV (inCx cx k nm ty) := cxV_in hcv fun hk => (tmNode_iff.1 hv3).2.2.2.2.2.1 (.inl hk)
 have hck : tmCount (.mk k nm num ty fr lb ks) = tmCountL ks + 1 := tmCount_mk ..
 rw [hck] at hlc
 rw [mEl] at hel
 rcases hEL : mElL (inCx cx k nm ty) ks l0 with _ | ⟨usA, tsA, lA⟩
 ·rw [hEL] at hel; cases hel
 rw [hEL] at hel
 unfold mElN at hel
 rcases hNT : mNodeT cx k nm ty tsA with _ | ⟨w, t9⟩
 ·simp only [hNT] at hel; cases hel
 simp only [hNT, Option.some.injEq, Prod.mk.injEq] at hel
 obtain ⟨hu0, rfl, rfl⟩ := hel
 obtain ⟨hlA1, hlA2⟩ := elL_len hEL
 have hmw := (mNodeT_valid hNT).2
 obtain ⟨_, htv, _⟩ := (el_tySL ks (fun t ht d' cx' l' h1 h2 => el_tyS t d' cx' l' h1 h2) (d + 1) _ l0 hv4 hcvX).1 usA tsA lA hEL
 have hcAll := mCasts_lab usA tsA w lA
 have hWV : ∀ a ∈ wantOf w tsA, tValid a = true := wantOf_valid htv (wanted_wt htv (fun hk => (tmNode_iff.1 hv3).2.2.2.2.2.1 (.inr (.inl hk))) (by rw [hlA2]; exact har) hv2 hmw)
 obtain ⟨tk, tks⟩ := ty
 obtain ⟨fk, fks⟩ := fr
 obtain ⟨pt, ct, pf, cf, q, cq, es, rfl, hk, hnum, hlb, hty, hfr, hsl, hkl⟩ := hr.open9
 have hlen : ks.length ≤ 3 := by have := tmOps_le k; omega
 have hk13 : k = 13 → ks.length = 1 := fun h => hop.2.2 (by omega)
 refine fn_enter Tryz.func51 rfl Tryz.ntmps51 Tryz.results51 rfl ?_
 intro w0
 refine tS ?_
 refine tR ?_
 refine sE (step_box_a rfl rfl) rfl (fun b3 => ?_)
 refine sE (step_alloc rfl) rfl (fun b4 => ?_)
 refine sE (step_alloc rfl) rfl (fun b5 => ?_)
 refine sQ (pA rfl) rfl ?_
 refine sD ?_
 refine nS ?_
 refine tS ?_
 refine tR ?_
 refine sQ (pM rfl) rfl ?_
 refine sL (lBa rfl rfl) rfl rfl ?_
 (refine seq_imm rfl hT rfl rfl (fun v G1 hle1 hh => ?_); obtain ⟨mt, mc, rfl, hmr, hma, hmu⟩ := hh; obtain rfl := hmu _ rfl; obtain ⟨p1, d1, e1, rfl, _⟩ := hmr.open; have hC := l2Copy_fn _ G1 _ hsm (hr0.mono hle1))
 refine sQ (pM rfl) rfl ?_
 refine sQ (pX rfl rfl) rfl ?_
 refine sQ (pX rfl rfl) rfl ?_
 refine sE (step_alloc rfl) rfl (fun b17 => ?_)
 refine sS' ?_
 refine sQ (pA rfl) rfl ?_
 refine sD ?_
 refine nS ?_
 refine tS ?_
 refine tR ?_
 refine sL (lBa rfl rfl) rfl rfl ?_
 (refine seq_imm rfl hC rfl rfl (fun v G2 hle2 hh => ?_); obtain ⟨cs1, F1, rfl, hs1, hn1⟩ := hh; have hr1 := hs1.R.mono (Dif.le G2 G1); obtain ⟨q1, c1, q2, c2, q3, c3, es1, rfl, _, _, _, hty1, hfr1, _, _⟩ := hr1.open9; have hle02 := hle1.trans hle2; replace hx := hx.mono hle02; replace hty := hty.mono hle02; replace hsl := hsl.mono hle02; replace hkl := hkl.mono hle02; replace hmr := hmr.mono hle2; replace hr0 := hr0.mono hle02)
 refine sE (step_alloc rfl) rfl (fun b26 => ?_)
 refine sS' ?_
 refine sD ?_
 refine nS ?_
 refine tS ?_
 refine tR ?_
 refine sQ (pF0 rfl) rfl ?_
 refine sS' ?_
 refine sD ?_
 refine nS ?_
 refine tS ?_
 refine tS ?_
 (show Tri _ _ (.region 4 ..) _ _; refine tri_cut (fun (x : Bool) => ⟨[(30, .bool x), (0, .slice p n c), (2, .int .i64 (l0 + 1)), (4, .pointer (some ⟨b3, 0, none⟩)), (6, .pointer (some ⟨b4, 0, none⟩)), (7, .pointer (some ⟨b5, 0, none⟩)), (9, .pointer (some ⟨b17, 0, none⟩)), (11, .pointer (some ⟨b26, 0, none⟩))], [.blk b26 [.int .i64 k, .string nm, .int .i64 num, .int .i64 tk, .slice q1 tks.length c1, .int .i64 fk, .slice q2 fks.length c2, .int .i64 lb, .slice none 0 0], .blk b17 [.int .i64 t9.k, .slice p1 t9.ks.length d1], .blk b5 [.int .i64 0, .slice none 0 0], .blk b4 [.int .i64 0, .string ⟨⟨[]⟩⟩, .int .i64 0, .int .i64 0, .slice none 0 0, .int .i64 0, .slice none 0 0, .int .i64 0, .slice none 0 0], .blk b3 [.int .i64 k, .string nm, .int .i64 num, .int .i64 tk, .slice pt tks.length ct, .int .i64 fk, .slice pf fks.length cf, .int .i64 lb, .slice q ks.length cq]], G2⟩) (fun x => x = true ↔ k = 5) ?_ ?_)
 ·refine tR ?_
  refine sQ (pF0 rfl) rfl ?_
  refine sL (lBs rfl rfl) rfl rfl ?_
  refine sB (pE rfl rfl) rfl rfl (fun h42 => ?_) (fun h42 => ?_)
  ·refine sD ?_
   refine nrm_cut true (sub_mk (by repeat (first | exact SubE.nil | refine SubE.cons rfl ?_)) (by repeat (first | exact SubH.refl | exact SubH.nil | refine SubH.cons (by repeat (first | exact Pk.here | apply Pk.there)) ?_ | apply SubH.drop))) ⟨fun _ => (by omega), fun _ => rfl⟩
  ·refine sD ?_
   refine nrm_cut false (sub_mk (by repeat (first | exact SubE.nil | refine SubE.cons rfl ?_)) (by repeat (first | exact SubH.refl | exact SubH.nil | refine SubH.cons (by repeat (first | exact Pk.here | apply Pk.there)) ?_ | apply SubH.drop))) ⟨fun h => (by cases h), fun _ => (by omega)⟩
 ·(rintro (x : Bool) hx5)
  (show Tri _ _ (.cond (.tmp 30) _ _) _ _; refine tri_cut (fun (x : Option Addr × Nat × Nat × IM) => ⟨[(0, .slice x.1 x.2.1 x.2.2.1), (2, .int .i64 (l0 + 1)), (4, .pointer (some ⟨b3, 0, none⟩)), (6, .pointer (some ⟨b4, 0, none⟩)), (7, .pointer (some ⟨b5, 0, none⟩)), (9, .pointer (some ⟨b17, 0, none⟩)), (11, .pointer (some ⟨b26, 0, none⟩))], [.blk b26 [.int .i64 k, .string nm, .int .i64 num, .int .i64 tk, .slice q1 tks.length c1, .int .i64 fk, .slice q2 fks.length c2, .int .i64 lb, .slice none 0 0], .blk b17 [.int .i64 t9.k, .slice p1 t9.ks.length d1], .blk b5 [.int .i64 0, .slice none 0 0], .blk b4 [.int .i64 0, .string ⟨⟨[]⟩⟩, .int .i64 0, .int .i64 0, .slice none 0 0, .int .i64 0, .slice none 0 0, .int .i64 0, .slice none 0 0], .blk b3 [.int .i64 k, .string nm, .int .i64 num, .int .i64 tk, .slice pt tks.length ct, .int .i64 fk, .slice pf fks.length cf, .int .i64 lb, .slice q ks.length cq]], x.2.2.2⟩) (fun x => IMle G2 x.2.2.2 ∧ RCx x.2.2.2 (inCx cx k nm (.mk tk tks)) x.1 x.2.1 x.2.2.1 ∧ (x.2.1 : Int) ≤ d + 1) (tri_cond rfl (fun hxt => ?_) (fun hxf => ?_)) ?_)
  ·refine tR ?_
   refine sQ (pM rfl) rfl ?_
   refine sQ (pF0 rfl) rfl ?_
   refine sL (lBs rfl rfl) rfl rfl ?_
   refine sQ (pF0 rfl) rfl ?_
   refine sL (lBa rfl rfl) rfl rfl ?_
   (refine seq_imm rfl (l3MoreX_fn G2 cx p n c nm (.mk tk tks) _ hx (by omega) hty) rfl rfl (fun v G3 hle3 hh => ?_); obtain ⟨pm0, cm0, rfl, hxm⟩ := hh)
   refine sQ (pA rfl) rfl ?_
   refine sD ?_
   refine nrm_cut (pm0, n + 1, cm0, G3) (sub_mk (by repeat (first | exact SubE.nil | refine SubE.cons rfl ?_)) (by repeat (first | exact SubH.refl | exact SubH.nil | refine SubH.cons (by repeat (first | exact Pk.here | apply Pk.there)) ?_ | apply SubH.drop))) ?_
   (dsimp only; exact ⟨hle3, by rw [inCx, if_pos (hx5.1 (by assumption))]; exact hxm, by omega⟩)
  ·refine tK ?_
   refine nrm_cut (p, n, c, G2) (sub_mk (by repeat (first | exact SubE.nil | refine SubE.cons rfl ?_)) (by repeat (first | exact SubH.refl | exact SubH.nil | refine SubH.cons (by repeat (first | exact Pk.here | apply Pk.there)) ?_ | apply SubH.drop))) ?_
   (dsimp only; exact ⟨IMle.refl _, by rw [inCx, if_neg (fun h => by have := hx5.2 h; rw [this] at hxf; cases hxf)]; exact hx, by omega⟩)
  ·(rintro ⟨(px : Option Addr), nx, cxx, Gx⟩ ⟨hleX, hxX, hnX⟩; simp only [] at hleX hxX hnX ⊢; replace hty1 := hty1.mono hleX; replace hfr1 := hfr1.mono hleX; replace hsl := hsl.mono hleX; replace hkl := hkl.mono hleX; replace hmr := hmr.mono hleX; replace hr0 := hr0.mono hleX)
   refine tS ?_
   refine tR ?_
   (refine seq_step (step_buildSlice rfl rfl rfl (by omega) (by unfold maxLen; omega) rfl) rfl ?_; rintro _ ⟨b66, rfl⟩)
   refine sQ (pA rfl) rfl ?_
   refine sD ?_
   refine nS ?_
   refine tS ?_
   refine tS ?_
   refine tR ?_
   refine sQ (pA rfl) rfl ?_
   refine sD ?_
   refine nS ?_
   refine tri_block ?_
   (refine tri_nil 35 9 ?_; refine tri_loopN (fun (x : Nat × (Option Addr × Nat × List Tm × List (List Value)) × (Option Addr × Nat × List Ty × List (List Value)) × Int × IM) => ⟨[(13, .int .i64 x.1), (12, .slice x.2.2.1.1 x.1 x.2.2.1.2.1), (0, .slice px nx cxx), (2, .int .i64 (x.2.2.2.1 + 1)), (4, .pointer (some ⟨b3, 0, none⟩)), (6, .pointer (some ⟨b4, 0, none⟩)), (7, .pointer (some ⟨b5, 0, none⟩)), (9, .pointer (some ⟨b17, 0, none⟩)), (11, .pointer (some ⟨b26, 0, none⟩))], [.blk b26 [.int .i64 k, .string nm, .int .i64 num, .int .i64 tk, .slice q1 tks.length c1, .int .i64 fk, .slice q2 fks.length c2, .int .i64 lb, .slice x.2.1.1 x.1 x.2.1.2.1], .slc x.2.1.1 x.2.1.2.1 35 9 x.1 x.2.1.2.2.2.flatten, .slc x.2.2.1.1 x.2.2.1.2.1 32 2 x.1 x.2.2.1.2.2.2.flatten, .blk b17 [.int .i64 t9.k, .slice p1 t9.ks.length d1], .blk b5 [.int .i64 0, .slice none 0 0], .blk b4 [.int .i64 0, .string ⟨⟨[]⟩⟩, .int .i64 0, .int .i64 0, .slice none 0 0, .int .i64 0, .slice none 0 0, .int .i64 0, .slice none 0 0], .blk b3 [.int .i64 k, .string nm, .int .i64 num, .int .i64 tk, .slice pt tks.length ct, .int .i64 fk, .slice pf fks.length cf, .int .i64 lb, .slice q ks.length cq]], x.2.2.2.2⟩) (fun x => x.1 ≤ ks.length ∧ IMle Gx x.2.2.2.2 ∧ x.2.1.2.2.1.length = x.1 ∧ RTmL x.2.2.2.2 x.2.1.2.2.1 x.2.1.2.2.2 ∧ x.2.2.1.2.2.1.length = x.1 ∧ RTyL x.2.2.2.2 x.2.2.1.2.2.1 x.2.2.1.2.2.2 ∧ mElL (inCx cx k nm (.mk tk tks)) (ks.take x.1) l0 = some (x.2.1.2.2.1, x.2.2.1.2.2.1, x.2.2.2.1) ∧ l0 ≤ x.2.2.2.1 ∧ x.2.2.2.1 + x.1 ≤ l0 + (tmCountL (ks.take x.1) : Int)) (fun x => ks.length - x.1) (0, (none, 0, [], []), (some ⟨b66, 0, none⟩, 0, [], []), l0, Gx) ?_ ?_ ?_)
   ·(simp only [List.take_zero, mCasts_nil]; exact (sub_mk (by repeat (first | exact SubE.nil | refine SubE.cons rfl ?_)) (by repeat (first | exact SubH.refl | exact SubH.nil | refine SubH.cons (by repeat (first | exact Pk.here | apply Pk.there)) ?_ | apply SubH.drop))))
   ·(exact ⟨by simp, IMle.refl _, rfl, by simp [RTmL], rfl, by simp [RTyL], by simp [mElL], Int.le_refl _, by simp [tmCountL]⟩)
   ·(rintro ⟨i, ⟨pn, cn, us, es'⟩, ⟨pm, cm, ts, ess⟩, l, Gi⟩ ⟨hi, hle, hlu, hst, hlt, hstt, hml, hl1, hl2⟩; simp only [] at hi hle hlu hst hlt hstt hml hl1 hl2 ⊢; replace hty1 := hty1.mono hle; replace hfr1 := hfr1.mono hle; replace hsl := hsl.mono hle; replace hkl := hkl.mono hle; replace hmr := hmr.mono hle; replace hr0 := hr0.mono hle; replace hxX := hxX.mono hle)
    refine tS ?_
    refine tS ?_
    refine tR ?_
    refine sQ (pM rfl) rfl ?_
    refine sQ (pF0 rfl) rfl ?_
    refine sL (lBs rfl rfl) rfl rfl ?_
    refine sQ (pLn rfl rfl) rfl ?_
    refine sB (pure_lss rfl rfl) rfl rfl (fun h88 => ?_) (fun h88 => ?_)
    ·refine sD ?_
     refine nS ?_
     refine cT rfl ?_
     refine tK ?_
     refine nS ?_
     refine tS ?_
     refine tri_block ?_
     refine tS ?_
     refine tR ?_
     refine sQ (pM rfl) rfl ?_
     refine sQ (pF0 rfl) rfl ?_
     refine sL (lBs rfl rfl) rfl rfl ?_
     refine sQ (pM rfl) rfl ?_
     (obtain ⟨b, o, e, rfl, hl, hate, hre, hgb⟩ := hsl.kidTm hkl (i := i) (by omega) (by omega); have hsc := tmCountL_succ (ks := ks) (i := i) (by omega); have hsk := tmCountL_take (ks := ks) (i := i) (by omega); rcases hE : mEl (inCx cx k nm (Ty.mk tk tks)) ks[i] l with _ | ⟨u, t, l3⟩; (have hno := mElL_no (by omega) hml hE; rw [hEL] at hno; cases hno); have hlm := el_goodL.el_mono _ _ _ _ _ _ hE; have hlx := el_labK ks[i] (d + 1) _ l u t l3 (hvk i (by omega)) hE; refine sP (pIN rfl rfl rfl (by omega)) rfl rfl ?_)
     refine sL (load_a rfl rfl (hate _) hl) rfl rfl ?_
     refine sQ (pM rfl) rfl ?_
     (refine seq_imm rfl (ih ks[i] (List.getElem_mem (by omega)) (d + 1) _ l u t l3 Gi px nx cxx _ hE (hvk i (by omega)) (by omega) hcvX hxX hre (by omega) (by omega)) rfl rfl (fun v G3 hle3 hh => ?_); obtain ⟨uc, tc, rfl, hru, hrt⟩ := hh; obtain ⟨v1, v2, v3, v4, v5, v6, v7, v8, v9, rfl⟩ := nine hru.len; obtain ⟨p3, c3, e3, rfl, _⟩ := hrt.open; have hlu9 := hru.len; have hou9 := hru.one)
     refine sQ (pM rfl) rfl ?_
     refine sQ (pX rfl rfl) rfl ?_
     refine sQ (pX rfl rfl) rfl ?_
     refine sQ (pX rfl rfl) rfl ?_
     refine sE (step_alloc rfl) rfl (fun b110 => ?_)
     refine sE (step_alloc rfl) rfl (fun b111 => ?_)
     refine sS rfl rfl rfl hlu9 hou9 rfl ?_ (hu := by exact upd_all hlu9.symm)
     refine sS' ?_
     refine sQ (pA rfl) rfl ?_
     refine sD ?_
     refine nS ?_
     refine tS ?_
     refine tR ?_
     refine sQ (pF0 rfl) rfl ?_
     refine sL (lBs rfl rfl) rfl rfl ?_
     refine sL (lBa rfl rfl) rfl rfl ?_
     (refine seq_step (step_buildSlice rfl rfl rfl (by omega) (by unfold maxLen; omega) rfl) rfl ?_; rintro _ ⟨b122, rfl⟩)
     refine seq_append rfl rfl rfl rfl rfl (fun _ _ => by repeat (first | exact Sw.here | apply Sw.there)) (at_slc_all (by repeat first | exact mH | apply mT)) rfl (fun u hu => List.all_eq_true.1 hou9 u hu) (by unfold maxLen; omega) (by omega) rfl (fun pn' cn' => ?_)
     refine sQ (pF0 rfl) rfl ?_
     refine sS' ?_
     refine sD ?_
     refine nS ?_
     refine tS ?_
     refine tR ?_
     refine sQ (pM rfl) rfl ?_
     refine sL (lBa rfl rfl) rfl rfl ?_
     (refine seq_step (step_buildSlice rfl rfl rfl (by omega) (by unfold maxLen; omega) rfl) rfl ?_; rintro _ ⟨b132, rfl⟩)
     refine seq_append rfl rfl rfl rfl rfl (fun _ _ => by repeat (first | exact Sw.here | apply Sw.there)) (at_slc_all (by repeat first | exact mH | apply mT)) rfl (by simp [Value.oneCell']) (by unfold maxLen; omega) (by omega) rfl (fun pm' cm' => ?_)
     refine sQ (pA rfl) rfl ?_
     refine sD ?_
     refine nS ?_
     refine tR ?_
     refine sQ (pM rfl) rfl ?_
     refine sQ (pA rfl) rfl ?_
     refine sD ?_
     refine nrm_block ?_
     refine nS ?_
     refine tR ?_
     refine sQ (pM rfl) rfl ?_
     refine sP (pure_add rfl rfl (by omega) (by omega)) rfl rfl ?_
     refine sQ (pA rfl) rfl ?_
     refine sD ?_
     refine nrm_loopN (i + 1, (pn', cn', us ++ [u], es' ++ [[v1, v2, v3, v4, v5, v6, v7, v8, v9]]), (pm', cm', ts ++ [t], ess ++ [[.int .i64 t.k, .slice p3 t.ks.length c3]]), l3, G3) ?_ ?_ ?_
     ·(simp only [flat_snoc]; exact sMk)
     ·(dsimp only; exact ⟨by omega, hle.trans hle3, by simp [hlu], RTmL.snoc (hst.mono hle3) hru, by simp [hlt], RTyL.snoc (hstt.mono hle3) hrt, mElL_succ (by omega) hml hE, by omega, by omega⟩)
     ·(show ks.length - (i + 1) < ks.length - i; omega)
    ·refine sD ?_
     refine nS ?_
     refine cF rfl ?_
     refine tri_exit ?_
     refine ext_seq ?_
     refine ext_loopN ?_
     refine ext_block_eq ?_
     refine nS ?_
     refine tS ?_
     refine tR ?_
     refine sL (lBa rfl rfl) rfl rfl ?_
     refine sQ (pM rfl) rfl ?_
     refine sL (lBa rfl rfl) rfl rfl ?_
     (obtain rfl : i = ks.length := (by omega); rw [List.take_length] at hml hl2; rw [hEL] at hml; simp only [Option.some.injEq, Prod.mk.injEq] at hml; obtain ⟨rfl, rfl, rfl⟩ := hml; refine triL_freeze (cs := ess.flatten) (by repeat (first | exact Pk.here | apply Pk.there)) (fun G4 hle4 hsl4 hno4 => ?_); have hstt4 := hstt.mono hle4; have hslT : SlE G4 pm ks.length cm 2 ess := SlE.of hsl4 (by rw [hstt4.len, hlt]) hstt4.all (fun e he => (hstt4.each e he).2); have hW := l4WantX_fn cx k nm num (.mk tk tks) (.mk fk fks) lb ks _ w _ G4 _ _ pm cm ess hmw hv2 (by rw [hlt]; exact har) (hr0.mono hle4) (by rw [hlt]; exact hslT) hstt4 (fun t ht => tValid_ar' (htv t ht)) (hmr.mono hle4); rw [hlt] at hW; refine seq_imm rfl hW rfl rfl (fun v G5 hle5 hh => ?_); obtain ⟨pw, cw, esw, rfl, hlw, hsw, hstw⟩ := hh; have hle45 := hle4.trans hle5; replace hty1 := hty1.mono hle45; replace hfr1 := hfr1.mono hle45; replace hmr := hmr.mono hle45; replace hst := hst.mono hle45; replace hslT := hslT.mono hle5; replace hstt := hstt.mono hle45; rcases Nat.eq_zero_or_pos ks.length with h0 | h0)
     ·refine sQ (pA rfl) rfl ?_
      refine sD ?_
      refine nS ?_
      refine tS ?_
      refine tS ?_
      refine tR ?_
      refine sQ (pA rfl) rfl ?_
      refine sD ?_
      refine nS ?_
      refine tri_block ?_
      (have h0' : ks.length = 0 := h0; refine tri_loopN (fun (_ : Nat) => ⟨[(18, .int .i64 0), (17, .slice pw ks.length cw), (12, .slice pm ks.length cm), (2, .int .i64 (lA + 1)), (4, .pointer (some ⟨b3, 0, none⟩)), (6, .pointer (some ⟨b4, 0, none⟩)), (7, .pointer (some ⟨b5, 0, none⟩)), (9, .pointer (some ⟨b17, 0, none⟩)), (11, .pointer (some ⟨b26, 0, none⟩))], [.blk b26 [.int .i64 k, .string nm, .int .i64 num, .int .i64 tk, .slice q1 tks.length c1, .int .i64 fk, .slice q2 fks.length c2, .int .i64 lb, .slice pn ks.length cn], .slc pn cn 35 9 ks.length es'.flatten, .blk b17 [.int .i64 t9.k, .slice p1 t9.ks.length d1], .blk b5 [.int .i64 0, .slice none 0 0], .blk b4 [.int .i64 0, .string ⟨⟨[]⟩⟩, .int .i64 0, .int .i64 0, .slice none 0 0, .int .i64 0, .slice none 0 0, .int .i64 0, .slice none 0 0], .blk b3 [.int .i64 k, .string nm, .int .i64 num, .int .i64 tk, .slice pt tks.length ct, .int .i64 fk, .slice pf fks.length cf, .int .i64 lb, .slice q ks.length cq]], G5⟩) (fun _ => True) (fun i => i) 0 ?_ ?_ ?_)
      ·exact sMk
      ·trivial
      ·(rintro (i0 : Nat) _)
       refine tS ?_
       refine tS ?_
       refine tR ?_
       refine sQ (pM rfl) rfl ?_
       refine sQ (pM rfl) rfl ?_
       refine sQ (pLn rfl rfl) rfl ?_
       refine sP (pure_lss_f rfl rfl (by omega)) rfl rfl ?_
       refine sD ?_
       refine nS ?_
       refine cF rfl ?_
       refine tri_exit ?_
       refine ext_seq ?_
       refine ext_loopN ?_
       refine ext_block_eq ?_
       refine nS ?_
       refine tS ?_
       refine tS ?_
       refine tR ?_
       refine sQ (pF0 rfl) rfl ?_
       refine sL (lBs rfl rfl) rfl rfl ?_
       refine sP (pure_eql_f rfl rfl (by omega)) rfl rfl ?_
       refine sD ?_
       refine nS ?_
       refine cF rfl ?_
       refine tK ?_
       refine nS ?_
       refine tS ?_
       refine tri_draw mixed rfl ?_
       refine any_load (i := 0) (l' := [tt,ff,ff,ff,ff,ff]) rfl npI (lBa rfl rfl) rfl (by kernel_rfl) rfl rfl ?_
       refine aL 1 rfl (lBa rfl rfl) rfl ?_
       refine aP 2 rfl (pM rfl) rfl ?_
       refine aO' 3 ?_
       refine oS rfl rfl rfl rfl rfl rfl rfl rfl ?_
       refine aO' 4 ?_
       refine oS rfl rfl rfl rfl rfl rfl rfl rfl ?_
       refine aP 5 rfl (pA rfl) rfl ?_
       refine aD' ?_
       refine nS ?_
       (refine ret_freeze (cs := es'.flatten) (by repeat (first | exact Pk.here | apply Pk.there)) (fun G8 hle8 hsl8 hno8 => ?_); have hst8 := hst.mono hle8)
       refine tT ?_
       refine rF3 (rC rfl (lBa rfl rfl)) (rC rfl (lBa rfl rfl)) (rT rfl) ?_
       (have hu9 : usA = [] := List.length_eq_zero_iff.1 (by omega); have hne : k ≠ 13 := (fun h => by have := hk13 h; omega); have hz : mCasts usA tsA w lA = (usA, lA) := (by rw [hu9]; simp [mCasts]); rw [if_neg hne, hz] at hu0; subst hu0; rw [hz]; exact ⟨rfl, _, _, rfl, RTm.put hk hnum hlb (hty1.mono hle8) (hfr1.mono hle8) hlA1.symm (SlE.of hsl8 (by rw [hst8.len, hlA1]) hst8.all (fun e he => (hst8.each e he).2)) hst8, hmr.mono hle8⟩)
     ·(refine triL_open (cs := es'.flatten) (by repeat (first | exact Pk.here | apply Pk.there)) h0 (fun bc C hpe hnc hcm => ?_); subst hpe; refine sQ (pA rfl) rfl ?_)
      refine sD ?_
      refine nS ?_
      refine tS ?_
      refine tS ?_
      refine tR ?_
      refine sQ (pA rfl) rfl ?_
      refine sD ?_
      refine nS ?_
      refine tri_block ?_
      (have hLoop2 := hlw; refine tri_loopN (fun (x : Nat × List (List Value) × IM) => ⟨[(18, .int .i64 x.1), (17, .slice pw ks.length cw), (12, .slice pm ks.length cm), (2, .int .i64 ((mCasts usA tsA ((wantOf w tsA).take x.1) lA).2 + 1)), (4, .pointer (some ⟨b3, 0, none⟩)), (6, .pointer (some ⟨b4, 0, none⟩)), (7, .pointer (some ⟨b5, 0, none⟩)), (9, .pointer (some ⟨b17, 0, none⟩)), (11, .pointer (some ⟨b26, 0, none⟩))], [.blk b26 [.int .i64 k, .string nm, .int .i64 num, .int .i64 tk, .slice q1 tks.length c1, .int .i64 fk, .slice q2 fks.length c2, .int .i64 lb, .slice (some ⟨bc, 0, none⟩) ks.length cn], .blk bc (x.2.1.flatten ++ C), .blk b17 [.int .i64 t9.k, .slice p1 t9.ks.length d1], .blk b5 [.int .i64 0, .slice none 0 0], .blk b4 [.int .i64 0, .string ⟨⟨[]⟩⟩, .int .i64 0, .int .i64 0, .slice none 0 0, .int .i64 0, .slice none 0 0, .int .i64 0, .slice none 0 0], .blk b3 [.int .i64 k, .string nm, .int .i64 num, .int .i64 tk, .slice pt tks.length ct, .int .i64 fk, .slice pf fks.length cf, .int .i64 lb, .slice q ks.length cq]], x.2.2⟩) (fun x => x.1 ≤ ks.length ∧ IMle G5 x.2.2 ∧ RTmL x.2.2 (mCasts usA tsA ((wantOf w tsA).take x.1) lA).1 x.2.1) (fun x => ks.length - x.1) (0, es', G5) ?_ ?_ ?_)
      ·(simp only [List.take_zero, mCasts_nil]; exact (sub_mk (by repeat (first | exact SubE.nil | refine SubE.cons rfl ?_)) (by repeat (first | exact SubH.refl | exact SubH.nil | refine SubH.cons (by repeat (first | exact Pk.here | apply Pk.there)) ?_ | apply SubH.drop))))
      ·(exact ⟨Nat.zero_le _, IMle.refl _, by simp only [List.take_zero, mCasts_nil]; exact hst⟩)
      ·(rintro ⟨j, es2, G6⟩ ⟨hj, hle6, hst2⟩; simp only [] at hj hle6 hst2 ⊢; replace hty1 := hty1.mono hle6; replace hfr1 := hfr1.mono hle6; replace hmr := hmr.mono hle6; replace hslT := hslT.mono hle6; replace hstt := hstt.mono hle6; replace hsw := hsw.mono hle6; replace hstw := hstw.mono hle6; have hle2s := hst2.len; rw [mCasts_len] at hle2s; have hall2 := hst2.all)
       refine tS ?_
       refine tS ?_
       refine tR ?_
       refine sQ (pM rfl) rfl ?_
       refine sQ (pM rfl) rfl ?_
       refine sQ (pLn rfl rfl) rfl ?_
       refine sB (pure_lss rfl rfl) rfl rfl (fun h242 => ?_) (fun h242 => ?_)
       ·refine sD ?_
        refine nS ?_
        refine cT rfl ?_
        refine tK ?_
        refine nS ?_
        refine tS ?_
        refine tri_block ?_
        (have hjw : j < (wantOf w tsA).length := (by omega); obtain ⟨bt, ot, qt, dt, hpt, hatt, hrtt, hgt⟩ := hslT.kidTy hstt (i := j) (by omega) (by omega); obtain ⟨bw, ow, qw, dw, hpw, hatw, hrtw, hgw⟩ := (show SlE G6 pw (wantOf w tsA).length cw 2 esw from by rw [hlw]; exact hsw).kidTy hstw (i := j) (by omega) (by omega); cases hpt; cases hpw; obtain ⟨m1, m2, _⟩ := mCasts_succ usA tsA (wantOf w tsA) lA j hjw (by omega) (by omega); obtain ⟨m3, m4⟩ := mCasts_next (us := usA) (h := tsA) (w := wantOf w tsA) (l := lA) hjw (by omega) (by omega); obtain ⟨hE1, hE2⟩ := hst2.at2 (i := j) (by omega) (by omega); rw [m2] at hE2; have hE3 := hE2.len; have hcj := mCasts_lab usA tsA ((wantOf w tsA).take j) lA; refine tri_draw mixed rfl ?_)
        refine any_pure (i := 0) (l' := [tt,ff,ff,ff,ff,ff,ff,ff,ff,ff,ff,ff,ff,ff,ff,ff,ff,ff,ff,ff,ff,ff,ff,ff]) rfl npI (pF0 rfl) rfl (by kernel_rfl) rfl rfl ?_
        refine aL 1 rfl (lBs rfl rfl) rfl ?_
        refine aP 2 rfl (pM rfl) rfl ?_
        refine aP 3 rfl (pF0 rfl) rfl ?_
        refine aL 4 rfl (lBs rfl rfl) rfl ?_
        refine aP 5 rfl (pM rfl) rfl ?_
        refine aP 6 rfl (pIN (j := j) rfl rfl rfl (by omega)) rfl ?_
        refine aL 7 rfl (load_a rfl rfl (at_elem (es := es2) (by repeat first | exact mH | apply mT) (by omega) hall2) hE3) rfl ?_
        refine aP 8 rfl (pM rfl) rfl ?_
        refine aP 9 rfl (pM rfl) rfl ?_
        refine aP 10 rfl (pIN (j := j) rfl rfl rfl (by omega)) rfl ?_
        refine aL 11 rfl (load_a rfl rfl (hatt _) rfl) rfl ?_
        refine aP 12 rfl (pM rfl) rfl ?_
        refine aP 13 rfl (pM rfl) rfl ?_
        refine aP 14 rfl (pIN (j := j) rfl rfl rfl (by omega)) rfl ?_
        refine aL 15 rfl (load_a rfl rfl (hatw _) rfl) rfl ?_
        refine aP 16 rfl (pM rfl) rfl ?_
        refine aO' 17 ?_
        (have hwsm := (tValid_ar' (hWV _ (List.getElem_mem (show j < (wantOf w tsA).length by omega)))).small; refine one_imm rfl rfl (l4CastX_fn usA[j] tsA[j] (wantOf w tsA)[j] _ _ _ _ _ (by omega) hE2 hrtt hrtw (tValid_ar' (htv _ (List.getElem_mem (by omega)))).small hwsm) rfl rfl rfl (fun v G7 hle7 hh => ?_); obtain ⟨uc, rfl, hru⟩ := hh; rw [show (if tSame tsA[j] (wantOf w tsA)[j] = true then (mCasts usA tsA ((wantOf w tsA).take j) lA).2 + 1 else (mCasts usA tsA ((wantOf w tsA).take j) lA).2 + 1 + 1) = (mCasts usA tsA ((wantOf w tsA).take (j + 1)) lA).2 + 1 from by rw [m4]; split <;> rfl]; have hlu9 := hru.len; have hou9 := hru.one)
        refine aP 18 rfl (pM rfl) rfl ?_
        refine aP 19 rfl (pX rfl rfl) rfl ?_
        refine aP 21 rfl (pIN (j := j) rfl rfl rfl (by omega)) rfl ?_
        refine aP 20 rfl (pX rfl rfl) rfl ?_
        refine aO' 22 ?_
        refine one_store rfl rfl rfl rfl hlu9 hou9 rfl rfl (by kernel_rfl) (by repeat first | exact Sw.here | apply Sw.there) (by exact upd_set (by omega) hall2 hlu9) ?_
        refine aP 23 rfl (pA rfl) rfl ?_
        refine aD' ?_
        refine nrm_block ?_
        refine nS ?_
        refine tR ?_
        refine sQ (pM rfl) rfl ?_
        refine sP (pure_add rfl rfl (by omega) (by omega)) rfl rfl ?_
        refine sQ (pA rfl) rfl ?_
        refine sD ?_
        refine nrm_loopN (j + 1, es2.set j uc, G7) ?_ ?_ ?_
        ·(simp only [List.take_zero, mCasts_nil]; exact (sub_mk (by repeat (first | exact SubE.nil | refine SubE.cons rfl ?_)) (by repeat (first | exact SubH.refl | exact SubH.nil | refine SubH.cons (by repeat (first | exact Pk.here | apply Pk.there)) ?_ | apply SubH.drop))))
        ·(dsimp only; exact ⟨by omega, hle6.trans hle7, by rw [m3]; exact RTmL.set (hst2.mono hle7) hru⟩)
        ·(show ks.length - (j + 1) < ks.length - j; omega)
       ·refine sD ?_
        refine nS ?_
        refine cF rfl ?_
        refine tri_exit ?_
        refine ext_seq ?_
        refine ext_loopN ?_
        refine ext_block_eq ?_
        refine nS ?_
        refine tS ?_
        refine tS ?_
        refine tR ?_
        refine sQ (pF0 rfl) rfl ?_
        refine sL (lBs rfl rfl) rfl rfl ?_
        refine sB (pE rfl rfl) rfl rfl (fun h302 => ?_) (fun h302 => ?_)
        ·refine sD ?_
         refine nS ?_
         refine cT rfl ?_
         refine tS ?_
         (have hq13 : k = 13 := (by omega); have hl13 := hk13 hq13; have hjw : j = (wantOf w tsA).length := (by omega); rw [hjw, List.take_length, mCasts_want] at hst2; have hm0 := mCasts_len usA tsA w lA; obtain ⟨hE1, hE2⟩ := hst2.at2 (i := 0) (by omega) (by omega); have hE3 := hE2.len; have hE4 := hE2.one; refine tri_draw mixed rfl ?_)
         refine any_pure (i := 0) (l' := [tt,ff,ff,ff,ff,ff,ff,ff,ff]) rfl npI (pF0 rfl) rfl (by kernel_rfl) rfl rfl ?_
         refine aL 1 rfl (lBs rfl rfl) rfl ?_
         refine aP 2 rfl (pIN (j := 0) rfl rfl rfl (by omega)) rfl ?_
         refine aL 3 rfl (load_a rfl rfl (at_elem (es := es2) (by repeat first | exact mH | apply mT) (by omega) hall2) hE3) rfl ?_
         refine aL 4 rfl (lBa rfl rfl) rfl ?_
         refine aP 5 rfl (pM rfl) rfl ?_
         refine aO' 6 ?_
         refine oS rfl rfl rfl rfl hE3 hE4 rfl rfl ?_ (hu := by exact upd_all hE3.symm)
         refine aO' 7 ?_
         refine oS rfl rfl rfl rfl rfl rfl rfl rfl ?_
         refine aP 8 rfl (pA rfl) rfl ?_
         refine aD' ?_
         refine nS ?_
         (refine tri_freezes (bs := [(bc, es2.flatten ++ C)]) (Pk.perm (by repeat (first | exact Pk.here | apply Pk.there))) (fun hn9 hd9 hle9 => ?_))
         refine tT ?_
         refine rS ?_
         refine rF3 (rC rfl (load_a rfl rfl (at_blk_all (by repeat first | exact mH | apply mT)) hE3)) (rC rfl (lBa rfl rfl)) (rT rfl) ?_
         (rw [if_pos hq13, getD0 (by omega)] at hu0; subst hu0; rw [hjw, List.take_length, mCasts_want]; exact ⟨rfl, _, _, rfl, hE2.mono hle9, hmr.mono hle9⟩)
        ·refine sD ?_
         refine nS ?_
         refine cF rfl ?_
         refine tK ?_
         refine nS ?_
         refine tS ?_
         refine tri_draw mixed rfl ?_
         refine any_load (i := 0) (l' := [tt,ff,ff,ff,ff,ff]) rfl npI (lBa rfl rfl) rfl (by kernel_rfl) rfl rfl ?_
         refine aL 1 rfl (lBa rfl rfl) rfl ?_
         refine aP 2 rfl (pM rfl) rfl ?_
         refine aO' 3 ?_
         refine oS rfl rfl rfl rfl rfl rfl rfl rfl ?_
         refine aO' 4 ?_
         refine oS rfl rfl rfl rfl rfl rfl rfl rfl ?_
         refine aP 5 rfl (pA rfl) rfl ?_
         refine aD' ?_
         refine nS ?_
         (refine tri_freezes (bs := [(bc, es2.flatten ++ C)]) (Pk.perm (by repeat (first | exact Pk.here | apply Pk.there))) (fun hn9 hd9 hle9 => ?_))
         refine tT ?_
         refine rF3 (rC rfl (lBa rfl rfl)) (rC rfl (lBa rfl rfl)) (rT rfl) ?_
         (have hjw : j = (wantOf w tsA).length := (by omega); rw [hjw, List.take_length, mCasts_want] at hst2; have hst9 := hst2.mono hle9; have hm0 := mCasts_len usA tsA w lA; rw [if_neg (by omega)] at hu0; subst hu0; rw [hjw, List.take_length, mCasts_want]; exact ⟨rfl, _, _, rfl, RTm.put hk hnum hlb (hty1.mono hle9) (hfr1.mono hle9) (by rw [hm0, hlA1]) (SlE.of (Sl.of_blk (A := []) (by rw [flat_len hst9.all, hst9.len, hm0, hlA1]) (by omega) hcm (Wi.in hn9 List.mem_cons_self)) (by rw [hst9.len, hm0, hlA1]) hst9.all (fun e he => (hst9.each e he).2)) hst9, hmr.mono hle9⟩)
theorem sInsertCastsX_fn (e : Tm) (G : IM) (cells : List Value) (hcnt : tmCount e ≤ 4294967296) (hr : RTm G e cells) : Fn Tryz.prog 29 [.agg ⟨cells⟩] [] G (InsX (mInsert e)) := by
 have hl := hr.len
 have hone := hr.one
 refine fn_enter Tryz.func29 rfl Tryz.ntmps29 Tryz.results29 rfl ?_
 intro w0
 refine tS (tR ?_)
 refine sE (step_box_a rfl rfl) rfl (fun b3 => ?_)
 refine sE (step_alloc rfl) rfl (fun b4 => ?_)
 refine sE (step_alloc rfl) rfl (fun b5 => ?_)
 refine sQ (pA rfl) rfl (sD (nS (tS (tR (sL (load_a rfl rfl (at_blk_all (by repeat first | exact mH | apply mT)) (by assumption)) rfl rfl ?_)))))
 focus (refine seq_imm rfl (typeOfX_fn e _ _ (by omega) hr) rfl rfl (fun v G1 hle1 hh => ?_); obtain ⟨mc, mt, rfl, hmr, hmu⟩ := hh; obtain ⟨pt, ct, et, rfl, _⟩ := hmr.open; obtain ⟨r, hI⟩ : ∃ r, mInsert e = r := ⟨_, rfl⟩; rcases r with _ | ⟨u, t⟩; (have hto : mTypeOf e = none := by unfold mTypeOf; rw [hI]); rotate_left; (have hto : mTypeOf e = some t := by unfold mTypeOf; rw [hI]); obtain ⟨hv, l3, hE⟩ := insert_inv hI; obtain ⟨hv1, hv2⟩ := (termValid_iff e).1 hv; rotate_left; all_goals rw [hto]; all_goals simp only [Option.isSome])
 refine sQ (pM rfl) rfl (sQ (pX rfl rfl) rfl (sQ (pX rfl rfl) rfl ?_))
 refine sE (step_alloc rfl) rfl (fun b16 => ?_)
 refine sS' ?_
 refine sQ (pA rfl) rfl (sD (nS (tS (tS (tR (sQ (pM rfl) rfl ?_))))))
 refine sQ (pNf rfl) rfl (sD (nS (cT rfl ?_)))
 refine tS (tR (sQ (pBd rfl rfl) rfl (sQ (pBd rfl rfl) rfl (sS' ?_))))
 refine sS' ?_
 refine sQ (pA rfl) rfl (sD (nS (tT (rS (rF3 (rC rfl (lBa rfl rfl)) (rC rfl (lBa rfl rfl)) (rT rfl) ?_)))))
 (exact InsX.no (by first | exact hI | rfl) (tm0_r _) (tyLeaf_r _ ⟨by omega, by omega⟩))
 refine sQ (pM rfl) rfl (sQ (pX rfl rfl) rfl (sQ (pX rfl rfl) rfl ?_))
 refine sE (step_alloc rfl) rfl (fun b45 => ?_)
 refine sS' ?_
 refine sQ (pA rfl) rfl (sD (nS (tS (tS (tR (sQ (pM rfl) rfl ?_))))))
 refine sQ (pNt rfl) rfl (sD (nS (cF rfl ?_)))
 refine tK (nS (tS (tR (sL (load_a rfl rfl (at_blk_all (by repeat first | exact mH | apply mT)) (by assumption)) rfl rfl ?_))))
 (have hIn := l4InsertX_fn e 1 [] 0 u t l3 G1 none 0 0 cells hE hv1 (by omega) cxV_nil (RCx.nil _) (hr.mono hle1) (by omega) (by omega); refine seq_imm rfl hIn rfl rfl (fun v G2 hle2 hh => ?_); obtain ⟨cu, tc, rfl, hru, hrt⟩ := hh; obtain ⟨qt, dt, et2, rfl, _⟩ := hrt.open; have hlu := hru.len; have hou := hru.one)
 refine sQ (pM rfl) rfl (sQ (pX rfl rfl) rfl (sQ (pX rfl rfl) rfl (sQ (pX rfl rfl) rfl ?_)))
 refine sE (step_alloc rfl) rfl (fun b68 => ?_)
 refine sE (step_alloc rfl) rfl (fun b69 => ?_)
 refine seq_store rfl rfl rfl hlu hou rfl (by repeat first | exact Sw.here | apply Sw.there) (by exact upd_all (by first | exact hlu.symm | omega)) ?_
 refine sS' ?_
 refine sQ (pA rfl) rfl (sD (nS (tS (tri_draw mixed rfl ?_))))
 refine any_load (i := 0) (l' := [tt,ff,ff,ff,ff]) rfl npI (load_a rfl rfl (at_blk_all (by repeat first | exact mH | apply mT)) hlu) rfl (by kernel_rfl) rfl rfl ?_
 refine aL 1 rfl (lBa rfl rfl) rfl ?_
 refine aO' 2 ?_
 refine oS rfl rfl rfl rfl hlu hou rfl rfl ?_ (hu := by exact upd_all hlu.symm)
 refine aO' 3 ?_
 refine oS rfl rfl rfl rfl rfl rfl rfl rfl ?_
 refine aP 4 rfl (pA rfl) rfl ?_
 refine aD' ?_
 refine nS (tT (rF3 (rC rfl (load_a rfl rfl (at_blk_all (by repeat first | exact mH | apply mT)) hlu)) (rC rfl (lBa rfl rfl)) (rT rfl) ?_))
 (exact InsX.yes (by first | exact hI | rfl) hru hrt)
inductive MV where
 | mk (k num : Int) (env parts : List MV)
def MV.k : MV → Int | .mk k _ _ _ => k
def MV.num : MV → Int | .mk _ n _ _ => n
def MV.env : MV → List MV | .mk _ _ e _ => e
def MV.parts : MV → List MV | .mk _ _ _ p => p
def mv0 : MV := .mk 0 0 [] []
/- How it lies in memory; kc says how a kind is written. -/
mutual
def RMv (kc : Int → Int) (G : IM) : MV → List Value → Prop
 | .mk k num env parts, cells => ∃ p c es q d fs, cells = [.int .i64 (kc k), .int .i64 num, .slice p env.length c, .slice q parts.length d] ∧ I64 num ∧ I64 (kc k) ∧ SlE G p env.length c 4 es ∧ RMvL kc G env es ∧ SlE G q parts.length d 4 fs ∧ RMvL kc G parts fs
def RMvL (kc : Int → Int) (G : IM) : List MV → List (List Value) → Prop
 | [], es => es = []
 | t :: ts, es => ∃ a r, es = a :: r ∧ RMv kc G t a ∧ RMvL kc G ts r
end
section
variable {kc : Int → Int} {G : IM}
end

/- Where to go back to, and with what environment. -/
def RFr (kc : Int → Int) (G : IM) (f : Int × List MV) (cells : List Value) : Prop := ∃ p c es, cells = [.int .i64 f.1, .slice p f.2.length c] ∧ I64 f.1 ∧ SlE G p f.2.length c 4 es ∧ RMvL kc G f.2 es
def RFrL (kc : Int → Int) (G : IM) : List (Int × List MV) → List (List Value) → Prop
 | [], es => es = []
 | t :: ts, es => ∃ a r, es = a :: r ∧ RFr kc G t a ∧ RFrL kc G ts r
section
variable {kc : Int → Int} {G : IM}
end

/-- A state: what runs next, the stack, the environment, where to go back to. -/
structure MSt where
 at' : Int
 st : List MV
 env : List MV
 fr : List (Int × List MV)
/-- A state in memory that no longer changes. -/
def RSs (kc : Int → Int) (G : IM) (s : MSt) (cells : List Value) : Prop := ∃ pe ce ps cs pf cf ee es ef, cells = [.int .i64 s.at', .slice pe s.env.length ce, .slice ps s.st.length cs, .slice pf s.fr.length cf] ∧ I64 s.at' ∧
 SlE G pe s.env.length ce 4 ee ∧ RMvL kc G s.env ee ∧ SlE G ps s.st.length cs 4 es ∧ RMvL kc G s.st es ∧ SlE G pf s.fr.length cf 2 ef ∧ RFrL kc G s.fr ef
def mPops (k : Int) : Nat := if k = 6 ∨ k = 7 ∨ k = 8 ∨ k = 11 then 2 else if k = 9 ∨ k = 12 ∨ k = 13 then 1 else 0
/-- The kind that is wanted, of how many, and the error of another one. -/
def mWant (k : Int) : Int × Nat × Int := if k = 6 then (2, 1, 1) else if k = 7 ∨ k = 8 then (0, 2, 2) else if k = 9 then (1, 1, 3) else if k = 12 ∨ k = 13 then (3, 1, 4) else (0, 0, 0)
def mPush (s : MSt) (v : MV) : MSt := { s with st := s.st ++ [v] }
/-- What an instruction does, once its operands v are popped and at' is past it. -/
def mGo (k a : Int) (s : MSt) (v : List MV) : MSt ⊕ (Int × Int) :=
 if k = 1 then .inl (mPush s (.mk 0 a [] []))
 else if k = 2 then .inl (mPush s (.mk 1 a [] []))
 else if k = 3 then (if (s.env.length : Int) - 1 - a < 0 then .inr (3, 0) else .inl (mPush s (s.env.getD ((s.env.length : Int) - 1 - a).toNat mv0)))
 else if k = 4 then .inl { mPush s (.mk 2 s.at' s.env []) with at' := s.at' + a }
 else if k = 5 then (if s.fr.length = 0 then .inr (3, 0) else .inl { s with at' := (s.fr.getD (s.fr.length - 1) (0, [])).1, env := (s.fr.getD (s.fr.length - 1) (0, [])).2, fr := s.fr.take (s.fr.length - 1) })
 else if k = 6 then .inl { s with at' := (v.getD 0 mv0).num, env := (v.getD 0 mv0).env ++ [v.getD 1 mv0], fr := s.fr ++ [(s.at', s.env)] }
 else if k = 7 then .inl (mPush s (.mk 0 (((v.getD 0 mv0).num + (v.getD 1 mv0).num) % 1000) [] []))
 else if k = 8 then .inl (mPush s (.mk 1 (if (v.getD 0 mv0).num < (v.getD 1 mv0).num then 1 else 0) [] []))
 else if k = 9 then .inl (if (v.getD 0 mv0).num = 0 then { s with at' := s.at' + a } else s)
 else if k = 10 then .inl { s with at' := s.at' + a }
 else if k = 11 then .inl (mPush s (.mk 3 0 [] v))
 else .inl (mPush s ((v.getD 0 mv0).parts.getD (k - 12).toNat mv0))
def mKinds (k : Int) (v : List MV) : Bool := (v.take (mWant k).2.1).all fun u => decide (u.k = (mWant k).1)
/-- An instruction of kind k with the number a: the next state, or a code and an error. -/
def mStep (k a : Int) (s : MSt) : MSt ⊕ (Int × Int) :=
 if s.st.length < mPops k then .inr (3, 0)
 else if mKinds k (s.st.drop (s.st.length - mPops k)) = true then mGo k a { s with at' := s.at' + 1, st := s.st.take (s.st.length - mPops k) } (s.st.drop (s.st.length - mPops k))
 else .inr (2, (mWant k).2.2)
/-- A number as it is written. -/
def mvText (v : MV) : ByteArray := if v.k = 0 then ⟨(Lib.decDigits v.num.toNat).toArray⟩ else if v.k = 1 then (if v.num = 0 then ⟨#[70]⟩ else ⟨#[84]⟩) else if v.k = 2 then ⟨⟨[102, 117, 110, 99, 116, 105, 111, 110]⟩⟩ else ⟨⟨[112, 97, 105, 114]⟩⟩
def mEnd (s : MSt) : ByteArray × Int × Int := if s.st.length ≠ 1 ∨ 0 < s.fr.length then (⟨#[]⟩, 3, 0) else (mvText (s.st.getD 0 mv0), 0, 0)
/-- The run of a code from a state, so many instructions long at most. -/
def mRun (ops : List (Int × Int)) : Nat → MSt → ByteArray × Int × Int
 | t, s => if (ops.length : Int) ≤ s.at' then mEnd s else match t with
  | 0 => (⟨#[]⟩, 5, 0)
  | t + 1 => match mStep (ops.getD s.at'.toNat (0, 0)).1 (ops.getD s.at'.toNat (0, 0)).2 s with
   | .inl s' => mRun ops t s'
   | .inr (c, e) => (⟨#[]⟩, c, e)
def mMost (k behind : Int) : Int := if k = 1 then 999 else if k = 2 then 1 else if k = 3 then 11 else if k = 4 ∨ k = 9 ∨ k = 10 then behind else 0
def mOpOk (n : Nat) (i : Nat) (x : Int × Int) : Bool := decide (1 ≤ x.1 ∧ x.1 ≤ 13 ∧ 0 ≤ x.2 ∧ x.2 ≤ mMost x.1 ((n : Int) - 1 - i))
def mOpsOk (ops : List (Int × Int)) : Bool := decide (1 ≤ ops.length ∧ ops.length ≤ 120) && (List.range ops.length).all fun i => mOpOk ops.length i (ops.getD i (0, 0))
def mRunOps (ops : List (Int × Int)) (ticks : Int) : ByteArray × Int × Int :=
 if mOpsOk ops = true ∧ 0 ≤ ticks ∧ ticks ≤ 2000 then mRun ops ticks.toNat ⟨0, [], [], []⟩ else (⟨#[]⟩, 3, 0)
theorem str_one (k : Nat) : strOfNums [dgi k] = (⟨[UInt8.ofNat (48 + k % 10)].toArray⟩ : ByteArray) := by
 have : (dgi k).toNat = 48 + k % 10 := by unfold dgi; omega
 simp [strOfNums, this]
theorem bytes_app (a b : List UInt8) : (⟨a.toArray⟩ : ByteArray) ++ ⟨b.toArray⟩ = ⟨(a ++ b).toArray⟩ := by
 apply ByteArray.ext; simp
theorem dec_go {k : Nat} {out : ByteArray} (h : 9 < k) : (⟨(Lib.decDigits (k / 10)).toArray⟩ : ByteArray) ++ (strOfNums [dgi k] ++ out) = ⟨(Lib.decDigits k).toArray⟩ ++ out := by
 have e : (⟨(Lib.decDigits k).toArray⟩ : ByteArray) = ⟨(Lib.decDigits (k / 10)).toArray⟩ ++ ⟨[UInt8.ofNat (48 + k % 10)].toArray⟩ := by
  rw [bytes_app (Lib.decDigits (k / 10))]
  congr 2
  rw [Lib.decDigits, dif_neg (by omega)]
 rw [e, str_one, ByteArray.append_assoc]
theorem dec_end {k : Nat} {out : ByteArray} (h : ¬9 < k) : strOfNums [dgi k] ++ out = ⟨(Lib.decDigits k).toArray⟩ ++ out := by
 rw [str_one, Lib.decDigits, dif_pos (by omega), Nat.mod_eq_of_lt (by omega)]
theorem dgi_small {k : Nat} (h : ¬9 < k) : dgi k = 48 + (k : Int) := by unfold dgi; omega
theorem dec_fn (k : Nat) (hk : k < 10000) (G : IM) : Fn Tryz.prog 68 [.int .i64 (k : Int)] [] G (Val (.string ⟨(Lib.decDigits k).toArray⟩) G) := by
 refine fn_enter Tryz.func68 rfl Tryz.ntmps68 Tryz.results68 rfl ?_
 intro w0
 refine tS (tR (sQ (pA rfl) rfl (sD (nS (tS (tS ?_))))))
 refine tR (sQ (pM rfl) rfl (sP (pure_lss_f rfl rfl (by omega)) rfl rfl ?_))
 refine sD (nS (cF rfl ?_))
 refine tK (nS (tS (tS (tR (sQ (pM rfl) rfl (sP (pure_lss_f rfl rfl (by omega)) rfl rfl ?_))))))
 refine sD (nS (cF rfl ?_))
 refine tK (nS (tS (tR (sQ (pA rfl) rfl (sD (nS ?_))))))
 refine tS (tri_block (tri_loopN (fun (x : Nat × ByteArray) => ⟨[(0, .int .i64 (x.1 : Int)), (2, .string ⟨#[]⟩), (3, .string x.2)], [], G⟩) (fun x => x.1 < 10000 ∧ x.1 + x.2.size < 10020 ∧ (⟨(Lib.decDigits x.1).toArray⟩ : ByteArray) ++ x.2 = ⟨(Lib.decDigits k).toArray⟩) (fun x => x.1) (k, ⟨#[]⟩) ?_ ?_ ?_))
 (simp only [flat_snoc]; exact sMk)
 (dsimp only; exact ⟨hk, by have : (⟨#[]⟩ : ByteArray).size = 0 := rfl; omega, ByteArray.append_empty⟩)
 (rintro ⟨j, out⟩ ⟨hj, hsz, hd⟩; simp only [] at hj hsz hd ⊢)
 refine tS (tS (tR (sQ (pM rfl) rfl (sB (pure_gtr rfl rfl) rfl rfl (fun h41 => ?_) (fun h41 => ?_)))))
 refine sD (nS (cT rfl ?_))
 refine tK (nS (tri_block (tS (tR (sQ (pM rfl) rfl (sP (pure_rem_nat (n := 10) rfl rfl (by omega)) rfl rfl ?_))))))
 refine sP (pure_add rfl rfl (by omega) (by omega)) rfl rfl ?_
 refine sP (pure_conv_u8 rfl rfl rfl (by omega) (by omega)) rfl rfl ?_
 (refine seq_step (step_buildSlice rfl rfl rfl (by omega) (by unfold maxLen; omega) rfl) rfl ?_; rintro _ ⟨b54, rfl⟩)
 refine sL (load_conv_str (xs := [dgi j]) rfl rfl rfl rfl rfl (at_slc_all (by repeat first | exact mH | apply mT))) rfl rfl ?_
 refine sQ (pM rfl) rfl ?_
 (have hs1 := strOfNums_size [dgi j]; have hs2 : [dgi j].length = 1 := rfl; refine sP (pure_cat rfl rfl (by omega)) rfl rfl ?_)
 refine sQ (pA rfl) rfl (sD (nS (tR (sQ (pM rfl) rfl (sP (pure_quo_nat (n := 10) rfl rfl (by omega) (by omega)) rfl rfl ?_)))))
 refine sQ (pA rfl) rfl (sD (nrm_block (nrm_loopN (j / 10, strOfNums [dgi j] ++ out) ?_ ?_ ?_)))
 (simp only [flat_snoc]; exact sMk)
 (dsimp only; exact ⟨by omega, by (rw [ByteArray.size_append]; omega), by rw [← hd]; exact dec_go (by omega)⟩)
 (show j / 10 < j; omega)
 refine sD (nS (cF rfl ?_))
 refine tri_exit ?_
 refine ext_seq ?_
 refine ext_loopN ?_
 refine ext_block_eq ?_
 refine nS (tS (tR (sQ (pM rfl) rfl (sP (pure_add rfl rfl (by omega) (by omega)) rfl rfl ?_))))
 refine sP (pure_conv_u8 rfl rfl rfl (by omega) (by omega)) rfl rfl ?_
 (refine seq_step (step_buildSlice rfl rfl rfl (by omega) (by unfold maxLen; omega) rfl) rfl ?_; rintro _ ⟨b84, rfl⟩)
 (have hs9 := dgi_small (k := j) (by omega); refine sL (load_conv_str (xs := [48 + (j : Int)]) rfl rfl rfl rfl rfl (at_slc_all (by repeat first | exact mH | apply mT))) rfl rfl ?_; rw [← hs9])
 refine sQ (pM rfl) rfl ?_
 (have hs1 := strOfNums_size [dgi j]; have hs2 : [dgi j].length = 1 := rfl; refine sP (pure_cat rfl rfl (by omega)) rfl rfl ?_)
 refine sQ (pA rfl) rfl (sD (nS (tT (rF1 (rT rfl) ?_))))
 exact ⟨rfl, by rw [dec_end (by omega), hd], rfl⟩
def txPair : ByteArray := ⟨⟨[112, 97, 105, 114]⟩⟩
def txFun : ByteArray := ⟨⟨[102, 117, 110, 99, 116, 105, 111, 110]⟩⟩
def txT : ByteArray := ⟨⟨[84]⟩⟩
def txF : ByteArray := ⟨⟨[70]⟩⟩
def txNum (n : Int) : ByteArray := ⟨(Lib.decDigits n.toNat).toArray⟩
/-- The text of a number or a truth value. -/
def mLeaf (k num : Int) : ByteArray := if k = 2 then txNum num else if k = 3 then txT else txF
mutual
/-- What can be observed of a value. -/
def mVText : Tm → ByteArray
 | .mk k nm num ty fr lb ks => if k = 10 ∨ (prx (.mk k nm num ty fr lb []) = true ∧ ty.k = 5) then txPair else if k = 5 ∨ prx (.mk k nm num ty fr lb []) = true then txFun else if k = 14 then mVTextL ks else mLeaf k num
def mVTextL : List Tm → ByteArray
 | [] => ⟨⟨[]⟩⟩
 | t :: _ => mVText t
end
theorem textLeaf_fn (k : Int) (nm : ByteArray) (num : Int) (ty fr : Ty) (lb : Int) (ks : List Tm) (G : IM) (cells : List Value) (hT : TabG G) (hk3 : k = 2 ∨ k = 3 ∨ k = 4) (hn : 0 ≤ num ∧ num ≤ 999) (hr : RTm G (.mk k nm num ty fr lb ks) cells) : Fn Tryz.prog 81 [.agg ⟨cells⟩] [] G (Val (.string (mLeaf k num)) G) := by
 obtain ⟨tk, tks⟩ := ty
 obtain ⟨fk, fks⟩ := fr
 obtain ⟨pt, ct, pf, cf, p, c, es, rfl, hk, hnum, hlb, hty, hfr, hsl, hkl⟩ := hr.open9
 have hI := itoa_fn num G hT hn.1 hn.2
 refine fn_enter Tryz.func81 rfl Tryz.ntmps81 Tryz.results81 rfl ?_
 intro w0
 refine tS (tR ?_)
 refine sE (step_box_a rfl rfl) rfl (fun b3 => ?_)
 refine sQ (pA rfl) rfl (sD (nS (tS (tR (sQ (pure_makeFunc rfl rfl) rfl (sQ (pA rfl) rfl ?_))))))
 refine sD (nS (tS (tS (tR (sQ (pF0 rfl) rfl (sL (lBs rfl rfl) rfl rfl ?_))))))
 refine sD (nS (tri_block (tS (tR (sP (pure_eql_f rfl rfl (by omega)) rfl rfl ?_)))))
 refine sQ (pA rfl) rfl (sD (nS (cF rfl ?_)))
 refine tS (tR (sB (pE rfl rfl) rfl rfl (fun h30 => ?_) (fun h30 => ?_)))
 refine sQ (pA rfl) rfl (sD (nS (cT rfl ?_)))
 refine tS (tR (sQ (pF0 rfl) rfl (sL (lBs rfl rfl) rfl rfl ?_)))
 refine seq_val rfl (hI) rfl rfl ?_
 refine sQ (pA rfl) rfl (sD (nS (tT (rB (rS (rF1 (rT rfl) ?_))))))
 (exact ⟨rfl, by unfold mLeaf; rw [if_pos (by omega)]; rfl, rfl⟩)
 refine sQ (pA rfl) rfl (sD (nS (cF rfl ?_)))
 refine tS (tR (sB (pE rfl rfl) rfl rfl (fun h54 => ?_) (fun h54 => ?_)))
 refine sQ (pA rfl) rfl (sD (nS (cT rfl ?_)))
 refine tS (tR (sQ (pA rfl) rfl (sD (nS (tT (rB ?_))))))
 refine rS (rF1 (rT rfl) ?_)
 (exact ⟨rfl, by unfold mLeaf; rw [if_neg (by omega), if_pos (by omega)]; rfl, rfl⟩)
 refine sQ (pA rfl) rfl (sD (nS (cF rfl ?_)))
 refine tS (tR (sP (pure_eql_t rfl rfl (by omega)) rfl rfl ?_))
 refine sQ (pA rfl) rfl (sD (nS (cT rfl ?_)))
 refine tS (tR (sQ (pA rfl) rfl (sD (nS (tT (rB ?_))))))
 refine rS (rF1 (rT rfl) ?_)
 (exact ⟨rfl, by unfold mLeaf; rw [if_neg (by omega), if_neg (by omega)]; rfl, rfl⟩)
section
variable {k : Int} {nm : ByteArray} {num : Int} {ty fr : Ty} {lb : Int} {ks : List Tm}
theorem vt_pair (h : k = 10 ∨ (prx (.mk k nm num ty fr lb ks) = true ∧ ty.k = 5)) : mVText (.mk k nm num ty fr lb ks) = txPair := by
 rw [mVText]
 exact if_pos h
theorem vt_fun (h : ¬(k = 10 ∨ (prx (.mk k nm num ty fr lb ks) = true ∧ ty.k = 5))) (h2 : k = 5 ∨ prx (.mk k nm num ty fr lb ks) = true) : mVText (.mk k nm num ty fr lb ks) = txFun := by
 rw [mVText]
 exact (if_neg h).trans (if_pos h2)
theorem vt_cast (h : prx (.mk k nm num ty fr lb ks) = false) (hk : k = 14) (h0 : 0 < ks.length) : mVText (.mk k nm num ty fr lb ks) = mVText ks[0] := by
 rw [mVText, if_neg (by rintro (h1 | h1); omega; exact Bool.noConfusion (h1.1.symm.trans h)), if_neg (by rintro (h1 | h1); omega; exact Bool.noConfusion (h1.symm.trans h)), if_pos hk]
 cases ks with
 | nil => simp at h0
 | cons t ts => rfl
theorem vt_leaf (h : prx (.mk k nm num ty fr lb ks) = false) (hk : k ≠ 14) (h10 : k ≠ 10) (h5 : k ≠ 5) : mVText (.mk k nm num ty fr lb ks) = mLeaf k num := by
 rw [mVText, if_neg (by rintro (h1 | h1); omega; exact Bool.noConfusion (h1.1.symm.trans h)), if_neg (by rintro (h1 | h1); omega; exact Bool.noConfusion (h1.symm.trans h)), if_neg hk]
end
theorem valueText_fn : ∀ (t : Tm) (G : IM) (cells : List Value), TabG G → cv t → mVal t = true → RTm G t cells → Fn Tryz.prog 49 [.agg ⟨cells⟩] [] G (Val (.string (mVText t)) G) := by
 refine Tm.ind fun k nm num ty fr lb ks ih G cells hT hc hv hr => ?_
 have hr0 := hr
 have hP := isProxy_fn _ G _ hr
 obtain ⟨hN, hkk⟩ := hc.node
 have hop := hN.ops
 have h14 : k = 14 → ks.length = 1 := fun h => by rw [h] at hop; have : tmOps 14 = 1 := rfl; omega
 have hL := fun h => textLeaf_fn k nm num ty fr lb ks G cells hT h hN.num0 hr
 have hvp := @vt_pair k nm num ty fr lb ks
 have hvf := @vt_fun k nm num ty fr lb ks
 have hvc := @vt_cast k nm num ty fr lb ks
 have hvl := @vt_leaf k nm num ty fr lb ks
 have hvn := @val_no k nm num ty fr lb ks
 have hvy := @val_yes k nm num ty fr lb ks
 have hprx := prx_mk k nm num ty fr lb ks
 have hinj := inj_mk k nm num ty fr lb ks
 have hleaf : prx (.mk k nm num ty fr lb ks) = false → k ≠ 14 → k ≠ 10 → k ≠ 5 → k = 2 ∨ k = 3 ∨ k = 4 := by
  intro h1 h2 h3 h4
  have := hvn h3 h1 (by rw [hinj, decide_eq_false (by omega)]; rfl)
  rw [this] at hv
  have := of_decide_eq_true hv
  omega
 have hkv : prx (.mk k nm num ty fr lb ks) = false → k = 14 → ∀ t ∈ ks, mVal t = true := by
  intro h1 h2 t ht
  cases hi : inj (.mk k nm num ty fr lb ks) with
  | true => have := hvy (.inr (.inr hi)); rw [hv] at this; exact List.all_eq_true.1 this.symm t ht
  | false =>
   have := hvn (by omega) h1 hi
   rw [hv] at this
   have := of_decide_eq_true this.symm
   omega
 generalize hpx : prx (.mk k nm num ty fr lb ks) = bp at *
 obtain ⟨tk, tks⟩ := ty
 obtain ⟨fk, fks⟩ := fr
 obtain ⟨pt, ct, pf, cf, p, c, es, rfl, hk, hnum, hlb, hty, hfr, hsl, hkl⟩ := hr.open9
 refine fn_enter Tryz.func49 rfl Tryz.ntmps49 Tryz.results49 rfl ?_
 intro w0
 refine tS (tR ?_)
 refine sE (step_box_a rfl rfl) rfl (fun b3 => ?_)
 refine sQ (pA rfl) rfl (sD (nS (tS (tri_block (tS (tR ?_))))))
 refine sQ (pF0 rfl) rfl (sL (lBs rfl rfl) rfl rfl ?_)
 refine sB (pE rfl rfl) rfl rfl (fun h13 => ?_) (fun h13 => ?_)
 refine sQ (pM rfl) rfl (sK rfl rfl (sK rfl rfl (sK rfl rfl (sK rfl rfl (sK rfl rfl (sK rfl rfl ?_))))))
 refine sK rfl rfl (sK rfl rfl (sQ (pPt rfl rfl) rfl (sQ (pA rfl) rfl (sD (nS (cT rfl ?_))))))
 refine tS (tR (sQ (pA rfl) rfl (sD (nS (tT (rB ?_))))))
 refine rS (rF1 (rT rfl) ?_)
 (exact ⟨rfl, congrArg Value.string (hvp (by first | exact .inl (by omega) | exact .inr ⟨by assumption, by assumption⟩)).symm, rfl⟩)
 refine sQ (pM rfl) rfl (sL (lBa rfl rfl) rfl rfl ?_)
 refine seq_valb rfl (hP) rfl rfl (fun h40 => ?_) (fun h40 => ?_)
 refine sQ (pM rfl) rfl (sQ (pF0 rfl) rfl (sQ (pF rfl) rfl (sL (lBs rfl rfl) rfl rfl ?_)))
 refine sB (pE rfl rfl) rfl rfl (fun h45 => ?_) (fun h45 => ?_)
 refine sQ (pPt rfl rfl) rfl (sQ (pPf rfl rfl) rfl (sQ (pA rfl) rfl (sD (nS (cT rfl ?_)))))
 refine tS (tR (sQ (pA rfl) rfl (sD (nS (tT (rB ?_))))))
 refine rS (rF1 (rT rfl) ?_)
 (exact ⟨rfl, congrArg Value.string (hvp (by first | exact .inl (by omega) | exact .inr ⟨by assumption, by assumption⟩)).symm, rfl⟩)
 refine sQ (pPt rfl rfl) rfl (sQ (pPf rfl rfl) rfl (sQ (pA rfl) rfl (sD (nS (cF rfl ?_)))))
 refine tS (tR (sQ (pF0 rfl) rfl (sL (lBs rfl rfl) rfl rfl ?_)))
 refine sB (pE rfl rfl) rfl rfl (fun h72 => ?_) (fun h72 => ?_)
 refine sQ (pM rfl) rfl (sK rfl rfl (sK rfl rfl (sQ (pPt rfl rfl) rfl (sQ (pA rfl) rfl (sD (nS ?_))))))
 refine cT rfl ?_
 refine tS (tR (sQ (pA rfl) rfl (sD (nS (tT (rB ?_))))))
 refine rS (rF1 (rT rfl) ?_)
 (exact ⟨rfl, congrArg Value.string (hvf (by rintro (h | ⟨h1, h2⟩) <;> first | omega | exact Bool.noConfusion (h1.symm.trans (show bp = false by assumption)) | (simp only [Ty.k] at h2; omega)) (by first | exact .inl (by omega) | exact .inr (by assumption))).symm, rfl⟩)
 refine sQ (pM rfl) rfl (sL (lBa rfl rfl) rfl rfl ?_)
 refine seq_valb rfl (hP) rfl rfl (fun h93 => ?_) (fun h93 => ?_)
 refine sQ (pPf rfl rfl) rfl (sQ (pA rfl) rfl (sD (nS (cT rfl ?_))))
 refine tS (tR (sQ (pA rfl) rfl (sD (nS (tT (rB ?_))))))
 refine rS (rF1 (rT rfl) ?_)
 (exact ⟨rfl, congrArg Value.string (hvf (by rintro (h | ⟨h1, h2⟩) <;> first | omega | exact Bool.noConfusion (h1.symm.trans (show bp = false by assumption)) | (simp only [Ty.k] at h2; omega)) (by first | exact .inl (by omega) | exact .inr (by assumption))).symm, rfl⟩)
 refine sQ (pPf rfl rfl) rfl (sQ (pA rfl) rfl (sD (nS (cF rfl ?_))))
 refine tS (tR (sQ (pF0 rfl) rfl (sL (lBs rfl rfl) rfl rfl ?_)))
 refine sB (pE rfl rfl) rfl rfl (fun h118 => ?_) (fun h118 => ?_)
 refine sQ (pA rfl) rfl (sD (nS (cT rfl ?_)))
 refine tS (tR (sQ (pF0 rfl) rfl (sL (lBs rfl rfl) rfl rfl ?_)))
 (have hl1 := h14 (by omega); obtain ⟨bx, ox, e, rfl, hl, hat, hre, hgb⟩ := hsl.kidTm hkl (i := 0) (by omega) (by omega); have hih := ih ks[0] (List.getElem_mem (by omega)) G e hT (hkk _ (List.getElem_mem (by omega))) (hkv (by assumption) (by omega) _ (List.getElem_mem (by omega))) hre; refine sP (pIN (j := 0) rfl rfl rfl (by omega)) rfl rfl ?_)
 refine sL (load_a rfl rfl (hat _) hl) rfl rfl ?_
 refine seq_val rfl (hih) rfl rfl ?_
 refine sQ (pA rfl) rfl (sD (nS (tT (rB (rS (rF1 (rT rfl) ?_))))))
 (exfalso; have h1 : bp = true := (by assumption); have h2 : bp = false := (by assumption); rw [h1] at h2; cases h2)
 refine sQ (pA rfl) rfl (sD (nS (cF rfl ?_)))
 refine tK (nrm_block (nS (tS (tR (sL (lBa rfl rfl) rfl rfl ?_)))))
 refine seq_val rfl ((hL (hleaf (by assumption) (by omega) (by omega) (by omega)))) rfl rfl ?_
 refine sQ (pA rfl) rfl (sD (nS (tT (rF1 (rT rfl) ?_))))
 (exfalso; have h1 : bp = true := (by assumption); have h2 : bp = false := (by assumption); rw [h1] at h2; cases h2)
 refine sQ (pM rfl) rfl (sK rfl rfl (sK rfl rfl (sK rfl rfl (sK rfl rfl (sQ (pPf rfl rfl) rfl (sQ (pPf rfl rfl) rfl ?_))))))
 refine sQ (pA rfl) rfl (sD (nS (cF rfl ?_)))
 refine tS (tR (sQ (pF0 rfl) rfl (sL (lBs rfl rfl) rfl rfl ?_)))
 refine sB (pE rfl rfl) rfl rfl (fun h170 => ?_) (fun h170 => ?_)
 refine sQ (pM rfl) rfl (sK rfl rfl (sK rfl rfl (sQ (pPt rfl rfl) rfl (sQ (pA rfl) rfl (sD (nS ?_))))))
 refine cT rfl ?_
 refine tS (tR (sQ (pA rfl) rfl (sD (nS (tT (rB ?_))))))
 refine rS (rF1 (rT rfl) ?_)
 (exact ⟨rfl, congrArg Value.string (hvf (by rintro (h | ⟨h1, h2⟩) <;> first | omega | exact Bool.noConfusion (h1.symm.trans (show bp = false by assumption)) | (simp only [Ty.k] at h2; omega)) (by first | exact .inl (by omega) | exact .inr (by assumption))).symm, rfl⟩)
 refine sQ (pM rfl) rfl (sL (lBa rfl rfl) rfl rfl ?_)
 refine seq_valb rfl (hP) rfl rfl (fun h191 => ?_) (fun h191 => ?_)
 refine sQ (pPf rfl rfl) rfl (sQ (pA rfl) rfl (sD (nS (cT rfl ?_))))
 refine tS (tR (sQ (pA rfl) rfl (sD (nS (tT (rB ?_))))))
 refine rS (rF1 (rT rfl) ?_)
 (exfalso; have h1 : bp = true := (by assumption); have h2 : bp = false := (by assumption); rw [h1] at h2; cases h2)
 refine sQ (pPf rfl rfl) rfl (sQ (pA rfl) rfl (sD (nS (cF rfl ?_))))
 refine tS (tR (sQ (pF0 rfl) rfl (sL (lBs rfl rfl) rfl rfl ?_)))
 refine sB (pE rfl rfl) rfl rfl (fun h216 => ?_) (fun h216 => ?_)
 refine sQ (pA rfl) rfl (sD (nS (cT rfl ?_)))
 refine tS (tR (sQ (pF0 rfl) rfl (sL (lBs rfl rfl) rfl rfl ?_)))
 (have hl1 := h14 (by omega); obtain ⟨bx, ox, e, rfl, hl, hat, hre, hgb⟩ := hsl.kidTm hkl (i := 0) (by omega) (by omega); have hih := ih ks[0] (List.getElem_mem (by omega)) G e hT (hkk _ (List.getElem_mem (by omega))) (hkv (by assumption) (by omega) _ (List.getElem_mem (by omega))) hre; refine sP (pIN (j := 0) rfl rfl rfl (by omega)) rfl rfl ?_)
 refine sL (load_a rfl rfl (hat _) hl) rfl rfl ?_
 refine seq_val rfl (hih) rfl rfl ?_
 refine sQ (pA rfl) rfl (sD (nS (tT (rB (rS (rF1 (rT rfl) ?_))))))
 (exact ⟨rfl, congrArg Value.string (hvc (by assumption) (by omega) (by omega)).symm, rfl⟩)
 refine sQ (pA rfl) rfl (sD (nS (cF rfl ?_)))
 refine tK (nrm_block (nS (tS (tR (sL (lBa rfl rfl) rfl rfl ?_)))))
 refine seq_val rfl ((hL (hleaf (by assumption) (by omega) (by omega) (by omega)))) rfl rfl ?_
 refine sQ (pA rfl) rfl (sD (nS (tT (rF1 (rT rfl) ?_))))
 (exact ⟨rfl, congrArg Value.string (hvl (by assumption) (by omega) (by omega) (by omega)).symm, rfl⟩)
/-- What a run gives: a text, a code, a label. -/
def mRunTerm (e : Tm) (fuel : Int) : ByteArray × Int × Int := match mInsert e with
 | none => (⟨⟨[]⟩⟩, 3, 0)
 | some (u, _) => if (mEvalCast u fuel).2.1 = 0 then (mVText (mEvalCast u fuel).1, 0, 0) else (⟨⟨[]⟩⟩, (mEvalCast u fuel).2.1, (mEvalCast u fuel).2.2)
def RunX (r : ByteArray × Int × Int) (G : IM) : IM → Value → List Ent → Prop := Imm fun _ v => v = .tuple ⟨[.string r.1, .int .i64 r.2.1, .int .i64 r.2.2]⟩
theorem runTerm_no {e : Tm} {fuel : Int} (h : mInsert e = none) : mRunTerm e fuel = (⟨⟨[]⟩⟩, 3, 0) := by unfold mRunTerm; rw [h]
theorem runTerm_v {e u : Tm} {t : Ty} {fuel : Int} (h : mInsert e = some (u, t)) (h0 : (mEvalCast u fuel).2.1 = 0) : mRunTerm e fuel = (mVText (mEvalCast u fuel).1, 0, 0) := by unfold mRunTerm; rw [h]; simp only [h0, if_true]
theorem runTerm_n {e u : Tm} {t : Ty} {fuel : Int} (h : mInsert e = some (u, t)) (h0 : (mEvalCast u fuel).2.1 ≠ 0) : mRunTerm e fuel = (⟨⟨[]⟩⟩, (mEvalCast u fuel).2.1, (mEvalCast u fuel).2.2) := by unfold mRunTerm; rw [h]; simp only [if_neg h0]
theorem evR_val : ∀ (n : Nat) (e : Tm), (mEvR n e).2.1 = 0 → castValid (mEvR n e).1 = true ∧ mVal (mEvR n e).1 = true ∧ (mEvR n e).2.2.1 = 0
 | 0, e, h => by rw [evR_0] at h ⊢; exact stepv e h
 | n + 1, e, h => by
  by_cases h1 : (mStepCast e).2.1 = 1
  ·rw [evR_p h1] at h ⊢; exact evR_val n _ h
  ·rw [evR_n h1] at h ⊢; exact stepv e h
where
 stepv (e : Tm) (h : (mStepCast e).2.1 = 0) : castValid (mStepCast e).1 = true ∧ mVal (mStepCast e).1 = true ∧ (mStepCast e).2.2 = 0 := by
  cases h1 : castValid e with
  | false => rw [stepCast_1 h1] at h; simp at h
  | true =>
   cases h2 : mVal e with
   | true => rw [stepCast_2 h1 h2]; exact ⟨h1, h2, rfl⟩
   | false =>
    by_cases h3 : (mStp e).2.1 = 1
    ·cases h4 : castValid (mStp e).1 with
     | false => rw [stepCast_4 h1 h2 h3 h4] at h; simp at h
     | true => rw [stepCast_5 h1 h2 h3 h4] at h; simp at h
    ·rw [stepCast_3 h1 h2 h3] at h
     exact absurd h (stp_ne0 e)
 stp_ne0 : ∀ (e : Tm), (mStp e).2.1 ≠ 0 := by
  refine Tm.ind fun k nm num ty fr lb ks ih => ?_
  rw [mStp]
  cases hL : mStpL (if k = 9 then 1 else ks.length) ks with
  | none => exact red_ne0 k ty fr lb ks
  | some p =>
   obtain ⟨us, c, l⟩ := p
   have := stpL_ne0 ks ih _ us c l hL
   simp only
   by_cases hc : c = 1
   ·rw [if_pos hc]; simp
   ·rw [if_neg hc]; exact this
 red_ne0 (k : Int) (ty fr : Ty) (lb : Int) (ks : List Tm) : (mRed k ty fr lb ks).2.1 ≠ 0 := by
  unfold mRed stuck
  repeat' split
  all_goals simp
 stpL_ne0 (ks : List Tm) (ih : ∀ t ∈ ks, (mStp t).2.1 ≠ 0) : ∀ (n : Nat) us c l, mStpL n ks = some (us, c, l) → c ≠ 0 := by
  induction ks with
  | nil => intro n us c l h; cases n <;> simp [mStpL] at h
  | cons t ts iht =>
   intro n us c l h
   cases n with
   | zero => simp [mStpL] at h
   | succ n =>
    rw [stpL_cons] at h
    by_cases hv : mVal t = true
    ·rw [if_pos hv] at h
     split at h
     ·rename_i us' c' l' h'
      simp only [Option.some.injEq, Prod.mk.injEq] at h
      obtain ⟨_, rfl, _⟩ := h
      exact iht (fun u hu => ih u (List.mem_cons_of_mem _ hu)) n _ _ _ h'
     ·cases h
    ·rw [if_neg hv] at h
     simp only [Option.some.injEq, Prod.mk.injEq] at h
     obtain ⟨_, rfl, _⟩ := h
     exact ih t List.mem_cons_self
theorem evalCast_val {e : Tm} {fuel : Int} (h : (mEvalCast e fuel).2.1 = 0) : castValid (mEvalCast e fuel).1 = true ∧ mVal (mEvalCast e fuel).1 = true ∧ (mEvalCast e fuel).2.2 = 0 := by
 cases hf : withinB fuel 0 300 with
 | false => rw [evalCast_no hf] at h; simp at h
 | true =>
  by_cases h1 : (mEvR fuel.toNat e).2.1 = 1
  ·rw [evalCast_much hf h1] at h; simp at h
  ·rw [evalCast_end hf h1] at h ⊢; exact evR_val _ _ h
theorem runTerm_fn (e : Tm) (fuel : Int) (G : IM) (cells : List Value) (hT : TabG G) (hr : RTm G e cells) : Fn Tryz.prog 26 [.agg ⟨cells⟩, .int .i64 fuel] [] G (RunX (mRunTerm e fuel) G) := by
 have hRl := hr.len
 have hRo := hr.one
 have hno := @runTerm_no e fuel
 have hyv := fun u t => @runTerm_v e u t fuel
 have hyn := fun u t => @runTerm_n e u t fuel
 refine fn_enter Tryz.func26 rfl Tryz.ntmps26 Tryz.results26 rfl ?_
 intro w0
 refine tS (tR ?_)
 refine sE (step_box_a rfl rfl) rfl (fun b3 => ?_)
 refine sQ (pA rfl) rfl (sQ (pA rfl) rfl (sQ (pA rfl) rfl (sD (nS (tS (tR ?_))))))
 refine sL (load_a rfl rfl (at_blk_all (by repeat first | exact mH | apply mT)) hRl) rfl rfl ?_
 focus (refine seq_imm rfl (insertCastsX_fn e G cells hr) rfl rfl (fun v G1 hle1 hh => ?_); obtain ⟨cu, ct, rfl, hru, hrt⟩ := hh; rcases hI : mInsert e with _ | ⟨u, t⟩; rotate_left; rw [hI] at hru hrt; simp only [Option.getD_some] at hru hrt; rotate_left; rw [hI] at hru hrt; simp only [Option.getD_none] at hru hrt; simp only [Option.isSome]; rotate_left; simp only [Option.isSome]; rotate_left; all_goals (have hul := hru.len; have huo := hru.one; obtain ⟨p3, c3, e3, rfl, _⟩ := hrt.open))
 refine sQ (pM rfl) rfl (sQ (pX rfl rfl) rfl (sQ (pX rfl rfl) rfl (sQ (pX rfl rfl) rfl ?_)))
 refine sE (step_alloc rfl) rfl (fun b17 => ?_)
 refine sE (step_alloc rfl) rfl (fun b18 => ?_)
 refine sS rfl rfl rfl hul huo rfl ?_ (hu := by exact upd_all hul.symm)
 refine sS' ?_
 refine sQ (pA rfl) rfl (sD (nS (tS (tS (tR (sQ (pM rfl) rfl ?_))))))
 refine sQ (pNf rfl) rfl (sD (nS (cT rfl ?_)))
 refine tS (tR (sQ (pA rfl) rfl (sQ (pA rfl) rfl (sQ (pA rfl) rfl (sD (nS ?_))))))
 refine tT (rS (rF3 (rT rfl) (rT rfl) (rT rfl) ?_))
 (exact ⟨rfl, by rw [hno (by first | exact hI | rfl | assumption)]⟩)
 refine sQ (pM rfl) rfl (sQ (pX rfl rfl) rfl (sQ (pX rfl rfl) rfl (sQ (pX rfl rfl) rfl ?_)))
 refine sE (step_alloc rfl) rfl (fun b47 => ?_)
 refine sE (step_alloc rfl) rfl (fun b48 => ?_)
 refine sS rfl rfl rfl hul huo rfl ?_ (hu := by exact upd_all hul.symm)
 refine sS' ?_
 refine sQ (pA rfl) rfl (sD (nS (tS (tS (tR (sQ (pM rfl) rfl ?_))))))
 refine sQ (pNt rfl) rfl (sD (nS (cF rfl ?_)))
 refine tK (nS (tS (tR (sL (load_a rfl rfl (at_blk_all (by repeat first | exact mH | apply mT)) hul) rfl rfl ?_))))
 refine sQ (pM rfl) rfl ?_
 (have hyv := hyv u t hI; have hyn := hyn u t hI; have hev := @evalCast_val u fuel; refine seq_imm rfl (evalCast_fn u fuel G1 cu hru) rfl rfl (fun v G2 hle2 hh => ?_); obtain ⟨wc, hvv, hrw⟩ := hh; have hwl := hrw.len; have hwo := hrw.one; generalize mEvalCast u fuel = r at hvv hrw hyv hyn hev; obtain ⟨w, c, l⟩ := r; simp only at hvv hrw hyv hyn hev; subst hvv)
 refine sQ (pM rfl) rfl (sQ (pX rfl rfl) rfl (sQ (pX rfl rfl) rfl (sQ (pX rfl rfl) rfl ?_)))
 refine sE (step_alloc rfl) rfl (fun b73 => ?_)
 refine sS rfl rfl rfl hwl hwo rfl ?_ (hu := by exact upd_all hwl.symm)
 refine sQ (pA rfl) rfl (sQ (pA rfl) rfl (sD (nS (tS (tS (tR ?_))))))
 refine sQ (pM rfl) rfl (sB (pure_neq rfl rfl) rfl rfl (fun h83 => ?_) (fun h83 => ?_))
 refine sD (nS (cT rfl ?_))
 refine tS (tR (sQ (pM rfl) rfl (sQ (pM rfl) rfl (sQ (pA rfl) rfl (sQ (pA rfl) rfl (sQ (pA rfl) rfl ?_))))))
 refine sD (nS (tT (rS (rF3 (rT rfl) (rT rfl) (rT rfl) ?_))))
 (exact ⟨rfl, by rw [hyn (by omega)]⟩)
 refine sD (nS (cF rfl ?_))
 refine tK (nS (tS (tR (sL (load_a rfl rfl (at_blk_all (by repeat first | exact mH | apply mT)) hwl) rfl rfl ?_))))
 (obtain ⟨he1, he2, he3⟩ := hev (by omega); refine seq_val rfl (valueText_fn w G2 wc (hT.mono (hle1.trans hle2)) (cv_of he1).1 he2 hrw) rfl rfl ?_)
 refine sQ (pM rfl) rfl (sQ (pM rfl) rfl (sQ (pA rfl) rfl (sQ (pA rfl) rfl (sQ (pA rfl) rfl (sD (nS ?_))))))
 refine tT (rF3 (rT rfl) (rT rfl) (rT rfl) ?_)
 (obtain rfl : c = 0 := (by omega); subst he3; exact ⟨rfl, by rw [hyv rfl]⟩)
theorem red_any {k : Int} {ty fr ty' fr' : Ty} {lb lb' : Int} {ks : List Tm} (h : k ≠ 14) : mRed k ty fr lb ks = mRed k ty' fr' lb' ks := by
 unfold mRed
 rw [if_neg h, if_neg h]
theorem l5Reduce_fn (k : Int) (nm : ByteArray) (num : Int) (ty fr : Ty) (lb : Int) (ks : List Tm) (G : IM) (cells : List Value) (h7 : k = 1 ∨ k = 6 ∨ k = 7 ∨ k = 8 ∨ k = 11 ∨ k = 12 ∨ k = 14) (hc : cv (.mk k nm num ty fr lb ks)) (hr : RTm G (.mk k nm num ty fr lb ks) cells) : Fn Tryz.prog 149 [.agg ⟨cells⟩] [] G (StpX (mRed k ty fr lb ks)) := by
 have hr0 := hr
 obtain ⟨hN, hkk⟩ := hc.node
 have hops := hN.ops
 have hL2 : k = 6 ∨ k = 7 ∨ k = 8 → ∃ a b, ks = [a, b] := fun h => ks2 (by
  rcases h with rfl | rfl | rfl
  ·have : tmOps 6 = 2 := rfl; omega
  ·have : tmOps 7 = 2 := rfl; omega
  ·have : tmOps 8 = 2 := rfl; omega)
 have hL1 : k = 11 ∨ k = 12 ∨ k = 14 → ∃ a, ks = [a] := fun h => ks1 (by
  rcases h with rfl | rfl | rfl
  ·have : tmOps 11 = 1 := rfl; omega
  ·have : tmOps 12 = 1 := rfl; omega
  ·have : tmOps 14 = 1 := rfl; omega)
 have hC : k = 14 → Fn Tryz.prog 163 [.agg ⟨cells⟩] [] G (StpX (mRed k ty fr lb ks)) := by
  rintro rfl
  obtain ⟨a, rfl⟩ := hL1 (by omega)
  exact l5Convert_fn a nm num ty fr lb G cells hc hr
 have hA : k = 6 → ∀ a b, ks = [a, b] → mRed k ty fr lb ks = mRed 6 ty0 ty0 0 [a, b] := by rintro rfl a b rfl; exact red_any (by decide)
 have hB : k = 7 ∨ k = 8 → ∀ a b, ks = [a, b] → mRed k ty fr lb ks = mRed k ty0 ty0 0 [a, b] := by rintro h a b rfl; exact red_any (by omega)
 have hD : k = 11 ∨ k = 12 → ∀ a, ks = [a] → mRed k ty fr lb ks = mRed k ty0 ty0 0 [a] := by rintro h a rfl; exact red_any (by omega)
 have hO : k = 1 → mRed k ty fr lb ks = stuck := by rintro rfl; rfl
 generalize mRed k ty fr lb ks = R at hC hA hB hD hO ⊢
 obtain ⟨tk, tks⟩ := ty
 obtain ⟨fk, fks⟩ := fr
 obtain ⟨pt, ct, pf, cf, p, c, es, rfl, hk, hnum, hlb, hty, hfr, hsl, hkl⟩ := hr.open9
 refine fn_enter Tryz.func149 rfl Tryz.ntmps149 Tryz.results149 rfl ?_
 intro w0
 refine tS (tR ?_)
 refine sE (step_box_a rfl rfl) rfl (fun b3 => ?_)
 refine sE (step_alloc rfl) rfl (fun b4 => ?_)
 refine sQ (pA rfl) rfl (sQ (pA rfl) rfl (sD (nS (tS (tS (tR ?_))))))
 refine sQ (pF0 rfl) rfl (sL (lBs rfl rfl) rfl rfl ?_)
 refine sD (nS (tri_block (tS (tR (sB (pE rfl rfl) rfl rfl (fun h19 => ?_) (fun h19 => ?_))))))
 refine sQ (pA rfl) rfl (sD (nS (cT rfl ?_)))
 refine tS ?_
 (have hq : k = 6 := (by assumption); obtain ⟨x, y, hxy⟩ := hL2 (by omega); have hAq := hA hq x y hxy; subst hxy; obtain ⟨bx, ox, e0, rfl, hl0, hat0, hre0, hgb0⟩ := hsl.kidTm hkl (i := 0) (by simp) (by simp); obtain ⟨_, _, e1, hp1, hl1, hat1, hre1, hgb1⟩ := hsl.kidTm hkl (i := 1) (by simp) (by simp); cases hp1; have hF := l5Apply_fn x y G e0 e1 (hkk x (by simp)) (cv_small y (hkk y (by simp))) hre0 hre1; rw [← hAq] at hF; refine tri_draw mixed rfl ?_)
 refine any_pure (i := 0) (l' := [tt,ff,ff,ff,ff,ff,ff,ff,ff,ff,ff,ff,ff,ff,ff]) rfl npI (pF0 rfl) rfl (by kernel_rfl) rfl rfl ?_
 refine aL 1 rfl (lBs rfl rfl) rfl ?_
 refine aP 2 rfl (pIN (j := 0) rfl rfl rfl (by simp)) rfl ?_
 refine aL 3 rfl (load_a rfl rfl (hat0 _) hl0) rfl ?_
 refine aP 4 rfl (pF0 rfl) rfl ?_
 refine aL 5 rfl (lBs rfl rfl) rfl ?_
 refine aP 6 rfl (pIN (j := 1) rfl rfl rfl (by simp)) rfl ?_
 refine aL 7 rfl (load_a rfl rfl (hat1 _) hl1) rfl ?_
 refine aO' 8 ?_
 (refine one_imm rfl rfl hF rfl rfl rfl (fun v G1 hle1 hh => ?_); obtain ⟨wc, rfl, hrw⟩ := hh; have hwl := hrw.len; have hwo := hrw.one)
 refine aP 9 rfl (pX rfl rfl) rfl ?_
 refine aP 10 rfl (pX rfl rfl) rfl ?_
 refine aP 11 rfl (pX rfl rfl) rfl ?_
 refine aO' 12 ?_
 (refine oS rfl rfl rfl rfl hwl hwo rfl rfl ?_ (hu := by exact upd_all hwl.symm))
 refine aP 13 rfl (pA rfl) rfl ?_
 refine aP 14 rfl (pA rfl) rfl ?_
 refine aD' ?_
 refine nS (tT (rB (rS (rF3 (rC rfl (load_a rfl rfl (at_blk_all (by repeat first | exact mH | apply mT)) hwl)) (rT rfl) (rT rfl) ?_))))
 (exact ⟨rfl, _, rfl, hrw⟩)
 refine sQ (pA rfl) rfl (sD (nS (cF rfl ?_)))
 refine tS (tS (tR (sB (pE rfl rfl) rfl rfl (fun h57 => ?_) (fun h57 => ?_))))
 refine sQ (pA rfl) rfl (sD (nS (cT rfl ?_)))
 refine tK (nS (cT rfl ?_))
 refine tS ?_
 (have hq : k = 7 ∨ k = 8 := (by omega); obtain ⟨x, y, hxy⟩ := hL2 (by omega); have hBq := hB hq x y hxy; subst hxy; obtain ⟨bx, ox, e0, rfl, hl0, hat0, hre0, hgb0⟩ := hsl.kidTm hkl (i := 0) (by simp) (by simp); obtain ⟨_, _, e1, hp1, hl1, hat1, hre1, hgb1⟩ := hsl.kidTm hkl (i := 1) (by simp) (by simp); cases hp1; have hF := l5Number_fn k x y G e0 e1 hq (by have := (hkk x (by simp)); cases x; exact this.node.1.num0) (by have := (hkk y (by simp)); cases y; exact this.node.1.num0) hre0 hre1; rw [← hBq] at hF; refine tri_draw mixed rfl ?_)
 refine any_pure (i := 0) (l' := [tt,ff,ff,ff,ff,ff,ff,ff,ff,ff,ff,ff,ff,ff,ff,ff,ff]) rfl npI (pF0 rfl) rfl (by kernel_rfl) rfl rfl ?_
 refine aL 1 rfl (lBs rfl rfl) rfl ?_
 refine aP 2 rfl (pF0 rfl) rfl ?_
 refine aL 3 rfl (lBs rfl rfl) rfl ?_
 refine aP 4 rfl (pIN (j := 0) rfl rfl rfl (by simp)) rfl ?_
 refine aL 5 rfl (load_a rfl rfl (hat0 _) hl0) rfl ?_
 refine aP 6 rfl (pF0 rfl) rfl ?_
 refine aL 7 rfl (lBs rfl rfl) rfl ?_
 refine aP 8 rfl (pIN (j := 1) rfl rfl rfl (by simp)) rfl ?_
 refine aL 9 rfl (load_a rfl rfl (hat1 _) hl1) rfl ?_
 refine aO' 10 ?_
 (refine one_imm rfl rfl hF rfl rfl rfl (fun v G1 hle1 hh => ?_); obtain ⟨wc, rfl, hrw⟩ := hh; have hwl := hrw.len; have hwo := hrw.one)
 refine aP 11 rfl (pX rfl rfl) rfl ?_
 refine aP 12 rfl (pX rfl rfl) rfl ?_
 refine aP 13 rfl (pX rfl rfl) rfl ?_
 refine aO' 14 ?_
 (refine oS rfl rfl rfl rfl hwl hwo rfl rfl ?_ (hu := by exact upd_all hwl.symm))
 refine aP 15 rfl (pA rfl) rfl ?_
 refine aP 16 rfl (pA rfl) rfl ?_
 refine aD' ?_
 refine nS (tT (rB (rS (rF3 (rC rfl (load_a rfl rfl (at_blk_all (by repeat first | exact mH | apply mT)) hwl)) (rT rfl) (rT rfl) ?_))))
 (exact ⟨rfl, _, rfl, hrw⟩)
 refine sQ (pA rfl) rfl (sD (nS (cF rfl ?_)))
 refine tR (sB (pE rfl rfl) rfl rfl (fun h98 => ?_) (fun h98 => ?_))
 refine sQ (pA rfl) rfl (sD (nS (cT rfl ?_)))
 refine tS ?_
 (have hq : k = 7 ∨ k = 8 := (by omega); obtain ⟨x, y, hxy⟩ := hL2 (by omega); have hBq := hB hq x y hxy; subst hxy; obtain ⟨bx, ox, e0, rfl, hl0, hat0, hre0, hgb0⟩ := hsl.kidTm hkl (i := 0) (by simp) (by simp); obtain ⟨_, _, e1, hp1, hl1, hat1, hre1, hgb1⟩ := hsl.kidTm hkl (i := 1) (by simp) (by simp); cases hp1; have hF := l5Number_fn k x y G e0 e1 hq (by have := (hkk x (by simp)); cases x; exact this.node.1.num0) (by have := (hkk y (by simp)); cases y; exact this.node.1.num0) hre0 hre1; rw [← hBq] at hF; refine tri_draw mixed rfl ?_)
 refine any_pure (i := 0) (l' := [tt,ff,ff,ff,ff,ff,ff,ff,ff,ff,ff,ff,ff,ff,ff,ff,ff]) rfl npI (pF0 rfl) rfl (by kernel_rfl) rfl rfl ?_
 refine aL 1 rfl (lBs rfl rfl) rfl ?_
 refine aP 2 rfl (pF0 rfl) rfl ?_
 refine aL 3 rfl (lBs rfl rfl) rfl ?_
 refine aP 4 rfl (pIN (j := 0) rfl rfl rfl (by simp)) rfl ?_
 refine aL 5 rfl (load_a rfl rfl (hat0 _) hl0) rfl ?_
 refine aP 6 rfl (pF0 rfl) rfl ?_
 refine aL 7 rfl (lBs rfl rfl) rfl ?_
 refine aP 8 rfl (pIN (j := 1) rfl rfl rfl (by simp)) rfl ?_
 refine aL 9 rfl (load_a rfl rfl (hat1 _) hl1) rfl ?_
 refine aO' 10 ?_
 (refine one_imm rfl rfl hF rfl rfl rfl (fun v G1 hle1 hh => ?_); obtain ⟨wc, rfl, hrw⟩ := hh; have hwl := hrw.len; have hwo := hrw.one)
 refine aP 11 rfl (pX rfl rfl) rfl ?_
 refine aP 12 rfl (pX rfl rfl) rfl ?_
 refine aP 13 rfl (pX rfl rfl) rfl ?_
 refine aO' 14 ?_
 (refine oS rfl rfl rfl rfl hwl hwo rfl rfl ?_ (hu := by exact upd_all hwl.symm))
 refine aP 15 rfl (pA rfl) rfl ?_
 refine aP 16 rfl (pA rfl) rfl ?_
 refine aD' ?_
 refine nS (tT (rB (rS (rF3 (rC rfl (load_a rfl rfl (at_blk_all (by repeat first | exact mH | apply mT)) hwl)) (rT rfl) (rT rfl) ?_))))
 (exact ⟨rfl, _, rfl, hrw⟩)
 refine sQ (pA rfl) rfl (sD (nS (cF rfl ?_)))
 refine tS (tS (tR (sB (pE rfl rfl) rfl rfl (fun h138 => ?_) (fun h138 => ?_))))
 refine sQ (pA rfl) rfl (sD (nS (cT rfl ?_)))
 refine tK (nS (cT rfl ?_))
 refine tS ?_
 (have hq : k = 11 ∨ k = 12 := (by omega); obtain ⟨x, hxy⟩ := hL1 (by omega); have hDq := hD hq x hxy; subst hxy; obtain ⟨bx, ox, e0, rfl, hl0, hat0, hre0, hgb0⟩ := hsl.kidTm hkl (i := 0) (by simp) (by simp); have hF := l5Part_fn k x G e0 hq (hkk x (by simp)) hre0; rw [← hDq] at hF; refine tri_draw mixed rfl ?_)
 refine any_pure (i := 0) (l' := [tt,ff,ff,ff,ff,ff,ff,ff,ff,ff,ff,ff,ff]) rfl npI (pF0 rfl) rfl (by kernel_rfl) rfl rfl ?_
 refine aL 1 rfl (lBs rfl rfl) rfl ?_
 refine aP 2 rfl (pF0 rfl) rfl ?_
 refine aL 3 rfl (lBs rfl rfl) rfl ?_
 refine aP 4 rfl (pIN (j := 0) rfl rfl rfl (by simp)) rfl ?_
 refine aL 5 rfl (load_a rfl rfl (hat0 _) hl0) rfl ?_
 refine aO' 6 ?_
 (refine one_imm rfl rfl hF rfl rfl rfl (fun v G1 hle1 hh => ?_); obtain ⟨wc, rfl, hrw⟩ := hh; have hwl := hrw.len; have hwo := hrw.one)
 refine aP 7 rfl (pX rfl rfl) rfl ?_
 refine aP 8 rfl (pX rfl rfl) rfl ?_
 refine aP 9 rfl (pX rfl rfl) rfl ?_
 refine aO' 10 ?_
 (refine oS rfl rfl rfl rfl hwl hwo rfl rfl ?_ (hu := by exact upd_all hwl.symm))
 refine aP 11 rfl (pA rfl) rfl ?_
 refine aP 12 rfl (pA rfl) rfl ?_
 refine aD' ?_
 refine nS (tT (rB (rS (rF3 (rC rfl (load_a rfl rfl (at_blk_all (by repeat first | exact mH | apply mT)) hwl)) (rT rfl) (rT rfl) ?_))))
 (exact ⟨rfl, _, rfl, hrw⟩)
 refine sQ (pA rfl) rfl (sD (nS (cF rfl ?_)))
 refine tR (sB (pE rfl rfl) rfl rfl (fun h175 => ?_) (fun h175 => ?_))
 refine sQ (pA rfl) rfl (sD (nS (cT rfl ?_)))
 refine tS ?_
 (have hq : k = 11 ∨ k = 12 := (by omega); obtain ⟨x, hxy⟩ := hL1 (by omega); have hDq := hD hq x hxy; subst hxy; obtain ⟨bx, ox, e0, rfl, hl0, hat0, hre0, hgb0⟩ := hsl.kidTm hkl (i := 0) (by simp) (by simp); have hF := l5Part_fn k x G e0 hq (hkk x (by simp)) hre0; rw [← hDq] at hF; refine tri_draw mixed rfl ?_)
 refine any_pure (i := 0) (l' := [tt,ff,ff,ff,ff,ff,ff,ff,ff,ff,ff,ff,ff]) rfl npI (pF0 rfl) rfl (by kernel_rfl) rfl rfl ?_
 refine aL 1 rfl (lBs rfl rfl) rfl ?_
 refine aP 2 rfl (pF0 rfl) rfl ?_
 refine aL 3 rfl (lBs rfl rfl) rfl ?_
 refine aP 4 rfl (pIN (j := 0) rfl rfl rfl (by simp)) rfl ?_
 refine aL 5 rfl (load_a rfl rfl (hat0 _) hl0) rfl ?_
 refine aO' 6 ?_
 (refine one_imm rfl rfl hF rfl rfl rfl (fun v G1 hle1 hh => ?_); obtain ⟨wc, rfl, hrw⟩ := hh; have hwl := hrw.len; have hwo := hrw.one)
 refine aP 7 rfl (pX rfl rfl) rfl ?_
 refine aP 8 rfl (pX rfl rfl) rfl ?_
 refine aP 9 rfl (pX rfl rfl) rfl ?_
 refine aO' 10 ?_
 (refine oS rfl rfl rfl rfl hwl hwo rfl rfl ?_ (hu := by exact upd_all hwl.symm))
 refine aP 11 rfl (pA rfl) rfl ?_
 refine aP 12 rfl (pA rfl) rfl ?_
 refine aD' ?_
 refine nS (tT (rB (rS (rF3 (rC rfl (load_a rfl rfl (at_blk_all (by repeat first | exact mH | apply mT)) hwl)) (rT rfl) (rT rfl) ?_))))
 (exact ⟨rfl, _, rfl, hrw⟩)
 refine sQ (pA rfl) rfl (sD (nS (cF rfl ?_)))
 refine tS (tR (sB (pE rfl rfl) rfl rfl (fun h210 => ?_) (fun h210 => ?_)))
 refine sQ (pA rfl) rfl (sD (nS (cT rfl ?_)))
 refine tS (tR (sL (lBa rfl rfl) rfl rfl ?_))
 (refine seq_imm rfl (hC (by omega)) rfl rfl (fun v G1 hle1 hh => ?_); obtain ⟨wc, rfl, hrw⟩ := hh; have hwl := hrw.len; have hwo := hrw.one)
 refine sQ (pX rfl rfl) rfl (sQ (pX rfl rfl) rfl (sQ (pX rfl rfl) rfl (sS rfl rfl rfl hwl hwo rfl ?_ (hu := by exact upd_all hwl.symm))))
 refine sQ (pA rfl) rfl (sQ (pA rfl) rfl (sD (nS (tT (rB (rS ?_))))))
 refine rF3 (rC rfl (load_a rfl rfl (at_blk_all (by repeat first | exact mH | apply mT)) hwl)) (rT rfl) (rT rfl) ?_
 (exact ⟨rfl, _, rfl, hrw⟩)
 refine sQ (pA rfl) rfl (sD (nS (cF rfl ?_)))
 refine tK (nrm_block (nS (tS (tR (sQ (pBd rfl rfl) rfl (sS' ?_))))))
 refine sQ (pA rfl) rfl (sQ (pA rfl) rfl (sD (nS (tT (rF3 (rC rfl (lBa rfl rfl)) (rT rfl) (rT rfl) ?_)))))
 (rw [hO (by omega)]; exact StpX.mk rfl (tm0_r _))
theorem stp_kidX {k : Int} {nm : ByteArray} {num : Int} {ty fr : Ty} {lb : Int} {ks : List Tm} {i : Nat} (hi : i < ks.length) (hn : i < (if k = 9 then 1 else ks.length)) (hj : ∀ j, j < i → (h : j < ks.length) → mVal ks[j] = true) (hv : mVal ks[i] = false) :
  mStp (.mk k nm num ty fr lb ks) = if (mStp ks[i]).2.1 = 1 then (.mk k nm num ty fr lb (ks.set i (mStp ks[i]).1), 1, 0) else (tm0, (mStp ks[i]).2.1, (mStp ks[i]).2.2) := by
 rw [mStp, stpL_at _ ks i hi hn hj hv]
theorem stp_redX {k : Int} {nm : ByteArray} {num : Int} {ty fr : Ty} {lb : Int} {ks : List Tm} (h : ∀ i, i < (if k = 9 then 1 else ks.length) → (hl : i < ks.length) → mVal ks[i] = true) : mStp (.mk k nm num ty fr lb ks) = mRed k ty fr lb ks := by
 rw [mStp, stpL_none _ _ h]
theorem red_9 {ty fr : Ty} {lb : Int} {a b c : Tm} : mRed 9 ty fr lb [a, b, c] = (if a.k = 3 then (b, 1, 0) else if a.k = 4 then (c, 1, 0) else stuck) := rfl
theorem l5Step_fn : ∀ (t : Tm) (G : IM) (cells : List Value), cv t → mVal t = false → RTm G t cells → Fn Tryz.prog 133 [.agg ⟨cells⟩] [] G (StpX (mStp t)) := by
 refine Tm.ind fun k nm num ty fr lb ks ih G cells hc hv hr => ?_
 have hr0 := hr
 have hRl := hr.len
 have hN := hc.node.1
 have hkk := hc.node.2
 have hops := hN.ops
 have hle3 := tmOps_le k
 have hkd := @stp_kinds k nm num ty fr lb ks hc hv
 have hkX := fun (i : Nat) => @stp_kidX k nm num ty fr lb ks i
 have hrX := @stp_redX k nm num ty fr lb ks
 have hRd := fun h7 => l5Reduce_fn k nm num ty fr lb ks G cells h7 hc hr
 obtain ⟨C, hC⟩ : ∃ C : Nat, (if k = 9 then 1 else ks.length : Nat) = C := ⟨_, rfl⟩
 rw [hC] at hkd hrX
 have hkX' := fun (i : Nat) (hi : i < ks.length) (hn : i < C) => hkX i hi (by rw [hC]; exact hn)
 have h93 : k = 9 → ks.length = 3 := fun h => by rw [h] at hops; have : tmOps 9 = 3 := rfl; omega
 have hC1 : k = 9 → C = 1 := fun h => by rw [← hC, if_pos h]
 have hC2 : k ≠ 9 → C = ks.length := fun h => by rw [← hC, if_neg h]
 have hC9 : C ≤ ks.length := by by_cases h9 : k = 9; have := h93 h9; have := hC1 h9; omega; have := hC2 h9; omega
 generalize mStp (.mk k nm num ty fr lb ks) = R at hkX hkX' hrX ⊢
 obtain ⟨tk, tks⟩ := ty
 obtain ⟨fk, fks⟩ := fr
 obtain ⟨pt, ct, pf, cf, p, c, es, rfl, hk, hnum, hlb, hty, hfr, hsl, hkl⟩ := hr.open9
 have hn := hsl.le
 have hnc := hsl.sl.2.1
 have hes1 : ∀ u ∈ es.flatten, u.oneCell' = true := by
  intro u hu
  obtain ⟨e, he, hue⟩ := List.mem_flatten.1 hu
  exact List.all_eq_true.1 (hsl.one e he) u hue
 refine fn_enter Tryz.func133 rfl Tryz.ntmps133 Tryz.results133 rfl ?_
 intro w0
 refine tS (tR ?_)
 refine sE (step_box_a rfl rfl) rfl (fun b3 => ?_)
 refine sE (step_alloc rfl) rfl (fun b4 => ?_)
 refine sQ (pA rfl) rfl (sQ (pA rfl) rfl (sD (nS (tS (tR (sQ (pF0 rfl) rfl ?_))))))
 refine sL (lBs rfl rfl) rfl rfl ?_
 refine sQ (pLn rfl rfl) rfl (sQ (pA rfl) rfl (sD (nS (tS (tS (tR ?_))))))
 refine sQ (pF0 rfl) rfl (sL (lBs rfl rfl) rfl rfl ?_)
 refine sB (pE rfl rfl) rfl rfl (fun h22 => ?_) (fun h22 => ?_)
 refine sD (nS ?_)
 (show Tri _ _ (.cond (.tmp 16) _ _) _ _; refine tri_cut (fun (_ : Unit) => ⟨[(5, .int .i64 (C : Int)), (1, .pointer (some ⟨b3, 0, none⟩)), (2, .pointer (some ⟨b4, 0, none⟩))], [.blk b4 [.int .i64 0, .string ⟨⟨[]⟩⟩, .int .i64 0, .int .i64 0, .slice none 0 0, .int .i64 0, .slice none 0 0, .int .i64 0, .slice none 0 0], .blk b3 [.int .i64 k, .string nm, .int .i64 num, .int .i64 tk, .slice pt tks.length ct, .int .i64 fk, .slice pf fks.length cf, .int .i64 lb, .slice p ks.length c]], G⟩) (fun _ => True) (cT rfl ?_) ?_)
 refine tR (sQ (pA rfl) rfl (sD ?_))
 (have hCC := hC1 (by omega); subst hCC; refine nrm_cut () (sub_mk (by repeat (first | exact SubE.nil | refine SubE.cons rfl ?_)) (by repeat (first | exact SubH.refl | exact SubH.nil | refine SubH.cons (by repeat (first | exact Pk.here | apply Pk.there)) ?_ | apply SubH.drop))) trivial)
 (rintro (_ : Unit) _)
 refine tS (tS (tR (sQ (pA rfl) rfl (sD (nS (tri_block ?_))))))
 (refine tri_loopN (fun (i : Nat) => ⟨[(6, .int .i64 (i : Int)), (5, .int .i64 (C : Int)), (1, .pointer (some ⟨b3, 0, none⟩)), (2, .pointer (some ⟨b4, 0, none⟩))], [.blk b4 [.int .i64 0, .string ⟨⟨[]⟩⟩, .int .i64 0, .int .i64 0, .slice none 0 0, .int .i64 0, .slice none 0 0, .int .i64 0, .slice none 0 0], .blk b3 [.int .i64 k, .string nm, .int .i64 num, .int .i64 tk, .slice pt tks.length ct, .int .i64 fk, .slice pf fks.length cf, .int .i64 lb, .slice p ks.length c]], G⟩) (fun i => i ≤ C ∧ ∀ j, j < i → (h : j < ks.length) → mVal ks[j] = true) (fun i => C - i) 0 ?_ ?_ ?_)
 exact sMk
 (exact ⟨Nat.zero_le _, fun j hj => absurd hj (Nat.not_lt_zero j)⟩)
 (rintro i ⟨hi, hj⟩)
 refine tS (tS (tR (sQ (pM rfl) rfl (sQ (pM rfl) rfl (sB (pure_lss rfl rfl) rfl rfl (fun h47 => ?_) (fun h47 => ?_))))))
 refine sD (nS (cT rfl ?_))
 refine tK (nS (tS (tri_block (tS (tS (tR ?_))))))
 refine sQ (pF0 rfl) rfl (sL (lBs rfl rfl) rfl rfl ?_)
 refine sQ (pM rfl) rfl ?_
 (have hiC : i < C := (by omega); obtain ⟨bx, ox, e, rfl, hl, hat, hre, hgb⟩ := hsl.kidTm hkl (i := i) (by omega) (by omega); have heo := hre.one; have hVi := l5Value_fn ks[i] G e (hkk _ (List.getElem_mem (by omega))) hre; refine sP (pIN (j := i) rfl rfl rfl (by omega)) rfl rfl ?_)
 refine sL (load_a rfl rfl (hat _) hl) rfl rfl ?_
 refine seq_valb rfl (hVi) rfl rfl (fun h63 => ?_) (fun h63 => ?_)
 refine sD (nS (cT rfl ?_))
 refine tri_exit ?_
 refine ext_seq ?_
 refine ext_block_eq ?_
 refine nS (tR (sQ (pM rfl) rfl (sP (pure_add rfl rfl (by omega) (by omega)) rfl rfl ?_)))
 refine sQ (pA rfl) rfl (sD (nrm_loopN (i + 1) ?_ ?_ ?_))
 exact sMk
 (exact ⟨by omega, fun j hji hl2 => (by by_cases he : j = i; (subst he; assumption); exact hj j (by omega) hl2)⟩)
 (show C - (i + 1) < C - i; omega)
 refine sD (nS (cF rfl ?_))
 refine tK (nS (tS (tR (sQ (pF0 rfl) rfl (sL (lBs rfl rfl) rfl rfl ?_)))))
 refine sQ (pM rfl) rfl (sP (pIN (j := i) rfl rfl rfl (by omega)) rfl rfl ?_)
 refine sL (load_a rfl rfl (hat _) hl) rfl rfl ?_
 (have hvF : mVal ks[i] = false := (by assumption); have hst := hkX' i (by omega) hiC (fun j hji hl2 => hj j hji hl2) hvF; refine seq_imm rfl (ih ks[i] (List.getElem_mem (by omega)) G e (hkk _ (List.getElem_mem (by omega))) hvF hre) rfl rfl (fun v G1 hle1 hh => ?_); obtain ⟨uc, hvv, hru⟩ := hh; have hul := hru.len; have huo := hru.one; generalize mStp ks[i] = r at hvv hru hst; obtain ⟨u, cc, ll⟩ := r; simp only at hvv hru hst; subst hvv)
 refine sQ (pM rfl) rfl (sQ (pX rfl rfl) rfl (sQ (pX rfl rfl) rfl (sQ (pX rfl rfl) rfl ?_)))
 refine sE (step_alloc rfl) rfl (fun b97 => ?_)
 refine sS rfl rfl rfl hul huo rfl ?_ (hu := by exact upd_all hul.symm)
 refine sQ (pA rfl) rfl (sQ (pA rfl) rfl (sD (nS (tS (tS (tR ?_))))))
 refine sQ (pM rfl) rfl (sB (pure_neq rfl rfl) rfl rfl (fun h107 => ?_) (fun h107 => ?_))
 refine sD (nS (cT rfl ?_))
 refine tS (tR (sQ (pBd rfl rfl) rfl (sQ (pM rfl) rfl (sQ (pM rfl) rfl (sS' ?_)))))
 refine sQ (pA rfl) rfl (sQ (pA rfl) rfl (sD (nS (tT (rS (rB ?_))))))
 refine rS (ret_loopN (rB (rS (rF3 (rC rfl (lBa rfl rfl)) (rT rfl) (rT rfl) ?_))))
 (rw [hst, if_neg (by omega)]; exact StpX.mk rfl (tm0_r _))
 refine sD (nS (cF rfl ?_))
 refine tK (nS (tS (tR (sL (lBa rfl rfl) rfl rfl ?_))))
 refine sE (step_alloc rfl) rfl (fun b138 => ?_)
 refine sS' ?_
 refine sD (nS (tS (tR ?_)))
 (refine seq_step (step_buildSlice rfl rfl rfl (by omega) (by unfold maxLen; omega) rfl) rfl ?_; rintro _ ⟨b144, rfl⟩)
 refine sQ (pF0 rfl) rfl (sL (lBs rfl rfl) rfl rfl ?_)
 (refine seq_appendSl rfl rfl rfl rfl rfl (fun _ _ => by repeat (first | exact Sw.here | apply Sw.there)) (hsl.mono hle1).sl hes1 (Nat.zero_le _) (by unfold maxLen; omega) (by omega) rfl (fun p4 c4 => ?_); simp only [Nat.zero_add, List.nil_append]; refine triL_open (cs := es.flatten) (by repeat (first | exact Pk.here | apply Pk.there)) (by omega) (fun bc Cc hpe hnc1 hcm => ?_); subst hpe)
 refine sQ (pF0 rfl) rfl (sS' ?_)
 refine sD (nS (tS (tR (sQ (pF0 rfl) rfl (sL (lBs rfl rfl) rfl rfl ?_)))))
 refine sQ (pM rfl) rfl (sL (load_a rfl rfl (at_blk_all (by repeat first | exact mH | apply mT)) hul) rfl rfl ?_)
 refine sP (pIN (j := i) rfl rfl rfl (by omega)) rfl rfl ?_
 refine seq_store rfl rfl rfl hul huo rfl (by repeat first | exact Sw.here | apply Sw.there) (by exact upd_set (by rw [hkl.len]; omega) (fun e he => (hsl.all e he)) hul) ?_
 refine sD (nS (tS (tR (sL (lBa rfl rfl) rfl rfl ?_))))
 refine sS' ?_
 refine sQ (pA rfl) rfl (sQ (pA rfl) rfl (sD (nS ?_)))
 (refine tri_freezes (bs := [(bc, (es.set i uc).flatten ++ Cc)]) (Pk.perm (by repeat (first | exact Pk.here | apply Pk.there))) (fun hn2 hd2 hle2 => ?_))
 refine tT (rB (rS (ret_loopN (rB (rS (rF3 (rC rfl (lBa rfl rfl)) (rT rfl) (rT rfl) ?_))))))
 (have hks2 := RTmL.set (j := i) ((hkl.mono hle1).mono hle2) (hru.mono hle2); rw [hst, if_pos (by omega)]; exact StpX.mk rfl (RTm.put (us := ks.set i u) (es := es.set i uc) hk hnum hlb ((hty.mono hle1).mono hle2) ((hfr.mono hle1).mono hle2) (by rw [List.length_set]) (SlE.of (Sl.of_blk (A := []) (by rw [flat_len hks2.all, hks2.len, List.length_set]) (by omega) hcm (Wi.in hn2 List.mem_cons_self)) (by rw [hks2.len, List.length_set]) hks2.all (fun e he => by obtain ⟨q, hq⟩ := List.getElem?_of_mem he; exact (hks2.inv hq tm0).2.one)) hks2))
 refine sD (nS (cF rfl ?_))
 refine tri_exit ?_
 refine ext_seq ?_
 refine ext_loopN ?_
 refine ext_block_eq ?_
 refine nS (tS (tS (tR (sQ (pF0 rfl) rfl (sL (lBs rfl rfl) rfl rfl ?_)))))
 refine sP (pure_neq_f rfl rfl (by omega)) rfl rfl ?_
 refine sD (nS (cF rfl ?_))
 refine tK (nS (tS (tS (tR (sQ (pF0 rfl) rfl (sL (lBs rfl rfl) rfl rfl ?_))))))
 (have hall : ∀ i, i < C → (hl : i < ks.length) → mVal ks[i] = true := (fun j hjc hl2 => hj j (by omega) hl2); have hrd' := hrX hall; have h9 : k = 9 := (by omega); subst h9; obtain ⟨xa, xb, xc, hxs⟩ := ks3 (h93 rfl); subst hxs; rw [red_9] at hrd'; obtain ⟨bx, ox, e0, rfl, hl0, hat0, hre0, hgb0⟩ := hsl.kidTm hkl (i := 0) (by simp) (by simp); obtain ⟨_, _, e1, hp1, hl1, hat1, hre1, hgb1⟩ := hsl.kidTm hkl (i := 1) (by simp) (by simp); cases hp1; obtain ⟨_, _, e2, hp2, hl2, hat2, hre2, hgb2⟩ := hsl.kidTm hkl (i := 2) (by simp) (by simp); cases hp2; replace hre0 : RTm G xa e0 := hre0; replace hre1 : RTm G xb e1 := hre1; replace hre2 : RTm G xc e2 := hre2; have ho1 := hre1.one; have ho2 := hre2.one; obtain ⟨ak, anm, anum, ⟨atk, atks⟩, ⟨afk, afks⟩, alb, aks⟩ := xa; obtain ⟨apt, act, apf, acf, ap, ac, aes, rfl, hak, hanum, halb, haty, hafr, hasl, hakl⟩ := hre0.open9; replace hrd' : R = (if ak = 3 then (xb, 1, 0) else if ak = 4 then (xc, 1, 0) else stuck) := hrd'; refine sP (pIN (j := 0) rfl rfl rfl (by simp)) rfl rfl ?_)
 refine sQ (pF rfl) rfl (sL (load_s rfl rfl ((hat0 _).sub (j := 0) rfl)) rfl rfl ?_)
 refine sD (nS (tri_block (tS (tR (sB (pE rfl rfl) rfl rfl (fun h211 => ?_) (fun h211 => ?_))))))
 refine sQ (pA rfl) rfl (sD (nS (cT rfl ?_)))
 refine tS (tR (sQ (pF0 rfl) rfl (sL (lBs rfl rfl) rfl rfl ?_)))
 refine sP (pIN (j := 1) rfl rfl rfl (by simp)) rfl rfl ?_
 refine sL (load_a rfl rfl (hat1 _) hl1) rfl rfl ?_
 refine sS rfl rfl rfl hl1 ho1 rfl ?_ (hu := by exact upd_all hl1.symm)
 refine sQ (pA rfl) rfl (sQ (pA rfl) rfl (sD (nS (tT (rB (rS ?_))))))
 refine rF3 (rC rfl (load_a rfl rfl (at_blk_all (by repeat first | exact mH | apply mT)) hl1)) (rT rfl) (rT rfl) ?_
 (rw [hrd', if_pos (by omega)]; exact StpX.mk rfl hre1)
 refine sQ (pA rfl) rfl (sD (nS (cF rfl ?_)))
 refine tS (tR (sB (pE rfl rfl) rfl rfl (fun h238 => ?_) (fun h238 => ?_)))
 refine sQ (pA rfl) rfl (sD (nS (cT rfl ?_)))
 refine tS (tR (sQ (pF0 rfl) rfl (sL (lBs rfl rfl) rfl rfl ?_)))
 refine sP (pIN (j := 2) rfl rfl rfl (by simp)) rfl rfl ?_
 refine sL (load_a rfl rfl (hat2 _) hl2) rfl rfl ?_
 refine sS rfl rfl rfl hl2 ho2 rfl ?_ (hu := by exact upd_all hl2.symm)
 refine sQ (pA rfl) rfl (sQ (pA rfl) rfl (sD (nS (tT (rB (rS ?_))))))
 refine rF3 (rC rfl (load_a rfl rfl (at_blk_all (by repeat first | exact mH | apply mT)) hl2)) (rT rfl) (rT rfl) ?_
 (rw [hrd', if_neg (by omega), if_pos (by omega)]; exact StpX.mk rfl hre2)
 refine sQ (pA rfl) rfl (sD (nS (cF rfl ?_)))
 refine tK (nrm_block (nS (tS (tR (sQ (pBd rfl rfl) rfl (sS' ?_))))))
 refine sQ (pA rfl) rfl (sQ (pA rfl) rfl (sD (nS (tT (rF3 (rC rfl (lBa rfl rfl)) (rT rfl) (rT rfl) ?_)))))
 (rw [hrd', if_neg (by omega), if_neg (by omega)]; exact StpX.mk rfl (tm0_r _))
 refine sD (nS ?_)
 (show Tri _ _ (.cond (.tmp 16) _ _) _ _; refine tri_cut (fun (_ : Unit) => ⟨[(5, .int .i64 (C : Int)), (1, .pointer (some ⟨b3, 0, none⟩)), (2, .pointer (some ⟨b4, 0, none⟩))], [.blk b4 [.int .i64 0, .string ⟨⟨[]⟩⟩, .int .i64 0, .int .i64 0, .slice none 0 0, .int .i64 0, .slice none 0 0, .int .i64 0, .slice none 0 0], .blk b3 [.int .i64 k, .string nm, .int .i64 num, .int .i64 tk, .slice pt tks.length ct, .int .i64 fk, .slice pf fks.length cf, .int .i64 lb, .slice p ks.length c]], G⟩) (fun _ => True) (cF rfl ?_) ?_)
 refine tK ?_
 (have hCC := hC2 (by omega); subst hCC; refine nrm_cut () (sub_mk (by repeat (first | exact SubE.nil | refine SubE.cons rfl ?_)) (by repeat (first | exact SubH.refl | exact SubH.nil | refine SubH.cons (by repeat (first | exact Pk.here | apply Pk.there)) ?_ | apply SubH.drop))) trivial)
 (rintro (_ : Unit) _)
 refine tS (tS (tR (sQ (pA rfl) rfl (sD (nS (tri_block ?_))))))
 (refine tri_loopN (fun (i : Nat) => ⟨[(6, .int .i64 (i : Int)), (5, .int .i64 (C : Int)), (1, .pointer (some ⟨b3, 0, none⟩)), (2, .pointer (some ⟨b4, 0, none⟩))], [.blk b4 [.int .i64 0, .string ⟨⟨[]⟩⟩, .int .i64 0, .int .i64 0, .slice none 0 0, .int .i64 0, .slice none 0 0, .int .i64 0, .slice none 0 0], .blk b3 [.int .i64 k, .string nm, .int .i64 num, .int .i64 tk, .slice pt tks.length ct, .int .i64 fk, .slice pf fks.length cf, .int .i64 lb, .slice p ks.length c]], G⟩) (fun i => i ≤ C ∧ ∀ j, j < i → (h : j < ks.length) → mVal ks[j] = true) (fun i => C - i) 0 ?_ ?_ ?_)
 exact sMk
 (exact ⟨Nat.zero_le _, fun j hj => absurd hj (Nat.not_lt_zero j)⟩)
 (rintro i ⟨hi, hj⟩)
 refine tS (tS (tR (sQ (pM rfl) rfl (sQ (pM rfl) rfl (sB (pure_lss rfl rfl) rfl rfl (fun h299 => ?_) (fun h299 => ?_))))))
 refine sD (nS (cT rfl ?_))
 refine tK (nS (tS (tri_block (tS (tS (tR ?_))))))
 refine sQ (pF0 rfl) rfl (sL (lBs rfl rfl) rfl rfl ?_)
 refine sQ (pM rfl) rfl ?_
 (have hiC : i < C := (by omega); obtain ⟨bx, ox, e, rfl, hl, hat, hre, hgb⟩ := hsl.kidTm hkl (i := i) (by omega) (by omega); have heo := hre.one; have hVi := l5Value_fn ks[i] G e (hkk _ (List.getElem_mem (by omega))) hre; refine sP (pIN (j := i) rfl rfl rfl (by omega)) rfl rfl ?_)
 refine sL (load_a rfl rfl (hat _) hl) rfl rfl ?_
 refine seq_valb rfl (hVi) rfl rfl (fun h315 => ?_) (fun h315 => ?_)
 refine sD (nS (cT rfl ?_))
 refine tri_exit ?_
 refine ext_seq ?_
 refine ext_block_eq ?_
 refine nS (tR (sQ (pM rfl) rfl (sP (pure_add rfl rfl (by omega) (by omega)) rfl rfl ?_)))
 refine sQ (pA rfl) rfl (sD (nrm_loopN (i + 1) ?_ ?_ ?_))
 exact sMk
 (exact ⟨by omega, fun j hji hl2 => (by by_cases he : j = i; (subst he; assumption); exact hj j (by omega) hl2)⟩)
 (show C - (i + 1) < C - i; omega)
 refine sD (nS (cF rfl ?_))
 refine tK (nS (tS (tR (sQ (pF0 rfl) rfl (sL (lBs rfl rfl) rfl rfl ?_)))))
 refine sQ (pM rfl) rfl (sP (pIN (j := i) rfl rfl rfl (by omega)) rfl rfl ?_)
 refine sL (load_a rfl rfl (hat _) hl) rfl rfl ?_
 (have hvF : mVal ks[i] = false := (by assumption); have hst := hkX' i (by omega) hiC (fun j hji hl2 => hj j hji hl2) hvF; refine seq_imm rfl (ih ks[i] (List.getElem_mem (by omega)) G e (hkk _ (List.getElem_mem (by omega))) hvF hre) rfl rfl (fun v G1 hle1 hh => ?_); obtain ⟨uc, hvv, hru⟩ := hh; have hul := hru.len; have huo := hru.one; generalize mStp ks[i] = r at hvv hru hst; obtain ⟨u, cc, ll⟩ := r; simp only at hvv hru hst; subst hvv)
 refine sQ (pM rfl) rfl (sQ (pX rfl rfl) rfl (sQ (pX rfl rfl) rfl (sQ (pX rfl rfl) rfl ?_)))
 refine sE (step_alloc rfl) rfl (fun b349 => ?_)
 refine sS rfl rfl rfl hul huo rfl ?_ (hu := by exact upd_all hul.symm)
 refine sQ (pA rfl) rfl (sQ (pA rfl) rfl (sD (nS (tS (tS (tR ?_))))))
 refine sQ (pM rfl) rfl (sB (pure_neq rfl rfl) rfl rfl (fun h359 => ?_) (fun h359 => ?_))
 refine sD (nS (cT rfl ?_))
 refine tS (tR (sQ (pBd rfl rfl) rfl (sQ (pM rfl) rfl (sQ (pM rfl) rfl (sS' ?_)))))
 refine sQ (pA rfl) rfl (sQ (pA rfl) rfl (sD (nS (tT (rS (rB ?_))))))
 refine rS (ret_loopN (rB (rS (rF3 (rC rfl (lBa rfl rfl)) (rT rfl) (rT rfl) ?_))))
 (rw [hst, if_neg (by omega)]; exact StpX.mk rfl (tm0_r _))
 refine sD (nS (cF rfl ?_))
 refine tK (nS (tS (tR (sL (lBa rfl rfl) rfl rfl ?_))))
 refine sE (step_alloc rfl) rfl (fun b390 => ?_)
 refine sS' ?_
 refine sD (nS (tS (tR ?_)))
 (refine seq_step (step_buildSlice rfl rfl rfl (by omega) (by unfold maxLen; omega) rfl) rfl ?_; rintro _ ⟨b396, rfl⟩)
 refine sQ (pF0 rfl) rfl (sL (lBs rfl rfl) rfl rfl ?_)
 (refine seq_appendSl rfl rfl rfl rfl rfl (fun _ _ => by repeat (first | exact Sw.here | apply Sw.there)) (hsl.mono hle1).sl hes1 (Nat.zero_le _) (by unfold maxLen; omega) (by omega) rfl (fun p4 c4 => ?_); simp only [Nat.zero_add, List.nil_append]; refine triL_open (cs := es.flatten) (by repeat (first | exact Pk.here | apply Pk.there)) (by omega) (fun bc Cc hpe hnc1 hcm => ?_); subst hpe)
 refine sQ (pF0 rfl) rfl (sS' ?_)
 refine sD (nS (tS (tR (sQ (pF0 rfl) rfl (sL (lBs rfl rfl) rfl rfl ?_)))))
 refine sQ (pM rfl) rfl (sL (load_a rfl rfl (at_blk_all (by repeat first | exact mH | apply mT)) hul) rfl rfl ?_)
 refine sP (pIN (j := i) rfl rfl rfl (by omega)) rfl rfl ?_
 refine seq_store rfl rfl rfl hul huo rfl (by repeat first | exact Sw.here | apply Sw.there) (by exact upd_set (by rw [hkl.len]; omega) (fun e he => (hsl.all e he)) hul) ?_
 refine sD (nS (tS (tR (sL (lBa rfl rfl) rfl rfl ?_))))
 refine sS' ?_
 refine sQ (pA rfl) rfl (sQ (pA rfl) rfl (sD (nS ?_)))
 (refine tri_freezes (bs := [(bc, (es.set i uc).flatten ++ Cc)]) (Pk.perm (by repeat (first | exact Pk.here | apply Pk.there))) (fun hn2 hd2 hle2 => ?_))
 refine tT (rB (rS (ret_loopN (rB (rS (rF3 (rC rfl (lBa rfl rfl)) (rT rfl) (rT rfl) ?_))))))
 (have hks2 := RTmL.set (j := i) ((hkl.mono hle1).mono hle2) (hru.mono hle2); rw [hst, if_pos (by omega)]; exact StpX.mk rfl (RTm.put (us := ks.set i u) (es := es.set i uc) hk hnum hlb ((hty.mono hle1).mono hle2) ((hfr.mono hle1).mono hle2) (by rw [List.length_set]) (SlE.of (Sl.of_blk (A := []) (by rw [flat_len hks2.all, hks2.len, List.length_set]) (by omega) hcm (Wi.in hn2 List.mem_cons_self)) (by rw [hks2.len, List.length_set]) hks2.all (fun e he => by obtain ⟨q, hq⟩ := List.getElem?_of_mem he; exact (hks2.inv hq tm0).2.one)) hks2))
 refine sD (nS (cF rfl ?_))
 refine tri_exit ?_
 refine ext_seq ?_
 refine ext_loopN ?_
 refine ext_block_eq ?_
 refine nS (tS (tS (tR (sQ (pF0 rfl) rfl (sL (lBs rfl rfl) rfl rfl ?_)))))
 refine sP (pure_neq_t rfl rfl (by omega)) rfl rfl ?_
 refine sD (nS (cT rfl ?_))
 refine tS (tR (sL (lBa rfl rfl) rfl rfl ?_))
 (have hall : ∀ i, i < C → (hl : i < ks.length) → mVal ks[i] = true := (fun j hjc hl2 => hj j (by omega) hl2); have hk8 := hkd hall; have hrd' := hrX hall; refine seq_imm rfl (hRd (by omega)) rfl rfl (fun v G1 hle1 hh => ?_); obtain ⟨uc, rfl, hru⟩ := hh; have hul := hru.len; have huo := hru.one)
 refine sQ (pX rfl rfl) rfl (sQ (pX rfl rfl) rfl (sQ (pX rfl rfl) rfl (sS rfl rfl rfl hul huo rfl ?_ (hu := by exact upd_all hul.symm))))
 refine sQ (pA rfl) rfl (sQ (pA rfl) rfl (sD (nS (tT (rS (rF3 (rC rfl (load_a rfl rfl (at_blk_all (by repeat first | exact mH | apply mT)) hul)) (rT rfl) (rT rfl) ?_))))))
 (rw [hrd']; exact ⟨rfl, _, rfl, hru⟩)
theorem stp_cnt {t : Tm} (h : castValid t = true) : (mStp t).1.small ∧ tmCount (mStp t).1 ≤ 40300 := by
 obtain ⟨h1, h2⟩ := cv_of h
 have := stp_small t (cv_small t h1) h2
 exact ⟨this.1, by omega⟩
theorem sStepCast_fn (t : Tm) (G : IM) (cells : List Value) (hcnt : tmCount t ≤ 4294967296) (hr : RTm G t cells) : Fn Tryz.prog 105 [.agg ⟨cells⟩] [] G (StpX (mStepCast t)) := by
 have hRl := hr.len
 have hRo := hr.one
 have hV := sCastValid_fn t G cells hcnt hr
 have e1 := @stepCast_1 t
 have e2 := @stepCast_2 t
 have e3 := @stepCast_3 t
 have e4 := @stepCast_4 t
 have e5 := @stepCast_5 t
 have hsc := @stp_cnt t
 refine fn_enter Tryz.func105 rfl Tryz.ntmps105 Tryz.results105 rfl ?_
 intro w0
 refine tS (tR ?_)
 refine sE (step_box_a rfl rfl) rfl (fun b3 => ?_)
 refine sE (step_alloc rfl) rfl (fun b4 => ?_)
 refine sQ (pA rfl) rfl (sQ (pA rfl) rfl (sD (nS (tS (tS (tR ?_))))))
 refine sL (load_a rfl rfl (at_blk_all (by repeat first | exact mH | apply mT)) hRl) rfl rfl ?_
 refine seq_valb rfl (hV) rfl rfl (fun h13 => ?_) (fun h13 => ?_)
 refine sQ (pNt rfl) rfl (sD (nS (cF rfl ?_)))
 refine tK (nS (tS (tS (tR (sL (load_a rfl rfl (at_blk_all (by repeat first | exact mH | apply mT)) hRl) rfl rfl ?_)))))
 refine seq_valb rfl ((l5Value_fn t G cells (cv_of (by assumption)).1 hr)) rfl rfl (fun h24 => ?_) (fun h24 => ?_)
 refine sD (nS (cT rfl ?_))
 refine tS (tR (sL (load_a rfl rfl (at_blk_all (by repeat first | exact mH | apply mT)) hRl) rfl rfl ?_))
 (refine seq_imm rfl (l2Copy_fn t G cells (cV_small (by assumption)) hr) rfl rfl (fun v G1 hle1 hh => ?_); obtain ⟨cs1, F1, rfl, hs1, hn1⟩ := hh; have hul := hs1.R.len; have huo := hs1.R.one)
 refine sS rfl rfl rfl hul huo rfl ?_ (hu := by exact upd_all hul.symm)
 refine sQ (pA rfl) rfl (sQ (pA rfl) rfl (sD (nS (tT (rS (rF3 (rC rfl (load_a rfl rfl (at_blk_all (by repeat first | exact mH | apply mT)) hul)) (rT rfl) (rT rfl) ?_))))))
 (exact StpX.mk (e2 (by assumption) (by assumption)) (hs1.R.mono (Dif.le _ _)))
 refine sD (nS (cF rfl ?_))
 refine tK (nS (tS (tR (sL (load_a rfl rfl (at_blk_all (by repeat first | exact mH | apply mT)) hRl) rfl rfl ?_))))
 (have hcv : castValid t = true := (by assumption); have hnv : mVal t = false := (by assumption); obtain ⟨hsc1, hsc2⟩ := hsc hcv; replace e3 := e3 hcv hnv; replace e4 := e4 hcv hnv; replace e5 := e5 hcv hnv; refine seq_imm rfl (l5Step_fn t G cells (cv_of hcv).1 hnv hr) rfl rfl (fun v G1 hle1 hh => ?_); obtain ⟨uc, hvv, hru⟩ := hh; have hul := hru.len; have huo := hru.one; generalize mStp t = r at hvv hru hsc1 hsc2 e3 e4 e5; obtain ⟨u, cc, ll⟩ := r; simp only at hvv hru hsc1 hsc2 e3 e4 e5; subst hvv; have hVu := sCastValid_fn u G1 uc (by omega) hru)
 refine sQ (pM rfl) rfl (sQ (pX rfl rfl) rfl (sQ (pX rfl rfl) rfl (sQ (pX rfl rfl) rfl ?_)))
 refine sE (step_alloc rfl) rfl (fun b54 => ?_)
 refine sS rfl rfl rfl hul huo rfl ?_ (hu := by exact upd_all hul.symm)
 refine sQ (pA rfl) rfl (sQ (pA rfl) rfl (sD (nS (tS (tS (tR ?_))))))
 refine sQ (pM rfl) rfl (sB (pure_neq rfl rfl) rfl rfl (fun h64 => ?_) (fun h64 => ?_))
 refine sD (nS (cT rfl ?_))
 refine tS (tR (sQ (pBd rfl rfl) rfl (sQ (pM rfl) rfl (sQ (pM rfl) rfl (sS' ?_)))))
 refine sQ (pA rfl) rfl (sQ (pA rfl) rfl (sD (nS (tT (rS (rF3 (rC rfl (lBa rfl rfl)) (rT rfl) (rT rfl) ?_))))))
 (exact StpX.mk (e3 (by omega)) (tm0_r _))
 refine sD (nS (cF rfl ?_))
 refine tK (nS (tS (tS (tR (sL (load_a rfl rfl (at_blk_all (by repeat first | exact mH | apply mT)) hul) rfl rfl ?_)))))
 refine seq_valb rfl (hVu) rfl rfl (fun h91 => ?_) (fun h91 => ?_)
 refine sQ (pNt rfl) rfl (sD (nS (cF rfl ?_)))
 refine tK (nS (tS (tR (sL (load_a rfl rfl (at_blk_all (by repeat first | exact mH | apply mT)) hul) rfl rfl ?_))))
 (refine seq_imm rfl (l2Copy_fn u G1 uc hsc1 hru) rfl rfl (fun v G2 hle2 hh => ?_); obtain ⟨cs2, F2, rfl, hs2, hn2⟩ := hh; have hwl := hs2.R.len; have hwo := hs2.R.one)
 refine sS rfl rfl rfl hwl hwo rfl ?_ (hu := by exact upd_all hwl.symm)
 refine sQ (pA rfl) rfl (sQ (pA rfl) rfl (sD (nS (tT (rF3 (rC rfl (load_a rfl rfl (at_blk_all (by repeat first | exact mH | apply mT)) hwl)) (rT rfl) (rT rfl) ?_)))))
 (exact StpX.mk (e5 (by omega) (by assumption)) (hs2.R.mono (Dif.le _ _)))
 refine sQ (pNf rfl) rfl (sD (nS (cT rfl ?_)))
 refine tS (tR (sQ (pBd rfl rfl) rfl (sS' ?_)))
 refine sQ (pA rfl) rfl (sQ (pA rfl) rfl (sD (nS (tT (rS (rF3 (rC rfl (lBa rfl rfl)) (rT rfl) (rT rfl) ?_))))))
 (exact StpX.mk (e4 (by omega) (by assumption)) (tm0_r _))
 refine sQ (pNf rfl) rfl (sD (nS (cT rfl ?_)))
 refine tS (tR (sQ (pBd rfl rfl) rfl (sS' ?_)))
 refine sQ (pA rfl) rfl (sQ (pA rfl) rfl (sD (nS (tT (rS (rF3 (rC rfl (lBa rfl rfl)) (rT rfl) (rT rfl) ?_))))))
 (exact StpX.mk (e1 (by assumption)) (tm0_r _))
theorem evE_end {m i : Nat} {e : Tm} (h : (mStepCast e).2.1 ≠ 1) : evAdd i (mEv m e) = ((mStepCast e).1, (mStepCast e).2.1, (mStepCast e).2.2, i) := by
 cases m with
 | zero => rw [mEv, if_neg h]; simp [evAdd]
 | succ m => rw [mEv, if_neg h]; simp [evAdd]
theorem evE_much {m i : Nat} {e : Tm} (h : (mStepCast e).2.1 = 1) (hm : m = 0) : evAdd i (mEv m e) = (tm0, 5, 0, i) := by
 subst hm; rw [mEv, if_pos h]; simp [evAdd]
theorem evE_go {m i : Nat} {e : Tm} (h : (mStepCast e).2.1 = 1) (hm : 0 < m) : evAdd i (mEv m e) = evAdd (i + 1) (mEv (m - 1) (mStepCast e).1) := by
 obtain ⟨k, rfl⟩ : ∃ k, m = k + 1 := ⟨m - 1, by omega⟩
 rw [mEv, if_pos h]; simp only [evAdd, Nat.add_sub_cancel, Nat.add_assoc, Nat.add_comm 1 i]
theorem l5Eval_fn (e : Tm) (n : Nat) (hn : n ≤ 300) (G : IM) (cells : List Value) (hcnt : tmCount e ≤ 4294967296) (hr : RTm G e cells) : Fn Tryz.prog 67 [.agg ⟨cells⟩, .int .i64 (n : Int)] [] G (EvP (mEv n e)) := by
 have hRl := hr.len
 have hRo := hr.one
 refine fn_enter Tryz.func67 rfl Tryz.ntmps67 Tryz.results67 rfl ?_
 intro w0
 refine tS (tR ?_)
 refine sE (step_box_a rfl rfl) rfl (fun b3 => ?_)
 refine sE (step_alloc rfl) rfl (fun b4 => ?_)
 refine sQ (pA rfl) rfl (sQ (pA rfl) rfl (sQ (pA rfl) rfl (sD (nS (tS (tR ?_))))))
 refine sQ (pA rfl) rfl (sD (nS (tri_block ?_)))
 (refine tri_loopN (fun (x : Nat × Tm × List Value × IM) => ⟨[(8, .int .i64 (x.1 : Int)), (1, .int .i64 (n : Int)), (2, .pointer (some ⟨b3, 0, none⟩)), (4, .pointer (some ⟨b4, 0, none⟩))], [.blk b3 x.2.2.1, .blk b4 [.int .i64 0, .string ⟨⟨[]⟩⟩, .int .i64 0, .int .i64 0, .slice none 0 0, .int .i64 0, .slice none 0 0, .int .i64 0, .slice none 0 0]], x.2.2.2⟩) (fun x => x.1 ≤ n ∧ IMle G x.2.2.2 ∧ RTm x.2.2.2 x.2.1 x.2.2.1 ∧ tmCount x.2.1 ≤ 4294967296 ∧ evAdd x.1 (mEv (n - x.1) x.2.1) = mEv n e) (fun x => n - x.1) (0, e, cells, G) ?_ ?_ ?_)
 (simp only [flat_snoc]; exact sMk)
 (exact ⟨Nat.zero_le _, IMle.refl _, hr, hcnt, rfl⟩)
 (rintro ⟨i, u, uc, Gi⟩ ⟨hi, hle, hru, hcu, hev⟩; simp only [] at hi hle hru hcu hev ⊢; have hul := hru.len; have huo := hru.one)
 refine tS (tri_block (tS (tR (sL (load_a rfl rfl (at_blk_all (by repeat first | exact mH | apply mT)) hul) rfl rfl ?_))))
 (refine seq_imm rfl (sStepCast_fn u Gi uc hcu hru) rfl rfl (fun v G1 hle1 hh => ?_); obtain ⟨wc, hv, hrw⟩ := hh; have hwl := hrw.len; have hwo := hrw.one; have hend := @evE_end (n - i) i u; have hmu := @evE_much (n - i) i u; have hgo := @evE_go (n - i) i u; have hval := @stepCast_valid u; generalize mStepCast u = r at hv hrw hend hmu hgo hval; obtain ⟨w, c, l⟩ := r; simp only at hv hrw hend hmu hgo hval; subst hv)
 refine sQ (pM rfl) rfl (sQ (pX rfl rfl) rfl (sQ (pX rfl rfl) rfl (sQ (pX rfl rfl) rfl ?_)))
 refine sE (step_alloc rfl) rfl (fun b30 => ?_)
 refine sS rfl rfl rfl hwl hwo rfl ?_ (hu := by exact upd_all hwl.symm)
 refine sQ (pA rfl) rfl (sQ (pA rfl) rfl (sD (nS (tS (tS (tR ?_))))))
 refine sQ (pM rfl) rfl (sB (pure_neq rfl rfl) rfl rfl (fun h40 => ?_) (fun h40 => ?_))
 refine sD (nS (cT rfl ?_))
 refine tS (tR (sL (load_a rfl rfl (at_blk_all (by repeat first | exact mH | apply mT)) hwl) rfl rfl ?_))
 refine sQ (pM rfl) rfl (sQ (pM rfl) rfl (sQ (pM rfl) rfl (sS rfl rfl rfl hwl hwo rfl ?_ (hu := by exact upd_all hwl.symm))))
 refine sQ (pA rfl) rfl (sQ (pA rfl) rfl (sQ (pA rfl) rfl (sD (nS (tT (rS ?_))))))
 refine rB (rS (ret_loopN (rB (ret_fin4 (rC rfl (load_a rfl rfl (at_blk_all (by repeat first | exact mH | apply mT)) hwl)) (rT rfl) (rT rfl) (rT rfl) ?_))))
 (exact EvP.mk (by rw [← hev]; exact hend (by omega)) hrw)
 refine sD (nS (cF rfl ?_))
 refine tK (nS (tS (tS (tR (sQ (pM rfl) rfl (sQ (pM rfl) rfl ?_))))))
 refine sB (pE rfl rfl) rfl rfl (fun h74 => ?_) (fun h74 => ?_)
 refine sD (nS (cT rfl ?_))
 refine tS (tR (sQ (pBd rfl rfl) rfl (sQ (pM rfl) rfl (sS' ?_))))
 refine sQ (pA rfl) rfl (sQ (pA rfl) rfl (sQ (pA rfl) rfl (sD (nS (tT (rS ?_))))))
 refine rB (rS (ret_loopN (rB (ret_fin4 (rC rfl (lBa rfl rfl)) (rT rfl) (rT rfl) (rT rfl) ?_))))
 (exact EvP.mk (by rw [← hev]; exact hmu (by omega) (by omega)) (tm0_r _))
 refine sD (nS (cF rfl ?_))
 refine tK (nS (tR (sL (load_a rfl rfl (at_blk_all (by repeat first | exact mH | apply mT)) hwl) rfl rfl ?_)))
 refine seq_store rfl rfl rfl hwl hwo rfl (by repeat first | exact Sw.here | apply Sw.there) (by exact upd_all (hul.trans hwl.symm)) ?_
 refine sD (nrm_block (nS (tR (sQ (pM rfl) rfl (sP (pure_add rfl rfl (by omega) (by omega)) rfl rfl ?_)))))
 refine sQ (pA rfl) rfl (sD (nrm_loopN (i + 1, w, wc, G1) ?_ ?_ ?_))
 (simp only [flat_snoc]; exact sMk)
 (dsimp only; exact ⟨by omega, hle.trans hle1, hrw, by have := castValid_count (hval (by omega)); omega, by rw [← hev, hgo (by omega) (by omega), show n - (i + 1) = n - i - 1 by omega]⟩)
 (show n - (i + 1) < n - i; omega)
theorem evalCast_in {e : Tm} {fuel : Int} (h : withinB fuel 0 300 = true) : mEvalCast e fuel = ((mEv fuel.toNat e).1, (mEv fuel.toNat e).2.1, (mEv fuel.toNat e).2.2.1) := by
 unfold mEvalCast; rw [if_pos (withinB_t h)]
theorem within_no {fuel : Int} (h : fuel < 0 ∨ 300 < fuel) : withinB fuel 0 300 = false := by unfold withinB; rw [decide_eq_false (by omega)]
theorem within_yes {fuel : Int} (h : 0 ≤ fuel) (h2 : fuel ≤ 300) : withinB fuel 0 300 = true := by unfold withinB; rw [decide_eq_true ⟨h, h2⟩]
theorem sEvalCast_fn (e : Tm) (fuel : Int) (G : IM) (cells : List Value) (hcnt : tmCount e ≤ 4294967296) (hr : RTm G e cells) : Fn Tryz.prog 40 [.agg ⟨cells⟩, .int .i64 fuel] [] G (StpX (mEvalCast e fuel)) := by
 have hRl := hr.len
 have hRo := hr.one
 have hno := @evalCast_no e fuel
 have hin := @evalCast_in e fuel
 refine fn_enter Tryz.func40 rfl Tryz.ntmps40 Tryz.results40 rfl ?_
 intro w0
 refine tS (tR ?_)
 refine sE (step_box_a rfl rfl) rfl (fun b3 => ?_)
 refine sE (step_alloc rfl) rfl (fun b4 => ?_)
 refine sQ (pA rfl) rfl (sQ (pA rfl) rfl (sD (nS (tS (tS (tR ?_))))))
 refine sQ (pM rfl) rfl (sB (pure_lss rfl rfl) rfl rfl (fun h13 => ?_) (fun h13 => ?_))
 refine sQ (pM rfl) rfl (sK rfl rfl (sK rfl rfl (sQ (pPt rfl rfl) rfl (sD (nS (cT rfl ?_))))))
 refine tS (tR (sQ (pBd rfl rfl) rfl (sS' ?_)))
 refine sQ (pA rfl) rfl (sQ (pA rfl) rfl (sD (nS (tT (rS (rF3 (rC rfl (lBa rfl rfl)) (rT rfl) (rT rfl) ?_))))))
 (exact StpX.mk (hno (within_no (by omega))) (tm0_r _))
 refine sQ (pM rfl) rfl (sQ (pM rfl) rfl (sB (pure_gtr rfl rfl) rfl rfl (fun h35 => ?_) (fun h35 => ?_)))
 refine sQ (pPf rfl rfl) rfl (sD (nS (cT rfl ?_)))
 refine tS (tR (sQ (pBd rfl rfl) rfl (sS' ?_)))
 refine sQ (pA rfl) rfl (sQ (pA rfl) rfl (sD (nS (tT (rS (rF3 (rC rfl (lBa rfl rfl)) (rT rfl) (rT rfl) ?_))))))
 (exact StpX.mk (hno (within_no (by omega))) (tm0_r _))
 refine sQ (pPf rfl rfl) rfl (sD (nS (cF rfl ?_)))
 refine tK (nS (tS (tR (sL (load_a rfl rfl (at_blk_all (by repeat first | exact mH | apply mT)) hRl) rfl rfl ?_))))
 refine sQ (pM rfl) rfl ?_
 (have hE := l5Eval_fn e fuel.toNat (by omega) G cells hcnt hr; rw [Int.toNat_of_nonneg (by omega)] at hE; have hin := hin (within_yes (by omega) (by omega)); refine seq_imm rfl hE rfl rfl (fun v G1 hle1 hh => ?_); obtain ⟨wc, hv, hrw⟩ := hh; have hwl := hrw.len; have hwo := hrw.one; generalize mEv fuel.toNat e = r at hv hrw hin; obtain ⟨w, c, l, i⟩ := r; simp only at hv hrw hin; subst hv)
 refine sQ (pM rfl) rfl (sQ (pX rfl rfl) rfl (sQ (pX rfl rfl) rfl (sQ (pX rfl rfl) rfl (sQ (pX rfl rfl) rfl ?_))))
 refine sE (step_alloc rfl) rfl (fun b68 => ?_)
 refine sS rfl rfl rfl hwl hwo rfl ?_ (hu := by exact upd_all hwl.symm)
 refine sQ (pA rfl) rfl (sQ (pA rfl) rfl (sQ (pA rfl) rfl (sD (nS (tS (tR ?_))))))
 refine sL (load_a rfl rfl (at_blk_all (by repeat first | exact mH | apply mT)) hwl) rfl rfl ?_
 refine sQ (pM rfl) rfl (sQ (pM rfl) rfl (sS rfl rfl rfl hwl hwo rfl ?_ (hu := by exact upd_all hwl.symm)))
 refine sQ (pA rfl) rfl (sQ (pA rfl) rfl (sD (nS (tT (rF3 (rC rfl (load_a rfl rfl (at_blk_all (by repeat first | exact mH | apply mT)) hwl)) (rT rfl) (rT rfl) ?_)))))
 (exact StpX.mk hin hrw)
theorem l5Text_fn : ∀ (t : Tm) (G : IM) (cells : List Value), cv t → mVal t = true → RTm G t cells → Fn Tryz.prog 41 [.agg ⟨cells⟩] [] G (Val (.string (mVText t)) G) := by
 refine Tm.ind fun k nm num ty fr lb ks ih G cells hc hv hr => ?_
 have hr0 := hr
 have hP := l5Proxy_fn _ G _ hr
 obtain ⟨hN, hkk⟩ := hc.node
 have hI := l5Inject_fn (.mk k nm num ty fr lb ks) G _ hN.frA hr
 have hop := hN.ops
 have hnum0 := hN.num0
 have h14 : k = 14 → ks.length = 1 := fun h => by rw [h] at hop; have : tmOps 14 = 1 := rfl; omega
 have hvp := @vt_pair k nm num ty fr lb ks
 have hvf := @vt_fun k nm num ty fr lb ks
 have hvc := @vt_cast k nm num ty fr lb ks
 have hvl := @vt_leaf k nm num ty fr lb ks
 have hvn := @val_no k nm num ty fr lb ks
 have hvy := @v_cast k nm num ty fr lb ks
 have hprx := prx_mk k nm num ty fr lb ks
 have hinj := inj_mk k nm num ty fr lb ks
 have h5 : k ≠ 10 → prx (.mk k nm num ty fr lb ks) = false → inj (.mk k nm num ty fr lb ks) = false → k = 2 ∨ k = 3 ∨ k = 4 ∨ k = 5 := fun h1 h2 h3 => by
  have := hvn h1 h2 h3; rw [hv] at this; exact of_decide_eq_true this.symm
 have hdis : prx (.mk k nm num ty fr lb ks) = true → inj (.mk k nm num ty fr lb ks) = false := fun h => by
  rw [hprx] at h; have := of_decide_eq_true h; rw [hinj, decide_eq_false (by omega)]; rfl
 have hik : inj (.mk k nm num ty fr lb ks) = true → k = 14 := fun h => inj_k h
 have hpk : prx (.mk k nm num ty fr lb ks) = true → k = 14 ∧ ty.k = fr.k := fun h => by rw [hprx] at h; have := of_decide_eq_true h; exact ⟨this.1, this.2.1.symm⟩
 have hkv := fun (h : inj (.mk k nm num ty fr lb ks) = true) => (hvy (.inr h) (h14 (hik h))).symm.trans hv
 obtain ⟨j, hj⟩ : ∃ j : Nat, num = j := ⟨num.toNat, by omega⟩
 have hdec := dec_fn j (by omega) G
 generalize hpx : prx (.mk k nm num ty fr lb ks) = bp at *
 generalize hij : inj (.mk k nm num ty fr lb ks) = bi at *
 subst hj
 obtain ⟨tk, tks⟩ := ty
 obtain ⟨fk, fks⟩ := fr
 obtain ⟨pt, ct, pf, cf, p, c, es, rfl, hk, hnum, hlb, hty, hfr, hsl, hkl⟩ := hr.open9
 refine fn_enter Tryz.func41 rfl Tryz.ntmps41 Tryz.results41 rfl ?_
 intro w0
 refine tS (tR ?_)
 refine sE (step_box_a rfl rfl) rfl (fun b3 => ?_)
 refine sQ (pA rfl) rfl (sD (nS (tS (tri_block (tS (tR ?_))))))
 refine sQ (pF0 rfl) rfl (sL (lBs rfl rfl) rfl rfl ?_)
 refine sB (pE rfl rfl) rfl rfl (fun h13 => ?_) (fun h13 => ?_)
 refine sQ (pA rfl) rfl (sD (nS (cT rfl ?_)))
 refine tS (tR (sQ (pF0 rfl) rfl (sL (lBs rfl rfl) rfl rfl ?_)))
 refine seq_val rfl (hdec) rfl rfl ?_
 refine sQ (pA rfl) rfl (sD (nS (tT (rB (rS (rF1 (rT rfl) ?_))))))
 (have hbp : bp = false := (by cases hb : bp with | false => rfl | true => (have := (hpk hb).1; omega)); refine ⟨rfl, congrArg Value.string ?_, rfl⟩; rw [hvl hbp (by omega) (by omega) (by omega)]; unfold mLeaf; first | (rw [if_pos (by omega)]; rfl) | (rw [if_neg (by omega), if_pos (by omega)]; rfl) | (rw [if_neg (by omega), if_neg (by omega)]; rfl))
 refine sQ (pA rfl) rfl (sD (nS (cF rfl ?_)))
 refine tS (tR (sQ (pF0 rfl) rfl (sL (lBs rfl rfl) rfl rfl ?_)))
 refine sB (pE rfl rfl) rfl rfl (fun h39 => ?_) (fun h39 => ?_)
 refine sQ (pA rfl) rfl (sD (nS (cT rfl ?_)))
 refine tS (tR (sQ (pA rfl) rfl (sD (nS (tT (rB ?_))))))
 refine rS (rF1 (rT rfl) ?_)
 (have hbp : bp = false := (by cases hb : bp with | false => rfl | true => (have := (hpk hb).1; omega)); refine ⟨rfl, congrArg Value.string ?_, rfl⟩; rw [hvl hbp (by omega) (by omega) (by omega)]; unfold mLeaf; first | (rw [if_pos (by omega)]; rfl) | (rw [if_neg (by omega), if_pos (by omega)]; rfl) | (rw [if_neg (by omega), if_neg (by omega)]; rfl))
 refine sQ (pA rfl) rfl (sD (nS (cF rfl ?_)))
 refine tS (tR (sQ (pF0 rfl) rfl (sL (lBs rfl rfl) rfl rfl ?_)))
 refine sB (pE rfl rfl) rfl rfl (fun h62 => ?_) (fun h62 => ?_)
 refine sQ (pA rfl) rfl (sD (nS (cT rfl ?_)))
 refine tS (tR (sQ (pA rfl) rfl (sD (nS (tT (rB ?_))))))
 refine rS (rF1 (rT rfl) ?_)
 (have hbp : bp = false := (by cases hb : bp with | false => rfl | true => (have := (hpk hb).1; omega)); refine ⟨rfl, congrArg Value.string ?_, rfl⟩; rw [hvl hbp (by omega) (by omega) (by omega)]; unfold mLeaf; first | (rw [if_pos (by omega)]; rfl) | (rw [if_neg (by omega), if_pos (by omega)]; rfl) | (rw [if_neg (by omega), if_neg (by omega)]; rfl))
 refine sQ (pA rfl) rfl (sD (nS (cF rfl ?_)))
 refine tS (tR (sQ (pF0 rfl) rfl (sL (lBs rfl rfl) rfl rfl ?_)))
 refine sB (pE rfl rfl) rfl rfl (fun h85 => ?_) (fun h85 => ?_)
 refine sQ (pM rfl) rfl (sK rfl rfl (sK rfl rfl (sK rfl rfl (sK rfl rfl (sK rfl rfl (sK rfl rfl ?_))))))
 refine sK rfl rfl (sK rfl rfl (sQ (pPt rfl rfl) rfl (sQ (pA rfl) rfl (sD (nS (cT rfl ?_))))))
 refine tS (tR (sQ (pA rfl) rfl (sD (nS (tT (rB ?_))))))
 refine rS (rF1 (rT rfl) ?_)
 (refine ⟨rfl, congrArg Value.string ?_, rfl⟩; rw [hvp (by first | exact .inl (by omega) | exact .inr ⟨by assumption, by have := (hpk (by assumption)).2; simp only [Ty.k] at this ⊢; omega⟩)]; rfl)
 refine sQ (pM rfl) rfl (sL (lBa rfl rfl) rfl rfl ?_)
 refine seq_valb rfl (hP) rfl rfl (fun h112 => ?_) (fun h112 => ?_)
 refine sQ (pM rfl) rfl (sQ (pF0 rfl) rfl (sQ (pF rfl) rfl (sL (lBs rfl rfl) rfl rfl ?_)))
 refine sB (pE rfl rfl) rfl rfl (fun h117 => ?_) (fun h117 => ?_)
 refine sQ (pPt rfl rfl) rfl (sQ (pPf rfl rfl) rfl (sQ (pA rfl) rfl (sD (nS (cT rfl ?_)))))
 refine tS (tR (sQ (pA rfl) rfl (sD (nS (tT (rB ?_))))))
 refine rS (rF1 (rT rfl) ?_)
 (refine ⟨rfl, congrArg Value.string ?_, rfl⟩; rw [hvp (by first | exact .inl (by omega) | exact .inr ⟨by assumption, by have := (hpk (by assumption)).2; simp only [Ty.k] at this ⊢; omega⟩)]; rfl)
 refine sQ (pPt rfl rfl) rfl (sQ (pPf rfl rfl) rfl (sQ (pA rfl) rfl (sD (nS (cF rfl ?_)))))
 refine tS (tR (sL (lBa rfl rfl) rfl rfl ?_))
 refine seq_valb rfl (hI) rfl rfl (fun h143 => ?_) (fun h143 => ?_)
 refine sQ (pA rfl) rfl (sD (nS (cT rfl ?_)))
 refine tS (tR (sQ (pF0 rfl) rfl (sL (lBs rfl rfl) rfl rfl ?_)))
 (have hl1 := h14 (hik (by assumption)); obtain ⟨bx, ox, e, rfl, hl, hat, hre, hgb⟩ := hsl.kidTm hkl (i := 0) (by omega) (by omega); have hih := ih ks[0] (List.getElem_mem (by omega)) G e (hkk _ (List.getElem_mem (by omega))) (hkv (by assumption)) hre; refine sP (pIN (j := 0) rfl rfl rfl (by omega)) rfl rfl ?_)
 refine sL (load_a rfl rfl (hat _) hl) rfl rfl ?_
 refine seq_val rfl (hih) rfl rfl ?_
 refine sQ (pA rfl) rfl (sD (nS (tT (rB (rS (rF1 (rT rfl) ?_))))))
 (have hbp : bp = false := (by cases hb : bp with | false => rfl | true => (have := hdis hb; have h9 : bi = true := (by assumption); rw [h9] at this; cases this)); refine ⟨rfl, congrArg Value.string ?_, rfl⟩; rw [hvc hbp (hik (by assumption)) (by omega)])
 refine sQ (pA rfl) rfl (sD (nS (cF rfl ?_)))
 refine tK (nrm_block (nS (tS (tR (sQ (pA rfl) rfl (sD ?_))))))
 refine nS (tT (rF1 (rT rfl) ?_))
 (refine ⟨rfl, congrArg Value.string ?_, rfl⟩; rw [hvf (by rintro (h | ⟨h1, h2⟩) <;> first | omega | exact Bool.noConfusion (h1.symm.trans (show bp = false by assumption)) | (have := (hpk h1).2; simp only [Ty.k] at this h2; omega)) (by cases hb : bp with | true => exact .inr rfl | false => exact .inl (by have := h5 (by omega) hb (by assumption); omega))]; rfl)
 refine sQ (pM rfl) rfl (sK rfl rfl (sK rfl rfl (sK rfl rfl (sK rfl rfl (sQ (pPf rfl rfl) rfl (sQ (pPf rfl rfl) rfl ?_))))))
 refine sQ (pA rfl) rfl (sD (nS (cF rfl ?_)))
 refine tS (tR (sL (lBa rfl rfl) rfl rfl ?_))
 refine seq_valb rfl (hI) rfl rfl (fun h192 => ?_) (fun h192 => ?_)
 refine sQ (pA rfl) rfl (sD (nS (cT rfl ?_)))
 refine tS (tR (sQ (pF0 rfl) rfl (sL (lBs rfl rfl) rfl rfl ?_)))
 (have hl1 := h14 (hik (by assumption)); obtain ⟨bx, ox, e, rfl, hl, hat, hre, hgb⟩ := hsl.kidTm hkl (i := 0) (by omega) (by omega); have hih := ih ks[0] (List.getElem_mem (by omega)) G e (hkk _ (List.getElem_mem (by omega))) (hkv (by assumption)) hre; refine sP (pIN (j := 0) rfl rfl rfl (by omega)) rfl rfl ?_)
 refine sL (load_a rfl rfl (hat _) hl) rfl rfl ?_
 refine seq_val rfl (hih) rfl rfl ?_
 refine sQ (pA rfl) rfl (sD (nS (tT (rB (rS (rF1 (rT rfl) ?_))))))
 (have hbp : bp = false := (by cases hb : bp with | false => rfl | true => (have := hdis hb; have h9 : bi = true := (by assumption); rw [h9] at this; cases this)); refine ⟨rfl, congrArg Value.string ?_, rfl⟩; rw [hvc hbp (hik (by assumption)) (by omega)])
 refine sQ (pA rfl) rfl (sD (nS (cF rfl ?_)))
 refine tK (nrm_block (nS (tS (tR (sQ (pA rfl) rfl (sD ?_))))))
 refine nS (tT (rF1 (rT rfl) ?_))
 (refine ⟨rfl, congrArg Value.string ?_, rfl⟩; rw [hvf (by rintro (h | ⟨h1, h2⟩) <;> first | omega | exact Bool.noConfusion (h1.symm.trans (show bp = false by assumption)) | (have := (hpk h1).2; simp only [Ty.k] at this h2; omega)) (by cases hb : bp with | true => exact .inr rfl | false => exact .inl (by have := h5 (by omega) hb (by assumption); omega))]; rfl)
theorem sRunTerm_fn (e : Tm) (fuel : Int) (G : IM) (cells : List Value) (hcnt : tmCount e ≤ 4294967296) (hr : RTm G e cells) : Fn Tryz.prog 20 [.agg ⟨cells⟩, .int .i64 fuel] [] G (RunX (mRunTerm e fuel) G) := by
 have hRl := hr.len
 have hRo := hr.one
 have hno := @runTerm_no e fuel
 have hyv := fun u t => @runTerm_v e u t fuel
 have hyn := fun u t => @runTerm_n e u t fuel
 refine fn_enter Tryz.func20 rfl Tryz.ntmps20 Tryz.results20 rfl ?_
 intro w0
 refine tS (tR ?_)
 refine sE (step_box_a rfl rfl) rfl (fun b3 => ?_)
 refine sQ (pA rfl) rfl (sQ (pA rfl) rfl (sQ (pA rfl) rfl (sD (nS (tS (tR ?_))))))
 refine sL (load_a rfl rfl (at_blk_all (by repeat first | exact mH | apply mT)) hRl) rfl rfl ?_
 focus (refine seq_imm rfl (sInsertCastsX_fn e G cells hcnt hr) rfl rfl (fun v G1 hle1 hh => ?_); obtain ⟨cu, ct, rfl, hru, hrt⟩ := hh; rcases hI : mInsert e with _ | ⟨u, t⟩; rotate_left; rw [hI] at hru hrt; simp only [Option.getD_some] at hru hrt; have hgI := insert_good hI; rotate_left; rw [hI] at hru hrt; simp only [Option.getD_none] at hru hrt; simp only [Option.isSome]; rotate_left; simp only [Option.isSome]; rotate_left; all_goals (have hul := hru.len; have huo := hru.one; obtain ⟨p3, c3, e3, rfl, _⟩ := hrt.open))
 refine sQ (pM rfl) rfl (sQ (pX rfl rfl) rfl (sQ (pX rfl rfl) rfl (sQ (pX rfl rfl) rfl ?_)))
 refine sE (step_alloc rfl) rfl (fun b17 => ?_)
 refine sE (step_alloc rfl) rfl (fun b18 => ?_)
 refine sS rfl rfl rfl hul huo rfl ?_ (hu := by exact upd_all hul.symm)
 refine sS' ?_
 refine sQ (pA rfl) rfl (sD (nS (tS (tS (tR (sQ (pM rfl) rfl ?_))))))
 refine sQ (pNf rfl) rfl (sD (nS (cT rfl ?_)))
 refine tS (tR (sQ (pA rfl) rfl (sQ (pA rfl) rfl (sQ (pA rfl) rfl (sD (nS ?_))))))
 refine tT (rS (rF3 (rT rfl) (rT rfl) (rT rfl) ?_))
 (exact ⟨rfl, by rw [hno (by first | exact hI | rfl | assumption)]⟩)
 refine sQ (pM rfl) rfl (sQ (pX rfl rfl) rfl (sQ (pX rfl rfl) rfl (sQ (pX rfl rfl) rfl ?_)))
 refine sE (step_alloc rfl) rfl (fun b47 => ?_)
 refine sE (step_alloc rfl) rfl (fun b48 => ?_)
 refine sS rfl rfl rfl hul huo rfl ?_ (hu := by exact upd_all hul.symm)
 refine sS' ?_
 refine sQ (pA rfl) rfl (sD (nS (tS (tS (tR (sQ (pM rfl) rfl ?_))))))
 refine sQ (pNt rfl) rfl (sD (nS (cF rfl ?_)))
 refine tK (nS (tS (tR (sL (load_a rfl rfl (at_blk_all (by repeat first | exact mH | apply mT)) hul) rfl rfl ?_))))
 refine sQ (pM rfl) rfl ?_
 (have hyv := hyv u t hI; have hyn := hyn u t hI; have hev := @evalCast_val u fuel; refine seq_imm rfl (sEvalCast_fn u fuel G1 cu (by have := castValid_count hgI.1; omega) hru) rfl rfl (fun v G2 hle2 hh => ?_); obtain ⟨wc, hvv, hrw⟩ := hh; have hwl := hrw.len; have hwo := hrw.one; generalize mEvalCast u fuel = r at hvv hrw hyv hyn hev; obtain ⟨w, c, l⟩ := r; simp only at hvv hrw hyv hyn hev; subst hvv)
 refine sQ (pM rfl) rfl (sQ (pX rfl rfl) rfl (sQ (pX rfl rfl) rfl (sQ (pX rfl rfl) rfl ?_)))
 refine sE (step_alloc rfl) rfl (fun b73 => ?_)
 refine sS rfl rfl rfl hwl hwo rfl ?_ (hu := by exact upd_all hwl.symm)
 refine sQ (pA rfl) rfl (sQ (pA rfl) rfl (sD (nS (tS (tS (tR ?_))))))
 refine sQ (pM rfl) rfl (sB (pure_neq rfl rfl) rfl rfl (fun h83 => ?_) (fun h83 => ?_))
 refine sD (nS (cT rfl ?_))
 refine tS (tR (sQ (pM rfl) rfl (sQ (pM rfl) rfl (sQ (pA rfl) rfl (sQ (pA rfl) rfl (sQ (pA rfl) rfl ?_))))))
 refine sD (nS (tT (rS (rF3 (rT rfl) (rT rfl) (rT rfl) ?_))))
 (exact ⟨rfl, by rw [hyn (by omega)]⟩)
 refine sD (nS (cF rfl ?_))
 refine tK (nS (tS (tR (sL (load_a rfl rfl (at_blk_all (by repeat first | exact mH | apply mT)) hwl) rfl rfl ?_))))
 (obtain ⟨he1, he2, he3⟩ := hev (by omega); refine seq_val rfl (l5Text_fn w G2 wc (cv_of he1).1 he2 hrw) rfl rfl ?_)
 refine sQ (pM rfl) rfl (sQ (pA rfl) rfl (sQ (pA rfl) rfl (sQ (pA rfl) rfl (sD (nS (tT ?_))))))
 refine rF3 (rT rfl) (rT rfl) (rT rfl) ?_
 (obtain rfl : c = 0 := (by omega); subst he3; exact ⟨rfl, by rw [hyv rfl]⟩)
/-- What a blamed cast is: its path, its label, whether there is one. -/
def mBlm (e : Tm) (fuel : Int) : List Int × Int × Bool :=
 if (mRunTerm e fuel).2.1 = 2 then ((mCast ((mInsert e).getD (tm0, ty0)).1 (absLb (mRunTerm e fuel).2.2)).1, (mRunTerm e fuel).2.2, (mCast ((mInsert e).getD (tm0, ty0)).1 (absLb (mRunTerm e fuel).2.2)).2) else ([], 0, false)
def BlmP (e : Tm) (fuel : Int) (G : IM) : IM → Value → List Ent → Prop := Imm fun G' v => ∃ p c, v = .tuple ⟨[.slice p (mBlm e fuel).1.length c, .int .i64 (mBlm e fuel).2.1, .bool (mBlm e fuel).2.2]⟩ ∧ SP1 (Dif G' G) (mBlm e fuel).1 p c
theorem BlmP.no {e : Tm} {fuel : Int} {G G' : IM} {p : Option Addr} {c : Nat} (h : ¬ (mRunTerm e fuel).2.1 = 2) (hs : SP1 (Dif G' G) [] p c) : BlmP e fuel G G' (.tuple ⟨[.slice p 0 c, .int .i64 0, .bool false]⟩) [] := by
 refine ⟨rfl, p, c, ?_, ?_⟩
 ·unfold mBlm; rw [if_neg h]; rfl
 ·unfold mBlm; rw [if_neg h]; exact hs
theorem BlmP.yes {e : Tm} {fuel : Int} {G G1 G' : IM} {p : Option Addr} {c : Nat} {l : Int} (hl : (mRunTerm e fuel).2.2 = l) (h : (mRunTerm e fuel).2.1 = 2) (hle : IMle G G1)
  (hs : SP1 (Dif G' G1) (mCast ((mInsert e).getD (tm0, ty0)).1 (absLb l)).1 p c) : BlmP e fuel G G' (.tuple ⟨[.slice p (mCast ((mInsert e).getD (tm0, ty0)).1 (absLb l)).1.length c, .int .i64 l, .bool (mCast ((mInsert e).getD (tm0, ty0)).1 (absLb l)).2]⟩) [] := by
 subst hl
 refine ⟨rfl, p, c, ?_, ?_⟩
 ·unfold mBlm; rw [if_pos h]
 ·unfold mBlm; rw [if_pos h]; exact hs.mono (Dif.anti hle)
theorem cv_lbOk : ∀ t : Tm, cv t → lbOk (fun l => -99 ≤ l ∧ l ≤ 99) t := by
 refine Tm.ind fun k nm num ty fr lb ks ih hc => ?_
 obtain ⟨hN, hk⟩ := hc.node
 rw [lbOk_mk]
 exact ⟨fun _ => hN.lbB, lbOkL_mem.2 fun t ht => ih t ht (hk t ht)⟩
theorem run_lab {e : Tm} {fuel : Int} (h : (mRunTerm e fuel).2.1 = 2) : -99 ≤ (mRunTerm e fuel).2.2 ∧ (mRunTerm e fuel).2.2 ≤ 99 := by
 cases hi : mInsert e with
 | none => rw [runTerm_no hi] at h; simp at h
 | some r =>
  obtain ⟨u, t⟩ := r
  obtain ⟨g1, g2, g3⟩ := insert_good hi
  by_cases h0 : (mEvalCast u fuel).2.1 = 0
  ·rw [runTerm_v hi h0] at h; simp at h
  ·rw [runTerm_n hi h0] at h ⊢
   simp only at h ⊢
   unfold mEvalCast at h ⊢
   split at h
   ·rename_i hf
    rw [if_pos hf]
    have := ev_good (fun l => -99 ≤ l ∧ l ≤ 99) (fun l hl => ⟨by omega, by omega⟩) fuel.toNat u t g1 g2 (cv_lbOk u (cv_of g1).1)
    simp only at h
    rcases this with ⟨q, _⟩ | ⟨_, q⟩ | ⟨q, _⟩ | ⟨q, _⟩
    ·omega
    ·exact q
    ·omega
    ·omega
   ·simp [stuck] at h
theorem absLb_max {l : Int} (h : -99 ≤ l ∧ l ≤ 99) : absLb l = if l < -l then -l else l := by
 unfold absLb
 rw [if_neg (by omega)]
 split <;> split <;> omega
theorem ins_count (e : Tm) : tmCount ((mInsert e).getD (tm0, ty0)).1 ≤ 4294967296 := by
 cases hi : mInsert e with
 | none => decide
 | some r =>
  obtain ⟨u, t⟩ := r
  have := castValid_count (insert_good hi).1
  show tmCount u ≤ _
  omega
theorem pure_max {P : Program} {Γ : Ctx} {env : Env} {hp : List Ent} {G : IM} {ty t1 t2 : TypeId} {x y : Operand} {k k' : IntKind} {m n : Int} (hx : evo env x = some (.int k m)) (hy : evo env y = some (.int k' n)) :
  PureOp P Γ ⟨env, hp, G⟩ (.call ⟨.builtin .max, ⟨[x, y]⟩, ⟨[t1, t2]⟩⟩) ty (.int k (if m < n then n else m)) := by
 refine ⟨fun a _ hs _ _ _ _ w => ?_⟩
 simp [execOp, resolve, invoke, builtin, Builtin.max_, Builtin.max2, (hs.evo hx : a.eval x = _), (hs.evo hy : a.eval y = _)]
theorem blamedCast_fn (e : Tm) (fuel : Int) (G : IM) (cells : List Value) (hT : TabG G) (hr : RTm G e cells) : Fn Tryz.prog 11 [.agg ⟨cells⟩, .int .i64 fuel] [] G (BlmP e fuel G) := by
 have hRl := hr.len
 have hRo := hr.one
 have hlab := @run_lab e fuel
 refine fn_enter Tryz.func11 rfl Tryz.ntmps11 Tryz.results11 rfl ?_
 intro w0
 refine tS (tR ?_)
 refine sE (step_box_a rfl rfl) rfl (fun b3 => ?_)
 refine sQ (pA rfl) rfl (sQ (pA rfl) rfl (sQ (pA rfl) rfl (sD (nS (tS (tR ?_))))))
 refine sL (load_a rfl rfl (at_blk_all (by repeat first | exact mH | apply mT)) hRl) rfl rfl ?_
 refine sQ (pM rfl) rfl ?_
 (refine seq_imm rfl (runTerm_fn e fuel G cells hT hr) rfl rfl (fun v1 G1 hle1 hh => ?_); obtain ⟨r, hR⟩ : ∃ r, mRunTerm e fuel = r := ⟨_, rfl⟩; have hr1 := hr.mono hle1; rw [hR] at hh hlab; obtain ⟨s, c, l⟩ := r; simp only at hh hlab; subst hh; have hc2 : (mRunTerm e fuel).2.1 = c := (by rw [hR]); have hl2 : (mRunTerm e fuel).2.2 = l := (by rw [hR]))
 refine sQ (pM rfl) rfl (sQ (pX rfl rfl) rfl (sQ (pX rfl rfl) rfl (sQ (pX rfl rfl) rfl (sQ (pA rfl) rfl (sQ (pA rfl) rfl (sQ (pA rfl) rfl ?_))))))
 refine sD (nS (tS (tS (tR (sQ (pM rfl) rfl (sB (pure_neq rfl rfl) rfl rfl (fun h27 => ?_) (fun h27 => ?_)))))))
 refine sD (nS (cT rfl ?_))
 refine tS (tR (sQ (pA rfl) rfl (sQ (pA rfl) rfl (sQ (pA rfl) rfl (sD (nS ?_))))))
 refine tT (rS (rF3 (rT rfl) (rT rfl) (rT rfl) ?_))
 exact BlmP.no (by omega) (SP1.nil _)
 refine sD (nS (cF rfl ?_))
 refine tK (nS (tS (tR (sL (load_a rfl rfl (at_blk_all (by repeat first | exact mH | apply mT)) hRl) rfl rfl ?_))))
 (have hl99 := hlab (by omega); have hmx := absLb_max hl99; refine seq_imm rfl (insertCastsX_fn e G1 cells hr1) rfl rfl (fun v2 G2 hle2 hh => ?_); obtain ⟨cu, ct, rfl, hru, hrt⟩ := hh; obtain ⟨qt, dt, et2, rfl, _⟩ := hrt.open; have hlu := hru.len; have hou := hru.one)
 refine sQ (pM rfl) rfl (sQ (pX rfl rfl) rfl (sQ (pX rfl rfl) rfl (sQ (pX rfl rfl) rfl ?_)))
 refine sE (step_alloc rfl) rfl (fun b55 => ?_)
 refine sE (step_alloc rfl) rfl (fun b56 => ?_)
 refine seq_store rfl rfl rfl (by assumption) (by assumption) rfl (by repeat first | exact Sw.here | apply Sw.there) (by exact upd_all (by symm; assumption)) ?_
 refine sS' ?_
 refine sQ (pA rfl) rfl (sD (nS (tS (tR (sL (load_a rfl rfl (at_blk_all (by repeat first | exact mH | apply mT)) hlu) rfl rfl ?_)))))
 refine sQ (pM rfl) rfl (sQ (pM rfl) rfl (sP (pure_neg rfl (by omega) (by omega)) rfl rfl ?_))
 refine sQ (pure_max rfl rfl) rfl ?_
 (rw [← hmx]; refine seq_imm rfl (castPath_fn _ _ G2 cu hru) rfl rfl (fun v3 G3 hle3 hh => ?_); obtain ⟨p3, c3, rfl, hp3⟩ := hh)
 refine sQ (pM rfl) rfl (sQ (pX rfl rfl) rfl (sQ (pX rfl rfl) rfl (sQ (pA rfl) rfl (sQ (pA rfl) rfl (sD (nS ?_))))))
 refine tS (tR (sQ (pM rfl) rfl (sQ (pM rfl) rfl (sQ (pM rfl) rfl (sQ (pA rfl) rfl (sQ (pA rfl) rfl ?_))))))
 refine sQ (pA rfl) rfl (sD (nS (tT (rF3 (rT rfl) (rT rfl) (rT rfl) ?_))))
 exact BlmP.yes hl2 (by omega) (hle1.trans hle2) hp3
theorem sBlamedCast_fn (e : Tm) (fuel : Int) (G : IM) (cells : List Value) (hcnt : tmCount e ≤ 4294967296) (hr : RTm G e cells) : Fn Tryz.prog 10 [.agg ⟨cells⟩, .int .i64 fuel] [] G (BlmP e fuel G) := by
 have hRl := hr.len
 have hRo := hr.one
 have hic := ins_count e
 refine fn_enter Tryz.func10 rfl Tryz.ntmps10 Tryz.results10 rfl ?_
 intro w0
 refine tS (tR ?_)
 refine sE (step_box_a rfl rfl) rfl (fun b3 => ?_)
 refine sQ (pA rfl) rfl (sQ (pA rfl) rfl (sQ (pA rfl) rfl (sD (nS (tS (tR ?_))))))
 refine sL (load_a rfl rfl (at_blk_all (by repeat first | exact mH | apply mT)) hRl) rfl rfl ?_
 refine sQ (pM rfl) rfl ?_
 (refine seq_imm rfl (sRunTerm_fn e fuel G cells hcnt hr) rfl rfl (fun v1 G1 hle1 hh => ?_); obtain ⟨r, hR⟩ : ∃ r, mRunTerm e fuel = r := ⟨_, rfl⟩; have hr1 := hr.mono hle1; rw [hR] at hh; obtain ⟨s, c, l⟩ := r; simp only at hh; subst hh; have hc2 : (mRunTerm e fuel).2.1 = c := (by rw [hR]); have hl2 : (mRunTerm e fuel).2.2 = l := (by rw [hR]))
 refine sQ (pM rfl) rfl (sQ (pX rfl rfl) rfl (sQ (pX rfl rfl) rfl (sQ (pX rfl rfl) rfl (sQ (pA rfl) rfl (sQ (pA rfl) rfl (sQ (pA rfl) rfl ?_))))))
 refine sD (nS (tS (tS (tR (sQ (pM rfl) rfl (sB (pure_neq rfl rfl) rfl rfl (fun h27 => ?_) (fun h27 => ?_)))))))
 refine sD (nS (cT rfl ?_))
 refine tS (tR ?_)
 (refine seq_step (step_buildSlice rfl rfl rfl (by omega) (by unfold maxLen; omega) rfl) rfl ?_; rintro _ ⟨b33, rfl⟩)
 refine sQ (pA rfl) rfl (sQ (pA rfl) rfl (sQ (pA rfl) rfl (sD (nS ?_))))
 (refine ret_freeze (by repeat (first | exact Pk.here | apply Pk.there)) (fun G5 hle5 hsl5 hno5 => ?_))
 refine tT (rS (rF3 (rT rfl) (rT rfl) (rT rfl) ?_))
 (exact BlmP.no (by omega) ⟨by simpa [ints] using hsl5.dif (fun b hb => (hno5 b hb).1) hle1, fun b hb => dif_in hle1 (hno5 b hb)⟩)
 refine sD (nS (cF rfl ?_))
 refine tK (nS (tS (tR (sL (load_a rfl rfl (at_blk_all (by repeat first | exact mH | apply mT)) hRl) rfl rfl ?_))))
 (refine seq_imm rfl (sInsertCastsX_fn e G1 cells hcnt hr1) rfl rfl (fun v2 G2 hle2 hh => ?_); obtain ⟨cu, ct, rfl, hru, hrt⟩ := hh; obtain ⟨qt, dt, et2, rfl, _⟩ := hrt.open; have hlu := hru.len; have hou := hru.one)
 refine sQ (pM rfl) rfl (sQ (pX rfl rfl) rfl (sQ (pX rfl rfl) rfl (sQ (pX rfl rfl) rfl ?_)))
 refine sE (step_alloc rfl) rfl (fun b57 => ?_)
 refine sE (step_alloc rfl) rfl (fun b58 => ?_)
 refine seq_store rfl rfl rfl (by assumption) (by assumption) rfl (by repeat first | exact Sw.here | apply Sw.there) (by exact upd_all (by symm; assumption)) ?_
 refine sS' ?_
 refine sQ (pA rfl) rfl (sD (nS (tS (tri_draw mixed rfl ?_))))
 refine any_load (i := 0) (l' := [tt,ff,ff,ff,ff,ff,ff,ff,ff]) rfl npI (load_a rfl rfl (at_blk_all (by repeat first | exact mH | apply mT)) hlu) rfl (by kernel_rfl) rfl rfl ?_
 refine aP 1 rfl (pM rfl) rfl ?_
 refine aO' 2 ?_
 refine one_val rfl rfl (l1Abs_fn l _) rfl rfl rfl ?_
 refine aO' 3 ?_
 (refine one_imm rfl rfl (sCastPath_fn _ _ G2 cu hic hru) rfl rfl rfl (fun v3 G3 hle3 hh => ?_); obtain ⟨p3, c3, rfl, hp3⟩ := hh)
 refine aP 4 rfl (pM rfl) rfl ?_
 refine aP 5 rfl (pX rfl rfl) rfl ?_
 refine aP 6 rfl (pX rfl rfl) rfl ?_
 refine aP 7 rfl (pA rfl) rfl ?_
 refine aP 8 rfl (pA rfl) rfl ?_
 refine aD' ?_
 refine nS (tS (tR (sQ (pM rfl) rfl (sQ (pM rfl) rfl (sQ (pM rfl) rfl (sQ (pA rfl) rfl ?_))))))
 refine sQ (pA rfl) rfl (sQ (pA rfl) rfl (sD (nS (tT (rF3 (rT rfl) (rT rfl) (rT rfl) ?_)))))
 exact BlmP.yes hl2 (by omega) (hle1.trans hle2) hp3
theorem blm_len (t : Tm) (fuel : Int) : (mBlm t fuel).1.length ≤ 200 := by
 unfold mBlm
 split
 ·exact mCast_len _ _
 ·simp
theorem blm_open {t : Tm} {fuel : Int} {l : List Int} {n : Int} {b : Bool} {G G' : IM} {v : Value} (hB : mBlm t fuel = (l, n, b))
  (hh : ∃ p c, v = .tuple ⟨[.slice p (mBlm t fuel).1.length c, .int .i64 (mBlm t fuel).2.1, .bool (mBlm t fuel).2.2]⟩ ∧ SP1 (Dif G' G) (mBlm t fuel).1 p c) :
  ∃ p c, v = .tuple ⟨[.slice p l.length c, .int .i64 n, .bool b]⟩ ∧ SP1 (Dif G' G) l p c := by rw [hB] at hh; exact hh
theorem exactBlamedCast_fn (t : Tm) (fuel : Int) (G : IM) (cells : List Value) (hT : TabG G) (hno : t.nok) (hr : RTm G t cells) (hf : I64 fuel) :
  Fn Tryz.prog 4 [.agg ⟨cells⟩, .int .i64 fuel] [] G (Imm fun _ v => v = .bool true) := by
 have hl := hr.len
 have hone := hr.one
 have hz := szTerm_fn t 1048576 G cells (by omega) (by omega) hno hr
 have hzn := szTm_nn t
 have hcs := count_sz t
 have hms := marks_sz t
 have hm1 := cntTyL_nn t.ty.ks
 have hm2 := cntTyL_nn t.fr.ks
 have hm3 := cntTmL_nn t.ks
 have hmc0 := blm_len t fuel
 obtain ⟨l, n, b, hB⟩ : ∃ l n b, mBlm t fuel = (l, n, b) := ⟨_, _, _, rfl⟩
 rw [hB] at hmc0
 have hmc : l.length ≤ 200 := hmc0
 refine fn_enter Tryz.func4 rfl Tryz.ntmps4 Tryz.results4 rfl ?_
 intro w0
 refine tS (tR ?_)
 refine sE (step_box_a rfl rfl) rfl (fun b3 => ?_)
 refine sQ (pA rfl) rfl (sD (nS (tS (tR (sQ (pA rfl) rfl (sD ?_))))))
 refine nS (tS (tR (sL (load_a rfl rfl (at_blk_all (by repeat first | exact mH | apply mT)) (by assumption)) rfl rfl ?_)))
 refine sQ (pM rfl) rfl ?_
 (rcases res_cases 1048576 (szTm t) with ⟨hc, hrs⟩ | ⟨hc, hrs⟩ <;> (rw [hrs] at hz; refine seq_val rfl hz rfl rfl ?_))
 refine sQ (pA rfl) rfl (sD (nS (tS (tS (tR (sQ (pM rfl) rfl ?_))))))
 refine sP (pure_lss_f rfl rfl (by omega)) rfl rfl ?_
 refine sD (nS (cF rfl ?_))
 refine tK (nS (tS (tR (sL (load_a rfl rfl (at_blk_all (by repeat first | exact mH | apply mT)) (by assumption)) rfl rfl ?_))))
 (refine seq_imm rfl (toTerm_fn t G cells (small_tm t (by omega)) hr) rfl rfl (fun v1 G1 hle1 hh => ?_); obtain ⟨cells1, F1, rfl, hs1, hn1⟩ := hh; have hA := sBlamedCast_fn t fuel G1 cells1 (by omega) (hs1.R.mono (Dif.le _ _)))
 refine sQ (pM rfl) rfl ?_
 (refine seq_imm rfl hA rfl rfl (fun v2 G2 hle2 hh => ?_); obtain ⟨p2, c2, rfl, hp2⟩ := blm_open hB hh; have hle02 := hle1.trans hle2; have hr2 := hr.mono hle02)
 refine sQ (pM rfl) rfl (sQ (pX rfl rfl) rfl (sQ (pX rfl rfl) rfl (sQ (pX rfl rfl) rfl (sQ (pA rfl) rfl (sQ (pA rfl) rfl (sQ (pA rfl) rfl ?_))))))
 refine sD (nS (tS (tR (sL (load_a rfl rfl (at_blk_all (by repeat first | exact mH | apply mT)) (by assumption)) rfl rfl ?_))))
 (refine seq_imm rfl (toTerm_fn t G2 cells (small_tm t (by omega)) hr2) rfl rfl (fun v3 G3 hle3 hh => ?_); obtain ⟨cells3, F3, rfl, hs3, hn3⟩ := hh; have hl3 := hs3.R.len; have ho3 := hs3.R.one; have hI := blamedCast_fn t fuel G3 cells3 (((hT.mono hle1).mono hle2).mono hle3) (hs3.R.mono (Dif.le _ _)))
 refine sE (step_alloc rfl) rfl (fun b49 => ?_)
 refine seq_store rfl rfl rfl (by assumption) (by assumption) rfl (by repeat first | exact Sw.here | apply Sw.there) (by exact upd_all (by symm; assumption)) ?_
 refine sD (nS (tS (tR (sL (load_a rfl rfl (at_blk_all (by repeat first | exact mH | apply mT)) (by assumption)) rfl rfl ?_))))
 refine sQ (pM rfl) rfl ?_
 (refine seq_imm rfl hI rfl rfl (fun v4 G4 hle4 hh => ?_); obtain ⟨p4, c4, rfl, hp4⟩ := blm_open hB hh; have hle24 := hle3.trans hle4; have m2 : IMle (Dif G2 G1) G4 := (Dif.le G2 G1).trans hle24; have hr4 := hr2.mono hle24)
 refine sQ (pM rfl) rfl (sQ (pX rfl rfl) rfl (sQ (pX rfl rfl) rfl (sQ (pX rfl rfl) rfl (sQ (pA rfl) rfl (sQ (pA rfl) rfl (sQ (pA rfl) rfl ?_))))))
 refine sD (nS (tS (tS (tR (sQ (pM rfl) rfl (sQ (pM rfl) rfl ?_))))))
 refine seq_val rfl (eqIntS_fn l G4 p4 p2 c4 c2 (hp4.1.mono (Dif.le _ _)) (hp2.1.mono m2)) rfl rfl ?_
 refine sQ (pNt rfl) rfl (sQ (pM rfl) rfl (sQ (pM rfl) rfl (sQ (pM rfl) rfl (sP (pure_neq_f rfl rfl (by omega)) rfl rfl ?_))))
 refine sQ (pPf rfl rfl) rfl (sQ (pM rfl) rfl (sQ (pM rfl) rfl (sQ (pM rfl) rfl (sQ (pure_bneq_s rfl rfl rfl) rfl (sQ (pPf rfl rfl) rfl (sD ?_))))))
 refine nS (cF rfl ?_)
 refine tK (nS (tS (tS (tri_draw mixed rfl ?_))))
 refine any_load (i := 0) (l' := [tt,ff,ff,ff,ff]) rfl npI (load_a rfl rfl (at_blk_all (by repeat first | exact mH | apply mT)) (by assumption)) rfl (by kernel_rfl) rfl rfl ?_
 refine aL 1 rfl (load_a rfl rfl (at_blk_all (by repeat first | exact mH | apply mT)) (by assumption)) rfl ?_
 refine aO' 2 ?_
 (refine one_imm rfl rfl (toTerm_fn t G4 cells (small_tm t (by omega)) hr4) rfl rfl rfl (fun v5 G5 hle5 hh => ?_); obtain ⟨cells5, F5, rfl, hs5, hn5⟩ := hh)
 refine aO' 3 ?_
 refine one_val rfl rfl (eqTerm_fn t G5 cells3 cells5 (hs3.R.mono ((Dif.le _ _).trans (hle4.trans hle5))) (hs5.R.mono (Dif.le _ _))) rfl rfl rfl ?_
 refine aP 4 rfl (pNt rfl) rfl ?_
 refine aD' ?_
 refine nS (cF rfl ?_)
 refine tK (nS (tS (tR (sQ (pA rfl) rfl (sD (nS ?_))))))
 refine tS (tR (sL (load_a rfl rfl (at_blk_all (by repeat first | exact mH | apply mT)) (by assumption)) rfl rfl ?_))
 refine sQ (pM rfl) rfl ?_
 (obtain ⟨bs3, ob3, ib3⟩ := hs3.blks; obtain ⟨nb3, gb3, kb3⟩ := thaw_hyp (Gc := G5) ib3 hn3 hle02 ((Dif.le G3 G2).trans (hle4.trans hle5)); refine seq_lend_x nb3 gb3 rfl (markTerm_fn t 1 _ cells3 bs3 ob3 (by omega) (by omega)) rfl rfl ?_; have h46 : IMle (Dif G4 G3) (Wo G5 (bs3.map Prod.fst)) := Wo.keep ((Dif.le G4 G3).trans hle5) (fun b hb => dif_none (kb3 b hb).2); have h26 : IMle (Dif G2 G1) (Wo G5 (bs3.map Prod.fst)) := Wo.keep (m2.trans hle5) (fun b hb => none_le (Dif.le G2 G1) (kb3 b hb).1); have h06 : IMle G (Wo G5 (bs3.map Prod.fst)) := Wo.keep (hle02.trans (hle24.trans hle5)) (fun b hb => none_le hle02 (kb3 b hb).1); generalize Wo G5 (bs3.map Prod.fst) = G6 at *)
 refine sQ (pA rfl) rfl (sD (nS (tS (tS (tR (sQ (pM rfl) rfl ?_))))))
 refine sP (pure_lss_f rfl rfl (by omega)) rfl rfl ?_
 refine sQ (pM rfl) rfl (sQ (pM rfl) rfl (sQ (pM rfl) rfl (seq_val rfl (eqIntS_fn l G6 p4 p2 c4 c2 (hp4.1.mono h46) (hp2.1.mono h26)) rfl rfl ?_)))
 refine sQ (pNt rfl) rfl (sQ (pPf rfl rfl) rfl (sQ (pM rfl) rfl (sQ (pM rfl) rfl (sQ (pM rfl) rfl (sP (pure_neq_f rfl rfl (by omega)) rfl rfl ?_)))))
 refine sQ (pPf rfl rfl) rfl (sQ (pM rfl) rfl (sQ (pM rfl) rfl (sQ (pM rfl) rfl (sQ (pure_bneq_s rfl rfl rfl) rfl (sQ (pPf rfl rfl) rfl (sD ?_))))))
 refine nS (cF rfl ?_)
 refine tK (nS (tS (tR (sQ (pA rfl) rfl (sD (nS ?_))))))
 refine tS (tR (sQ (pM rfl) rfl (sQ (pM rfl) rfl ?_)))
 (obtain ⟨bs4, ob4, ib4⟩ := hp4.blks; obtain ⟨nb4, gb4, kb4⟩ := thaw_hyp (Gc := G6) ib4 (vfp_nodup p4) (hle02.trans hle3) h46; refine seq_lend_f nb4 gb4 rfl (markIntS_fn l 1 _ p4 c4 bs4 ob4 (by omega) (by omega)) rfl rfl (fun bs5 G8 hb5 hle8 hg5 => ?_); have h28 : IMle (Dif G2 G1) G8 := (Wo.keep h26 (fun b hb => none_le (Dif.le G2 G1) (none_le hle3 (kb4 b hb).1))).trans hle8; have h08 : IMle G G8 := (Wo.keep h06 (fun b hb => none_le hle02 (none_le hle3 (kb4 b hb).1))).trans hle8; have hq8 := hb5.sl hg5; rw [mkInts_len] at hq8; have hr8 := hr.mono h08)
 refine sQ (pA rfl) rfl (sD (nS (tS (tR (sQ (pA rfl) rfl (sD ?_))))))
 refine nS (tS (tR (sQ (pM rfl) rfl (sQ (pM rfl) rfl (seq_val rfl (heldIntS_fn l.length 1 G8 p4 c4 hq8 (by omega) (by omega)) rfl rfl ?_)))))
 refine sQ (pA rfl) rfl (sD (nS (tS (tS (tR (sQ (pM rfl) rfl ?_))))))
 refine sP (pure_lss_f rfl rfl (by omega)) rfl rfl ?_
 refine sD (nS (cF rfl ?_))
 refine tK (nS (tS (tS (tR (sQ (pM rfl) rfl (sQ (pM rfl) rfl ?_))))))
 refine sP (pure_neq_f rfl rfl (by omega)) rfl rfl ?_
 refine sD (nS (cF rfl ?_))
 refine tK (nS (tS (tR (sL (load_a rfl rfl (at_blk_all (by repeat first | exact mH | apply mT)) (by assumption)) rfl rfl ?_))))
 (refine seq_imm rfl (toTerm_fn t G8 cells (small_tm t (by omega)) hr8) rfl rfl (fun v9 G9 hle9 hh => ?_); obtain ⟨cells9, F9, rfl, hs9, hn9⟩ := hh; have hI9 := blamedCast_fn t fuel G9 cells9 ((hT.mono h08).mono hle9) (hs9.R.mono (Dif.le _ _)))
 refine sQ (pM rfl) rfl ?_
 (refine seq_imm rfl hI9 rfl rfl (fun v10 G10 hle10 hh => ?_); obtain ⟨p10, c10, rfl, hp10⟩ := blm_open hB hh; have h210 := h28.trans (hle9.trans hle10))
 refine sQ (pM rfl) rfl (sQ (pX rfl rfl) rfl (sQ (pX rfl rfl) rfl (sQ (pX rfl rfl) rfl (sQ (pA rfl) rfl (sQ (pA rfl) rfl (sQ (pA rfl) rfl ?_))))))
 refine sD (nS (tS (tS (tR (sQ (pM rfl) rfl (sQ (pM rfl) rfl ?_))))))
 refine seq_val rfl (eqIntS_fn l G10 p10 p2 c10 c2 (hp10.1.mono (Dif.le _ _)) (hp2.1.mono h210)) rfl rfl ?_
 refine sQ (pNt rfl) rfl (sQ (pM rfl) rfl (sQ (pM rfl) rfl (sQ (pM rfl) rfl (sP (pure_neq_f rfl rfl (by omega)) rfl rfl ?_))))
 refine sQ (pPf rfl rfl) rfl (sQ (pM rfl) rfl (sQ (pM rfl) rfl (sQ (pM rfl) rfl (sQ (pure_bneq_s rfl rfl rfl) rfl (sQ (pPf rfl rfl) rfl (sD ?_))))))
 refine nS (cF rfl ?_)
 refine tK (nS (tS (tR (sQ (pA rfl) rfl (sD (nS ?_))))))
 refine tS (tR (sQ (pM rfl) rfl (sQ (pM rfl) rfl (seq_val rfl (heldIntS_fn l.length 1 G10 p4 c4 (hq8.mono (hle9.trans hle10)) (by omega) (by omega)) rfl rfl ?_))))
 refine sQ (pA rfl) rfl (sD (nS (tS (tS (tR (sQ (pM rfl) rfl ?_))))))
 refine sP (pure_lss_f rfl rfl (by omega)) rfl rfl ?_
 refine sD (nS (cF rfl ?_))
 refine tK (nS (tS (tS (tR (sQ (pM rfl) rfl (sQ (pM rfl) rfl ?_))))))
 refine sP (pure_neq_f rfl rfl (by omega)) rfl rfl ?_
 refine sD (nS (cF rfl ?_))
 refine tK (nS (tS (tR (sQ (pA rfl) rfl (sD (nS ?_))))))
 refine tT (rF1 (rT rfl) ?_)
 exact ⟨rfl, rfl⟩
 refine sQ (pA rfl) rfl (sD (nS (tS (tS (tR (sQ (pM rfl) rfl ?_))))))
 refine sP (pure_lss_t rfl rfl (by omega)) rfl rfl ?_
 refine sD (nS (cT rfl ?_))
 refine tS (tR (sQ (pA rfl) rfl (sD (nS (tT (rS ?_))))))
 refine rF1 (rT rfl) ?_
 exact ⟨rfl, rfl⟩
end Gw
end Go.Proofs.YtmnfamimopcldaaGreatDoor
