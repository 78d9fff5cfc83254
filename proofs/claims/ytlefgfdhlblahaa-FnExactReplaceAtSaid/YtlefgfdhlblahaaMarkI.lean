/-
  The laws' marking of terms and paths, and the reading of the marks.
-/
import Derived.Test.YtlefgfdhlblahaaMarkTm
namespace Go.Proofs.Ytlefgfdhlblahaa
open Go Go.RowKit
namespace Gw
theorem OTm.open9 {k : Int} {nm : ByteArray} {num tk fk lb : Int} {tks fks : List Ty} {ks : List Tm} {cells : List Value} {bs : Blks} (h : OTm (.mk k nm num (.mk tk tks) (.mk fk fks) lb ks) cells bs) : ∃ pt ct pf cf p c bt bf bk,
    cells = [.int .i64 k, .string nm, .int .i64 num, .int .i64 tk, .slice pt tks.length ct, .int .i64 fk, .slice pf fks.length cf, .int .i64 lb, .slice p ks.length c] ∧
    OTy (.mk tk tks) [.int .i64 tk, .slice pt tks.length ct] bt ∧ OTy (.mk fk fks) [.int .i64 fk, .slice pf fks.length cf] bf ∧ OTmS ks p c bk ∧ bs = bt ++ (bf ++ bk) := by
  simp only [OTm] at h
  obtain ⟨tc, fc, p, c, bt, bf, bk, h1, _, _, _, h5, h6, h7, h8, h9, h10⟩ := h
  obtain ⟨pt, ct, rfl, _, _⟩ := h5.open
  obtain ⟨pf, cf, rfl, _, _⟩ := h6.open
  exact ⟨pt, ct, pf, cf, p, c, bt, bf, bk, h1, h5, h6, ⟨h7, h8, h9⟩, h10⟩
theorem triL_bl {P : Program} {Γ : Ctx} {env : Env} {x : Ent} {R R' : Blks} {G : IM} {K : Po} {ops : Array Oper} {rest : List Oper} (e : R = R') (k : TriL P Γ ops rest K ⟨env, x :: blks R', G⟩) : TriL P Γ ops rest K ⟨env, x :: blks R, G⟩ := by rw [e]; exact k
/-- What a marked term's memory is. -/
def MTm (t : Tm) (k : Int) (cells : List Value) (bs : Blks) : Prop := ∃ pt ct pf cf p c bt bf bk,
  cells = [.int .i64 t.k, .string t.nm, .int .i64 t.num, .int .i64 t.ty.k, .slice pt t.ty.ks.length ct, .int .i64 t.fr.k, .slice pf t.fr.ks.length cf, .int .i64 t.lb, .slice p t.ks.length c] ∧
  OTyS (mkTyL t.ty.ks k) pt ct bt ∧ OTyS (mkTyL t.fr.ks (k + cntTyL t.ty.ks)) pf cf bf ∧ OTmS (mkTmL t.ks (k + cntTyL t.ty.ks + cntTyL t.fr.ks)) p c bk ∧ bs = bt ++ (bf ++ bk)
set_option maxRecDepth 100000 in
theorem markTerm_fn (t : Tm) (k : Int) (G : IM) (cells : List Value) (bs : Blks) (ho : OTm t cells bs) (hk : 0 < k) (hb : k + cntTyL t.ty.ks + cntTyL t.fr.ks + cntTmL t.ks ≤ 1099511627776) :
    Fn Try.prog 21 [.agg ⟨cells⟩, .int .i64 k] (blks bs) G (Lent (.int .i64 (k + cntTyL t.ty.ks + cntTyL t.fr.ks + cntTmL t.ks)) G (MTm t k cells)) := by
  obtain ⟨k0, nm, num, ⟨tk, tks⟩, ⟨fk, fks⟩, lb, ks⟩ := t
  obtain ⟨pt, ct, pf, cf, p, c, bt, bf, bk, rfl, hot, hof, hos, rfl⟩ := ho.open9
  simp only [Tm.ty, Tm.fr, Tm.ks, Ty.ks] at hb ⊢
  have h1 := cntTyL_nn tks
  have h2 := cntTyL_nn fks
  have h3 := cntTmL_nn ks
  refine fn_enter Try.func21 rfl Try.ntmps21 Try.results21 rfl ?_
  intro w0
  refine tri_seq ?_
  refine tri_region ?_
  (refine seq_step (step_box_a rfl rfl) rfl ?_; rintro _ ⟨b3, rfl⟩)
  refine seq_pure (pure_assign rfl) rfl rfl ?_
  refine seq_done ?_
  refine nrm_seq ?_
  refine tri_seq ?_
  refine tri_region ?_
  refine seq_pure (pure_fieldAddr0 rfl) rfl rfl ?_
  refine seq_load (load_ba rfl rfl (by repeat (first | exact List.Mem.head _ | apply List.Mem.tail)) (by rfl)) rfl rfl ?_
  refine seq_pure (pure_move rfl) rfl rfl ?_
  (refine seq_lend (r0 := []) (r1 := bt) (r2 := bf ++ bk) rfl (markType_fn (.mk tk tks) k G _ bt hot hk (by simp only [Ty.ks]; omega)) rfl rfl rfl (fun bt' hbt => ?_); obtain ⟨p1, c1, he1, hbt⟩ := hbt; simp only [Ty.k, Ty.ks, List.cons.injEq, Value.slice.injEq, true_and, and_true] at he1 hbt ⊢; obtain ⟨rfl, rfl⟩ := he1)
  refine seq_pure (pure_assign rfl) rfl rfl ?_
  refine seq_done ?_
  refine nrm_seq ?_
  refine tri_seq ?_
  refine tri_region ?_
  refine seq_pure (pure_fieldAddr0 rfl) rfl rfl ?_
  refine seq_load (load_ba rfl rfl (by repeat (first | exact List.Mem.head _ | apply List.Mem.tail)) (by rfl)) rfl rfl ?_
  refine seq_pure (pure_move rfl) rfl rfl ?_
  (refine seq_lend (r0 := bt') (r1 := bf) (r2 := bk) rfl (markType_fn (.mk fk fks) (k + cntTyL tks) G _ bf hof (by omega) (by simp only [Ty.ks]; omega)) rfl rfl rfl (fun bf' hbf => ?_); obtain ⟨p2, c2, he2, hbf⟩ := hbf; simp only [Ty.k, Ty.ks, List.cons.injEq, Value.slice.injEq, true_and, and_true] at he2 hbf ⊢; obtain ⟨rfl, rfl⟩ := he2)
  refine seq_pure (pure_assign rfl) rfl rfl ?_
  refine seq_done ?_
  refine nrm_seq ?_
  refine tri_seq ?_
  refine tri_region ?_
  refine seq_pure (pure_fieldAddr0 rfl) rfl rfl ?_
  refine seq_load (load_bs rfl rfl (by repeat (first | exact List.Mem.head _ | apply List.Mem.tail)) (by rfl)) rfl rfl ?_
  refine seq_pure (pure_move rfl) rfl rfl ?_
  (refine seq_lend (r0 := bt' ++ bf') (r1 := bk) (r2 := []) rfl (markTermS_fn (.mk k0 nm num (.mk tk tks) (.mk fk fks) lb ks) (k + cntTyL tks + cntTyL fks) G p c bk hos (by omega) (by simp only [Tm.ks]; omega)) (by simp) rfl rfl (fun bk' hbk => ?_); simp only [Tm.ks] at hbk ⊢; refine triL_bl (R' := bt' ++ (bf' ++ bk')) (by simp) ?_)
  refine seq_pure (pure_assign rfl) rfl rfl ?_
  refine seq_done ?_
  refine nrm_seq ?_
  refine tri_seq ?_
  refine tri_region ?_
  refine seq_pure (pure_move rfl) rfl rfl ?_
  refine seq_pure (pure_assign rfl) rfl rfl ?_
  refine seq_done ?_
  refine nrm_seq ?_
  refine tri_ret ?_
  refine ret_own1 (res_tmp rfl) (SubH.drop SubH.refl) ?_
  exact ⟨rfl, rfl, _, rfl, _, _, _, _, _, _, _, _, _, rfl, hbt, hbf, hbk, rfl⟩

/- Paths. -/
def mkInts : Nat → Int → List Int
  | 0, _ => []
  | n + 1, k => k :: mkInts n (k + 1)
theorem mkInts_len : ∀ (n : Nat) (k : Int), (mkInts n k).length = n
  | 0, k => rfl
  | n + 1, k => by rw [mkInts, List.length_cons, mkInts_len n]
theorem mkInts_get : ∀ (n : Nat) (k : Int) (i : Nat) (h : i < (mkInts n k).length), (mkInts n k)[i] = k + i
  | 0, k, i, h => by simp [mkInts] at h
  | n + 1, k, 0, h => by simp [mkInts]
  | n + 1, k, i + 1, h => by
    have := mkInts_get n (k + 1) i (by rw [mkInts_len] at h ⊢; omega)
    simp only [mkInts, List.getElem_cons_succ, this]; omega
theorem mkInts_snoc : ∀ (n : Nat) (k : Int), mkInts (n + 1) k = mkInts n k ++ [k + n]
  | 0, k => by simp [mkInts]
  | n + 1, k => by rw [mkInts, mkInts_snoc n, mkInts, List.cons_append, show k + 1 + (n : Int) = k + ((n + 1 : Nat) : Int) by omega]
def OIs (l : List Int) (p : Option Addr) (c : Nat) (bs : Blks) : Prop :=
  l.length ≤ c ∧ c ≤ maxLen ∧ ((l = [] ∧ bs = []) ∨ ∃ b A C, p = some ⟨b, A.length, none⟩ ∧ bs = [(b, A ++ (ints l ++ C))])
theorem upd_int {A D R : List Value} {v u : Value} {i : Nat} (h : D.length = i) : upd (A ++ (D ++ (v :: R))) (A.length + i * 1) [u] = some (A ++ (D ++ (u :: R))) := by
  have := upd_in (X := A ++ D) (e := [v]) (e' := [u]) (Y := R) (vs := [u]) (o := 0) rfl
  simpa [h] using this
theorem ints_drop {l : List Int} {i : Nat} (hi : i < l.length) : ints (l.drop i) = .int .i64 l[i] :: ints (l.drop (i + 1)) := by
  rw [List.drop_eq_getElem_cons hi]; rfl
set_option maxRecDepth 100000 in
theorem markIntS_fn (l : List Int) (k : Int) (G : IM) (p : Option Addr) (c : Nat) (bs : Blks) (ho : OIs l p c bs) (hk : 0 < k) (hb : k + l.length ≤ 1099511627776) :
    Fn Try.prog 27 [.slice p l.length c, .int .i64 k] (blks bs) G (Lent (.int .i64 (k + l.length)) G (OIs (mkInts l.length k) p c)) := by
  obtain ⟨hc, hm, h⟩ := ho
  rcases h with ⟨rfl, rfl⟩ | ⟨b, A, C, rfl, rfl⟩
  · refine fn_enter Try.func27 rfl Try.ntmps27 Try.results27 rfl ?_
    intro w0
    refine tri_seq ?_
    refine tri_region ?_
    refine seq_pure (pure_assign rfl) rfl rfl ?_
    refine seq_done ?_
    refine nrm_seq ?_
    refine tri_seq ?_
    refine tri_seq ?_
    refine tri_region ?_
    refine seq_pure (pure_assign rfl) rfl rfl ?_
    refine seq_done ?_
    refine nrm_seq ?_
    refine tri_block ?_
    refine tri_loopN (fun (_ : Unit) => ⟨[(5, .int .i64 0), (1, .int .i64 k), (0, .slice p 0 c)], [], G⟩) (fun _ => True) (fun _ => 0) () ?_ ?_ ?_
    · exact sub_mk (by repeat (first | exact SubE.nil | refine SubE.cons rfl ?_)) (by repeat (first | exact SubH.refl | exact SubH.nil | refine SubH.cons (by repeat (first | exact Pk.here | apply Pk.there)) ?_ | apply SubH.drop))
    · trivial
    · (rintro _ _)
      refine tri_seq ?_
      refine tri_seq ?_
      refine tri_region ?_
      refine seq_pure (pure_move rfl) rfl rfl ?_
      refine seq_pure (pure_move rfl) rfl rfl ?_
      refine seq_pure (pure_len rfl rfl) rfl rfl ?_
      refine seq_pure (pure_lss_f rfl rfl (by omega)) rfl rfl ?_
      refine seq_done ?_
      refine nrm_seq ?_
      refine tri_cond_f rfl ?_
      refine tri_exit ?_
      refine ext_seq ?_
      refine ext_loopN ?_
      refine ext_block_eq ?_
      refine nrm_seq ?_
      refine tri_seq ?_
      refine tri_region ?_
      refine seq_pure (pure_move rfl) rfl rfl ?_
      refine seq_pure (pure_assign rfl) rfl rfl ?_
      refine seq_done ?_
      refine nrm_seq ?_
      refine tri_ret ?_
      refine ret_own1 (res_tmp rfl) SubH.refl ?_
      exact ⟨rfl, by rw [List.length_nil]; simp, [], rfl, ⟨hc, hm, .inl ⟨rfl, rfl⟩⟩⟩
  · refine fn_enter (ins := [.blk b (A ++ (ints l ++ C))]) Try.func27 rfl Try.ntmps27 Try.results27 rfl ?_
    intro w0
    refine tri_seq ?_
    refine tri_region ?_
    refine seq_pure (pure_assign rfl) rfl rfl ?_
    refine seq_done ?_
    refine nrm_seq ?_
    refine tri_seq ?_
    refine tri_seq ?_
    refine tri_region ?_
    refine seq_pure (pure_assign rfl) rfl rfl ?_
    refine seq_done ?_
    refine nrm_seq ?_
    refine tri_block ?_
    refine tri_loopN (fun (x : Nat × Int × List Value × List Value) => ⟨[(5, .int .i64 x.1), (1, .int .i64 x.2.1), (0, .slice (some ⟨b, A.length, none⟩) l.length c)], [.blk b (A ++ (x.2.2.1 ++ (x.2.2.2 ++ C)))], G⟩) (fun x => x.1 ≤ l.length ∧ x.2.1 = k + x.1 ∧ x.2.2.1 = ints (mkInts x.1 k) ∧ x.2.2.2 = ints (l.drop x.1)) (fun x => l.length - x.1) (0, k, [], ints l) ?_ ?_ ?_
    · (simp only [flat_snoc]; exact sub_mk (by repeat (first | exact SubE.nil | refine SubE.cons rfl ?_)) (by repeat (first | exact SubH.refl | exact SubH.nil | refine SubH.cons (by repeat (first | exact Pk.here | apply Pk.there)) ?_ | apply SubH.drop)))
    · exact ⟨by simp, by simp, rfl, rfl⟩
    · (rintro ⟨i, kk, D, T⟩ ⟨hi, hkk, hD, hT⟩; simp only [] at hi hkk hD hT ⊢; have hDl : D.length = i := (by rw [hD, ints_len, mkInts_len]))
      refine tri_seq ?_
      refine tri_seq ?_
      refine tri_region ?_
      refine seq_pure (pure_move rfl) rfl rfl ?_
      refine seq_pure (pure_move rfl) rfl rfl ?_
      refine seq_pure (pure_len rfl rfl) rfl rfl ?_
      refine seq_bool (pure_lss rfl rfl) rfl rfl (fun h23 => ?_) (fun h23 => ?_)
      · refine seq_done ?_
        refine nrm_seq ?_
        refine tri_cond_t rfl ?_
        refine tri_skip ?_
        refine nrm_seq ?_
        refine tri_seq ?_
        refine tri_block ?_
        refine tri_seq ?_
        refine tri_region ?_
        refine seq_pure (pure_move rfl) rfl rfl ?_
        refine seq_pure (pure_move rfl) rfl rfl ?_
        refine seq_pure (pure_move rfl) rfl rfl ?_
        refine seq_pure (pure_indexAddrN rfl rfl rfl (by omega)) rfl rfl ?_
        (rw [ints_drop (by omega)] at hT; subst hT; rw [List.cons_append]; refine seq_store rfl rfl rfl rfl rfl rfl Sw.here (upd_int hDl) ?_)
        refine seq_done ?_
        refine nrm_seq ?_
        refine tri_region ?_
        refine seq_pure (pure_move rfl) rfl rfl ?_
        refine seq_pure (pure_add rfl rfl (by omega) (by omega)) rfl rfl ?_
        refine seq_pure (pure_assign rfl) rfl rfl ?_
        refine seq_done ?_
        refine nrm_block ?_
        refine nrm_seq ?_
        refine tri_region ?_
        refine seq_pure (pure_move rfl) rfl rfl ?_
        refine seq_pure (pure_add rfl rfl (by omega) (by omega)) rfl rfl ?_
        refine seq_pure (pure_assign rfl) rfl rfl ?_
        refine seq_done ?_
        (rw [show D ++ (Value.int .i64 kk :: (ints (l.drop (i + 1)) ++ C)) = (D ++ [.int .i64 kk]) ++ (ints (l.drop (i + 1)) ++ C) from by simp]; refine nrm_loopN (i + 1, kk + 1, D ++ [.int .i64 kk], ints (l.drop (i + 1))) ?_ ?_ ?_)
        · (simp only [flat_snoc]; exact sub_mk (by repeat (first | exact SubE.nil | refine SubE.cons rfl ?_)) (by repeat (first | exact SubH.refl | exact SubH.nil | refine SubH.cons (by repeat (first | exact Pk.here | apply Pk.there)) ?_ | apply SubH.drop)))
        · (dsimp only; exact ⟨by omega, by omega, by rw [mkInts_snoc, hD, hkk]; simp [ints], rfl⟩)
        · (show l.length - (i + 1) < l.length - i; omega)
      · refine seq_done ?_
        refine nrm_seq ?_
        refine tri_cond_f rfl ?_
        refine tri_exit ?_
        refine ext_seq ?_
        refine ext_loopN ?_
        refine ext_block_eq ?_
        refine nrm_seq ?_
        refine tri_seq ?_
        refine tri_region ?_
        refine seq_pure (pure_move rfl) rfl rfl ?_
        refine seq_pure (pure_assign rfl) rfl rfl ?_
        refine seq_done ?_
        refine nrm_seq ?_
        refine tri_ret ?_
        (obtain rfl : i = l.length := (by omega); refine ret_own1 (res_tmp rfl) SubH.refl ?_)
        (rw [List.drop_length] at hT; exact ⟨rfl, by rw [hkk], [(b, A ++ (D ++ (T ++ C)))], rfl, by rw [mkInts_len]; exact hc, hm, .inr ⟨b, A, C, rfl, by rw [hD, hT]; rfl⟩⟩)
/- Lists of paths. -/
def OPs : List (List Int) → List Value → Blks → Prop
  | [], es, bs => es = [] ∧ bs = []
  | l :: ls, es, bs => ∃ p c e' r1 r2, es = .slice p l.length c :: e' ∧ bs = r1 ++ r2 ∧ OIs l p c r1 ∧ OPs ls e' r2
def cntIs : List (List Int) → Int
  | [] => 0
  | l :: ls => l.length + cntIs ls
def mkIs : List (List Int) → Int → List (List Int)
  | [], _ => []
  | l :: ls, k => mkInts l.length k :: mkIs ls (k + l.length)
theorem cntIs_nn : ∀ ls, 0 ≤ cntIs ls
  | [] => by rw [cntIs]; omega
  | l :: ls => by have := cntIs_nn ls; rw [cntIs]; omega
theorem cntIs_append : ∀ a b, cntIs (a ++ b) = cntIs a + cntIs b
  | [], b => by simp [cntIs]
  | l :: a, b => by rw [List.cons_append, cntIs, cntIs, cntIs_append a b]; omega
theorem cntIs_succ {ls : List (List Int)} {i : Nat} (hi : i < ls.length) : cntIs (ls.take (i + 1)) = cntIs (ls.take i) + ls[i].length := by
  rw [List.take_succ_eq_append_getElem hi, cntIs_append, cntIs, cntIs]; omega
theorem cntIs_take (ls : List (List Int)) (i : Nat) : cntIs (ls.take i) ≤ cntIs ls := by
  have h := cntIs_append (ls.take i) (ls.drop i)
  rw [List.take_append_drop] at h
  have := cntIs_nn (ls.drop i); omega
theorem mkIs_snoc : ∀ (ls : List (List Int)) (l : List Int) (k : Int), mkIs (ls ++ [l]) k = mkIs ls k ++ [mkInts l.length (k + cntIs ls)]
  | [], l, k => by simp [mkIs, cntIs]
  | l' :: ls, l, k => by rw [List.cons_append, mkIs, mkIs_snoc ls, mkIs, cntIs, List.cons_append, Int.add_assoc]
theorem mkIs_take {ls : List (List Int)} {i : Nat} (hi : i < ls.length) (k : Int) : mkIs (ls.take (i + 1)) k = mkIs (ls.take i) k ++ [mkInts ls[i].length (k + cntIs (ls.take i))] := by
  rw [List.take_succ_eq_append_getElem hi, mkIs_snoc]
theorem mkIs_len : ∀ (ls : List (List Int)) (k : Int), (mkIs ls k).length = ls.length
  | [], k => rfl
  | l :: ls, k => by rw [mkIs, List.length_cons, mkIs_len ls, List.length_cons]
theorem OPs.len : ∀ {ls : List (List Int)} {es : List Value} {bs : Blks}, OPs ls es bs → es.length = ls.length
  | [], es, bs, h => by rw [h.1]; rfl
  | l :: ls, es, bs, ⟨p, c, e', r1, r2, h1, h2, h3, h4⟩ => by rw [h1, List.length_cons, h4.len, List.length_cons]
theorem OPs.snoc : ∀ {ls : List (List Int)} {es : List Value} {bs : Blks} {l : List Int} {p : Option Addr} {c : Nat} {r : Blks}, OPs ls es bs → OIs l p c r → OPs (ls ++ [l]) (es ++ [.slice p l.length c]) (bs ++ r)
  | [], es, bs, l, p, c, r, ⟨h1, h2⟩, h => by rw [h1, h2]; exact ⟨p, c, [], r, [], rfl, by simp, h, rfl, rfl⟩
  | l' :: ls, es, bs, l, p, c, r, ⟨p', c', e', r1, r2, h1, h2, h3, h4⟩, h => ⟨p', c', e' ++ [.slice p l.length c], r1, r2 ++ r, by rw [h1]; rfl, by rw [h2, List.append_assoc], h3, h4.snoc h⟩
section lend0
variable {P : Program} {Γ : Ctx} {env : Env} {G : IM} {K : Po} {ops : Array Oper} {rest : List Oper} {ty : TypeId} {pos : String} {af : Array Edge} {gd : Option (Nat × Bool)}
theorem perm_lend0 (r0 r1 r2 : Blks) : (blks (r0 ++ (r1 ++ r2))).Perm (blks r1 ++ blks (r0 ++ r2)) := by
  simp only [blks_append]
  rw [← List.append_assoc, ← List.append_assoc]
  exact List.Perm.append_right _ List.perm_append_comm
theorem seq_lend0 {d : Nat} {f : FuncId} [hF : FunI P f] {xs : List Operand} {ats : Array TypeId} {vs : List Value} {v0 : Value} {Φ : Blks → Prop} {R r0 r1 r2 : Blks}
    (hx : evl env xs = some vs) (h : Fn P f vs (blks r1) G (Lent v0 G Φ)) (hR : R = r0 ++ (r1 ++ r2)) (hw : wantG ops env gd = some true) (hd : Nat.blt d Γ.n = true)
    (k : ∀ r1', Φ r1' → TriL P Γ ops rest K ⟨(d, v0) :: env, blks (r0 ++ (r1' ++ r2)), G⟩) : TriL P Γ ops (⟨some d, .call ⟨.value (.func f), ⟨xs⟩, ats⟩, ty, pos, af, gd⟩ :: rest) K ⟨env, blks R, G⟩ := by
  subst hR
  refine seq_step (step_call_own hx h (perm_lend0 r0 r1 r2) hd) hw ?_
  rintro _ ⟨v, G', outs, rfl, _, rfl, rfl, r1', rfl, hΦ⟩
  exact triL_perm (perm_lend0 r0 r1' r2).symm (k r1' hΦ)
end lend0
theorem OPs.drop {ls : List (List Int)} {i : Nat} {es : List Value} {r : Blks} (hi : i < ls.length) (h : OPs (ls.drop i) es r) : ∃ p c e' r1 r2, es = .slice p ls[i].length c :: e' ∧ r = r1 ++ r2 ∧ OIs ls[i] p c r1 ∧ OPs (ls.drop (i + 1)) e' r2 := by
  rw [List.drop_eq_getElem_cons hi] at h; exact h
theorem OIs.mk {n : Nat} {k : Int} {p : Option Addr} {c : Nat} {r : Blks} {ls : List (List Int)} {es : List Value} {bs : Blks} (h : OPs ls es bs) (h2 : OIs (mkInts n k) p c r) : OPs (ls ++ [mkInts n k]) (es ++ [.slice p n c]) (bs ++ r) := by
  have := h.snoc h2; rwa [mkInts_len] at this
set_option maxRecDepth 100000 in
theorem markIntSS_fn (ls : List (List Int)) (k : Int) (G : IM) (p : Option Addr) (c : Nat) (es : List Value) (bs : Blks) (hsl : Sl G p ls.length c 1 es) (ho : OPs ls es bs) (hk : 0 < k) (hb : k + cntIs ls ≤ 1099511627776) :
    Fn Try.prog 22 [.slice p ls.length c, .int .i64 k] (blks bs) G (Lent (.int .i64 (k + cntIs ls)) G (OPs (mkIs ls k) es)) := by
  have hn := hsl.le
  refine fn_enter Try.func22 rfl Try.ntmps22 Try.results22 rfl ?_
  intro w0
  refine tri_seq ?_
  refine tri_region ?_
  refine seq_pure (pure_assign rfl) rfl rfl ?_
  refine seq_done ?_
  refine nrm_seq ?_
  refine tri_seq ?_
  refine tri_seq ?_
  refine tri_region ?_
  refine seq_pure (pure_assign rfl) rfl rfl ?_
  refine seq_done ?_
  refine nrm_seq ?_
  refine tri_block ?_
  refine tri_loopN (fun (x : Nat × Int × List Value × List Value × Blks × Blks) => ⟨[(5, .int .i64 x.1), (1, .int .i64 x.2.1), (0, .slice p ls.length c)], blks (x.2.2.2.2.1 ++ x.2.2.2.2.2), G⟩) (fun x => x.1 ≤ ls.length ∧ x.2.1 = k + cntIs (ls.take x.1) ∧ es = x.2.2.1 ++ x.2.2.2.1 ∧ OPs (mkIs (ls.take x.1) k) x.2.2.1 x.2.2.2.2.1 ∧ OPs (ls.drop x.1) x.2.2.2.1 x.2.2.2.2.2) (fun x => ls.length - x.1) (0, k, [], es, [], bs) ?_ ?_ ?_
  · (simp only [flat_snoc]; exact sub_mk (by repeat (first | exact SubE.nil | refine SubE.cons rfl ?_)) (by repeat (first | exact SubH.refl | exact SubH.nil | refine SubH.cons (by repeat (first | exact Pk.here | apply Pk.there)) ?_ | apply SubH.drop)))
  · exact ⟨by simp, by simp [cntIs], by simp, by simp [OPs, mkIs], ho⟩
  · (rintro ⟨i, kk, D, T, r0, r1⟩ ⟨hi, hkk, hes, hD, hT⟩; simp only [] at hi hkk hes hD hT ⊢; have hDl : D.length = i := (by rw [hD.len, mkIs_len, List.length_take]; omega); have hnn := cntIs_nn (ls.take i); have htk := cntIs_take ls i)
    refine tri_seq ?_
    refine tri_seq ?_
    refine tri_region ?_
    refine seq_pure (pure_move rfl) rfl rfl ?_
    refine seq_pure (pure_move rfl) rfl rfl ?_
    refine seq_pure (pure_len rfl rfl) rfl rfl ?_
    refine seq_bool (pure_lss rfl rfl) rfl rfl (fun h23 => ?_) (fun h23 => ?_)
    · refine seq_done ?_
      refine nrm_seq ?_
      refine tri_cond_t rfl ?_
      refine tri_skip ?_
      refine nrm_seq ?_
      refine tri_seq ?_
      refine tri_block ?_
      refine tri_region ?_
      refine seq_pure (pure_move rfl) rfl rfl ?_
      refine seq_pure (pure_move rfl) rfl rfl ?_
      (obtain ⟨b, o, v, rfl, hv, hat, hgb⟩ := hsl.kid (i := i) (by omega); obtain ⟨p3, c3, T', r1a, r1b, rfl, rfl, hos, hT'⟩ := hT.drop (by omega); rw [hes, List.getElem?_append_right (by omega), show i - D.length = 0 by omega] at hv; obtain rfl := Option.some.inj hv; refine seq_pure (pure_indexAddrN rfl rfl rfl (by omega)) rfl rfl ?_)
      refine seq_load (load_s rfl rfl (hat _)) rfl rfl ?_
      refine seq_pure (pure_move rfl) rfl rfl ?_
      (have hsu := cntIs_succ (ls := ls) (i := i) (by omega); have hta := cntIs_take ls (i + 1); refine seq_lend0 rfl (markIntS_fn ls[i] kk G p3 c3 r1a hos (by omega) (by omega)) rfl rfl rfl (fun r1' hr1 => ?_))
      refine seq_pure (pure_assign rfl) rfl rfl ?_
      refine seq_done ?_
      refine nrm_block ?_
      refine nrm_seq ?_
      refine tri_region ?_
      refine seq_pure (pure_move rfl) rfl rfl ?_
      refine seq_pure (pure_add rfl rfl (by omega) (by omega)) rfl rfl ?_
      refine seq_pure (pure_assign rfl) rfl rfl ?_
      refine seq_done ?_
      (rw [← List.append_assoc r0]; refine nrm_loopN (i + 1, kk + ls[i].length, D ++ [.slice p3 ls[i].length c3], T', r0 ++ r1', r1b) ?_ ?_ ?_)
      · (simp only [flat_snoc]; exact sub_mk (by repeat (first | exact SubE.nil | refine SubE.cons rfl ?_)) (by repeat (first | exact SubH.refl | exact SubH.nil | refine SubH.cons (by repeat (first | exact Pk.here | apply Pk.there)) ?_ | apply SubH.drop)))
      · (dsimp only; exact ⟨by omega, by omega, by rw [hes]; simp, by rw [mkIs_take (by omega), ← hkk]; exact OIs.mk hD hr1, hT'⟩)
      · (show ls.length - (i + 1) < ls.length - i; omega)
    · refine seq_done ?_
      refine nrm_seq ?_
      refine tri_cond_f rfl ?_
      refine tri_exit ?_
      refine ext_seq ?_
      refine ext_loopN ?_
      refine ext_block_eq ?_
      refine nrm_seq ?_
      refine tri_seq ?_
      refine tri_region ?_
      refine seq_pure (pure_move rfl) rfl rfl ?_
      refine seq_pure (pure_assign rfl) rfl rfl ?_
      refine seq_done ?_
      refine nrm_seq ?_
      refine tri_ret ?_
      (obtain rfl : i = ls.length := (by omega); refine ret_own1 (res_tmp rfl) SubH.refl ?_)
      (rw [List.drop_length] at hT; obtain ⟨rfl, rfl⟩ := hT; rw [List.take_length] at hD hkk; exact ⟨rfl, by rw [hkk], r0, by simp, by rw [hes, List.append_nil]; exact hD⟩)
/-- Paths in memory that no longer changes. -/
def QPs (G : IM) : List (List Int) → List Value → Prop
  | [], es => es = []
  | l :: ls, es => ∃ p c r, es = .slice p l.length c :: r ∧ Sl G p l.length c 1 (ints l) ∧ QPs G ls r
theorem QPs.mono {G G' : IM} (hg : IMle G G') : ∀ {ls : List (List Int)} {es : List Value}, QPs G ls es → QPs G' ls es
  | [], es, h => h
  | l :: ls, es, ⟨p, c, r, h1, h2, h3⟩ => ⟨p, c, r, h1, h2.mono hg, h3.mono hg⟩
theorem QPs.get {G : IM} : ∀ {ls : List (List Int)} {es : List Value}, QPs G ls es → ∀ {i : Nat} (hi : i < ls.length), ∃ p c, es[i]? = some (.slice p ls[i].length c) ∧ Sl G p ls[i].length c 1 (ints ls[i])
  | [], es, h, i, hi => by simp at hi
  | l :: ls, es, ⟨p, c, r, h1, h3, h6⟩, i, hi => by
    subst h1
    cases i with
    | zero => exact ⟨p, c, rfl, h3⟩
    | succ i => simpa using h6.get (i := i) (by simpa using hi)
theorem mkIs_get : ∀ (ls : List (List Int)) (k : Int) (i : Nat) (hi : i < ls.length) (h : i < (mkIs ls k).length), (mkIs ls k)[i] = mkInts ls[i].length (k + cntIs (ls.take i))
  | [], k, i, hi, h => by simp at hi
  | l :: ls, k, 0, hi, h => by simp [mkIs, cntIs]
  | l :: ls, k, i + 1, hi, h => by
    have := mkIs_get ls (k + l.length) i (by simpa using hi) (by rw [mkIs_len]; simpa using hi)
    simp only [mkIs, List.getElem_cons_succ, this, List.take_succ_cons, cntIs]
    rw [Int.add_assoc]
set_option maxRecDepth 100000 in
theorem heldIntS_fn (n : Nat) (k : Int) (G : IM) (p : Option Addr) (c : Nat) (h : Sl G p n c 1 (ints (mkInts n k))) (hk : 0 < k) (hb : k + n ≤ 1099511627776) :
    Fn Try.prog 28 [.slice p n c, .int .i64 k] [] G (Val (.int .i64 (k + n)) G) := by
  refine fn_enter Try.func28 rfl Try.ntmps28 Try.results28 rfl ?_
  intro w0
  refine tri_seq ?_
  refine tri_region ?_
  refine seq_pure (pure_assign rfl) rfl rfl ?_
  refine seq_done ?_
  refine nrm_seq ?_
  refine tri_seq ?_
  refine tri_seq ?_
  refine tri_region ?_
  refine seq_pure (pure_assign rfl) rfl rfl ?_
  refine seq_done ?_
  refine nrm_seq ?_
  refine tri_block ?_
  refine tri_loopN (fun (x : Nat × Int) => ⟨[(5, .int .i64 x.1), (1, .int .i64 x.2), (0, .slice p n c)], [], G⟩) (fun x => x.1 ≤ n ∧ x.2 = k + x.1) (fun x => n - x.1) (0, k) ?_ ?_ ?_
  · (simp only [flat_snoc]; exact sub_mk (by repeat (first | exact SubE.nil | refine SubE.cons rfl ?_)) (by repeat (first | exact SubH.refl | exact SubH.nil | refine SubH.cons (by repeat (first | exact Pk.here | apply Pk.there)) ?_ | apply SubH.drop)))
  · exact ⟨by simp, by simp⟩
  · (rintro ⟨i, kk⟩ ⟨hi, hkk⟩; simp only [] at hi hkk ⊢)
    refine tri_seq ?_
    refine tri_seq ?_
    refine tri_region ?_
    refine seq_pure (pure_move rfl) rfl rfl ?_
    refine seq_pure (pure_move rfl) rfl rfl ?_
    refine seq_pure (pure_len rfl rfl) rfl rfl ?_
    refine seq_bool (pure_lss rfl rfl) rfl rfl (fun h23 => ?_) (fun h23 => ?_)
    · refine seq_done ?_
      refine nrm_seq ?_
      refine tri_cond_t rfl ?_
      refine tri_skip ?_
      refine nrm_seq ?_
      refine tri_seq ?_
      refine tri_block ?_
      refine tri_seq ?_
      refine tri_seq ?_
      refine tri_region ?_
      refine seq_pure (pure_move rfl) rfl rfl ?_
      refine seq_pure (pure_move rfl) rfl rfl ?_
      (obtain ⟨b, o, v, rfl, hv, hat, hgb⟩ := h.kid (i := i) (by omega); obtain ⟨hi2, rfl⟩ := ints_get hv; have hg := mkInts_get n k i hi2; refine seq_pure (pure_indexAddrN rfl rfl rfl (by omega)) rfl rfl ?_)
      refine seq_load (load_s rfl rfl (hat _)) rfl rfl ?_
      refine seq_pure (pure_move rfl) rfl rfl ?_
      refine seq_pure (pure_neq_f rfl rfl (by omega)) rfl rfl ?_
      refine seq_done ?_
      refine nrm_seq ?_
      refine tri_cond_f rfl ?_
      refine tri_skip ?_
      refine nrm_seq ?_
      refine tri_region ?_
      refine seq_pure (pure_move rfl) rfl rfl ?_
      refine seq_pure (pure_add rfl rfl (by omega) (by omega)) rfl rfl ?_
      refine seq_pure (pure_assign rfl) rfl rfl ?_
      refine seq_done ?_
      refine nrm_block ?_
      refine nrm_seq ?_
      refine tri_region ?_
      refine seq_pure (pure_move rfl) rfl rfl ?_
      refine seq_pure (pure_add rfl rfl (by omega) (by omega)) rfl rfl ?_
      refine seq_pure (pure_assign rfl) rfl rfl ?_
      refine seq_done ?_
      refine nrm_loopN (i + 1, kk + 1) ?_ ?_ ?_
      · (simp only [flat_snoc]; exact sub_mk (by repeat (first | exact SubE.nil | refine SubE.cons rfl ?_)) (by repeat (first | exact SubH.refl | exact SubH.nil | refine SubH.cons (by repeat (first | exact Pk.here | apply Pk.there)) ?_ | apply SubH.drop)))
      · (dsimp only; exact ⟨by omega, by omega⟩)
      · (show n - (i + 1) < n - i; omega)
    · refine seq_done ?_
      refine nrm_seq ?_
      refine tri_cond_f rfl ?_
      refine tri_exit ?_
      refine ext_seq ?_
      refine ext_loopN ?_
      refine ext_block_eq ?_
      refine nrm_seq ?_
      refine tri_seq ?_
      refine tri_region ?_
      refine seq_pure (pure_move rfl) rfl rfl ?_
      refine seq_pure (pure_assign rfl) rfl rfl ?_
      refine seq_done ?_
      refine nrm_seq ?_
      refine tri_ret ?_
      refine ret_fin1 (res_tmp rfl) ?_
      (obtain rfl : i = n := (by omega); exact ⟨rfl, by rw [hkk], rfl⟩)
set_option maxRecDepth 100000 in
theorem heldIntSS_fn (ls : List (List Int)) (k : Int) (G : IM) (p : Option Addr) (c : Nat) (es : List Value) (hsl : Sl G p ls.length c 1 es) (hq : QPs G (mkIs ls k) es) (hk : 0 < k) (hb : k + cntIs ls ≤ 1099511627776) :
    Fn Try.prog 23 [.slice p ls.length c, .int .i64 k] [] G (Val (.int .i64 (k + cntIs ls)) G) := by
  have hn := hsl.le
  refine fn_enter Try.func23 rfl Try.ntmps23 Try.results23 rfl ?_
  intro w0
  refine tri_seq ?_
  refine tri_region ?_
  refine seq_pure (pure_assign rfl) rfl rfl ?_
  refine seq_done ?_
  refine nrm_seq ?_
  refine tri_seq ?_
  refine tri_seq ?_
  refine tri_region ?_
  refine seq_pure (pure_assign rfl) rfl rfl ?_
  refine seq_done ?_
  refine nrm_seq ?_
  refine tri_block ?_
  refine tri_loopN (fun (x : Nat × Int) => ⟨[(5, .int .i64 x.1), (1, .int .i64 x.2), (0, .slice p ls.length c)], [], G⟩) (fun x => x.1 ≤ ls.length ∧ x.2 = k + cntIs (ls.take x.1)) (fun x => ls.length - x.1) (0, k) ?_ ?_ ?_
  · (simp only [flat_snoc]; exact sub_mk (by repeat (first | exact SubE.nil | refine SubE.cons rfl ?_)) (by repeat (first | exact SubH.refl | exact SubH.nil | refine SubH.cons (by repeat (first | exact Pk.here | apply Pk.there)) ?_ | apply SubH.drop)))
  · exact ⟨by simp, by simp [cntIs]⟩
  · (rintro ⟨i, kk⟩ ⟨hi, hkk⟩; simp only [] at hi hkk ⊢; have hnn := cntIs_nn (ls.take i))
    refine tri_seq ?_
    refine tri_seq ?_
    refine tri_region ?_
    refine seq_pure (pure_move rfl) rfl rfl ?_
    refine seq_pure (pure_move rfl) rfl rfl ?_
    refine seq_pure (pure_len rfl rfl) rfl rfl ?_
    refine seq_bool (pure_lss rfl rfl) rfl rfl (fun h23 => ?_) (fun h23 => ?_)
    · refine seq_done ?_
      refine nrm_seq ?_
      refine tri_cond_t rfl ?_
      refine tri_skip ?_
      refine nrm_seq ?_
      refine tri_seq ?_
      refine tri_block ?_
      refine tri_seq ?_
      refine tri_region ?_
      refine seq_pure (pure_move rfl) rfl rfl ?_
      refine seq_pure (pure_move rfl) rfl rfl ?_
      (obtain ⟨b, o, v, rfl, hv, hat, hgb⟩ := hsl.kid (i := i) (by omega); obtain ⟨p3, c3, hv3, hs3⟩ := hq.get (i := i) (by rw [mkIs_len]; omega); rw [hv] at hv3; obtain rfl := Option.some.inj hv3; rw [mkIs_get ls k i (by omega)] at hs3 hat; rw [mkInts_len] at hs3 hat; rw [← hkk] at hs3; have hsu := cntIs_succ (ls := ls) (i := i) (by omega); have hta := cntIs_take ls (i + 1); refine seq_pure (pure_indexAddrN rfl rfl rfl (by omega)) rfl rfl ?_)
      refine seq_load (load_s rfl rfl (hat _)) rfl rfl ?_
      refine seq_pure (pure_move rfl) rfl rfl ?_
      refine seq_val rfl (heldIntS_fn _ _ _ _ _ hs3 (by omega) (by omega)) rfl rfl ?_
      refine seq_pure (pure_assign rfl) rfl rfl ?_
      refine seq_done ?_
      refine nrm_seq ?_
      refine tri_seq ?_
      refine tri_region ?_
      refine seq_pure (pure_move rfl) rfl rfl ?_
      refine seq_pure (pure_lss_f rfl rfl (by omega)) rfl rfl ?_
      refine seq_done ?_
      refine nrm_seq ?_
      refine tri_cond_f rfl ?_
      refine tri_skip ?_
      refine nrm_block ?_
      refine nrm_seq ?_
      refine tri_region ?_
      refine seq_pure (pure_move rfl) rfl rfl ?_
      refine seq_pure (pure_add rfl rfl (by omega) (by omega)) rfl rfl ?_
      refine seq_pure (pure_assign rfl) rfl rfl ?_
      refine seq_done ?_
      refine nrm_loopN (i + 1, kk + ls[i].length) ?_ ?_ ?_
      · (simp only [flat_snoc]; exact sub_mk (by repeat (first | exact SubE.nil | refine SubE.cons rfl ?_)) (by repeat (first | exact SubH.refl | exact SubH.nil | refine SubH.cons (by repeat (first | exact Pk.here | apply Pk.there)) ?_ | apply SubH.drop)))
      · (dsimp only; exact ⟨by omega, by omega⟩)
      · (show ls.length - (i + 1) < ls.length - i; omega)
    · refine seq_done ?_
      refine nrm_seq ?_
      refine tri_cond_f rfl ?_
      refine tri_exit ?_
      refine ext_seq ?_
      refine ext_loopN ?_
      refine ext_block_eq ?_
      refine nrm_seq ?_
      refine tri_seq ?_
      refine tri_region ?_
      refine seq_pure (pure_move rfl) rfl rfl ?_
      refine seq_pure (pure_assign rfl) rfl rfl ?_
      refine seq_done ?_
      refine nrm_seq ?_
      refine tri_ret ?_
      refine ret_fin1 (res_tmp rfl) ?_
      (obtain rfl : i = ls.length := (by omega); rw [List.take_length] at hkk; exact ⟨rfl, by rw [hkk], rfl⟩)
end Gw
end Go.Proofs.Ytlefgfdhlblahaa
