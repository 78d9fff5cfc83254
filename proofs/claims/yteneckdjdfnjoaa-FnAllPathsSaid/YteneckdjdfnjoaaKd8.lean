/-
  Lists of numbers are compared. The law that paths are complete: its walk. Slices of numbers read as arguments. Slices of bytes read as arguments.
-/
import Derived.Test.YteneckdjdfnjoaaKd1
import Derived.Test.YteneckdjdfnjoaaKd7
import Derived.Test.YteneckdjdfnjoaaKd5
import Derived.Test.YteneckdjdfnjoaaKd2
namespace Go.Proofs.Yteneckdjdfnjoaa
open Go Go.RowKit
namespace Gw
set_option maxHeartbeats 0 in
set_option maxRecDepth 100000 in
theorem grInts_fn (l l' : List Int) (G : IM) (p p' : Option Addr) (c c' : Nat) (h : Sl G p l.length c 1 (ints l)) (h' : Sl G p' l'.length c' 1 (ints l')) :
  Fn Try.prog 11 [.slice p l.length c, .slice p' l'.length c'] [] G (Val (.bool (decide (l = l'))) G) := by
 have hn := h.le
 have hn' := h'.le
 refine fn_enter Try.func11 rfl Try.ntmps11 Try.results11 rfl ?_
 intro w0
 refine tri_seq ?_
 refine tri_region ?_
 refine seq_pure (pure_assign rfl) rfl rfl ?_
 refine seq_done ?_
 refine nrm_seq ?_
 refine tri_seq ?_
 refine tri_seq ?_
 refine tri_region ?_
 refine seq_pure (pure_move rfl) rfl rfl ?_
 refine seq_pure (pure_len rfl rfl) rfl rfl ?_
 refine seq_pure (pure_move rfl) rfl rfl ?_
 refine seq_pure (pure_len rfl rfl) rfl rfl ?_
 refine seq_bool (pure_neq rfl rfl) rfl rfl (fun h13 => ?_) (fun h13 => ?_)
 ·refine seq_done ?_
  refine nrm_seq ?_
  refine tri_cond_t rfl ?_
  refine tri_seq ?_
  refine tri_region ?_
  refine seq_pure (pure_assign rfl) rfl rfl ?_
  refine seq_done ?_
  refine nrm_seq ?_
  refine tri_ret ?_
  refine ret_seq ?_
  refine ret_fin1 (res_tmp rfl) ?_
  (exact ⟨rfl, by rw [decide_eq_false (fun he => by have := congrArg List.length he; omega)], rfl⟩)
 ·refine seq_done ?_
  refine nrm_seq ?_
  refine tri_cond_f rfl ?_
  refine tri_skip ?_
  refine nrm_seq ?_
  refine tri_seq ?_
  refine tri_seq ?_
  refine tri_region ?_
  refine seq_pure (pure_assign rfl) rfl rfl ?_
  refine seq_done ?_
  refine nrm_seq ?_
  refine tri_block ?_
  (have hll : l.length = l'.length := (by omega); refine tri_loopN (fun (i : Nat) => ⟨[(5, .int .i64 i), (0, .slice p l.length c), (1, .slice p' l'.length c')], [], G⟩) (fun i => i ≤ l.length ∧ ∀ j (h : j < l.length) (h' : j < l'.length), j < i → l[j] = l'[j]) (fun i => l.length - i) 0 ?_ ?_ ?_)
  ·exact sub_mk (by repeat (first | exact SubE.nil | refine SubE.cons rfl ?_)) (by repeat (first | exact SubH.refl | exact SubH.nil | refine SubH.cons (by repeat (first | exact Pk.here | apply Pk.there)) ?_ | apply SubH.drop))
  ·exact ⟨by omega, fun j _ _ hj => absurd hj (by omega)⟩
  ·(rintro i ⟨hi, hf⟩)
   refine tri_seq ?_
   refine tri_seq ?_
   refine tri_region ?_
   refine seq_pure (pure_move rfl) rfl rfl ?_
   refine seq_pure (pure_move rfl) rfl rfl ?_
   refine seq_pure (pure_len rfl rfl) rfl rfl ?_
   refine seq_bool (pure_lss rfl rfl) rfl rfl (fun h48 => ?_) (fun h48 => ?_)
   ·refine seq_done ?_
    refine nrm_seq ?_
    refine tri_cond_t rfl ?_
    refine tri_skip ?_
    refine nrm_seq ?_
    refine tri_seq ?_
    refine tri_block ?_
    refine tri_seq ?_
    (obtain ⟨b, o, v, rfl, hv, hat, _⟩ := h.kid (i := i) (by omega); obtain ⟨hi1, rfl⟩ := ints_get hv; obtain ⟨b', o', v', rfl, hv', hat', _⟩ := h'.kid (i := i) (by omega); obtain ⟨hi2, rfl⟩ := ints_get hv'; refine tri_draw mixed rfl ?_)
    refine any_pure (i := 0) (listed' := [tt,ff,ff,ff,ff,ff,ff,ff,ff]) rfl (by repeat (first | exact np_ret | exact np_cut | apply np_cutr | apply np_seq | apply np_block | apply np_loopN')) (pure_move rfl) rfl (by kernel_rfl) rfl rfl ?_
    refine any_pure (i := 1) (listed' := [tt,tt,ff,ff,ff,ff,ff,ff,ff]) rfl (by repeat (first | exact np_ret | exact np_cut | apply np_cutr | apply np_seq | apply np_block | apply np_loopN')) (pure_move rfl) rfl (by kernel_rfl) rfl rfl ?_
    refine any_pure (i := 2) (listed' := [tt,tt,tt,ff,ff,ff,ff,ff,ff]) rfl (by repeat (first | exact np_ret | exact np_cut | apply np_cutr | apply np_seq | apply np_block | apply np_loopN')) (pure_indexAddrN rfl rfl rfl (by omega)) rfl (by kernel_rfl) rfl rfl ?_
    refine any_load (i := 3) (listed' := [tt,tt,tt,tt,ff,ff,ff,ff,ff]) rfl (by repeat (first | exact np_ret | exact np_cut | apply np_cutr | apply np_seq | apply np_block | apply np_loopN')) (load_s rfl rfl (hat _)) rfl (by kernel_rfl) rfl rfl ?_
    refine any_pure (i := 4) (listed' := [tt,tt,tt,tt,tt,ff,ff,ff,ff]) rfl (by repeat (first | exact np_ret | exact np_cut | apply np_cutr | apply np_seq | apply np_block | apply np_loopN')) (pure_move rfl) rfl (by kernel_rfl) rfl rfl ?_
    refine any_pure (i := 5) (listed' := [tt,tt,tt,tt,tt,tt,ff,ff,ff]) rfl (by repeat (first | exact np_ret | exact np_cut | apply np_cutr | apply np_seq | apply np_block | apply np_loopN')) (pure_move rfl) rfl (by kernel_rfl) rfl rfl ?_
    refine any_pure (i := 6) (listed' := [tt,tt,tt,tt,tt,tt,tt,ff,ff]) rfl (by repeat (first | exact np_ret | exact np_cut | apply np_cutr | apply np_seq | apply np_block | apply np_loopN')) (pure_indexAddrN rfl rfl rfl (by omega)) rfl (by kernel_rfl) rfl rfl ?_
    refine any_load (i := 7) (listed' := [tt,tt,tt,tt,tt,tt,tt,tt,ff]) rfl (by repeat (first | exact np_ret | exact np_cut | apply np_cutr | apply np_seq | apply np_block | apply np_loopN')) (load_s rfl rfl (hat' _)) rfl (by kernel_rfl) rfl rfl ?_
    refine any_bool (i := 8) (listed' := [tt,tt,tt,tt,tt,tt,tt,tt,tt]) rfl (by repeat (first | exact np_ret | exact np_cut | apply np_cutr | apply np_seq | apply np_block | apply np_loopN')) (pure_neq rfl rfl) rfl (by kernel_rfl) rfl rfl (fun h66 => ?_) (fun h66 => ?_)
    ·refine any_done (by kernel_rfl) ?_
     refine nrm_seq ?_
     refine tri_cond_t rfl ?_
     refine tri_seq ?_
     refine tri_region ?_
     refine seq_pure (pure_assign rfl) rfl rfl ?_
     refine seq_done ?_
     refine nrm_seq ?_
     refine tri_ret ?_
     refine ret_block ?_
     refine ret_seq ?_
     refine ret_loopN ?_
     refine ret_block ?_
     refine ret_seq ?_
     refine ret_fin1 (res_tmp rfl) ?_
     (exact ⟨rfl, by rw [decide_eq_false (fun he => by subst he; omega)], rfl⟩)
    ·refine any_done (by kernel_rfl) ?_
     refine nrm_seq ?_
     refine tri_cond_f rfl ?_
     refine tri_skip ?_
     refine nrm_block ?_
     refine nrm_seq ?_
     refine tri_region ?_
     refine seq_pure (pure_move rfl) rfl rfl ?_
     refine seq_pure (pure_add rfl rfl (by omega) (by omega)) rfl rfl ?_
     refine seq_pure (pure_assign rfl) rfl rfl ?_
     refine seq_done ?_
     refine nrm_loopN (i + 1) ?_ ?_ ?_
     ·exact sub_mk (by repeat (first | exact SubE.nil | refine SubE.cons rfl ?_)) (by repeat (first | exact SubH.refl | exact SubH.nil | refine SubH.cons (by repeat (first | exact Pk.here | apply Pk.there)) ?_ | apply SubH.drop))
     ·exact ⟨by omega, fun j hj hj' hji => by (by_cases he : j = i; (subst he; omega); exact hf j hj hj' (by omega))⟩
     ·omega
   ·refine seq_done ?_
    refine nrm_seq ?_
    refine tri_cond_f rfl ?_
    refine tri_exit ?_
    refine ext_seq ?_
    refine ext_loopN ?_
    refine ext_block_eq ?_
    refine nrm_seq ?_
    refine tri_seq ?_
    refine tri_region ?_
    refine seq_pure (pure_assign rfl) rfl rfl ?_
    refine seq_done ?_
    refine nrm_seq ?_
    refine tri_ret ?_
    refine ret_fin1 (res_tmp rfl) ?_
    (exact ⟨rfl, by rw [decide_eq_true (List.ext_getElem hll (fun j h1 h2 => hf j h1 h2 (by omega)))], rfl⟩)
set_option maxHeartbeats 0 in
set_option maxRecDepth 100000 in
theorem grLists_fn (ls : List (List Int)) (G : IM) (p p' : Option Addr) (c c' : Nat) (es es' : List Value) (F F' : List Nat) (h : Sl G p ls.length c 1 es) (hs : SPs G ls es F) (h' : Sl G p' ls.length c' 1 es') (hs' : SPs G ls es' F') :
  Fn Try.prog 8 [.slice p ls.length c, .slice p' ls.length c'] [] G (Val (.bool true) G) := by
 have hn := h.le
 refine fn_enter Try.func8 rfl Try.ntmps8 Try.results8 rfl ?_
 intro w0
 refine tri_seq ?_
 refine tri_region ?_
 refine seq_pure (pure_assign rfl) rfl rfl ?_
 refine seq_done ?_
 refine nrm_seq ?_
 refine tri_seq ?_
 refine tri_seq ?_
 refine tri_region ?_
 refine seq_pure (pure_move rfl) rfl rfl ?_
 refine seq_pure (pure_len rfl rfl) rfl rfl ?_
 refine seq_pure (pure_move rfl) rfl rfl ?_
 refine seq_pure (pure_len rfl rfl) rfl rfl ?_
 refine seq_pure (pure_neq_f rfl rfl (by omega)) rfl rfl ?_
 refine seq_done ?_
 refine nrm_seq ?_
 refine tri_cond_f rfl ?_
 refine tri_skip ?_
 refine nrm_seq ?_
 refine tri_seq ?_
 refine tri_seq ?_
 refine tri_region ?_
 refine seq_pure (pure_assign rfl) rfl rfl ?_
 refine seq_done ?_
 refine nrm_seq ?_
 refine tri_block ?_
 (refine tri_loopN (fun (i : Nat) => ⟨[(5, .int .i64 i), (0, .slice p ls.length c), (1, .slice p' ls.length c')], [], G⟩) (fun i => i ≤ ls.length) (fun i => ls.length - i) 0 ?_ ?_ ?_)
 ·exact sub_mk (by repeat (first | exact SubE.nil | refine SubE.cons rfl ?_)) (by repeat (first | exact SubH.refl | exact SubH.nil | refine SubH.cons (by repeat (first | exact Pk.here | apply Pk.there)) ?_ | apply SubH.drop))
 ·exact Nat.zero_le _
 ·(rintro i hi)
  refine tri_seq ?_
  refine tri_seq ?_
  refine tri_region ?_
  refine seq_pure (pure_move rfl) rfl rfl ?_
  refine seq_pure (pure_move rfl) rfl rfl ?_
  refine seq_pure (pure_len rfl rfl) rfl rfl ?_
  refine seq_bool (pure_lss rfl rfl) rfl rfl (fun h36 => ?_) (fun h36 => ?_)
  ·refine seq_done ?_
   refine nrm_seq ?_
   refine tri_cond_t rfl ?_
   refine tri_skip ?_
   refine nrm_seq ?_
   refine tri_seq ?_
   refine tri_block ?_
   refine tri_seq ?_
   (have hii : i < ls.length := (by omega); obtain ⟨q1, d1, he1, hs1⟩ := SPs.get hs hii; obtain ⟨b, o, v, rfl, hv, hat, _⟩ := h.kid (i := i) hii; rw [he1] at hv; cases hv; obtain ⟨q2, d2, he2, hs2⟩ := SPs.get hs' hii; obtain ⟨b', o', v', rfl, hv', hat', _⟩ := h'.kid (i := i) hii; rw [he2] at hv'; cases hv'; have hI := grInts_fn ls[i] ls[i] G q1 q2 d1 d2 hs1 hs2; rw [decide_eq_true rfl] at hI; refine tri_draw mixed rfl ?_)
   refine any_pure (i := 0) (listed' := [tt,ff,ff,ff,ff,ff,ff,ff,ff,ff]) rfl (by repeat (first | exact np_ret | exact np_cut | apply np_cutr | apply np_seq | apply np_block | apply np_loopN')) (pure_move rfl) rfl (by kernel_rfl) rfl rfl ?_
   refine any_pure (i := 1) (listed' := [tt,tt,ff,ff,ff,ff,ff,ff,ff,ff]) rfl (by repeat (first | exact np_ret | exact np_cut | apply np_cutr | apply np_seq | apply np_block | apply np_loopN')) (pure_move rfl) rfl (by kernel_rfl) rfl rfl ?_
   refine any_pure (i := 2) (listed' := [tt,tt,tt,ff,ff,ff,ff,ff,ff,ff]) rfl (by repeat (first | exact np_ret | exact np_cut | apply np_cutr | apply np_seq | apply np_block | apply np_loopN')) (pure_indexAddrN rfl rfl rfl (by omega)) rfl (by kernel_rfl) rfl rfl ?_
   refine any_load (i := 3) (listed' := [tt,tt,tt,tt,ff,ff,ff,ff,ff,ff]) rfl (by repeat (first | exact np_ret | exact np_cut | apply np_cutr | apply np_seq | apply np_block | apply np_loopN')) (load_s rfl rfl (hat _)) rfl (by kernel_rfl) rfl rfl ?_
   refine any_pure (i := 4) (listed' := [tt,tt,tt,tt,tt,ff,ff,ff,ff,ff]) rfl (by repeat (first | exact np_ret | exact np_cut | apply np_cutr | apply np_seq | apply np_block | apply np_loopN')) (pure_move rfl) rfl (by kernel_rfl) rfl rfl ?_
   refine any_pure (i := 5) (listed' := [tt,tt,tt,tt,tt,tt,ff,ff,ff,ff]) rfl (by repeat (first | exact np_ret | exact np_cut | apply np_cutr | apply np_seq | apply np_block | apply np_loopN')) (pure_move rfl) rfl (by kernel_rfl) rfl rfl ?_
   refine any_pure (i := 6) (listed' := [tt,tt,tt,tt,tt,tt,tt,ff,ff,ff]) rfl (by repeat (first | exact np_ret | exact np_cut | apply np_cutr | apply np_seq | apply np_block | apply np_loopN')) (pure_indexAddrN rfl rfl rfl (by omega)) rfl (by kernel_rfl) rfl rfl ?_
   refine any_load (i := 7) (listed' := [tt,tt,tt,tt,tt,tt,tt,tt,ff,ff]) rfl (by repeat (first | exact np_ret | exact np_cut | apply np_cutr | apply np_seq | apply np_block | apply np_loopN')) (load_s rfl rfl (hat' _)) rfl (by kernel_rfl) rfl rfl ?_
   refine any_one (j := 8) (by kernel_rfl) ?_
   refine one_val (listed' := [tt,tt,tt,tt,tt,tt,tt,tt,tt,ff]) rfl rfl (hI) rfl rfl rfl ?_
   refine any_pure (i := 9) (listed' := [tt,tt,tt,tt,tt,tt,tt,tt,tt,tt]) rfl (by repeat (first | exact np_ret | exact np_cut | apply np_cutr | apply np_seq | apply np_block | apply np_loopN')) (pure_not_t rfl) rfl (by kernel_rfl) rfl rfl ?_
   refine any_done (by kernel_rfl) ?_
   refine nrm_seq ?_
   refine tri_cond_f rfl ?_
   refine tri_skip ?_
   refine nrm_block ?_
   refine nrm_seq ?_
   refine tri_region ?_
   refine seq_pure (pure_move rfl) rfl rfl ?_
   refine seq_pure (pure_add rfl rfl (by omega) (by omega)) rfl rfl ?_
   refine seq_pure (pure_assign rfl) rfl rfl ?_
   refine seq_done ?_
   refine nrm_loopN (i + 1) ?_ ?_ ?_
   ·exact sub_mk (by repeat (first | exact SubE.nil | refine SubE.cons rfl ?_)) (by repeat (first | exact SubH.refl | exact SubH.nil | refine SubH.cons (by repeat (first | exact Pk.here | apply Pk.there)) ?_ | apply SubH.drop))
   ·omega
   ·omega
  ·refine seq_done ?_
   refine nrm_seq ?_
   refine tri_cond_f rfl ?_
   refine tri_exit ?_
   refine ext_seq ?_
   refine ext_loopN ?_
   refine ext_block_eq ?_
   refine nrm_seq ?_
   refine tri_seq ?_
   refine tri_region ?_
   refine seq_pure (pure_assign rfl) rfl rfl ?_
   refine seq_done ?_
   refine nrm_seq ?_
   refine tri_ret ?_
   refine ret_fin1 (res_tmp rfl) ?_
   exact ⟨rfl, rfl, rfl⟩
end Gw
end Go.Proofs.Yteneckdjdfnjoaa
namespace Go.Proofs.Yteneckdjdfnjoaa
open Go Go.RowKit
namespace Gw
section three
variable {P : Program} {Γ : Ctx} {K : Po} {ops : Array Oper} {H : List (Nat × Nat)} {fuel : Nat} {listed : List Bool}
theorem any_three {j j' j'' : Nat} {σ : Sy} (hr : Region.ready .any ops listed.toArray = [j, j', j'']) (h : One P Γ ops K H fuel listed j σ) (h' : One P Γ ops K H fuel listed j' σ) (h'' : One P Γ ops K H fuel listed j'' σ) : AnyL P Γ ops K H (fuel + 1) listed σ := by
 refine ⟨fun a w hs Hs hHs hall hdc => ?_⟩
 refine ⟨fun h0 => (by rw [hr] at h0; cases h0), fun k hk => ?_⟩
 have hk' := hk
 rw [hr] at hk
 simp at hk
 rcases hk with rfl | rfl | rfl
 ·exact h.run a w hs Hs hHs hall hdc hk'
 ·exact h'.run a w hs Hs hHs hall hdc hk'
 ·exact h''.run a w hs Hs hHs hall hdc hk'
end three
theorem pure_indexAddrP {P : Program} {Γ : Ctx} {env : Env} {hp : List Ent} {G : IM} {ty : TypeId} {x y : Operand} {t e : TypeId} {i : TyR} {sz by' : Nat} {zs : List Value} [hI : TyI P t i] {p : Option Addr} {b o n c j : Nat} {k : IntKind} (hpp : p = some ⟨b, o, none⟩) (hd : i.desc = .slice e) [hE : TySz P e sz by' zs]
  (hx : evo env x = some (.slice p n c)) (hy : evo env y = some (.int k (j : Int))) (h1 : j < n) :
  PureOp P Γ ⟨env, hp, G⟩ (.indexAddr t x y) ty (.pointer (some ⟨b, o + j * sz, none⟩)) := by
 subst hpp
 exact pure_indexAddrN hd hx hy h1
/-- A drawn term. -/
def DrawnT (N : Nat) (G : IM) : IM → Value → List Ent → Prop := Imm fun G' v => ∃ t cells, v = .agg ⟨cells⟩ ∧ RTm G' t cells ∧ t.fit N
set_option maxHeartbeats 0 in
set_option maxRecDepth 100000 in
theorem drawCastValid_fn (G : IM) (q : Option Addr) (n c : Nat) (bs : List UInt8) (hb : Sl G q n c 1 (byts bs)) : Fn Try.prog 22 [.slice q n c] [] G (DrawnT 100 G) := by
 refine fn_enter Try.func22 rfl Try.ntmps22 Try.results22 rfl ?_
 intro w0
 refine tri_seq ?_
 refine tri_region ?_
 (refine seq_step (step_alloc rfl) rfl ?_; rintro _ ⟨b3, rfl⟩)
 refine seq_done ?_
 refine nrm_seq ?_
 refine tri_seq ?_
 refine tri_region ?_
 refine seq_pure (pure_move rfl) rfl rfl ?_
 (refine seq_take rfl (l18Open_fn G q n c bs hb) (List.Perm.refl _) rfl rfl (fun v G1 outs hle1 hh => ?_); obtain ⟨rfl, br, pb, nb, cb, bs', rfl, rfl, hnb, hb'⟩ := hh)
 refine seq_pure (pure_assign rfl) rfl rfl ?_
 refine seq_done ?_
 refine nrm_seq ?_
 refine tri_seq ?_
 refine tri_region ?_
 refine seq_pure (pure_move rfl) rfl rfl ?_
 refine seq_pure (pure_move rfl) rfl rfl ?_
 (have hcall := l4Random_fn br pb nb cb bs' hnb 0 _ hb' (by omega); refine seq_take rfl hcall (Pk.perm (by repeat (first | exact Pk.here | apply Pk.there))) rfl rfl (fun v Gn outs hle1 hh => ?_); obtain ⟨p1, hp11, hp12, rfl, e, ce, rfl, hre, hfe⟩ := hh; replace hb' := hb'.mono hle1)
 (have hcall := l4Mutate_fn br pb nb cb bs' hnb p1 _ hb' (by omega) e ce 100 hfe hre; refine seq_take rfl hcall (Pk.perm (by repeat (first | exact Pk.here | apply Pk.there))) rfl rfl (fun v Gn outs hle3 hh => ?_); obtain ⟨p3, hp31, hp32, rfl, f, cf, rfl, hrf, hff⟩ := hh; have hl2 := hrf.len; have ho2 := hrf.one)
 refine seq_store rfl rfl rfl hl2 ho2 rfl (by repeat (first | exact Sw.here | apply Sw.there)) (by exact upd_all hl2.symm) ?_
 refine seq_done ?_
 refine nrm_seq ?_
 refine tri_ret ?_
 refine ret_fin1 (res_cell rfl (load_a rfl rfl (at_blk_all (by repeat (first | exact List.Mem.head _ | apply List.Mem.tail))) hl2)) ?_
 (exact ⟨rfl, f, _, rfl, hrf, hff⟩)
set_option maxRecDepth 100000 in
theorem drawAllPaths_fn (G : IM) (q : Option Addr) (n c : Nat) (bs : List UInt8) (hb : Sl G q n c 1 (byts bs)) : Fn Try.prog 6 [.slice q n c] [] G (DrawnT 100 G) := by
 refine fn_enter Try.func6 rfl Try.ntmps6 Try.results6 rfl ?_
 intro w0
 refine tri_seq ?_
 refine tri_region ?_
 (refine seq_step (step_alloc rfl) rfl ?_; rintro _ ⟨b3, rfl⟩)
 refine seq_done ?_
 refine nrm_seq ?_
 refine tri_seq ?_
 refine tri_region ?_
 refine seq_pure (pure_move rfl) rfl rfl ?_
 (refine seq_imm rfl (drawCastValid_fn G q n c bs hb) rfl rfl (fun v G4 hle4 hh => ?_); obtain ⟨f, cf, rfl, hrf, hff⟩ := hh; have hl2 := hrf.len; have ho2 := hrf.one)
 refine seq_store rfl rfl rfl hl2 ho2 rfl (by repeat (first | exact Sw.here | apply Sw.there)) (by exact upd_all hl2.symm) ?_
 refine seq_done ?_
 refine nrm_seq ?_
 refine tri_ret ?_
 refine ret_fin1 (res_cell rfl (load_a rfl rfl (at_blk_all (by repeat (first | exact List.Mem.head _ | apply List.Mem.tail))) hl2)) ?_
 (exact ⟨rfl, f, _, rfl, hrf, hff⟩)
set_option maxHeartbeats 0 in
set_option maxRecDepth 100000 in
theorem allPathsLaw_fn (bs : List UInt8) (G : IM) (q : Option Addr) (c : Nat) (hb : Sl G q bs.length c 1 (byts bs)) :
  Fn Try.prog 3 [.slice q bs.length c] [] G (Imm fun _ v => v = .bool true) := by
 have hn := hb.le
 refine fn_enter Try.func3 rfl Try.ntmps3 Try.results3 rfl ?_
 intro w0
 refine tri_seq ?_
 refine tri_region ?_
 refine seq_pure (pure_assign rfl) rfl rfl ?_
 refine seq_done ?_
 refine nrm_seq ?_
 refine tri_seq ?_
 refine tri_seq ?_
 refine tri_region ?_
 refine seq_pure (pure_move rfl) rfl rfl ?_
 refine seq_pure (pure_len rfl rfl) rfl rfl ?_
 refine seq_bool (pure_gtr rfl rfl) rfl rfl (fun h11 => ?_) (fun h11 => ?_)
 ·refine seq_done ?_
  refine nrm_seq ?_
  refine tri_cond_t rfl ?_
  refine tri_seq ?_
  refine tri_region ?_
  refine seq_pure (pure_assign rfl) rfl rfl ?_
  refine seq_done ?_
  refine nrm_seq ?_
  refine tri_ret ?_
  refine ret_seq ?_
  refine ret_fin1 (res_tmp rfl) ?_
  exact ⟨rfl, rfl⟩
 ·refine seq_done ?_
  refine nrm_seq ?_
  refine tri_cond_f rfl ?_
  refine tri_skip ?_
  refine nrm_seq ?_
  refine tri_seq ?_
  refine tri_region ?_
  refine seq_pure (pure_move rfl) rfl rfl ?_
  (refine seq_imm rfl (drawAllPaths_fn G q _ c bs hb) rfl rfl (fun v G1 hle1 hh => ?_); obtain ⟨e, ct, rfl, hrt, hft⟩ := hh; obtain ⟨hf1, hf2⟩ := hft; have hl1 := hrt.len; have ho1 := hrt.one)
  (refine seq_step (step_alloc rfl) rfl ?_; rintro _ ⟨b33, rfl⟩)
  refine seq_store rfl rfl rfl hl1 ho1 rfl (by repeat (first | exact Sw.here | apply Sw.there)) (by exact upd_all hl1.symm) ?_
  refine seq_done ?_
  refine nrm_seq ?_
  refine tri_seq ?_
  refine tri_region ?_
  refine seq_load (load_a rfl rfl (at_blk_all (by repeat (first | exact List.Mem.head _ | apply List.Mem.tail))) hl1) rfl rfl ?_
  (refine seq_imm rfl (allPaths_fn e _ _ hrt) rfl rfl (fun v G2 hle2 hh => ?_); obtain ⟨pq, cq, rfl, es, F, hsq, _, hsp, _⟩ := hh; replace hsq := hsq.mono (Dif.le G2 _); replace hsp := SPs.mono (Dif.le G2 _) hsp; replace hrt := hrt.mono hle2; have hnq := hsq.le)
  refine seq_pure (pure_assign rfl) rfl rfl ?_
  refine seq_done ?_
  refine nrm_seq ?_
  refine tri_seq ?_
  refine tri_seq ?_
  refine tri_region ?_
  refine seq_pure (pure_move rfl) rfl rfl ?_
  refine seq_load (load_a rfl rfl (at_blk_all (by repeat (first | exact List.Mem.head _ | apply List.Mem.tail))) hl1) rfl rfl ?_
  (refine seq_imm rfl (sAllPaths_fn e _ _ (by omega) hrt) rfl rfl (fun v G3 hle3 hh => ?_); obtain ⟨pq2, cq2, rfl, es2, F2, hsq2, _, hsp2, _⟩ := hh; replace hsq2 := hsq2.mono (Dif.le G3 _); replace hsp2 := SPs.mono (Dif.le G3 _) hsp2; replace hrt := hrt.mono hle3; replace hsq := hsq.mono hle3; replace hsp := SPs.mono hle3 hsp; have hL := grLists_fn (mAll e) G3 pq pq2 cq cq2 es es2 F F2 hsq hsp hsq2 hsp2)
  refine seq_val rfl (hL) rfl rfl ?_
  refine seq_pure (pure_not_t rfl) rfl rfl ?_
  refine seq_done ?_
  refine nrm_seq ?_
  refine tri_cond_f rfl ?_
  refine tri_skip ?_
  refine nrm_seq ?_
  refine tri_seq ?_
  refine tri_seq ?_
  refine tri_region ?_
  refine seq_pure (pure_assign rfl) rfl rfl ?_
  refine seq_done ?_
  refine nrm_seq ?_
  refine tri_block ?_
  (refine tri_loopN (fun (x : Nat × IM) => ⟨[(5, .int .i64 x.1), (4, .slice pq (mAll e).length cq), (3, .pointer (some ⟨b33, 0, none⟩))], [.blk b33 ct], x.2⟩) (fun x => x.1 ≤ (mAll e).length ∧ IMle G3 x.2) (fun x => (mAll e).length - x.1) (0, G3) ?_ ?_ ?_)
  ·(simp only [flat_snoc]; exact sub_mk (by repeat (first | exact SubE.nil | refine SubE.cons rfl ?_)) (by repeat (first | exact SubH.refl | exact SubH.nil | refine SubH.cons (by repeat (first | exact Pk.here | apply Pk.there)) ?_ | apply SubH.drop)))
  ·exact ⟨Nat.zero_le _, IMle.refl _⟩
  ·(rintro ⟨(i : Nat), Gi⟩ ⟨hi, hleI⟩; simp only [] at hi hleI ⊢; replace hrt := hrt.mono hleI; replace hsq := hsq.mono hleI; replace hsp := SPs.mono hleI hsp)
   refine tri_seq ?_
   refine tri_seq ?_
   refine tri_region ?_
   refine seq_pure (pure_move rfl) rfl rfl ?_
   refine seq_pure (pure_move rfl) rfl rfl ?_
   refine seq_pure (pure_len rfl rfl) rfl rfl ?_
   refine seq_bool (pure_lss rfl rfl) rfl rfl (fun h74 => ?_) (fun h74 => ?_)
   ·refine seq_done ?_
    refine nrm_seq ?_
    refine tri_cond_t rfl ?_
    refine tri_skip ?_
    refine nrm_seq ?_
    refine tri_seq ?_
    refine tri_block ?_
    refine tri_seq ?_
    (have hii : i < (mAll e).length := (by omega); obtain ⟨q0, d0, he0, hs0⟩ := SPs.get hsp hii; have hnode := mAll_node (List.getElem_mem hii); have hlp := mAll_len (List.getElem_mem hii); generalize (mAll e)[i] = l at he0 hs0 hnode hlp; obtain ⟨b, o, v, hpp, hv, hat, hgb⟩ := hsq.kid (i := i) hii; rw [he0] at hv; cases hv; obtain ⟨hcv, x, hx, hm1, hm2⟩ := hnode; have hA := termAt_g e l Gi ct q0 d0 hf1 hrt hs0; rw [hm1] at hA; refine tri_cut (fun (y : Nat × List Value × IM) => ⟨[(7, .bool true), (6, .pointer (some ⟨y.1, 0, none⟩)), (5, .int .i64 i), (4, .slice pq (mAll e).length cq), (3, .pointer (some ⟨b33, 0, none⟩))], [.blk y.1 y.2.1, .blk b33 ct], y.2.2⟩) (fun y => IMle Gi y.2.2 ∧ RTm y.2.2 x y.2.1) (tri_draw mixed rfl ?_) ?_)
    ·refine any_load (i := 0) (listed' := [tt,ff,ff,ff,ff,ff,ff,ff,ff,ff,ff,ff]) rfl (by repeat (first | exact np_ret | exact np_cut | apply np_cutr | apply np_seq | apply np_block | apply np_loopN')) (load_a rfl rfl (at_blk_all (by repeat (first | exact List.Mem.head _ | apply List.Mem.tail))) hl1) rfl (by kernel_rfl) rfl rfl ?_
     refine any_pure (i := 1) (listed' := [tt,tt,ff,ff,ff,ff,ff,ff,ff,ff,ff,ff]) rfl (by repeat (first | exact np_ret | exact np_cut | apply np_cutr | apply np_seq | apply np_block | apply np_loopN')) (pure_move rfl) rfl (by kernel_rfl) rfl rfl ?_
     refine any_pure (i := 2) (listed' := [tt,tt,tt,ff,ff,ff,ff,ff,ff,ff,ff,ff]) rfl (by repeat (first | exact np_ret | exact np_cut | apply np_cutr | apply np_seq | apply np_block | apply np_loopN')) (pure_move rfl) rfl (by kernel_rfl) rfl rfl ?_
     refine any_pure (i := 3) (listed' := [tt,tt,tt,tt,ff,ff,ff,ff,ff,ff,ff,ff]) rfl (by repeat (first | exact np_ret | exact np_cut | apply np_cutr | apply np_seq | apply np_block | apply np_loopN')) (pure_indexAddrP hpp rfl rfl rfl (by omega)) rfl (by kernel_rfl) rfl rfl ?_
     refine any_load (i := 4) (listed' := [tt,tt,tt,tt,tt,ff,ff,ff,ff,ff,ff,ff]) rfl (by repeat (first | exact np_ret | exact np_cut | apply np_cutr | apply np_seq | apply np_block | apply np_loopN')) (load_s rfl rfl (hat _)) rfl (by kernel_rfl) rfl rfl ?_
     refine any_two (j := 5) (j' := 9) (by kernel_rfl) ?_ ?_
     ·(refine one_imm (listed' := [tt,tt,tt,tt,tt,tt,ff,ff,ff,ff,ff,ff]) rfl rfl hA rfl rfl rfl (fun v G4 hle4 hh => ?_); obtain ⟨c4x, F4, rfl, hs4, hn4⟩ := hh; have hrx := hs4.R.mono (Dif.le G4 Gi); have hl4 := hrx.len; have ho4 := hrx.one)
      refine any_pure (i := 6) (listed' := [tt,tt,tt,tt,tt,tt,tt,ff,ff,ff,ff,ff]) rfl (by repeat (first | exact np_ret | exact np_cut | apply np_cutr | apply np_seq | apply np_block | apply np_loopN')) (pure_move rfl) rfl (by kernel_rfl) rfl rfl ?_
      refine any_pure (i := 7) (listed' := [tt,tt,tt,tt,tt,tt,tt,tt,ff,ff,ff,ff]) rfl (by repeat (first | exact np_ret | exact np_cut | apply np_cutr | apply np_seq | apply np_block | apply np_loopN')) (pure_extract rfl rfl) rfl (by kernel_rfl) rfl rfl ?_
      refine any_pure (i := 8) (listed' := [tt,tt,tt,tt,tt,tt,tt,tt,tt,ff,ff,ff]) rfl (by repeat (first | exact np_ret | exact np_cut | apply np_cutr | apply np_seq | apply np_block | apply np_loopN')) (pure_extract rfl rfl) rfl (by kernel_rfl) rfl rfl ?_
      refine any_one (j := 9) (by kernel_rfl) ?_
      (refine one_step0 (listed' := [tt,tt,tt,tt,tt,tt,tt,tt,tt,tt,ff,ff]) rfl (step_alloc rfl) rfl rfl ?_; rintro _ ⟨b95, rfl⟩)
      refine any_one (j := 10) (by kernel_rfl) ?_
      refine one_storeM rfl rfl rfl rfl hl4 ho4 rfl rfl (by repeat (first | exact Sw.here | apply Sw.there)) (by exact upd_all hl4.symm) (by repeat (first | exact HmOk.nil | apply HmOk.dep (by decide +kernel) | apply HmOk.im (by decide +kernel) hgb (by repeat (first | exact List.Mem.head _ | apply List.Mem.tail)) | apply HmOk.blk (by decide +kernel) (by repeat (first | exact Pk.here | apply Pk.there)) (by repeat (first | exact List.Mem.head _ | apply List.Mem.tail)))) ?_
      refine any_pure (i := 11) (listed' := [tt,tt,tt,tt,tt,tt,tt,tt,tt,tt,tt,tt]) rfl (by repeat (first | exact np_ret | exact np_cut | apply np_cutr | apply np_seq | apply np_block | apply np_loopN')) (pure_assign rfl) rfl (by kernel_rfl) rfl rfl ?_
      refine any_done (by kernel_rfl) ?_
      refine nrm_cut (b95, c4x, G4) (sub_mk (by repeat (first | exact SubE.nil | refine SubE.cons rfl ?_)) (by repeat (first | exact SubH.refl | exact SubH.nil | refine SubH.cons (by repeat (first | exact Pk.here | apply Pk.there)) ?_ | apply SubH.drop))) ⟨hle4, hrx⟩
     ·(refine one_step0 (listed' := [tt,tt,tt,tt,tt,ff,ff,ff,ff,tt,ff,ff]) rfl (step_alloc rfl) rfl rfl ?_; rintro _ ⟨b101, rfl⟩)
      refine any_one (j := 5) (by kernel_rfl) ?_
      (refine one_imm (listed' := [tt,tt,tt,tt,tt,tt,ff,ff,ff,tt,ff,ff]) rfl rfl hA rfl rfl rfl (fun v G4 hle4 hh => ?_); obtain ⟨c4x, F4, rfl, hs4, hn4⟩ := hh; have hrx := hs4.R.mono (Dif.le G4 Gi); have hl4 := hrx.len; have ho4 := hrx.one)
      refine any_pure (i := 6) (listed' := [tt,tt,tt,tt,tt,tt,tt,ff,ff,tt,ff,ff]) rfl (by repeat (first | exact np_ret | exact np_cut | apply np_cutr | apply np_seq | apply np_block | apply np_loopN')) (pure_move rfl) rfl (by kernel_rfl) rfl rfl ?_
      refine any_pure (i := 7) (listed' := [tt,tt,tt,tt,tt,tt,tt,tt,ff,tt,ff,ff]) rfl (by repeat (first | exact np_ret | exact np_cut | apply np_cutr | apply np_seq | apply np_block | apply np_loopN')) (pure_extract rfl rfl) rfl (by kernel_rfl) rfl rfl ?_
      refine any_pure (i := 8) (listed' := [tt,tt,tt,tt,tt,tt,tt,tt,tt,tt,ff,ff]) rfl (by repeat (first | exact np_ret | exact np_cut | apply np_cutr | apply np_seq | apply np_block | apply np_loopN')) (pure_extract rfl rfl) rfl (by kernel_rfl) rfl rfl ?_
      refine any_one (j := 10) (by kernel_rfl) ?_
      refine one_storeM rfl rfl rfl rfl hl4 ho4 rfl rfl (by repeat (first | exact Sw.here | apply Sw.there)) (by exact upd_all hl4.symm) (by repeat (first | exact HmOk.nil | apply HmOk.dep (by decide +kernel) | apply HmOk.im (by decide +kernel) hgb (by repeat (first | exact List.Mem.head _ | apply List.Mem.tail)) | apply HmOk.blk (by decide +kernel) (by repeat (first | exact Pk.here | apply Pk.there)) (by repeat (first | exact List.Mem.head _ | apply List.Mem.tail)))) ?_
      refine any_pure (i := 11) (listed' := [tt,tt,tt,tt,tt,tt,tt,tt,tt,tt,tt,tt]) rfl (by repeat (first | exact np_ret | exact np_cut | apply np_cutr | apply np_seq | apply np_block | apply np_loopN')) (pure_assign rfl) rfl (by kernel_rfl) rfl rfl ?_
      refine any_done (by kernel_rfl) ?_
      refine nrm_cut (b101, c4x, G4) (sub_mk (by repeat (first | exact SubE.nil | refine SubE.cons rfl ?_)) (by repeat (first | exact SubH.refl | exact SubH.nil | refine SubH.cons (by repeat (first | exact Pk.here | apply Pk.there)) ?_ | apply SubH.drop))) ⟨hle4, hrx⟩
    ·(rintro ⟨(b6 : Nat), (c6 : List Value), G5⟩ ⟨hle5, hrx⟩; simp only [] at hle5 hrx ⊢; obtain ⟨qt, dt, et, qf, df, ef, q3, d3, es3, rfl, _⟩ := hrx.open; replace hrt := hrt.mono hle5; replace hsq := hsq.mono hle5; replace hsp := SPs.mono hle5 hsp; replace hs0 := hs0.mono hle5; replace hleI := hleI.trans hle5)
     refine tri_seq ?_
     refine tri_seq ?_
     refine tri_region ?_
     refine seq_pure (pure_move rfl) rfl rfl ?_
     refine seq_pure (pure_not_t rfl) rfl rfl ?_
     refine seq_done ?_
     refine nrm_seq ?_
     refine tri_cond_f rfl ?_
     refine tri_skip ?_
     refine nrm_seq ?_
     refine tri_seq ?_
     (have hq4 := hrx; obtain ⟨b, o, v, hpp, hv, hat, hgb⟩ := hsq.kid (i := i) hii; rw [he0] at hv; cases hv; refine tri_cut (fun (y : IM) => ⟨[(9, .bool false), (5, .int .i64 i), (4, .slice pq (mAll e).length cq), (3, .pointer (some ⟨b33, 0, none⟩))], [.blk b33 ct], y⟩) (fun y => IMle G5 y) (tri_draw mixed rfl ?_) ?_)
     ·refine any_load (i := 0) (listed' := [tt,ff,ff,ff,ff,ff,ff,ff,ff,ff,ff,ff,ff,ff,ff,ff,ff,ff,ff]) rfl (by repeat (first | exact np_ret | exact np_cut | apply np_cutr | apply np_seq | apply np_block | apply np_loopN')) (load_a rfl rfl (at_blk_all (by repeat (first | exact List.Mem.head _ | apply List.Mem.tail))) hl1) rfl (by kernel_rfl) rfl rfl ?_
      refine any_pure (i := 2) (listed' := [tt,ff,tt,ff,ff,ff,ff,ff,ff,ff,ff,ff,ff,ff,ff,ff,ff,ff,ff]) rfl (by repeat (first | exact np_ret | exact np_cut | apply np_cutr | apply np_seq | apply np_block | apply np_loopN')) (pure_move rfl) rfl (by kernel_rfl) rfl rfl ?_
      refine any_pure (i := 3) (listed' := [tt,ff,tt,tt,ff,ff,ff,ff,ff,ff,ff,ff,ff,ff,ff,ff,ff,ff,ff]) rfl (by repeat (first | exact np_ret | exact np_cut | apply np_cutr | apply np_seq | apply np_block | apply np_loopN')) (pure_move rfl) rfl (by kernel_rfl) rfl rfl ?_
      refine any_pure (i := 4) (listed' := [tt,ff,tt,tt,tt,ff,ff,ff,ff,ff,ff,ff,ff,ff,ff,ff,ff,ff,ff]) rfl (by repeat (first | exact np_ret | exact np_cut | apply np_cutr | apply np_seq | apply np_block | apply np_loopN')) (pure_indexAddrP hpp rfl rfl rfl (by omega)) rfl (by kernel_rfl) rfl rfl ?_
      refine any_load (i := 5) (listed' := [tt,ff,tt,tt,tt,tt,ff,ff,ff,ff,ff,ff,ff,ff,ff,ff,ff,ff,ff]) rfl (by repeat (first | exact np_ret | exact np_cut | apply np_cutr | apply np_seq | apply np_block | apply np_loopN')) (load_s rfl rfl (hat _)) rfl (by kernel_rfl) rfl rfl ?_
      refine any_pure (i := 7) (listed' := [tt,ff,tt,tt,tt,tt,ff,tt,ff,ff,ff,ff,ff,ff,ff,ff,ff,ff,ff]) rfl (by repeat (first | exact np_ret | exact np_cut | apply np_cutr | apply np_seq | apply np_block | apply np_loopN')) (pure_fieldAddr0 rfl) rfl (by kernel_rfl) rfl rfl ?_
      refine any_load (i := 8) (listed' := [tt,ff,tt,tt,tt,tt,ff,tt,tt,ff,ff,ff,ff,ff,ff,ff,ff,ff,ff]) rfl (by repeat (first | exact np_ret | exact np_cut | apply np_cutr | apply np_seq | apply np_block | apply np_loopN')) (load_bs rfl rfl (by repeat (first | exact List.Mem.head _ | apply List.Mem.tail)) (by rfl)) rfl (by kernel_rfl) rfl rfl ?_
      refine any_pure (i := 9) (listed' := [tt,ff,tt,tt,tt,tt,ff,tt,tt,tt,ff,ff,ff,ff,ff,ff,ff,ff,ff]) rfl (by repeat (first | exact np_ret | exact np_cut | apply np_cutr | apply np_seq | apply np_block | apply np_loopN')) (pure_len rfl rfl) rfl (by kernel_rfl) rfl rfl ?_
      refine any_three (j := 1) (j' := 10) (j'' := 16) (by kernel_rfl) ?_ ?_ ?_
      ·(refine one_step0 (listed' := [tt,tt,tt,tt,tt,tt,ff,tt,tt,tt,ff,ff,ff,ff,ff,ff,ff,ff,ff]) rfl (step_buildSlice rfl rfl rfl (by omega) (by unfold maxLen; omega) rfl) rfl rfl ?_; rintro _ ⟨b134, rfl⟩)
       refine any_three (j := 6) (j' := 10) (j'' := 16) (by kernel_rfl) ?_ ?_ ?_
       ·(refine one_appendSl (listed' := [tt,tt,tt,tt,tt,tt,tt,tt,tt,tt,ff,ff,ff,ff,ff,ff,ff,ff,ff]) rfl rfl rfl rfl rfl rfl (fun _ _ => by repeat (first | exact Sw.here | apply Sw.there)) hs0 (ints_one _) (Nat.zero_le _) (by unfold maxLen; omega) (by omega) rfl rfl (by repeat (first | exact HmOk.nil | apply HmOk.dep (by decide +kernel) | apply HmOk.im (by decide +kernel) hgb (by repeat (first | exact List.Mem.head _ | apply List.Mem.tail)) | apply HmOk.blk (by decide +kernel) (by repeat (first | exact Pk.here | apply Pk.there)) (by repeat (first | exact List.Mem.head _ | apply List.Mem.tail)))) (fun p4 c4 => ?_); simp only [Nat.zero_add, List.nil_append])
        refine any_two (j := 10) (j' := 16) (by kernel_rfl) ?_ ?_
        ·(refine one_step0 (listed' := [tt,tt,tt,tt,tt,tt,tt,tt,tt,tt,tt,ff,ff,ff,ff,ff,ff,ff,ff]) rfl (step_buildSlice rfl rfl rfl (by omega) (by unfold maxLen; omega) rfl) rfl rfl ?_; rintro _ ⟨b138, rfl⟩)
         refine any_two (j := 11) (j' := 16) (by kernel_rfl) ?_ ?_
         ·(refine one_append (listed' := [tt,tt,tt,tt,tt,tt,tt,tt,tt,tt,tt,tt,ff,ff,ff,ff,ff,ff,ff]) rfl rfl rfl rfl rfl rfl (fun _ _ => by repeat (first | exact Sw.here | apply Sw.there)) (at_slc_all (by repeat (first | exact List.Mem.head _ | apply List.Mem.tail))) rfl (by simp [Value.oneCell']) (by unfold maxLen; omega) (by omega) rfl rfl (by repeat (first | exact HmOk.nil | apply HmOk.dep (by decide +kernel) | apply HmOk.im (by decide +kernel) hgb (by repeat (first | exact List.Mem.head _ | apply List.Mem.tail)) | apply HmOk.blk (by decide +kernel) (by repeat (first | exact Pk.here | apply Pk.there)) (by repeat (first | exact List.Mem.head _ | apply List.Mem.tail)))) (fun p5 c5 => ?_); have hguard := hgb)
          (clear hguard; refine any_freeze (cs := ints l ++ [.int .i64 (x.ks.length : Int)]) (by repeat (first | exact Pk.here | apply Pk.there)) (fun Gf hlef hslf hnof => ?_); rw [← ints_snoc] at hslf)
          refine any_two (j := 12) (j' := 16) (by kernel_rfl) ?_ ?_
          ·(have hB := termAt_g e (l ++ [(x.ks.length : Int)]) Gf ct p5 c5 hf1 (hrt.mono hlef) (by rw [show (l ++ [(x.ks.length : Int)]).length = l.length + 1 from by simp]; exact hslf); rw [hm2, show (l ++ [(x.ks.length : Int)]).length = l.length + 1 from by simp] at hB; refine one_imm (listed' := [tt,tt,tt,tt,tt,tt,tt,tt,tt,tt,tt,tt,tt,ff,ff,ff,ff,ff,ff]) rfl rfl hB rfl rfl rfl (fun v Gz hlez hh => ?_); obtain ⟨c6x, F6, rfl, hs6, hn6⟩ := hh; have hl6 := hs6.R.len; have ho6 := hs6.R.one)
           refine any_pure (i := 13) (listed' := [tt,tt,tt,tt,tt,tt,tt,tt,tt,tt,tt,tt,tt,tt,ff,ff,ff,ff,ff]) rfl (by repeat (first | exact np_ret | exact np_cut | apply np_cutr | apply np_seq | apply np_block | apply np_loopN')) (pure_move rfl) rfl (by kernel_rfl) rfl rfl ?_
           refine any_pure (i := 14) (listed' := [tt,tt,tt,tt,tt,tt,tt,tt,tt,tt,tt,tt,tt,tt,tt,ff,ff,ff,ff]) rfl (by repeat (first | exact np_ret | exact np_cut | apply np_cutr | apply np_seq | apply np_block | apply np_loopN')) (pure_extract rfl rfl) rfl (by kernel_rfl) rfl rfl ?_
           refine any_pure (i := 15) (listed' := [tt,tt,tt,tt,tt,tt,tt,tt,tt,tt,tt,tt,tt,tt,tt,tt,ff,ff,ff]) rfl (by repeat (first | exact np_ret | exact np_cut | apply np_cutr | apply np_seq | apply np_block | apply np_loopN')) (pure_extract rfl rfl) rfl (by kernel_rfl) rfl rfl ?_
           refine any_one (j := 16) (by kernel_rfl) ?_
           (refine one_step0 (listed' := [tt,tt,tt,tt,tt,tt,tt,tt,tt,tt,tt,tt,tt,tt,tt,tt,tt,ff,ff]) rfl (step_alloc rfl) rfl rfl ?_; rintro _ ⟨b148, rfl⟩)
           refine any_one (j := 17) (by kernel_rfl) ?_
           refine one_storeM rfl rfl rfl rfl hl6 ho6 rfl rfl (by repeat (first | exact Sw.here | apply Sw.there)) (by exact upd_all hl6.symm) (by repeat (first | exact HmOk.nil | apply HmOk.dep (by decide +kernel) | apply HmOk.im (by decide +kernel) hgb (by repeat (first | exact List.Mem.head _ | apply List.Mem.tail)) | apply HmOk.blk (by decide +kernel) (by repeat (first | exact Pk.here | apply Pk.there)) (by repeat (first | exact List.Mem.head _ | apply List.Mem.tail)))) ?_
           refine any_pure (i := 18) (listed' := [tt,tt,tt,tt,tt,tt,tt,tt,tt,tt,tt,tt,tt,tt,tt,tt,tt,tt,tt]) rfl (by repeat (first | exact np_ret | exact np_cut | apply np_cutr | apply np_seq | apply np_block | apply np_loopN')) (pure_assign rfl) rfl (by kernel_rfl) rfl rfl ?_
           refine any_done (by kernel_rfl) ?_
           refine nrm_cut Gz (sub_mk (by repeat (first | exact SubE.nil | refine SubE.cons rfl ?_)) (by repeat (first | exact SubH.refl | exact SubH.nil | refine SubH.cons (by repeat (first | exact Pk.here | apply Pk.there)) ?_ | apply SubH.drop))) (hlef.trans hlez)
          ·(refine one_step0 (listed' := [tt,tt,tt,tt,tt,tt,tt,tt,tt,tt,tt,tt,ff,ff,ff,ff,tt,ff,ff]) rfl (step_alloc rfl) rfl rfl ?_; rintro _ ⟨b154, rfl⟩)
           refine any_one (j := 12) (by kernel_rfl) ?_
           (have hB := termAt_g e (l ++ [(x.ks.length : Int)]) Gf ct p5 c5 hf1 (hrt.mono hlef) (by rw [show (l ++ [(x.ks.length : Int)]).length = l.length + 1 from by simp]; exact hslf); rw [hm2, show (l ++ [(x.ks.length : Int)]).length = l.length + 1 from by simp] at hB; refine one_imm (listed' := [tt,tt,tt,tt,tt,tt,tt,tt,tt,tt,tt,tt,tt,ff,ff,ff,tt,ff,ff]) rfl rfl hB rfl rfl rfl (fun v Gz hlez hh => ?_); obtain ⟨c6x, F6, rfl, hs6, hn6⟩ := hh; have hl6 := hs6.R.len; have ho6 := hs6.R.one)
           refine any_pure (i := 13) (listed' := [tt,tt,tt,tt,tt,tt,tt,tt,tt,tt,tt,tt,tt,tt,ff,ff,tt,ff,ff]) rfl (by repeat (first | exact np_ret | exact np_cut | apply np_cutr | apply np_seq | apply np_block | apply np_loopN')) (pure_move rfl) rfl (by kernel_rfl) rfl rfl ?_
           refine any_pure (i := 14) (listed' := [tt,tt,tt,tt,tt,tt,tt,tt,tt,tt,tt,tt,tt,tt,tt,ff,tt,ff,ff]) rfl (by repeat (first | exact np_ret | exact np_cut | apply np_cutr | apply np_seq | apply np_block | apply np_loopN')) (pure_extract rfl rfl) rfl (by kernel_rfl) rfl rfl ?_
           refine any_pure (i := 15) (listed' := [tt,tt,tt,tt,tt,tt,tt,tt,tt,tt,tt,tt,tt,tt,tt,tt,tt,ff,ff]) rfl (by repeat (first | exact np_ret | exact np_cut | apply np_cutr | apply np_seq | apply np_block | apply np_loopN')) (pure_extract rfl rfl) rfl (by kernel_rfl) rfl rfl ?_
           refine any_one (j := 17) (by kernel_rfl) ?_
           refine one_storeM rfl rfl rfl rfl hl6 ho6 rfl rfl (by repeat (first | exact Sw.here | apply Sw.there)) (by exact upd_all hl6.symm) (by repeat (first | exact HmOk.nil | apply HmOk.dep (by decide +kernel) | apply HmOk.im (by decide +kernel) hgb (by repeat (first | exact List.Mem.head _ | apply List.Mem.tail)) | apply HmOk.blk (by decide +kernel) (by repeat (first | exact Pk.here | apply Pk.there)) (by repeat (first | exact List.Mem.head _ | apply List.Mem.tail)))) ?_
           refine any_pure (i := 18) (listed' := [tt,tt,tt,tt,tt,tt,tt,tt,tt,tt,tt,tt,tt,tt,tt,tt,tt,tt,tt]) rfl (by repeat (first | exact np_ret | exact np_cut | apply np_cutr | apply np_seq | apply np_block | apply np_loopN')) (pure_assign rfl) rfl (by kernel_rfl) rfl rfl ?_
           refine any_done (by kernel_rfl) ?_
           refine nrm_cut Gz (sub_mk (by repeat (first | exact SubE.nil | refine SubE.cons rfl ?_)) (by repeat (first | exact SubH.refl | exact SubH.nil | refine SubH.cons (by repeat (first | exact Pk.here | apply Pk.there)) ?_ | apply SubH.drop))) (hlef.trans hlez)
         ·(refine one_step0 (listed' := [tt,tt,tt,tt,tt,tt,tt,tt,tt,tt,tt,ff,ff,ff,ff,ff,tt,ff,ff]) rfl (step_alloc rfl) rfl rfl ?_; rintro _ ⟨b165, rfl⟩)
          refine any_one (j := 11) (by kernel_rfl) ?_
          (refine one_append (listed' := [tt,tt,tt,tt,tt,tt,tt,tt,tt,tt,tt,tt,ff,ff,ff,ff,tt,ff,ff]) rfl rfl rfl rfl rfl rfl (fun _ _ => by repeat (first | exact Sw.here | apply Sw.there)) (at_slc_all (by repeat (first | exact List.Mem.head _ | apply List.Mem.tail))) rfl (by simp [Value.oneCell']) (by unfold maxLen; omega) (by omega) rfl rfl (by repeat (first | exact HmOk.nil | apply HmOk.dep (by decide +kernel) | apply HmOk.im (by decide +kernel) hgb (by repeat (first | exact List.Mem.head _ | apply List.Mem.tail)) | apply HmOk.blk (by decide +kernel) (by repeat (first | exact Pk.here | apply Pk.there)) (by repeat (first | exact List.Mem.head _ | apply List.Mem.tail)))) (fun p5 c5 => ?_); have hguard := hgb)
          (clear hguard; refine any_freeze (cs := ints l ++ [.int .i64 (x.ks.length : Int)]) (by repeat (first | exact Pk.here | apply Pk.there)) (fun Gf hlef hslf hnof => ?_); rw [← ints_snoc] at hslf)
          refine any_one (j := 12) (by kernel_rfl) ?_
          (have hB := termAt_g e (l ++ [(x.ks.length : Int)]) Gf ct p5 c5 hf1 (hrt.mono hlef) (by rw [show (l ++ [(x.ks.length : Int)]).length = l.length + 1 from by simp]; exact hslf); rw [hm2, show (l ++ [(x.ks.length : Int)]).length = l.length + 1 from by simp] at hB; refine one_imm (listed' := [tt,tt,tt,tt,tt,tt,tt,tt,tt,tt,tt,tt,tt,ff,ff,ff,tt,ff,ff]) rfl rfl hB rfl rfl rfl (fun v Gz hlez hh => ?_); obtain ⟨c6x, F6, rfl, hs6, hn6⟩ := hh; have hl6 := hs6.R.len; have ho6 := hs6.R.one)
          refine any_pure (i := 13) (listed' := [tt,tt,tt,tt,tt,tt,tt,tt,tt,tt,tt,tt,tt,tt,ff,ff,tt,ff,ff]) rfl (by repeat (first | exact np_ret | exact np_cut | apply np_cutr | apply np_seq | apply np_block | apply np_loopN')) (pure_move rfl) rfl (by kernel_rfl) rfl rfl ?_
          refine any_pure (i := 14) (listed' := [tt,tt,tt,tt,tt,tt,tt,tt,tt,tt,tt,tt,tt,tt,tt,ff,tt,ff,ff]) rfl (by repeat (first | exact np_ret | exact np_cut | apply np_cutr | apply np_seq | apply np_block | apply np_loopN')) (pure_extract rfl rfl) rfl (by kernel_rfl) rfl rfl ?_
          refine any_pure (i := 15) (listed' := [tt,tt,tt,tt,tt,tt,tt,tt,tt,tt,tt,tt,tt,tt,tt,tt,tt,ff,ff]) rfl (by repeat (first | exact np_ret | exact np_cut | apply np_cutr | apply np_seq | apply np_block | apply np_loopN')) (pure_extract rfl rfl) rfl (by kernel_rfl) rfl rfl ?_
          refine any_one (j := 17) (by kernel_rfl) ?_
          refine one_storeM rfl rfl rfl rfl hl6 ho6 rfl rfl (by repeat (first | exact Sw.here | apply Sw.there)) (by exact upd_all hl6.symm) (by repeat (first | exact HmOk.nil | apply HmOk.dep (by decide +kernel) | apply HmOk.im (by decide +kernel) hgb (by repeat (first | exact List.Mem.head _ | apply List.Mem.tail)) | apply HmOk.blk (by decide +kernel) (by repeat (first | exact Pk.here | apply Pk.there)) (by repeat (first | exact List.Mem.head _ | apply List.Mem.tail)))) ?_
          refine any_pure (i := 18) (listed' := [tt,tt,tt,tt,tt,tt,tt,tt,tt,tt,tt,tt,tt,tt,tt,tt,tt,tt,tt]) rfl (by repeat (first | exact np_ret | exact np_cut | apply np_cutr | apply np_seq | apply np_block | apply np_loopN')) (pure_assign rfl) rfl (by kernel_rfl) rfl rfl ?_
          refine any_done (by kernel_rfl) ?_
          refine nrm_cut Gz (sub_mk (by repeat (first | exact SubE.nil | refine SubE.cons rfl ?_)) (by repeat (first | exact SubH.refl | exact SubH.nil | refine SubH.cons (by repeat (first | exact Pk.here | apply Pk.there)) ?_ | apply SubH.drop))) (hlef.trans hlez)
        ·(refine one_step0 (listed' := [tt,tt,tt,tt,tt,tt,tt,tt,tt,tt,ff,ff,ff,ff,ff,ff,tt,ff,ff]) rfl (step_alloc rfl) rfl rfl ?_; rintro _ ⟨b179, rfl⟩)
         refine any_one (j := 10) (by kernel_rfl) ?_
         (refine one_step0 (listed' := [tt,tt,tt,tt,tt,tt,tt,tt,tt,tt,tt,ff,ff,ff,ff,ff,tt,ff,ff]) rfl (step_buildSlice rfl rfl rfl (by omega) (by unfold maxLen; omega) rfl) rfl rfl ?_; rintro _ ⟨b181, rfl⟩)
         refine any_one (j := 11) (by kernel_rfl) ?_
         (refine one_append (listed' := [tt,tt,tt,tt,tt,tt,tt,tt,tt,tt,tt,tt,ff,ff,ff,ff,tt,ff,ff]) rfl rfl rfl rfl rfl rfl (fun _ _ => by repeat (first | exact Sw.here | apply Sw.there)) (at_slc_all (by repeat (first | exact List.Mem.head _ | apply List.Mem.tail))) rfl (by simp [Value.oneCell']) (by unfold maxLen; omega) (by omega) rfl rfl (by repeat (first | exact HmOk.nil | apply HmOk.dep (by decide +kernel) | apply HmOk.im (by decide +kernel) hgb (by repeat (first | exact List.Mem.head _ | apply List.Mem.tail)) | apply HmOk.blk (by decide +kernel) (by repeat (first | exact Pk.here | apply Pk.there)) (by repeat (first | exact List.Mem.head _ | apply List.Mem.tail)))) (fun p5 c5 => ?_); have hguard := hgb)
         (clear hguard; refine any_freeze (cs := ints l ++ [.int .i64 (x.ks.length : Int)]) (by repeat (first | exact Pk.here | apply Pk.there)) (fun Gf hlef hslf hnof => ?_); rw [← ints_snoc] at hslf)
         refine any_one (j := 12) (by kernel_rfl) ?_
         (have hB := termAt_g e (l ++ [(x.ks.length : Int)]) Gf ct p5 c5 hf1 (hrt.mono hlef) (by rw [show (l ++ [(x.ks.length : Int)]).length = l.length + 1 from by simp]; exact hslf); rw [hm2, show (l ++ [(x.ks.length : Int)]).length = l.length + 1 from by simp] at hB; refine one_imm (listed' := [tt,tt,tt,tt,tt,tt,tt,tt,tt,tt,tt,tt,tt,ff,ff,ff,tt,ff,ff]) rfl rfl hB rfl rfl rfl (fun v Gz hlez hh => ?_); obtain ⟨c6x, F6, rfl, hs6, hn6⟩ := hh; have hl6 := hs6.R.len; have ho6 := hs6.R.one)
         refine any_pure (i := 13) (listed' := [tt,tt,tt,tt,tt,tt,tt,tt,tt,tt,tt,tt,tt,tt,ff,ff,tt,ff,ff]) rfl (by repeat (first | exact np_ret | exact np_cut | apply np_cutr | apply np_seq | apply np_block | apply np_loopN')) (pure_move rfl) rfl (by kernel_rfl) rfl rfl ?_
         refine any_pure (i := 14) (listed' := [tt,tt,tt,tt,tt,tt,tt,tt,tt,tt,tt,tt,tt,tt,tt,ff,tt,ff,ff]) rfl (by repeat (first | exact np_ret | exact np_cut | apply np_cutr | apply np_seq | apply np_block | apply np_loopN')) (pure_extract rfl rfl) rfl (by kernel_rfl) rfl rfl ?_
         refine any_pure (i := 15) (listed' := [tt,tt,tt,tt,tt,tt,tt,tt,tt,tt,tt,tt,tt,tt,tt,tt,tt,ff,ff]) rfl (by repeat (first | exact np_ret | exact np_cut | apply np_cutr | apply np_seq | apply np_block | apply np_loopN')) (pure_extract rfl rfl) rfl (by kernel_rfl) rfl rfl ?_
         refine any_one (j := 17) (by kernel_rfl) ?_
         refine one_storeM rfl rfl rfl rfl hl6 ho6 rfl rfl (by repeat (first | exact Sw.here | apply Sw.there)) (by exact upd_all hl6.symm) (by repeat (first | exact HmOk.nil | apply HmOk.dep (by decide +kernel) | apply HmOk.im (by decide +kernel) hgb (by repeat (first | exact List.Mem.head _ | apply List.Mem.tail)) | apply HmOk.blk (by decide +kernel) (by repeat (first | exact Pk.here | apply Pk.there)) (by repeat (first | exact List.Mem.head _ | apply List.Mem.tail)))) ?_
         refine any_pure (i := 18) (listed' := [tt,tt,tt,tt,tt,tt,tt,tt,tt,tt,tt,tt,tt,tt,tt,tt,tt,tt,tt]) rfl (by repeat (first | exact np_ret | exact np_cut | apply np_cutr | apply np_seq | apply np_block | apply np_loopN')) (pure_assign rfl) rfl (by kernel_rfl) rfl rfl ?_
         refine any_done (by kernel_rfl) ?_
         refine nrm_cut Gz (sub_mk (by repeat (first | exact SubE.nil | refine SubE.cons rfl ?_)) (by repeat (first | exact SubH.refl | exact SubH.nil | refine SubH.cons (by repeat (first | exact Pk.here | apply Pk.there)) ?_ | apply SubH.drop))) (hlef.trans hlez)
       ·(refine one_step0 (listed' := [tt,tt,tt,tt,tt,tt,ff,tt,tt,tt,tt,ff,ff,ff,ff,ff,ff,ff,ff]) rfl (step_buildSlice rfl rfl rfl (by omega) (by unfold maxLen; omega) rfl) rfl rfl ?_; rintro _ ⟨b195, rfl⟩)
        refine any_two (j := 6) (j' := 16) (by kernel_rfl) ?_ ?_
        ·(refine one_appendSl (listed' := [tt,tt,tt,tt,tt,tt,tt,tt,tt,tt,tt,ff,ff,ff,ff,ff,ff,ff,ff]) rfl rfl rfl rfl rfl rfl (fun _ _ => by repeat (first | exact Sw.here | apply Sw.there)) hs0 (ints_one _) (Nat.zero_le _) (by unfold maxLen; omega) (by omega) rfl rfl (by repeat (first | exact HmOk.nil | apply HmOk.dep (by decide +kernel) | apply HmOk.im (by decide +kernel) hgb (by repeat (first | exact List.Mem.head _ | apply List.Mem.tail)) | apply HmOk.blk (by decide +kernel) (by repeat (first | exact Pk.here | apply Pk.there)) (by repeat (first | exact List.Mem.head _ | apply List.Mem.tail)))) (fun p4 c4 => ?_); simp only [Nat.zero_add, List.nil_append])
         refine any_two (j := 11) (j' := 16) (by kernel_rfl) ?_ ?_
         ·(refine one_append (listed' := [tt,tt,tt,tt,tt,tt,tt,tt,tt,tt,tt,tt,ff,ff,ff,ff,ff,ff,ff]) rfl rfl rfl rfl rfl rfl (fun _ _ => by repeat (first | exact Sw.here | apply Sw.there)) (at_slc_all (by repeat (first | exact List.Mem.head _ | apply List.Mem.tail))) rfl (by simp [Value.oneCell']) (by unfold maxLen; omega) (by omega) rfl rfl (by repeat (first | exact HmOk.nil | apply HmOk.dep (by decide +kernel) | apply HmOk.im (by decide +kernel) hgb (by repeat (first | exact List.Mem.head _ | apply List.Mem.tail)) | apply HmOk.blk (by decide +kernel) (by repeat (first | exact Pk.here | apply Pk.there)) (by repeat (first | exact List.Mem.head _ | apply List.Mem.tail)))) (fun p5 c5 => ?_); have hguard := hgb)
          (clear hguard; refine any_freeze (cs := ints l ++ [.int .i64 (x.ks.length : Int)]) (by repeat (first | exact Pk.here | apply Pk.there)) (fun Gf hlef hslf hnof => ?_); rw [← ints_snoc] at hslf)
          refine any_two (j := 12) (j' := 16) (by kernel_rfl) ?_ ?_
          ·(have hB := termAt_g e (l ++ [(x.ks.length : Int)]) Gf ct p5 c5 hf1 (hrt.mono hlef) (by rw [show (l ++ [(x.ks.length : Int)]).length = l.length + 1 from by simp]; exact hslf); rw [hm2, show (l ++ [(x.ks.length : Int)]).length = l.length + 1 from by simp] at hB; refine one_imm (listed' := [tt,tt,tt,tt,tt,tt,tt,tt,tt,tt,tt,tt,tt,ff,ff,ff,ff,ff,ff]) rfl rfl hB rfl rfl rfl (fun v Gz hlez hh => ?_); obtain ⟨c6x, F6, rfl, hs6, hn6⟩ := hh; have hl6 := hs6.R.len; have ho6 := hs6.R.one)
           refine any_pure (i := 13) (listed' := [tt,tt,tt,tt,tt,tt,tt,tt,tt,tt,tt,tt,tt,tt,ff,ff,ff,ff,ff]) rfl (by repeat (first | exact np_ret | exact np_cut | apply np_cutr | apply np_seq | apply np_block | apply np_loopN')) (pure_move rfl) rfl (by kernel_rfl) rfl rfl ?_
           refine any_pure (i := 14) (listed' := [tt,tt,tt,tt,tt,tt,tt,tt,tt,tt,tt,tt,tt,tt,tt,ff,ff,ff,ff]) rfl (by repeat (first | exact np_ret | exact np_cut | apply np_cutr | apply np_seq | apply np_block | apply np_loopN')) (pure_extract rfl rfl) rfl (by kernel_rfl) rfl rfl ?_
           refine any_pure (i := 15) (listed' := [tt,tt,tt,tt,tt,tt,tt,tt,tt,tt,tt,tt,tt,tt,tt,tt,ff,ff,ff]) rfl (by repeat (first | exact np_ret | exact np_cut | apply np_cutr | apply np_seq | apply np_block | apply np_loopN')) (pure_extract rfl rfl) rfl (by kernel_rfl) rfl rfl ?_
           refine any_one (j := 16) (by kernel_rfl) ?_
           (refine one_step0 (listed' := [tt,tt,tt,tt,tt,tt,tt,tt,tt,tt,tt,tt,tt,tt,tt,tt,tt,ff,ff]) rfl (step_alloc rfl) rfl rfl ?_; rintro _ ⟨b207, rfl⟩)
           refine any_one (j := 17) (by kernel_rfl) ?_
           refine one_storeM rfl rfl rfl rfl hl6 ho6 rfl rfl (by repeat (first | exact Sw.here | apply Sw.there)) (by exact upd_all hl6.symm) (by repeat (first | exact HmOk.nil | apply HmOk.dep (by decide +kernel) | apply HmOk.im (by decide +kernel) hgb (by repeat (first | exact List.Mem.head _ | apply List.Mem.tail)) | apply HmOk.blk (by decide +kernel) (by repeat (first | exact Pk.here | apply Pk.there)) (by repeat (first | exact List.Mem.head _ | apply List.Mem.tail)))) ?_
           refine any_pure (i := 18) (listed' := [tt,tt,tt,tt,tt,tt,tt,tt,tt,tt,tt,tt,tt,tt,tt,tt,tt,tt,tt]) rfl (by repeat (first | exact np_ret | exact np_cut | apply np_cutr | apply np_seq | apply np_block | apply np_loopN')) (pure_assign rfl) rfl (by kernel_rfl) rfl rfl ?_
           refine any_done (by kernel_rfl) ?_
           refine nrm_cut Gz (sub_mk (by repeat (first | exact SubE.nil | refine SubE.cons rfl ?_)) (by repeat (first | exact SubH.refl | exact SubH.nil | refine SubH.cons (by repeat (first | exact Pk.here | apply Pk.there)) ?_ | apply SubH.drop))) (hlef.trans hlez)
          ·(refine one_step0 (listed' := [tt,tt,tt,tt,tt,tt,tt,tt,tt,tt,tt,tt,ff,ff,ff,ff,tt,ff,ff]) rfl (step_alloc rfl) rfl rfl ?_; rintro _ ⟨b213, rfl⟩)
           refine any_one (j := 12) (by kernel_rfl) ?_
           (have hB := termAt_g e (l ++ [(x.ks.length : Int)]) Gf ct p5 c5 hf1 (hrt.mono hlef) (by rw [show (l ++ [(x.ks.length : Int)]).length = l.length + 1 from by simp]; exact hslf); rw [hm2, show (l ++ [(x.ks.length : Int)]).length = l.length + 1 from by simp] at hB; refine one_imm (listed' := [tt,tt,tt,tt,tt,tt,tt,tt,tt,tt,tt,tt,tt,ff,ff,ff,tt,ff,ff]) rfl rfl hB rfl rfl rfl (fun v Gz hlez hh => ?_); obtain ⟨c6x, F6, rfl, hs6, hn6⟩ := hh; have hl6 := hs6.R.len; have ho6 := hs6.R.one)
           refine any_pure (i := 13) (listed' := [tt,tt,tt,tt,tt,tt,tt,tt,tt,tt,tt,tt,tt,tt,ff,ff,tt,ff,ff]) rfl (by repeat (first | exact np_ret | exact np_cut | apply np_cutr | apply np_seq | apply np_block | apply np_loopN')) (pure_move rfl) rfl (by kernel_rfl) rfl rfl ?_
           refine any_pure (i := 14) (listed' := [tt,tt,tt,tt,tt,tt,tt,tt,tt,tt,tt,tt,tt,tt,tt,ff,tt,ff,ff]) rfl (by repeat (first | exact np_ret | exact np_cut | apply np_cutr | apply np_seq | apply np_block | apply np_loopN')) (pure_extract rfl rfl) rfl (by kernel_rfl) rfl rfl ?_
           refine any_pure (i := 15) (listed' := [tt,tt,tt,tt,tt,tt,tt,tt,tt,tt,tt,tt,tt,tt,tt,tt,tt,ff,ff]) rfl (by repeat (first | exact np_ret | exact np_cut | apply np_cutr | apply np_seq | apply np_block | apply np_loopN')) (pure_extract rfl rfl) rfl (by kernel_rfl) rfl rfl ?_
           refine any_one (j := 17) (by kernel_rfl) ?_
           refine one_storeM rfl rfl rfl rfl hl6 ho6 rfl rfl (by repeat (first | exact Sw.here | apply Sw.there)) (by exact upd_all hl6.symm) (by repeat (first | exact HmOk.nil | apply HmOk.dep (by decide +kernel) | apply HmOk.im (by decide +kernel) hgb (by repeat (first | exact List.Mem.head _ | apply List.Mem.tail)) | apply HmOk.blk (by decide +kernel) (by repeat (first | exact Pk.here | apply Pk.there)) (by repeat (first | exact List.Mem.head _ | apply List.Mem.tail)))) ?_
           refine any_pure (i := 18) (listed' := [tt,tt,tt,tt,tt,tt,tt,tt,tt,tt,tt,tt,tt,tt,tt,tt,tt,tt,tt]) rfl (by repeat (first | exact np_ret | exact np_cut | apply np_cutr | apply np_seq | apply np_block | apply np_loopN')) (pure_assign rfl) rfl (by kernel_rfl) rfl rfl ?_
           refine any_done (by kernel_rfl) ?_
           refine nrm_cut Gz (sub_mk (by repeat (first | exact SubE.nil | refine SubE.cons rfl ?_)) (by repeat (first | exact SubH.refl | exact SubH.nil | refine SubH.cons (by repeat (first | exact Pk.here | apply Pk.there)) ?_ | apply SubH.drop))) (hlef.trans hlez)
         ·(refine one_step0 (listed' := [tt,tt,tt,tt,tt,tt,tt,tt,tt,tt,tt,ff,ff,ff,ff,ff,tt,ff,ff]) rfl (step_alloc rfl) rfl rfl ?_; rintro _ ⟨b224, rfl⟩)
          refine any_one (j := 11) (by kernel_rfl) ?_
          (refine one_append (listed' := [tt,tt,tt,tt,tt,tt,tt,tt,tt,tt,tt,tt,ff,ff,ff,ff,tt,ff,ff]) rfl rfl rfl rfl rfl rfl (fun _ _ => by repeat (first | exact Sw.here | apply Sw.there)) (at_slc_all (by repeat (first | exact List.Mem.head _ | apply List.Mem.tail))) rfl (by simp [Value.oneCell']) (by unfold maxLen; omega) (by omega) rfl rfl (by repeat (first | exact HmOk.nil | apply HmOk.dep (by decide +kernel) | apply HmOk.im (by decide +kernel) hgb (by repeat (first | exact List.Mem.head _ | apply List.Mem.tail)) | apply HmOk.blk (by decide +kernel) (by repeat (first | exact Pk.here | apply Pk.there)) (by repeat (first | exact List.Mem.head _ | apply List.Mem.tail)))) (fun p5 c5 => ?_); have hguard := hgb)
          (clear hguard; refine any_freeze (cs := ints l ++ [.int .i64 (x.ks.length : Int)]) (by repeat (first | exact Pk.here | apply Pk.there)) (fun Gf hlef hslf hnof => ?_); rw [← ints_snoc] at hslf)
          refine any_one (j := 12) (by kernel_rfl) ?_
          (have hB := termAt_g e (l ++ [(x.ks.length : Int)]) Gf ct p5 c5 hf1 (hrt.mono hlef) (by rw [show (l ++ [(x.ks.length : Int)]).length = l.length + 1 from by simp]; exact hslf); rw [hm2, show (l ++ [(x.ks.length : Int)]).length = l.length + 1 from by simp] at hB; refine one_imm (listed' := [tt,tt,tt,tt,tt,tt,tt,tt,tt,tt,tt,tt,tt,ff,ff,ff,tt,ff,ff]) rfl rfl hB rfl rfl rfl (fun v Gz hlez hh => ?_); obtain ⟨c6x, F6, rfl, hs6, hn6⟩ := hh; have hl6 := hs6.R.len; have ho6 := hs6.R.one)
          refine any_pure (i := 13) (listed' := [tt,tt,tt,tt,tt,tt,tt,tt,tt,tt,tt,tt,tt,tt,ff,ff,tt,ff,ff]) rfl (by repeat (first | exact np_ret | exact np_cut | apply np_cutr | apply np_seq | apply np_block | apply np_loopN')) (pure_move rfl) rfl (by kernel_rfl) rfl rfl ?_
          refine any_pure (i := 14) (listed' := [tt,tt,tt,tt,tt,tt,tt,tt,tt,tt,tt,tt,tt,tt,tt,ff,tt,ff,ff]) rfl (by repeat (first | exact np_ret | exact np_cut | apply np_cutr | apply np_seq | apply np_block | apply np_loopN')) (pure_extract rfl rfl) rfl (by kernel_rfl) rfl rfl ?_
          refine any_pure (i := 15) (listed' := [tt,tt,tt,tt,tt,tt,tt,tt,tt,tt,tt,tt,tt,tt,tt,tt,tt,ff,ff]) rfl (by repeat (first | exact np_ret | exact np_cut | apply np_cutr | apply np_seq | apply np_block | apply np_loopN')) (pure_extract rfl rfl) rfl (by kernel_rfl) rfl rfl ?_
          refine any_one (j := 17) (by kernel_rfl) ?_
          refine one_storeM rfl rfl rfl rfl hl6 ho6 rfl rfl (by repeat (first | exact Sw.here | apply Sw.there)) (by exact upd_all hl6.symm) (by repeat (first | exact HmOk.nil | apply HmOk.dep (by decide +kernel) | apply HmOk.im (by decide +kernel) hgb (by repeat (first | exact List.Mem.head _ | apply List.Mem.tail)) | apply HmOk.blk (by decide +kernel) (by repeat (first | exact Pk.here | apply Pk.there)) (by repeat (first | exact List.Mem.head _ | apply List.Mem.tail)))) ?_
          refine any_pure (i := 18) (listed' := [tt,tt,tt,tt,tt,tt,tt,tt,tt,tt,tt,tt,tt,tt,tt,tt,tt,tt,tt]) rfl (by repeat (first | exact np_ret | exact np_cut | apply np_cutr | apply np_seq | apply np_block | apply np_loopN')) (pure_assign rfl) rfl (by kernel_rfl) rfl rfl ?_
          refine any_done (by kernel_rfl) ?_
          refine nrm_cut Gz (sub_mk (by repeat (first | exact SubE.nil | refine SubE.cons rfl ?_)) (by repeat (first | exact SubH.refl | exact SubH.nil | refine SubH.cons (by repeat (first | exact Pk.here | apply Pk.there)) ?_ | apply SubH.drop))) (hlef.trans hlez)
        ·(refine one_step0 (listed' := [tt,tt,tt,tt,tt,tt,ff,tt,tt,tt,tt,ff,ff,ff,ff,ff,tt,ff,ff]) rfl (step_alloc rfl) rfl rfl ?_; rintro _ ⟨b238, rfl⟩)
         refine any_one (j := 6) (by kernel_rfl) ?_
         (refine one_appendSl (listed' := [tt,tt,tt,tt,tt,tt,tt,tt,tt,tt,tt,ff,ff,ff,ff,ff,tt,ff,ff]) rfl rfl rfl rfl rfl rfl (fun _ _ => by repeat (first | exact Sw.here | apply Sw.there)) hs0 (ints_one _) (Nat.zero_le _) (by unfold maxLen; omega) (by omega) rfl rfl (by repeat (first | exact HmOk.nil | apply HmOk.dep (by decide +kernel) | apply HmOk.im (by decide +kernel) hgb (by repeat (first | exact List.Mem.head _ | apply List.Mem.tail)) | apply HmOk.blk (by decide +kernel) (by repeat (first | exact Pk.here | apply Pk.there)) (by repeat (first | exact List.Mem.head _ | apply List.Mem.tail)))) (fun p4 c4 => ?_); simp only [Nat.zero_add, List.nil_append])
         refine any_one (j := 11) (by kernel_rfl) ?_
         (refine one_append (listed' := [tt,tt,tt,tt,tt,tt,tt,tt,tt,tt,tt,tt,ff,ff,ff,ff,tt,ff,ff]) rfl rfl rfl rfl rfl rfl (fun _ _ => by repeat (first | exact Sw.here | apply Sw.there)) (at_slc_all (by repeat (first | exact List.Mem.head _ | apply List.Mem.tail))) rfl (by simp [Value.oneCell']) (by unfold maxLen; omega) (by omega) rfl rfl (by repeat (first | exact HmOk.nil | apply HmOk.dep (by decide +kernel) | apply HmOk.im (by decide +kernel) hgb (by repeat (first | exact List.Mem.head _ | apply List.Mem.tail)) | apply HmOk.blk (by decide +kernel) (by repeat (first | exact Pk.here | apply Pk.there)) (by repeat (first | exact List.Mem.head _ | apply List.Mem.tail)))) (fun p5 c5 => ?_); have hguard := hgb)
         (clear hguard; refine any_freeze (cs := ints l ++ [.int .i64 (x.ks.length : Int)]) (by repeat (first | exact Pk.here | apply Pk.there)) (fun Gf hlef hslf hnof => ?_); rw [← ints_snoc] at hslf)
         refine any_one (j := 12) (by kernel_rfl) ?_
         (have hB := termAt_g e (l ++ [(x.ks.length : Int)]) Gf ct p5 c5 hf1 (hrt.mono hlef) (by rw [show (l ++ [(x.ks.length : Int)]).length = l.length + 1 from by simp]; exact hslf); rw [hm2, show (l ++ [(x.ks.length : Int)]).length = l.length + 1 from by simp] at hB; refine one_imm (listed' := [tt,tt,tt,tt,tt,tt,tt,tt,tt,tt,tt,tt,tt,ff,ff,ff,tt,ff,ff]) rfl rfl hB rfl rfl rfl (fun v Gz hlez hh => ?_); obtain ⟨c6x, F6, rfl, hs6, hn6⟩ := hh; have hl6 := hs6.R.len; have ho6 := hs6.R.one)
         refine any_pure (i := 13) (listed' := [tt,tt,tt,tt,tt,tt,tt,tt,tt,tt,tt,tt,tt,tt,ff,ff,tt,ff,ff]) rfl (by repeat (first | exact np_ret | exact np_cut | apply np_cutr | apply np_seq | apply np_block | apply np_loopN')) (pure_move rfl) rfl (by kernel_rfl) rfl rfl ?_
         refine any_pure (i := 14) (listed' := [tt,tt,tt,tt,tt,tt,tt,tt,tt,tt,tt,tt,tt,tt,tt,ff,tt,ff,ff]) rfl (by repeat (first | exact np_ret | exact np_cut | apply np_cutr | apply np_seq | apply np_block | apply np_loopN')) (pure_extract rfl rfl) rfl (by kernel_rfl) rfl rfl ?_
         refine any_pure (i := 15) (listed' := [tt,tt,tt,tt,tt,tt,tt,tt,tt,tt,tt,tt,tt,tt,tt,tt,tt,ff,ff]) rfl (by repeat (first | exact np_ret | exact np_cut | apply np_cutr | apply np_seq | apply np_block | apply np_loopN')) (pure_extract rfl rfl) rfl (by kernel_rfl) rfl rfl ?_
         refine any_one (j := 17) (by kernel_rfl) ?_
         refine one_storeM rfl rfl rfl rfl hl6 ho6 rfl rfl (by repeat (first | exact Sw.here | apply Sw.there)) (by exact upd_all hl6.symm) (by repeat (first | exact HmOk.nil | apply HmOk.dep (by decide +kernel) | apply HmOk.im (by decide +kernel) hgb (by repeat (first | exact List.Mem.head _ | apply List.Mem.tail)) | apply HmOk.blk (by decide +kernel) (by repeat (first | exact Pk.here | apply Pk.there)) (by repeat (first | exact List.Mem.head _ | apply List.Mem.tail)))) ?_
         refine any_pure (i := 18) (listed' := [tt,tt,tt,tt,tt,tt,tt,tt,tt,tt,tt,tt,tt,tt,tt,tt,tt,tt,tt]) rfl (by repeat (first | exact np_ret | exact np_cut | apply np_cutr | apply np_seq | apply np_block | apply np_loopN')) (pure_assign rfl) rfl (by kernel_rfl) rfl rfl ?_
         refine any_done (by kernel_rfl) ?_
         refine nrm_cut Gz (sub_mk (by repeat (first | exact SubE.nil | refine SubE.cons rfl ?_)) (by repeat (first | exact SubH.refl | exact SubH.nil | refine SubH.cons (by repeat (first | exact Pk.here | apply Pk.there)) ?_ | apply SubH.drop))) (hlef.trans hlez)
       ·(refine one_step0 (listed' := [tt,tt,tt,tt,tt,tt,ff,tt,tt,tt,ff,ff,ff,ff,ff,ff,tt,ff,ff]) rfl (step_alloc rfl) rfl rfl ?_; rintro _ ⟨b254, rfl⟩)
        refine any_two (j := 6) (j' := 10) (by kernel_rfl) ?_ ?_
        ·(refine one_appendSl (listed' := [tt,tt,tt,tt,tt,tt,tt,tt,tt,tt,ff,ff,ff,ff,ff,ff,tt,ff,ff]) rfl rfl rfl rfl rfl rfl (fun _ _ => by repeat (first | exact Sw.here | apply Sw.there)) hs0 (ints_one _) (Nat.zero_le _) (by unfold maxLen; omega) (by omega) rfl rfl (by repeat (first | exact HmOk.nil | apply HmOk.dep (by decide +kernel) | apply HmOk.im (by decide +kernel) hgb (by repeat (first | exact List.Mem.head _ | apply List.Mem.tail)) | apply HmOk.blk (by decide +kernel) (by repeat (first | exact Pk.here | apply Pk.there)) (by repeat (first | exact List.Mem.head _ | apply List.Mem.tail)))) (fun p4 c4 => ?_); simp only [Nat.zero_add, List.nil_append])
         refine any_one (j := 10) (by kernel_rfl) ?_
         (refine one_step0 (listed' := [tt,tt,tt,tt,tt,tt,tt,tt,tt,tt,tt,ff,ff,ff,ff,ff,tt,ff,ff]) rfl (step_buildSlice rfl rfl rfl (by omega) (by unfold maxLen; omega) rfl) rfl rfl ?_; rintro _ ⟨b258, rfl⟩)
         refine any_one (j := 11) (by kernel_rfl) ?_
         (refine one_append (listed' := [tt,tt,tt,tt,tt,tt,tt,tt,tt,tt,tt,tt,ff,ff,ff,ff,tt,ff,ff]) rfl rfl rfl rfl rfl rfl (fun _ _ => by repeat (first | exact Sw.here | apply Sw.there)) (at_slc_all (by repeat (first | exact List.Mem.head _ | apply List.Mem.tail))) rfl (by simp [Value.oneCell']) (by unfold maxLen; omega) (by omega) rfl rfl (by repeat (first | exact HmOk.nil | apply HmOk.dep (by decide +kernel) | apply HmOk.im (by decide +kernel) hgb (by repeat (first | exact List.Mem.head _ | apply List.Mem.tail)) | apply HmOk.blk (by decide +kernel) (by repeat (first | exact Pk.here | apply Pk.there)) (by repeat (first | exact List.Mem.head _ | apply List.Mem.tail)))) (fun p5 c5 => ?_); have hguard := hgb)
         (clear hguard; refine any_freeze (cs := ints l ++ [.int .i64 (x.ks.length : Int)]) (by repeat (first | exact Pk.here | apply Pk.there)) (fun Gf hlef hslf hnof => ?_); rw [← ints_snoc] at hslf)
         refine any_one (j := 12) (by kernel_rfl) ?_
         (have hB := termAt_g e (l ++ [(x.ks.length : Int)]) Gf ct p5 c5 hf1 (hrt.mono hlef) (by rw [show (l ++ [(x.ks.length : Int)]).length = l.length + 1 from by simp]; exact hslf); rw [hm2, show (l ++ [(x.ks.length : Int)]).length = l.length + 1 from by simp] at hB; refine one_imm (listed' := [tt,tt,tt,tt,tt,tt,tt,tt,tt,tt,tt,tt,tt,ff,ff,ff,tt,ff,ff]) rfl rfl hB rfl rfl rfl (fun v Gz hlez hh => ?_); obtain ⟨c6x, F6, rfl, hs6, hn6⟩ := hh; have hl6 := hs6.R.len; have ho6 := hs6.R.one)
         refine any_pure (i := 13) (listed' := [tt,tt,tt,tt,tt,tt,tt,tt,tt,tt,tt,tt,tt,tt,ff,ff,tt,ff,ff]) rfl (by repeat (first | exact np_ret | exact np_cut | apply np_cutr | apply np_seq | apply np_block | apply np_loopN')) (pure_move rfl) rfl (by kernel_rfl) rfl rfl ?_
         refine any_pure (i := 14) (listed' := [tt,tt,tt,tt,tt,tt,tt,tt,tt,tt,tt,tt,tt,tt,tt,ff,tt,ff,ff]) rfl (by repeat (first | exact np_ret | exact np_cut | apply np_cutr | apply np_seq | apply np_block | apply np_loopN')) (pure_extract rfl rfl) rfl (by kernel_rfl) rfl rfl ?_
         refine any_pure (i := 15) (listed' := [tt,tt,tt,tt,tt,tt,tt,tt,tt,tt,tt,tt,tt,tt,tt,tt,tt,ff,ff]) rfl (by repeat (first | exact np_ret | exact np_cut | apply np_cutr | apply np_seq | apply np_block | apply np_loopN')) (pure_extract rfl rfl) rfl (by kernel_rfl) rfl rfl ?_
         refine any_one (j := 17) (by kernel_rfl) ?_
         refine one_storeM rfl rfl rfl rfl hl6 ho6 rfl rfl (by repeat (first | exact Sw.here | apply Sw.there)) (by exact upd_all hl6.symm) (by repeat (first | exact HmOk.nil | apply HmOk.dep (by decide +kernel) | apply HmOk.im (by decide +kernel) hgb (by repeat (first | exact List.Mem.head _ | apply List.Mem.tail)) | apply HmOk.blk (by decide +kernel) (by repeat (first | exact Pk.here | apply Pk.there)) (by repeat (first | exact List.Mem.head _ | apply List.Mem.tail)))) ?_
         refine any_pure (i := 18) (listed' := [tt,tt,tt,tt,tt,tt,tt,tt,tt,tt,tt,tt,tt,tt,tt,tt,tt,tt,tt]) rfl (by repeat (first | exact np_ret | exact np_cut | apply np_cutr | apply np_seq | apply np_block | apply np_loopN')) (pure_assign rfl) rfl (by kernel_rfl) rfl rfl ?_
         refine any_done (by kernel_rfl) ?_
         refine nrm_cut Gz (sub_mk (by repeat (first | exact SubE.nil | refine SubE.cons rfl ?_)) (by repeat (first | exact SubH.refl | exact SubH.nil | refine SubH.cons (by repeat (first | exact Pk.here | apply Pk.there)) ?_ | apply SubH.drop))) (hlef.trans hlez)
        ·(refine one_step0 (listed' := [tt,tt,tt,tt,tt,tt,ff,tt,tt,tt,tt,ff,ff,ff,ff,ff,tt,ff,ff]) rfl (step_buildSlice rfl rfl rfl (by omega) (by unfold maxLen; omega) rfl) rfl rfl ?_; rintro _ ⟨b272, rfl⟩)
         refine any_one (j := 6) (by kernel_rfl) ?_
         (refine one_appendSl (listed' := [tt,tt,tt,tt,tt,tt,tt,tt,tt,tt,tt,ff,ff,ff,ff,ff,tt,ff,ff]) rfl rfl rfl rfl rfl rfl (fun _ _ => by repeat (first | exact Sw.here | apply Sw.there)) hs0 (ints_one _) (Nat.zero_le _) (by unfold maxLen; omega) (by omega) rfl rfl (by repeat (first | exact HmOk.nil | apply HmOk.dep (by decide +kernel) | apply HmOk.im (by decide +kernel) hgb (by repeat (first | exact List.Mem.head _ | apply List.Mem.tail)) | apply HmOk.blk (by decide +kernel) (by repeat (first | exact Pk.here | apply Pk.there)) (by repeat (first | exact List.Mem.head _ | apply List.Mem.tail)))) (fun p4 c4 => ?_); simp only [Nat.zero_add, List.nil_append])
         refine any_one (j := 11) (by kernel_rfl) ?_
         (refine one_append (listed' := [tt,tt,tt,tt,tt,tt,tt,tt,tt,tt,tt,tt,ff,ff,ff,ff,tt,ff,ff]) rfl rfl rfl rfl rfl rfl (fun _ _ => by repeat (first | exact Sw.here | apply Sw.there)) (at_slc_all (by repeat (first | exact List.Mem.head _ | apply List.Mem.tail))) rfl (by simp [Value.oneCell']) (by unfold maxLen; omega) (by omega) rfl rfl (by repeat (first | exact HmOk.nil | apply HmOk.dep (by decide +kernel) | apply HmOk.im (by decide +kernel) hgb (by repeat (first | exact List.Mem.head _ | apply List.Mem.tail)) | apply HmOk.blk (by decide +kernel) (by repeat (first | exact Pk.here | apply Pk.there)) (by repeat (first | exact List.Mem.head _ | apply List.Mem.tail)))) (fun p5 c5 => ?_); have hguard := hgb)
         (clear hguard; refine any_freeze (cs := ints l ++ [.int .i64 (x.ks.length : Int)]) (by repeat (first | exact Pk.here | apply Pk.there)) (fun Gf hlef hslf hnof => ?_); rw [← ints_snoc] at hslf)
         refine any_one (j := 12) (by kernel_rfl) ?_
         (have hB := termAt_g e (l ++ [(x.ks.length : Int)]) Gf ct p5 c5 hf1 (hrt.mono hlef) (by rw [show (l ++ [(x.ks.length : Int)]).length = l.length + 1 from by simp]; exact hslf); rw [hm2, show (l ++ [(x.ks.length : Int)]).length = l.length + 1 from by simp] at hB; refine one_imm (listed' := [tt,tt,tt,tt,tt,tt,tt,tt,tt,tt,tt,tt,tt,ff,ff,ff,tt,ff,ff]) rfl rfl hB rfl rfl rfl (fun v Gz hlez hh => ?_); obtain ⟨c6x, F6, rfl, hs6, hn6⟩ := hh; have hl6 := hs6.R.len; have ho6 := hs6.R.one)
         refine any_pure (i := 13) (listed' := [tt,tt,tt,tt,tt,tt,tt,tt,tt,tt,tt,tt,tt,tt,ff,ff,tt,ff,ff]) rfl (by repeat (first | exact np_ret | exact np_cut | apply np_cutr | apply np_seq | apply np_block | apply np_loopN')) (pure_move rfl) rfl (by kernel_rfl) rfl rfl ?_
         refine any_pure (i := 14) (listed' := [tt,tt,tt,tt,tt,tt,tt,tt,tt,tt,tt,tt,tt,tt,tt,ff,tt,ff,ff]) rfl (by repeat (first | exact np_ret | exact np_cut | apply np_cutr | apply np_seq | apply np_block | apply np_loopN')) (pure_extract rfl rfl) rfl (by kernel_rfl) rfl rfl ?_
         refine any_pure (i := 15) (listed' := [tt,tt,tt,tt,tt,tt,tt,tt,tt,tt,tt,tt,tt,tt,tt,tt,tt,ff,ff]) rfl (by repeat (first | exact np_ret | exact np_cut | apply np_cutr | apply np_seq | apply np_block | apply np_loopN')) (pure_extract rfl rfl) rfl (by kernel_rfl) rfl rfl ?_
         refine any_one (j := 17) (by kernel_rfl) ?_
         refine one_storeM rfl rfl rfl rfl hl6 ho6 rfl rfl (by repeat (first | exact Sw.here | apply Sw.there)) (by exact upd_all hl6.symm) (by repeat (first | exact HmOk.nil | apply HmOk.dep (by decide +kernel) | apply HmOk.im (by decide +kernel) hgb (by repeat (first | exact List.Mem.head _ | apply List.Mem.tail)) | apply HmOk.blk (by decide +kernel) (by repeat (first | exact Pk.here | apply Pk.there)) (by repeat (first | exact List.Mem.head _ | apply List.Mem.tail)))) ?_
         refine any_pure (i := 18) (listed' := [tt,tt,tt,tt,tt,tt,tt,tt,tt,tt,tt,tt,tt,tt,tt,tt,tt,tt,tt]) rfl (by repeat (first | exact np_ret | exact np_cut | apply np_cutr | apply np_seq | apply np_block | apply np_loopN')) (pure_assign rfl) rfl (by kernel_rfl) rfl rfl ?_
         refine any_done (by kernel_rfl) ?_
         refine nrm_cut Gz (sub_mk (by repeat (first | exact SubE.nil | refine SubE.cons rfl ?_)) (by repeat (first | exact SubH.refl | exact SubH.nil | refine SubH.cons (by repeat (first | exact Pk.here | apply Pk.there)) ?_ | apply SubH.drop))) (hlef.trans hlez)
      ·(refine one_step0 (listed' := [tt,ff,tt,tt,tt,tt,ff,tt,tt,tt,tt,ff,ff,ff,ff,ff,ff,ff,ff]) rfl (step_buildSlice rfl rfl rfl (by omega) (by unfold maxLen; omega) rfl) rfl rfl ?_; rintro _ ⟨b288, rfl⟩)
       refine any_two (j := 1) (j' := 16) (by kernel_rfl) ?_ ?_
       ·(refine one_step0 (listed' := [tt,tt,tt,tt,tt,tt,ff,tt,tt,tt,tt,ff,ff,ff,ff,ff,ff,ff,ff]) rfl (step_buildSlice rfl rfl rfl (by omega) (by unfold maxLen; omega) rfl) rfl rfl ?_; rintro _ ⟨b290, rfl⟩)
        refine any_two (j := 6) (j' := 16) (by kernel_rfl) ?_ ?_
        ·(refine one_appendSl (listed' := [tt,tt,tt,tt,tt,tt,tt,tt,tt,tt,tt,ff,ff,ff,ff,ff,ff,ff,ff]) rfl rfl rfl rfl rfl rfl (fun _ _ => by repeat (first | exact Sw.here | apply Sw.there)) hs0 (ints_one _) (Nat.zero_le _) (by unfold maxLen; omega) (by omega) rfl rfl (by repeat (first | exact HmOk.nil | apply HmOk.dep (by decide +kernel) | apply HmOk.im (by decide +kernel) hgb (by repeat (first | exact List.Mem.head _ | apply List.Mem.tail)) | apply HmOk.blk (by decide +kernel) (by repeat (first | exact Pk.here | apply Pk.there)) (by repeat (first | exact List.Mem.head _ | apply List.Mem.tail)))) (fun p4 c4 => ?_); simp only [Nat.zero_add, List.nil_append])
         refine any_two (j := 11) (j' := 16) (by kernel_rfl) ?_ ?_
         ·(refine one_append (listed' := [tt,tt,tt,tt,tt,tt,tt,tt,tt,tt,tt,tt,ff,ff,ff,ff,ff,ff,ff]) rfl rfl rfl rfl rfl rfl (fun _ _ => by repeat (first | exact Sw.here | apply Sw.there)) (at_slc_all (by repeat (first | exact List.Mem.head _ | apply List.Mem.tail))) rfl (by simp [Value.oneCell']) (by unfold maxLen; omega) (by omega) rfl rfl (by repeat (first | exact HmOk.nil | apply HmOk.dep (by decide +kernel) | apply HmOk.im (by decide +kernel) hgb (by repeat (first | exact List.Mem.head _ | apply List.Mem.tail)) | apply HmOk.blk (by decide +kernel) (by repeat (first | exact Pk.here | apply Pk.there)) (by repeat (first | exact List.Mem.head _ | apply List.Mem.tail)))) (fun p5 c5 => ?_); have hguard := hgb)
          (clear hguard; refine any_freeze (cs := ints l ++ [.int .i64 (x.ks.length : Int)]) (by repeat (first | exact Pk.here | apply Pk.there)) (fun Gf hlef hslf hnof => ?_); rw [← ints_snoc] at hslf)
          refine any_two (j := 12) (j' := 16) (by kernel_rfl) ?_ ?_
          ·(have hB := termAt_g e (l ++ [(x.ks.length : Int)]) Gf ct p5 c5 hf1 (hrt.mono hlef) (by rw [show (l ++ [(x.ks.length : Int)]).length = l.length + 1 from by simp]; exact hslf); rw [hm2, show (l ++ [(x.ks.length : Int)]).length = l.length + 1 from by simp] at hB; refine one_imm (listed' := [tt,tt,tt,tt,tt,tt,tt,tt,tt,tt,tt,tt,tt,ff,ff,ff,ff,ff,ff]) rfl rfl hB rfl rfl rfl (fun v Gz hlez hh => ?_); obtain ⟨c6x, F6, rfl, hs6, hn6⟩ := hh; have hl6 := hs6.R.len; have ho6 := hs6.R.one)
           refine any_pure (i := 13) (listed' := [tt,tt,tt,tt,tt,tt,tt,tt,tt,tt,tt,tt,tt,tt,ff,ff,ff,ff,ff]) rfl (by repeat (first | exact np_ret | exact np_cut | apply np_cutr | apply np_seq | apply np_block | apply np_loopN')) (pure_move rfl) rfl (by kernel_rfl) rfl rfl ?_
           refine any_pure (i := 14) (listed' := [tt,tt,tt,tt,tt,tt,tt,tt,tt,tt,tt,tt,tt,tt,tt,ff,ff,ff,ff]) rfl (by repeat (first | exact np_ret | exact np_cut | apply np_cutr | apply np_seq | apply np_block | apply np_loopN')) (pure_extract rfl rfl) rfl (by kernel_rfl) rfl rfl ?_
           refine any_pure (i := 15) (listed' := [tt,tt,tt,tt,tt,tt,tt,tt,tt,tt,tt,tt,tt,tt,tt,tt,ff,ff,ff]) rfl (by repeat (first | exact np_ret | exact np_cut | apply np_cutr | apply np_seq | apply np_block | apply np_loopN')) (pure_extract rfl rfl) rfl (by kernel_rfl) rfl rfl ?_
           refine any_one (j := 16) (by kernel_rfl) ?_
           (refine one_step0 (listed' := [tt,tt,tt,tt,tt,tt,tt,tt,tt,tt,tt,tt,tt,tt,tt,tt,tt,ff,ff]) rfl (step_alloc rfl) rfl rfl ?_; rintro _ ⟨b302, rfl⟩)
           refine any_one (j := 17) (by kernel_rfl) ?_
           refine one_storeM rfl rfl rfl rfl hl6 ho6 rfl rfl (by repeat (first | exact Sw.here | apply Sw.there)) (by exact upd_all hl6.symm) (by repeat (first | exact HmOk.nil | apply HmOk.dep (by decide +kernel) | apply HmOk.im (by decide +kernel) hgb (by repeat (first | exact List.Mem.head _ | apply List.Mem.tail)) | apply HmOk.blk (by decide +kernel) (by repeat (first | exact Pk.here | apply Pk.there)) (by repeat (first | exact List.Mem.head _ | apply List.Mem.tail)))) ?_
           refine any_pure (i := 18) (listed' := [tt,tt,tt,tt,tt,tt,tt,tt,tt,tt,tt,tt,tt,tt,tt,tt,tt,tt,tt]) rfl (by repeat (first | exact np_ret | exact np_cut | apply np_cutr | apply np_seq | apply np_block | apply np_loopN')) (pure_assign rfl) rfl (by kernel_rfl) rfl rfl ?_
           refine any_done (by kernel_rfl) ?_
           refine nrm_cut Gz (sub_mk (by repeat (first | exact SubE.nil | refine SubE.cons rfl ?_)) (by repeat (first | exact SubH.refl | exact SubH.nil | refine SubH.cons (by repeat (first | exact Pk.here | apply Pk.there)) ?_ | apply SubH.drop))) (hlef.trans hlez)
          ·(refine one_step0 (listed' := [tt,tt,tt,tt,tt,tt,tt,tt,tt,tt,tt,tt,ff,ff,ff,ff,tt,ff,ff]) rfl (step_alloc rfl) rfl rfl ?_; rintro _ ⟨b308, rfl⟩)
           refine any_one (j := 12) (by kernel_rfl) ?_
           (have hB := termAt_g e (l ++ [(x.ks.length : Int)]) Gf ct p5 c5 hf1 (hrt.mono hlef) (by rw [show (l ++ [(x.ks.length : Int)]).length = l.length + 1 from by simp]; exact hslf); rw [hm2, show (l ++ [(x.ks.length : Int)]).length = l.length + 1 from by simp] at hB; refine one_imm (listed' := [tt,tt,tt,tt,tt,tt,tt,tt,tt,tt,tt,tt,tt,ff,ff,ff,tt,ff,ff]) rfl rfl hB rfl rfl rfl (fun v Gz hlez hh => ?_); obtain ⟨c6x, F6, rfl, hs6, hn6⟩ := hh; have hl6 := hs6.R.len; have ho6 := hs6.R.one)
           refine any_pure (i := 13) (listed' := [tt,tt,tt,tt,tt,tt,tt,tt,tt,tt,tt,tt,tt,tt,ff,ff,tt,ff,ff]) rfl (by repeat (first | exact np_ret | exact np_cut | apply np_cutr | apply np_seq | apply np_block | apply np_loopN')) (pure_move rfl) rfl (by kernel_rfl) rfl rfl ?_
           refine any_pure (i := 14) (listed' := [tt,tt,tt,tt,tt,tt,tt,tt,tt,tt,tt,tt,tt,tt,tt,ff,tt,ff,ff]) rfl (by repeat (first | exact np_ret | exact np_cut | apply np_cutr | apply np_seq | apply np_block | apply np_loopN')) (pure_extract rfl rfl) rfl (by kernel_rfl) rfl rfl ?_
           refine any_pure (i := 15) (listed' := [tt,tt,tt,tt,tt,tt,tt,tt,tt,tt,tt,tt,tt,tt,tt,tt,tt,ff,ff]) rfl (by repeat (first | exact np_ret | exact np_cut | apply np_cutr | apply np_seq | apply np_block | apply np_loopN')) (pure_extract rfl rfl) rfl (by kernel_rfl) rfl rfl ?_
           refine any_one (j := 17) (by kernel_rfl) ?_
           refine one_storeM rfl rfl rfl rfl hl6 ho6 rfl rfl (by repeat (first | exact Sw.here | apply Sw.there)) (by exact upd_all hl6.symm) (by repeat (first | exact HmOk.nil | apply HmOk.dep (by decide +kernel) | apply HmOk.im (by decide +kernel) hgb (by repeat (first | exact List.Mem.head _ | apply List.Mem.tail)) | apply HmOk.blk (by decide +kernel) (by repeat (first | exact Pk.here | apply Pk.there)) (by repeat (first | exact List.Mem.head _ | apply List.Mem.tail)))) ?_
           refine any_pure (i := 18) (listed' := [tt,tt,tt,tt,tt,tt,tt,tt,tt,tt,tt,tt,tt,tt,tt,tt,tt,tt,tt]) rfl (by repeat (first | exact np_ret | exact np_cut | apply np_cutr | apply np_seq | apply np_block | apply np_loopN')) (pure_assign rfl) rfl (by kernel_rfl) rfl rfl ?_
           refine any_done (by kernel_rfl) ?_
           refine nrm_cut Gz (sub_mk (by repeat (first | exact SubE.nil | refine SubE.cons rfl ?_)) (by repeat (first | exact SubH.refl | exact SubH.nil | refine SubH.cons (by repeat (first | exact Pk.here | apply Pk.there)) ?_ | apply SubH.drop))) (hlef.trans hlez)
         ·(refine one_step0 (listed' := [tt,tt,tt,tt,tt,tt,tt,tt,tt,tt,tt,ff,ff,ff,ff,ff,tt,ff,ff]) rfl (step_alloc rfl) rfl rfl ?_; rintro _ ⟨b319, rfl⟩)
          refine any_one (j := 11) (by kernel_rfl) ?_
          (refine one_append (listed' := [tt,tt,tt,tt,tt,tt,tt,tt,tt,tt,tt,tt,ff,ff,ff,ff,tt,ff,ff]) rfl rfl rfl rfl rfl rfl (fun _ _ => by repeat (first | exact Sw.here | apply Sw.there)) (at_slc_all (by repeat (first | exact List.Mem.head _ | apply List.Mem.tail))) rfl (by simp [Value.oneCell']) (by unfold maxLen; omega) (by omega) rfl rfl (by repeat (first | exact HmOk.nil | apply HmOk.dep (by decide +kernel) | apply HmOk.im (by decide +kernel) hgb (by repeat (first | exact List.Mem.head _ | apply List.Mem.tail)) | apply HmOk.blk (by decide +kernel) (by repeat (first | exact Pk.here | apply Pk.there)) (by repeat (first | exact List.Mem.head _ | apply List.Mem.tail)))) (fun p5 c5 => ?_); have hguard := hgb)
          (clear hguard; refine any_freeze (cs := ints l ++ [.int .i64 (x.ks.length : Int)]) (by repeat (first | exact Pk.here | apply Pk.there)) (fun Gf hlef hslf hnof => ?_); rw [← ints_snoc] at hslf)
          refine any_one (j := 12) (by kernel_rfl) ?_
          (have hB := termAt_g e (l ++ [(x.ks.length : Int)]) Gf ct p5 c5 hf1 (hrt.mono hlef) (by rw [show (l ++ [(x.ks.length : Int)]).length = l.length + 1 from by simp]; exact hslf); rw [hm2, show (l ++ [(x.ks.length : Int)]).length = l.length + 1 from by simp] at hB; refine one_imm (listed' := [tt,tt,tt,tt,tt,tt,tt,tt,tt,tt,tt,tt,tt,ff,ff,ff,tt,ff,ff]) rfl rfl hB rfl rfl rfl (fun v Gz hlez hh => ?_); obtain ⟨c6x, F6, rfl, hs6, hn6⟩ := hh; have hl6 := hs6.R.len; have ho6 := hs6.R.one)
          refine any_pure (i := 13) (listed' := [tt,tt,tt,tt,tt,tt,tt,tt,tt,tt,tt,tt,tt,tt,ff,ff,tt,ff,ff]) rfl (by repeat (first | exact np_ret | exact np_cut | apply np_cutr | apply np_seq | apply np_block | apply np_loopN')) (pure_move rfl) rfl (by kernel_rfl) rfl rfl ?_
          refine any_pure (i := 14) (listed' := [tt,tt,tt,tt,tt,tt,tt,tt,tt,tt,tt,tt,tt,tt,tt,ff,tt,ff,ff]) rfl (by repeat (first | exact np_ret | exact np_cut | apply np_cutr | apply np_seq | apply np_block | apply np_loopN')) (pure_extract rfl rfl) rfl (by kernel_rfl) rfl rfl ?_
          refine any_pure (i := 15) (listed' := [tt,tt,tt,tt,tt,tt,tt,tt,tt,tt,tt,tt,tt,tt,tt,tt,tt,ff,ff]) rfl (by repeat (first | exact np_ret | exact np_cut | apply np_cutr | apply np_seq | apply np_block | apply np_loopN')) (pure_extract rfl rfl) rfl (by kernel_rfl) rfl rfl ?_
          refine any_one (j := 17) (by kernel_rfl) ?_
          refine one_storeM rfl rfl rfl rfl hl6 ho6 rfl rfl (by repeat (first | exact Sw.here | apply Sw.there)) (by exact upd_all hl6.symm) (by repeat (first | exact HmOk.nil | apply HmOk.dep (by decide +kernel) | apply HmOk.im (by decide +kernel) hgb (by repeat (first | exact List.Mem.head _ | apply List.Mem.tail)) | apply HmOk.blk (by decide +kernel) (by repeat (first | exact Pk.here | apply Pk.there)) (by repeat (first | exact List.Mem.head _ | apply List.Mem.tail)))) ?_
          refine any_pure (i := 18) (listed' := [tt,tt,tt,tt,tt,tt,tt,tt,tt,tt,tt,tt,tt,tt,tt,tt,tt,tt,tt]) rfl (by repeat (first | exact np_ret | exact np_cut | apply np_cutr | apply np_seq | apply np_block | apply np_loopN')) (pure_assign rfl) rfl (by kernel_rfl) rfl rfl ?_
          refine any_done (by kernel_rfl) ?_
          refine nrm_cut Gz (sub_mk (by repeat (first | exact SubE.nil | refine SubE.cons rfl ?_)) (by repeat (first | exact SubH.refl | exact SubH.nil | refine SubH.cons (by repeat (first | exact Pk.here | apply Pk.there)) ?_ | apply SubH.drop))) (hlef.trans hlez)
        ·(refine one_step0 (listed' := [tt,tt,tt,tt,tt,tt,ff,tt,tt,tt,tt,ff,ff,ff,ff,ff,tt,ff,ff]) rfl (step_alloc rfl) rfl rfl ?_; rintro _ ⟨b333, rfl⟩)
         refine any_one (j := 6) (by kernel_rfl) ?_
         (refine one_appendSl (listed' := [tt,tt,tt,tt,tt,tt,tt,tt,tt,tt,tt,ff,ff,ff,ff,ff,tt,ff,ff]) rfl rfl rfl rfl rfl rfl (fun _ _ => by repeat (first | exact Sw.here | apply Sw.there)) hs0 (ints_one _) (Nat.zero_le _) (by unfold maxLen; omega) (by omega) rfl rfl (by repeat (first | exact HmOk.nil | apply HmOk.dep (by decide +kernel) | apply HmOk.im (by decide +kernel) hgb (by repeat (first | exact List.Mem.head _ | apply List.Mem.tail)) | apply HmOk.blk (by decide +kernel) (by repeat (first | exact Pk.here | apply Pk.there)) (by repeat (first | exact List.Mem.head _ | apply List.Mem.tail)))) (fun p4 c4 => ?_); simp only [Nat.zero_add, List.nil_append])
         refine any_one (j := 11) (by kernel_rfl) ?_
         (refine one_append (listed' := [tt,tt,tt,tt,tt,tt,tt,tt,tt,tt,tt,tt,ff,ff,ff,ff,tt,ff,ff]) rfl rfl rfl rfl rfl rfl (fun _ _ => by repeat (first | exact Sw.here | apply Sw.there)) (at_slc_all (by repeat (first | exact List.Mem.head _ | apply List.Mem.tail))) rfl (by simp [Value.oneCell']) (by unfold maxLen; omega) (by omega) rfl rfl (by repeat (first | exact HmOk.nil | apply HmOk.dep (by decide +kernel) | apply HmOk.im (by decide +kernel) hgb (by repeat (first | exact List.Mem.head _ | apply List.Mem.tail)) | apply HmOk.blk (by decide +kernel) (by repeat (first | exact Pk.here | apply Pk.there)) (by repeat (first | exact List.Mem.head _ | apply List.Mem.tail)))) (fun p5 c5 => ?_); have hguard := hgb)
         (clear hguard; refine any_freeze (cs := ints l ++ [.int .i64 (x.ks.length : Int)]) (by repeat (first | exact Pk.here | apply Pk.there)) (fun Gf hlef hslf hnof => ?_); rw [← ints_snoc] at hslf)
         refine any_one (j := 12) (by kernel_rfl) ?_
         (have hB := termAt_g e (l ++ [(x.ks.length : Int)]) Gf ct p5 c5 hf1 (hrt.mono hlef) (by rw [show (l ++ [(x.ks.length : Int)]).length = l.length + 1 from by simp]; exact hslf); rw [hm2, show (l ++ [(x.ks.length : Int)]).length = l.length + 1 from by simp] at hB; refine one_imm (listed' := [tt,tt,tt,tt,tt,tt,tt,tt,tt,tt,tt,tt,tt,ff,ff,ff,tt,ff,ff]) rfl rfl hB rfl rfl rfl (fun v Gz hlez hh => ?_); obtain ⟨c6x, F6, rfl, hs6, hn6⟩ := hh; have hl6 := hs6.R.len; have ho6 := hs6.R.one)
         refine any_pure (i := 13) (listed' := [tt,tt,tt,tt,tt,tt,tt,tt,tt,tt,tt,tt,tt,tt,ff,ff,tt,ff,ff]) rfl (by repeat (first | exact np_ret | exact np_cut | apply np_cutr | apply np_seq | apply np_block | apply np_loopN')) (pure_move rfl) rfl (by kernel_rfl) rfl rfl ?_
         refine any_pure (i := 14) (listed' := [tt,tt,tt,tt,tt,tt,tt,tt,tt,tt,tt,tt,tt,tt,tt,ff,tt,ff,ff]) rfl (by repeat (first | exact np_ret | exact np_cut | apply np_cutr | apply np_seq | apply np_block | apply np_loopN')) (pure_extract rfl rfl) rfl (by kernel_rfl) rfl rfl ?_
         refine any_pure (i := 15) (listed' := [tt,tt,tt,tt,tt,tt,tt,tt,tt,tt,tt,tt,tt,tt,tt,tt,tt,ff,ff]) rfl (by repeat (first | exact np_ret | exact np_cut | apply np_cutr | apply np_seq | apply np_block | apply np_loopN')) (pure_extract rfl rfl) rfl (by kernel_rfl) rfl rfl ?_
         refine any_one (j := 17) (by kernel_rfl) ?_
         refine one_storeM rfl rfl rfl rfl hl6 ho6 rfl rfl (by repeat (first | exact Sw.here | apply Sw.there)) (by exact upd_all hl6.symm) (by repeat (first | exact HmOk.nil | apply HmOk.dep (by decide +kernel) | apply HmOk.im (by decide +kernel) hgb (by repeat (first | exact List.Mem.head _ | apply List.Mem.tail)) | apply HmOk.blk (by decide +kernel) (by repeat (first | exact Pk.here | apply Pk.there)) (by repeat (first | exact List.Mem.head _ | apply List.Mem.tail)))) ?_
         refine any_pure (i := 18) (listed' := [tt,tt,tt,tt,tt,tt,tt,tt,tt,tt,tt,tt,tt,tt,tt,tt,tt,tt,tt]) rfl (by repeat (first | exact np_ret | exact np_cut | apply np_cutr | apply np_seq | apply np_block | apply np_loopN')) (pure_assign rfl) rfl (by kernel_rfl) rfl rfl ?_
         refine any_done (by kernel_rfl) ?_
         refine nrm_cut Gz (sub_mk (by repeat (first | exact SubE.nil | refine SubE.cons rfl ?_)) (by repeat (first | exact SubH.refl | exact SubH.nil | refine SubH.cons (by repeat (first | exact Pk.here | apply Pk.there)) ?_ | apply SubH.drop))) (hlef.trans hlez)
       ·(refine one_step0 (listed' := [tt,ff,tt,tt,tt,tt,ff,tt,tt,tt,tt,ff,ff,ff,ff,ff,tt,ff,ff]) rfl (step_alloc rfl) rfl rfl ?_; rintro _ ⟨b349, rfl⟩)
        refine any_one (j := 1) (by kernel_rfl) ?_
        (refine one_step0 (listed' := [tt,tt,tt,tt,tt,tt,ff,tt,tt,tt,tt,ff,ff,ff,ff,ff,tt,ff,ff]) rfl (step_buildSlice rfl rfl rfl (by omega) (by unfold maxLen; omega) rfl) rfl rfl ?_; rintro _ ⟨b351, rfl⟩)
        refine any_one (j := 6) (by kernel_rfl) ?_
        (refine one_appendSl (listed' := [tt,tt,tt,tt,tt,tt,tt,tt,tt,tt,tt,ff,ff,ff,ff,ff,tt,ff,ff]) rfl rfl rfl rfl rfl rfl (fun _ _ => by repeat (first | exact Sw.here | apply Sw.there)) hs0 (ints_one _) (Nat.zero_le _) (by unfold maxLen; omega) (by omega) rfl rfl (by repeat (first | exact HmOk.nil | apply HmOk.dep (by decide +kernel) | apply HmOk.im (by decide +kernel) hgb (by repeat (first | exact List.Mem.head _ | apply List.Mem.tail)) | apply HmOk.blk (by decide +kernel) (by repeat (first | exact Pk.here | apply Pk.there)) (by repeat (first | exact List.Mem.head _ | apply List.Mem.tail)))) (fun p4 c4 => ?_); simp only [Nat.zero_add, List.nil_append])
        refine any_one (j := 11) (by kernel_rfl) ?_
        (refine one_append (listed' := [tt,tt,tt,tt,tt,tt,tt,tt,tt,tt,tt,tt,ff,ff,ff,ff,tt,ff,ff]) rfl rfl rfl rfl rfl rfl (fun _ _ => by repeat (first | exact Sw.here | apply Sw.there)) (at_slc_all (by repeat (first | exact List.Mem.head _ | apply List.Mem.tail))) rfl (by simp [Value.oneCell']) (by unfold maxLen; omega) (by omega) rfl rfl (by repeat (first | exact HmOk.nil | apply HmOk.dep (by decide +kernel) | apply HmOk.im (by decide +kernel) hgb (by repeat (first | exact List.Mem.head _ | apply List.Mem.tail)) | apply HmOk.blk (by decide +kernel) (by repeat (first | exact Pk.here | apply Pk.there)) (by repeat (first | exact List.Mem.head _ | apply List.Mem.tail)))) (fun p5 c5 => ?_); have hguard := hgb)
        (clear hguard; refine any_freeze (cs := ints l ++ [.int .i64 (x.ks.length : Int)]) (by repeat (first | exact Pk.here | apply Pk.there)) (fun Gf hlef hslf hnof => ?_); rw [← ints_snoc] at hslf)
        refine any_one (j := 12) (by kernel_rfl) ?_
        (have hB := termAt_g e (l ++ [(x.ks.length : Int)]) Gf ct p5 c5 hf1 (hrt.mono hlef) (by rw [show (l ++ [(x.ks.length : Int)]).length = l.length + 1 from by simp]; exact hslf); rw [hm2, show (l ++ [(x.ks.length : Int)]).length = l.length + 1 from by simp] at hB; refine one_imm (listed' := [tt,tt,tt,tt,tt,tt,tt,tt,tt,tt,tt,tt,tt,ff,ff,ff,tt,ff,ff]) rfl rfl hB rfl rfl rfl (fun v Gz hlez hh => ?_); obtain ⟨c6x, F6, rfl, hs6, hn6⟩ := hh; have hl6 := hs6.R.len; have ho6 := hs6.R.one)
        refine any_pure (i := 13) (listed' := [tt,tt,tt,tt,tt,tt,tt,tt,tt,tt,tt,tt,tt,tt,ff,ff,tt,ff,ff]) rfl (by repeat (first | exact np_ret | exact np_cut | apply np_cutr | apply np_seq | apply np_block | apply np_loopN')) (pure_move rfl) rfl (by kernel_rfl) rfl rfl ?_
        refine any_pure (i := 14) (listed' := [tt,tt,tt,tt,tt,tt,tt,tt,tt,tt,tt,tt,tt,tt,tt,ff,tt,ff,ff]) rfl (by repeat (first | exact np_ret | exact np_cut | apply np_cutr | apply np_seq | apply np_block | apply np_loopN')) (pure_extract rfl rfl) rfl (by kernel_rfl) rfl rfl ?_
        refine any_pure (i := 15) (listed' := [tt,tt,tt,tt,tt,tt,tt,tt,tt,tt,tt,tt,tt,tt,tt,tt,tt,ff,ff]) rfl (by repeat (first | exact np_ret | exact np_cut | apply np_cutr | apply np_seq | apply np_block | apply np_loopN')) (pure_extract rfl rfl) rfl (by kernel_rfl) rfl rfl ?_
        refine any_one (j := 17) (by kernel_rfl) ?_
        refine one_storeM rfl rfl rfl rfl hl6 ho6 rfl rfl (by repeat (first | exact Sw.here | apply Sw.there)) (by exact upd_all hl6.symm) (by repeat (first | exact HmOk.nil | apply HmOk.dep (by decide +kernel) | apply HmOk.im (by decide +kernel) hgb (by repeat (first | exact List.Mem.head _ | apply List.Mem.tail)) | apply HmOk.blk (by decide +kernel) (by repeat (first | exact Pk.here | apply Pk.there)) (by repeat (first | exact List.Mem.head _ | apply List.Mem.tail)))) ?_
        refine any_pure (i := 18) (listed' := [tt,tt,tt,tt,tt,tt,tt,tt,tt,tt,tt,tt,tt,tt,tt,tt,tt,tt,tt]) rfl (by repeat (first | exact np_ret | exact np_cut | apply np_cutr | apply np_seq | apply np_block | apply np_loopN')) (pure_assign rfl) rfl (by kernel_rfl) rfl rfl ?_
        refine any_done (by kernel_rfl) ?_
        refine nrm_cut Gz (sub_mk (by repeat (first | exact SubE.nil | refine SubE.cons rfl ?_)) (by repeat (first | exact SubH.refl | exact SubH.nil | refine SubH.cons (by repeat (first | exact Pk.here | apply Pk.there)) ?_ | apply SubH.drop))) (hlef.trans hlez)
      ·(refine one_step0 (listed' := [tt,ff,tt,tt,tt,tt,ff,tt,tt,tt,ff,ff,ff,ff,ff,ff,tt,ff,ff]) rfl (step_alloc rfl) rfl rfl ?_; rintro _ ⟨b367, rfl⟩)
       refine any_two (j := 1) (j' := 10) (by kernel_rfl) ?_ ?_
       ·(refine one_step0 (listed' := [tt,tt,tt,tt,tt,tt,ff,tt,tt,tt,ff,ff,ff,ff,ff,ff,tt,ff,ff]) rfl (step_buildSlice rfl rfl rfl (by omega) (by unfold maxLen; omega) rfl) rfl rfl ?_; rintro _ ⟨b369, rfl⟩)
        refine any_two (j := 6) (j' := 10) (by kernel_rfl) ?_ ?_
        ·(refine one_appendSl (listed' := [tt,tt,tt,tt,tt,tt,tt,tt,tt,tt,ff,ff,ff,ff,ff,ff,tt,ff,ff]) rfl rfl rfl rfl rfl rfl (fun _ _ => by repeat (first | exact Sw.here | apply Sw.there)) hs0 (ints_one _) (Nat.zero_le _) (by unfold maxLen; omega) (by omega) rfl rfl (by repeat (first | exact HmOk.nil | apply HmOk.dep (by decide +kernel) | apply HmOk.im (by decide +kernel) hgb (by repeat (first | exact List.Mem.head _ | apply List.Mem.tail)) | apply HmOk.blk (by decide +kernel) (by repeat (first | exact Pk.here | apply Pk.there)) (by repeat (first | exact List.Mem.head _ | apply List.Mem.tail)))) (fun p4 c4 => ?_); simp only [Nat.zero_add, List.nil_append])
         refine any_one (j := 10) (by kernel_rfl) ?_
         (refine one_step0 (listed' := [tt,tt,tt,tt,tt,tt,tt,tt,tt,tt,tt,ff,ff,ff,ff,ff,tt,ff,ff]) rfl (step_buildSlice rfl rfl rfl (by omega) (by unfold maxLen; omega) rfl) rfl rfl ?_; rintro _ ⟨b373, rfl⟩)
         refine any_one (j := 11) (by kernel_rfl) ?_
         (refine one_append (listed' := [tt,tt,tt,tt,tt,tt,tt,tt,tt,tt,tt,tt,ff,ff,ff,ff,tt,ff,ff]) rfl rfl rfl rfl rfl rfl (fun _ _ => by repeat (first | exact Sw.here | apply Sw.there)) (at_slc_all (by repeat (first | exact List.Mem.head _ | apply List.Mem.tail))) rfl (by simp [Value.oneCell']) (by unfold maxLen; omega) (by omega) rfl rfl (by repeat (first | exact HmOk.nil | apply HmOk.dep (by decide +kernel) | apply HmOk.im (by decide +kernel) hgb (by repeat (first | exact List.Mem.head _ | apply List.Mem.tail)) | apply HmOk.blk (by decide +kernel) (by repeat (first | exact Pk.here | apply Pk.there)) (by repeat (first | exact List.Mem.head _ | apply List.Mem.tail)))) (fun p5 c5 => ?_); have hguard := hgb)
         (clear hguard; refine any_freeze (cs := ints l ++ [.int .i64 (x.ks.length : Int)]) (by repeat (first | exact Pk.here | apply Pk.there)) (fun Gf hlef hslf hnof => ?_); rw [← ints_snoc] at hslf)
         refine any_one (j := 12) (by kernel_rfl) ?_
         (have hB := termAt_g e (l ++ [(x.ks.length : Int)]) Gf ct p5 c5 hf1 (hrt.mono hlef) (by rw [show (l ++ [(x.ks.length : Int)]).length = l.length + 1 from by simp]; exact hslf); rw [hm2, show (l ++ [(x.ks.length : Int)]).length = l.length + 1 from by simp] at hB; refine one_imm (listed' := [tt,tt,tt,tt,tt,tt,tt,tt,tt,tt,tt,tt,tt,ff,ff,ff,tt,ff,ff]) rfl rfl hB rfl rfl rfl (fun v Gz hlez hh => ?_); obtain ⟨c6x, F6, rfl, hs6, hn6⟩ := hh; have hl6 := hs6.R.len; have ho6 := hs6.R.one)
         refine any_pure (i := 13) (listed' := [tt,tt,tt,tt,tt,tt,tt,tt,tt,tt,tt,tt,tt,tt,ff,ff,tt,ff,ff]) rfl (by repeat (first | exact np_ret | exact np_cut | apply np_cutr | apply np_seq | apply np_block | apply np_loopN')) (pure_move rfl) rfl (by kernel_rfl) rfl rfl ?_
         refine any_pure (i := 14) (listed' := [tt,tt,tt,tt,tt,tt,tt,tt,tt,tt,tt,tt,tt,tt,tt,ff,tt,ff,ff]) rfl (by repeat (first | exact np_ret | exact np_cut | apply np_cutr | apply np_seq | apply np_block | apply np_loopN')) (pure_extract rfl rfl) rfl (by kernel_rfl) rfl rfl ?_
         refine any_pure (i := 15) (listed' := [tt,tt,tt,tt,tt,tt,tt,tt,tt,tt,tt,tt,tt,tt,tt,tt,tt,ff,ff]) rfl (by repeat (first | exact np_ret | exact np_cut | apply np_cutr | apply np_seq | apply np_block | apply np_loopN')) (pure_extract rfl rfl) rfl (by kernel_rfl) rfl rfl ?_
         refine any_one (j := 17) (by kernel_rfl) ?_
         refine one_storeM rfl rfl rfl rfl hl6 ho6 rfl rfl (by repeat (first | exact Sw.here | apply Sw.there)) (by exact upd_all hl6.symm) (by repeat (first | exact HmOk.nil | apply HmOk.dep (by decide +kernel) | apply HmOk.im (by decide +kernel) hgb (by repeat (first | exact List.Mem.head _ | apply List.Mem.tail)) | apply HmOk.blk (by decide +kernel) (by repeat (first | exact Pk.here | apply Pk.there)) (by repeat (first | exact List.Mem.head _ | apply List.Mem.tail)))) ?_
         refine any_pure (i := 18) (listed' := [tt,tt,tt,tt,tt,tt,tt,tt,tt,tt,tt,tt,tt,tt,tt,tt,tt,tt,tt]) rfl (by repeat (first | exact np_ret | exact np_cut | apply np_cutr | apply np_seq | apply np_block | apply np_loopN')) (pure_assign rfl) rfl (by kernel_rfl) rfl rfl ?_
         refine any_done (by kernel_rfl) ?_
         refine nrm_cut Gz (sub_mk (by repeat (first | exact SubE.nil | refine SubE.cons rfl ?_)) (by repeat (first | exact SubH.refl | exact SubH.nil | refine SubH.cons (by repeat (first | exact Pk.here | apply Pk.there)) ?_ | apply SubH.drop))) (hlef.trans hlez)
        ·(refine one_step0 (listed' := [tt,tt,tt,tt,tt,tt,ff,tt,tt,tt,tt,ff,ff,ff,ff,ff,tt,ff,ff]) rfl (step_buildSlice rfl rfl rfl (by omega) (by unfold maxLen; omega) rfl) rfl rfl ?_; rintro _ ⟨b387, rfl⟩)
         refine any_one (j := 6) (by kernel_rfl) ?_
         (refine one_appendSl (listed' := [tt,tt,tt,tt,tt,tt,tt,tt,tt,tt,tt,ff,ff,ff,ff,ff,tt,ff,ff]) rfl rfl rfl rfl rfl rfl (fun _ _ => by repeat (first | exact Sw.here | apply Sw.there)) hs0 (ints_one _) (Nat.zero_le _) (by unfold maxLen; omega) (by omega) rfl rfl (by repeat (first | exact HmOk.nil | apply HmOk.dep (by decide +kernel) | apply HmOk.im (by decide +kernel) hgb (by repeat (first | exact List.Mem.head _ | apply List.Mem.tail)) | apply HmOk.blk (by decide +kernel) (by repeat (first | exact Pk.here | apply Pk.there)) (by repeat (first | exact List.Mem.head _ | apply List.Mem.tail)))) (fun p4 c4 => ?_); simp only [Nat.zero_add, List.nil_append])
         refine any_one (j := 11) (by kernel_rfl) ?_
         (refine one_append (listed' := [tt,tt,tt,tt,tt,tt,tt,tt,tt,tt,tt,tt,ff,ff,ff,ff,tt,ff,ff]) rfl rfl rfl rfl rfl rfl (fun _ _ => by repeat (first | exact Sw.here | apply Sw.there)) (at_slc_all (by repeat (first | exact List.Mem.head _ | apply List.Mem.tail))) rfl (by simp [Value.oneCell']) (by unfold maxLen; omega) (by omega) rfl rfl (by repeat (first | exact HmOk.nil | apply HmOk.dep (by decide +kernel) | apply HmOk.im (by decide +kernel) hgb (by repeat (first | exact List.Mem.head _ | apply List.Mem.tail)) | apply HmOk.blk (by decide +kernel) (by repeat (first | exact Pk.here | apply Pk.there)) (by repeat (first | exact List.Mem.head _ | apply List.Mem.tail)))) (fun p5 c5 => ?_); have hguard := hgb)
         (clear hguard; refine any_freeze (cs := ints l ++ [.int .i64 (x.ks.length : Int)]) (by repeat (first | exact Pk.here | apply Pk.there)) (fun Gf hlef hslf hnof => ?_); rw [← ints_snoc] at hslf)
         refine any_one (j := 12) (by kernel_rfl) ?_
         (have hB := termAt_g e (l ++ [(x.ks.length : Int)]) Gf ct p5 c5 hf1 (hrt.mono hlef) (by rw [show (l ++ [(x.ks.length : Int)]).length = l.length + 1 from by simp]; exact hslf); rw [hm2, show (l ++ [(x.ks.length : Int)]).length = l.length + 1 from by simp] at hB; refine one_imm (listed' := [tt,tt,tt,tt,tt,tt,tt,tt,tt,tt,tt,tt,tt,ff,ff,ff,tt,ff,ff]) rfl rfl hB rfl rfl rfl (fun v Gz hlez hh => ?_); obtain ⟨c6x, F6, rfl, hs6, hn6⟩ := hh; have hl6 := hs6.R.len; have ho6 := hs6.R.one)
         refine any_pure (i := 13) (listed' := [tt,tt,tt,tt,tt,tt,tt,tt,tt,tt,tt,tt,tt,tt,ff,ff,tt,ff,ff]) rfl (by repeat (first | exact np_ret | exact np_cut | apply np_cutr | apply np_seq | apply np_block | apply np_loopN')) (pure_move rfl) rfl (by kernel_rfl) rfl rfl ?_
         refine any_pure (i := 14) (listed' := [tt,tt,tt,tt,tt,tt,tt,tt,tt,tt,tt,tt,tt,tt,tt,ff,tt,ff,ff]) rfl (by repeat (first | exact np_ret | exact np_cut | apply np_cutr | apply np_seq | apply np_block | apply np_loopN')) (pure_extract rfl rfl) rfl (by kernel_rfl) rfl rfl ?_
         refine any_pure (i := 15) (listed' := [tt,tt,tt,tt,tt,tt,tt,tt,tt,tt,tt,tt,tt,tt,tt,tt,tt,ff,ff]) rfl (by repeat (first | exact np_ret | exact np_cut | apply np_cutr | apply np_seq | apply np_block | apply np_loopN')) (pure_extract rfl rfl) rfl (by kernel_rfl) rfl rfl ?_
         refine any_one (j := 17) (by kernel_rfl) ?_
         refine one_storeM rfl rfl rfl rfl hl6 ho6 rfl rfl (by repeat (first | exact Sw.here | apply Sw.there)) (by exact upd_all hl6.symm) (by repeat (first | exact HmOk.nil | apply HmOk.dep (by decide +kernel) | apply HmOk.im (by decide +kernel) hgb (by repeat (first | exact List.Mem.head _ | apply List.Mem.tail)) | apply HmOk.blk (by decide +kernel) (by repeat (first | exact Pk.here | apply Pk.there)) (by repeat (first | exact List.Mem.head _ | apply List.Mem.tail)))) ?_
         refine any_pure (i := 18) (listed' := [tt,tt,tt,tt,tt,tt,tt,tt,tt,tt,tt,tt,tt,tt,tt,tt,tt,tt,tt]) rfl (by repeat (first | exact np_ret | exact np_cut | apply np_cutr | apply np_seq | apply np_block | apply np_loopN')) (pure_assign rfl) rfl (by kernel_rfl) rfl rfl ?_
         refine any_done (by kernel_rfl) ?_
         refine nrm_cut Gz (sub_mk (by repeat (first | exact SubE.nil | refine SubE.cons rfl ?_)) (by repeat (first | exact SubH.refl | exact SubH.nil | refine SubH.cons (by repeat (first | exact Pk.here | apply Pk.there)) ?_ | apply SubH.drop))) (hlef.trans hlez)
       ·(refine one_step0 (listed' := [tt,ff,tt,tt,tt,tt,ff,tt,tt,tt,tt,ff,ff,ff,ff,ff,tt,ff,ff]) rfl (step_buildSlice rfl rfl rfl (by omega) (by unfold maxLen; omega) rfl) rfl rfl ?_; rintro _ ⟨b403, rfl⟩)
        refine any_one (j := 1) (by kernel_rfl) ?_
        (refine one_step0 (listed' := [tt,tt,tt,tt,tt,tt,ff,tt,tt,tt,tt,ff,ff,ff,ff,ff,tt,ff,ff]) rfl (step_buildSlice rfl rfl rfl (by omega) (by unfold maxLen; omega) rfl) rfl rfl ?_; rintro _ ⟨b405, rfl⟩)
        refine any_one (j := 6) (by kernel_rfl) ?_
        (refine one_appendSl (listed' := [tt,tt,tt,tt,tt,tt,tt,tt,tt,tt,tt,ff,ff,ff,ff,ff,tt,ff,ff]) rfl rfl rfl rfl rfl rfl (fun _ _ => by repeat (first | exact Sw.here | apply Sw.there)) hs0 (ints_one _) (Nat.zero_le _) (by unfold maxLen; omega) (by omega) rfl rfl (by repeat (first | exact HmOk.nil | apply HmOk.dep (by decide +kernel) | apply HmOk.im (by decide +kernel) hgb (by repeat (first | exact List.Mem.head _ | apply List.Mem.tail)) | apply HmOk.blk (by decide +kernel) (by repeat (first | exact Pk.here | apply Pk.there)) (by repeat (first | exact List.Mem.head _ | apply List.Mem.tail)))) (fun p4 c4 => ?_); simp only [Nat.zero_add, List.nil_append])
        refine any_one (j := 11) (by kernel_rfl) ?_
        (refine one_append (listed' := [tt,tt,tt,tt,tt,tt,tt,tt,tt,tt,tt,tt,ff,ff,ff,ff,tt,ff,ff]) rfl rfl rfl rfl rfl rfl (fun _ _ => by repeat (first | exact Sw.here | apply Sw.there)) (at_slc_all (by repeat (first | exact List.Mem.head _ | apply List.Mem.tail))) rfl (by simp [Value.oneCell']) (by unfold maxLen; omega) (by omega) rfl rfl (by repeat (first | exact HmOk.nil | apply HmOk.dep (by decide +kernel) | apply HmOk.im (by decide +kernel) hgb (by repeat (first | exact List.Mem.head _ | apply List.Mem.tail)) | apply HmOk.blk (by decide +kernel) (by repeat (first | exact Pk.here | apply Pk.there)) (by repeat (first | exact List.Mem.head _ | apply List.Mem.tail)))) (fun p5 c5 => ?_); have hguard := hgb)
        (clear hguard; refine any_freeze (cs := ints l ++ [.int .i64 (x.ks.length : Int)]) (by repeat (first | exact Pk.here | apply Pk.there)) (fun Gf hlef hslf hnof => ?_); rw [← ints_snoc] at hslf)
        refine any_one (j := 12) (by kernel_rfl) ?_
        (have hB := termAt_g e (l ++ [(x.ks.length : Int)]) Gf ct p5 c5 hf1 (hrt.mono hlef) (by rw [show (l ++ [(x.ks.length : Int)]).length = l.length + 1 from by simp]; exact hslf); rw [hm2, show (l ++ [(x.ks.length : Int)]).length = l.length + 1 from by simp] at hB; refine one_imm (listed' := [tt,tt,tt,tt,tt,tt,tt,tt,tt,tt,tt,tt,tt,ff,ff,ff,tt,ff,ff]) rfl rfl hB rfl rfl rfl (fun v Gz hlez hh => ?_); obtain ⟨c6x, F6, rfl, hs6, hn6⟩ := hh; have hl6 := hs6.R.len; have ho6 := hs6.R.one)
        refine any_pure (i := 13) (listed' := [tt,tt,tt,tt,tt,tt,tt,tt,tt,tt,tt,tt,tt,tt,ff,ff,tt,ff,ff]) rfl (by repeat (first | exact np_ret | exact np_cut | apply np_cutr | apply np_seq | apply np_block | apply np_loopN')) (pure_move rfl) rfl (by kernel_rfl) rfl rfl ?_
        refine any_pure (i := 14) (listed' := [tt,tt,tt,tt,tt,tt,tt,tt,tt,tt,tt,tt,tt,tt,tt,ff,tt,ff,ff]) rfl (by repeat (first | exact np_ret | exact np_cut | apply np_cutr | apply np_seq | apply np_block | apply np_loopN')) (pure_extract rfl rfl) rfl (by kernel_rfl) rfl rfl ?_
        refine any_pure (i := 15) (listed' := [tt,tt,tt,tt,tt,tt,tt,tt,tt,tt,tt,tt,tt,tt,tt,tt,tt,ff,ff]) rfl (by repeat (first | exact np_ret | exact np_cut | apply np_cutr | apply np_seq | apply np_block | apply np_loopN')) (pure_extract rfl rfl) rfl (by kernel_rfl) rfl rfl ?_
        refine any_one (j := 17) (by kernel_rfl) ?_
        refine one_storeM rfl rfl rfl rfl hl6 ho6 rfl rfl (by repeat (first | exact Sw.here | apply Sw.there)) (by exact upd_all hl6.symm) (by repeat (first | exact HmOk.nil | apply HmOk.dep (by decide +kernel) | apply HmOk.im (by decide +kernel) hgb (by repeat (first | exact List.Mem.head _ | apply List.Mem.tail)) | apply HmOk.blk (by decide +kernel) (by repeat (first | exact Pk.here | apply Pk.there)) (by repeat (first | exact List.Mem.head _ | apply List.Mem.tail)))) ?_
        refine any_pure (i := 18) (listed' := [tt,tt,tt,tt,tt,tt,tt,tt,tt,tt,tt,tt,tt,tt,tt,tt,tt,tt,tt]) rfl (by repeat (first | exact np_ret | exact np_cut | apply np_cutr | apply np_seq | apply np_block | apply np_loopN')) (pure_assign rfl) rfl (by kernel_rfl) rfl rfl ?_
        refine any_done (by kernel_rfl) ?_
        refine nrm_cut Gz (sub_mk (by repeat (first | exact SubE.nil | refine SubE.cons rfl ?_)) (by repeat (first | exact SubH.refl | exact SubH.nil | refine SubH.cons (by repeat (first | exact Pk.here | apply Pk.there)) ?_ | apply SubH.drop))) (hlef.trans hlez)
     ·(have hq9 := hrx; rintro (G6 : IM) hle6; replace hle6 : IMle G5 G6 := hle6; replace hrt := hrt.mono hle6; replace hsq := hsq.mono hle6; replace hsp := SPs.mono hle6 hsp; replace hleI := hleI.trans hle6)
      refine tri_seq ?_
      refine tri_seq ?_
      refine tri_region ?_
      refine seq_pure (pure_assign rfl) rfl rfl ?_
      refine seq_done ?_
      refine nrm_seq ?_
      refine tri_block ?_
      (have hk10 := hm2; refine tri_loopN (fun (k : Nat) => ⟨[(10, .int .i64 k), (9, .bool false), (5, .int .i64 i), (4, .slice pq (mAll e).length cq), (3, .pointer (some ⟨b33, 0, none⟩))], [.blk b33 ct], G6⟩) (fun k => k ≤ i) (fun k => i - k) 0 ?_ ?_ ?_)
      ·exact sub_mk (by repeat (first | exact SubE.nil | refine SubE.cons rfl ?_)) (by repeat (first | exact SubH.refl | exact SubH.nil | refine SubH.cons (by repeat (first | exact Pk.here | apply Pk.there)) ?_ | apply SubH.drop))
      ·exact Nat.zero_le _
      ·(have hq9 := hm2; rintro (k : Nat) hk)
       refine tri_seq ?_
       refine tri_seq ?_
       refine tri_region ?_
       refine seq_pure (pure_move rfl) rfl rfl ?_
       refine seq_pure (pure_move rfl) rfl rfl ?_
       refine seq_bool (pure_lss rfl rfl) rfl rfl (fun h438 => ?_) (fun h438 => ?_)
       ·refine seq_done ?_
        refine nrm_seq ?_
        refine tri_cond_t rfl ?_
        refine tri_skip ?_
        refine nrm_seq ?_
        refine tri_seq ?_
        refine tri_block ?_
        refine tri_seq ?_
        (have hki : k < i := (by omega); have hii : i < (mAll e).length := (by omega); obtain ⟨q1, d1, he1, hs1⟩ := SPs.get hsp (i := k) (by omega); obtain ⟨b, o, v, hpp, hv, hat, _⟩ := hsq.kid (i := k) (by omega); rw [he1] at hv; cases hv; obtain ⟨q2, d2, he2, hs2⟩ := SPs.get hsp hii; obtain ⟨b', o', v', hpp', hv', hat', _⟩ := hsq.kid (i := i) hii; rw [he2] at hv'; cases hv'; obtain ⟨rfl, rfl⟩ : b' = b ∧ o' = o := (by rw [hpp] at hpp'; cases hpp'; exact ⟨rfl, rfl⟩); have hI := grInts_fn (mAll e)[k] (mAll e)[i] G6 q1 q2 d1 d2 hs1 hs2; rw [decide_eq_false (mAll_diff hii hki)] at hI; refine tri_draw mixed rfl ?_)
        refine any_pure (i := 0) (listed' := [tt,ff,ff,ff,ff,ff,ff,ff,ff]) rfl (by repeat (first | exact np_ret | exact np_cut | apply np_cutr | apply np_seq | apply np_block | apply np_loopN')) (pure_move rfl) rfl (by kernel_rfl) rfl rfl ?_
        refine any_pure (i := 1) (listed' := [tt,tt,ff,ff,ff,ff,ff,ff,ff]) rfl (by repeat (first | exact np_ret | exact np_cut | apply np_cutr | apply np_seq | apply np_block | apply np_loopN')) (pure_move rfl) rfl (by kernel_rfl) rfl rfl ?_
        refine any_pure (i := 2) (listed' := [tt,tt,tt,ff,ff,ff,ff,ff,ff]) rfl (by repeat (first | exact np_ret | exact np_cut | apply np_cutr | apply np_seq | apply np_block | apply np_loopN')) (pure_indexAddrP hpp rfl rfl rfl (by omega)) rfl (by kernel_rfl) rfl rfl ?_
        refine any_load (i := 3) (listed' := [tt,tt,tt,tt,ff,ff,ff,ff,ff]) rfl (by repeat (first | exact np_ret | exact np_cut | apply np_cutr | apply np_seq | apply np_block | apply np_loopN')) (load_s rfl rfl (hat _)) rfl (by kernel_rfl) rfl rfl ?_
        refine any_pure (i := 4) (listed' := [tt,tt,tt,tt,tt,ff,ff,ff,ff]) rfl (by repeat (first | exact np_ret | exact np_cut | apply np_cutr | apply np_seq | apply np_block | apply np_loopN')) (pure_move rfl) rfl (by kernel_rfl) rfl rfl ?_
        refine any_pure (i := 5) (listed' := [tt,tt,tt,tt,tt,tt,ff,ff,ff]) rfl (by repeat (first | exact np_ret | exact np_cut | apply np_cutr | apply np_seq | apply np_block | apply np_loopN')) (pure_move rfl) rfl (by kernel_rfl) rfl rfl ?_
        refine any_pure (i := 6) (listed' := [tt,tt,tt,tt,tt,tt,tt,ff,ff]) rfl (by repeat (first | exact np_ret | exact np_cut | apply np_cutr | apply np_seq | apply np_block | apply np_loopN')) (pure_indexAddrP hpp rfl rfl rfl (by omega)) rfl (by kernel_rfl) rfl rfl ?_
        refine any_load (i := 7) (listed' := [tt,tt,tt,tt,tt,tt,tt,tt,ff]) rfl (by repeat (first | exact np_ret | exact np_cut | apply np_cutr | apply np_seq | apply np_block | apply np_loopN')) (load_s rfl rfl (hat' _)) rfl (by kernel_rfl) rfl rfl ?_
        refine any_one (j := 8) (by kernel_rfl) ?_
        refine one_val (listed' := [tt,tt,tt,tt,tt,tt,tt,tt,tt]) rfl rfl (hI) rfl rfl rfl ?_
        refine any_done (by kernel_rfl) ?_
        refine nrm_seq ?_
        refine tri_cond_f rfl ?_
        refine tri_skip ?_
        refine nrm_block ?_
        refine nrm_seq ?_
        refine tri_region ?_
        refine seq_pure (pure_move rfl) rfl rfl ?_
        refine seq_pure (pure_add rfl rfl (by omega) (by omega)) rfl rfl ?_
        refine seq_pure (pure_assign rfl) rfl rfl ?_
        refine seq_done ?_
        (have hkq := hk; refine nrm_loopN (k + 1) ?_ ?_ ?_)
        ·exact sub_mk (by repeat (first | exact SubE.nil | refine SubE.cons rfl ?_)) (by repeat (first | exact SubH.refl | exact SubH.nil | refine SubH.cons (by repeat (first | exact Pk.here | apply Pk.there)) ?_ | apply SubH.drop))
        ·omega
        ·omega
       ·refine seq_done ?_
        refine nrm_seq ?_
        refine tri_cond_f rfl ?_
        refine tri_exit ?_
        refine ext_seq ?_
        refine ext_loopN ?_
        refine ext_block_eq ?_
        refine nrm_seq ?_
        refine tri_seq ?_
        refine tri_region ?_
        refine seq_pure (pure_move rfl) rfl rfl ?_
        refine seq_done ?_
        refine nrm_seq ?_
        refine tri_cond_f rfl ?_
        refine tri_skip ?_
        refine nrm_block ?_
        refine nrm_seq ?_
        refine tri_region ?_
        refine seq_pure (pure_move rfl) rfl rfl ?_
        refine seq_pure (pure_add rfl rfl (by omega) (by omega)) rfl rfl ?_
        refine seq_pure (pure_assign rfl) rfl rfl ?_
        refine seq_done ?_
        refine nrm_loopN (i + 1, G6) ?_ ?_ ?_
        ·(simp only [flat_snoc]; exact sub_mk (by repeat (first | exact SubE.nil | refine SubE.cons rfl ?_)) (by repeat (first | exact SubH.refl | exact SubH.nil | refine SubH.cons (by repeat (first | exact Pk.here | apply Pk.there)) ?_ | apply SubH.drop)))
        ·(dsimp only; exact ⟨by omega, hleI⟩)
        ·(show (mAll e).length - (i + 1) < (mAll e).length - i; omega)
   ·refine seq_done ?_
    refine nrm_seq ?_
    refine tri_cond_f rfl ?_
    refine tri_exit ?_
    refine ext_seq ?_
    refine ext_loopN ?_
    refine ext_block_eq ?_
    refine nrm_seq ?_
    refine tri_seq ?_
    refine tri_region ?_
    refine seq_pure (pure_move rfl) rfl rfl ?_
    refine seq_pure (pure_len rfl rfl) rfl rfl ?_
    refine seq_bool (pure_gtr rfl rfl) rfl rfl (fun h511 => ?_) (fun h511 => ?_)
    ·refine seq_load (load_a rfl rfl (at_blk_all (by repeat (first | exact List.Mem.head _ | apply List.Mem.tail))) hl1) rfl rfl ?_
     refine seq_valb rfl (castValid_fn e _ ct hrt) rfl rfl (fun h513 => ?_) (fun h513 => ?_)
     ·refine seq_pure (pure_beql_s rfl rfl rfl) rfl rfl ?_
      refine seq_pure (pure_assign rfl) rfl rfl ?_
      refine seq_done ?_
      refine nrm_seq ?_
      refine tri_ret ?_
      refine ret_fin1 (res_tmp rfl) ?_
      exact ⟨rfl, rfl⟩
     ·(exfalso; exact absurd ((mAll_pos e).1 (by omega)) (by simp [*]))
    ·refine seq_load (load_a rfl rfl (at_blk_all (by repeat (first | exact List.Mem.head _ | apply List.Mem.tail))) hl1) rfl rfl ?_
     refine seq_valb rfl (castValid_fn e _ ct hrt) rfl rfl (fun h523 => ?_) (fun h523 => ?_)
     ·(exfalso; have hq := (mAll_pos e).2 (by assumption); omega)
     ·refine seq_pure (pure_beql_s rfl rfl rfl) rfl rfl ?_
      refine seq_pure (pure_assign rfl) rfl rfl ?_
      refine seq_done ?_
      refine nrm_seq ?_
      refine tri_ret ?_
      refine ret_fin1 (res_tmp rfl) ?_
      exact ⟨rfl, rfl⟩
end Gw
end Go.Proofs.Yteneckdjdfnjoaa
namespace Go.Proofs.Yteneckdjdfnjoaa
open Go Go.RowKit Go.ChangeShapes Go.WideShapes Go.ChangeAt
namespace Gw
section read2
variable {H : Type} {enc : TypeId × Value → H} {w : World} {sp : Nat → Bool} {held : Bool}
end read2
end Gw
end Go.Proofs.Yteneckdjdfnjoaa
namespace Go.Proofs.Yteneckdjdfnjoaa
open Go Go.RowKit Go.ChangeShapes Go.WideShapes Go.ChangeAt
namespace Gw
theorem cellsU : Try.prog.cellsOf 5 = 1 := by kernel_rfl
theorem build_byte {q : Nat → Value → Prop} : ∀ {n : Nat}, (∀ i, i < n → ∃ k : UInt8, q i (.int .u8 (k.toNat : Int))) → ∃ l : List UInt8, l.length = n ∧ ∀ i v, (byts l)[i]? = some v → q i v
 | 0, _ => ⟨[], rfl, by simp [byts]⟩
 | n + 1, h => by
  obtain ⟨l, h1, h2⟩ := build_byte (n := n) fun i hi => h i (by omega)
  obtain ⟨k, hk⟩ := h n (by omega)
  refine ⟨l ++ [k], by simp [h1], fun i v hv => ?_⟩
  rw [show byts (l ++ [k]) = byts l ++ [.int .u8 (k.toNat : Int)] from by simp [byts], List.getElem?_append] at hv
  split at hv
  ·exact h2 i v hv
  ·rename_i hi
   rw [byts_len] at hi hv
   have : i - l.length = 0 := by
    have := (List.getElem?_eq_some_iff.1 hv).1; simp at this; omega
   rw [this] at hv; simp at hv; subst hv
   rw [show i = n by omega]; exact hk
section read2
variable {H : Type} {enc : TypeId × Value → H} {w : World} {sp : Nat → Bool} {held : Bool}
set_option maxRecDepth 100000 in
theorem read_bytes (n : Nat) (cs : List Value) (x : DataW H × List MemPlace) (h : DataW.trod enc Try.prog w 0 sp held n 22 cs = some x) : ∃ (l : List UInt8) (p : Option Addr) (c : Nat), cs = [.slice p l.length c] ∧ Sl (GW w) p l.length c 1 (byts l) := by
 rcases DataW.trod_slice Try.underlying22 h with ⟨rfl, _⟩ | ⟨ad, len, cap, elems, rest, n', rfl, rfl, _, _, hlc, hcm, hel, hele, _, _⟩
 ·exact ⟨[], none, 0, rfl, Sl.nil _ _⟩
 ·rw [cellsU] at hele
  obtain ⟨l, h1, h2⟩ := build_byte (q := fun i v => w.cells? 0 (ad.add (i * 1)) 1 = some [v]) (n := len) fun i hi => by
   have := hele i hi
   rw [List.getElem?_eq_getElem (by omega)] at this
   obtain ⟨cs', c1, c2⟩ := Option.bind_eq_some_iff.1 this
   obtain ⟨k, rfl, _, hw⟩ := DataW.trod_int Try.underlying5 c2
   have hk : 0 ≤ k ∧ k < 256 := by
    have hw2 : (decide ((0 : Int) ≤ k) && decide (k ≤ (255 : Int))) = true := hw
    simp only [Bool.and_eq_true, decide_eq_true_eq] at hw2
    omega
   refine ⟨UInt8.ofNat k.toNat, ?_⟩
   rw [show ((UInt8.ofNat k.toNat).toNat : Int) = k from by
    rw [UInt8.toNat_ofNat']; omega]
   exact c1
  subst h1
  refine ⟨l, some ad, cap, rfl, ?_⟩
  have := sl_read (w := w) (a := ad) (n := l.length) (c := cap) (sz := 1) (es := (byts l).map fun v => [v]) (by simp [byts_len]) (by omega) hlc hcm fun i e he => by
   rw [List.getElem?_map] at he
   cases hv : (byts l)[i]? with
   | none => rw [hv] at he; simp at he
   | some v => rw [hv] at he; simp at he; subst he; exact h2 i v hv
  have hf : ((byts l).map fun v => [v]).flatten = byts l := by
   generalize byts l = L
   induction L with
   | nil => rfl
   | cons a L ih => simp [ih]
  rwa [hf] at this
end read2
end Gw
end Go.Proofs.Yteneckdjdfnjoaa
