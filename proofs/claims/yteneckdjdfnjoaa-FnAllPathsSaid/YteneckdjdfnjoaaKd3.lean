/-
  The reference model's drawn types: what they are made of, and how big they are. The reference model's drawn types, changed at random. The reference model's drawn types, changed at random. Strings: cut, put together, compared. The reference model's drawn terms: what they are made of, and how big they are. The reference model's drawn terms. The reference model's scans of types. The reference model's consistency of types.
-/
import Derived.Test.YteneckdjdfnjoaaKd1
import Derived.Test.YteneckdjdfnjoaaKd2
namespace Go.Proofs.Yteneckdjdfnjoaa
open Go Go.RowKit
namespace Gw
section take
variable {P : Program} {Γ : Ctx} {env : Env} {hp : List Ent} {G : IM} {K : Po} {ops : Array Oper} {rest : List Oper} {ty : TypeId} {pos : String} {af : Array Edge} {gd : Option (Nat × Bool)}
theorem seq_take {d : Nat} {f : FuncId} [hF : FunI P f] {xs : List Operand} {ats : Array TypeId} {vs : List Value} {ins rst : List Ent} {post : IM → Value → List Ent → Prop}
  (hx : evl env xs = some vs) (h : Fn P f vs ins G post) (hp' : hp.Perm (ins ++ rst)) (hw : wantG ops env gd = some true) (hd : Nat.blt d Γ.n = true)
  (k : ∀ v G' outs, IMle G G' → post G' v outs → TriL P Γ ops rest K ⟨(d, v) :: env, outs ++ rst, G'⟩) : TriL P Γ ops (⟨some d, .call ⟨.value (.func f), ⟨xs⟩, ats⟩, ty, pos, af, gd⟩ :: rest) K ⟨env, hp, G⟩ :=
 seq_step (step_call_own hx h hp' hd) hw (by rintro _ ⟨v, G', outs, rfl, hle, hq⟩; exact k v G' outs hle hq)
end take
set_option maxRecDepth 100000 in
theorem num_fn (G : IM) (br : Nat) (pb : Option Addr) (nb cb p : Nat) (bs : List UInt8) (q : Option Addr) (n c : Nat) (xs : List Value) (hb : Sl G pb nb cb 1 (byts bs)) (hnb : nb ≤ 2000) (hp : p < 1099511627776) (hx : Sl G q n c 1 xs) (hn : 0 < n) :
  Fn Try.prog 57 [.pointer (some ⟨br, 0, none⟩), .slice q n c] [rd br pb nb cb p] G (fun G' v outs => G' = G ∧ outs = [rd br pb nb cb (p + 1)] ∧ v ∈ xs) := by
 refine fn_enter Try.func57 rfl Try.ntmps57 Try.results57 rfl ?_
 intro w0
 refine tri_seq ?_
 refine tri_region ?_
 refine seq_pure (pure_assign rfl) rfl rfl ?_
 refine seq_done ?_
 refine nrm_seq ?_
 refine tri_seq ?_
 refine tri_region ?_
 refine seq_pure (pure_move rfl) rfl rfl ?_
 refine seq_pure (pure_move rfl) rfl rfl ?_
 refine seq_pure (pure_move rfl) rfl rfl ?_
 refine seq_pure (pure_len rfl rfl) rfl rfl ?_
 (refine seq_take rfl (pick_fn G br pb nb cb p bs (n : Int) hb hnb hp) (List.Perm.refl _) rfl rfl (fun v G1 outs hle1 hh => ?_); obtain ⟨rfl, rfl, k, rfl, hk0, hkn⟩ := hh; obtain ⟨j, rfl⟩ := Int.eq_ofNat_of_zero_le hk0)
 (obtain ⟨b, o, v, rfl, hv, hat, _⟩ := hx.kid (i := j) (by omega); refine seq_pure (pure_indexAddrN rfl rfl rfl (by omega)) rfl rfl ?_)
 refine seq_load (load_s rfl rfl (hat _)) rfl rfl ?_
 refine seq_pure (pure_assign rfl) rfl rfl ?_
 refine seq_done ?_
 refine nrm_seq ?_
 refine tri_ret ?_
 refine ret_own1 (res_tmp rfl) SubH.refl ?_
 exact ⟨rfl, rfl, List.mem_of_getElem? hv⟩
set_option maxRecDepth 100000 in
theorem of_fn (G : IM) (br : Nat) (pb : Option Addr) (nb cb p : Nat) (bs : List UInt8) (q : Option Addr) (n c : Nat) (xs : List Value) (hb : Sl G pb nb cb 1 (byts bs)) (hnb : nb ≤ 2000) (hp : p < 1099511627776) (hx : Sl G q n c 1 xs) (hn : 0 < n) :
  Fn Try.prog 79 [.pointer (some ⟨br, 0, none⟩), .slice q n c] [rd br pb nb cb p] G (fun G' v outs => G' = G ∧ outs = [rd br pb nb cb (p + 1)] ∧ v ∈ xs) := by
 refine fn_enter Try.func79 rfl Try.ntmps79 Try.results79 rfl ?_
 intro w0
 refine tri_seq ?_
 refine tri_region ?_
 refine seq_pure (pure_assign rfl) rfl rfl ?_
 refine seq_done ?_
 refine nrm_seq ?_
 refine tri_seq ?_
 refine tri_region ?_
 refine seq_pure (pure_move rfl) rfl rfl ?_
 refine seq_pure (pure_move rfl) rfl rfl ?_
 refine seq_pure (pure_move rfl) rfl rfl ?_
 refine seq_pure (pure_len rfl rfl) rfl rfl ?_
 (refine seq_take rfl (pick_fn G br pb nb cb p bs (n : Int) hb hnb hp) (List.Perm.refl _) rfl rfl (fun v G1 outs hle1 hh => ?_); obtain ⟨rfl, rfl, k, rfl, hk0, hkn⟩ := hh; obtain ⟨j, rfl⟩ := Int.eq_ofNat_of_zero_le hk0)
 (obtain ⟨b, o, v, rfl, hv, hat, _⟩ := hx.kid (i := j) (by omega); refine seq_pure (pure_indexAddrN rfl rfl rfl (by omega)) rfl rfl ?_)
 refine seq_load (load_s rfl rfl (hat _)) rfl rfl ?_
 refine seq_pure (pure_assign rfl) rfl rfl ?_
 refine seq_done ?_
 refine nrm_seq ?_
 refine tri_ret ?_
 refine ret_own1 (res_tmp rfl) SubH.refl ?_
 exact ⟨rfl, rfl, List.mem_of_getElem? hv⟩
theorem l1Any_fn (G : IM) : Fn Try.prog 76 [] [] G (Val (.agg ⟨[.int .i64 1, .slice none 0 0]⟩) G) := by
 refine fn_enter Try.func76 rfl Try.ntmps76 Try.results76 rfl ?_
 intro w0
 refine tri_seq ?_
 refine tri_region ?_
 (refine seq_step (step_alloc rfl) rfl ?_; rintro _ ⟨b3, rfl⟩)
 refine seq_done ?_
 refine nrm_seq ?_
 refine tri_seq ?_
 refine tri_region ?_
 refine seq_pure (pure_build rfl rfl) rfl rfl ?_
 refine seq_store rfl rfl rfl rfl rfl rfl (by repeat (first | exact Sw.here | apply Sw.there)) (by rfl) ?_
 refine seq_done ?_
 refine nrm_seq ?_
 refine tri_ret ?_
 refine ret_fin1 (res_cell rfl (load_ba rfl rfl (by repeat (first | exact List.Mem.head _ | apply List.Mem.tail)) (by rfl))) ?_
 exact ⟨rfl, rfl, rfl⟩
/-- How big a drawn type is. -/
def dB : Nat → Nat
 | 0 => 0
 | d + 1 => 2 * dB d + 2
theorem dB_le {d : Nat} (h : d ≤ 3) : dB (d + 1) ≤ 30 := by
 have : d = 0 ∨ d = 1 ∨ d = 2 ∨ d = 3 := by omega
 rcases this with rfl | rfl | rfl | rfl <;> decide
theorem tyOps_le (k : Int) : tyOps k ≤ 2 := by
 unfold tyOps; split <;> try split
 all_goals omega
theorem sumTy_snoc : ∀ (ts : List Ty) (t : Ty), sumTy (ts ++ [t]) = sumTy ts + szTy t
 | [], t => by simp [sumTy]
 | a :: ts, t => by simp only [List.cons_append, sumTy, sumTy_snoc ts t]; omega
theorem RTyL.ty {G : IM} {k : Int} {ts : List Ty} {es : List (List Value)} {p : Option Addr} {n c : Nat} (h : RTyL G ts es) (hn : ts.length = n) (hs : Sl G p n c 2 es.flatten) (hk : I64 k) : RTy G (.mk k ts) [.int .i64 k, .slice p n c] := by
 subst hn
 simp only [RTy]
 exact ⟨p, c, es, rfl, hk, SlE.of hs h.len h.all (fun e he => (h.each e he).2), h⟩
set_option maxHeartbeats 0 in
set_option maxRecDepth 100000 in
theorem l1DrawA_fn (br : Nat) (pb : Option Addr) (nb cb : Nat) (bs : List UInt8) (hnb : nb ≤ 2000) : ∀ (d p : Nat) (G : IM), d ≤ 1000 → Sl G pb nb cb 1 (byts bs) → p + dB (d + 1) < 1099511627776 →
  Fn Try.prog 74 [.pointer (some ⟨br, 0, none⟩), .int .i64 ((d + 1 : Nat) : Int)] [rd br pb nb cb p] G
   (Drew br pb nb cb p (dB (d + 1)) (fun G' v => ∃ t cells, v = .agg ⟨cells⟩ ∧ RTy G' t cells ∧ szTy t ≤ ((dB (d + 1) : Nat) : Int) ∧ tAh d t)) := by
 refine fun d => Nat.strongRecOn d fun d ih p G hd hb hp => ?_
 rw [dB] at hp ⊢
 refine fn_enter Try.func74 rfl Try.ntmps74 Try.results74 rfl ?_
 intro w0
 refine tri_seq ?_
 refine tri_region ?_
 (refine seq_step (step_alloc rfl) rfl ?_; rintro _ ⟨b3, rfl⟩)
 refine seq_done ?_
 refine nrm_seq ?_
 refine tri_seq ?_
 refine tri_region ?_
 refine seq_pure (pure_move rfl) rfl rfl ?_
 (refine seq_step (step_buildSlice rfl rfl rfl (by omega) (by unfold maxLen; omega) rfl) rfl ?_; rintro _ ⟨b9, rfl⟩)
 (refine triL_freeze (by repeat (first | exact Pk.here | apply Pk.there)) (fun G1 hle1 hsl1 _ => ?_); refine seq_take rfl (num_fn G1 br pb nb cb p bs _ _ _ _ (hb.mono hle1) hnb (by omega) hsl1 (by decide)) (Pk.perm (by repeat (first | exact Pk.here | apply Pk.there))) rfl rfl (fun v G2 outs hle2 hh => ?_); obtain ⟨rfl, rfl, hv⟩ := hh; replace hb := hb.mono hle1; obtain ⟨k, rfl, hk1⟩ : ∃ k, v = .int .i64 k ∧ 1 ≤ k ∧ k ≤ 5 := (by simp only [List.mem_cons, List.not_mem_nil, or_false] at hv; rcases hv with rfl | rfl | rfl | rfl | rfl | rfl | rfl <;> exact ⟨_, rfl, by decide, by decide⟩))
 refine seq_pure (pure_assign rfl) rfl rfl ?_
 refine seq_done ?_
 refine nrm_seq ?_
 refine tri_seq ?_
 refine tri_seq ?_
 (have hv' := hv; refine tri_cut (fun (x : Bool) => ⟨(16, .bool x) :: [(5, .int .i64 k), (4, .pointer (some ⟨b3, 0, none⟩)), (0, .pointer (some ⟨br, 0, none⟩)), (1, .int .i64 ((d + 1 : Nat) : Int))], [rd br pb nb cb (p + 1), .blk b3 [.int .i64 0, .slice none 0 0]], G2⟩) (fun x => x = false → d = 0 → k < 4) ?_ ?_)
 ·refine tri_region ?_
  refine seq_pure (pure_move rfl) rfl rfl ?_
  refine seq_bool (pure_lss rfl rfl) rfl rfl (fun h19 => ?_) (fun h19 => ?_)
  ·refine seq_pure (pure_move rfl) rfl rfl ?_
   refine seq_pure (pure_move rfl) rfl rfl ?_
   refine seq_bool (pure_geq rfl rfl) rfl rfl (fun h22 => ?_) (fun h22 => ?_)
   ·refine seq_pure (pure_pick_t rfl rfl) rfl rfl ?_
    refine seq_done ?_
    refine nrm_cut true (sub_mk (by repeat (first | exact SubE.nil | refine SubE.cons rfl ?_)) (by repeat (first | exact SubH.refl | exact SubH.nil | refine SubH.cons (by repeat (first | exact Pk.here | apply Pk.there)) ?_ | apply SubH.drop))) ?_
    (show _ = false → d = 0 → k < 4; intro hf h0; first | exact absurd hf (by decide) | omega)
   ·refine seq_pure (pure_pick_t rfl rfl) rfl rfl ?_
    refine seq_done ?_
    refine nrm_cut false (sub_mk (by repeat (first | exact SubE.nil | refine SubE.cons rfl ?_)) (by repeat (first | exact SubH.refl | exact SubH.nil | refine SubH.cons (by repeat (first | exact Pk.here | apply Pk.there)) ?_ | apply SubH.drop))) ?_
    (show _ = false → d = 0 → k < 4; intro hf h0; first | exact absurd hf (by decide) | omega)
  ·refine seq_pure (pure_move rfl) rfl rfl ?_
   refine seq_skip rfl rfl ?_
   refine seq_skip rfl rfl ?_
   refine seq_pure (pure_pick_f rfl rfl) rfl rfl ?_
   refine seq_done ?_
   refine nrm_cut false (sub_mk (by repeat (first | exact SubE.nil | refine SubE.cons rfl ?_)) (by repeat (first | exact SubH.refl | exact SubH.nil | refine SubH.cons (by repeat (first | exact Pk.here | apply Pk.there)) ?_ | apply SubH.drop))) ?_
   (show _ = false → d = 0 → k < 4; intro hf h0; first | exact absurd hf (by decide) | omega)
 ·(rintro x hx; clear hv)
  (show Tri _ _ (.cond (.tmp 16) _ _) _ _; refine tri_cut (fun (x : Int) => ⟨[(5, .int .i64 x), (4, .pointer (some ⟨b3, 0, none⟩)), (0, .pointer (some ⟨br, 0, none⟩)), (1, .int .i64 ((d + 1 : Nat) : Int))], [rd br pb nb cb (p + 1), .blk b3 [.int .i64 0, .slice none 0 0]], G2⟩) (fun x => 1 ≤ x ∧ x ≤ 5 ∧ (d = 0 → x < 4)) (tri_cond rfl (fun hxt => ?_) (fun hxf => ?_)) ?_)
  ·refine tri_region ?_
   refine seq_pure (pure_assign rfl) rfl rfl ?_
   refine seq_done ?_
   refine nrm_cut 1 (sub_mk (by repeat (first | exact SubE.nil | refine SubE.cons rfl ?_)) (by repeat (first | exact SubH.refl | exact SubH.nil | refine SubH.cons (by repeat (first | exact Pk.here | apply Pk.there)) ?_ | apply SubH.drop))) ?_
   (first | exact ⟨by omega, by omega, by omega⟩ | exact ⟨by omega, by omega, fun h0 => by have := hx hxf h0; omega⟩)
  ·refine tri_skip ?_
   refine nrm_cut k (sub_mk (by repeat (first | exact SubE.nil | refine SubE.cons rfl ?_)) (by repeat (first | exact SubH.refl | exact SubH.nil | refine SubH.cons (by repeat (first | exact Pk.here | apply Pk.there)) ?_ | apply SubH.drop))) ?_
   (first | exact ⟨by omega, by omega, by omega⟩ | exact ⟨by omega, by omega, fun h0 => by have := hx hxf h0; omega⟩)
  ·(rintro kk ⟨hk2, hk3, hk4⟩; have hop := tyOps_le kk; have hk5 := (tyOps_spec kk).1; have hk6 := (tyOps_spec kk).2.1; have hK := l1Kids_fn kk)
   refine tri_seq ?_
   refine tri_region ?_
   refine seq_pure (pure_move rfl) rfl rfl ?_
   refine seq_pure (pure_build rfl rfl) rfl rfl ?_
   (refine seq_step (step_alloc rfl) rfl ?_; rintro _ ⟨b53, rfl⟩)
   refine seq_store rfl rfl rfl rfl rfl rfl (by repeat (first | exact Sw.here | apply Sw.there)) (by rfl) ?_
   refine seq_done ?_
   refine nrm_seq ?_
   refine tri_seq ?_
   refine tri_seq ?_
   refine tri_region ?_
   refine seq_pure (pure_assign rfl) rfl rfl ?_
   refine seq_done ?_
   refine nrm_seq ?_
   refine tri_block ?_
   (refine tri_nil 25 2 ?_; refine tri_loopN (fun (x : Nat × Option Addr × Nat × List Ty × List (List Value) × Nat × IM) => ⟨[(7, .int .i64 x.1), (5, .int .i64 kk), (6, .pointer (some ⟨b53, 0, none⟩)), (4, .pointer (some ⟨b3, 0, none⟩)), (0, .pointer (some ⟨br, 0, none⟩)), (1, .int .i64 ((d + 1 : Nat) : Int))], [.blk b53 [.int .i64 kk, .slice x.2.1 x.1 x.2.2.1], .slc x.2.1 x.2.2.1 25 2 x.1 x.2.2.2.2.1.flatten, rd br pb nb cb x.2.2.2.2.2.1, .blk b3 [.int .i64 0, .slice none 0 0]], x.2.2.2.2.2.2⟩) (fun x => (∀ u ∈ x.2.2.2.1, tAh (d - 1) u) ∧ (x.1 : Int) ≤ tyOps kk ∧ IMle G2 x.2.2.2.2.2.2 ∧ x.2.2.2.1.length = x.1 ∧ RTyL x.2.2.2.2.2.2 x.2.2.2.1 x.2.2.2.2.1 ∧ sumTy x.2.2.2.1 ≤ ((x.1 * dB d : Nat) : Int) ∧ p + 1 ≤ x.2.2.2.2.2.1 ∧ x.2.2.2.2.2.1 ≤ p + 1 + x.1 * dB d) (fun x => (tyOps kk).toNat - x.1) (0, none, 0, [], [], p + 1, G2) ?_ ?_ ?_)
   ·(simp only [flat_snoc]; exact sub_mk (by repeat (first | exact SubE.nil | refine SubE.cons rfl ?_)) (by repeat (first | exact SubH.refl | exact SubH.nil | refine SubH.cons (by repeat (first | exact Pk.here | apply Pk.there)) ?_ | apply SubH.drop)))
   ·(exact ⟨by simp, by dsimp only; omega, IMle.refl _, rfl, by simp [RTyL], by simp [sumTy], by dsimp only; omega, by dsimp only; omega⟩)
   ·(rintro ⟨i, pn, cn, ts, es', p', Gi⟩ ⟨hah, hi, hle, hlt, hst, hsum, hq1, hq2⟩; simp only [] at hah hi hle hlt hst hsum hq1 hq2 ⊢; have hid : i * dB d ≤ 2 * dB d := Nat.mul_le_mul_right _ (by omega))
    refine tri_seq ?_
    refine tri_seq ?_
    refine tri_region ?_
    refine seq_pure (pure_move rfl) rfl rfl ?_
    refine seq_pure (pure_move rfl) rfl rfl ?_
    refine seq_val rfl ((hK _)) rfl rfl ?_
    refine seq_bool (pure_lss rfl rfl) rfl rfl (fun h74 => ?_) (fun h74 => ?_)
    ·refine seq_done ?_
     refine nrm_seq ?_
     refine tri_cond_t rfl ?_
     refine tri_skip ?_
     refine nrm_seq ?_
     refine tri_seq ?_
     refine tri_block ?_
     (obtain ⟨d', rfl⟩ : ∃ d', d = d' + 1 := ⟨d - 1, by omega⟩; have hih := ih d' (by omega) p' Gi (by omega) (hb.mono hle) (by have := Nat.mul_le_mul_right (dB (d' + 1)) (show i + 1 ≤ 2 by omega); rw [Nat.succ_mul] at this; omega); refine tri_draw mixed rfl ?_)
     refine any_pure (i := 0) (listed' := [tt,ff,ff,ff,ff,ff,ff,ff,ff,ff]) rfl (by repeat (first | exact np_ret | exact np_cut | apply np_seq | apply np_block | apply np_loopN')) (pure_fieldAddr0 rfl) rfl (by kernel_rfl) rfl rfl ?_
     refine any_load (i := 1) (listed' := [tt,tt,ff,ff,ff,ff,ff,ff,ff,ff]) rfl (by repeat (first | exact np_ret | exact np_cut | apply np_seq | apply np_block | apply np_loopN')) (load_bs rfl rfl (by repeat (first | exact List.Mem.head _ | apply List.Mem.tail)) (by rfl)) rfl (by kernel_rfl) rfl rfl ?_
     refine any_pure (i := 2) (listed' := [tt,tt,tt,ff,ff,ff,ff,ff,ff,ff]) rfl (by repeat (first | exact np_ret | exact np_cut | apply np_seq | apply np_block | apply np_loopN')) (pure_move rfl) rfl (by kernel_rfl) rfl rfl ?_
     refine any_pure (i := 3) (listed' := [tt,tt,tt,tt,ff,ff,ff,ff,ff,ff]) rfl (by repeat (first | exact np_ret | exact np_cut | apply np_seq | apply np_block | apply np_loopN')) (pure_move rfl) rfl (by kernel_rfl) rfl rfl ?_
     refine any_pure (i := 4) (listed' := [tt,tt,tt,tt,tt,ff,ff,ff,ff,ff]) rfl (by repeat (first | exact np_ret | exact np_cut | apply np_seq | apply np_block | apply np_loopN')) (pure_dec rfl rfl (by omega)) rfl (by kernel_rfl) rfl rfl ?_
     refine any_one (j := 5) (by kernel_rfl) ?_
     (refine one_take (listed' := [tt,tt,tt,tt,tt,tt,ff,ff,ff,ff]) rfl rfl hih (Pk.perm (by repeat (first | exact Pk.here | apply Pk.there))) rfl rfl rfl (by repeat (first | exact HmOk.nil | apply HmOk.dep (by decide +kernel) | apply HmOk.blk (by decide +kernel) (by repeat (first | exact Pk.here | apply Pk.there)) (by repeat (first | exact List.Mem.head _ | apply List.Mem.tail)))) (fun v G3 outs hle3 hh => ?_); obtain ⟨p3, hp31, hp32, rfl, t3, cells3, rfl, hr3, hs3, ha3⟩ := hh; obtain ⟨q3, c3, es3, rfl, _⟩ := hr3.open)
     refine any_one (j := 6) (by kernel_rfl) ?_
     (refine one_step0 (listed' := [tt,tt,tt,tt,tt,tt,tt,ff,ff,ff]) rfl (step_buildSlice rfl rfl rfl (by omega) (by unfold maxLen; omega) rfl) rfl rfl ?_; rintro _ ⟨b91, rfl⟩)
     refine any_one (j := 7) (by kernel_rfl) ?_
     refine one_append (listed' := [tt,tt,tt,tt,tt,tt,tt,tt,ff,ff]) rfl rfl rfl rfl rfl rfl (fun _ _ => by repeat (first | exact Sw.here | apply Sw.there)) (at_slc_all (by repeat (first | exact List.Mem.head _ | apply List.Mem.tail))) rfl (by simp [Value.oneCell']) (by unfold maxLen; omega) (by omega) rfl rfl (by repeat (first | exact HmOk.nil | apply HmOk.dep (by decide +kernel) | apply HmOk.blk (by decide +kernel) (by repeat (first | exact Pk.here | apply Pk.there)) (by repeat (first | exact List.Mem.head _ | apply List.Mem.tail)))) (fun pn' cn' => ?_)
     refine any_pure (i := 8) (listed' := [tt,tt,tt,tt,tt,tt,tt,tt,tt,ff]) rfl (by repeat (first | exact np_ret | exact np_cut | apply np_seq | apply np_block | apply np_loopN')) (pure_fieldAddr0 rfl) rfl (by kernel_rfl) rfl rfl ?_
     refine any_one (j := 9) (by kernel_rfl) ?_
     refine one_store (listed' := [tt,tt,tt,tt,tt,tt,tt,tt,tt,tt]) rfl rfl rfl rfl rfl rfl rfl rfl (by kernel_rfl) (by repeat (first | exact Sw.here | apply Sw.there)) (by rfl) ?_
     refine any_done (by kernel_rfl) ?_
     refine nrm_block ?_
     refine nrm_seq ?_
     refine tri_region ?_
     refine seq_pure (pure_move rfl) rfl rfl ?_
     refine seq_pure (pure_add rfl rfl (by omega) (by omega)) rfl rfl ?_
     refine seq_pure (pure_assign rfl) rfl rfl ?_
     refine seq_done ?_
     refine nrm_loopN (i + 1, pn', cn', ts ++ [t3], es' ++ [[.int .i64 t3.k, .slice q3 t3.ks.length c3]], p3, G3) ?_ ?_ ?_
     ·(simp only [flat_snoc]; exact sub_mk (by repeat (first | exact SubE.nil | refine SubE.cons rfl ?_)) (by repeat (first | exact SubH.refl | exact SubH.nil | refine SubH.cons (by repeat (first | exact Pk.here | apply Pk.there)) ?_ | apply SubH.drop)))
     ·(dsimp only; have e1 : (i + 1) * dB (d' + 1) = i * dB (d' + 1) + dB (d' + 1) := Nat.succ_mul _ _; have e2 := sumTy_snoc ts t3; exact ⟨by simp only [List.forall_mem_append, List.forall_mem_singleton]; exact ⟨hah, ha3⟩, by omega, hle.trans hle3, by simp [hlt], RTyL.snoc (hst.mono hle3) hr3, by omega, by omega, by omega⟩)
     ·(show (tyOps kk).toNat - (i + 1) < (tyOps kk).toNat - i; omega)
    ·refine seq_done ?_
     refine nrm_seq ?_
     refine tri_cond_f rfl ?_
     refine tri_exit ?_
     refine ext_seq ?_
     refine ext_loopN ?_
     refine ext_block_eq ?_
     refine nrm_seq ?_
     refine tri_seq ?_
     refine tri_region ?_
     refine seq_load (load_ba rfl rfl (by repeat (first | exact List.Mem.head _ | apply List.Mem.tail)) (by rfl)) rfl rfl ?_
     refine seq_store rfl rfl rfl rfl rfl rfl (by repeat (first | exact Sw.here | apply Sw.there)) (by rfl) ?_
     refine seq_done ?_
     refine nrm_seq ?_
     (refine ret_freeze (by repeat (first | exact Pk.here | apply Pk.there)) (fun G5 hle5 hsl5 hno5 => ?_))
     refine tri_ret ?_
     refine ret_own1 (outs := [rd br pb nb cb p']) (res_cell rfl (load_ba rfl rfl (by repeat (first | exact List.Mem.head _ | apply List.Mem.tail)) (by rfl))) (by repeat (first | exact SubH.nil | refine SubH.cons Pk.here ?_ | refine SubH.cons (Pk.there Pk.here) ?_ | apply SubH.drop)) ?_
     (refine ⟨p', by omega, by omega, rfl, .mk kk ts, _, rfl, (hst.mono hle5).ty hlt hsl5 ⟨by omega, by omega⟩, ?_, tAh_mk hk4 (by omega) hk2 hk3 hah⟩; rw [szTy]; omega)
theorem l1Draw_fn (br : Nat) (pb : Option Addr) (nb cb : Nat) (bs : List UInt8) (hnb : nb ≤ 2000) (d p : Nat) (G : IM) (hd : d ≤ 1000) (hb : Sl G pb nb cb 1 (byts bs)) (hp : p + dB (d + 1) < 1099511627776) :
  Fn Try.prog 74 [.pointer (some ⟨br, 0, none⟩), .int .i64 ((d + 1 : Nat) : Int)] [rd br pb nb cb p] G
   (Drew br pb nb cb p (dB (d + 1)) (fun G' v => ∃ t cells, v = .agg ⟨cells⟩ ∧ RTy G' t cells ∧ szTy t ≤ ((dB (d + 1) : Nat) : Int))) :=
 (l1DrawA_fn br pb nb cb bs hnb d p G hd hb hp).mono fun G' v outs _ ⟨p', h1, h2, h3, t, cells, h4, h5, h6, _⟩ => ⟨p', h1, h2, h3, t, cells, h4, h5, h6⟩
end Gw
end Go.Proofs.Yteneckdjdfnjoaa
namespace Go.Proofs.Yteneckdjdfnjoaa
open Go Go.RowKit
namespace Gw
set_option maxHeartbeats 0 in
set_option maxRecDepth 100000 in
theorem l1TypeA_fn (br : Nat) (pb : Option Addr) (nb cb : Nat) (bs : List UInt8) (hnb : nb ≤ 2000) (p : Nat) (G : IM) (hb : Sl G pb nb cb 1 (byts bs)) (hp : p + 31 < 1099511627776) :
  Fn Try.prog 54 [.pointer (some ⟨br, 0, none⟩)] [rd br pb nb cb p] G
   (Drew br pb nb cb p 31 (fun G' v => ∃ t cells, v = .agg ⟨cells⟩ ∧ RTy G' t cells ∧ szTy t ≤ 30 ∧ tAh 3 t)) := by
 refine fn_enter Try.func54 rfl Try.ntmps54 Try.results54 rfl ?_
 intro w0
 refine tri_seq ?_
 refine tri_region ?_
 (refine seq_step (step_alloc rfl) rfl ?_; rintro _ ⟨b3, rfl⟩)
 refine seq_done ?_
 refine nrm_seq ?_
 refine tri_seq ?_
 refine tri_region ?_
 refine seq_pure (pure_move rfl) rfl rfl ?_
 refine seq_pure (pure_move rfl) rfl rfl ?_
 (refine seq_step (step_buildSlice rfl rfl rfl (by omega) (by unfold maxLen; omega) rfl) rfl ?_; rintro _ ⟨b10, rfl⟩)
 (refine triL_freeze (by repeat (first | exact Pk.here | apply Pk.there)) (fun G1 hle1 hsl1 _ => ?_); refine seq_take rfl (num_fn G1 br pb nb cb p bs _ _ _ _ (hb.mono hle1) hnb (by omega) hsl1 (by decide)) (Pk.perm (by repeat (first | exact Pk.here | apply Pk.there))) rfl rfl (fun v G2 outs hle2 hh => ?_); obtain ⟨rfl, rfl, hv⟩ := hh; replace hb := hb.mono hle1; obtain ⟨d, rfl, hd⟩ : ∃ d : Nat, v = .int .i64 ((d + 1 : Nat) : Int) ∧ d ≤ 3 := (by simp only [List.mem_cons, List.not_mem_nil, or_false] at hv; rcases hv with rfl | rfl | rfl | rfl | rfl <;> first | exact ⟨0, rfl, by decide⟩ | exact ⟨1, rfl, by decide⟩ | exact ⟨2, rfl, by decide⟩ | exact ⟨3, rfl, by decide⟩))
 (have hdB := dB_le hd; refine seq_take rfl (l1DrawA_fn br pb nb cb bs hnb d (p + 1) G2 (by omega) hb (by omega)) (Pk.perm (by repeat (first | exact Pk.here | apply Pk.there))) rfl rfl (fun v G3 outs hle3 hh => ?_); obtain ⟨p3, hp31, hp32, rfl, t3, cells3, rfl, hr3, hs3, ha3⟩ := hh; obtain ⟨q3, c3, es3, rfl, _⟩ := hr3.open)
 refine seq_store rfl rfl rfl rfl rfl rfl (by repeat (first | exact Sw.here | apply Sw.there)) (by rfl) ?_
 refine seq_done ?_
 refine nrm_seq ?_
 refine tri_ret ?_
 refine ret_own1 (outs := [rd br pb nb cb p3]) (res_cell rfl (load_ba rfl rfl (by repeat (first | exact List.Mem.head _ | apply List.Mem.tail)) (by rfl))) (by repeat (first | exact SubH.nil | refine SubH.cons Pk.here ?_ | refine SubH.cons (Pk.there Pk.here) ?_ | apply SubH.drop)) ?_
 exact ⟨p3, by omega, by omega, rfl, t3, _, rfl, hr3, by omega, ha3.le hd⟩
theorem l1Type_fn (br : Nat) (pb : Option Addr) (nb cb : Nat) (bs : List UInt8) (hnb : nb ≤ 2000) (p : Nat) (G : IM) (hb : Sl G pb nb cb 1 (byts bs)) (hp : p + 31 < 1099511627776) :
  Fn Try.prog 54 [.pointer (some ⟨br, 0, none⟩)] [rd br pb nb cb p] G
   (Drew br pb nb cb p 31 (fun G' v => ∃ t cells, v = .agg ⟨cells⟩ ∧ RTy G' t cells ∧ szTy t ≤ 30)) :=
 (l1TypeA_fn br pb nb cb bs hnb p G hb hp).mono fun G' v outs _ ⟨p', h1, h2, h3, t, cells, h4, h5, h6, _⟩ => ⟨p', h1, h2, h3, t, cells, h4, h5, h6⟩
set_option maxHeartbeats 0 in
set_option maxRecDepth 100000 in
theorem l1CopyO_fn (k : Int) (ks : List Ty) (G : IM) (p : Option Addr) (c : Nat) (hts : (Ty.mk k ks).small) (hr : RTy G (.mk k ks) [.int .i64 k, .slice p ks.length c]) : Fn Try.prog 78 [.agg ⟨[.int .i64 k, .slice p ks.length c]⟩] [] G
  (fun G' v outs => ∃ p c es, v = .agg ⟨[.int .i64 k, .slice p ks.length c]⟩ ∧ outs = [.slc p c 25 2 ks.length es.flatten] ∧ RTyL G' ks es) := by
 simp only [Ty.small] at hts
 obtain ⟨hsm, hks⟩ := hts
 obtain ⟨p', c', es, he, hk, hsl, hkl⟩ := hr.open
 simp only [Ty.k, Ty.ks, List.cons.injEq, Value.slice.injEq, true_and, and_true] at he hk hsl hkl
 obtain ⟨rfl, rfl⟩ := he
 have hn := hsl.le
 refine fn_enter Try.func78 rfl Try.ntmps78 Try.results78 rfl ?_
 intro w0
 refine tri_seq ?_
 refine tri_region ?_
 (refine seq_step (step_box_a rfl rfl) rfl ?_; rintro _ ⟨b3, rfl⟩)
 (refine seq_step (step_alloc rfl) rfl ?_; rintro _ ⟨b4, rfl⟩)
 refine seq_done ?_
 refine nrm_seq ?_
 refine tri_seq ?_
 refine tri_region ?_
 refine seq_pure (pure_fieldAddr0 rfl) rfl rfl ?_
 refine seq_load (load_bs rfl rfl (by repeat (first | exact List.Mem.head _ | apply List.Mem.tail)) (by rfl)) rfl rfl ?_
 refine seq_pure (pure_build rfl rfl) rfl rfl ?_
 (refine seq_step (step_alloc rfl) rfl ?_; rintro _ ⟨b12, rfl⟩)
 refine seq_store rfl rfl rfl rfl rfl rfl (by repeat (first | exact Sw.here | apply Sw.there)) (by rfl) ?_
 refine seq_done ?_
 refine nrm_seq ?_
 refine tri_seq ?_
 refine tri_seq ?_
 refine tri_region ?_
 refine seq_pure (pure_assign rfl) rfl rfl ?_
 refine seq_done ?_
 refine nrm_seq ?_
 refine tri_block ?_
 (refine tri_nil 25 2 ?_; refine tri_loopN (fun (x : Nat × Option Addr × Nat × List (List Value) × IM) => ⟨[(4, .int .i64 x.1), (3, .pointer (some ⟨b12, 0, none⟩)), (1, .pointer (some ⟨b3, 0, none⟩)), (2, .pointer (some ⟨b4, 0, none⟩))], [.blk b12 [.int .i64 k, .slice x.2.1 x.1 x.2.2.1], .slc x.2.1 x.2.2.1 25 2 x.1 x.2.2.2.1.flatten, .blk b4 [.int .i64 0, .slice none 0 0], .blk b3 [.int .i64 k, .slice p ks.length c]], x.2.2.2.2⟩) (fun x => x.1 ≤ ks.length ∧ IMle G x.2.2.2.2 ∧ RTyL x.2.2.2.2 (ks.take x.1) x.2.2.2.1) (fun x => ks.length - x.1) (0, none, 0, [], G) ?_ ?_ ?_)
 ·(simp only [flat_snoc]; exact sub_mk (by repeat (first | exact SubE.nil | refine SubE.cons rfl ?_)) (by repeat (first | exact SubH.refl | exact SubH.nil | refine SubH.cons (by repeat (first | exact Pk.here | apply Pk.there)) ?_ | apply SubH.drop)))
 ·exact ⟨by simp, IMle.refl _, by simp [RTyL]⟩
 ·(rintro ⟨i, pn, cn, es', Gi⟩ ⟨hi, hle, hst⟩; simp only [] at hi hle hst ⊢; replace hsl := hsl.mono hle; replace hkl := hkl.mono hle)
  refine tri_seq ?_
  refine tri_seq ?_
  refine tri_region ?_
  refine seq_pure (pure_move rfl) rfl rfl ?_
  refine seq_pure (pure_fieldAddr0 rfl) rfl rfl ?_
  refine seq_load (load_bs rfl rfl (by repeat (first | exact List.Mem.head _ | apply List.Mem.tail)) (by rfl)) rfl rfl ?_
  refine seq_pure (pure_len rfl rfl) rfl rfl ?_
  refine seq_bool (pure_lss rfl rfl) rfl rfl (fun h34 => ?_) (fun h34 => ?_)
  ·refine seq_done ?_
   refine nrm_seq ?_
   refine tri_cond_t rfl ?_
   refine tri_skip ?_
   refine nrm_seq ?_
   refine tri_seq ?_
   refine tri_block ?_
   (obtain ⟨b, o, p2, c2, rfl, hat, hre, hgb⟩ := hsl.kidTy hkl (i := i) (by omega) (by omega); refine tri_draw mixed rfl ?_)
   refine any_pure (i := 0) (listed' := [tt,ff,ff,ff,ff,ff,ff,ff,ff,ff,ff,ff]) rfl (by repeat (first | exact np_ret | exact np_cut | apply np_seq | apply np_block | apply np_loopN')) (pure_fieldAddr0 rfl) rfl (by kernel_rfl) rfl rfl ?_
   refine any_load (i := 1) (listed' := [tt,tt,ff,ff,ff,ff,ff,ff,ff,ff,ff,ff]) rfl (by repeat (first | exact np_ret | exact np_cut | apply np_seq | apply np_block | apply np_loopN')) (load_bs rfl rfl (by repeat (first | exact List.Mem.head _ | apply List.Mem.tail)) (by rfl)) rfl (by kernel_rfl) rfl rfl ?_
   refine any_pure (i := 2) (listed' := [tt,tt,tt,ff,ff,ff,ff,ff,ff,ff,ff,ff]) rfl (by repeat (first | exact np_ret | exact np_cut | apply np_seq | apply np_block | apply np_loopN')) (pure_fieldAddr0 rfl) rfl (by kernel_rfl) rfl rfl ?_
   refine any_load (i := 3) (listed' := [tt,tt,tt,tt,ff,ff,ff,ff,ff,ff,ff,ff]) rfl (by repeat (first | exact np_ret | exact np_cut | apply np_seq | apply np_block | apply np_loopN')) (load_bs rfl rfl (by repeat (first | exact List.Mem.head _ | apply List.Mem.tail)) (by rfl)) rfl (by kernel_rfl) rfl rfl ?_
   refine any_pure (i := 4) (listed' := [tt,tt,tt,tt,tt,ff,ff,ff,ff,ff,ff,ff]) rfl (by repeat (first | exact np_ret | exact np_cut | apply np_seq | apply np_block | apply np_loopN')) (pure_move rfl) rfl (by kernel_rfl) rfl rfl ?_
   refine any_pure (i := 5) (listed' := [tt,tt,tt,tt,tt,tt,ff,ff,ff,ff,ff,ff]) rfl (by repeat (first | exact np_ret | exact np_cut | apply np_seq | apply np_block | apply np_loopN')) (pure_indexAddrN rfl rfl rfl (by omega)) rfl (by kernel_rfl) rfl rfl ?_
   refine any_load (i := 6) (listed' := [tt,tt,tt,tt,tt,tt,tt,ff,ff,ff,ff,ff]) rfl (by repeat (first | exact np_ret | exact np_cut | apply np_seq | apply np_block | apply np_loopN')) (load_a rfl rfl (hat _) rfl) rfl (by kernel_rfl) rfl rfl ?_
   refine any_one (j := 7) (by kernel_rfl) ?_
   (refine one_imm (listed' := [tt,tt,tt,tt,tt,tt,tt,tt,ff,ff,ff,ff]) rfl rfl (l1Copy_fn ks[i] _ _ (Ty.smallL_mem hks _ (List.getElem_mem (by omega))) hre) rfl rfl rfl (fun v G1 hle1 hh => ?_); obtain ⟨cells', F', rfl, hs', hnd'⟩ := hh; have hr' := hs'.R.mono (Dif.le _ _); obtain ⟨p3, c3, es3, rfl, _⟩ := hr'.open)
   refine any_one (j := 8) (by kernel_rfl) ?_
   (refine one_step0 (listed' := [tt,tt,tt,tt,tt,tt,tt,tt,tt,ff,ff,ff]) rfl (step_buildSlice rfl rfl rfl (by omega) (by unfold maxLen; omega) rfl) rfl rfl ?_; rintro _ ⟨b53, rfl⟩)
   refine any_one (j := 9) (by kernel_rfl) ?_
   refine one_append (listed' := [tt,tt,tt,tt,tt,tt,tt,tt,tt,tt,ff,ff]) rfl rfl rfl rfl rfl rfl (fun _ _ => by repeat (first | exact Sw.here | apply Sw.there)) (at_slc_all (by repeat (first | exact List.Mem.head _ | apply List.Mem.tail))) rfl (by simp [Value.oneCell']) (by unfold maxLen; omega) (by omega) rfl rfl (by repeat (first | exact HmOk.nil | apply HmOk.dep (by decide +kernel) | apply HmOk.blk (by decide +kernel) (by repeat (first | exact Pk.here | apply Pk.there)) (by repeat (first | exact List.Mem.head _ | apply List.Mem.tail)))) (fun pn' cn' => ?_)
   refine any_pure (i := 10) (listed' := [tt,tt,tt,tt,tt,tt,tt,tt,tt,tt,tt,ff]) rfl (by repeat (first | exact np_ret | exact np_cut | apply np_seq | apply np_block | apply np_loopN')) (pure_fieldAddr0 rfl) rfl (by kernel_rfl) rfl rfl ?_
   refine any_one (j := 11) (by kernel_rfl) ?_
   refine one_store (listed' := [tt,tt,tt,tt,tt,tt,tt,tt,tt,tt,tt,tt]) rfl rfl rfl rfl rfl rfl rfl rfl (by kernel_rfl) (by repeat (first | exact Sw.here | apply Sw.there)) (by rfl) ?_
   refine any_done (by kernel_rfl) ?_
   refine nrm_block ?_
   refine nrm_seq ?_
   refine tri_region ?_
   refine seq_pure (pure_move rfl) rfl rfl ?_
   refine seq_pure (pure_add rfl rfl (by omega) (by omega)) rfl rfl ?_
   refine seq_pure (pure_assign rfl) rfl rfl ?_
   refine seq_done ?_
   refine nrm_loopN (i + 1, pn', cn', es' ++ [[.int .i64 ks[i].k, .slice p3 ks[i].ks.length c3]], G1) ?_ ?_ ?_
   ·(simp only [flat_snoc]; exact sub_mk (by repeat (first | exact SubE.nil | refine SubE.cons rfl ?_)) (by repeat (first | exact SubH.refl | exact SubH.nil | refine SubH.cons (by repeat (first | exact Pk.here | apply Pk.there)) ?_ | apply SubH.drop)))
   ·(dsimp only; exact ⟨by omega, hle.trans hle1, by rw [List.take_succ_eq_append_getElem (by omega)]; exact RTyL.snoc (hst.mono hle1) hr'⟩)
   ·(show ks.length - (i + 1) < ks.length - i; omega)
  ·refine seq_done ?_
   refine nrm_seq ?_
   refine tri_cond_f rfl ?_
   refine tri_exit ?_
   refine ext_seq ?_
   refine ext_loopN ?_
   refine ext_block_eq ?_
   refine nrm_seq ?_
   refine tri_seq ?_
   refine tri_region ?_
   refine seq_load (load_ba rfl rfl (by repeat (first | exact List.Mem.head _ | apply List.Mem.tail)) (by rfl)) rfl rfl ?_
   refine seq_store rfl rfl rfl rfl rfl rfl (by repeat (first | exact Sw.here | apply Sw.there)) (by rfl) ?_
   refine seq_done ?_
   refine nrm_seq ?_
   refine tri_ret ?_
   (obtain rfl : i = ks.length := (by omega); refine ret_own1 (outs := [.slc pn cn 25 2 ks.length es'.flatten]) (res_cell rfl (load_ba rfl rfl (by repeat (first | exact List.Mem.head _ | apply List.Mem.tail)) (by rfl))) (by repeat (first | exact SubH.nil | refine SubH.cons Pk.here ?_ | refine SubH.cons (Pk.there Pk.here) ?_ | apply SubH.drop)) ?_)
   (rw [List.take_length] at hst; exact ⟨pn, cn, es', rfl, rfl, hst⟩)
end Gw
end Go.Proofs.Yteneckdjdfnjoaa
namespace Go.Proofs.Yteneckdjdfnjoaa
open Go Go.RowKit
namespace Gw
theorem tyAny_r (G : IM) : RTy G tyAny [.int .i64 1, .slice none 0 0] := by
 simp only [tyAny, RTy]
 exact ⟨none, 0, [], rfl, ⟨by omega, by omega⟩, SlE.of (Sl.nil _ _) rfl (by simp) (by simp), by simp [RTyL]⟩
theorem tyAny_sz : szTy tyAny = 0 := rfl
set_option maxHeartbeats 0 in
set_option maxRecDepth 100000 in
theorem l1Mutate_fn (br : Nat) (pb : Option Addr) (nb cb : Nat) (bs : List UInt8) (hnb : nb ≤ 2000) (p : Nat) (G : IM) (hb : Sl G pb nb cb 1 (byts bs)) (hp : p + 31 < 1099511627776) (t : Ty) (cells : List Value) (hr : RTy G t cells) (hsz : szTy t ≤ 30) :
  Fn Try.prog 59 [.pointer (some ⟨br, 0, none⟩), .agg ⟨cells⟩] [rd br pb nb cb p] G
   (Drew br pb nb cb p 2 (fun G' v => ∃ t cells, v = .agg ⟨cells⟩ ∧ RTy G' t cells ∧ szTy t ≤ 38)) := by
 have hts := small_ty t (by omega)
 obtain ⟨k, ks⟩ := t
 rw [szTy] at hsz
 have hsn := sumTy_nn ks
 obtain ⟨q0, c0, es0, rfl, hk, _⟩ := hr.open
 simp only [Ty.k, Ty.ks] at hk hr ⊢
 refine fn_enter Try.func59 rfl Try.ntmps59 Try.results59 rfl ?_
 intro w0
 refine tri_seq ?_
 refine tri_region ?_
 (refine seq_step (step_box_a rfl rfl) rfl ?_; rintro _ ⟨b3, rfl⟩)
 (refine seq_step (step_alloc rfl) rfl ?_; rintro _ ⟨b4, rfl⟩)
 refine seq_done ?_
 refine nrm_seq ?_
 refine tri_seq ?_
 refine tri_region ?_
 refine seq_load (load_ba rfl rfl (by repeat (first | exact List.Mem.head _ | apply List.Mem.tail)) (by rfl)) rfl rfl ?_
 (refine seq_own rfl (l1CopyO_fn k ks G q0 c0 hts hr) rfl rfl (fun v G1 outs hle1 hh => ?_); obtain ⟨q, c, es, rfl, rfl, hst⟩ := hh)
 (refine seq_step (step_alloc rfl) rfl ?_; rintro _ ⟨b11, rfl⟩)
 refine seq_store rfl rfl rfl rfl rfl rfl (by repeat (first | exact Sw.here | apply Sw.there)) (by rfl) ?_
 refine seq_done ?_
 refine nrm_seq ?_
 refine tri_seq ?_
 refine tri_seq ?_
 refine tri_region ?_
 refine seq_pure (pure_move rfl) rfl rfl ?_
 (refine seq_take rfl (pick_fn G1 br pb nb cb p bs 40 (hb.mono hle1) hnb (by omega)) (Pk.perm (by repeat (first | exact Pk.here | apply Pk.there))) rfl rfl (fun v G2 outs hle2 hh => ?_); obtain ⟨rfl, rfl, j, rfl, hj0, hj1⟩ := hh; replace hb := hb.mono hle1)
 refine seq_done ?_
 refine nrm_seq ?_
 (show Tri _ _ (.block 0 _) _ _; refine tri_cut (fun (x : Ty × Option Addr × Nat × Nat × IM) => ⟨[(5, .pointer (some ⟨b11, 0, none⟩)), (4, .pointer (some ⟨b4, 0, none⟩))], [.blk b11 [.int .i64 x.1.k, .slice x.2.1 x.1.ks.length x.2.2.1], .blk b4 [.int .i64 0, .slice none 0 0], rd br pb nb cb x.2.2.2.1], x.2.2.2.2⟩) (fun x => IMle G2 x.2.2.2.2 ∧ RTy x.2.2.2.2 x.1 [.int .i64 x.1.k, .slice x.2.1 x.1.ks.length x.2.2.1] ∧ szTy x.1 ≤ 38 ∧ p ≤ x.2.2.2.1 ∧ x.2.2.2.1 ≤ p + 2) ?_ ?_)
 ·refine tri_block ?_
  refine tri_seq ?_
  refine tri_region ?_
  refine seq_bool (pure_eql rfl rfl) rfl rfl (fun h26 => ?_) (fun h26 => ?_)
  ·refine seq_pure (pure_assign rfl) rfl rfl ?_
   refine seq_done ?_
   refine nrm_seq ?_
   refine tri_cond_t rfl ?_
   refine tri_region ?_
   refine seq_pure (pure_move rfl) rfl rfl ?_
   (refine seq_step (step_buildSlice rfl rfl rfl (by omega) (by unfold maxLen; omega) rfl) rfl ?_; rintro _ ⟨b33, rfl⟩)
   (refine triL_freeze (by repeat (first | exact Pk.here | apply Pk.there)) (fun G3 hle3 hsl3 _ => ?_); refine triL_freeze (by repeat (first | exact Pk.here | apply Pk.there)) (fun G4 hle4 hsl4 _ => ?_); refine seq_take rfl (num_fn G4 br pb nb cb (p + 1) bs _ _ _ _ (hb.mono (hle3.trans hle4)) hnb (by omega) (hsl3.mono hle4) (by decide)) (Pk.perm (by repeat (first | exact Pk.here | apply Pk.there))) rfl rfl (fun v G5 outs hle5 hh => ?_); obtain ⟨rfl, rfl, hv⟩ := hh; obtain ⟨k', rfl, hk'⟩ : ∃ k', v = .int .i64 k' ∧ I64 k' := (by simp only [List.mem_cons, List.not_mem_nil, or_false] at hv; rcases hv with rfl | rfl | rfl | rfl | rfl <;> exact ⟨_, rfl, by unfold I64; omega⟩))
   refine seq_pure (pure_fieldAddr0 rfl) rfl rfl ?_
   refine seq_store rfl rfl rfl rfl rfl rfl (by repeat (first | exact Sw.here | apply Sw.there)) (by rfl) ?_
   refine seq_done ?_
   refine nrm_block ?_
   refine nrm_cut (.mk k' ks, q, c, p + 2, G5) ?_ ?_
   ·(simp only [flat_snoc]; exact sub_mk (by repeat (first | exact SubE.nil | refine SubE.cons rfl ?_)) (by repeat (first | exact SubH.refl | exact SubH.nil | refine SubH.cons (by repeat (first | exact Pk.here | apply Pk.there)) ?_ | apply SubH.drop)))
   ·(dsimp only; exact ⟨hle3.trans hle4, (hst.mono (hle3.trans hle4)).ty rfl hsl4 hk', by (rw [szTy]; omega), by omega, by omega⟩)
  ·refine seq_pure (pure_assign rfl) rfl rfl ?_
   refine seq_done ?_
   refine nrm_seq ?_
   refine tri_cond_f rfl ?_
   refine tri_seq ?_
   refine tri_region ?_
   refine seq_bool (pure_eql rfl rfl) rfl rfl (fun h48 => ?_) (fun h48 => ?_)
   ·refine seq_pure (pure_assign rfl) rfl rfl ?_
    refine seq_done ?_
    refine nrm_seq ?_
    refine tri_cond_t rfl ?_
    refine tri_draw mixed rfl ?_
    refine any_pure (i := 0) (listed' := [tt,ff,ff,ff,ff,ff,ff]) rfl (by repeat (first | exact np_ret | exact np_cut | apply np_seq | apply np_block | apply np_loopN')) (pure_fieldAddr0 rfl) rfl (by kernel_rfl) rfl rfl ?_
    refine any_load (i := 1) (listed' := [tt,tt,ff,ff,ff,ff,ff]) rfl (by repeat (first | exact np_ret | exact np_cut | apply np_seq | apply np_block | apply np_loopN')) (load_bs rfl rfl (by repeat (first | exact List.Mem.head _ | apply List.Mem.tail)) (by rfl)) rfl (by kernel_rfl) rfl rfl ?_
    refine any_one (j := 2) (by kernel_rfl) ?_
    refine one_val (listed' := [tt,tt,tt,ff,ff,ff,ff]) rfl rfl ((l1Any_fn _)) rfl rfl rfl ?_
    refine any_one (j := 3) (by kernel_rfl) ?_
    (refine one_step0 (listed' := [tt,tt,tt,tt,ff,ff,ff]) rfl (step_buildSlice rfl rfl rfl (by omega) (by unfold maxLen; omega) rfl) rfl rfl ?_; rintro _ ⟨b59, rfl⟩)
    refine any_one (j := 4) (by kernel_rfl) ?_
    refine one_append (listed' := [tt,tt,tt,tt,tt,ff,ff]) rfl rfl rfl rfl rfl rfl (fun _ _ => by repeat (first | exact Sw.here | apply Sw.there)) (at_slc_all (by repeat (first | exact List.Mem.head _ | apply List.Mem.tail))) rfl (by simp [Value.oneCell']) (by unfold maxLen; omega) (by omega) rfl rfl (by repeat (first | exact HmOk.nil | apply HmOk.dep (by decide +kernel) | apply HmOk.blk (by decide +kernel) (by repeat (first | exact Pk.here | apply Pk.there)) (by repeat (first | exact List.Mem.head _ | apply List.Mem.tail)))) (fun qn cn => ?_)
    (refine any_freeze (cs := es.flatten ++ [.int .i64 1, .slice none 0 0]) (by repeat (first | exact Pk.here | apply Pk.there)) (fun G6 hle6 hsl6 _ => ?_))
    refine any_pure (i := 5) (listed' := [tt,tt,tt,tt,tt,tt,ff]) rfl (by repeat (first | exact np_ret | exact np_cut | apply np_seq | apply np_block | apply np_loopN')) (pure_fieldAddr0 rfl) rfl (by kernel_rfl) rfl rfl ?_
    refine any_one (j := 6) (by kernel_rfl) ?_
    refine one_store (listed' := [tt,tt,tt,tt,tt,tt,tt]) rfl rfl rfl rfl rfl rfl rfl rfl (by kernel_rfl) (by repeat (first | exact Sw.here | apply Sw.there)) (by rfl) ?_
    refine any_done (by kernel_rfl) ?_
    refine nrm_block ?_
    refine nrm_cut (.mk k (ks ++ [tyAny]), qn, cn, p + 1, G6) (by rw [show (Ty.mk k (ks ++ [tyAny])).ks.length = ks.length + 1 from by simp [Ty.ks]]; exact sub_mk (by repeat (first | exact SubE.nil | refine SubE.cons rfl ?_)) (by repeat (first | exact SubH.refl | exact SubH.nil | refine SubH.cons (by repeat (first | exact Pk.here | apply Pk.there)) ?_ | apply SubH.drop))) ?_
    (dsimp only; refine ⟨hle6, RTyL.ty (ts := ks ++ [tyAny]) (es := es ++ [[.int .i64 1, .slice none 0 0]]) (RTyL.snoc (hst.mono hle6) (tyAny_r _)) rfl (by simpa [Ty.ks] using hsl6) hk, ?_, by omega, by omega⟩; rw [szTy, sumTy_snoc, tyAny_sz, List.length_append]; simp only [List.length_singleton]; omega)
   ·refine seq_pure (pure_assign rfl) rfl rfl ?_
    refine seq_done ?_
    refine nrm_seq ?_
    refine tri_cond_f rfl ?_
    refine tri_seq ?_
    refine tri_region ?_
    refine seq_bool (pure_eql rfl rfl) rfl rfl (fun h76 => ?_) (fun h76 => ?_)
    ·refine seq_pure (pure_assign rfl) rfl rfl ?_
     refine seq_done ?_
     refine nrm_seq ?_
     refine tri_cond_t rfl ?_
     refine tri_seq ?_
     refine tri_region ?_
     refine seq_pure (pure_assign rfl) rfl rfl ?_
     refine seq_done ?_
     refine nrm_seq ?_
     refine tri_block ?_
     (refine tri_freeze (by repeat (first | exact Pk.here | apply Pk.there)) (fun G3 hle3 hsl3 _ => ?_); refine tri_loopN (fun (x : Nat × Ty × Option Addr × Nat × IM) => ⟨[(6, .int .i64 x.1), (5, .pointer (some ⟨b11, 0, none⟩)), (4, .pointer (some ⟨b4, 0, none⟩))], [.blk b11 [.int .i64 x.2.1.k, .slice x.2.2.1 x.2.1.ks.length x.2.2.2.1], .blk b4 [.int .i64 0, .slice none 0 0], rd br pb nb cb (p + 1)], x.2.2.2.2⟩) (fun x => x.1 ≤ 4 ∧ IMle G3 x.2.2.2.2 ∧ RTy x.2.2.2.2 x.2.1 [.int .i64 x.2.1.k, .slice x.2.2.1 x.2.1.ks.length x.2.2.2.1] ∧ szTy x.2.1 ≤ 30 + 2 * x.1) (fun x => 4 - x.1) (0, .mk k ks, q, c, G3) ?_ ?_ ?_)
     ·(simp only [flat_snoc]; exact sub_mk (by repeat (first | exact SubE.nil | refine SubE.cons rfl ?_)) (by repeat (first | exact SubH.refl | exact SubH.nil | refine SubH.cons (by repeat (first | exact Pk.here | apply Pk.there)) ?_ | apply SubH.drop)))
     ·(dsimp only; exact ⟨by omega, IMle.refl _, (hst.mono hle3).ty rfl hsl3 hk, by (rw [szTy]; omega)⟩)
     ·(rintro ⟨i, ⟨tk, tks⟩, qi, ci, Gi⟩ ⟨hi, hlei, hri, hsi⟩; simp only [Ty.k, Ty.ks] at hi hlei hri hsi ⊢)
      refine tri_seq ?_
      refine tri_seq ?_
      refine tri_region ?_
      refine seq_pure (pure_move rfl) rfl rfl ?_
      refine seq_bool (pure_lss rfl rfl) rfl rfl (fun h95 => ?_) (fun h95 => ?_)
      ·refine seq_done ?_
       refine nrm_seq ?_
       refine tri_cond_t rfl ?_
       refine tri_skip ?_
       refine nrm_seq ?_
       refine tri_seq ?_
       refine tri_block ?_
       refine tri_draw mixed rfl ?_
       refine any_load (i := 1) (listed' := [ff,tt,ff,ff,ff]) rfl (by repeat (first | exact np_ret | exact np_cut | apply np_seq | apply np_block | apply np_loopN')) (load_ba rfl rfl (by repeat (first | exact List.Mem.head _ | apply List.Mem.tail)) (by rfl)) rfl (by kernel_rfl) rfl rfl ?_
       refine any_one (j := 0) (by kernel_rfl) ?_
       refine one_val (listed' := [tt,tt,ff,ff,ff]) rfl rfl ((l1Any_fn _)) rfl rfl rfl ?_
       refine any_one (j := 2) (by kernel_rfl) ?_
       (refine one_step0 (listed' := [tt,tt,tt,ff,ff]) rfl (step_buildSlice rfl rfl rfl (by omega) (by unfold maxLen; omega) rfl) rfl rfl ?_; rintro _ ⟨b108, rfl⟩)
       (refine any_freeze (cs := [.int .i64 1, .slice none 0 0, .int .i64 tk, .slice qi tks.length ci]) (by repeat (first | exact Pk.here | apply Pk.there)) (fun G7 hle7 hsl7 _ => ?_))
       refine any_pure (i := 3) (listed' := [tt,tt,tt,tt,ff]) rfl (by repeat (first | exact np_ret | exact np_cut | apply np_seq | apply np_block | apply np_loopN')) (pure_build rfl rfl) rfl (by kernel_rfl) rfl rfl ?_
       refine any_one (j := 4) (by kernel_rfl) ?_
       refine one_store (listed' := [tt,tt,tt,tt,tt]) rfl rfl rfl rfl rfl rfl rfl rfl (by kernel_rfl) (by repeat (first | exact Sw.here | apply Sw.there)) (by rfl) ?_
       refine any_done (by kernel_rfl) ?_
       refine nrm_block ?_
       refine nrm_seq ?_
       refine tri_region ?_
       refine seq_pure (pure_move rfl) rfl rfl ?_
       refine seq_pure (pure_add rfl rfl (by omega) (by omega)) rfl rfl ?_
       refine seq_pure (pure_assign rfl) rfl rfl ?_
       refine seq_done ?_
       refine nrm_loopN (i + 1, .mk 4 [tyAny, .mk tk tks], some ⟨b108, 0, none⟩, 2, G7) ?_ ?_ ?_
       ·(simp only [flat_snoc]; exact sub_mk (by repeat (first | exact SubE.nil | refine SubE.cons rfl ?_)) (by repeat (first | exact SubH.refl | exact SubH.nil | refine SubH.cons (by repeat (first | exact Pk.here | apply Pk.there)) ?_ | apply SubH.drop)))
       ·(dsimp only; refine ⟨by omega, hlei.trans hle7, RTyL.ty (ts := [tyAny, .mk tk tks]) (es := [[.int .i64 1, .slice none 0 0], [.int .i64 tk, .slice qi tks.length ci]]) ⟨_, _, rfl, tyAny_r _, _, _, rfl, hri.mono hle7, rfl⟩ rfl hsl7 ⟨by omega, by omega⟩, ?_⟩; rw [szTy, sumTy, sumTy, sumTy, tyAny_sz]; simp only [List.length_cons, List.length_nil]; omega)
       ·(show 4 - (i + 1) < 4 - i; omega)
      ·refine seq_done ?_
       refine nrm_seq ?_
       refine tri_cond_f rfl ?_
       refine tri_exit ?_
       refine ext_seq ?_
       refine ext_loopN ?_
       refine ext_block_eq ?_
       refine nrm_block ?_
       refine nrm_cut (.mk tk tks, qi, ci, p + 1, Gi) ?_ ?_
       ·(simp only [flat_snoc]; exact sub_mk (by repeat (first | exact SubE.nil | refine SubE.cons rfl ?_)) (by repeat (first | exact SubH.refl | exact SubH.nil | refine SubH.cons (by repeat (first | exact Pk.here | apply Pk.there)) ?_ | apply SubH.drop)))
       ·(dsimp only; exact ⟨hle3.trans hlei, hri, by omega, by omega, by omega⟩)
    ·refine seq_pure (pure_assign rfl) rfl rfl ?_
     refine seq_done ?_
     refine nrm_seq ?_
     refine tri_cond_f rfl ?_
     (refine tri_freeze (by repeat (first | exact Pk.here | apply Pk.there)) (fun G8 hle8 hsl8 _ => ?_); refine tri_skip ?_)
     refine nrm_block ?_
     refine nrm_cut (.mk k ks, q, c, p + 1, G8) ?_ ?_
     ·(simp only [flat_snoc]; exact sub_mk (by repeat (first | exact SubE.nil | refine SubE.cons rfl ?_)) (by repeat (first | exact SubH.refl | exact SubH.nil | refine SubH.cons (by repeat (first | exact Pk.here | apply Pk.there)) ?_ | apply SubH.drop)))
     ·(dsimp only; exact ⟨hle8, (hst.mono hle8).ty rfl hsl8 hk, by (rw [szTy]; omega), by omega, by omega⟩)
 ·(rintro ⟨t', q', c', p', G'⟩ ⟨hle9, hr9, hs9, hp9, hp9'⟩; simp only [] at hle9 hr9 hs9 hp9 hp9' ⊢)
  refine tri_seq ?_
  refine tri_region ?_
  refine seq_load (load_ba rfl rfl (by repeat (first | exact List.Mem.head _ | apply List.Mem.tail)) (by rfl)) rfl rfl ?_
  refine seq_store rfl rfl rfl rfl rfl rfl (by repeat (first | exact Sw.here | apply Sw.there)) (by rfl) ?_
  refine seq_done ?_
  refine nrm_seq ?_
  refine tri_ret ?_
  refine ret_own1 (outs := [rd br pb nb cb p']) (res_cell rfl (load_ba rfl rfl (by repeat (first | exact List.Mem.head _ | apply List.Mem.tail)) (by rfl))) (by repeat (first | exact SubH.nil | refine SubH.cons Pk.here ?_ | refine SubH.cons (Pk.there Pk.here) ?_ | apply SubH.drop)) ?_
  (exact ⟨p', by omega, by omega, rfl, t', _, rfl, hr9, by omega⟩)
end Gw
end Go.Proofs.Yteneckdjdfnjoaa
namespace Go.Proofs.Yteneckdjdfnjoaa
open Go Go.RowKit
namespace Gw
section slaws
variable {P : Program} {Γ : Ctx} {env : Env} {hp : List Ent} {G : IM} {ty : TypeId}
theorem run_bound {P : Program} {w : World} {l c : Nat} (hl : l ≤ c) (code : BoundsCode) : (Instr.sliceBound (.int .i64 (l : Int)) c code).run P w = .ok l w := by
 unfold Instr.sliceBound
 simp only [asIntOf, Sem.run_bind, Sem.run_pure, Result.andThen_ok]
 rw [if_pos ⟨by omega, by omega⟩]
 simp
theorem pure_sslice {x y z : Operand} {t : TypeId} {i : TyR} [hI : TyI P t i] (hd' : i.desc = .string) {s : ByteArray} {l h : Nat}
  (hx : evo env x = some (.string s)) (hy : evo env y = some (.int .i64 (l : Int))) (hz : evo env z = some (.int .i64 (h : Int))) (hl : l ≤ h) (hh : h ≤ s.size) :
  PureOp P Γ ⟨env, hp, G⟩ (.slice t x (some y) (some z) none) ty (.string (s.extract l h)) := by
 refine ⟨fun a _ hs _ _ _ _ w => ?_⟩
 have hu := hI.und
 rw [hd'] at hu
 simp [execOp, (hs.evo hx : a.eval x = _), (hs.evo hy : a.eval y = _), (hs.evo hz : a.eval z = _), Instr.sliceAt, Sem.run_bind, run_underlying hu, Instr.slice, Instr.sliceBounds, run_bound hl, run_bound hh]
theorem pure_sslice_h {x z : Operand} {t : TypeId} {i : TyR} [hI : TyI P t i] (hd' : i.desc = .string) {s : ByteArray} {h : Nat}
  (hx : evo env x = some (.string s)) (hz : evo env z = some (.int .i64 (h : Int))) (hh : h ≤ s.size) :
  PureOp P Γ ⟨env, hp, G⟩ (.slice t x none (some z) none) ty (.string (s.extract 0 h)) := by
 refine ⟨fun a _ hs _ _ _ _ w => ?_⟩
 have hu := hI.und
 rw [hd'] at hu
 simp [execOp, (hs.evo hx : a.eval x = _), (hs.evo hz : a.eval z = _), Instr.sliceAt, Sem.run_bind, run_underlying hu, Instr.slice, Instr.sliceBounds, run_bound hh]
theorem pure_sslice_l {x y : Operand} {t : TypeId} {i : TyR} [hI : TyI P t i] (hd' : i.desc = .string) {s : ByteArray} {l : Nat}
  (hx : evo env x = some (.string s)) (hy : evo env y = some (.int .i64 (l : Int))) (hl : l ≤ s.size) :
  PureOp P Γ ⟨env, hp, G⟩ (.slice t x (some y) none none) ty (.string (s.extract l s.size)) := by
 refine ⟨fun a _ hs _ _ _ _ w => ?_⟩
 have hu := hI.und
 rw [hd'] at hu
 simp [execOp, (hs.evo hx : a.eval x = _), (hs.evo hy : a.eval y = _), Instr.sliceAt, Sem.run_bind, run_underlying hu, Instr.slice, Instr.sliceBounds, run_bound hl]
theorem pure_slss {x y : Operand} {t t' : TypeId} {r s : ByteArray} (hx : evo env x = some (.string r)) (hy : evo env y = some (.string s)) :
  PureOp P Γ ⟨env, hp, G⟩ (.binOp .lss t x y t') ty (.bool (decide (Op.bytesLess r.toList s.toList = true))) := by
 refine ⟨fun a _ hs _ _ _ _ w => ?_⟩
 simp only [execOp, eqGuard, binOp, Op.stringOp, (hs.evo hx : a.eval x = _), (hs.evo hy : a.eval y = _)]
 simp
end slaws
set_option maxHeartbeats 0 in
set_option maxRecDepth 100000 in
theorem l2Add_fn (s nm : ByteArray) (G : IM) (hs : s.size ≤ 1000) (hn : nm.size ≤ 1000) :
  Fn Try.prog 107 [.string s, .string nm] [] G (fun G' v outs => G' = G ∧ outs = [] ∧ ∃ r, v = .string r ∧ r.size ≤ s.size + nm.size) := by
 refine fn_enter Try.func107 rfl Try.ntmps107 Try.results107 rfl ?_
 intro w0
 refine tri_seq ?_
 refine tri_region ?_
 refine seq_pure (pure_assign rfl) rfl rfl ?_
 refine seq_done ?_
 refine nrm_seq ?_
 refine tri_seq ?_
 refine tri_region ?_
 refine seq_pure (pure_assign rfl) rfl rfl ?_
 refine seq_done ?_
 refine nrm_seq ?_
 refine tri_seq ?_
 refine tri_block ?_
 (refine tri_loopN (fun (i : Nat) => ⟨[(5, .int .i64 (i : Int)), (0, .string s), (1, .string nm)], [], G⟩) (fun i => i ≤ s.size) (fun i => s.size - i) 0 ?_ ?_ ?_)
 ·exact sub_mk (by repeat (first | exact SubE.nil | refine SubE.cons rfl ?_)) (by repeat (first | exact SubH.refl | exact SubH.nil | refine SubH.cons (by repeat (first | exact Pk.here | apply Pk.there)) ?_ | apply SubH.drop))
 ·exact Nat.zero_le _
 ·(intro i hi)
  refine tri_seq ?_
  refine tri_seq ?_
  refine tri_region ?_
  refine seq_pure (pure_move rfl) rfl rfl ?_
  refine seq_pure (pure_move rfl) rfl rfl ?_
  refine seq_pure (pure_len_str rfl rfl) rfl rfl ?_
  refine seq_bool (pure_lss rfl rfl) rfl rfl (fun h23 => ?_) (fun h23 => ?_)
  ·refine seq_pure (pure_move rfl) rfl rfl ?_
   refine seq_pure (pure_move rfl) rfl rfl ?_
   refine seq_pure (pure_move rfl) rfl rfl ?_
   refine seq_pure (pure_move rfl) rfl rfl ?_
   refine seq_pure (pure_add_nat (n := 1) rfl rfl (by omega)) rfl rfl ?_
   refine seq_pure (pure_sslice (h := i + 1) rfl rfl rfl rfl (by omega) (by omega)) rfl rfl ?_
   refine seq_pure (pure_move rfl) rfl rfl ?_
   refine seq_bool (pure_slss rfl rfl) rfl rfl (fun h31 => ?_) (fun h31 => ?_)
   ·refine seq_pure (pure_pick_t rfl rfl) rfl rfl ?_
    refine seq_done ?_
    refine nrm_seq ?_
    refine tri_cond_t rfl ?_
    refine tri_skip ?_
    refine nrm_seq ?_
    refine tri_block ?_
    refine tri_region ?_
    refine seq_pure (pure_move rfl) rfl rfl ?_
    refine seq_pure (pure_add_nat (n := 1) rfl rfl (by omega)) rfl rfl ?_
    refine seq_pure (pure_assign rfl) rfl rfl ?_
    refine seq_done ?_
    refine nrm_block ?_
    refine nrm_loopN (i + 1) ?_ ?_ ?_
    ·exact sub_mk (by repeat (first | exact SubE.nil | refine SubE.cons rfl ?_)) (by repeat (first | exact SubH.refl | exact SubH.nil | refine SubH.cons (by repeat (first | exact Pk.here | apply Pk.there)) ?_ | apply SubH.drop))
    ·(show _ ≤ s.size; omega)
    ·(show s.size - _ < s.size - _; omega)
   ·refine seq_pure (pure_pick_t rfl rfl) rfl rfl ?_
    refine seq_done ?_
    refine nrm_seq ?_
    refine tri_cond_f rfl ?_
    refine tri_exit ?_
    refine ext_seq ?_
    refine ext_loopN ?_
    refine ext_block_eq ?_
    refine nrm_seq ?_
    refine tri_seq ?_
    refine tri_seq ?_
    refine tri_region ?_
    refine seq_pure (pure_move rfl) rfl rfl ?_
    refine seq_pure (pure_move rfl) rfl rfl ?_
    refine seq_pure (pure_len_str rfl rfl) rfl rfl ?_
    refine seq_pure (pure_lss_t rfl rfl (by omega)) rfl rfl ?_
    refine seq_pure (pure_move rfl) rfl rfl ?_
    refine seq_pure (pure_move rfl) rfl rfl ?_
    refine seq_pure (pure_move rfl) rfl rfl ?_
    refine seq_pure (pure_move rfl) rfl rfl ?_
    refine seq_pure (pure_add_nat (n := 1) rfl rfl (by omega)) rfl rfl ?_
    refine seq_pure (pure_sslice (h := i + 1) rfl rfl rfl rfl (by omega) (by omega)) rfl rfl ?_
    refine seq_pure (pure_move rfl) rfl rfl ?_
    refine seq_bool (pure_seql rfl rfl) rfl rfl (fun h72 => ?_) (fun h72 => ?_)
    ·refine seq_pure (pure_pick_t rfl rfl) rfl rfl ?_
     refine seq_done ?_
     refine nrm_seq ?_
     refine tri_cond_t rfl ?_
     refine tri_seq ?_
     refine tri_region ?_
     refine seq_pure (pure_move rfl) rfl rfl ?_
     refine seq_pure (pure_assign rfl) rfl rfl ?_
     refine seq_done ?_
     refine nrm_seq ?_
     refine tri_ret ?_
     refine ret_seq ?_
     refine ret_own1 (outs := []) (res_tmp rfl) SubH.nil ?_
     (exact ⟨rfl, rfl, _, rfl, Nat.le_add_right _ _⟩)
    ·refine seq_pure (pure_pick_t rfl rfl) rfl rfl ?_
     refine seq_done ?_
     refine nrm_seq ?_
     refine tri_cond_f rfl ?_
     refine tri_skip ?_
     refine nrm_seq ?_
     refine tri_seq ?_
     refine tri_draw mixed rfl ?_
     refine any_pure (i := 0) (listed' := [tt,ff,ff,ff,ff,ff,ff,ff,ff,ff]) rfl (by repeat (first | exact np_ret | exact np_cut | apply np_seq | apply np_block | apply np_loopN')) (pure_move rfl) rfl (by kernel_rfl) rfl rfl ?_
     refine any_pure (i := 1) (listed' := [tt,tt,ff,ff,ff,ff,ff,ff,ff,ff]) rfl (by repeat (first | exact np_ret | exact np_cut | apply np_seq | apply np_block | apply np_loopN')) (pure_move rfl) rfl (by kernel_rfl) rfl rfl ?_
     refine any_pure (i := 2) (listed' := [tt,tt,tt,ff,ff,ff,ff,ff,ff,ff]) rfl (by repeat (first | exact np_ret | exact np_cut | apply np_seq | apply np_block | apply np_loopN')) (pure_sslice_h rfl rfl rfl (by omega)) rfl (by kernel_rfl) rfl rfl ?_
     refine any_pure (i := 3) (listed' := [tt,tt,tt,tt,ff,ff,ff,ff,ff,ff]) rfl (by repeat (first | exact np_ret | exact np_cut | apply np_seq | apply np_block | apply np_loopN')) (pure_move rfl) rfl (by kernel_rfl) rfl rfl ?_
     refine any_pure (i := 4) (listed' := [tt,tt,tt,tt,tt,ff,ff,ff,ff,ff]) rfl (by repeat (first | exact np_ret | exact np_cut | apply np_seq | apply np_block | apply np_loopN')) (pure_cat rfl rfl (by simp only [ByteArray.size_extract, ByteArray.size_append]; omega)) rfl (by kernel_rfl) rfl rfl ?_
     refine any_pure (i := 5) (listed' := [tt,tt,tt,tt,tt,tt,ff,ff,ff,ff]) rfl (by repeat (first | exact np_ret | exact np_cut | apply np_seq | apply np_block | apply np_loopN')) (pure_move rfl) rfl (by kernel_rfl) rfl rfl ?_
     refine any_pure (i := 6) (listed' := [tt,tt,tt,tt,tt,tt,tt,ff,ff,ff]) rfl (by repeat (first | exact np_ret | exact np_cut | apply np_seq | apply np_block | apply np_loopN')) (pure_move rfl) rfl (by kernel_rfl) rfl rfl ?_
     refine any_pure (i := 7) (listed' := [tt,tt,tt,tt,tt,tt,tt,tt,ff,ff]) rfl (by repeat (first | exact np_ret | exact np_cut | apply np_seq | apply np_block | apply np_loopN')) (pure_sslice_l rfl rfl rfl (by omega)) rfl (by kernel_rfl) rfl rfl ?_
     refine any_pure (i := 8) (listed' := [tt,tt,tt,tt,tt,tt,tt,tt,tt,ff]) rfl (by repeat (first | exact np_ret | exact np_cut | apply np_seq | apply np_block | apply np_loopN')) (pure_cat rfl rfl (by simp only [ByteArray.size_extract, ByteArray.size_append]; omega)) rfl (by kernel_rfl) rfl rfl ?_
     refine any_pure (i := 9) (listed' := [tt,tt,tt,tt,tt,tt,tt,tt,tt,tt]) rfl (by repeat (first | exact np_ret | exact np_cut | apply np_seq | apply np_block | apply np_loopN')) (pure_assign rfl) rfl (by kernel_rfl) rfl rfl ?_
     refine any_done (by kernel_rfl) ?_
     refine nrm_seq ?_
     refine tri_ret ?_
     refine ret_own1 (outs := []) (res_tmp rfl) SubH.nil ?_
     (exact ⟨rfl, rfl, _, rfl, by simp only [ByteArray.size_extract, ByteArray.size_append]; omega⟩)
  ·refine seq_pure (pure_move rfl) rfl rfl ?_
   refine seq_skip rfl rfl ?_
   refine seq_skip rfl rfl ?_
   refine seq_skip rfl rfl ?_
   refine seq_skip rfl rfl ?_
   refine seq_skip rfl rfl ?_
   refine seq_skip rfl rfl ?_
   refine seq_skip rfl rfl ?_
   refine seq_pure (pure_pick_f rfl rfl) rfl rfl ?_
   refine seq_done ?_
   refine nrm_seq ?_
   refine tri_cond_f rfl ?_
   refine tri_exit ?_
   refine ext_seq ?_
   refine ext_loopN ?_
   refine ext_block_eq ?_
   refine nrm_seq ?_
   refine tri_seq ?_
   refine tri_seq ?_
   refine tri_region ?_
   refine seq_pure (pure_move rfl) rfl rfl ?_
   refine seq_pure (pure_move rfl) rfl rfl ?_
   refine seq_pure (pure_len_str rfl rfl) rfl rfl ?_
   refine seq_pure (pure_lss_f rfl rfl (by omega)) rfl rfl ?_
   refine seq_pure (pure_move rfl) rfl rfl ?_
   refine seq_skip rfl rfl ?_
   refine seq_skip rfl rfl ?_
   refine seq_skip rfl rfl ?_
   refine seq_skip rfl rfl ?_
   refine seq_skip rfl rfl ?_
   refine seq_skip rfl rfl ?_
   refine seq_skip rfl rfl ?_
   refine seq_pure (pure_pick_f rfl rfl) rfl rfl ?_
   refine seq_done ?_
   refine nrm_seq ?_
   refine tri_cond_f rfl ?_
   refine tri_skip ?_
   refine nrm_seq ?_
   refine tri_seq ?_
   refine tri_draw mixed rfl ?_
   refine any_pure (i := 0) (listed' := [tt,ff,ff,ff,ff,ff,ff,ff,ff,ff]) rfl (by repeat (first | exact np_ret | exact np_cut | apply np_seq | apply np_block | apply np_loopN')) (pure_move rfl) rfl (by kernel_rfl) rfl rfl ?_
   refine any_pure (i := 1) (listed' := [tt,tt,ff,ff,ff,ff,ff,ff,ff,ff]) rfl (by repeat (first | exact np_ret | exact np_cut | apply np_seq | apply np_block | apply np_loopN')) (pure_move rfl) rfl (by kernel_rfl) rfl rfl ?_
   refine any_pure (i := 2) (listed' := [tt,tt,tt,ff,ff,ff,ff,ff,ff,ff]) rfl (by repeat (first | exact np_ret | exact np_cut | apply np_seq | apply np_block | apply np_loopN')) (pure_sslice_h rfl rfl rfl (by omega)) rfl (by kernel_rfl) rfl rfl ?_
   refine any_pure (i := 3) (listed' := [tt,tt,tt,tt,ff,ff,ff,ff,ff,ff]) rfl (by repeat (first | exact np_ret | exact np_cut | apply np_seq | apply np_block | apply np_loopN')) (pure_move rfl) rfl (by kernel_rfl) rfl rfl ?_
   refine any_pure (i := 4) (listed' := [tt,tt,tt,tt,tt,ff,ff,ff,ff,ff]) rfl (by repeat (first | exact np_ret | exact np_cut | apply np_seq | apply np_block | apply np_loopN')) (pure_cat rfl rfl (by simp only [ByteArray.size_extract, ByteArray.size_append]; omega)) rfl (by kernel_rfl) rfl rfl ?_
   refine any_pure (i := 5) (listed' := [tt,tt,tt,tt,tt,tt,ff,ff,ff,ff]) rfl (by repeat (first | exact np_ret | exact np_cut | apply np_seq | apply np_block | apply np_loopN')) (pure_move rfl) rfl (by kernel_rfl) rfl rfl ?_
   refine any_pure (i := 6) (listed' := [tt,tt,tt,tt,tt,tt,tt,ff,ff,ff]) rfl (by repeat (first | exact np_ret | exact np_cut | apply np_seq | apply np_block | apply np_loopN')) (pure_move rfl) rfl (by kernel_rfl) rfl rfl ?_
   refine any_pure (i := 7) (listed' := [tt,tt,tt,tt,tt,tt,tt,tt,ff,ff]) rfl (by repeat (first | exact np_ret | exact np_cut | apply np_seq | apply np_block | apply np_loopN')) (pure_sslice_l rfl rfl rfl (by omega)) rfl (by kernel_rfl) rfl rfl ?_
   refine any_pure (i := 8) (listed' := [tt,tt,tt,tt,tt,tt,tt,tt,tt,ff]) rfl (by repeat (first | exact np_ret | exact np_cut | apply np_seq | apply np_block | apply np_loopN')) (pure_cat rfl rfl (by simp only [ByteArray.size_extract, ByteArray.size_append]; omega)) rfl (by kernel_rfl) rfl rfl ?_
   refine any_pure (i := 9) (listed' := [tt,tt,tt,tt,tt,tt,tt,tt,tt,tt]) rfl (by repeat (first | exact np_ret | exact np_cut | apply np_seq | apply np_block | apply np_loopN')) (pure_assign rfl) rfl (by kernel_rfl) rfl rfl ?_
   refine any_done (by kernel_rfl) ?_
   refine nrm_seq ?_
   refine tri_ret ?_
   refine ret_own1 (outs := []) (res_tmp rfl) SubH.nil ?_
   (exact ⟨rfl, rfl, _, rfl, by simp only [ByteArray.size_extract, ByteArray.size_append]; omega⟩)
end Gw
end Go.Proofs.Yteneckdjdfnjoaa
namespace Go.Proofs.Yteneckdjdfnjoaa
open Go Go.RowKit
namespace Gw
theorem ty0_r (G : IM) : RTy G ty0 [.int .i64 0, .slice none 0 0] := by
 simp only [ty0, RTy]
 exact ⟨none, 0, [], rfl, ⟨by omega, by omega⟩, SlE.of (Sl.nil _ _) rfl (by simp) (by simp), by simp [RTyL]⟩
theorem ty0_sz : szTy ty0 = 0 := rfl
theorem RTmL.tm {G : IM} {k : Int} {nm : ByteArray} {num : Int} {t : Ty} {q : Option Addr} {d : Nat} {ts : List Tm} {es : List (List Value)} {p : Option Addr} {n c : Nat} (h : RTmL G ts es) (hn : ts.length = n) (hs : Sl G p n c 9 es.flatten) (hk : I64 k) (hm : I64 num)
  (ht : RTy G t [.int .i64 t.k, .slice q t.ks.length d]) : RTm G (.mk k nm num t ty0 0 ts) [.int .i64 k, .string nm, .int .i64 num, .int .i64 t.k, .slice q t.ks.length d, .int .i64 0, .slice none 0 0, .int .i64 0, .slice p n c] := by
 subst hn
 simp only [RTm]
 exact ⟨_, _, p, c, es, rfl, hk, hm, ⟨by omega, by omega⟩, ht, ty0_r G, SlE.of hs h.len h.all (fun e he => (h.each e he).2), h⟩
theorem tz_r {G : IM} {k : Int} {nm : ByteArray} {num : Int} (hk : I64 k) (hm : I64 num) :
  RTm G (.mk k nm num ty0 ty0 0 []) [.int .i64 k, .string nm, .int .i64 num, .int .i64 0, .slice none 0 0, .int .i64 0, .slice none 0 0, .int .i64 0, .slice none 0 0] :=
 RTmL.tm (ts := []) (es := []) (t := ty0) (by simp [RTmL]) rfl (Sl.nil _ _) hk hm (ty0_r G)
theorem tz_sz (k : Int) (nm : ByteArray) (num : Int) : szTm (.mk k nm num ty0 ty0 0 []) = nm.size := by
 rw [szTm, ty0_sz, sumTm]; simp
theorem sumTm_snoc : ∀ (ts : List Tm) (t : Tm), sumTm (ts ++ [t]) = sumTm ts + szTm t
 | [], t => by simp [sumTm]
 | a :: ts, t => by simp only [List.cons_append, sumTm, sumTm_snoc ts t]; omega
theorem tmOps_le (k : Int) : tmOps k ≤ 3 := by
 unfold tmOps; repeat (split; omega)
 omega
theorem dB_le2 {d : Nat} (h : d ≤ 2) : dB (d + 1) ≤ 14 := by
 have : d = 0 ∨ d = 1 ∨ d = 2 := by omega
 rcases this with rfl | rfl | rfl <;> decide
theorem l2Num_fn (n : Int) (G : IM) : Fn Try.prog 51 [.int .i64 n] [] G (Val (.agg ⟨[.int .i64 2, .string ⟨⟨[]⟩⟩, .int .i64 n, .int .i64 0, .slice none 0 0, .int .i64 0, .slice none 0 0, .int .i64 0, .slice none 0 0]⟩) G) := by
 refine fn_enter Try.func51 rfl Try.ntmps51 Try.results51 rfl ?_
 intro w0
 refine tri_seq ?_
 refine tri_region ?_
 (refine seq_step (step_alloc rfl) rfl ?_; rintro _ ⟨b3, rfl⟩)
 refine seq_done ?_
 refine nrm_seq ?_
 refine tri_seq ?_
 refine tri_region ?_
 refine seq_pure (pure_move rfl) rfl rfl ?_
 refine seq_pure (pure_build rfl rfl) rfl rfl ?_
 refine seq_store rfl rfl rfl rfl rfl rfl (by repeat (first | exact Sw.here | apply Sw.there)) (by rfl) ?_
 refine seq_done ?_
 refine nrm_seq ?_
 refine tri_ret ?_
 refine ret_fin1 (res_cell rfl (load_ba rfl rfl (by repeat (first | exact List.Mem.head _ | apply List.Mem.tail)) (by rfl))) ?_
 exact ⟨rfl, rfl, rfl⟩
set_option maxHeartbeats 0 in
set_option maxRecDepth 100000 in
theorem l2Atom_fn (br : Nat) (pb : Option Addr) (nb cb : Nat) (bs : List UInt8) (hnb : nb ≤ 2000) (p : Nat) (G : IM) (hb : Sl G pb nb cb 1 (byts bs)) (hp : p + 3 < 1099511627776) (s : ByteArray) (hs : s.size ≤ 1000) :
  Fn Try.prog 106 [.pointer (some ⟨br, 0, none⟩), .string s] [rd br pb nb cb p] G
   (Drew br pb nb cb p 3 (fun G' v => ∃ t cells, v = .agg ⟨cells⟩ ∧ RTm G' t cells ∧ szTm t ≤ 1)) := by
 refine fn_enter Try.func106 rfl Try.ntmps106 Try.results106 rfl ?_
 intro w0
 refine tri_seq ?_
 refine tri_region ?_
 (refine seq_step (step_alloc rfl) rfl ?_; rintro _ ⟨b3, rfl⟩)
 refine seq_done ?_
 refine nrm_seq ?_
 refine tri_seq ?_
 refine tri_seq ?_
 refine tri_region ?_
 refine seq_pure (pure_move rfl) rfl rfl ?_
 refine seq_pure (pure_len_str rfl rfl) rfl rfl ?_
 refine seq_bool (pure_gtr rfl rfl) rfl rfl (fun h11 => ?_) (fun h11 => ?_)
 ·refine seq_pure (pure_move rfl) rfl rfl ?_
  refine seq_pure (pure_move rfl) rfl rfl ?_
  (refine seq_take rfl (pick_fn _ br pb nb cb p bs _ hb hnb (by omega)) (Pk.perm (by repeat (first | exact Pk.here | apply Pk.there))) rfl rfl (fun v14 G14 outs14 hle14 hh => ?_); obtain ⟨rfl, rfl, j14, rfl, hj14, hk14⟩ := hh; obtain ⟨i14, rfl⟩ := Int.eq_ofNat_of_zero_le hj14)
  replace hb := hb.mono hle14
  refine seq_bool (pure_gtr rfl rfl) rfl rfl (fun h15 => ?_) (fun h15 => ?_)
  ·refine seq_pure (pure_pick_t rfl rfl) rfl rfl ?_
   refine seq_done ?_
   refine nrm_seq ?_
   refine tri_cond_t rfl ?_
   refine tri_seq ?_
   refine tri_region ?_
   refine seq_pure (pure_move rfl) rfl rfl ?_
   refine seq_pure (pure_move rfl) rfl rfl ?_
   refine seq_pure (pure_len_str rfl rfl) rfl rfl ?_
   (refine seq_take rfl (pick_fn _ br pb nb cb (p + 1) bs _ hb hnb (by omega)) (Pk.perm (by repeat (first | exact Pk.here | apply Pk.there))) rfl rfl (fun v25 G25 outs25 hle25 hh => ?_); obtain ⟨rfl, rfl, j25, rfl, hj25, hk25⟩ := hh; obtain ⟨i25, rfl⟩ := Int.eq_ofNat_of_zero_le hj25)
   replace hb := hb.mono hle25
   refine seq_pure (pure_assign rfl) rfl rfl ?_
   refine seq_done ?_
   refine nrm_seq ?_
   refine tri_seq ?_
   refine tri_region ?_
   refine seq_pure (pure_move rfl) rfl rfl ?_
   refine seq_pure (pure_move rfl) rfl rfl ?_
   refine seq_pure (pure_move rfl) rfl rfl ?_
   refine seq_pure (pure_add_nat (n := 1) rfl rfl (by omega)) rfl rfl ?_
   refine seq_pure (pure_sslice rfl rfl rfl rfl (by omega) (by omega)) rfl rfl ?_
   refine seq_pure (pure_build rfl rfl) rfl rfl ?_
   refine seq_store rfl rfl rfl rfl rfl rfl (by repeat (first | exact Sw.here | apply Sw.there)) (by rfl) ?_
   refine seq_done ?_
   refine nrm_seq ?_
   refine tri_ret ?_
   refine ret_seq ?_
   refine ret_own1 (outs := [rd br pb nb cb (p + 1 + 1)]) (res_cell rfl (load_ba rfl rfl (by repeat (first | exact List.Mem.head _ | apply List.Mem.tail)) (by rfl))) (by repeat (first | exact SubH.nil | refine SubH.cons Pk.here ?_ | refine SubH.cons (Pk.there Pk.here) ?_ | refine SubH.cons (Pk.there (Pk.there Pk.here)) ?_ | apply SubH.drop)) ?_
   (refine ⟨_, ?_, ?_, rfl, _, _, rfl, tz_r ⟨by omega, by omega⟩ ⟨by omega, by omega⟩, ?_⟩; all_goals (try rw [tz_sz]); all_goals (first | omega | (simp only [ByteArray.size_extract]; omega) | decide))
  ·refine seq_pure (pure_pick_t rfl rfl) rfl rfl ?_
   refine seq_done ?_
   refine nrm_seq ?_
   refine tri_cond_f rfl ?_
   refine tri_skip ?_
   refine nrm_seq ?_
   refine tri_seq ?_
   refine tri_seq ?_
   refine tri_region ?_
   refine seq_pure (pure_move rfl) rfl rfl ?_
   (refine seq_take rfl (pick_fn _ br pb nb cb (p + 1) bs _ hb hnb (by omega)) (Pk.perm (by repeat (first | exact Pk.here | apply Pk.there))) rfl rfl (fun v54 G54 outs54 hle54 hh => ?_); obtain ⟨rfl, rfl, j54, rfl, hj54, hk54⟩ := hh; obtain ⟨i54, rfl⟩ := Int.eq_ofNat_of_zero_le hj54)
   replace hb := hb.mono hle54
   refine seq_done ?_
   refine nrm_seq ?_
   refine tri_block ?_
   refine tri_seq ?_
   refine tri_region ?_
   refine seq_bool (pure_eql rfl rfl) rfl rfl (fun h60 => ?_) (fun h60 => ?_)
   ·refine seq_pure (pure_assign rfl) rfl rfl ?_
    refine seq_done ?_
    refine nrm_seq ?_
    refine tri_cond_t rfl ?_
    refine tri_seq ?_
    refine tri_region ?_
    refine seq_pure (pure_build rfl rfl) rfl rfl ?_
    refine seq_store rfl rfl rfl rfl rfl rfl (by repeat (first | exact Sw.here | apply Sw.there)) (by rfl) ?_
    refine seq_done ?_
    refine nrm_seq ?_
    refine tri_ret ?_
    refine ret_block ?_
    refine ret_seq ?_
    refine ret_own1 (outs := [rd br pb nb cb (p + 1 + 1)]) (res_cell rfl (load_ba rfl rfl (by repeat (first | exact List.Mem.head _ | apply List.Mem.tail)) (by rfl))) (by repeat (first | exact SubH.nil | refine SubH.cons Pk.here ?_ | refine SubH.cons (Pk.there Pk.here) ?_ | refine SubH.cons (Pk.there (Pk.there Pk.here)) ?_ | apply SubH.drop)) ?_
    (refine ⟨_, ?_, ?_, rfl, _, _, rfl, tz_r ⟨by omega, by omega⟩ ⟨by omega, by omega⟩, ?_⟩; all_goals (try rw [tz_sz]); all_goals (first | omega | (simp only [ByteArray.size_extract]; omega) | decide))
   ·refine seq_pure (pure_assign rfl) rfl rfl ?_
    refine seq_done ?_
    refine nrm_seq ?_
    refine tri_cond_f rfl ?_
    refine tri_seq ?_
    refine tri_region ?_
    refine seq_bool (pure_eql rfl rfl) rfl rfl (fun h82 => ?_) (fun h82 => ?_)
    ·refine seq_pure (pure_assign rfl) rfl rfl ?_
     refine seq_done ?_
     refine nrm_seq ?_
     refine tri_cond_t rfl ?_
     refine tri_seq ?_
     refine tri_region ?_
     refine seq_pure (pure_build rfl rfl) rfl rfl ?_
     refine seq_store rfl rfl rfl rfl rfl rfl (by repeat (first | exact Sw.here | apply Sw.there)) (by rfl) ?_
     refine seq_done ?_
     refine nrm_seq ?_
     refine tri_ret ?_
     refine ret_block ?_
     refine ret_seq ?_
     refine ret_own1 (outs := [rd br pb nb cb (p + 1 + 1)]) (res_cell rfl (load_ba rfl rfl (by repeat (first | exact List.Mem.head _ | apply List.Mem.tail)) (by rfl))) (by repeat (first | exact SubH.nil | refine SubH.cons Pk.here ?_ | refine SubH.cons (Pk.there Pk.here) ?_ | refine SubH.cons (Pk.there (Pk.there Pk.here)) ?_ | apply SubH.drop)) ?_
     (refine ⟨_, ?_, ?_, rfl, _, _, rfl, tz_r ⟨by omega, by omega⟩ ⟨by omega, by omega⟩, ?_⟩; all_goals (try rw [tz_sz]); all_goals (first | omega | (simp only [ByteArray.size_extract]; omega) | decide))
    ·refine seq_pure (pure_assign rfl) rfl rfl ?_
     refine seq_done ?_
     refine nrm_seq ?_
     refine tri_cond_f rfl ?_
     refine tri_skip ?_
     refine nrm_block ?_
     refine nrm_seq ?_
     refine tri_seq ?_
     refine tri_region ?_
     refine seq_pure (pure_move rfl) rfl rfl ?_
     (refine seq_step (step_buildSlice rfl rfl rfl (by omega) (by unfold maxLen; omega) rfl) rfl ?_; rintro _ ⟨b108, rfl⟩)
     (refine triL_freeze (by repeat (first | exact Pk.here | apply Pk.there)) (fun Gf hlef hslf _ => ?_); refine seq_take rfl (num_fn Gf br pb nb cb (p + 1 + 1) bs _ _ _ _ (hb.mono hlef) hnb (by omega) hslf (by decide)) (Pk.perm (by repeat (first | exact Pk.here | apply Pk.there))) rfl rfl (fun v Gn outs hlen hh => ?_); obtain ⟨rfl, rfl, hv⟩ := hh; obtain ⟨kn, rfl, hkn⟩ : ∃ k, v = .int .i64 k ∧ I64 k := (by simp only [List.mem_cons, List.not_mem_nil, or_false] at hv; rcases hv with rfl | rfl | rfl | rfl | rfl | rfl <;> exact ⟨_, rfl, by unfold I64; omega⟩))
     refine seq_val rfl ((l2Num_fn _ _)) rfl rfl ?_
     refine seq_store rfl rfl rfl rfl rfl rfl (by repeat (first | exact Sw.here | apply Sw.there)) (by rfl) ?_
     refine seq_done ?_
     refine nrm_seq ?_
     refine tri_ret ?_
     refine ret_own1 (outs := [rd br pb nb cb (p + 1 + 1 + 1)]) (res_cell rfl (load_ba rfl rfl (by repeat (first | exact List.Mem.head _ | apply List.Mem.tail)) (by rfl))) (by repeat (first | exact SubH.nil | refine SubH.cons Pk.here ?_ | refine SubH.cons (Pk.there Pk.here) ?_ | refine SubH.cons (Pk.there (Pk.there Pk.here)) ?_ | apply SubH.drop)) ?_
     (refine ⟨_, ?_, ?_, rfl, _, _, rfl, tz_r ⟨by omega, by omega⟩ hkn, ?_⟩; all_goals (try rw [tz_sz]); all_goals (first | omega | decide))
 ·refine seq_pure (pure_move rfl) rfl rfl ?_
  refine seq_skip rfl rfl ?_
  refine seq_skip rfl rfl ?_
  refine seq_skip rfl rfl ?_
  refine seq_pure (pure_pick_f rfl rfl) rfl rfl ?_
  refine seq_done ?_
  refine nrm_seq ?_
  refine tri_cond_f rfl ?_
  refine tri_skip ?_
  refine nrm_seq ?_
  refine tri_seq ?_
  refine tri_seq ?_
  refine tri_region ?_
  refine seq_pure (pure_move rfl) rfl rfl ?_
  (refine seq_take rfl (pick_fn _ br pb nb cb p bs _ hb hnb (by omega)) (Pk.perm (by repeat (first | exact Pk.here | apply Pk.there))) rfl rfl (fun v131 G131 outs131 hle131 hh => ?_); obtain ⟨rfl, rfl, j131, rfl, hj131, hk131⟩ := hh; obtain ⟨i131, rfl⟩ := Int.eq_ofNat_of_zero_le hj131)
  replace hb := hb.mono hle131
  refine seq_done ?_
  refine nrm_seq ?_
  refine tri_block ?_
  refine tri_seq ?_
  refine tri_region ?_
  refine seq_bool (pure_eql rfl rfl) rfl rfl (fun h137 => ?_) (fun h137 => ?_)
  ·refine seq_pure (pure_assign rfl) rfl rfl ?_
   refine seq_done ?_
   refine nrm_seq ?_
   refine tri_cond_t rfl ?_
   refine tri_seq ?_
   refine tri_region ?_
   refine seq_pure (pure_build rfl rfl) rfl rfl ?_
   refine seq_store rfl rfl rfl rfl rfl rfl (by repeat (first | exact Sw.here | apply Sw.there)) (by rfl) ?_
   refine seq_done ?_
   refine nrm_seq ?_
   refine tri_ret ?_
   refine ret_block ?_
   refine ret_seq ?_
   refine ret_own1 (outs := [rd br pb nb cb (p + 1)]) (res_cell rfl (load_ba rfl rfl (by repeat (first | exact List.Mem.head _ | apply List.Mem.tail)) (by rfl))) (by repeat (first | exact SubH.nil | refine SubH.cons Pk.here ?_ | refine SubH.cons (Pk.there Pk.here) ?_ | refine SubH.cons (Pk.there (Pk.there Pk.here)) ?_ | apply SubH.drop)) ?_
   (refine ⟨_, ?_, ?_, rfl, _, _, rfl, tz_r ⟨by omega, by omega⟩ ⟨by omega, by omega⟩, ?_⟩; all_goals (try rw [tz_sz]); all_goals (first | omega | (simp only [ByteArray.size_extract]; omega) | decide))
  ·refine seq_pure (pure_assign rfl) rfl rfl ?_
   refine seq_done ?_
   refine nrm_seq ?_
   refine tri_cond_f rfl ?_
   refine tri_seq ?_
   refine tri_region ?_
   refine seq_bool (pure_eql rfl rfl) rfl rfl (fun h159 => ?_) (fun h159 => ?_)
   ·refine seq_pure (pure_assign rfl) rfl rfl ?_
    refine seq_done ?_
    refine nrm_seq ?_
    refine tri_cond_t rfl ?_
    refine tri_seq ?_
    refine tri_region ?_
    refine seq_pure (pure_build rfl rfl) rfl rfl ?_
    refine seq_store rfl rfl rfl rfl rfl rfl (by repeat (first | exact Sw.here | apply Sw.there)) (by rfl) ?_
    refine seq_done ?_
    refine nrm_seq ?_
    refine tri_ret ?_
    refine ret_block ?_
    refine ret_seq ?_
    refine ret_own1 (outs := [rd br pb nb cb (p + 1)]) (res_cell rfl (load_ba rfl rfl (by repeat (first | exact List.Mem.head _ | apply List.Mem.tail)) (by rfl))) (by repeat (first | exact SubH.nil | refine SubH.cons Pk.here ?_ | refine SubH.cons (Pk.there Pk.here) ?_ | refine SubH.cons (Pk.there (Pk.there Pk.here)) ?_ | apply SubH.drop)) ?_
    (refine ⟨_, ?_, ?_, rfl, _, _, rfl, tz_r ⟨by omega, by omega⟩ ⟨by omega, by omega⟩, ?_⟩; all_goals (try rw [tz_sz]); all_goals (first | omega | (simp only [ByteArray.size_extract]; omega) | decide))
   ·refine seq_pure (pure_assign rfl) rfl rfl ?_
    refine seq_done ?_
    refine nrm_seq ?_
    refine tri_cond_f rfl ?_
    refine tri_skip ?_
    refine nrm_block ?_
    refine nrm_seq ?_
    refine tri_seq ?_
    refine tri_region ?_
    refine seq_pure (pure_move rfl) rfl rfl ?_
    (refine seq_step (step_buildSlice rfl rfl rfl (by omega) (by unfold maxLen; omega) rfl) rfl ?_; rintro _ ⟨b185, rfl⟩)
    (refine triL_freeze (by repeat (first | exact Pk.here | apply Pk.there)) (fun Gf hlef hslf _ => ?_); refine seq_take rfl (num_fn Gf br pb nb cb (p + 1) bs _ _ _ _ (hb.mono hlef) hnb (by omega) hslf (by decide)) (Pk.perm (by repeat (first | exact Pk.here | apply Pk.there))) rfl rfl (fun v Gn outs hlen hh => ?_); obtain ⟨rfl, rfl, hv⟩ := hh; obtain ⟨kn, rfl, hkn⟩ : ∃ k, v = .int .i64 k ∧ I64 k := (by simp only [List.mem_cons, List.not_mem_nil, or_false] at hv; rcases hv with rfl | rfl | rfl | rfl | rfl | rfl <;> exact ⟨_, rfl, by unfold I64; omega⟩))
    refine seq_val rfl ((l2Num_fn _ _)) rfl rfl ?_
    refine seq_store rfl rfl rfl rfl rfl rfl (by repeat (first | exact Sw.here | apply Sw.there)) (by rfl) ?_
    refine seq_done ?_
    refine nrm_seq ?_
    refine tri_ret ?_
    refine ret_own1 (outs := [rd br pb nb cb (p + 1 + 1)]) (res_cell rfl (load_ba rfl rfl (by repeat (first | exact List.Mem.head _ | apply List.Mem.tail)) (by rfl))) (by repeat (first | exact SubH.nil | refine SubH.cons Pk.here ?_ | refine SubH.cons (Pk.there Pk.here) ?_ | refine SubH.cons (Pk.there (Pk.there Pk.here)) ?_ | apply SubH.drop)) ?_
    (refine ⟨_, ?_, ?_, rfl, _, _, rfl, tz_r ⟨by omega, by omega⟩ hkn, ?_⟩; all_goals (try rw [tz_sz]); all_goals (first | omega | decide))
end Gw
end Go.Proofs.Yteneckdjdfnjoaa
namespace Go.Proofs.Yteneckdjdfnjoaa
open Go Go.RowKit
namespace Gw
/-- How big a drawn term is. -/
def tB : Nat → Nat
 | 0 => 3
 | d + 1 => 3 * tB d + 20
theorem tB_ge (d : Nat) : 3 ≤ tB d := by cases d <;> simp only [tB] <;> omega
set_option maxHeartbeats 0 in
set_option maxRecDepth 100000 in
theorem l2Draw_fn (br : Nat) (pb : Option Addr) (nb cb : Nat) (bs : List UInt8) (hnb : nb ≤ 2000) : ∀ (d p : Nat) (G : IM) (s : ByteArray), d ≤ 900 → s.size + d ≤ 950 → Sl G pb nb cb 1 (byts bs) → p + tB d < 1099511627776 →
  Fn Try.prog 96 [.pointer (some ⟨br, 0, none⟩), .string s, .int .i64 ((d + 1 : Nat) : Int)] [rd br pb nb cb p] G
   (Drew br pb nb cb p (tB d) (fun G' v => ∃ t cells, v = .agg ⟨cells⟩ ∧ RTm G' t cells ∧ szTm t ≤ ((tB d : Nat) : Int))) := by
 refine fun d => Nat.strongRecOn d fun d ih p G s hd hs hb hp => ?_
 have hge := tB_ge d
 refine fn_enter Try.func96 rfl Try.ntmps96 Try.results96 rfl ?_
 intro w0
 refine tri_seq ?_
 refine tri_region ?_
 (refine seq_step (step_alloc rfl) rfl ?_; rintro _ ⟨b3, rfl⟩)
 refine seq_done ?_
 refine nrm_seq ?_
 refine tri_seq ?_
 refine tri_seq ?_
 refine tri_region ?_
 refine seq_pure (pure_move rfl) rfl rfl ?_
 refine seq_bool (pure_lss rfl rfl) rfl rfl (fun h10 => ?_) (fun h10 => ?_)
 ·refine seq_pure (pure_move rfl) rfl rfl ?_
  refine seq_skip rfl rfl ?_
  refine seq_skip rfl rfl ?_
  refine seq_skip rfl rfl ?_
  refine seq_pure (pure_pick_t rfl rfl) rfl rfl ?_
  refine seq_done ?_
  refine nrm_seq ?_
  refine tri_cond_t rfl ?_
  refine tri_seq ?_
  refine tri_region ?_
  refine seq_pure (pure_move rfl) rfl rfl ?_
  refine seq_pure (pure_move rfl) rfl rfl ?_
  (refine seq_take rfl (l2Atom_fn br pb nb cb bs hnb p _ hb (by omega) s (by omega)) (Pk.perm (by repeat (first | exact Pk.here | apply Pk.there))) rfl rfl (fun v Ga outs hlea hh => ?_); obtain ⟨pa, hpa1, hpa2, rfl, ta, cellsa, rfl, hra, hsa⟩ := hh; have hl9 := hra.len; have ho9 := hra.one)
  refine seq_store rfl rfl rfl hl9 ho9 rfl (by repeat (first | exact Sw.here | apply Sw.there)) (by exact upd_all hl9.symm) ?_
  refine seq_done ?_
  refine nrm_seq ?_
  refine tri_ret ?_
  refine ret_seq ?_
  refine ret_own1 (outs := [rd br pb nb cb pa]) (res_cell rfl (load_a rfl rfl (at_blk_all (by repeat (first | exact List.Mem.head _ | apply List.Mem.tail))) hl9)) (by repeat (first | exact SubH.nil | refine SubH.cons Pk.here ?_ | refine SubH.cons (Pk.there Pk.here) ?_ | refine SubH.cons (Pk.there (Pk.there Pk.here)) ?_ | apply SubH.drop)) ?_
  (exact ⟨pa, by omega, by omega, rfl, ta, cellsa, rfl, hra, by omega⟩)
 ·refine seq_pure (pure_move rfl) rfl rfl ?_
  refine seq_pure (pure_move rfl) rfl rfl ?_
  (have hB4 : 4 ≤ tB d := (by obtain ⟨d1, rfl⟩ : ∃ d1, d = d1 + 1 := ⟨d - 1, by omega⟩; simp only [tB]; have := tB_ge d1; omega); refine seq_take rfl (pick_fn _ br pb nb cb p bs _ hb hnb (by omega)) (Pk.perm (by repeat (first | exact Pk.here | apply Pk.there))) rfl rfl (fun v33 G33 outs33 hle33 hh => ?_); obtain ⟨rfl, rfl, j33, rfl, hj33, hk33⟩ := hh)
  replace hb := hb.mono hle33
  refine seq_bool (pure_eql rfl rfl) rfl rfl (fun h34 => ?_) (fun h34 => ?_)
  ·refine seq_pure (pure_pick_f rfl rfl) rfl rfl ?_
   refine seq_done ?_
   refine nrm_seq ?_
   refine tri_cond_t rfl ?_
   refine tri_seq ?_
   refine tri_region ?_
   refine seq_pure (pure_move rfl) rfl rfl ?_
   refine seq_pure (pure_move rfl) rfl rfl ?_
   (refine seq_take rfl (l2Atom_fn br pb nb cb bs hnb (p + 1) _ hb (by omega) s (by omega)) (Pk.perm (by repeat (first | exact Pk.here | apply Pk.there))) rfl rfl (fun v Ga outs hlea hh => ?_); obtain ⟨pa, hpa1, hpa2, rfl, ta, cellsa, rfl, hra, hsa⟩ := hh; have hl9 := hra.len; have ho9 := hra.one)
   refine seq_store rfl rfl rfl hl9 ho9 rfl (by repeat (first | exact Sw.here | apply Sw.there)) (by exact upd_all hl9.symm) ?_
   refine seq_done ?_
   refine nrm_seq ?_
   refine tri_ret ?_
   refine ret_seq ?_
   refine ret_own1 (outs := [rd br pb nb cb pa]) (res_cell rfl (load_a rfl rfl (at_blk_all (by repeat (first | exact List.Mem.head _ | apply List.Mem.tail))) hl9)) (by repeat (first | exact SubH.nil | refine SubH.cons Pk.here ?_ | refine SubH.cons (Pk.there Pk.here) ?_ | refine SubH.cons (Pk.there (Pk.there Pk.here)) ?_ | apply SubH.drop)) ?_
   (exact ⟨pa, by omega, by omega, rfl, ta, cellsa, rfl, hra, by omega⟩)
  ·refine seq_pure (pure_pick_f rfl rfl) rfl rfl ?_
   refine seq_done ?_
   refine nrm_seq ?_
   refine tri_cond_f rfl ?_
   refine tri_skip ?_
   refine nrm_seq ?_
   refine tri_seq ?_
   refine tri_region ?_
   refine seq_pure (pure_move rfl) rfl rfl ?_
   (refine seq_step (step_buildSlice rfl rfl rfl (by omega) (by unfold maxLen; omega) rfl) rfl ?_; rintro _ ⟨b60, rfl⟩)
   (refine triL_freeze (by repeat (first | exact Pk.here | apply Pk.there)) (fun Gf hlef hslf _ => ?_); refine seq_take rfl (num_fn Gf br pb nb cb (p + 1) bs _ _ _ _ (hb.mono hlef) hnb (by omega) hslf (by decide)) (Pk.perm (by repeat (first | exact Pk.here | apply Pk.there))) rfl rfl (fun v Gk outs hlek hh => ?_); obtain ⟨rfl, rfl, hv⟩ := hh; replace hb := hb.mono hlef; obtain ⟨k, rfl, hk1, hk2⟩ : ∃ k, v = .int .i64 k ∧ 5 ≤ k ∧ k ≤ 13 := (by simp only [List.mem_cons, List.not_mem_nil, or_false] at hv; rcases hv with rfl | rfl | rfl | rfl | rfl | rfl | rfl | rfl | rfl | rfl | rfl <;> exact ⟨_, rfl, by decide, by decide⟩); obtain ⟨d1, rfl⟩ : ∃ d1, d = d1 + 1 := ⟨d - 1, by omega⟩; have hB : tB (d1 + 1) = 3 * tB d1 + 20 := rfl)
   refine seq_pure (pure_assign rfl) rfl rfl ?_
   refine seq_done ?_
   refine nrm_seq ?_
   refine tri_seq ?_
   refine tri_region ?_
   refine seq_pure (pure_move rfl) rfl rfl ?_
   refine seq_pure (pure_build rfl rfl) rfl rfl ?_
   (refine seq_step (step_alloc rfl) rfl ?_; rintro _ ⟨b69, rfl⟩)
   refine seq_store rfl rfl rfl rfl rfl rfl (by repeat (first | exact Sw.here | apply Sw.there)) (by rfl) ?_
   refine seq_done ?_
   refine nrm_seq ?_
   refine tri_seq ?_
   refine tri_seq ?_
   refine tri_region ?_
   refine seq_pure (pure_move rfl) rfl rfl ?_
   refine seq_bool (pure_eql rfl rfl) rfl rfl (fun h77 => ?_) (fun h77 => ?_)
   ·refine seq_done ?_
    refine nrm_seq ?_
    (show Tri _ _ (.cond (.tmp 26) _ _) _ _; refine tri_cut (fun (x : ByteArray × ByteArray × Nat × IM) => ⟨[(7, .int .i64 k), (8, .pointer (some ⟨b69, 0, none⟩)), (6, .pointer (some ⟨b3, 0, none⟩)), (0, .pointer (some ⟨br, 0, none⟩)), (1, .string x.2.1), (2, .int .i64 ((d1 + 1 + 1 : Nat) : Int))], [.blk b69 [.int .i64 k, .string x.1, .int .i64 0, .int .i64 0, .slice none 0 0, .int .i64 0, .slice none 0 0, .int .i64 0, .slice none 0 0], .blk b3 [.int .i64 0, .string ⟨⟨[]⟩⟩, .int .i64 0, .int .i64 0, .slice none 0 0, .int .i64 0, .slice none 0 0, .int .i64 0, .slice none 0 0], rd br pb nb cb x.2.2.1], x.2.2.2⟩) (fun x => IMle Gk x.2.2.2 ∧ x.1.size ≤ 1 ∧ x.2.1.size ≤ s.size + 1 ∧ p + 2 ≤ x.2.2.1 ∧ x.2.2.1 ≤ p + 3) ?_ ?_)
    ·refine tri_cond_t rfl ?_
     refine tri_seq ?_
     refine tri_region ?_
     refine seq_pure (pure_move rfl) rfl rfl ?_
     (refine seq_step (step_buildSlice rfl rfl rfl (by omega) (by unfold maxLen; omega) rfl) rfl ?_; rintro _ ⟨b85, rfl⟩)
     (refine triL_freeze (by repeat (first | exact Pk.here | apply Pk.there)) (fun Gf2 hlef2 hslf2 _ => ?_); refine seq_take rfl (of_fn Gf2 br pb nb cb (p + 1 + 1) bs _ _ _ _ (hb.mono hlef2) hnb (by omega) hslf2 (by decide)) (Pk.perm (by repeat (first | exact Pk.here | apply Pk.there))) rfl rfl (fun v Go outs hleo hh => ?_); obtain ⟨rfl, rfl, hv2⟩ := hh; obtain ⟨nmA, rfl, hnA⟩ : ∃ nm, v = .string nm ∧ nm.size ≤ 1 := (by simp only [List.mem_cons, List.not_mem_nil, or_false] at hv2; rcases hv2 with rfl | rfl | rfl | rfl <;> exact ⟨_, rfl, by decide⟩))
     refine seq_pure (pure_fieldAddr0 rfl) rfl rfl ?_
     refine seq_store rfl rfl rfl rfl rfl rfl (by repeat (first | exact Sw.here | apply Sw.there)) (by rfl) ?_
     refine seq_done ?_
     refine nrm_seq ?_
     refine tri_region ?_
     refine seq_pure (pure_move rfl) rfl rfl ?_
     refine seq_pure (pure_fieldAddr0 rfl) rfl rfl ?_
     refine seq_load (load_bs rfl rfl (by repeat (first | exact List.Mem.head _ | apply List.Mem.tail)) (by rfl)) rfl rfl ?_
     (refine seq_own rfl (l2Add_fn s nmA _ (by omega) (by omega)) rfl rfl (fun v Ga outs hlea hh => ?_); obtain ⟨rfl, rfl, sA, rfl, hsA⟩ := hh)
     refine seq_pure (pure_assign rfl) rfl rfl ?_
     refine seq_done ?_
     refine nrm_cut (nmA, sA, p + 1 + 1 + 1, Ga) (sub_mk (by repeat (first | exact SubE.nil | refine SubE.cons rfl ?_)) (by repeat (first | exact SubH.refl | exact SubH.nil | refine SubH.cons (by repeat (first | exact Pk.here | apply Pk.there)) ?_ | apply SubH.drop))) ?_
     (dsimp only; exact ⟨hlef2, hnA, by omega, by omega, by omega⟩)
    ·(rintro ⟨(nm : ByteArray), s', p1, G1⟩ ⟨hleA, hnm, hss, hpA, hpB⟩; simp only [] at hleA hnm hss hpA hpB ⊢; replace hb := hb.mono hleA; have hmark := hleA)
     refine tri_seq ?_
     refine tri_seq ?_
     (have hm' := hmark; refine tri_cut (fun (x : Bool) => ⟨(40, .bool x) :: [(7, .int .i64 k), (8, .pointer (some ⟨b69, 0, none⟩)), (6, .pointer (some ⟨b3, 0, none⟩)), (0, .pointer (some ⟨br, 0, none⟩)), (1, .string s'), (2, .int .i64 ((d1 + 1 + 1 : Nat) : Int))], [.blk b69 [.int .i64 k, .string nm, .int .i64 0, .int .i64 0, .slice none 0 0, .int .i64 0, .slice none 0 0, .int .i64 0, .slice none 0 0], .blk b3 [.int .i64 0, .string ⟨⟨[]⟩⟩, .int .i64 0, .int .i64 0, .slice none 0 0, .int .i64 0, .slice none 0 0, .int .i64 0, .slice none 0 0], rd br pb nb cb p1], G1⟩) (fun x => True) ?_ ?_)
     ·refine tri_region ?_
      refine seq_pure (pure_move rfl) rfl rfl ?_
      refine seq_pure (pure_eql_t rfl rfl (by omega)) rfl rfl ?_
      refine seq_pure (pure_move rfl) rfl rfl ?_
      refine seq_skip rfl rfl ?_
      refine seq_skip rfl rfl ?_
      refine seq_pure (pure_pick_t rfl rfl) rfl rfl ?_
      refine seq_done ?_
      refine nrm_cut true (sub_mk (by repeat (first | exact SubE.nil | refine SubE.cons rfl ?_)) (by repeat (first | exact SubH.refl | exact SubH.nil | refine SubH.cons (by repeat (first | exact Pk.here | apply Pk.there)) ?_ | apply SubH.drop))) ?_
      trivial
     ·(rintro x _; clear hmark)
      (show Tri _ _ (.cond (.tmp 40) _ _) _ _; refine tri_cut (fun (x : Ty × Option Addr × Nat × Nat × IM) => ⟨[(7, .int .i64 k), (8, .pointer (some ⟨b69, 0, none⟩)), (6, .pointer (some ⟨b3, 0, none⟩)), (0, .pointer (some ⟨br, 0, none⟩)), (1, .string s'), (2, .int .i64 ((d1 + 1 + 1 : Nat) : Int))], [.blk b69 [.int .i64 k, .string nm, .int .i64 0, .int .i64 x.1.k, .slice x.2.1 x.1.ks.length x.2.2.1, .int .i64 0, .slice none 0 0, .int .i64 0, .slice none 0 0], .blk b3 [.int .i64 0, .string ⟨⟨[]⟩⟩, .int .i64 0, .int .i64 0, .slice none 0 0, .int .i64 0, .slice none 0 0, .int .i64 0, .slice none 0 0], rd br pb nb cb x.2.2.2.1], x.2.2.2.2⟩) (fun x => IMle G1 x.2.2.2.2 ∧ RTy x.2.2.2.2 x.1 [.int .i64 x.1.k, .slice x.2.1 x.1.ks.length x.2.2.1] ∧ szTy x.1 ≤ 14 ∧ p1 ≤ x.2.2.2.1 ∧ x.2.2.2.1 ≤ p1 + 15) (tri_cond rfl (fun hxt => ?_) (fun hxf => ?_)) ?_)
      ·refine tri_region ?_
       refine seq_pure (pure_move rfl) rfl rfl ?_
       refine seq_pure (pure_move rfl) rfl rfl ?_
       (refine seq_step (step_buildSlice rfl rfl rfl (by omega) (by unfold maxLen; omega) rfl) rfl ?_; rintro _ ⟨b119, rfl⟩)
       (refine triL_freeze (by repeat (first | exact Pk.here | apply Pk.there)) (fun Gf hlef3 hslf _ => ?_); refine seq_take rfl (num_fn Gf br pb nb cb p1 bs _ _ _ _ (hb.mono hlef3) hnb (by omega) hslf (by decide)) (Pk.perm (by repeat (first | exact Pk.here | apply Pk.there))) rfl rfl (fun v Gn outs hlen hh => ?_); obtain ⟨rfl, rfl, hv⟩ := hh; replace hb := hb.mono hlef3; obtain ⟨dd, rfl, hdd⟩ : ∃ d : Nat, v = .int .i64 ((d + 1 : Nat) : Int) ∧ d ≤ 2 := (by simp only [List.mem_cons, List.not_mem_nil, or_false] at hv; rcases hv with rfl | rfl | rfl | rfl <;> first | exact ⟨0, rfl, by decide⟩ | exact ⟨1, rfl, by decide⟩ | exact ⟨2, rfl, by decide⟩))
       (have hdB := dB_le2 hdd; refine seq_take rfl (l1Draw_fn br pb nb cb bs hnb dd (p1 + 1) _ (by omega) hb (by omega)) (Pk.perm (by repeat (first | exact Pk.here | apply Pk.there))) rfl rfl (fun v G3 outs hle3 hh => ?_); obtain ⟨p3, hp31, hp32, rfl, t3, cells3, rfl, hr3, hs3⟩ := hh; obtain ⟨q3, c3, es3, rfl, _⟩ := hr3.open)
       refine seq_pure (pure_fieldAddr0 rfl) rfl rfl ?_
       refine seq_store rfl rfl rfl rfl rfl rfl (by repeat (first | exact Sw.here | apply Sw.there)) (by rfl) ?_
       refine seq_done ?_
       refine nrm_cut (t3, q3, c3, p3, G3) (sub_mk (by repeat (first | exact SubE.nil | refine SubE.cons rfl ?_)) (by repeat (first | exact SubH.refl | exact SubH.nil | refine SubH.cons (by repeat (first | exact Pk.here | apply Pk.there)) ?_ | apply SubH.drop))) ?_
       (dsimp only; exact ⟨hlef3.trans hle3, hr3, by omega, by omega, by omega⟩)
      ·refine tri_skip ?_
       refine nrm_cut (ty0, none, 0, p1, G1) (sub_mk (by repeat (first | exact SubE.nil | refine SubE.cons rfl ?_)) (by repeat (first | exact SubH.refl | exact SubH.nil | refine SubH.cons (by repeat (first | exact Pk.here | apply Pk.there)) ?_ | apply SubH.drop))) ?_
       (dsimp only; exact ⟨IMle.refl _, ty0_r _, by decide, by omega, by omega⟩)
      ·(rintro ⟨(t' : Ty), q', c', p2, G2⟩ ⟨hleB, hrB, hsB, hpC, hpD⟩; simp only [] at hleB hrB hsB hpC hpD ⊢; replace hb := hb.mono hleB; have hop := tmOps_le k; have hK := l2Kids_fn k)
       refine tri_seq ?_
       refine tri_seq ?_
       refine tri_region ?_
       refine seq_pure (pure_assign rfl) rfl rfl ?_
       refine seq_done ?_
       refine nrm_seq ?_
       refine tri_block ?_
       (refine tri_nil 28 9 ?_; refine tri_loopN (fun (x : Nat × Option Addr × Nat × List Tm × List (List Value) × Nat × IM) => ⟨[(9, .int .i64 x.1), (7, .int .i64 k), (8, .pointer (some ⟨b69, 0, none⟩)), (6, .pointer (some ⟨b3, 0, none⟩)), (0, .pointer (some ⟨br, 0, none⟩)), (1, .string s'), (2, .int .i64 ((d1 + 1 + 1 : Nat) : Int))], [.blk b69 [.int .i64 k, .string nm, .int .i64 0, .int .i64 t'.k, .slice q' t'.ks.length c', .int .i64 0, .slice none 0 0, .int .i64 0, .slice x.2.1 x.1 x.2.2.1], .slc x.2.1 x.2.2.1 28 9 x.1 x.2.2.2.2.1.flatten, rd br pb nb cb x.2.2.2.2.2.1, .blk b3 [.int .i64 0, .string ⟨⟨[]⟩⟩, .int .i64 0, .int .i64 0, .slice none 0 0, .int .i64 0, .slice none 0 0, .int .i64 0, .slice none 0 0]], x.2.2.2.2.2.2⟩) (fun x => ((x.1 : Int) ≤ tmOps k ∨ x.1 = 0) ∧ IMle G2 x.2.2.2.2.2.2 ∧ x.2.2.2.1.length = x.1 ∧ RTmL x.2.2.2.2.2.2 x.2.2.2.1 x.2.2.2.2.1 ∧ sumTm x.2.2.2.1 ≤ ((x.1 * tB d1 : Nat) : Int) ∧ p2 ≤ x.2.2.2.2.2.1 ∧ x.2.2.2.2.2.1 ≤ p2 + x.1 * tB d1) (fun x => (tmOps k).toNat - x.1) (0, none, 0, [], [], p2, G2) ?_ ?_ ?_)
       ·(simp only [flat_snoc]; exact sub_mk (by repeat (first | exact SubE.nil | refine SubE.cons rfl ?_)) (by repeat (first | exact SubH.refl | exact SubH.nil | refine SubH.cons (by repeat (first | exact Pk.here | apply Pk.there)) ?_ | apply SubH.drop)))
       ·(exact ⟨.inr rfl, IMle.refl _, rfl, by simp [RTmL], by simp [sumTm], by dsimp only; omega, by dsimp only; omega⟩)
       ·(rintro ⟨i, pn, cn, ts, es', p', Gi⟩ ⟨hi, hle, hlt, hst, hsum, hq1, hq2⟩; simp only [] at hi hle hlt hst hsum hq1 hq2 ⊢; have hid : i * tB d1 ≤ 3 * tB d1 := Nat.mul_le_mul_right _ (by omega))
        refine tri_seq ?_
        refine tri_seq ?_
        refine tri_region ?_
        refine seq_pure (pure_move rfl) rfl rfl ?_
        refine seq_pure (pure_move rfl) rfl rfl ?_
        refine seq_val rfl ((hK _)) rfl rfl ?_
        refine seq_bool (pure_lss rfl rfl) rfl rfl (fun h148 => ?_) (fun h148 => ?_)
        ·refine seq_done ?_
         refine nrm_seq ?_
         refine tri_cond_t rfl ?_
         refine tri_skip ?_
         refine nrm_seq ?_
         refine tri_seq ?_
         refine tri_block ?_
         (have hih := ih d1 (by omega) p' Gi s' (by omega) (by omega) (hb.mono hle) (by have := Nat.mul_le_mul_right (tB d1) (show i + 1 ≤ 3 by omega); rw [Nat.succ_mul] at this; omega); refine tri_draw mixed rfl ?_)
         refine any_pure (i := 0) (listed' := [tt,ff,ff,ff,ff,ff,ff,ff,ff,ff,ff]) rfl (by repeat (first | exact np_ret | exact np_cut | apply np_seq | apply np_block | apply np_loopN')) (pure_fieldAddr0 rfl) rfl (by kernel_rfl) rfl rfl ?_
         refine any_load (i := 1) (listed' := [tt,tt,ff,ff,ff,ff,ff,ff,ff,ff,ff]) rfl (by repeat (first | exact np_ret | exact np_cut | apply np_seq | apply np_block | apply np_loopN')) (load_bs rfl rfl (by repeat (first | exact List.Mem.head _ | apply List.Mem.tail)) (by rfl)) rfl (by kernel_rfl) rfl rfl ?_
         refine any_pure (i := 2) (listed' := [tt,tt,tt,ff,ff,ff,ff,ff,ff,ff,ff]) rfl (by repeat (first | exact np_ret | exact np_cut | apply np_seq | apply np_block | apply np_loopN')) (pure_move rfl) rfl (by kernel_rfl) rfl rfl ?_
         refine any_pure (i := 3) (listed' := [tt,tt,tt,tt,ff,ff,ff,ff,ff,ff,ff]) rfl (by repeat (first | exact np_ret | exact np_cut | apply np_seq | apply np_block | apply np_loopN')) (pure_move rfl) rfl (by kernel_rfl) rfl rfl ?_
         refine any_pure (i := 4) (listed' := [tt,tt,tt,tt,tt,ff,ff,ff,ff,ff,ff]) rfl (by repeat (first | exact np_ret | exact np_cut | apply np_seq | apply np_block | apply np_loopN')) (pure_move rfl) rfl (by kernel_rfl) rfl rfl ?_
         refine any_pure (i := 5) (listed' := [tt,tt,tt,tt,tt,tt,ff,ff,ff,ff,ff]) rfl (by repeat (first | exact np_ret | exact np_cut | apply np_seq | apply np_block | apply np_loopN')) (pure_dec rfl rfl (by omega)) rfl (by kernel_rfl) rfl rfl ?_
         refine any_one (j := 6) (by kernel_rfl) ?_
         (refine one_take (listed' := [tt,tt,tt,tt,tt,tt,tt,ff,ff,ff,ff]) rfl rfl hih (Pk.perm (by repeat (first | exact Pk.here | apply Pk.there))) rfl rfl rfl (by repeat (first | exact HmOk.nil | apply HmOk.dep (by decide +kernel) | apply HmOk.blk (by decide +kernel) (by repeat (first | exact Pk.here | apply Pk.there)) (by repeat (first | exact List.Mem.head _ | apply List.Mem.tail)))) (fun v G3 outs hle3 hh => ?_); obtain ⟨p3, hp31, hp32, rfl, t3, cells3, rfl, hr3, hs3⟩ := hh; obtain ⟨qt, dt, et, qf, df, ef, q3, d3, es3, rfl, _⟩ := hr3.open)
         refine any_one (j := 7) (by kernel_rfl) ?_
         (refine one_step0 (listed' := [tt,tt,tt,tt,tt,tt,tt,tt,ff,ff,ff]) rfl (step_buildSlice rfl rfl rfl (by omega) (by unfold maxLen; omega) rfl) rfl rfl ?_; rintro _ ⟨b166, rfl⟩)
         refine any_one (j := 8) (by kernel_rfl) ?_
         refine one_append (listed' := [tt,tt,tt,tt,tt,tt,tt,tt,tt,ff,ff]) rfl rfl rfl rfl rfl rfl (fun _ _ => by repeat (first | exact Sw.here | apply Sw.there)) (at_slc_all (by repeat (first | exact List.Mem.head _ | apply List.Mem.tail))) rfl (by simp [Value.oneCell']) (by unfold maxLen; omega) (by omega) rfl rfl (by repeat (first | exact HmOk.nil | apply HmOk.dep (by decide +kernel) | apply HmOk.blk (by decide +kernel) (by repeat (first | exact Pk.here | apply Pk.there)) (by repeat (first | exact List.Mem.head _ | apply List.Mem.tail)))) (fun pn' cn' => ?_)
         refine any_pure (i := 9) (listed' := [tt,tt,tt,tt,tt,tt,tt,tt,tt,tt,ff]) rfl (by repeat (first | exact np_ret | exact np_cut | apply np_seq | apply np_block | apply np_loopN')) (pure_fieldAddr0 rfl) rfl (by kernel_rfl) rfl rfl ?_
         refine any_one (j := 10) (by kernel_rfl) ?_
         refine one_store (listed' := [tt,tt,tt,tt,tt,tt,tt,tt,tt,tt,tt]) rfl rfl rfl rfl rfl rfl rfl rfl (by kernel_rfl) (by repeat (first | exact Sw.here | apply Sw.there)) (by rfl) ?_
         refine any_done (by kernel_rfl) ?_
         refine nrm_block ?_
         refine nrm_seq ?_
         refine tri_region ?_
         refine seq_pure (pure_move rfl) rfl rfl ?_
         refine seq_pure (pure_add rfl rfl (by omega) (by omega)) rfl rfl ?_
         refine seq_pure (pure_assign rfl) rfl rfl ?_
         refine seq_done ?_
         refine nrm_loopN (i + 1, pn', cn', ts ++ [t3], es' ++ [[.int .i64 t3.k, .string t3.nm, .int .i64 t3.num, .int .i64 t3.ty.k, .slice qt t3.ty.ks.length dt, .int .i64 t3.fr.k, .slice qf t3.fr.ks.length df, .int .i64 t3.lb, .slice q3 t3.ks.length d3]], p3, G3) ?_ ?_ ?_
         ·(simp only [flat_snoc]; exact sub_mk (by repeat (first | exact SubE.nil | refine SubE.cons rfl ?_)) (by repeat (first | exact SubH.refl | exact SubH.nil | refine SubH.cons (by repeat (first | exact Pk.here | apply Pk.there)) ?_ | apply SubH.drop)))
         ·(dsimp only; have e1 : (i + 1) * tB d1 = i * tB d1 + tB d1 := Nat.succ_mul _ _; have e2 := sumTm_snoc ts t3; exact ⟨.inl (by omega), hle.trans hle3, by simp [hlt], RTmL.snoc (hst.mono hle3) hr3, by omega, by omega, by omega⟩)
         ·(show (tmOps k).toNat - (i + 1) < (tmOps k).toNat - i; omega)
        ·refine seq_done ?_
         refine nrm_seq ?_
         refine tri_cond_f rfl ?_
         refine tri_exit ?_
         refine ext_seq ?_
         refine ext_loopN ?_
         refine ext_block_eq ?_
         refine nrm_seq ?_
         refine tri_seq ?_
         refine tri_region ?_
         refine seq_load (load_ba rfl rfl (by repeat (first | exact List.Mem.head _ | apply List.Mem.tail)) (by rfl)) rfl rfl ?_
         refine seq_store rfl rfl rfl rfl rfl rfl (by repeat (first | exact Sw.here | apply Sw.there)) (by rfl) ?_
         refine seq_done ?_
         refine nrm_seq ?_
         (refine ret_freeze (by repeat (first | exact Pk.here | apply Pk.there)) (fun G5 hle5 hsl5 hno5 => ?_))
         refine tri_ret ?_
         refine ret_own1 (outs := [rd br pb nb cb p']) (res_cell rfl (load_ba rfl rfl (by repeat (first | exact List.Mem.head _ | apply List.Mem.tail)) (by rfl))) (by repeat (first | exact SubH.nil | refine SubH.cons Pk.here ?_ | refine SubH.cons (Pk.there Pk.here) ?_ | refine SubH.cons (Pk.there (Pk.there Pk.here)) ?_ | apply SubH.drop)) ?_
         (refine ⟨p', by omega, by omega, rfl, .mk k nm 0 t' ty0 0 ts, _, rfl, (hst.mono hle5).tm hlt hsl5 ⟨by omega, by omega⟩ ⟨by omega, by omega⟩ (hrB.mono (hle.trans hle5)), ?_⟩; rw [szTm, ty0_sz]; omega)
   ·refine seq_done ?_
    refine nrm_seq ?_
    (show Tri _ _ (.cond (.tmp 26) _ _) _ _; refine tri_cut (fun (x : ByteArray × ByteArray × Nat × IM) => ⟨[(7, .int .i64 k), (8, .pointer (some ⟨b69, 0, none⟩)), (6, .pointer (some ⟨b3, 0, none⟩)), (0, .pointer (some ⟨br, 0, none⟩)), (1, .string x.2.1), (2, .int .i64 ((d1 + 1 + 1 : Nat) : Int))], [.blk b69 [.int .i64 k, .string x.1, .int .i64 0, .int .i64 0, .slice none 0 0, .int .i64 0, .slice none 0 0, .int .i64 0, .slice none 0 0], .blk b3 [.int .i64 0, .string ⟨⟨[]⟩⟩, .int .i64 0, .int .i64 0, .slice none 0 0, .int .i64 0, .slice none 0 0, .int .i64 0, .slice none 0 0], rd br pb nb cb x.2.2.1], x.2.2.2⟩) (fun x => IMle Gk x.2.2.2 ∧ x.1.size ≤ 1 ∧ x.2.1.size ≤ s.size + 1 ∧ p + 2 ≤ x.2.2.1 ∧ x.2.2.1 ≤ p + 3) ?_ ?_)
    ·refine tri_cond_f rfl ?_
     refine tri_skip ?_
     refine nrm_cut (⟨⟨[]⟩⟩, s, p + 1 + 1, Gk) (sub_mk (by repeat (first | exact SubE.nil | refine SubE.cons rfl ?_)) (by repeat (first | exact SubH.refl | exact SubH.nil | refine SubH.cons (by repeat (first | exact Pk.here | apply Pk.there)) ?_ | apply SubH.drop))) ?_
     (dsimp only; exact ⟨IMle.refl _, by decide, by omega, by omega, by omega⟩)
    ·(rintro ⟨(nm : ByteArray), s', p1, G1⟩ ⟨hleA, hnm, hss, hpA, hpB⟩; simp only [] at hleA hnm hss hpA hpB ⊢; replace hb := hb.mono hleA; have hmark := hleA)
     refine tri_seq ?_
     refine tri_seq ?_
     (have hm' := hmark; refine tri_cut (fun (x : Bool) => ⟨(40, .bool x) :: [(7, .int .i64 k), (8, .pointer (some ⟨b69, 0, none⟩)), (6, .pointer (some ⟨b3, 0, none⟩)), (0, .pointer (some ⟨br, 0, none⟩)), (1, .string s'), (2, .int .i64 ((d1 + 1 + 1 : Nat) : Int))], [.blk b69 [.int .i64 k, .string nm, .int .i64 0, .int .i64 0, .slice none 0 0, .int .i64 0, .slice none 0 0, .int .i64 0, .slice none 0 0], .blk b3 [.int .i64 0, .string ⟨⟨[]⟩⟩, .int .i64 0, .int .i64 0, .slice none 0 0, .int .i64 0, .slice none 0 0, .int .i64 0, .slice none 0 0], rd br pb nb cb p1], G1⟩) (fun x => True) ?_ ?_)
     ·refine tri_region ?_
      refine seq_pure (pure_move rfl) rfl rfl ?_
      refine seq_pure (pure_eql_f rfl rfl (by omega)) rfl rfl ?_
      refine seq_pure (pure_move rfl) rfl rfl ?_
      refine seq_pure (pure_move rfl) rfl rfl ?_
      refine seq_bool (pure_eql rfl rfl) rfl rfl (fun h218 => ?_) (fun h218 => ?_)
      ·refine seq_pure (pure_pick_f rfl rfl) rfl rfl ?_
       refine seq_done ?_
       refine nrm_cut true (sub_mk (by repeat (first | exact SubE.nil | refine SubE.cons rfl ?_)) (by repeat (first | exact SubH.refl | exact SubH.nil | refine SubH.cons (by repeat (first | exact Pk.here | apply Pk.there)) ?_ | apply SubH.drop))) ?_
       trivial
      ·refine seq_pure (pure_pick_f rfl rfl) rfl rfl ?_
       refine seq_done ?_
       refine nrm_cut false (sub_mk (by repeat (first | exact SubE.nil | refine SubE.cons rfl ?_)) (by repeat (first | exact SubH.refl | exact SubH.nil | refine SubH.cons (by repeat (first | exact Pk.here | apply Pk.there)) ?_ | apply SubH.drop))) ?_
       trivial
     ·(rintro x _; clear hmark)
      (show Tri _ _ (.cond (.tmp 40) _ _) _ _; refine tri_cut (fun (x : Ty × Option Addr × Nat × Nat × IM) => ⟨[(7, .int .i64 k), (8, .pointer (some ⟨b69, 0, none⟩)), (6, .pointer (some ⟨b3, 0, none⟩)), (0, .pointer (some ⟨br, 0, none⟩)), (1, .string s'), (2, .int .i64 ((d1 + 1 + 1 : Nat) : Int))], [.blk b69 [.int .i64 k, .string nm, .int .i64 0, .int .i64 x.1.k, .slice x.2.1 x.1.ks.length x.2.2.1, .int .i64 0, .slice none 0 0, .int .i64 0, .slice none 0 0], .blk b3 [.int .i64 0, .string ⟨⟨[]⟩⟩, .int .i64 0, .int .i64 0, .slice none 0 0, .int .i64 0, .slice none 0 0, .int .i64 0, .slice none 0 0], rd br pb nb cb x.2.2.2.1], x.2.2.2.2⟩) (fun x => IMle G1 x.2.2.2.2 ∧ RTy x.2.2.2.2 x.1 [.int .i64 x.1.k, .slice x.2.1 x.1.ks.length x.2.2.1] ∧ szTy x.1 ≤ 14 ∧ p1 ≤ x.2.2.2.1 ∧ x.2.2.2.1 ≤ p1 + 15) (tri_cond rfl (fun hxt => ?_) (fun hxf => ?_)) ?_)
      ·refine tri_region ?_
       refine seq_pure (pure_move rfl) rfl rfl ?_
       refine seq_pure (pure_move rfl) rfl rfl ?_
       (refine seq_step (step_buildSlice rfl rfl rfl (by omega) (by unfold maxLen; omega) rfl) rfl ?_; rintro _ ⟨b232, rfl⟩)
       (refine triL_freeze (by repeat (first | exact Pk.here | apply Pk.there)) (fun Gf hlef3 hslf _ => ?_); refine seq_take rfl (num_fn Gf br pb nb cb p1 bs _ _ _ _ (hb.mono hlef3) hnb (by omega) hslf (by decide)) (Pk.perm (by repeat (first | exact Pk.here | apply Pk.there))) rfl rfl (fun v Gn outs hlen hh => ?_); obtain ⟨rfl, rfl, hv⟩ := hh; replace hb := hb.mono hlef3; obtain ⟨dd, rfl, hdd⟩ : ∃ d : Nat, v = .int .i64 ((d + 1 : Nat) : Int) ∧ d ≤ 2 := (by simp only [List.mem_cons, List.not_mem_nil, or_false] at hv; rcases hv with rfl | rfl | rfl | rfl <;> first | exact ⟨0, rfl, by decide⟩ | exact ⟨1, rfl, by decide⟩ | exact ⟨2, rfl, by decide⟩))
       (have hdB := dB_le2 hdd; refine seq_take rfl (l1Draw_fn br pb nb cb bs hnb dd (p1 + 1) _ (by omega) hb (by omega)) (Pk.perm (by repeat (first | exact Pk.here | apply Pk.there))) rfl rfl (fun v G3 outs hle3 hh => ?_); obtain ⟨p3, hp31, hp32, rfl, t3, cells3, rfl, hr3, hs3⟩ := hh; obtain ⟨q3, c3, es3, rfl, _⟩ := hr3.open)
       refine seq_pure (pure_fieldAddr0 rfl) rfl rfl ?_
       refine seq_store rfl rfl rfl rfl rfl rfl (by repeat (first | exact Sw.here | apply Sw.there)) (by rfl) ?_
       refine seq_done ?_
       refine nrm_cut (t3, q3, c3, p3, G3) (sub_mk (by repeat (first | exact SubE.nil | refine SubE.cons rfl ?_)) (by repeat (first | exact SubH.refl | exact SubH.nil | refine SubH.cons (by repeat (first | exact Pk.here | apply Pk.there)) ?_ | apply SubH.drop))) ?_
       (dsimp only; exact ⟨hlef3.trans hle3, hr3, by omega, by omega, by omega⟩)
      ·refine tri_skip ?_
       refine nrm_cut (ty0, none, 0, p1, G1) (sub_mk (by repeat (first | exact SubE.nil | refine SubE.cons rfl ?_)) (by repeat (first | exact SubH.refl | exact SubH.nil | refine SubH.cons (by repeat (first | exact Pk.here | apply Pk.there)) ?_ | apply SubH.drop))) ?_
       (dsimp only; exact ⟨IMle.refl _, ty0_r _, by decide, by omega, by omega⟩)
      ·(rintro ⟨(t' : Ty), q', c', p2, G2⟩ ⟨hleB, hrB, hsB, hpC, hpD⟩; simp only [] at hleB hrB hsB hpC hpD ⊢; replace hb := hb.mono hleB; have hop := tmOps_le k; have hK := l2Kids_fn k)
       refine tri_seq ?_
       refine tri_seq ?_
       refine tri_region ?_
       refine seq_pure (pure_assign rfl) rfl rfl ?_
       refine seq_done ?_
       refine nrm_seq ?_
       refine tri_block ?_
       (refine tri_nil 28 9 ?_; refine tri_loopN (fun (x : Nat × Option Addr × Nat × List Tm × List (List Value) × Nat × IM) => ⟨[(9, .int .i64 x.1), (7, .int .i64 k), (8, .pointer (some ⟨b69, 0, none⟩)), (6, .pointer (some ⟨b3, 0, none⟩)), (0, .pointer (some ⟨br, 0, none⟩)), (1, .string s'), (2, .int .i64 ((d1 + 1 + 1 : Nat) : Int))], [.blk b69 [.int .i64 k, .string nm, .int .i64 0, .int .i64 t'.k, .slice q' t'.ks.length c', .int .i64 0, .slice none 0 0, .int .i64 0, .slice x.2.1 x.1 x.2.2.1], .slc x.2.1 x.2.2.1 28 9 x.1 x.2.2.2.2.1.flatten, rd br pb nb cb x.2.2.2.2.2.1, .blk b3 [.int .i64 0, .string ⟨⟨[]⟩⟩, .int .i64 0, .int .i64 0, .slice none 0 0, .int .i64 0, .slice none 0 0, .int .i64 0, .slice none 0 0]], x.2.2.2.2.2.2⟩) (fun x => ((x.1 : Int) ≤ tmOps k ∨ x.1 = 0) ∧ IMle G2 x.2.2.2.2.2.2 ∧ x.2.2.2.1.length = x.1 ∧ RTmL x.2.2.2.2.2.2 x.2.2.2.1 x.2.2.2.2.1 ∧ sumTm x.2.2.2.1 ≤ ((x.1 * tB d1 : Nat) : Int) ∧ p2 ≤ x.2.2.2.2.2.1 ∧ x.2.2.2.2.2.1 ≤ p2 + x.1 * tB d1) (fun x => (tmOps k).toNat - x.1) (0, none, 0, [], [], p2, G2) ?_ ?_ ?_)
       ·(simp only [flat_snoc]; exact sub_mk (by repeat (first | exact SubE.nil | refine SubE.cons rfl ?_)) (by repeat (first | exact SubH.refl | exact SubH.nil | refine SubH.cons (by repeat (first | exact Pk.here | apply Pk.there)) ?_ | apply SubH.drop)))
       ·(exact ⟨.inr rfl, IMle.refl _, rfl, by simp [RTmL], by simp [sumTm], by dsimp only; omega, by dsimp only; omega⟩)
       ·(rintro ⟨i, pn, cn, ts, es', p', Gi⟩ ⟨hi, hle, hlt, hst, hsum, hq1, hq2⟩; simp only [] at hi hle hlt hst hsum hq1 hq2 ⊢; have hid : i * tB d1 ≤ 3 * tB d1 := Nat.mul_le_mul_right _ (by omega))
        refine tri_seq ?_
        refine tri_seq ?_
        refine tri_region ?_
        refine seq_pure (pure_move rfl) rfl rfl ?_
        refine seq_pure (pure_move rfl) rfl rfl ?_
        refine seq_val rfl ((hK _)) rfl rfl ?_
        refine seq_bool (pure_lss rfl rfl) rfl rfl (fun h261 => ?_) (fun h261 => ?_)
        ·refine seq_done ?_
         refine nrm_seq ?_
         refine tri_cond_t rfl ?_
         refine tri_skip ?_
         refine nrm_seq ?_
         refine tri_seq ?_
         refine tri_block ?_
         (have hih := ih d1 (by omega) p' Gi s' (by omega) (by omega) (hb.mono hle) (by have := Nat.mul_le_mul_right (tB d1) (show i + 1 ≤ 3 by omega); rw [Nat.succ_mul] at this; omega); refine tri_draw mixed rfl ?_)
         refine any_pure (i := 0) (listed' := [tt,ff,ff,ff,ff,ff,ff,ff,ff,ff,ff]) rfl (by repeat (first | exact np_ret | exact np_cut | apply np_seq | apply np_block | apply np_loopN')) (pure_fieldAddr0 rfl) rfl (by kernel_rfl) rfl rfl ?_
         refine any_load (i := 1) (listed' := [tt,tt,ff,ff,ff,ff,ff,ff,ff,ff,ff]) rfl (by repeat (first | exact np_ret | exact np_cut | apply np_seq | apply np_block | apply np_loopN')) (load_bs rfl rfl (by repeat (first | exact List.Mem.head _ | apply List.Mem.tail)) (by rfl)) rfl (by kernel_rfl) rfl rfl ?_
         refine any_pure (i := 2) (listed' := [tt,tt,tt,ff,ff,ff,ff,ff,ff,ff,ff]) rfl (by repeat (first | exact np_ret | exact np_cut | apply np_seq | apply np_block | apply np_loopN')) (pure_move rfl) rfl (by kernel_rfl) rfl rfl ?_
         refine any_pure (i := 3) (listed' := [tt,tt,tt,tt,ff,ff,ff,ff,ff,ff,ff]) rfl (by repeat (first | exact np_ret | exact np_cut | apply np_seq | apply np_block | apply np_loopN')) (pure_move rfl) rfl (by kernel_rfl) rfl rfl ?_
         refine any_pure (i := 4) (listed' := [tt,tt,tt,tt,tt,ff,ff,ff,ff,ff,ff]) rfl (by repeat (first | exact np_ret | exact np_cut | apply np_seq | apply np_block | apply np_loopN')) (pure_move rfl) rfl (by kernel_rfl) rfl rfl ?_
         refine any_pure (i := 5) (listed' := [tt,tt,tt,tt,tt,tt,ff,ff,ff,ff,ff]) rfl (by repeat (first | exact np_ret | exact np_cut | apply np_seq | apply np_block | apply np_loopN')) (pure_dec rfl rfl (by omega)) rfl (by kernel_rfl) rfl rfl ?_
         refine any_one (j := 6) (by kernel_rfl) ?_
         (refine one_take (listed' := [tt,tt,tt,tt,tt,tt,tt,ff,ff,ff,ff]) rfl rfl hih (Pk.perm (by repeat (first | exact Pk.here | apply Pk.there))) rfl rfl rfl (by repeat (first | exact HmOk.nil | apply HmOk.dep (by decide +kernel) | apply HmOk.blk (by decide +kernel) (by repeat (first | exact Pk.here | apply Pk.there)) (by repeat (first | exact List.Mem.head _ | apply List.Mem.tail)))) (fun v G3 outs hle3 hh => ?_); obtain ⟨p3, hp31, hp32, rfl, t3, cells3, rfl, hr3, hs3⟩ := hh; obtain ⟨qt, dt, et, qf, df, ef, q3, d3, es3, rfl, _⟩ := hr3.open)
         refine any_one (j := 7) (by kernel_rfl) ?_
         (refine one_step0 (listed' := [tt,tt,tt,tt,tt,tt,tt,tt,ff,ff,ff]) rfl (step_buildSlice rfl rfl rfl (by omega) (by unfold maxLen; omega) rfl) rfl rfl ?_; rintro _ ⟨b279, rfl⟩)
         refine any_one (j := 8) (by kernel_rfl) ?_
         refine one_append (listed' := [tt,tt,tt,tt,tt,tt,tt,tt,tt,ff,ff]) rfl rfl rfl rfl rfl rfl (fun _ _ => by repeat (first | exact Sw.here | apply Sw.there)) (at_slc_all (by repeat (first | exact List.Mem.head _ | apply List.Mem.tail))) rfl (by simp [Value.oneCell']) (by unfold maxLen; omega) (by omega) rfl rfl (by repeat (first | exact HmOk.nil | apply HmOk.dep (by decide +kernel) | apply HmOk.blk (by decide +kernel) (by repeat (first | exact Pk.here | apply Pk.there)) (by repeat (first | exact List.Mem.head _ | apply List.Mem.tail)))) (fun pn' cn' => ?_)
         refine any_pure (i := 9) (listed' := [tt,tt,tt,tt,tt,tt,tt,tt,tt,tt,ff]) rfl (by repeat (first | exact np_ret | exact np_cut | apply np_seq | apply np_block | apply np_loopN')) (pure_fieldAddr0 rfl) rfl (by kernel_rfl) rfl rfl ?_
         refine any_one (j := 10) (by kernel_rfl) ?_
         refine one_store (listed' := [tt,tt,tt,tt,tt,tt,tt,tt,tt,tt,tt]) rfl rfl rfl rfl rfl rfl rfl rfl (by kernel_rfl) (by repeat (first | exact Sw.here | apply Sw.there)) (by rfl) ?_
         refine any_done (by kernel_rfl) ?_
         refine nrm_block ?_
         refine nrm_seq ?_
         refine tri_region ?_
         refine seq_pure (pure_move rfl) rfl rfl ?_
         refine seq_pure (pure_add rfl rfl (by omega) (by omega)) rfl rfl ?_
         refine seq_pure (pure_assign rfl) rfl rfl ?_
         refine seq_done ?_
         refine nrm_loopN (i + 1, pn', cn', ts ++ [t3], es' ++ [[.int .i64 t3.k, .string t3.nm, .int .i64 t3.num, .int .i64 t3.ty.k, .slice qt t3.ty.ks.length dt, .int .i64 t3.fr.k, .slice qf t3.fr.ks.length df, .int .i64 t3.lb, .slice q3 t3.ks.length d3]], p3, G3) ?_ ?_ ?_
         ·(simp only [flat_snoc]; exact sub_mk (by repeat (first | exact SubE.nil | refine SubE.cons rfl ?_)) (by repeat (first | exact SubH.refl | exact SubH.nil | refine SubH.cons (by repeat (first | exact Pk.here | apply Pk.there)) ?_ | apply SubH.drop)))
         ·(dsimp only; have e1 : (i + 1) * tB d1 = i * tB d1 + tB d1 := Nat.succ_mul _ _; have e2 := sumTm_snoc ts t3; exact ⟨.inl (by omega), hle.trans hle3, by simp [hlt], RTmL.snoc (hst.mono hle3) hr3, by omega, by omega, by omega⟩)
         ·(show (tmOps k).toNat - (i + 1) < (tmOps k).toNat - i; omega)
        ·refine seq_done ?_
         refine nrm_seq ?_
         refine tri_cond_f rfl ?_
         refine tri_exit ?_
         refine ext_seq ?_
         refine ext_loopN ?_
         refine ext_block_eq ?_
         refine nrm_seq ?_
         refine tri_seq ?_
         refine tri_region ?_
         refine seq_load (load_ba rfl rfl (by repeat (first | exact List.Mem.head _ | apply List.Mem.tail)) (by rfl)) rfl rfl ?_
         refine seq_store rfl rfl rfl rfl rfl rfl (by repeat (first | exact Sw.here | apply Sw.there)) (by rfl) ?_
         refine seq_done ?_
         refine nrm_seq ?_
         (refine ret_freeze (by repeat (first | exact Pk.here | apply Pk.there)) (fun G5 hle5 hsl5 hno5 => ?_))
         refine tri_ret ?_
         refine ret_own1 (outs := [rd br pb nb cb p']) (res_cell rfl (load_ba rfl rfl (by repeat (first | exact List.Mem.head _ | apply List.Mem.tail)) (by rfl))) (by repeat (first | exact SubH.nil | refine SubH.cons Pk.here ?_ | refine SubH.cons (Pk.there Pk.here) ?_ | refine SubH.cons (Pk.there (Pk.there Pk.here)) ?_ | apply SubH.drop)) ?_
         (refine ⟨p', by omega, by omega, rfl, .mk k nm 0 t' ty0 0 ts, _, rfl, (hst.mono hle5).tm hlt hsl5 ⟨by omega, by omega⟩ ⟨by omega, by omega⟩ (hrB.mono (hle.trans hle5)), ?_⟩; rw [szTm, ty0_sz]; omega)
end Gw
end Go.Proofs.Yteneckdjdfnjoaa
namespace Go.Proofs.Yteneckdjdfnjoaa
open Go Go.RowKit
namespace Gw
theorem tScan_no {k : Int} {ks : List Ty} {d : Int} (h : 4 < d ∨ tyOps k ≠ ks.length) : tScan (.mk k ks) d = false := by
 rw [tScan]
 rcases h with h | h
 ·rw [decide_eq_false (by omega)]; rfl
 ·rw [decide_eq_false (p := tyOps k = ks.length) h, Bool.and_false]; rfl
theorem tScan_go {k : Int} {ks : List Ty} {d : Int} (h : d ≤ 4) (h2 : tyOps k = ks.length) : tScan (.mk k ks) d = tScanL ks (d + 1) := by
 rw [tScan, decide_eq_true h, decide_eq_true h2]; rfl
theorem tScanL_f {ks : List Ty} {d : Int} {i : Nat} (hi : i < ks.length) (h : tScan ks[i] d = false) : tScanL ks d = false := by
 cases hx : tScanL ks d with
 | false => rfl
 | true => rw [(tScanL_iff ks d).1 hx i hi] at h; cases h
set_option maxRecDepth 100000 in
theorem l1Shape_fn : ∀ (t : Ty) (d : Int) (G : IM) (cells : List Value), 0 ≤ d ∧ d ≤ 4 → RTy G t cells →
  Fn Try.prog 98 [.agg ⟨cells⟩, .int .i64 d] [] G (Val (.bool (tScan t (5 - d))) G) := by
 refine Ty.ind fun k ks ih d G cells hd hr => ?_
 obtain ⟨p, c, es, rfl, hk, hsl, hkl⟩ := hr.open
 simp only [Ty.k, Ty.ks] at hk hsl hkl ⊢
 have hn := hsl.le
 have hk1 := l1Kids_fn k G
 refine fn_enter Try.func98 rfl Try.ntmps98 Try.results98 rfl ?_
 intro w0
 refine tri_seq ?_
 refine tri_region ?_
 (refine seq_step (step_box_a rfl rfl) rfl ?_; rintro _ ⟨b3, rfl⟩)
 refine seq_pure (pure_assign rfl) rfl rfl ?_
 refine seq_done ?_
 refine nrm_seq ?_
 refine tri_seq ?_
 refine tri_seq ?_
 refine tri_draw mixed rfl ?_
 refine any_pure (i := 0) (listed' := [tt,ff,ff,ff,ff,ff,ff,ff,ff,ff,ff]) rfl (by repeat (first | exact np_ret | apply np_seq | apply np_block | apply np_loopN')) (pure_move rfl) rfl (by kernel_rfl) rfl rfl ?_
 refine any_bool (i := 1) (listed' := [tt,tt,ff,ff,ff,ff,ff,ff,ff,ff,ff]) rfl (by repeat (first | exact np_ret | apply np_seq | apply np_block | apply np_loopN')) (pure_lss rfl rfl) rfl (by kernel_rfl) rfl rfl (fun h11 => ?_) (fun h11 => ?_)
 ·refine any_pure (i := 2) (listed' := [tt,tt,tt,ff,ff,ff,ff,ff,ff,ff,ff]) rfl (by repeat (first | exact np_ret | apply np_seq | apply np_block | apply np_loopN')) (pure_move rfl) rfl (by kernel_rfl) rfl rfl ?_
  refine any_skip (i := 3) (listed' := [tt,tt,tt,tt,ff,ff,ff,ff,ff,ff,ff]) rfl (by repeat (first | exact np_ret | apply np_seq | apply np_block | apply np_loopN')) rfl (by kernel_rfl) rfl rfl ?_
  refine any_skip (i := 4) (listed' := [tt,tt,tt,tt,tt,ff,ff,ff,ff,ff,ff]) rfl (by repeat (first | exact np_ret | apply np_seq | apply np_block | apply np_loopN')) rfl (by kernel_rfl) rfl rfl ?_
  refine any_skip (i := 6) (listed' := [tt,tt,tt,tt,tt,ff,tt,ff,ff,ff,ff]) rfl (by repeat (first | exact np_ret | apply np_seq | apply np_block | apply np_loopN')) rfl (by kernel_rfl) rfl rfl ?_
  refine any_skip (i := 7) (listed' := [tt,tt,tt,tt,tt,ff,tt,tt,ff,ff,ff]) rfl (by repeat (first | exact np_ret | apply np_seq | apply np_block | apply np_loopN')) rfl (by kernel_rfl) rfl rfl ?_
  refine any_skip (i := 8) (listed' := [tt,tt,tt,tt,tt,ff,tt,tt,tt,ff,ff]) rfl (by repeat (first | exact np_ret | apply np_seq | apply np_block | apply np_loopN')) rfl (by kernel_rfl) rfl rfl ?_
  refine any_skip (i := 5) (listed' := [tt,tt,tt,tt,tt,tt,tt,tt,tt,ff,ff]) rfl (by repeat (first | exact np_ret | apply np_seq | apply np_block | apply np_loopN')) rfl (by kernel_rfl) rfl rfl ?_
  refine any_skip (i := 9) (listed' := [tt,tt,tt,tt,tt,tt,tt,tt,tt,tt,ff]) rfl (by repeat (first | exact np_ret | apply np_seq | apply np_block | apply np_loopN')) rfl (by kernel_rfl) rfl rfl ?_
  refine any_pure (i := 10) (listed' := [tt,tt,tt,tt,tt,tt,tt,tt,tt,tt,tt]) rfl (by repeat (first | exact np_ret | apply np_seq | apply np_block | apply np_loopN')) (pure_pick_t rfl rfl) rfl (by kernel_rfl) rfl rfl ?_
  refine any_done (by kernel_rfl) ?_
  refine nrm_seq ?_
  refine tri_cond_t rfl ?_
  refine tri_seq ?_
  refine tri_region ?_
  refine seq_pure (pure_assign rfl) rfl rfl ?_
  refine seq_done ?_
  refine nrm_seq ?_
  refine tri_ret ?_
  refine ret_seq ?_
  refine ret_fin1 (res_tmp rfl) ?_
  (rw [tScan_no (by omega)]; exact ⟨rfl, rfl, rfl⟩)
 ·refine any_pure (i := 2) (listed' := [tt,tt,tt,ff,ff,ff,ff,ff,ff,ff,ff]) rfl (by repeat (first | exact np_ret | apply np_seq | apply np_block | apply np_loopN')) (pure_move rfl) rfl (by kernel_rfl) rfl rfl ?_
  refine any_pure (i := 3) (listed' := [tt,tt,tt,tt,ff,ff,ff,ff,ff,ff,ff]) rfl (by repeat (first | exact np_ret | apply np_seq | apply np_block | apply np_loopN')) (pure_fieldAddr0 rfl) rfl (by kernel_rfl) rfl rfl ?_
  refine any_load (i := 4) (listed' := [tt,tt,tt,tt,tt,ff,ff,ff,ff,ff,ff]) rfl (by repeat (first | exact np_ret | apply np_seq | apply np_block | apply np_loopN')) (load_bs rfl rfl (by repeat (first | exact List.Mem.head _ | apply List.Mem.tail)) (by rfl)) rfl (by kernel_rfl) rfl rfl ?_
  refine any_pure (i := 6) (listed' := [tt,tt,tt,tt,tt,ff,tt,ff,ff,ff,ff]) rfl (by repeat (first | exact np_ret | apply np_seq | apply np_block | apply np_loopN')) (pure_fieldAddr0 rfl) rfl (by kernel_rfl) rfl rfl ?_
  refine any_load (i := 7) (listed' := [tt,tt,tt,tt,tt,ff,tt,tt,ff,ff,ff]) rfl (by repeat (first | exact np_ret | apply np_seq | apply np_block | apply np_loopN')) (load_bs rfl rfl (by repeat (first | exact List.Mem.head _ | apply List.Mem.tail)) (by rfl)) rfl (by kernel_rfl) rfl rfl ?_
  refine any_pure (i := 8) (listed' := [tt,tt,tt,tt,tt,ff,tt,tt,tt,ff,ff]) rfl (by repeat (first | exact np_ret | apply np_seq | apply np_block | apply np_loopN')) (pure_len rfl rfl) rfl (by kernel_rfl) rfl rfl ?_
  refine any_one (j := 5) (by kernel_rfl) ?_
  refine one_val (listed' := [tt,tt,tt,tt,tt,tt,tt,tt,tt,ff,ff]) rfl rfl (hk1) rfl rfl rfl ?_
  refine any_bool (i := 9) (listed' := [tt,tt,tt,tt,tt,tt,tt,tt,tt,tt,ff]) rfl (by repeat (first | exact np_ret | apply np_seq | apply np_block | apply np_loopN')) (pure_neq rfl rfl) rfl (by kernel_rfl) rfl rfl (fun h41 => ?_) (fun h41 => ?_)
  ·refine any_pure (i := 10) (listed' := [tt,tt,tt,tt,tt,tt,tt,tt,tt,tt,tt]) rfl (by repeat (first | exact np_ret | apply np_seq | apply np_block | apply np_loopN')) (pure_pick_f rfl rfl) rfl (by kernel_rfl) rfl rfl ?_
   refine any_done (by kernel_rfl) ?_
   refine nrm_seq ?_
   refine tri_cond_t rfl ?_
   refine tri_seq ?_
   refine tri_region ?_
   refine seq_pure (pure_assign rfl) rfl rfl ?_
   refine seq_done ?_
   refine nrm_seq ?_
   refine tri_ret ?_
   refine ret_seq ?_
   refine ret_fin1 (res_tmp rfl) ?_
   (rw [tScan_no (by omega)]; exact ⟨rfl, rfl, rfl⟩)
  ·refine any_pure (i := 10) (listed' := [tt,tt,tt,tt,tt,tt,tt,tt,tt,tt,tt]) rfl (by repeat (first | exact np_ret | apply np_seq | apply np_block | apply np_loopN')) (pure_pick_f rfl rfl) rfl (by kernel_rfl) rfl rfl ?_
   refine any_done (by kernel_rfl) ?_
   refine nrm_seq ?_
   refine tri_cond_f rfl ?_
   refine tri_skip ?_
   refine nrm_seq ?_
   refine tri_seq ?_
   refine tri_seq ?_
   refine tri_region ?_
   refine seq_pure (pure_assign rfl) rfl rfl ?_
   refine seq_done ?_
   refine nrm_seq ?_
   refine tri_block ?_
   (refine tri_loopN (fun (i : Nat) => ⟨[(5, .int .i64 i), (2, .pointer (some ⟨b3, 0, none⟩)), (1, .int .i64 d)], [.blk b3 [.int .i64 k, .slice p ks.length c]], G⟩) (fun i => i ≤ ks.length ∧ ∀ j (h : j < ks.length), j < i → tScan ks[j] (5 - d + 1) = true) (fun i => ks.length - i) 0 ?_ ?_ ?_)
   ·exact sub_mk (by repeat (first | exact SubE.nil | refine SubE.cons rfl ?_)) (by repeat (first | exact SubH.refl | exact SubH.nil | refine SubH.cons (by repeat (first | exact Pk.here | apply Pk.there)) ?_ | apply SubH.drop))
   ·exact ⟨by omega, by omega⟩
   ·(rintro i ⟨hi, hf⟩)
    refine tri_seq ?_
    refine tri_seq ?_
    refine tri_region ?_
    refine seq_pure (pure_move rfl) rfl rfl ?_
    refine seq_pure (pure_fieldAddr0 rfl) rfl rfl ?_
    refine seq_load (load_bs rfl rfl (by repeat (first | exact List.Mem.head _ | apply List.Mem.tail)) (by rfl)) rfl rfl ?_
    refine seq_pure (pure_len rfl rfl) rfl rfl ?_
    refine seq_bool (pure_lss rfl rfl) rfl rfl (fun h79 => ?_) (fun h79 => ?_)
    ·refine seq_done ?_
     refine nrm_seq ?_
     refine tri_cond_t rfl ?_
     refine tri_skip ?_
     refine nrm_seq ?_
     refine tri_seq ?_
     refine tri_block ?_
     refine tri_seq ?_
     refine tri_region ?_
     refine seq_pure (pure_fieldAddr0 rfl) rfl rfl ?_
     refine seq_load (load_bs rfl rfl (by repeat (first | exact List.Mem.head _ | apply List.Mem.tail)) (by rfl)) rfl rfl ?_
     refine seq_pure (pure_move rfl) rfl rfl ?_
     (obtain ⟨b, o, p2, c2, rfl, hat, hre, hgb⟩ := hsl.kidTy hkl (i := i) (by omega) (by omega); refine seq_pure (pure_indexAddrN rfl rfl rfl (by omega)) rfl rfl ?_)
     refine seq_load (load_a rfl rfl (hat _) rfl) rfl rfl ?_
     refine seq_pure (pure_move rfl) rfl rfl ?_
     refine seq_pure (pure_sub rfl rfl (by omega) (by omega)) rfl rfl ?_
     (have hih := ih ks[i] (List.getElem_mem (by omega)) (d - 1) G _ (by omega) hre; rw [show 5 - (d - 1) = 5 - d + 1 by omega] at hih; refine seq_valb rfl hih rfl rfl (fun h96 => ?_) (fun h96 => ?_))
     ·refine seq_pure (pure_not_t rfl) rfl rfl ?_
      refine seq_done ?_
      refine nrm_seq ?_
      refine tri_cond_f rfl ?_
      refine tri_skip ?_
      refine nrm_block ?_
      refine nrm_seq ?_
      refine tri_region ?_
      refine seq_pure (pure_move rfl) rfl rfl ?_
      refine seq_pure (pure_add rfl rfl (by omega) (by omega)) rfl rfl ?_
      refine seq_pure (pure_assign rfl) rfl rfl ?_
      refine seq_done ?_
      refine nrm_loopN (i + 1) ?_ ?_ ?_
      ·exact sub_mk (by repeat (first | exact SubE.nil | refine SubE.cons rfl ?_)) (by repeat (first | exact SubH.refl | exact SubH.nil | refine SubH.cons (by repeat (first | exact Pk.here | apply Pk.there)) ?_ | apply SubH.drop))
      ·exact ⟨by omega, fun j hj hji => by (by_cases he : j = i; (subst he; assumption); exact hf j hj (by omega))⟩
      ·omega
     ·refine seq_pure (pure_not_f rfl) rfl rfl ?_
      refine seq_done ?_
      refine nrm_seq ?_
      refine tri_cond_t rfl ?_
      refine tri_seq ?_
      refine tri_region ?_
      refine seq_pure (pure_assign rfl) rfl rfl ?_
      refine seq_done ?_
      refine nrm_seq ?_
      refine tri_ret ?_
      refine ret_block ?_
      refine ret_seq ?_
      refine ret_loopN ?_
      refine ret_block ?_
      refine ret_seq ?_
      refine ret_fin1 (res_tmp rfl) ?_
      (rw [tScan_go (by omega) (by omega), tScanL_f (i := i) (by omega) (by assumption)]; exact ⟨rfl, rfl, rfl⟩)
    ·refine seq_done ?_
     refine nrm_seq ?_
     refine tri_cond_f rfl ?_
     refine tri_exit ?_
     refine ext_seq ?_
     refine ext_loopN ?_
     refine ext_block_eq ?_
     refine nrm_seq ?_
     refine tri_seq ?_
     refine tri_region ?_
     refine seq_pure (pure_assign rfl) rfl rfl ?_
     refine seq_done ?_
     refine nrm_seq ?_
     refine tri_ret ?_
     refine ret_fin1 (res_tmp rfl) ?_
     (rw [tScan_go (by omega) (by omega), (tScanL_iff ks _).2 (fun j hj => hf j hj (by omega))]; exact ⟨rfl, rfl, rfl⟩)
set_option maxRecDepth 100000 in
theorem sTypeValid_fn (t : Ty) (G : IM) (cells : List Value) (hr : RTy G t cells) : Fn Try.prog 81 [.agg ⟨cells⟩] [] G (Val (.bool (tValid t)) G) := by
 have hl := hr.len
 have hv := l1Shape_fn t 4 G cells (by omega) hr
 refine fn_enter Try.func81 rfl Try.ntmps81 Try.results81 rfl ?_
 intro w0
 refine tri_seq ?_
 refine tri_region ?_
 (refine seq_step (step_box_a rfl rfl) rfl ?_; rintro _ ⟨b3, rfl⟩)
 refine seq_pure (pure_assign rfl) rfl rfl ?_
 refine seq_done ?_
 refine nrm_seq ?_
 refine tri_seq ?_
 refine tri_region ?_
 refine seq_load (load_a rfl rfl (at_blk_all (by repeat (first | exact List.Mem.head _ | apply List.Mem.tail))) (by assumption)) rfl rfl ?_
 refine seq_val rfl (hv) rfl rfl ?_
 refine seq_pure (pure_assign rfl) rfl rfl ?_
 refine seq_done ?_
 refine nrm_seq ?_
 refine tri_ret ?_
 refine ret_fin1 (res_tmp rfl) ?_
 exact ⟨rfl, rfl, rfl⟩
end Gw
end Go.Proofs.Yteneckdjdfnjoaa
namespace Go.Proofs.Yteneckdjdfnjoaa
open Go Go.RowKit
namespace Gw
theorem tScan_inv {k : Int} {ks : List Ty} {d : Int} (h : tScan (.mk k ks) d = true) : tyOps k = ks.length ∧ ∀ i, (hi : i < ks.length) → tScan ks[i] (d + 1) = true := by
 rw [tScan] at h
 simp only [Bool.and_eq_true, decide_eq_true_eq] at h
 exact ⟨h.1.2, (tScanL_iff ks _).1 h.2⟩
theorem tCons_any {k k' : Int} {ks ks' : List Ty} (h : k = 1 ∨ k' = 1) : tCons (.mk k ks) (.mk k' ks') = true := by
 rw [tCons_mk]
 rcases h with h | h
 ·rw [decide_eq_true (p := k = 1) h]; rfl
 ·rw [decide_eq_true (p := k' = 1) h]; simp
theorem tCons_ne {k k' : Int} {ks ks' : List Ty} (h : k ≠ 1) (h' : k' ≠ 1) (hk : k ≠ k') : tCons (.mk k ks) (.mk k' ks') = false := by
 rw [tCons_mk, decide_eq_false h, decide_eq_false h', decide_eq_false hk]; rfl
theorem tCons_eq {k k' : Int} {ks ks' : List Ty} (h : k ≠ 1) (h' : k' ≠ 1) (hk : k = k') : tCons (.mk k ks) (.mk k' ks') = tConsL ks ks' := by
 rw [tCons_mk, decide_eq_false h, decide_eq_false h', decide_eq_true hk]; rfl
theorem tConsL_f {ks ks' : List Ty} {i : Nat} (hi : i < ks.length) (hi' : i < ks'.length) (h : tCons ks[i] ks'[i] = false) : tConsL ks ks' = false := by
 cases hx : tConsL ks ks' with
 | false => rfl
 | true => rw [((tConsL_iff ks ks').1 hx).2 i hi hi'] at h; cases h
set_option maxRecDepth 100000 in
theorem l1Consistent_fn : ∀ (t t' : Ty) (G : IM) (cells cells' : List Value) (d d' : Int), tScan t d = true → tScan t' d' = true → RTy G t cells → RTy G t' cells' →
  Fn Try.prog 55 [.agg ⟨cells⟩, .agg ⟨cells'⟩] [] G (Val (.bool (tCons t t')) G) := by
 refine Ty.ind fun k ks ih t' G cells cells' d d' hv hv' hr hr' => ?_
 obtain ⟨k', ks'⟩ := t'
 obtain ⟨p, c, es, rfl, hk, hsl, hkl⟩ := hr.open
 obtain ⟨p', c', es', rfl, hk', hsl', hkl'⟩ := hr'.open
 simp only [Ty.k, Ty.ks] at hk hsl hkl hk' hsl' hkl' ⊢
 have hn := hsl.le
 have hn' := hsl'.le
 obtain ⟨hv1, hv2⟩ := tScan_inv hv
 obtain ⟨hv1', hv2'⟩ := tScan_inv hv'
 have hle : k = k' → ks.length = ks'.length := by rintro rfl; omega
 refine fn_enter Try.func55 rfl Try.ntmps55 Try.results55 rfl ?_
 intro w0
 refine tri_seq ?_
 refine tri_region ?_
 (refine seq_step (step_box_a rfl rfl) rfl ?_; rintro _ ⟨b3, rfl⟩)
 (refine seq_step (step_box_a rfl rfl) rfl ?_; rintro _ ⟨b4, rfl⟩)
 refine seq_pure (pure_assign rfl) rfl rfl ?_
 refine seq_done ?_
 refine nrm_seq ?_
 refine tri_seq ?_
 refine tri_seq ?_
 refine tri_region ?_
 refine seq_pure (pure_fieldAddr0 rfl) rfl rfl ?_
 refine seq_load (load_bs rfl rfl (by repeat (first | exact List.Mem.head _ | apply List.Mem.tail)) (by rfl)) rfl rfl ?_
 refine seq_bool (pure_eql rfl rfl) rfl rfl (fun h13 => ?_) (fun h13 => ?_)
 ·refine seq_pure (pure_move rfl) rfl rfl ?_
  refine seq_skip rfl rfl ?_
  refine seq_skip rfl rfl ?_
  refine seq_skip rfl rfl ?_
  refine seq_pure (pure_pick_t rfl rfl) rfl rfl ?_
  refine seq_done ?_
  refine nrm_seq ?_
  refine tri_cond_t rfl ?_
  refine tri_seq ?_
  refine tri_region ?_
  refine seq_pure (pure_assign rfl) rfl rfl ?_
  refine seq_done ?_
  refine nrm_seq ?_
  refine tri_ret ?_
  refine ret_seq ?_
  refine ret_fin1 (res_tmp rfl) ?_
  (rw [tCons_any (by omega)]; exact ⟨rfl, rfl, rfl⟩)
 ·refine seq_pure (pure_move rfl) rfl rfl ?_
  refine seq_pure (pure_fieldAddr0 rfl) rfl rfl ?_
  refine seq_load (load_bs rfl rfl (by repeat (first | exact List.Mem.head _ | apply List.Mem.tail)) (by rfl)) rfl rfl ?_
  refine seq_bool (pure_eql rfl rfl) rfl rfl (fun h34 => ?_) (fun h34 => ?_)
  ·refine seq_pure (pure_pick_f rfl rfl) rfl rfl ?_
   refine seq_done ?_
   refine nrm_seq ?_
   refine tri_cond_t rfl ?_
   refine tri_seq ?_
   refine tri_region ?_
   refine seq_pure (pure_assign rfl) rfl rfl ?_
   refine seq_done ?_
   refine nrm_seq ?_
   refine tri_ret ?_
   refine ret_seq ?_
   refine ret_fin1 (res_tmp rfl) ?_
   (rw [tCons_any (by omega)]; exact ⟨rfl, rfl, rfl⟩)
  ·refine seq_pure (pure_pick_f rfl rfl) rfl rfl ?_
   refine seq_done ?_
   refine nrm_seq ?_
   refine tri_cond_f rfl ?_
   refine tri_skip ?_
   refine nrm_seq ?_
   refine tri_seq ?_
   refine tri_seq ?_
   refine tri_region ?_
   refine seq_pure (pure_fieldAddr0 rfl) rfl rfl ?_
   refine seq_load (load_bs rfl rfl (by repeat (first | exact List.Mem.head _ | apply List.Mem.tail)) (by rfl)) rfl rfl ?_
   refine seq_pure (pure_fieldAddr0 rfl) rfl rfl ?_
   refine seq_load (load_bs rfl rfl (by repeat (first | exact List.Mem.head _ | apply List.Mem.tail)) (by rfl)) rfl rfl ?_
   refine seq_bool (pure_neq rfl rfl) rfl rfl (fun h61 => ?_) (fun h61 => ?_)
   ·refine seq_done ?_
    refine nrm_seq ?_
    refine tri_cond_t rfl ?_
    refine tri_seq ?_
    refine tri_region ?_
    refine seq_pure (pure_assign rfl) rfl rfl ?_
    refine seq_done ?_
    refine nrm_seq ?_
    refine tri_ret ?_
    refine ret_seq ?_
    refine ret_fin1 (res_tmp rfl) ?_
    (rw [tCons_ne (by omega) (by omega) (by omega)]; exact ⟨rfl, rfl, rfl⟩)
   ·refine seq_done ?_
    refine nrm_seq ?_
    refine tri_cond_f rfl ?_
    refine tri_skip ?_
    refine nrm_seq ?_
    refine tri_seq ?_
    refine tri_seq ?_
    refine tri_region ?_
    refine seq_pure (pure_assign rfl) rfl rfl ?_
    refine seq_done ?_
    refine nrm_seq ?_
    refine tri_block ?_
    (have hll : ks.length = ks'.length := hle (by omega); refine tri_loopN (fun (i : Nat) => ⟨[(5, .int .i64 i), (3, .pointer (some ⟨b4, 0, none⟩)), (2, .pointer (some ⟨b3, 0, none⟩))], [.blk b3 [.int .i64 k, .slice p ks.length c], .blk b4 [.int .i64 k', .slice p' ks'.length c']], G⟩) (fun i => i ≤ ks.length ∧ ∀ j (h : j < ks.length) (h' : j < ks'.length), j < i → tCons ks[j] ks'[j] = true) (fun i => ks.length - i) 0 ?_ ?_ ?_)
    ·exact sub_mk (by repeat (first | exact SubE.nil | refine SubE.cons rfl ?_)) (by repeat (first | exact SubH.refl | exact SubH.nil | refine SubH.cons (by repeat (first | exact Pk.here | apply Pk.there)) ?_ | apply SubH.drop))
    ·exact ⟨by omega, by omega⟩
    ·(rintro i ⟨hi, hf⟩)
     refine tri_seq ?_
     refine tri_seq ?_
     refine tri_region ?_
     refine seq_pure (pure_move rfl) rfl rfl ?_
     refine seq_pure (pure_fieldAddr0 rfl) rfl rfl ?_
     refine seq_load (load_bs rfl rfl (by repeat (first | exact List.Mem.head _ | apply List.Mem.tail)) (by rfl)) rfl rfl ?_
     refine seq_pure (pure_len rfl rfl) rfl rfl ?_
     refine seq_bool (pure_lss rfl rfl) rfl rfl (fun h97 => ?_) (fun h97 => ?_)
     ·refine seq_done ?_
      refine nrm_seq ?_
      refine tri_cond_t rfl ?_
      refine tri_skip ?_
      refine nrm_seq ?_
      refine tri_seq ?_
      refine tri_block ?_
      refine tri_seq ?_
      (obtain ⟨b, o, p2, c2, rfl, hat, hre, hgb⟩ := hsl.kidTy hkl (i := i) (by omega) (by omega); obtain ⟨b', o', p2', c2', rfl, hat', hre', hgb'⟩ := hsl'.kidTy hkl' (i := i) (by omega) (by omega); refine tri_draw mixed rfl ?_)
      refine any_pure (i := 0) (listed' := [tt,ff,ff,ff,ff,ff,ff,ff,ff,ff,ff,ff]) rfl (by repeat (first | exact np_ret | apply np_seq | apply np_block | apply np_loopN')) (pure_fieldAddr0 rfl) rfl (by kernel_rfl) rfl rfl ?_
      refine any_load (i := 1) (listed' := [tt,tt,ff,ff,ff,ff,ff,ff,ff,ff,ff,ff]) rfl (by repeat (first | exact np_ret | apply np_seq | apply np_block | apply np_loopN')) (load_bs rfl rfl (by repeat (first | exact List.Mem.head _ | apply List.Mem.tail)) (by rfl)) rfl (by kernel_rfl) rfl rfl ?_
      refine any_pure (i := 2) (listed' := [tt,tt,tt,ff,ff,ff,ff,ff,ff,ff,ff,ff]) rfl (by repeat (first | exact np_ret | apply np_seq | apply np_block | apply np_loopN')) (pure_move rfl) rfl (by kernel_rfl) rfl rfl ?_
      refine any_pure (i := 3) (listed' := [tt,tt,tt,tt,ff,ff,ff,ff,ff,ff,ff,ff]) rfl (by repeat (first | exact np_ret | apply np_seq | apply np_block | apply np_loopN')) (pure_indexAddrN rfl rfl rfl (by omega)) rfl (by kernel_rfl) rfl rfl ?_
      refine any_load (i := 4) (listed' := [tt,tt,tt,tt,tt,ff,ff,ff,ff,ff,ff,ff]) rfl (by repeat (first | exact np_ret | apply np_seq | apply np_block | apply np_loopN')) (load_a rfl rfl (hat _) rfl) rfl (by kernel_rfl) rfl rfl ?_
      refine any_pure (i := 5) (listed' := [tt,tt,tt,tt,tt,tt,ff,ff,ff,ff,ff,ff]) rfl (by repeat (first | exact np_ret | apply np_seq | apply np_block | apply np_loopN')) (pure_fieldAddr0 rfl) rfl (by kernel_rfl) rfl rfl ?_
      refine any_load (i := 6) (listed' := [tt,tt,tt,tt,tt,tt,tt,ff,ff,ff,ff,ff]) rfl (by repeat (first | exact np_ret | apply np_seq | apply np_block | apply np_loopN')) (load_bs rfl rfl (by repeat (first | exact List.Mem.head _ | apply List.Mem.tail)) (by rfl)) rfl (by kernel_rfl) rfl rfl ?_
      refine any_pure (i := 7) (listed' := [tt,tt,tt,tt,tt,tt,tt,tt,ff,ff,ff,ff]) rfl (by repeat (first | exact np_ret | apply np_seq | apply np_block | apply np_loopN')) (pure_move rfl) rfl (by kernel_rfl) rfl rfl ?_
      refine any_pure (i := 8) (listed' := [tt,tt,tt,tt,tt,tt,tt,tt,tt,ff,ff,ff]) rfl (by repeat (first | exact np_ret | apply np_seq | apply np_block | apply np_loopN')) (pure_indexAddrN rfl rfl rfl (by omega)) rfl (by kernel_rfl) rfl rfl ?_
      refine any_load (i := 9) (listed' := [tt,tt,tt,tt,tt,tt,tt,tt,tt,tt,ff,ff]) rfl (by repeat (first | exact np_ret | apply np_seq | apply np_block | apply np_loopN')) (load_a rfl rfl (hat' _) rfl) rfl (by kernel_rfl) rfl rfl ?_
      refine any_one (j := 10) (by kernel_rfl) ?_
      refine one_valb (listed' := [tt,tt,tt,tt,tt,tt,tt,tt,tt,tt,tt,ff]) rfl rfl (ih ks[i] (List.getElem_mem (by omega)) ks'[i] G _ _ _ _ (hv2 i (by omega)) (hv2' i (by omega)) hre hre') rfl rfl rfl (fun h118 => ?_) (fun h118 => ?_)
      ·refine any_pure (i := 11) (listed' := [tt,tt,tt,tt,tt,tt,tt,tt,tt,tt,tt,tt]) rfl (by repeat (first | exact np_ret | apply np_seq | apply np_block | apply np_loopN')) (pure_not_t rfl) rfl (by kernel_rfl) rfl rfl ?_
       refine any_done (by kernel_rfl) ?_
       refine nrm_seq ?_
       refine tri_cond_f rfl ?_
       refine tri_skip ?_
       refine nrm_block ?_
       refine nrm_seq ?_
       refine tri_region ?_
       refine seq_pure (pure_move rfl) rfl rfl ?_
       refine seq_pure (pure_add rfl rfl (by omega) (by omega)) rfl rfl ?_
       refine seq_pure (pure_assign rfl) rfl rfl ?_
       refine seq_done ?_
       refine nrm_loopN (i + 1) ?_ ?_ ?_
       ·exact sub_mk (by repeat (first | exact SubE.nil | refine SubE.cons rfl ?_)) (by repeat (first | exact SubH.refl | exact SubH.nil | refine SubH.cons (by repeat (first | exact Pk.here | apply Pk.there)) ?_ | apply SubH.drop))
       ·exact ⟨by omega, fun j hj hj' hji => by (by_cases he : j = i; (subst he; assumption); exact hf j hj hj' (by omega))⟩
       ·omega
      ·refine any_pure (i := 11) (listed' := [tt,tt,tt,tt,tt,tt,tt,tt,tt,tt,tt,tt]) rfl (by repeat (first | exact np_ret | apply np_seq | apply np_block | apply np_loopN')) (pure_not_f rfl) rfl (by kernel_rfl) rfl rfl ?_
       refine any_done (by kernel_rfl) ?_
       refine nrm_seq ?_
       refine tri_cond_t rfl ?_
       refine tri_seq ?_
       refine tri_region ?_
       refine seq_pure (pure_assign rfl) rfl rfl ?_
       refine seq_done ?_
       refine nrm_seq ?_
       refine tri_ret ?_
       refine ret_block ?_
       refine ret_seq ?_
       refine ret_loopN ?_
       refine ret_block ?_
       refine ret_seq ?_
       refine ret_fin1 (res_tmp rfl) ?_
       (rw [tCons_eq (by omega) (by omega) (by omega), tConsL_f (i := i) (by omega) (by omega) (by assumption)]; exact ⟨rfl, rfl, rfl⟩)
     ·refine seq_done ?_
      refine nrm_seq ?_
      refine tri_cond_f rfl ?_
      refine tri_exit ?_
      refine ext_seq ?_
      refine ext_loopN ?_
      refine ext_block_eq ?_
      refine nrm_seq ?_
      refine tri_seq ?_
      refine tri_region ?_
      refine seq_pure (pure_assign rfl) rfl rfl ?_
      refine seq_done ?_
      refine nrm_seq ?_
      refine tri_ret ?_
      refine ret_fin1 (res_tmp rfl) ?_
      (rw [tCons_eq (by omega) (by omega) (by omega), (tConsL_iff ks _).2 ⟨hll, fun j hj hj' => hf j hj hj' (by omega)⟩]; exact ⟨rfl, rfl, rfl⟩)
end Gw
end Go.Proofs.Yteneckdjdfnjoaa
