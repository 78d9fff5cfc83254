/-
  The scan of a term, CastValid, TermValid. The reference model's tests of types and nodes: they compute the same plain functions. The reference model's scans of types. The reference model's consistency of types. The reference model's tests of nodes. The reference model's scan of terms with casts. The reference model's count of nodes, its CastValid. append of a slice in memory that no longer changes, empty or not. The reference model's paths. The reference model's AllPaths. Fresh data taken back into the call's own hands, and given up again; sizes. How high and how wide types are. Types of terms with casts, in plain words over trees: what a node wants of its operands, and what it is. The laws' copies of types and terms. Copies of types and terms: the reference model's, the program's, the laws' of paths. Terms each node of which is changed, operands first; own copies. The reference model's TermValid. slices.Clone of numbers, paths, AllPaths. AllPaths. The law that AllPaths gives what the reference model gives: its walk. Nodes at paths, casts by their labels. The node of a term at a path. The reference model's source of numbers: each draw stays in its bounds. Where ways meet again. The reference model's drawn types: what they are made of, and how big they are. The reference model's drawn types, changed at random. The reference model's drawn types, changed at random. Terms without casts and types, in plain words. Strings: cut, put together, compared. The reference model's drawn terms: what they are made of, and how big they are. The reference model's drawn terms. The reference model's source is opened; drawn closed terms and valid terms. The reference model's functions on types: they end, and what they give has operands as it must. The laws' reading of marks in types and terms. Contexts of bindings: looked up, made longer.
-/
import Derived.Test.YtmnfamimopcldaaGreatDoorKa1
import Derived.Test.YtmnfamimopcldaaGreatDoorKa0
set_option linter.unusedVariables false
set_option linter.unusedSimpArgs false
set_option maxHeartbeats 0
set_option maxRecDepth 100000
set_option synthInstance.maxSize 4000
set_option synthInstance.maxHeartbeats 0
namespace Go.Proofs.YtmnfamimopcldaaGreatDoor
open Go Go.RowKit
namespace Gw
theorem scan_fn (M D N : Int) (hM : 0 ≤ M ∧ M ≤ 1000) (hD : 0 ≤ D ∧ D ≤ 1000) (bc : Nat) : ∀ (t : Tm) (deep c : Int) (G : IM) (cells : List Value), 0 ≤ deep ∧ deep ≤ D + 1 → 0 ≤ c ∧ c ≤ M → RTm G t cells →
  Fn Tryz.prog 73 [.agg ⟨cells⟩, .int .i64 deep, .int .i64 M, .int .i64 D, .int .i64 N, .pointer (some ⟨bc, 0, none⟩)] [.blk bc [.int .i64 c]] G
   (ValO (.bool (mScan M D N t deep c).1) [.blk bc [.int .i64 (mScan M D N t deep c).2]] G) := by
 refine Tm.ind fun k nm num ty fr lb ks ih deep c G cells hd hc hr => ?_
 have hno := nodeOk_fn k nm num ty fr lb ks G cells hr
 obtain ⟨tk, tks⟩ := ty
 obtain ⟨fk, fks⟩ := fr
 obtain ⟨pt, ct, pf, cf, p, cp, es, rfl, hk, hnum, hlb, hty, hfr, hsl, hkl⟩ := hr.open9
 have hn := hsl.le
 obtain ⟨R, hR⟩ : ∃ R, tmNode k nm num (.mk tk tks) (.mk fk fks) lb ks.length = R := ⟨_, rfl⟩
 rw [hR] at hno
 refine fn_enter Tryz.func73 rfl Tryz.ntmps73 Tryz.results73 rfl ?_
 intro w0
 refine tS (tR ?_)
 refine sE (step_box_a rfl rfl) rfl (fun b3 => ?_)
 refine sQ (pA rfl) rfl (sD (nS (tS (tR (sQ (pM rfl) rfl (sQ (pure_nilCheck rfl) rfl ?_))))))
 refine sL (lBs rfl rfl) rfl rfl ?_
 refine sP (pure_add rfl rfl (by omega) (by omega)) rfl rfl ?_
 refine sQ (pure_nilCheck rfl) rfl (sS' ?_)
 refine sD (nS (tS (tS (tR (sQ (pM rfl) rfl (sQ (pure_nilCheck rfl) rfl ?_))))))
 refine sL (lBs rfl rfl) rfl rfl ?_
 refine sQ (pM rfl) rfl (sB (pure_gtr rfl rfl) rfl rfl (fun h24 => ?_) (fun h24 => ?_))
 refine sQ (pM rfl) rfl (sK rfl rfl (sK rfl rfl (sK rfl rfl (sQ (pPt rfl rfl) rfl (sQ (pM rfl) rfl (sK rfl rfl ?_))))))
 refine sK rfl rfl (sK rfl rfl (sK rfl rfl (sQ (pPt rfl rfl) rfl (sQ (pM rfl) rfl (sK rfl rfl (sK rfl rfl ?_))))))
 refine sK rfl rfl (sQ (pPt rfl rfl) rfl (sD (nS (cT rfl ?_))))
 refine tS (tR (sQ (pA rfl) rfl (sD (nS (tT (rS ?_))))))
 refine ret_own1 (outs := [.blk bc [.int .i64 _]]) (rT rfl) (SubH.cons (by repeat (first | exact Pk.here | apply Pk.there)) SubH.nil) ?_
 (rw [mScan_no (by rw [hR]; first | omega | exact Or.inr (Or.inr (Or.inr (by assumption)))) ]; exact ⟨rfl, rfl, rfl⟩)
 refine sQ (pM rfl) rfl (sQ (pM rfl) rfl (sQ (pM rfl) rfl (sB (pure_gtr rfl rfl) rfl rfl (fun h56 => ?_) (fun h56 => ?_))))
 refine sQ (pPf rfl rfl) rfl (sQ (pM rfl) rfl (sK rfl rfl (sK rfl rfl (sK rfl rfl (sK rfl rfl (sQ (pPt rfl rfl) rfl ?_))))))
 refine sQ (pM rfl) rfl (sK rfl rfl (sK rfl rfl (sK rfl rfl (sQ (pPt rfl rfl) rfl (sD (nS ?_))))))
 refine cT rfl ?_
 refine tS (tR (sQ (pA rfl) rfl (sD (nS (tT (rS ?_))))))
 refine ret_own1 (outs := [.blk bc [.int .i64 _]]) (rT rfl) (SubH.cons (by repeat (first | exact Pk.here | apply Pk.there)) SubH.nil) ?_
 (rw [mScan_no (by rw [hR]; first | omega | exact Or.inr (Or.inr (Or.inr (by assumption)))) ]; exact ⟨rfl, rfl, rfl⟩)
 refine sQ (pPf rfl rfl) rfl (sQ (pM rfl) rfl (sQ (pF0 rfl) rfl (sL (lBs rfl rfl) rfl rfl ?_)))
 refine sQ (pM rfl) rfl (sB (pE rfl rfl) rfl rfl (fun h86 => ?_) (fun h86 => ?_))
 refine sQ (pPf rfl rfl) rfl (sQ (pM rfl) rfl (sK rfl rfl (sK rfl rfl (sK rfl rfl (sQ (pPt rfl rfl) rfl (sD ?_))))))
 refine nS (cT rfl ?_)
 refine tS (tR (sQ (pA rfl) rfl (sD (nS (tT (rS ?_))))))
 refine ret_own1 (outs := [.blk bc [.int .i64 _]]) (rT rfl) (SubH.cons (by repeat (first | exact Pk.here | apply Pk.there)) SubH.nil) ?_
 (rw [mScan_no (by rw [hR]; first | omega | exact Or.inr (Or.inr (Or.inr (by assumption)))) ]; exact ⟨rfl, rfl, rfl⟩)
 refine sQ (pPf rfl rfl) rfl (sQ (pM rfl) rfl (sL (lBa rfl rfl) rfl rfl ?_))
 refine seq_valb rfl (hno) rfl rfl (fun h108 => ?_) (fun h108 => ?_)
 refine sQ (pNt rfl) rfl (sQ (pPf rfl rfl) rfl (sD (nS (cF rfl ?_))))
 refine tK (nS (tS (tS (tR (sQ (pF0 rfl) rfl (sL (lBs rfl rfl) rfl rfl ?_))))))
 refine sQ (pLn rfl rfl) rfl (sQ (pM rfl) rfl (sD (nS (tri_block ?_))))
 (have hmk := mScan_go (M := M) (D := D) (N := N) (deep := deep) (c := c) (by omega) (hR.trans (by assumption)); refine tri_loopN (fun (x : Nat × Int) => ⟨[(44, .int .i64 x.1), (43, .int .i64 ks.length), (42, .slice p ks.length cp), (5, .pointer (some ⟨bc, 0, none⟩)), (4, .int .i64 N), (3, .int .i64 D), (2, .int .i64 M), (1, .int .i64 deep)], [.blk bc [.int .i64 x.2]], G⟩) (fun x => x.1 ≤ ks.length ∧ 0 ≤ x.2 ∧ x.2 ≤ M ∧ mScanL M D N ks (deep + 1) (c + 1) = mScanL M D N (ks.drop x.1) (deep + 1) x.2) (fun x => ks.length - x.1) (0, c + 1) ?_ ?_ ?_)
 (simp only [flat_snoc]; exact sMk)
 exact ⟨by simp, by simp; omega, by simp; omega, by simp⟩
 (rintro ⟨i, ci⟩ ⟨hi, hc0, hc1, hst⟩; simp only [] at hi hc0 hc1 hst ⊢)
 refine tS (tR (sB (pure_lss rfl rfl) rfl rfl (fun h132 => ?_) (fun h132 => ?_)))
 refine sD (nS (tS (cT rfl ?_)))
 refine tK (nS (tS (tri_block (tS (tR ?_)))))
 (obtain ⟨b, o, e, rfl, hl, hat, hre, hgb⟩ := hsl.kidTm hkl (i := i) (by omega) (by omega); have hone := hre.one; have hle := mScan_le M D N ks[i] (deep + 1) ci hc0 hc1; refine sP (pIN rfl rfl rfl (by omega)) rfl rfl ?_)
 refine sL (load_a rfl rfl (hat _) hl) rfl rfl ?_
 refine sE (step_alloc rfl) rfl (fun b145 => ?_)
 refine seq_store rfl rfl rfl (by assumption) (by assumption) rfl (by repeat first | exact Sw.here | apply Sw.there) (by exact upd_all (by symm; assumption)) ?_
 refine sD (nS (tS (tR (sL (load_a rfl rfl (at_blk_all (by repeat first | exact mH | apply mT)) (by assumption)) rfl rfl ?_))))
 refine sQ (pM rfl) rfl (sP (pure_add rfl rfl (by omega) (by omega)) rfl rfl ?_)
 refine sQ (pM rfl) rfl (sQ (pM rfl) rfl (sQ (pM rfl) rfl (sQ (pM rfl) rfl (seq_valbx rfl (ih ks[i] (List.getElem_mem _) (deep + 1) ci G e (by omega) (by omega) hre) (Pk.perm (by repeat (first | exact Pk.here | apply Pk.there))) rfl rfl (fun h158 => ?_) (fun h158 => ?_)))))
 refine sQ (pNt rfl) rfl (sD (nS (cF rfl ?_)))
 refine tK (nrm_block (nS (tR (sP (pure_add rfl rfl (by omega) (by omega)) rfl rfl ?_))))
 refine sQ (pM rfl) rfl (sD (nrm_loopN (i + 1, (mScan M D N ks[i] (deep + 1) ci).2) ?_ ?_ ?_))
 (simp only [flat_snoc]; exact sMk)
 exact ⟨by omega, by omega, hle.2.2 (by assumption), by rw [hst, mScanL_t (by omega) (by assumption)]⟩
 (show ks.length - (i + 1) < ks.length - i; omega)
 refine sQ (pNf rfl) rfl (sD (nS (cT rfl ?_)))
 refine tS (tR (sQ (pA rfl) rfl (sD (nS (tT (rB ?_))))))
 refine rS (ret_loopN (rB (rS (ret_own1 (outs := [.blk bc [.int .i64 _]]) (rT rfl) (SubH.cons (by repeat (first | exact Pk.here | apply Pk.there)) SubH.nil) ?_))))
 (rw [hmk, hst, mScanL_f (by omega) (by assumption)]; exact ⟨rfl, rfl, rfl⟩)
 refine sD (nS (tS (cF rfl ?_)))
 refine tri_exit ?_
 refine ext_seq ?_
 refine ext_loopN ?_
 refine ext_block_eq ?_
 refine nS (tS (tR (sQ (pA rfl) rfl (sD (nS (tT ?_))))))
 refine ret_own1 (outs := [.blk bc [.int .i64 _]]) (rT rfl) (SubH.cons (by repeat (first | exact Pk.here | apply Pk.there)) SubH.nil) ?_
 (rw [hmk, hst, mScanL_end (by omega)]; exact ⟨rfl, rfl, rfl⟩)
 refine sQ (pNf rfl) rfl (sQ (pPf rfl rfl) rfl (sD (nS (cT rfl ?_))))
 refine tS (tR (sQ (pA rfl) rfl (sD (nS (tT (rS ?_))))))
 refine ret_own1 (outs := [.blk bc [.int .i64 _]]) (rT rfl) (SubH.cons (by repeat (first | exact Pk.here | apply Pk.there)) SubH.nil) ?_
 (rw [mScan_no (by rw [hR]; first | omega | exact Or.inr (Or.inr (Or.inr (by assumption)))) ]; exact ⟨rfl, rfl, rfl⟩)
theorem castValid_fn (t : Tm) (G : IM) (cells : List Value) (hr : RTm G t cells) : Fn Tryz.prog 94 [.agg ⟨cells⟩] [] G (Val (.bool (castValid t)) G) := by
 have hl := hr.len
 refine fn_enter Tryz.func94 rfl Tryz.ntmps94 Tryz.results94 rfl ?_
 intro w0
 refine tS (tR ?_)
 refine sE (step_box_a rfl rfl) rfl (fun b3 => ?_)
 refine sQ (pA rfl) rfl (sD (nS (tS (tR ?_))))
 refine sE (step_alloc rfl) rfl (fun b9 => ?_)
 refine sS' ?_
 refine sD (nS (tS (tR (sL (load_a rfl rfl (at_blk_all (by repeat first | exact mH | apply mT)) (by assumption)) rfl rfl ?_))))
 refine seq_valx rfl (scan_fn 200 40 13 (by omega) (by omega) _ t 1 0 G cells (by omega) (by omega) hr) perm_all rfl rfl ?_
 refine sQ (pA rfl) rfl (sD (nS (tT (rF1 (rT rfl) ?_))))
 exact ⟨rfl, rfl, rfl⟩
theorem termValid_fn (t : Tm) (G : IM) (cells : List Value) (hr : RTm G t cells) : Fn Tryz.prog 44 [.agg ⟨cells⟩] [] G (Val (.bool (termValid t)) G) := by
 have hl := hr.len
 refine fn_enter Tryz.func44 rfl Tryz.ntmps44 Tryz.results44 rfl ?_
 intro w0
 refine tS (tR ?_)
 refine sE (step_box_a rfl rfl) rfl (fun b3 => ?_)
 refine sQ (pA rfl) rfl (sD (nS (tS (tR ?_))))
 refine sE (step_alloc rfl) rfl (fun b9 => ?_)
 refine sS' ?_
 refine sD (nS (tS (tR (sL (load_a rfl rfl (at_blk_all (by repeat first | exact mH | apply mT)) (by assumption)) rfl rfl ?_))))
 refine seq_valx rfl (scan_fn 30 12 14 (by omega) (by omega) _ t 1 0 G cells (by omega) (by omega) hr) perm_all rfl rfl ?_
 refine sQ (pA rfl) rfl (sD (nS (tT (rF1 (rT rfl) ?_))))
 exact ⟨rfl, rfl, rfl⟩
theorem l1Kids_fn (k : Int) (G : IM) : Fn Tryz.prog 148 [.int .i64 k] [] G (Val (.int .i64 (tyOps k)) G) := by
 refine fn_enter Tryz.func148 rfl Tryz.ntmps148 Tryz.results148 rfl ?_
 intro w0
 refine tS (tR (sQ (pA rfl) rfl (sD (nS (tS (tS ?_))))))
 refine tR (sQ (pM rfl) rfl (sD (nS (tri_block (tS (tS ?_))))))
 refine tR (sB (pE rfl rfl) rfl rfl (fun h16 => ?_) (fun h16 => ?_))
 refine sQ (pA rfl) rfl (sD (nS (cT rfl ?_)))
 refine tK (nS (cT rfl ?_))
 refine tS (tR (sQ (pA rfl) rfl (sD (nS (tT (rB ?_))))))
 refine rS (rF1 (rT rfl) ?_)
 exact ⟨rfl, by (first | rw [(tyOps_spec k).1 (by omega)] | rw [(tyOps_spec k).2.1 (by omega)] | rw [(tyOps_spec k).2.2 (by omega) (by omega) (by omega) (by omega) (by omega)]), rfl⟩
 refine sQ (pA rfl) rfl (sD (nS (cF rfl ?_)))
 refine tS (tR (sB (pE rfl rfl) rfl rfl (fun h40 => ?_) (fun h40 => ?_)))
 refine sQ (pA rfl) rfl (sD (nS (cT rfl ?_)))
 refine tK (nS (cT rfl ?_))
 refine tS (tR (sQ (pA rfl) rfl (sD (nS (tT (rB ?_))))))
 refine rS (rF1 (rT rfl) ?_)
 exact ⟨rfl, by (first | rw [(tyOps_spec k).1 (by omega)] | rw [(tyOps_spec k).2.1 (by omega)] | rw [(tyOps_spec k).2.2 (by omega) (by omega) (by omega) (by omega) (by omega)]), rfl⟩
 refine sQ (pA rfl) rfl (sD (nS (cF rfl ?_)))
 refine tR (sB (pE rfl rfl) rfl rfl (fun h63 => ?_) (fun h63 => ?_))
 refine sQ (pA rfl) rfl (sD (nS (cT rfl ?_)))
 refine tS (tR (sQ (pA rfl) rfl (sD (nS (tT (rB ?_))))))
 refine rS (rF1 (rT rfl) ?_)
 exact ⟨rfl, by (first | rw [(tyOps_spec k).1 (by omega)] | rw [(tyOps_spec k).2.1 (by omega)] | rw [(tyOps_spec k).2.2 (by omega) (by omega) (by omega) (by omega) (by omega)]), rfl⟩
 refine sQ (pA rfl) rfl (sD (nS (cF rfl ?_)))
 refine tS (tS (tR (sB (pE rfl rfl) rfl rfl (fun h85 => ?_) (fun h85 => ?_))))
 refine sQ (pA rfl) rfl (sD (nS (cT rfl ?_)))
 refine tK (nS (cT rfl ?_))
 refine tS (tR (sQ (pA rfl) rfl (sD (nS (tT (rB ?_))))))
 refine rS (rF1 (rT rfl) ?_)
 exact ⟨rfl, by (first | rw [(tyOps_spec k).1 (by omega)] | rw [(tyOps_spec k).2.1 (by omega)] | rw [(tyOps_spec k).2.2 (by omega) (by omega) (by omega) (by omega) (by omega)]), rfl⟩
 refine sQ (pA rfl) rfl (sD (nS (cF rfl ?_)))
 refine tR (sB (pE rfl rfl) rfl rfl (fun h108 => ?_) (fun h108 => ?_))
 refine sQ (pA rfl) rfl (sD (nS (cT rfl ?_)))
 refine tS (tR (sQ (pA rfl) rfl (sD (nS (tT (rB ?_))))))
 refine rS (rF1 (rT rfl) ?_)
 exact ⟨rfl, by (first | rw [(tyOps_spec k).1 (by omega)] | rw [(tyOps_spec k).2.1 (by omega)] | rw [(tyOps_spec k).2.2 (by omega) (by omega) (by omega) (by omega) (by omega)]), rfl⟩
 refine sQ (pA rfl) rfl (sD (nS (cF rfl ?_)))
 refine tK (nrm_block (nS (tS (tR (sQ (pA rfl) rfl (sD ?_))))))
 refine nS (tT (rF1 (rT rfl) ?_))
 exact ⟨rfl, by (first | rw [(tyOps_spec k).1 (by omega)] | rw [(tyOps_spec k).2.1 (by omega)] | rw [(tyOps_spec k).2.2 (by omega) (by omega) (by omega) (by omega) (by omega)]), rfl⟩
theorem l2Kids_fn (k : Int) (G : IM) : Fn Tryz.prog 103 [.int .i64 k] [] G (Val (.int .i64 (tmOps k)) G) := by
 refine fn_enter Tryz.func103 rfl Tryz.ntmps103 Tryz.results103 rfl ?_
 intro w0
 refine tS (tR (sQ (pA rfl) rfl (sD (nS (tS (tS ?_))))))
 refine tR (sQ (pM rfl) rfl (sD (nS (tri_block (tS (tS ?_))))))
 refine tR (sB (pE rfl rfl) rfl rfl (fun h16 => ?_) (fun h16 => ?_))
 refine sQ (pA rfl) rfl (sD (nS (cT rfl ?_)))
 refine tK (nS (cT rfl ?_))
 refine tS (tR (sQ (pA rfl) rfl (sD (nS (tT (rB ?_))))))
 refine rS (rF1 (rT rfl) ?_)
 exact ⟨rfl, by (unfold tmOps; first | rw [if_pos (by omega)] | rw [if_neg (by omega), if_pos (by omega)] | rw [if_neg (by omega), if_neg (by omega), if_pos (by omega)] | rw [if_neg (by omega), if_neg (by omega), if_neg (by omega), if_pos (by omega)] | rw [if_neg (by omega), if_neg (by omega), if_neg (by omega), if_neg (by omega)]), rfl⟩
 refine sQ (pA rfl) rfl (sD (nS (cF rfl ?_)))
 refine tS (tR (sB (pE rfl rfl) rfl rfl (fun h40 => ?_) (fun h40 => ?_)))
 refine sQ (pA rfl) rfl (sD (nS (cT rfl ?_)))
 refine tK (nS (cT rfl ?_))
 refine tS (tR (sQ (pA rfl) rfl (sD (nS (tT (rB ?_))))))
 refine rS (rF1 (rT rfl) ?_)
 exact ⟨rfl, by (unfold tmOps; first | rw [if_pos (by omega)] | rw [if_neg (by omega), if_pos (by omega)] | rw [if_neg (by omega), if_neg (by omega), if_pos (by omega)] | rw [if_neg (by omega), if_neg (by omega), if_neg (by omega), if_pos (by omega)] | rw [if_neg (by omega), if_neg (by omega), if_neg (by omega), if_neg (by omega)]), rfl⟩
 refine sQ (pA rfl) rfl (sD (nS (cF rfl ?_)))
 refine tS (tR (sB (pE rfl rfl) rfl rfl (fun h64 => ?_) (fun h64 => ?_)))
 refine sQ (pA rfl) rfl (sD (nS (cT rfl ?_)))
 refine tK (nS (cT rfl ?_))
 refine tS (tR (sQ (pA rfl) rfl (sD (nS (tT (rB ?_))))))
 refine rS (rF1 (rT rfl) ?_)
 exact ⟨rfl, by (unfold tmOps; first | rw [if_pos (by omega)] | rw [if_neg (by omega), if_pos (by omega)] | rw [if_neg (by omega), if_neg (by omega), if_pos (by omega)] | rw [if_neg (by omega), if_neg (by omega), if_neg (by omega), if_pos (by omega)] | rw [if_neg (by omega), if_neg (by omega), if_neg (by omega), if_neg (by omega)]), rfl⟩
 refine sQ (pA rfl) rfl (sD (nS (cF rfl ?_)))
 refine tR (sB (pE rfl rfl) rfl rfl (fun h87 => ?_) (fun h87 => ?_))
 refine sQ (pA rfl) rfl (sD (nS (cT rfl ?_)))
 refine tS (tR (sQ (pA rfl) rfl (sD (nS (tT (rB ?_))))))
 refine rS (rF1 (rT rfl) ?_)
 exact ⟨rfl, by (unfold tmOps; first | rw [if_pos (by omega)] | rw [if_neg (by omega), if_pos (by omega)] | rw [if_neg (by omega), if_neg (by omega), if_pos (by omega)] | rw [if_neg (by omega), if_neg (by omega), if_neg (by omega), if_pos (by omega)] | rw [if_neg (by omega), if_neg (by omega), if_neg (by omega), if_neg (by omega)]), rfl⟩
 refine sQ (pA rfl) rfl (sD (nS (cF rfl ?_)))
 refine tS (tS (tR (sB (pE rfl rfl) rfl rfl (fun h109 => ?_) (fun h109 => ?_))))
 refine sQ (pA rfl) rfl (sD (nS (cT rfl ?_)))
 refine tK (nS (cT rfl ?_))
 refine tS (tR (sQ (pA rfl) rfl (sD (nS (tT (rB ?_))))))
 refine rS (rF1 (rT rfl) ?_)
 exact ⟨rfl, by (unfold tmOps; first | rw [if_pos (by omega)] | rw [if_neg (by omega), if_pos (by omega)] | rw [if_neg (by omega), if_neg (by omega), if_pos (by omega)] | rw [if_neg (by omega), if_neg (by omega), if_neg (by omega), if_pos (by omega)] | rw [if_neg (by omega), if_neg (by omega), if_neg (by omega), if_neg (by omega)]), rfl⟩
 refine sQ (pA rfl) rfl (sD (nS (cF rfl ?_)))
 refine tS (tR (sB (pE rfl rfl) rfl rfl (fun h133 => ?_) (fun h133 => ?_)))
 refine sQ (pA rfl) rfl (sD (nS (cT rfl ?_)))
 refine tK (nS (cT rfl ?_))
 refine tS (tR (sQ (pA rfl) rfl (sD (nS (tT (rB ?_))))))
 refine rS (rF1 (rT rfl) ?_)
 exact ⟨rfl, by (unfold tmOps; first | rw [if_pos (by omega)] | rw [if_neg (by omega), if_pos (by omega)] | rw [if_neg (by omega), if_neg (by omega), if_pos (by omega)] | rw [if_neg (by omega), if_neg (by omega), if_neg (by omega), if_pos (by omega)] | rw [if_neg (by omega), if_neg (by omega), if_neg (by omega), if_neg (by omega)]), rfl⟩
 refine sQ (pA rfl) rfl (sD (nS (cF rfl ?_)))
 refine tS (tR (sB (pE rfl rfl) rfl rfl (fun h157 => ?_) (fun h157 => ?_)))
 refine sQ (pA rfl) rfl (sD (nS (cT rfl ?_)))
 refine tK (nS (cT rfl ?_))
 refine tS (tR (sQ (pA rfl) rfl (sD (nS (tT (rB ?_))))))
 refine rS (rF1 (rT rfl) ?_)
 exact ⟨rfl, by (unfold tmOps; first | rw [if_pos (by omega)] | rw [if_neg (by omega), if_pos (by omega)] | rw [if_neg (by omega), if_neg (by omega), if_pos (by omega)] | rw [if_neg (by omega), if_neg (by omega), if_neg (by omega), if_pos (by omega)] | rw [if_neg (by omega), if_neg (by omega), if_neg (by omega), if_neg (by omega)]), rfl⟩
 refine sQ (pA rfl) rfl (sD (nS (cF rfl ?_)))
 refine tS (tR (sB (pE rfl rfl) rfl rfl (fun h181 => ?_) (fun h181 => ?_)))
 refine sQ (pA rfl) rfl (sD (nS (cT rfl ?_)))
 refine tK (nS (cT rfl ?_))
 refine tS (tR (sQ (pA rfl) rfl (sD (nS (tT (rB ?_))))))
 refine rS (rF1 (rT rfl) ?_)
 exact ⟨rfl, by (unfold tmOps; first | rw [if_pos (by omega)] | rw [if_neg (by omega), if_pos (by omega)] | rw [if_neg (by omega), if_neg (by omega), if_pos (by omega)] | rw [if_neg (by omega), if_neg (by omega), if_neg (by omega), if_pos (by omega)] | rw [if_neg (by omega), if_neg (by omega), if_neg (by omega), if_neg (by omega)]), rfl⟩
 refine sQ (pA rfl) rfl (sD (nS (cF rfl ?_)))
 refine tR (sB (pE rfl rfl) rfl rfl (fun h204 => ?_) (fun h204 => ?_))
 refine sQ (pA rfl) rfl (sD (nS (cT rfl ?_)))
 refine tS (tR (sQ (pA rfl) rfl (sD (nS (tT (rB ?_))))))
 refine rS (rF1 (rT rfl) ?_)
 exact ⟨rfl, by (unfold tmOps; first | rw [if_pos (by omega)] | rw [if_neg (by omega), if_pos (by omega)] | rw [if_neg (by omega), if_neg (by omega), if_pos (by omega)] | rw [if_neg (by omega), if_neg (by omega), if_neg (by omega), if_pos (by omega)] | rw [if_neg (by omega), if_neg (by omega), if_neg (by omega), if_neg (by omega)]), rfl⟩
 refine sQ (pA rfl) rfl (sD (nS (cF rfl ?_)))
 refine tS (tS (tR (sB (pE rfl rfl) rfl rfl (fun h226 => ?_) (fun h226 => ?_))))
 refine sQ (pA rfl) rfl (sD (nS (cT rfl ?_)))
 refine tK (nS (cT rfl ?_))
 refine tS (tR (sQ (pA rfl) rfl (sD (nS (tT (rB ?_))))))
 refine rS (rF1 (rT rfl) ?_)
 exact ⟨rfl, by (unfold tmOps; first | rw [if_pos (by omega)] | rw [if_neg (by omega), if_pos (by omega)] | rw [if_neg (by omega), if_neg (by omega), if_pos (by omega)] | rw [if_neg (by omega), if_neg (by omega), if_neg (by omega), if_pos (by omega)] | rw [if_neg (by omega), if_neg (by omega), if_neg (by omega), if_neg (by omega)]), rfl⟩
 refine sQ (pA rfl) rfl (sD (nS (cF rfl ?_)))
 refine tS (tR (sB (pE rfl rfl) rfl rfl (fun h250 => ?_) (fun h250 => ?_)))
 refine sQ (pA rfl) rfl (sD (nS (cT rfl ?_)))
 refine tK (nS (cT rfl ?_))
 refine tS (tR (sQ (pA rfl) rfl (sD (nS (tT (rB ?_))))))
 refine rS (rF1 (rT rfl) ?_)
 exact ⟨rfl, by (unfold tmOps; first | rw [if_pos (by omega)] | rw [if_neg (by omega), if_pos (by omega)] | rw [if_neg (by omega), if_neg (by omega), if_pos (by omega)] | rw [if_neg (by omega), if_neg (by omega), if_neg (by omega), if_pos (by omega)] | rw [if_neg (by omega), if_neg (by omega), if_neg (by omega), if_neg (by omega)]), rfl⟩
 refine sQ (pA rfl) rfl (sD (nS (cF rfl ?_)))
 refine tS (tR (sB (pE rfl rfl) rfl rfl (fun h274 => ?_) (fun h274 => ?_)))
 refine sQ (pA rfl) rfl (sD (nS (cT rfl ?_)))
 refine tK (nS (cT rfl ?_))
 refine tS (tR (sQ (pA rfl) rfl (sD (nS (tT (rB ?_))))))
 refine rS (rF1 (rT rfl) ?_)
 exact ⟨rfl, by (unfold tmOps; first | rw [if_pos (by omega)] | rw [if_neg (by omega), if_pos (by omega)] | rw [if_neg (by omega), if_neg (by omega), if_pos (by omega)] | rw [if_neg (by omega), if_neg (by omega), if_neg (by omega), if_pos (by omega)] | rw [if_neg (by omega), if_neg (by omega), if_neg (by omega), if_neg (by omega)]), rfl⟩
 refine sQ (pA rfl) rfl (sD (nS (cF rfl ?_)))
 refine tR (sB (pE rfl rfl) rfl rfl (fun h297 => ?_) (fun h297 => ?_))
 refine sQ (pA rfl) rfl (sD (nS (cT rfl ?_)))
 refine tS (tR (sQ (pA rfl) rfl (sD (nS (tT (rB ?_))))))
 refine rS (rF1 (rT rfl) ?_)
 exact ⟨rfl, by (unfold tmOps; first | rw [if_pos (by omega)] | rw [if_neg (by omega), if_pos (by omega)] | rw [if_neg (by omega), if_neg (by omega), if_pos (by omega)] | rw [if_neg (by omega), if_neg (by omega), if_neg (by omega), if_pos (by omega)] | rw [if_neg (by omega), if_neg (by omega), if_neg (by omega), if_neg (by omega)]), rfl⟩
 refine sQ (pA rfl) rfl (sD (nS (cF rfl ?_)))
 refine tS (tR (sB (pE rfl rfl) rfl rfl (fun h318 => ?_) (fun h318 => ?_)))
 refine sQ (pA rfl) rfl (sD (nS (cT rfl ?_)))
 refine tS (tR (sQ (pA rfl) rfl (sD (nS (tT (rB ?_))))))
 refine rS (rF1 (rT rfl) ?_)
 exact ⟨rfl, by (unfold tmOps; first | rw [if_pos (by omega)] | rw [if_neg (by omega), if_pos (by omega)] | rw [if_neg (by omega), if_neg (by omega), if_pos (by omega)] | rw [if_neg (by omega), if_neg (by omega), if_neg (by omega), if_pos (by omega)] | rw [if_neg (by omega), if_neg (by omega), if_neg (by omega), if_neg (by omega)]), rfl⟩
 refine sQ (pA rfl) rfl (sD (nS (cF rfl ?_)))
 refine tK (nrm_block (nS (tS (tR (sQ (pA rfl) rfl (sD ?_))))))
 refine nS (tT (rF1 (rT rfl) ?_))
 exact ⟨rfl, by (unfold tmOps; first | rw [if_pos (by omega)] | rw [if_neg (by omega), if_pos (by omega)] | rw [if_neg (by omega), if_neg (by omega), if_pos (by omega)] | rw [if_neg (by omega), if_neg (by omega), if_neg (by omega), if_pos (by omega)] | rw [if_neg (by omega), if_neg (by omega), if_neg (by omega), if_neg (by omega)]), rfl⟩
theorem l2Name_fn (s : ByteArray) (G : IM) : Fn Tryz.prog 96 [.string s] [] G (Val (.bool (nameOk s)) G) := by
 refine fn_enter Tryz.func96 rfl Tryz.ntmps96 Tryz.results96 rfl ?_
 intro w0
 refine tS (tR (sQ (pA rfl) rfl (sD (nS (tS (tR ?_))))))
 refine sQ (pM rfl) rfl (sQ (pure_len_str rfl rfl) rfl (sB (pE rfl rfl) rfl rfl (fun h10 => ?_) (fun h10 => ?_)))
 refine sQ (pM rfl) rfl (sQ (pM rfl) rfl (sP (pure_sindex rfl rfl rfl (by omega) (ba_get (by omega))) rfl rfl ?_))
 refine sB (pure_geq rfl rfl) rfl rfl (fun h14 => ?_) (fun h14 => ?_)
 refine sQ (pPt rfl rfl) rfl (sQ (pM rfl) rfl (sQ (pM rfl) rfl (sP (pure_sindex rfl rfl rfl (by omega) (ba_get (by omega))) rfl rfl ?_)))
 refine sB (pure_leq rfl rfl) rfl rfl (fun h19 => ?_) (fun h19 => ?_)
 refine sQ (pPt rfl rfl) rfl (sQ (pA rfl) rfl (sD (nS (tT (rF1 (rT rfl) ?_)))))
 exact ⟨rfl, by simp only [nameOk]; (try simp only [Int.toNat_zero] at *); (first | rw [decide_eq_true (by omega)] | rw [decide_eq_false (by omega)]), rfl⟩
 refine sQ (pPt rfl rfl) rfl (sQ (pA rfl) rfl (sD (nS (tT (rF1 (rT rfl) ?_)))))
 exact ⟨rfl, by simp only [nameOk]; (try simp only [Int.toNat_zero] at *); (first | rw [decide_eq_true (by omega)] | rw [decide_eq_false (by omega)]), rfl⟩
 refine sQ (pPt rfl rfl) rfl (sQ (pM rfl) rfl (sK rfl rfl (sK rfl rfl (sK rfl rfl (sQ (pPf rfl rfl) rfl (sQ (pA rfl) rfl ?_))))))
 refine sD (nS (tT (rF1 (rT rfl) ?_)))
 exact ⟨rfl, by simp only [nameOk]; (try simp only [Int.toNat_zero] at *); (first | rw [decide_eq_true (by omega)] | rw [decide_eq_false (by omega)]), rfl⟩
 refine sQ (pM rfl) rfl (sK rfl rfl (sK rfl rfl (sK rfl rfl (sQ (pPf rfl rfl) rfl (sQ (pM rfl) rfl (sK rfl rfl ?_))))))
 refine sK rfl rfl (sK rfl rfl (sQ (pPf rfl rfl) rfl (sQ (pA rfl) rfl (sD (nS (tT ?_))))))
 refine rF1 (rT rfl) ?_
 exact ⟨rfl, by simp only [nameOk]; (try simp only [Int.toNat_zero] at *); (first | rw [decide_eq_true (by omega)] | rw [decide_eq_false (by omega)]), rfl⟩
theorem l2None_fn (t : Ty) (G : IM) (cells : List Value) (hr : RTy G t cells) : Fn Tryz.prog 131 [.agg ⟨cells⟩] [] G (Val (.bool (tNone t)) G) := by
 obtain ⟨p, c, es, rfl, hk, hsl, hkl⟩ := hr.open
 refine fn_enter Tryz.func131 rfl Tryz.ntmps131 Tryz.results131 rfl ?_
 intro w0
 refine tS (tR ?_)
 refine sE (step_box_a rfl rfl) rfl (fun b3 => ?_)
 refine sQ (pA rfl) rfl (sD (nS (tS (tR (sQ (pF0 rfl) rfl (sL (lBs rfl rfl) rfl rfl ?_))))))
 refine sB (pE rfl rfl) rfl rfl (fun h11 => ?_) (fun h11 => ?_)
 refine sQ (pM rfl) rfl (sQ (pF0 rfl) rfl (sL (lBs rfl rfl) rfl rfl ?_))
 refine sQ (pLn rfl rfl) rfl (sB (pE rfl rfl) rfl rfl (fun h16 => ?_) (fun h16 => ?_))
 refine sQ (pPt rfl rfl) rfl (sQ (pA rfl) rfl (sD (nS (tT (rF1 (rT rfl) ?_)))))
 exact ⟨rfl, by simp only [tNone]; (first | rw [decide_eq_true (by omega)] | rw [decide_eq_false (by omega)]), rfl⟩
 refine sQ (pPt rfl rfl) rfl (sQ (pA rfl) rfl (sD (nS (tT (rF1 (rT rfl) ?_)))))
 exact ⟨rfl, by simp only [tNone]; (first | rw [decide_eq_true (by omega)] | rw [decide_eq_false (by omega)]), rfl⟩
 refine sQ (pM rfl) rfl (sK rfl rfl (sK rfl rfl (sK rfl rfl (sK rfl rfl (sQ (pPf rfl rfl) rfl (sQ (pA rfl) rfl ?_))))))
 refine sD (nS (tT (rF1 (rT rfl) ?_)))
 exact ⟨rfl, by simp only [tNone]; (first | rw [decide_eq_true (by omega)] | rw [decide_eq_false (by omega)]), rfl⟩
/-- The absolute value of a label, 0 for what is no label's size. -/
def absLb (n : Int) : Int := if n < -99 ∨ n > 99 then 0 else if n < 0 then -n else n
theorem l1Abs_fn (n : Int) (G : IM) : Fn Tryz.prog 31 [.int .i64 n] [] G (Val (.int .i64 (absLb n)) G) := by
 refine fn_enter Tryz.func31 rfl Tryz.ntmps31 Tryz.results31 rfl ?_
 intro w0
 refine tS (tR (sQ (pA rfl) rfl (sD (nS (tS (tS ?_))))))
 refine tR (sQ (pM rfl) rfl (sB (pure_lss rfl rfl) rfl rfl (fun h10 => ?_) (fun h10 => ?_)))
 refine sQ (pM rfl) rfl (sK rfl rfl (sK rfl rfl (sQ (pPt rfl rfl) rfl (sD (nS (cT rfl ?_))))))
 refine tS (tR (sQ (pA rfl) rfl (sD (nS (tT (rS ?_))))))
 refine rF1 (rT rfl) ?_
 exact ⟨rfl, by (unfold absLb; first | rw [if_pos (by omega)] | rw [if_neg (by omega), if_pos (by omega)] | rw [if_neg (by omega), if_neg (by omega)]), rfl⟩
 refine sQ (pM rfl) rfl (sQ (pM rfl) rfl (sB (pure_gtr rfl rfl) rfl rfl (fun h29 => ?_) (fun h29 => ?_)))
 refine sQ (pPf rfl rfl) rfl (sD (nS (cT rfl ?_)))
 refine tS (tR (sQ (pA rfl) rfl (sD (nS (tT (rS ?_))))))
 refine rF1 (rT rfl) ?_
 exact ⟨rfl, by (unfold absLb; first | rw [if_pos (by omega)] | rw [if_neg (by omega), if_pos (by omega)] | rw [if_neg (by omega), if_neg (by omega)]), rfl⟩
 refine sQ (pPf rfl rfl) rfl (sD (nS (cF rfl ?_)))
 refine tK (nS (tS (tS (tR (sQ (pM rfl) rfl (sB (pure_lss rfl rfl) rfl rfl (fun h53 => ?_) (fun h53 => ?_)))))))
 refine sD (nS (cT rfl ?_))
 refine tS (tR (sQ (pM rfl) rfl (sP (pure_neg rfl (by omega) (by omega)) rfl rfl ?_)))
 refine sQ (pA rfl) rfl (sD (nS (tT (rS (rF1 (rT rfl) ?_)))))
 exact ⟨rfl, by (unfold absLb; first | rw [if_pos (by omega)] | rw [if_neg (by omega), if_pos (by omega)] | rw [if_neg (by omega), if_neg (by omega)]), rfl⟩
 refine sD (nS (cF rfl ?_))
 refine tK (nS (tS (tR (sQ (pM rfl) rfl (sQ (pA rfl) rfl (sD ?_))))))
 refine nS (tT (rF1 (rT rfl) ?_))
 exact ⟨rfl, by (unfold absLb; first | rw [if_pos (by omega)] | rw [if_neg (by omega), if_pos (by omega)] | rw [if_neg (by omega), if_neg (by omega)]), rfl⟩
theorem tScan_no {k : Int} {ks : List Ty} {d : Int} (h : 4 < d ∨ tyOps k ≠ ks.length) : tScan (.mk k ks) d = false := by
 rw [tScan]
 rcases h with h | h
 ·rw [decide_eq_false (by omega)]; rfl
 ·rw [decide_eq_false (p := tyOps k = ks.length) h, Bool.and_false]; rfl
theorem tScan_go {k : Int} {ks : List Ty} {d : Int} (h : d ≤ 4) (h2 : tyOps k = ks.length) : tScan (.mk k ks) d = tScanL ks (d + 1) := by
 rw [tScan, decide_eq_true h, decide_eq_true h2]; rfl
theorem tScanL_f {ks : List Ty} {d : Int} {i : Nat} (hi : i < ks.length) (h : tScan ks[i] d = false) : tScanL ks d = false := by
 cases hx : tScanL ks d with
 | false => rfl
 | true => rw [(tScanL_iff ks d).1 hx i hi] at h; cases h
theorem l1Shape_fn : ∀ (t : Ty) (d : Int) (G : IM) (cells : List Value), 0 ≤ d ∧ d ≤ 4 → RTy G t cells →
  Fn Tryz.prog 128 [.agg ⟨cells⟩, .int .i64 d] [] G (Val (.bool (tScan t (5 - d))) G) := by
 refine Ty.ind fun k ks ih d G cells hd hr => ?_
 obtain ⟨p, c, es, rfl, hk, hsl, hkl⟩ := hr.open
 simp only [Ty.k, Ty.ks] at hk hsl hkl ⊢
 have hn := hsl.le
 have hk1 := l1Kids_fn k G
 refine fn_enter Tryz.func128 rfl Tryz.ntmps128 Tryz.results128 rfl ?_
 intro w0
 refine tS (tR ?_)
 refine sE (step_box_a rfl rfl) rfl (fun b3 => ?_)
 refine sQ (pA rfl) rfl (sD (nS (tS (tS (tri_draw mixed rfl ?_)))))
 refine any_pure (i := 0) (l' := [tt,ff,ff,ff,ff,ff,ff,ff,ff,ff,ff]) rfl npI (pM rfl) rfl (by kernel_rfl) rfl rfl ?_
 refine any_bool (i := 1) (l' := [tt,tt,ff,ff,ff,ff,ff,ff,ff,ff,ff]) rfl npI (pure_lss rfl rfl) rfl (by kernel_rfl) rfl rfl (fun h11 => ?_) (fun h11 => ?_)
 refine aP 2 rfl (pM rfl) rfl ?_
 refine aK' 3 rfl rfl rfl ?_
 refine aK' 4 rfl rfl rfl ?_
 refine aK' 6 rfl rfl rfl ?_
 refine aK' 7 rfl rfl rfl ?_
 refine aK' 8 rfl rfl rfl ?_
 refine aK' 5 rfl rfl rfl ?_
 refine aK' 9 rfl rfl rfl ?_
 refine aP 10 rfl (pPt rfl rfl) rfl ?_
 refine aD' ?_
 refine nS (cT rfl ?_)
 refine tS (tR (sQ (pA rfl) rfl (sD (nS (tT (rS ?_))))))
 refine rF1 (rT rfl) ?_
 (rw [tScan_no (by omega)]; exact ⟨rfl, rfl, rfl⟩)
 refine aP 2 rfl (pM rfl) rfl ?_
 refine aP 3 rfl (pF0 rfl) rfl ?_
 refine aL 4 rfl (lBs rfl rfl) rfl ?_
 refine aP 6 rfl (pF0 rfl) rfl ?_
 refine aL 7 rfl (lBs rfl rfl) rfl ?_
 refine aP 8 rfl (pLn rfl rfl) rfl ?_
 refine aO' 5 ?_
 refine one_val rfl rfl (hk1) rfl rfl rfl ?_
 refine any_bool (i := 9) (l' := [tt,tt,tt,tt,tt,tt,tt,tt,tt,tt,ff]) rfl npI (pure_neq rfl rfl) rfl (by kernel_rfl) rfl rfl (fun h41 => ?_) (fun h41 => ?_)
 refine aP 10 rfl (pPf rfl rfl) rfl ?_
 refine aD' ?_
 refine nS (cT rfl ?_)
 refine tS (tR (sQ (pA rfl) rfl (sD (nS (tT (rS ?_))))))
 refine rF1 (rT rfl) ?_
 (rw [tScan_no (by omega)]; exact ⟨rfl, rfl, rfl⟩)
 refine aP 10 rfl (pPf rfl rfl) rfl ?_
 refine aD' ?_
 refine nS (cF rfl ?_)
 refine tK (nS (tS (tS (tR (sQ (pA rfl) rfl (sD ?_))))))
 refine nS (tri_block ?_)
 (refine tri_loopN (fun (i : Nat) => ⟨[(5, .int .i64 i), (2, .pointer (some ⟨b3, 0, none⟩)), (1, .int .i64 d)], [.blk b3 [.int .i64 k, .slice p ks.length c]], G⟩) (fun i => i ≤ ks.length ∧ ∀ j (h : j < ks.length), j < i → tScan ks[j] (5 - d + 1) = true) (fun i => ks.length - i) 0 ?_ ?_ ?_)
 exact sMk
 exact ⟨by omega, by omega⟩
 (rintro i ⟨hi, hf⟩)
 refine tS (tS (tR (sQ (pM rfl) rfl (sQ (pF0 rfl) rfl (sL (lBs rfl rfl) rfl rfl ?_)))))
 refine sQ (pLn rfl rfl) rfl (sB (pure_lss rfl rfl) rfl rfl (fun h79 => ?_) (fun h79 => ?_))
 refine sD (nS (cT rfl ?_))
 refine tK (nS (tS (tri_block (tS (tR (sQ (pF0 rfl) rfl ?_))))))
 refine sL (lBs rfl rfl) rfl rfl ?_
 refine sQ (pM rfl) rfl ?_
 (obtain ⟨b, o, p2, c2, rfl, hat, hre, hgb⟩ := hsl.kidTy hkl (i := i) (by omega) (by omega); refine sP (pIN rfl rfl rfl (by omega)) rfl rfl ?_)
 refine sL (load_a rfl rfl (hat _) rfl) rfl rfl ?_
 refine sQ (pM rfl) rfl (sP (pure_sub rfl rfl (by omega) (by omega)) rfl rfl ?_)
 (have hih := ih ks[i] (List.getElem_mem (by omega)) (d - 1) G _ (by omega) hre; rw [show 5 - (d - 1) = 5 - d + 1 by omega] at hih; refine seq_valb rfl hih rfl rfl (fun h96 => ?_) (fun h96 => ?_))
 refine sQ (pNt rfl) rfl (sD (nS (cF rfl ?_)))
 refine tK (nrm_block (nS (tR (sQ (pM rfl) rfl (sP (pure_add rfl rfl (by omega) (by omega)) rfl rfl ?_)))))
 refine sQ (pA rfl) rfl (sD (nrm_loopN (i + 1) ?_ ?_ ?_))
 exact sMk
 exact ⟨by omega, fun j hj hji => by (by_cases he : j = i; (subst he; assumption); exact hf j hj (by omega))⟩
 omega
 refine sQ (pNf rfl) rfl (sD (nS (cT rfl ?_)))
 refine tS (tR (sQ (pA rfl) rfl (sD (nS (tT (rB ?_))))))
 refine rS (ret_loopN (rB (rS (rF1 (rT rfl) ?_))))
 (rw [tScan_go (by omega) (by omega), tScanL_f (i := i) (by omega) (by assumption)]; exact ⟨rfl, rfl, rfl⟩)
 refine sD (nS (cF rfl ?_))
 refine tri_exit ?_
 refine ext_seq ?_
 refine ext_loopN ?_
 refine ext_block_eq ?_
 refine nS (tS (tR (sQ (pA rfl) rfl (sD (nS (tT ?_))))))
 refine rF1 (rT rfl) ?_
 (rw [tScan_go (by omega) (by omega), (tScanL_iff ks _).2 (fun j hj => hf j hj (by omega))]; exact ⟨rfl, rfl, rfl⟩)
theorem sTypeValid_fn (t : Ty) (G : IM) (cells : List Value) (hr : RTy G t cells) : Fn Tryz.prog 97 [.agg ⟨cells⟩] [] G (Val (.bool (tValid t)) G) := by
 have hl := hr.len
 have hv := l1Shape_fn t 4 G cells (by omega) hr
 refine fn_enter Tryz.func97 rfl Tryz.ntmps97 Tryz.results97 rfl ?_
 intro w0
 refine tS (tR ?_)
 refine sE (step_box_a rfl rfl) rfl (fun b3 => ?_)
 refine sQ (pA rfl) rfl (sD (nS (tS (tR (sL (load_a rfl rfl (at_blk_all (by repeat first | exact mH | apply mT)) (by assumption)) rfl rfl ?_)))))
 refine seq_val rfl (hv) rfl rfl ?_
 refine sQ (pA rfl) rfl (sD (nS (tT (rF1 (rT rfl) ?_))))
 exact ⟨rfl, rfl, rfl⟩
theorem tScan_inv {k : Int} {ks : List Ty} {d : Int} (h : tScan (.mk k ks) d = true) : tyOps k = ks.length ∧ ∀ i, (hi : i < ks.length) → tScan ks[i] (d + 1) = true := by
 rw [tScan] at h
 simp only [Bool.and_eq_true, decide_eq_true_eq] at h
 exact ⟨h.1.2, (tScanL_iff ks _).1 h.2⟩
theorem tCons_any {k k' : Int} {ks ks' : List Ty} (h : k = 1 ∨ k' = 1) : tCons (.mk k ks) (.mk k' ks') = true := by
 rw [tCons_mk]
 rcases h with h | h
 ·rw [decide_eq_true (p := k = 1) h]; rfl
 ·rw [decide_eq_true (p := k' = 1) h]; simp
theorem tCons_ne {k k' : Int} {ks ks' : List Ty} (h : k ≠ 1) (h' : k' ≠ 1) (hk : k ≠ k') : tCons (.mk k ks) (.mk k' ks') = false := by
 rw [tCons_mk, decide_eq_false h, decide_eq_false h', decide_eq_false hk]; rfl
theorem tCons_eq {k k' : Int} {ks ks' : List Ty} (h : k ≠ 1) (h' : k' ≠ 1) (hk : k = k') : tCons (.mk k ks) (.mk k' ks') = tConsL ks ks' := by
 rw [tCons_mk, decide_eq_false h, decide_eq_false h', decide_eq_true hk]; rfl
theorem tConsL_f {ks ks' : List Ty} {i : Nat} (hi : i < ks.length) (hi' : i < ks'.length) (h : tCons ks[i] ks'[i] = false) : tConsL ks ks' = false := by
 cases hx : tConsL ks ks' with
 | false => rfl
 | true => rw [((tConsL_iff ks ks').1 hx).2 i hi hi'] at h; cases h
theorem l1Consistent_fn : ∀ (t t' : Ty) (G : IM) (cells cells' : List Value) (d d' : Int), tScan t d = true → tScan t' d' = true → RTy G t cells → RTy G t' cells' →
  Fn Tryz.prog 129 [.agg ⟨cells⟩, .agg ⟨cells'⟩] [] G (Val (.bool (tCons t t')) G) := by
 refine Ty.ind fun k ks ih t' G cells cells' d d' hv hv' hr hr' => ?_
 obtain ⟨k', ks'⟩ := t'
 obtain ⟨p, c, es, rfl, hk, hsl, hkl⟩ := hr.open
 obtain ⟨p', c', es', rfl, hk', hsl', hkl'⟩ := hr'.open
 simp only [Ty.k, Ty.ks] at hk hsl hkl hk' hsl' hkl' ⊢
 have hn := hsl.le
 have hn' := hsl'.le
 obtain ⟨hv1, hv2⟩ := tScan_inv hv
 obtain ⟨hv1', hv2'⟩ := tScan_inv hv'
 have hle : k = k' → ks.length = ks'.length := by rintro rfl; omega
 refine fn_enter Tryz.func129 rfl Tryz.ntmps129 Tryz.results129 rfl ?_
 intro w0
 refine tS (tR ?_)
 refine sE (step_box_a rfl rfl) rfl (fun b3 => ?_)
 refine sE (step_box_a rfl rfl) rfl (fun b4 => ?_)
 refine sQ (pA rfl) rfl (sD (nS (tS (tS (tR (sQ (pF0 rfl) rfl ?_))))))
 refine sL (lBs rfl rfl) rfl rfl ?_
 refine sB (pE rfl rfl) rfl rfl (fun h13 => ?_) (fun h13 => ?_)
 refine sQ (pM rfl) rfl (sK rfl rfl (sK rfl rfl (sK rfl rfl (sQ (pPt rfl rfl) rfl (sD (nS ?_))))))
 refine cT rfl ?_
 refine tS (tR (sQ (pA rfl) rfl (sD (nS (tT (rS ?_))))))
 refine rF1 (rT rfl) ?_
 (rw [tCons_any (by omega)]; exact ⟨rfl, rfl, rfl⟩)
 refine sQ (pM rfl) rfl (sQ (pF0 rfl) rfl (sL (lBs rfl rfl) rfl rfl ?_))
 refine sB (pE rfl rfl) rfl rfl (fun h34 => ?_) (fun h34 => ?_)
 refine sQ (pPf rfl rfl) rfl (sD (nS (cT rfl ?_)))
 refine tS (tR (sQ (pA rfl) rfl (sD (nS (tT (rS ?_))))))
 refine rF1 (rT rfl) ?_
 (rw [tCons_any (by omega)]; exact ⟨rfl, rfl, rfl⟩)
 refine sQ (pPf rfl rfl) rfl (sD (nS (cF rfl ?_)))
 refine tK (nS (tS (tS (tR (sQ (pF0 rfl) rfl (sL (lBs rfl rfl) rfl rfl ?_))))))
 refine sQ (pF0 rfl) rfl (sL (lBs rfl rfl) rfl rfl ?_)
 refine sB (pure_neq rfl rfl) rfl rfl (fun h61 => ?_) (fun h61 => ?_)
 refine sD (nS (cT rfl ?_))
 refine tS (tR (sQ (pA rfl) rfl (sD (nS (tT (rS ?_))))))
 refine rF1 (rT rfl) ?_
 (rw [tCons_ne (by omega) (by omega) (by omega)]; exact ⟨rfl, rfl, rfl⟩)
 refine sD (nS (cF rfl ?_))
 refine tK (nS (tS (tS (tR (sQ (pA rfl) rfl (sD ?_))))))
 refine nS (tri_block ?_)
 (have hll : ks.length = ks'.length := hle (by omega); refine tri_loopN (fun (i : Nat) => ⟨[(5, .int .i64 i), (3, .pointer (some ⟨b4, 0, none⟩)), (2, .pointer (some ⟨b3, 0, none⟩))], [.blk b3 [.int .i64 k, .slice p ks.length c], .blk b4 [.int .i64 k', .slice p' ks'.length c']], G⟩) (fun i => i ≤ ks.length ∧ ∀ j (h : j < ks.length) (h' : j < ks'.length), j < i → tCons ks[j] ks'[j] = true) (fun i => ks.length - i) 0 ?_ ?_ ?_)
 exact sMk
 exact ⟨by omega, by omega⟩
 (rintro i ⟨hi, hf⟩)
 refine tS (tS (tR (sQ (pM rfl) rfl (sQ (pF0 rfl) rfl (sL (lBs rfl rfl) rfl rfl ?_)))))
 refine sQ (pLn rfl rfl) rfl (sB (pure_lss rfl rfl) rfl rfl (fun h97 => ?_) (fun h97 => ?_))
 refine sD (nS (cT rfl ?_))
 refine tK (nS (tS (tri_block (tS ?_))))
 (obtain ⟨b, o, p2, c2, rfl, hat, hre, hgb⟩ := hsl.kidTy hkl (i := i) (by omega) (by omega); obtain ⟨b', o', p2', c2', rfl, hat', hre', hgb'⟩ := hsl'.kidTy hkl' (i := i) (by omega) (by omega); refine tri_draw mixed rfl ?_)
 refine any_pure (i := 0) (l' := [tt,ff,ff,ff,ff,ff,ff,ff,ff,ff,ff,ff]) rfl npI (pF0 rfl) rfl (by kernel_rfl) rfl rfl ?_
 refine aL 1 rfl (lBs rfl rfl) rfl ?_
 refine aP 2 rfl (pM rfl) rfl ?_
 refine aP 3 rfl (pIN rfl rfl rfl (by omega)) rfl ?_
 refine aL 4 rfl (load_a rfl rfl (hat _) rfl) rfl ?_
 refine aP 5 rfl (pF0 rfl) rfl ?_
 refine aL 6 rfl (lBs rfl rfl) rfl ?_
 refine aP 7 rfl (pM rfl) rfl ?_
 refine aP 8 rfl (pIN rfl rfl rfl (by omega)) rfl ?_
 refine aL 9 rfl (load_a rfl rfl (hat' _) rfl) rfl ?_
 refine aO' 10 ?_
 refine one_valb rfl rfl (ih ks[i] (List.getElem_mem (by omega)) ks'[i] G _ _ _ _ (hv2 i (by omega)) (hv2' i (by omega)) hre hre') rfl rfl rfl (fun h118 => ?_) (fun h118 => ?_)
 refine aP 11 rfl (pNt rfl) rfl ?_
 refine aD' ?_
 refine nS (cF rfl ?_)
 refine tK (nrm_block (nS (tR (sQ (pM rfl) rfl (sP (pure_add rfl rfl (by omega) (by omega)) rfl rfl ?_)))))
 refine sQ (pA rfl) rfl (sD (nrm_loopN (i + 1) ?_ ?_ ?_))
 exact sMk
 exact ⟨by omega, fun j hj hj' hji => by (by_cases he : j = i; (subst he; assumption); exact hf j hj hj' (by omega))⟩
 omega
 refine aP 11 rfl (pNf rfl) rfl ?_
 refine aD' ?_
 refine nS (cT rfl ?_)
 refine tS (tR (sQ (pA rfl) rfl (sD (nS (tT (rB ?_))))))
 refine rS (ret_loopN (rB (rS (rF1 (rT rfl) ?_))))
 (rw [tCons_eq (by omega) (by omega) (by omega), tConsL_f (i := i) (by omega) (by omega) (by assumption)]; exact ⟨rfl, rfl, rfl⟩)
 refine sD (nS (cF rfl ?_))
 refine tri_exit ?_
 refine ext_seq ?_
 refine ext_loopN ?_
 refine ext_block_eq ?_
 refine nS (tS (tR (sQ (pA rfl) rfl (sD (nS (tT ?_))))))
 refine rF1 (rT rfl) ?_
 (rw [tCons_eq (by omega) (by omega) (by omega), (tConsL_iff ks _).2 ⟨hll, fun j hj hj' => hf j hj hj' (by omega)⟩]; exact ⟨rfl, rfl, rfl⟩)
section blaws
variable {P : Program} {Γ : Ctx} {env : Env} {hp : List Ent} {G : IM} {ty : TypeId}
theorem pure_bneq_s {x y : Operand} {t t' : TypeId} {i : TyR} [hI : TyI P t i] (hd : i.desc = .bool) {r : Bool} (hx : evo env x = some (.bool r)) (hy : evo env y = some (.bool r)) :
  PureOp P Γ ⟨env, hp, G⟩ (.binOp .neq t x y t') ty (.bool false) := by
 have h := pure_bneq (P := P) (Γ := Γ) (hp := hp) (G := G) (t := t) (t' := t') (ty := ty) hd hx hy
 rwa [decide_eq_false (by simp)] at h
theorem pure_bneq_tf {x y : Operand} {t t' : TypeId} {i : TyR} [hI : TyI P t i] (hd : i.desc = .bool) (hx : evo env x = some (.bool true)) (hy : evo env y = some (.bool false)) :
  PureOp P Γ ⟨env, hp, G⟩ (.binOp .neq t x y t') ty (.bool true) := pure_bneq hd hx hy
theorem pure_bneq_ft {x y : Operand} {t t' : TypeId} {i : TyR} [hI : TyI P t i] (hd : i.desc = .bool) (hx : evo env x = some (.bool false)) (hy : evo env y = some (.bool true)) :
  PureOp P Γ ⟨env, hp, G⟩ (.binOp .neq t x y t') ty (.bool true) := pure_bneq hd hx hy
end blaws
theorem absLb_spec (n : Int) : ((1 ≤ absLb n ∧ absLb n ≤ 99) ↔ labelOk n = true) := by
 unfold absLb labelOk withinB
 simp only [Bool.or_eq_true, decide_eq_true_eq]
 split
 ·omega
 ·split <;> omega
theorem l4Own_fn (k : Int) (nm : ByteArray) (num : Int) (ty fr : Ty) (lb : Int) (ks : List Tm) (G : IM) (cells : List Value) (hr : RTm G (.mk k nm num ty fr lb ks) cells) (R : Bool)
  (hi : R = true ↔ nm = ⟨#[]⟩ ∧ num = 0 ∧ (1 ≤ absLb lb ∧ absLb lb ≤ 99) ∧ tValid ty = true ∧ tValid fr = true ∧ tCons fr ty = true) :
  Fn Tryz.prog 145 [.agg ⟨cells⟩] [] G (Val (.bool R) G) := by
 obtain ⟨tk, tks⟩ := ty
 obtain ⟨fk, fks⟩ := fr
 obtain ⟨pt, ct, pf, cf, p, c, es, rfl, hk, hnum, hlb, hty, hfr, hsl, hkl⟩ := hr.open9
 clear hr
 have o3 := sTypeValid_fn _ G _ hty
 have o4 := sTypeValid_fn _ G _ hfr
 have o6 := l1Abs_fn lb G
 refine fn_enter Tryz.func145 rfl Tryz.ntmps145 Tryz.results145 rfl ?_
 intro w0
 refine tS (tR ?_)
 refine sE (step_box_a rfl rfl) rfl (fun b3 => ?_)
 refine sQ (pA rfl) rfl (sD (nS (tS (tR (sQ (pF0 rfl) rfl (sL (lBs rfl rfl) rfl rfl ?_))))))
 refine seq_val rfl (o6) rfl rfl ?_
 refine sQ (pA rfl) rfl (sD (nS (tS (tR (sQ (pF0 rfl) rfl (sL (lBs rfl rfl) rfl rfl ?_))))))
 refine sB (pure_seql rfl rfl) rfl rfl (fun h19 => ?_) (fun h19 => ?_)
 refine sQ (pM rfl) rfl (sQ (pF0 rfl) rfl (sL (lBs rfl rfl) rfl rfl ?_))
 refine sB (pE rfl rfl) rfl rfl (fun h23 => ?_) (fun h23 => ?_)
 refine sQ (pPt rfl rfl) rfl (sQ (pM rfl) rfl (sQ (pM rfl) rfl (sB (pure_geq rfl rfl) rfl rfl (fun h27 => ?_) (fun h27 => ?_))))
 refine sQ (pPt rfl rfl) rfl (sQ (pM rfl) rfl (sQ (pM rfl) rfl (sB (pure_leq rfl rfl) rfl rfl (fun h31 => ?_) (fun h31 => ?_))))
 refine sQ (pPt rfl rfl) rfl (sQ (pM rfl) rfl (sQ (pF0 rfl) rfl (sL (lBa rfl rfl) rfl rfl ?_)))
 refine seq_valb rfl (o3) rfl rfl (fun h36 => ?_) (fun h36 => ?_)
 refine sQ (pPt rfl rfl) rfl (sQ (pM rfl) rfl (sQ (pF0 rfl) rfl (sL (lBa rfl rfl) rfl rfl ?_)))
 refine seq_valb rfl (o4) rfl rfl (fun h41 => ?_) (fun h41 => ?_)
 refine sQ (pPt rfl rfl) rfl (sQ (pM rfl) rfl (sQ (pF0 rfl) rfl (sL (lBa rfl rfl) rfl rfl ?_)))
 refine sQ (pF0 rfl) rfl (sL (lBa rfl rfl) rfl rfl ?_)
 refine seq_valb rfl (l1Consistent_fn _ _ G _ _ _ _ (by assumption) (by assumption) hfr hty) rfl rfl (fun h48 => ?_) (fun h48 => ?_)
 refine sQ (pPt rfl rfl) rfl (sQ (pA rfl) rfl (sD (nS (tT (rF1 (rT rfl) ?_)))))
 exact ⟨rfl, by rw [hi.2 ⟨by (first | assumption | exact Classical.not_not.1 (by assumption)), by omega, by omega, by assumption, by assumption, by assumption⟩], rfl⟩
 refine sQ (pPt rfl rfl) rfl (sQ (pA rfl) rfl (sD (nS (tT (rF1 (rT rfl) ?_)))))
 exact ⟨rfl, by (cases R with | false => rfl | true => (exfalso; obtain ⟨i1, i2, i3, i4, i5, i6⟩ := hi.1 rfl; first | omega | (simp_all; done))), rfl⟩
 refine sQ (pPt rfl rfl) rfl (sQ (pM rfl) rfl (sK rfl rfl (sK rfl rfl (sK rfl rfl (sK rfl rfl (sK rfl rfl ?_))))))
 refine sQ (pPf rfl rfl) rfl (sQ (pA rfl) rfl (sD (nS (tT (rF1 (rT rfl) ?_)))))
 exact ⟨rfl, by (cases R with | false => rfl | true => (exfalso; obtain ⟨i1, i2, i3, i4, i5, i6⟩ := hi.1 rfl; first | omega | (simp_all; done))), rfl⟩
 refine sQ (pPt rfl rfl) rfl (sQ (pM rfl) rfl (sK rfl rfl (sK rfl rfl (sK rfl rfl (sQ (pPf rfl rfl) rfl (sQ (pM rfl) rfl ?_))))))
 refine sK rfl rfl (sK rfl rfl (sK rfl rfl (sK rfl rfl (sK rfl rfl (sQ (pPf rfl rfl) rfl (sQ (pA rfl) rfl ?_))))))
 refine sD (nS (tT (rF1 (rT rfl) ?_)))
 exact ⟨rfl, by (cases R with | false => rfl | true => (exfalso; obtain ⟨i1, i2, i3, i4, i5, i6⟩ := hi.1 rfl; first | omega | (simp_all; done))), rfl⟩
 refine sQ (pPt rfl rfl) rfl (sQ (pM rfl) rfl (sK rfl rfl (sK rfl rfl (sK rfl rfl (sQ (pPf rfl rfl) rfl (sQ (pM rfl) rfl ?_))))))
 refine sK rfl rfl (sK rfl rfl (sK rfl rfl (sQ (pPf rfl rfl) rfl (sQ (pM rfl) rfl (sK rfl rfl (sK rfl rfl ?_))))))
 refine sK rfl rfl (sK rfl rfl (sK rfl rfl (sQ (pPf rfl rfl) rfl (sQ (pA rfl) rfl (sD (nS ?_))))))
 refine tT (rF1 (rT rfl) ?_)
 exact ⟨rfl, by (cases R with | false => rfl | true => (exfalso; obtain ⟨i1, i2, i3, i4, i5, i6⟩ := hi.1 rfl; first | omega | (simp_all; done))), rfl⟩
 refine sQ (pPt rfl rfl) rfl (sQ (pM rfl) rfl (sK rfl rfl (sK rfl rfl (sQ (pPf rfl rfl) rfl (sQ (pM rfl) rfl (sK rfl rfl ?_))))))
 refine sK rfl rfl (sK rfl rfl (sQ (pPf rfl rfl) rfl (sQ (pM rfl) rfl (sK rfl rfl (sK rfl rfl (sK rfl rfl ?_))))))
 refine sQ (pPf rfl rfl) rfl (sQ (pM rfl) rfl (sK rfl rfl (sK rfl rfl (sK rfl rfl (sK rfl rfl (sK rfl rfl ?_))))))
 refine sQ (pPf rfl rfl) rfl (sQ (pA rfl) rfl (sD (nS (tT (rF1 (rT rfl) ?_)))))
 exact ⟨rfl, by (cases R with | false => rfl | true => (exfalso; obtain ⟨i1, i2, i3, i4, i5, i6⟩ := hi.1 rfl; first | omega | (simp_all; done))), rfl⟩
 refine sQ (pPt rfl rfl) rfl (sQ (pM rfl) rfl (sK rfl rfl (sK rfl rfl (sQ (pPf rfl rfl) rfl (sQ (pM rfl) rfl (sK rfl rfl ?_))))))
 refine sK rfl rfl (sQ (pPf rfl rfl) rfl (sQ (pM rfl) rfl (sK rfl rfl (sK rfl rfl (sK rfl rfl (sQ (pPf rfl rfl) rfl ?_))))))
 refine sQ (pM rfl) rfl (sK rfl rfl (sK rfl rfl (sK rfl rfl (sQ (pPf rfl rfl) rfl (sQ (pM rfl) rfl (sK rfl rfl ?_))))))
 refine sK rfl rfl (sK rfl rfl (sK rfl rfl (sK rfl rfl (sQ (pPf rfl rfl) rfl (sQ (pA rfl) rfl (sD ?_))))))
 refine nS (tT (rF1 (rT rfl) ?_))
 exact ⟨rfl, by (cases R with | false => rfl | true => (exfalso; obtain ⟨i1, i2, i3, i4, i5, i6⟩ := hi.1 rfl; first | omega | (simp_all; done))), rfl⟩
 refine sQ (pM rfl) rfl (sK rfl rfl (sK rfl rfl (sK rfl rfl (sQ (pPf rfl rfl) rfl (sQ (pM rfl) rfl (sK rfl rfl ?_))))))
 refine sK rfl rfl (sQ (pPf rfl rfl) rfl (sQ (pM rfl) rfl (sK rfl rfl (sK rfl rfl (sQ (pPf rfl rfl) rfl (sQ (pM rfl) rfl ?_))))))
 refine sK rfl rfl (sK rfl rfl (sK rfl rfl (sQ (pPf rfl rfl) rfl (sQ (pM rfl) rfl (sK rfl rfl (sK rfl rfl ?_))))))
 refine sK rfl rfl (sQ (pPf rfl rfl) rfl (sQ (pM rfl) rfl (sK rfl rfl (sK rfl rfl (sK rfl rfl (sK rfl rfl ?_))))))
 refine sK rfl rfl (sQ (pPf rfl rfl) rfl (sQ (pA rfl) rfl (sD (nS (tT (rF1 (rT rfl) ?_))))))
 exact ⟨rfl, by (cases R with | false => rfl | true => (exfalso; obtain ⟨i1, i2, i3, i4, i5, i6⟩ := hi.1 rfl; first | omega | (simp_all; done))), rfl⟩
theorem l2Own_fn (k : Int) (nm : ByteArray) (num : Int) (ty fr : Ty) (lb : Int) (ks : List Tm) (G : IM) (cells : List Value) (hr : RTm G (.mk k nm num ty fr lb ks) cells) (R : Bool)
  (hi : R = true ↔ (k = 1 ∨ k = 5 → nameOk nm = true) ∧ (¬(k = 1 ∨ k = 5) → nm = ⟨#[]⟩) ∧ (k = 5 ∨ k = 13 ∨ k = 14 → tValid ty = true) ∧ (¬(k = 5 ∨ k = 13 ∨ k = 14) → tNone ty = true) ∧ (k ≠ 14 → tNone fr = true ∧ lb = 0) ∧ (k = 2 → 0 ≤ num ∧ num ≤ 999) ∧ (k ≠ 2 → num = 0)) :
  Fn Tryz.prog 104 [.agg ⟨cells⟩] [] G (Val (.bool R) G) := by
 have he : nm = ⟨#[]⟩ → nameOk nm = false := by rintro rfl; rfl
 obtain ⟨tk, tks⟩ := ty
 obtain ⟨fk, fks⟩ := fr
 obtain ⟨pt, ct, pf, cf, p, c, es, rfl, hk, hnum, hlb, hty, hfr, hsl, hkl⟩ := hr.open9
 clear hr
 have o2 := l2Name_fn nm G
 have o3 := sTypeValid_fn _ G _ hty
 have o4 := l2None_fn _ G _ hty
 have o7 := l2None_fn _ G _ hfr
 refine fn_enter Tryz.func104 rfl Tryz.ntmps104 Tryz.results104 rfl ?_
 intro w0
 refine tS (tR ?_)
 refine sE (step_box_a rfl rfl) rfl (fun b3 => ?_)
 refine sQ (pA rfl) rfl (sD (nS (tS (tR (sQ (pF0 rfl) rfl (sL (lBs rfl rfl) rfl rfl ?_))))))
 refine sB (pE rfl rfl) rfl rfl (fun h11 => ?_) (fun h11 => ?_)
 refine sQ (pM rfl) rfl (sK rfl rfl (sK rfl rfl (sK rfl rfl (sQ (pPt rfl rfl) rfl (sQ (pA rfl) rfl (sD ?_))))))
 refine nS (tS (tR (sQ (pF0 rfl) rfl (sL (lBs rfl rfl) rfl rfl ?_))))
 refine sP (pure_eql_f rfl rfl (by omega)) rfl rfl ?_
 refine sQ (pM rfl) rfl (sQ (pF0 rfl) rfl (sL (lBs rfl rfl) rfl rfl ?_))
 refine sP (pure_eql_f rfl rfl (by omega)) rfl rfl ?_
 refine sQ (pPf rfl rfl) rfl (sQ (pM rfl) rfl (sQ (pF0 rfl) rfl (sL (lBs rfl rfl) rfl rfl ?_)))
 refine sP (pure_eql_f rfl rfl (by omega)) rfl rfl ?_
 refine sQ (pPf rfl rfl) rfl (sQ (pA rfl) rfl (sD (nS (tS (tS (tR ?_))))))
 refine sQ (pM rfl) rfl (sQ (pF0 rfl) rfl (sL (lBs rfl rfl) rfl rfl ?_))
 refine seq_valb rfl (o2) rfl rfl (fun h44 => ?_) (fun h44 => ?_)
 refine sQ (pure_bneq_s rfl rfl rfl) rfl (sQ (pM rfl) rfl (sQ (pM rfl) rfl (sQ (pNt rfl) rfl (sQ (pM rfl) rfl (sK rfl rfl (sK rfl rfl ?_))))))
 refine sK rfl rfl (sQ (pPf rfl rfl) rfl (sQ (pPf rfl rfl) rfl (sQ (pM rfl) rfl (sQ (pM rfl) rfl (sQ (pM rfl) rfl (sK rfl rfl ?_))))))
 refine sK rfl rfl (sK rfl rfl (sK rfl rfl (sQ (pPf rfl rfl) rfl (sQ (pPf rfl rfl) rfl (sQ (pM rfl) rfl (sQ (pM rfl) rfl ?_))))))
 refine sQ (pNf rfl) rfl (sQ (pM rfl) rfl (sQ (pF0 rfl) rfl (sL (lBa rfl rfl) rfl rfl ?_)))
 refine seq_valb rfl (o4) rfl rfl (fun h70 => ?_) (fun h70 => ?_)
 refine sQ (pNt rfl) rfl (sQ (pPt rfl rfl) rfl (sQ (pPf rfl rfl) rfl (sD (nS (cF rfl ?_)))))
 refine tK (nS (tS (tS (tR (sQ (pF0 rfl) rfl (sL (lBs rfl rfl) rfl rfl ?_))))))
 refine sP (pure_neq_t rfl rfl (by omega)) rfl rfl ?_
 refine sQ (pM rfl) rfl (sQ (pF0 rfl) rfl (sL (lBa rfl rfl) rfl rfl ?_))
 refine seq_valb rfl (o7) rfl rfl (fun h88 => ?_) (fun h88 => ?_)
 refine sQ (pNt rfl) rfl (sQ (pM rfl) rfl (sQ (pF0 rfl) rfl (sL (lBs rfl rfl) rfl rfl ?_)))
 refine sB (pure_neq rfl rfl) rfl rfl (fun h93 => ?_) (fun h93 => ?_)
 refine sQ (pPf rfl rfl) rfl (sQ (pPt rfl rfl) rfl (sD (nS (cT rfl ?_))))
 refine tS (tR (sQ (pA rfl) rfl (sD (nS (tT (rS ?_))))))
 refine rF1 (rT rfl) ?_
 exact ⟨rfl, by (cases R with | false => rfl | true => (exfalso; obtain ⟨i1, i2, i3, i4, i5, i6, i7⟩ := hi.1 rfl; first | omega | (have j := i1 (by omega); simp_all; done) | (have j := he (i2 (by omega)); simp_all; done) | (have j := i2 (by omega); simp_all; done) | (have j := i3 (by omega); simp_all; done) | (have j := i4 (by omega); simp_all; done) | (have j := i5 (by omega); simp_all; done))), rfl⟩
 refine sQ (pPf rfl rfl) rfl (sQ (pPt rfl rfl) rfl (sD (nS (cF rfl ?_))))
 refine tK (nS (tS (tS (tR (sQ (pF0 rfl) rfl (sL (lBs rfl rfl) rfl rfl ?_))))))
 refine sP (pure_eql_f rfl rfl (by omega)) rfl rfl ?_
 refine sD (nS (cF rfl ?_))
 refine tK (nS (tS (tR (sQ (pF0 rfl) rfl (sL (lBs rfl rfl) rfl rfl ?_)))))
 refine sB (pE rfl rfl) rfl rfl (fun h130 => ?_) (fun h130 => ?_)
 refine sQ (pA rfl) rfl (sD (nS (tT (rF1 (rT rfl) ?_))))
 exact ⟨rfl, by rw [hi.2 ⟨fun _ => by (first | assumption | (exfalso; omega)), fun _ => by (first | assumption | (exfalso; omega) | exact Classical.not_not.1 (by assumption)), fun _ => by (first | assumption | (exfalso; omega)), fun _ => by (first | assumption | (exfalso; omega)), fun _ => ⟨by (first | assumption | (exfalso; omega)), by (first | assumption | omega)⟩, by omega, by omega⟩], rfl⟩
 refine sQ (pA rfl) rfl (sD (nS (tT (rF1 (rT rfl) ?_))))
 exact ⟨rfl, by (cases R with | false => rfl | true => (exfalso; obtain ⟨i1, i2, i3, i4, i5, i6, i7⟩ := hi.1 rfl; first | omega | (have j := i1 (by omega); simp_all; done) | (have j := he (i2 (by omega)); simp_all; done) | (have j := i2 (by omega); simp_all; done) | (have j := i3 (by omega); simp_all; done) | (have j := i4 (by omega); simp_all; done) | (have j := i5 (by omega); simp_all; done))), rfl⟩
 refine sQ (pNf rfl) rfl (sQ (pM rfl) rfl (sK rfl rfl (sK rfl rfl (sK rfl rfl (sQ (pPt rfl rfl) rfl (sQ (pPt rfl rfl) rfl ?_))))))
 refine sD (nS (cT rfl ?_))
 refine tS (tR (sQ (pA rfl) rfl (sD (nS (tT (rS ?_))))))
 refine rF1 (rT rfl) ?_
 exact ⟨rfl, by (cases R with | false => rfl | true => (exfalso; obtain ⟨i1, i2, i3, i4, i5, i6, i7⟩ := hi.1 rfl; first | omega | (have j := i1 (by omega); simp_all; done) | (have j := he (i2 (by omega)); simp_all; done) | (have j := i2 (by omega); simp_all; done) | (have j := i3 (by omega); simp_all; done) | (have j := i4 (by omega); simp_all; done) | (have j := i5 (by omega); simp_all; done))), rfl⟩
 refine sQ (pNf rfl) rfl (sQ (pPt rfl rfl) rfl (sQ (pPf rfl rfl) rfl (sD (nS (cT rfl ?_)))))
 refine tS (tR (sQ (pA rfl) rfl (sD (nS (tT (rS ?_))))))
 refine rF1 (rT rfl) ?_
 exact ⟨rfl, by (cases R with | false => rfl | true => (exfalso; obtain ⟨i1, i2, i3, i4, i5, i6, i7⟩ := hi.1 rfl; first | omega | (have j := i1 (by omega); simp_all; done) | (have j := he (i2 (by omega)); simp_all; done) | (have j := i2 (by omega); simp_all; done) | (have j := i3 (by omega); simp_all; done) | (have j := i4 (by omega); simp_all; done) | (have j := i5 (by omega); simp_all; done))), rfl⟩
 refine sQ (pure_bneq_tf rfl rfl rfl) rfl (sQ (pM rfl) rfl (sK rfl rfl (sK rfl rfl (sK rfl rfl (sK rfl rfl (sK rfl rfl ?_))))))
 refine sK rfl rfl (sK rfl rfl (sQ (pPt rfl rfl) rfl (sQ (pM rfl) rfl (sK rfl rfl (sK rfl rfl (sK rfl rfl ?_))))))
 refine sK rfl rfl (sK rfl rfl (sK rfl rfl (sK rfl rfl (sQ (pPt rfl rfl) rfl (sQ (pM rfl) rfl (sK rfl rfl ?_))))))
 refine sK rfl rfl (sK rfl rfl (sK rfl rfl (sK rfl rfl (sK rfl rfl (sK rfl rfl (sK rfl rfl ?_))))))
 refine sQ (pPt rfl rfl) rfl (sD (nS (cT rfl ?_)))
 refine tS (tR (sQ (pA rfl) rfl (sD (nS (tT (rS ?_))))))
 refine rF1 (rT rfl) ?_
 exact ⟨rfl, by (cases R with | false => rfl | true => (exfalso; obtain ⟨i1, i2, i3, i4, i5, i6, i7⟩ := hi.1 rfl; first | omega | (have j := i1 (by omega); simp_all; done) | (have j := he (i2 (by omega)); simp_all; done) | (have j := i2 (by omega); simp_all; done) | (have j := i3 (by omega); simp_all; done) | (have j := i4 (by omega); simp_all; done) | (have j := i5 (by omega); simp_all; done))), rfl⟩
 refine sQ (pM rfl) rfl (sQ (pF0 rfl) rfl (sL (lBs rfl rfl) rfl rfl ?_))
 refine sB (pE rfl rfl) rfl rfl (fun h221 => ?_) (fun h221 => ?_)
 refine sQ (pPf rfl rfl) rfl (sQ (pA rfl) rfl (sD (nS (tS (tR (sQ (pF0 rfl) rfl ?_))))))
 refine sL (lBs rfl rfl) rfl rfl ?_
 refine sP (pure_eql_t rfl rfl (by omega)) rfl rfl ?_
 refine sQ (pM rfl) rfl (sK rfl rfl (sK rfl rfl (sK rfl rfl (sQ (pPt rfl rfl) rfl (sQ (pM rfl) rfl (sK rfl rfl ?_))))))
 refine sK rfl rfl (sK rfl rfl (sQ (pPt rfl rfl) rfl (sQ (pA rfl) rfl (sD (nS (tS ?_))))))
 refine tS (tR (sQ (pM rfl) rfl (sQ (pF0 rfl) rfl (sL (lBs rfl rfl) rfl rfl ?_))))
 refine seq_valb rfl (o2) rfl rfl (fun h250 => ?_) (fun h250 => ?_)
 refine sQ (pure_bneq_s rfl rfl rfl) rfl (sQ (pM rfl) rfl (sQ (pM rfl) rfl (sQ (pNt rfl) rfl (sQ (pM rfl) rfl (sK rfl rfl (sK rfl rfl ?_))))))
 refine sK rfl rfl (sQ (pPf rfl rfl) rfl (sQ (pPf rfl rfl) rfl (sQ (pM rfl) rfl (sQ (pM rfl) rfl (sQ (pM rfl) rfl (sQ (pF0 rfl) rfl ?_))))))
 refine sL (lBa rfl rfl) rfl rfl ?_
 refine seq_valb rfl (o3) rfl rfl (fun h266 => ?_) (fun h266 => ?_)
 refine sQ (pNt rfl) rfl (sQ (pPt rfl rfl) rfl (sQ (pPf rfl rfl) rfl (sQ (pM rfl) rfl (sQ (pM rfl) rfl (sQ (pNt rfl) rfl (sQ (pM rfl) rfl ?_))))))
 refine sK rfl rfl (sK rfl rfl (sK rfl rfl (sK rfl rfl (sQ (pPf rfl rfl) rfl (sQ (pPf rfl rfl) rfl (sD ?_))))))
 refine nS (cF rfl ?_)
 refine tK (nS (tS (tS (tR (sQ (pF0 rfl) rfl (sL (lBs rfl rfl) rfl rfl ?_))))))
 refine sP (pure_neq_t rfl rfl (by omega)) rfl rfl ?_
 refine sQ (pM rfl) rfl (sQ (pF0 rfl) rfl (sL (lBa rfl rfl) rfl rfl ?_))
 refine seq_valb rfl (o7) rfl rfl (fun h294 => ?_) (fun h294 => ?_)
 refine sQ (pNt rfl) rfl (sQ (pM rfl) rfl (sQ (pF0 rfl) rfl (sL (lBs rfl rfl) rfl rfl ?_)))
 refine sB (pure_neq rfl rfl) rfl rfl (fun h299 => ?_) (fun h299 => ?_)
 refine sQ (pPf rfl rfl) rfl (sQ (pPt rfl rfl) rfl (sD (nS (cT rfl ?_))))
 refine tS (tR (sQ (pA rfl) rfl (sD (nS (tT (rS ?_))))))
 refine rF1 (rT rfl) ?_
 exact ⟨rfl, by (cases R with | false => rfl | true => (exfalso; obtain ⟨i1, i2, i3, i4, i5, i6, i7⟩ := hi.1 rfl; first | omega | (have j := i1 (by omega); simp_all; done) | (have j := he (i2 (by omega)); simp_all; done) | (have j := i2 (by omega); simp_all; done) | (have j := i3 (by omega); simp_all; done) | (have j := i4 (by omega); simp_all; done) | (have j := i5 (by omega); simp_all; done))), rfl⟩
 refine sQ (pPf rfl rfl) rfl (sQ (pPt rfl rfl) rfl (sD (nS (cF rfl ?_))))
 refine tK (nS (tS (tS (tR (sQ (pF0 rfl) rfl (sL (lBs rfl rfl) rfl rfl ?_))))))
 refine sP (pure_eql_f rfl rfl (by omega)) rfl rfl ?_
 refine sD (nS (cF rfl ?_))
 refine tK (nS (tS (tR (sQ (pF0 rfl) rfl (sL (lBs rfl rfl) rfl rfl ?_)))))
 refine sB (pE rfl rfl) rfl rfl (fun h336 => ?_) (fun h336 => ?_)
 refine sQ (pA rfl) rfl (sD (nS (tT (rF1 (rT rfl) ?_))))
 exact ⟨rfl, by rw [hi.2 ⟨fun _ => by (first | assumption | (exfalso; omega)), fun _ => by (first | assumption | (exfalso; omega) | exact Classical.not_not.1 (by assumption)), fun _ => by (first | assumption | (exfalso; omega)), fun _ => by (first | assumption | (exfalso; omega)), fun _ => ⟨by (first | assumption | (exfalso; omega)), by (first | assumption | omega)⟩, by omega, by omega⟩], rfl⟩
 refine sQ (pA rfl) rfl (sD (nS (tT (rF1 (rT rfl) ?_))))
 exact ⟨rfl, by (cases R with | false => rfl | true => (exfalso; obtain ⟨i1, i2, i3, i4, i5, i6, i7⟩ := hi.1 rfl; first | omega | (have j := i1 (by omega); simp_all; done) | (have j := he (i2 (by omega)); simp_all; done) | (have j := i2 (by omega); simp_all; done) | (have j := i3 (by omega); simp_all; done) | (have j := i4 (by omega); simp_all; done) | (have j := i5 (by omega); simp_all; done))), rfl⟩
 refine sQ (pNf rfl) rfl (sQ (pM rfl) rfl (sK rfl rfl (sK rfl rfl (sK rfl rfl (sQ (pPt rfl rfl) rfl (sQ (pPt rfl rfl) rfl ?_))))))
 refine sD (nS (cT rfl ?_))
 refine tS (tR (sQ (pA rfl) rfl (sD (nS (tT (rS ?_))))))
 refine rF1 (rT rfl) ?_
 exact ⟨rfl, by (cases R with | false => rfl | true => (exfalso; obtain ⟨i1, i2, i3, i4, i5, i6, i7⟩ := hi.1 rfl; first | omega | (have j := i1 (by omega); simp_all; done) | (have j := he (i2 (by omega)); simp_all; done) | (have j := i2 (by omega); simp_all; done) | (have j := i3 (by omega); simp_all; done) | (have j := i4 (by omega); simp_all; done) | (have j := i5 (by omega); simp_all; done))), rfl⟩
 refine sQ (pNf rfl) rfl (sQ (pPt rfl rfl) rfl (sQ (pPf rfl rfl) rfl (sQ (pM rfl) rfl (sK rfl rfl (sK rfl rfl (sK rfl rfl ?_))))))
 refine sK rfl rfl (sK rfl rfl (sK rfl rfl (sK rfl rfl (sK rfl rfl (sQ (pPt rfl rfl) rfl (sD ?_))))))
 refine nS (cT rfl ?_)
 refine tS (tR (sQ (pA rfl) rfl (sD (nS (tT (rS ?_))))))
 refine rF1 (rT rfl) ?_
 exact ⟨rfl, by (cases R with | false => rfl | true => (exfalso; obtain ⟨i1, i2, i3, i4, i5, i6, i7⟩ := hi.1 rfl; first | omega | (have j := i1 (by omega); simp_all; done) | (have j := he (i2 (by omega)); simp_all; done) | (have j := i2 (by omega); simp_all; done) | (have j := i3 (by omega); simp_all; done) | (have j := i4 (by omega); simp_all; done) | (have j := i5 (by omega); simp_all; done))), rfl⟩
 refine sQ (pure_bneq_tf rfl rfl rfl) rfl (sQ (pM rfl) rfl (sK rfl rfl (sK rfl rfl (sK rfl rfl (sK rfl rfl (sK rfl rfl ?_))))))
 refine sK rfl rfl (sK rfl rfl (sQ (pPt rfl rfl) rfl (sQ (pM rfl) rfl (sK rfl rfl (sK rfl rfl (sK rfl rfl ?_))))))
 refine sK rfl rfl (sK rfl rfl (sK rfl rfl (sK rfl rfl (sQ (pPt rfl rfl) rfl (sQ (pM rfl) rfl (sK rfl rfl ?_))))))
 refine sK rfl rfl (sK rfl rfl (sK rfl rfl (sK rfl rfl (sK rfl rfl (sK rfl rfl (sK rfl rfl ?_))))))
 refine sQ (pPt rfl rfl) rfl (sD (nS (cT rfl ?_)))
 refine tS (tR (sQ (pA rfl) rfl (sD (nS (tT (rS ?_))))))
 refine rF1 (rT rfl) ?_
 exact ⟨rfl, by (cases R with | false => rfl | true => (exfalso; obtain ⟨i1, i2, i3, i4, i5, i6, i7⟩ := hi.1 rfl; first | omega | (have j := i1 (by omega); simp_all; done) | (have j := he (i2 (by omega)); simp_all; done) | (have j := i2 (by omega); simp_all; done) | (have j := i3 (by omega); simp_all; done) | (have j := i4 (by omega); simp_all; done) | (have j := i5 (by omega); simp_all; done))), rfl⟩
 refine sQ (pPf rfl rfl) rfl (sQ (pA rfl) rfl (sD (nS (tS (tR (sQ (pF0 rfl) rfl ?_))))))
 refine sL (lBs rfl rfl) rfl rfl ?_
 refine sP (pure_eql_f rfl rfl (by omega)) rfl rfl ?_
 refine sQ (pM rfl) rfl (sQ (pF0 rfl) rfl (sL (lBs rfl rfl) rfl rfl ?_))
 refine sB (pE rfl rfl) rfl rfl (fun h446 => ?_) (fun h446 => ?_)
 refine sQ (pPf rfl rfl) rfl (sQ (pM rfl) rfl (sK rfl rfl (sK rfl rfl (sK rfl rfl (sQ (pPt rfl rfl) rfl (sQ (pA rfl) rfl ?_))))))
 refine sD (nS (tS (tS (tR (sQ (pM rfl) rfl (sQ (pF0 rfl) rfl ?_))))))
 refine sL (lBs rfl rfl) rfl rfl ?_
 refine seq_valb rfl (o2) rfl rfl (fun h462 => ?_) (fun h462 => ?_)
 refine sQ (pure_bneq_ft rfl rfl rfl) rfl (sQ (pM rfl) rfl (sK rfl rfl (sK rfl rfl (sK rfl rfl (sK rfl rfl (sK rfl rfl ?_))))))
 refine sK rfl rfl (sK rfl rfl (sQ (pPt rfl rfl) rfl (sQ (pM rfl) rfl (sK rfl rfl (sK rfl rfl (sK rfl rfl ?_))))))
 refine sK rfl rfl (sK rfl rfl (sK rfl rfl (sK rfl rfl (sQ (pPt rfl rfl) rfl (sQ (pM rfl) rfl (sK rfl rfl ?_))))))
 refine sK rfl rfl (sK rfl rfl (sK rfl rfl (sK rfl rfl (sK rfl rfl (sK rfl rfl (sK rfl rfl ?_))))))
 refine sQ (pPt rfl rfl) rfl (sD (nS (cT rfl ?_)))
 refine tS (tR (sQ (pA rfl) rfl (sD (nS (tT (rS ?_))))))
 refine rF1 (rT rfl) ?_
 exact ⟨rfl, by (cases R with | false => rfl | true => (exfalso; obtain ⟨i1, i2, i3, i4, i5, i6, i7⟩ := hi.1 rfl; first | omega | (have j := i1 (by omega); simp_all; done) | (have j := he (i2 (by omega)); simp_all; done) | (have j := i2 (by omega); simp_all; done) | (have j := i3 (by omega); simp_all; done) | (have j := i4 (by omega); simp_all; done) | (have j := i5 (by omega); simp_all; done))), rfl⟩
 refine sQ (pure_bneq_s rfl rfl rfl) rfl (sQ (pM rfl) rfl (sQ (pM rfl) rfl (sQ (pNf rfl) rfl (sQ (pM rfl) rfl (sQ (pF0 rfl) rfl (sL (lBs rfl rfl) rfl rfl ?_))))))
 refine sB (pure_sneq rfl rfl) rfl rfl (fun h511 => ?_) (fun h511 => ?_)
 refine sQ (pPt rfl rfl) rfl (sQ (pPf rfl rfl) rfl (sQ (pM rfl) rfl (sK rfl rfl (sK rfl rfl (sK rfl rfl (sK rfl rfl ?_))))))
 refine sK rfl rfl (sK rfl rfl (sK rfl rfl (sQ (pPt rfl rfl) rfl (sQ (pM rfl) rfl (sK rfl rfl (sK rfl rfl ?_))))))
 refine sK rfl rfl (sK rfl rfl (sK rfl rfl (sK rfl rfl (sK rfl rfl (sK rfl rfl (sQ (pPt rfl rfl) rfl ?_))))))
 refine sD (nS (cT rfl ?_))
 refine tS (tR (sQ (pA rfl) rfl (sD (nS (tT (rS ?_))))))
 refine rF1 (rT rfl) ?_
 exact ⟨rfl, by (cases R with | false => rfl | true => (exfalso; obtain ⟨i1, i2, i3, i4, i5, i6, i7⟩ := hi.1 rfl; first | omega | (have j := i1 (by omega); simp_all; done) | (have j := he (i2 (by omega)); simp_all; done) | (have j := i2 (by omega); simp_all; done) | (have j := i3 (by omega); simp_all; done) | (have j := i4 (by omega); simp_all; done) | (have j := i5 (by omega); simp_all; done))), rfl⟩
 refine sQ (pPt rfl rfl) rfl (sQ (pPf rfl rfl) rfl (sQ (pM rfl) rfl (sQ (pM rfl) rfl (sQ (pM rfl) rfl (sQ (pF0 rfl) rfl (sL (lBa rfl rfl) rfl rfl ?_))))))
 refine seq_valb rfl (o3) rfl rfl (fun h552 => ?_) (fun h552 => ?_)
 refine sQ (pNt rfl) rfl (sQ (pPt rfl rfl) rfl (sQ (pPf rfl rfl) rfl (sQ (pM rfl) rfl (sQ (pM rfl) rfl (sQ (pNt rfl) rfl (sQ (pM rfl) rfl ?_))))))
 refine sK rfl rfl (sK rfl rfl (sK rfl rfl (sK rfl rfl (sQ (pPf rfl rfl) rfl (sQ (pPf rfl rfl) rfl (sD ?_))))))
 refine nS (cF rfl ?_)
 refine tK (nS (tS (tS (tR (sQ (pF0 rfl) rfl (sL (lBs rfl rfl) rfl rfl ?_))))))
 refine sP (pure_neq_t rfl rfl (by omega)) rfl rfl ?_
 refine sQ (pM rfl) rfl (sQ (pF0 rfl) rfl (sL (lBa rfl rfl) rfl rfl ?_))
 refine seq_valb rfl (o7) rfl rfl (fun h580 => ?_) (fun h580 => ?_)
 refine sQ (pNt rfl) rfl (sQ (pM rfl) rfl (sQ (pF0 rfl) rfl (sL (lBs rfl rfl) rfl rfl ?_)))
 refine sB (pure_neq rfl rfl) rfl rfl (fun h585 => ?_) (fun h585 => ?_)
 refine sQ (pPf rfl rfl) rfl (sQ (pPt rfl rfl) rfl (sD (nS (cT rfl ?_))))
 refine tS (tR (sQ (pA rfl) rfl (sD (nS (tT (rS ?_))))))
 refine rF1 (rT rfl) ?_
 exact ⟨rfl, by (cases R with | false => rfl | true => (exfalso; obtain ⟨i1, i2, i3, i4, i5, i6, i7⟩ := hi.1 rfl; first | omega | (have j := i1 (by omega); simp_all; done) | (have j := he (i2 (by omega)); simp_all; done) | (have j := i2 (by omega); simp_all; done) | (have j := i3 (by omega); simp_all; done) | (have j := i4 (by omega); simp_all; done) | (have j := i5 (by omega); simp_all; done))), rfl⟩
 refine sQ (pPf rfl rfl) rfl (sQ (pPt rfl rfl) rfl (sD (nS (cF rfl ?_))))
 refine tK (nS (tS (tS (tR (sQ (pF0 rfl) rfl (sL (lBs rfl rfl) rfl rfl ?_))))))
 refine sP (pure_eql_f rfl rfl (by omega)) rfl rfl ?_
 refine sD (nS (cF rfl ?_))
 refine tK (nS (tS (tR (sQ (pF0 rfl) rfl (sL (lBs rfl rfl) rfl rfl ?_)))))
 refine sB (pE rfl rfl) rfl rfl (fun h622 => ?_) (fun h622 => ?_)
 refine sQ (pA rfl) rfl (sD (nS (tT (rF1 (rT rfl) ?_))))
 exact ⟨rfl, by rw [hi.2 ⟨fun _ => by (first | assumption | (exfalso; omega)), fun _ => by (first | assumption | (exfalso; omega) | exact Classical.not_not.1 (by assumption)), fun _ => by (first | assumption | (exfalso; omega)), fun _ => by (first | assumption | (exfalso; omega)), fun _ => ⟨by (first | assumption | (exfalso; omega)), by (first | assumption | omega)⟩, by omega, by omega⟩], rfl⟩
 refine sQ (pA rfl) rfl (sD (nS (tT (rF1 (rT rfl) ?_))))
 exact ⟨rfl, by (cases R with | false => rfl | true => (exfalso; obtain ⟨i1, i2, i3, i4, i5, i6, i7⟩ := hi.1 rfl; first | omega | (have j := i1 (by omega); simp_all; done) | (have j := he (i2 (by omega)); simp_all; done) | (have j := i2 (by omega); simp_all; done) | (have j := i3 (by omega); simp_all; done) | (have j := i4 (by omega); simp_all; done) | (have j := i5 (by omega); simp_all; done))), rfl⟩
 refine sQ (pNf rfl) rfl (sQ (pM rfl) rfl (sK rfl rfl (sK rfl rfl (sK rfl rfl (sQ (pPt rfl rfl) rfl (sQ (pPt rfl rfl) rfl ?_))))))
 refine sD (nS (cT rfl ?_))
 refine tS (tR (sQ (pA rfl) rfl (sD (nS (tT (rS ?_))))))
 refine rF1 (rT rfl) ?_
 exact ⟨rfl, by (cases R with | false => rfl | true => (exfalso; obtain ⟨i1, i2, i3, i4, i5, i6, i7⟩ := hi.1 rfl; first | omega | (have j := i1 (by omega); simp_all; done) | (have j := he (i2 (by omega)); simp_all; done) | (have j := i2 (by omega); simp_all; done) | (have j := i3 (by omega); simp_all; done) | (have j := i4 (by omega); simp_all; done) | (have j := i5 (by omega); simp_all; done))), rfl⟩
 refine sQ (pNf rfl) rfl (sQ (pPt rfl rfl) rfl (sQ (pPf rfl rfl) rfl (sQ (pM rfl) rfl (sK rfl rfl (sK rfl rfl (sK rfl rfl ?_))))))
 refine sK rfl rfl (sK rfl rfl (sK rfl rfl (sK rfl rfl (sK rfl rfl (sQ (pPt rfl rfl) rfl (sD ?_))))))
 refine nS (cT rfl ?_)
 refine tS (tR (sQ (pA rfl) rfl (sD (nS (tT (rS ?_))))))
 refine rF1 (rT rfl) ?_
 exact ⟨rfl, by (cases R with | false => rfl | true => (exfalso; obtain ⟨i1, i2, i3, i4, i5, i6, i7⟩ := hi.1 rfl; first | omega | (have j := i1 (by omega); simp_all; done) | (have j := he (i2 (by omega)); simp_all; done) | (have j := i2 (by omega); simp_all; done) | (have j := i3 (by omega); simp_all; done) | (have j := i4 (by omega); simp_all; done) | (have j := i5 (by omega); simp_all; done))), rfl⟩
 refine sQ (pPf rfl rfl) rfl (sQ (pM rfl) rfl (sQ (pF0 rfl) rfl (sL (lBs rfl rfl) rfl rfl ?_)))
 refine sB (pE rfl rfl) rfl rfl (fun h683 => ?_) (fun h683 => ?_)
 refine sQ (pPf rfl rfl) rfl (sQ (pA rfl) rfl (sD (nS (tS (tS (tR ?_))))))
 refine sQ (pM rfl) rfl (sQ (pF0 rfl) rfl (sL (lBs rfl rfl) rfl rfl ?_))
 refine seq_valb rfl (o2) rfl rfl (fun h694 => ?_) (fun h694 => ?_)
 refine sQ (pure_bneq_ft rfl rfl rfl) rfl (sQ (pM rfl) rfl (sK rfl rfl (sK rfl rfl (sK rfl rfl (sK rfl rfl (sK rfl rfl ?_))))))
 refine sK rfl rfl (sK rfl rfl (sQ (pPt rfl rfl) rfl (sQ (pM rfl) rfl (sK rfl rfl (sK rfl rfl (sK rfl rfl ?_))))))
 refine sK rfl rfl (sK rfl rfl (sK rfl rfl (sK rfl rfl (sQ (pPt rfl rfl) rfl (sQ (pM rfl) rfl (sK rfl rfl ?_))))))
 refine sK rfl rfl (sK rfl rfl (sK rfl rfl (sK rfl rfl (sK rfl rfl (sK rfl rfl (sK rfl rfl ?_))))))
 refine sQ (pPt rfl rfl) rfl (sD (nS (cT rfl ?_)))
 refine tS (tR (sQ (pA rfl) rfl (sD (nS (tT (rS ?_))))))
 refine rF1 (rT rfl) ?_
 exact ⟨rfl, by (cases R with | false => rfl | true => (exfalso; obtain ⟨i1, i2, i3, i4, i5, i6, i7⟩ := hi.1 rfl; first | omega | (have j := i1 (by omega); simp_all; done) | (have j := he (i2 (by omega)); simp_all; done) | (have j := i2 (by omega); simp_all; done) | (have j := i3 (by omega); simp_all; done) | (have j := i4 (by omega); simp_all; done) | (have j := i5 (by omega); simp_all; done))), rfl⟩
 refine sQ (pure_bneq_s rfl rfl rfl) rfl (sQ (pM rfl) rfl (sQ (pM rfl) rfl (sQ (pNf rfl) rfl (sQ (pM rfl) rfl (sQ (pF0 rfl) rfl (sL (lBs rfl rfl) rfl rfl ?_))))))
 refine sB (pure_sneq rfl rfl) rfl rfl (fun h743 => ?_) (fun h743 => ?_)
 refine sQ (pPt rfl rfl) rfl (sQ (pPf rfl rfl) rfl (sQ (pM rfl) rfl (sK rfl rfl (sK rfl rfl (sK rfl rfl (sK rfl rfl ?_))))))
 refine sK rfl rfl (sK rfl rfl (sK rfl rfl (sQ (pPt rfl rfl) rfl (sQ (pM rfl) rfl (sK rfl rfl (sK rfl rfl ?_))))))
 refine sK rfl rfl (sK rfl rfl (sK rfl rfl (sK rfl rfl (sK rfl rfl (sK rfl rfl (sQ (pPt rfl rfl) rfl ?_))))))
 refine sD (nS (cT rfl ?_))
 refine tS (tR (sQ (pA rfl) rfl (sD (nS (tT (rS ?_))))))
 refine rF1 (rT rfl) ?_
 exact ⟨rfl, by (cases R with | false => rfl | true => (exfalso; obtain ⟨i1, i2, i3, i4, i5, i6, i7⟩ := hi.1 rfl; first | omega | (have j := i1 (by omega); simp_all; done) | (have j := he (i2 (by omega)); simp_all; done) | (have j := i2 (by omega); simp_all; done) | (have j := i3 (by omega); simp_all; done) | (have j := i4 (by omega); simp_all; done) | (have j := i5 (by omega); simp_all; done))), rfl⟩
 refine sQ (pPt rfl rfl) rfl (sQ (pPf rfl rfl) rfl (sQ (pM rfl) rfl (sQ (pM rfl) rfl (sQ (pM rfl) rfl (sQ (pF0 rfl) rfl (sL (lBa rfl rfl) rfl rfl ?_))))))
 refine seq_valb rfl (o3) rfl rfl (fun h784 => ?_) (fun h784 => ?_)
 refine sQ (pNt rfl) rfl (sQ (pPt rfl rfl) rfl (sQ (pPf rfl rfl) rfl (sQ (pM rfl) rfl (sQ (pM rfl) rfl (sQ (pNt rfl) rfl (sQ (pM rfl) rfl ?_))))))
 refine sK rfl rfl (sK rfl rfl (sK rfl rfl (sK rfl rfl (sQ (pPf rfl rfl) rfl (sQ (pPf rfl rfl) rfl (sD ?_))))))
 refine nS (cF rfl ?_)
 refine tK (nS (tS (tS (tR (sQ (pF0 rfl) rfl (sL (lBs rfl rfl) rfl rfl ?_))))))
 refine sP (pure_neq_f rfl rfl (by omega)) rfl rfl ?_
 refine sQ (pM rfl) rfl (sK rfl rfl (sK rfl rfl (sK rfl rfl (sK rfl rfl (sK rfl rfl (sK rfl rfl ?_))))))
 refine sK rfl rfl (sK rfl rfl (sK rfl rfl (sQ (pPf rfl rfl) rfl (sD (nS (cF rfl ?_))))))
 refine tK (nS (tS (tS (tR (sQ (pF0 rfl) rfl (sL (lBs rfl rfl) rfl rfl ?_))))))
 refine sP (pure_eql_f rfl rfl (by omega)) rfl rfl ?_
 refine sD (nS (cF rfl ?_))
 refine tK (nS (tS (tR (sQ (pF0 rfl) rfl (sL (lBs rfl rfl) rfl rfl ?_)))))
 refine sB (pE rfl rfl) rfl rfl (fun h840 => ?_) (fun h840 => ?_)
 refine sQ (pA rfl) rfl (sD (nS (tT (rF1 (rT rfl) ?_))))
 exact ⟨rfl, by rw [hi.2 ⟨fun _ => by (first | assumption | (exfalso; omega)), fun _ => by (first | assumption | (exfalso; omega) | exact Classical.not_not.1 (by assumption)), fun _ => by (first | assumption | (exfalso; omega)), fun _ => by (first | assumption | (exfalso; omega)), fun _ => ⟨by (first | assumption | (exfalso; omega)), by (first | assumption | omega)⟩, by omega, by omega⟩], rfl⟩
 refine sQ (pA rfl) rfl (sD (nS (tT (rF1 (rT rfl) ?_))))
 exact ⟨rfl, by (cases R with | false => rfl | true => (exfalso; obtain ⟨i1, i2, i3, i4, i5, i6, i7⟩ := hi.1 rfl; first | omega | (have j := i1 (by omega); simp_all; done) | (have j := he (i2 (by omega)); simp_all; done) | (have j := i2 (by omega); simp_all; done) | (have j := i3 (by omega); simp_all; done) | (have j := i4 (by omega); simp_all; done) | (have j := i5 (by omega); simp_all; done))), rfl⟩
 refine sQ (pNf rfl) rfl (sQ (pPt rfl rfl) rfl (sQ (pPf rfl rfl) rfl (sQ (pM rfl) rfl (sK rfl rfl (sK rfl rfl (sK rfl rfl ?_))))))
 refine sK rfl rfl (sK rfl rfl (sK rfl rfl (sK rfl rfl (sK rfl rfl (sQ (pPt rfl rfl) rfl (sD ?_))))))
 refine nS (cT rfl ?_)
 refine tS (tR (sQ (pA rfl) rfl (sD (nS (tT (rS ?_))))))
 refine rF1 (rT rfl) ?_
 exact ⟨rfl, by (cases R with | false => rfl | true => (exfalso; obtain ⟨i1, i2, i3, i4, i5, i6, i7⟩ := hi.1 rfl; first | omega | (have j := i1 (by omega); simp_all; done) | (have j := he (i2 (by omega)); simp_all; done) | (have j := i2 (by omega); simp_all; done) | (have j := i3 (by omega); simp_all; done) | (have j := i4 (by omega); simp_all; done) | (have j := i5 (by omega); simp_all; done))), rfl⟩
 refine sQ (pPf rfl rfl) rfl (sQ (pA rfl) rfl (sD (nS (tS (tS (tR ?_))))))
 refine sQ (pM rfl) rfl (sQ (pF0 rfl) rfl (sL (lBs rfl rfl) rfl rfl ?_))
 refine seq_valb rfl (o2) rfl rfl (fun h888 => ?_) (fun h888 => ?_)
 refine sQ (pure_bneq_ft rfl rfl rfl) rfl (sQ (pM rfl) rfl (sK rfl rfl (sK rfl rfl (sK rfl rfl (sK rfl rfl (sK rfl rfl ?_))))))
 refine sK rfl rfl (sK rfl rfl (sQ (pPt rfl rfl) rfl (sQ (pM rfl) rfl (sK rfl rfl (sK rfl rfl (sK rfl rfl ?_))))))
 refine sK rfl rfl (sK rfl rfl (sK rfl rfl (sK rfl rfl (sQ (pPt rfl rfl) rfl (sQ (pM rfl) rfl (sK rfl rfl ?_))))))
 refine sK rfl rfl (sK rfl rfl (sK rfl rfl (sK rfl rfl (sK rfl rfl (sK rfl rfl (sK rfl rfl ?_))))))
 refine sQ (pPt rfl rfl) rfl (sD (nS (cT rfl ?_)))
 refine tS (tR (sQ (pA rfl) rfl (sD (nS (tT (rS ?_))))))
 refine rF1 (rT rfl) ?_
 exact ⟨rfl, by (cases R with | false => rfl | true => (exfalso; obtain ⟨i1, i2, i3, i4, i5, i6, i7⟩ := hi.1 rfl; first | omega | (have j := i1 (by omega); simp_all; done) | (have j := he (i2 (by omega)); simp_all; done) | (have j := i2 (by omega); simp_all; done) | (have j := i3 (by omega); simp_all; done) | (have j := i4 (by omega); simp_all; done) | (have j := i5 (by omega); simp_all; done))), rfl⟩
 refine sQ (pure_bneq_s rfl rfl rfl) rfl (sQ (pM rfl) rfl (sQ (pM rfl) rfl (sQ (pNf rfl) rfl (sQ (pM rfl) rfl (sQ (pF0 rfl) rfl (sL (lBs rfl rfl) rfl rfl ?_))))))
 refine sB (pure_sneq rfl rfl) rfl rfl (fun h937 => ?_) (fun h937 => ?_)
 refine sQ (pPt rfl rfl) rfl (sQ (pPf rfl rfl) rfl (sQ (pM rfl) rfl (sK rfl rfl (sK rfl rfl (sK rfl rfl (sK rfl rfl ?_))))))
 refine sK rfl rfl (sK rfl rfl (sK rfl rfl (sQ (pPt rfl rfl) rfl (sQ (pM rfl) rfl (sK rfl rfl (sK rfl rfl ?_))))))
 refine sK rfl rfl (sK rfl rfl (sK rfl rfl (sK rfl rfl (sK rfl rfl (sK rfl rfl (sQ (pPt rfl rfl) rfl ?_))))))
 refine sD (nS (cT rfl ?_))
 refine tS (tR (sQ (pA rfl) rfl (sD (nS (tT (rS ?_))))))
 refine rF1 (rT rfl) ?_
 exact ⟨rfl, by (cases R with | false => rfl | true => (exfalso; obtain ⟨i1, i2, i3, i4, i5, i6, i7⟩ := hi.1 rfl; first | omega | (have j := i1 (by omega); simp_all; done) | (have j := he (i2 (by omega)); simp_all; done) | (have j := i2 (by omega); simp_all; done) | (have j := i3 (by omega); simp_all; done) | (have j := i4 (by omega); simp_all; done) | (have j := i5 (by omega); simp_all; done))), rfl⟩
 refine sQ (pPt rfl rfl) rfl (sQ (pPf rfl rfl) rfl (sQ (pM rfl) rfl (sQ (pM rfl) rfl (sQ (pM rfl) rfl (sK rfl rfl (sK rfl rfl ?_))))))
 refine sK rfl rfl (sK rfl rfl (sQ (pPf rfl rfl) rfl (sQ (pPf rfl rfl) rfl (sQ (pM rfl) rfl (sQ (pM rfl) rfl (sQ (pNf rfl) rfl ?_))))))
 refine sQ (pM rfl) rfl (sQ (pF0 rfl) rfl (sL (lBa rfl rfl) rfl rfl ?_))
 refine seq_valb rfl (o4) rfl rfl (fun h988 => ?_) (fun h988 => ?_)
 refine sQ (pNt rfl) rfl (sQ (pPt rfl rfl) rfl (sQ (pPf rfl rfl) rfl (sD (nS (cF rfl ?_)))))
 refine tK (nS (tS (tS (tR (sQ (pF0 rfl) rfl (sL (lBs rfl rfl) rfl rfl ?_))))))
 refine sP (pure_neq_t rfl rfl (by omega)) rfl rfl ?_
 refine sQ (pM rfl) rfl (sQ (pF0 rfl) rfl (sL (lBa rfl rfl) rfl rfl ?_))
 refine seq_valb rfl (o7) rfl rfl (fun h1006 => ?_) (fun h1006 => ?_)
 refine sQ (pNt rfl) rfl (sQ (pM rfl) rfl (sQ (pF0 rfl) rfl (sL (lBs rfl rfl) rfl rfl ?_)))
 refine sB (pure_neq rfl rfl) rfl rfl (fun h1011 => ?_) (fun h1011 => ?_)
 refine sQ (pPf rfl rfl) rfl (sQ (pPt rfl rfl) rfl (sD (nS (cT rfl ?_))))
 refine tS (tR (sQ (pA rfl) rfl (sD (nS (tT (rS ?_))))))
 refine rF1 (rT rfl) ?_
 exact ⟨rfl, by (cases R with | false => rfl | true => (exfalso; obtain ⟨i1, i2, i3, i4, i5, i6, i7⟩ := hi.1 rfl; first | omega | (have j := i1 (by omega); simp_all; done) | (have j := he (i2 (by omega)); simp_all; done) | (have j := i2 (by omega); simp_all; done) | (have j := i3 (by omega); simp_all; done) | (have j := i4 (by omega); simp_all; done) | (have j := i5 (by omega); simp_all; done))), rfl⟩
 refine sQ (pPf rfl rfl) rfl (sQ (pPt rfl rfl) rfl (sD (nS (cF rfl ?_))))
 refine tK (nS (tS (tS (tR (sQ (pF0 rfl) rfl (sL (lBs rfl rfl) rfl rfl ?_))))))
 refine sB (pE rfl rfl) rfl rfl (fun h1038 => ?_) (fun h1038 => ?_)
 refine sD (nS (cT rfl ?_))
 refine tS (tR (sQ (pF0 rfl) rfl (sL (lBs rfl rfl) rfl rfl ?_)))
 refine sB (pure_geq rfl rfl) rfl rfl (fun h1046 => ?_) (fun h1046 => ?_)
 refine sQ (pM rfl) rfl (sQ (pF0 rfl) rfl (sL (lBs rfl rfl) rfl rfl ?_))
 refine sB (pure_leq rfl rfl) rfl rfl (fun h1050 => ?_) (fun h1050 => ?_)
 refine sQ (pPt rfl rfl) rfl (sQ (pA rfl) rfl (sD (nS (tT (rS (rF1 (rT rfl) ?_))))))
 exact ⟨rfl, by rw [hi.2 ⟨fun _ => by (first | assumption | (exfalso; omega)), fun _ => by (first | assumption | (exfalso; omega) | exact Classical.not_not.1 (by assumption)), fun _ => by (first | assumption | (exfalso; omega)), fun _ => by (first | assumption | (exfalso; omega)), fun _ => ⟨by (first | assumption | (exfalso; omega)), by (first | assumption | omega)⟩, by omega, by omega⟩], rfl⟩
 refine sQ (pPt rfl rfl) rfl (sQ (pA rfl) rfl (sD (nS (tT (rS (rF1 (rT rfl) ?_))))))
 exact ⟨rfl, by (cases R with | false => rfl | true => (exfalso; obtain ⟨i1, i2, i3, i4, i5, i6, i7⟩ := hi.1 rfl; first | omega | (have j := i1 (by omega); simp_all; done) | (have j := he (i2 (by omega)); simp_all; done) | (have j := i2 (by omega); simp_all; done) | (have j := i3 (by omega); simp_all; done) | (have j := i4 (by omega); simp_all; done) | (have j := i5 (by omega); simp_all; done))), rfl⟩
 refine sQ (pM rfl) rfl (sK rfl rfl (sK rfl rfl (sK rfl rfl (sQ (pPf rfl rfl) rfl (sQ (pA rfl) rfl (sD ?_))))))
 refine nS (tT (rS (rF1 (rT rfl) ?_)))
 exact ⟨rfl, by (cases R with | false => rfl | true => (exfalso; obtain ⟨i1, i2, i3, i4, i5, i6, i7⟩ := hi.1 rfl; first | omega | (have j := i1 (by omega); simp_all; done) | (have j := he (i2 (by omega)); simp_all; done) | (have j := i2 (by omega); simp_all; done) | (have j := i3 (by omega); simp_all; done) | (have j := i4 (by omega); simp_all; done) | (have j := i5 (by omega); simp_all; done))), rfl⟩
 refine sD (nS (cF rfl ?_))
 refine tK (nS (tS (tR (sQ (pF0 rfl) rfl (sL (lBs rfl rfl) rfl rfl ?_)))))
 refine sB (pE rfl rfl) rfl rfl (fun h1088 => ?_) (fun h1088 => ?_)
 refine sQ (pA rfl) rfl (sD (nS (tT (rF1 (rT rfl) ?_))))
 exact ⟨rfl, by rw [hi.2 ⟨fun _ => by (first | assumption | (exfalso; omega)), fun _ => by (first | assumption | (exfalso; omega) | exact Classical.not_not.1 (by assumption)), fun _ => by (first | assumption | (exfalso; omega)), fun _ => by (first | assumption | (exfalso; omega)), fun _ => ⟨by (first | assumption | (exfalso; omega)), by (first | assumption | omega)⟩, by omega, by omega⟩], rfl⟩
 refine sQ (pA rfl) rfl (sD (nS (tT (rF1 (rT rfl) ?_))))
 exact ⟨rfl, by (cases R with | false => rfl | true => (exfalso; obtain ⟨i1, i2, i3, i4, i5, i6, i7⟩ := hi.1 rfl; first | omega | (have j := i1 (by omega); simp_all; done) | (have j := he (i2 (by omega)); simp_all; done) | (have j := i2 (by omega); simp_all; done) | (have j := i3 (by omega); simp_all; done) | (have j := i4 (by omega); simp_all; done) | (have j := i5 (by omega); simp_all; done))), rfl⟩
 refine sQ (pNf rfl) rfl (sQ (pM rfl) rfl (sK rfl rfl (sK rfl rfl (sK rfl rfl (sQ (pPt rfl rfl) rfl (sQ (pPt rfl rfl) rfl ?_))))))
 refine sD (nS (cT rfl ?_))
 refine tS (tR (sQ (pA rfl) rfl (sD (nS (tT (rS ?_))))))
 refine rF1 (rT rfl) ?_
 exact ⟨rfl, by (cases R with | false => rfl | true => (exfalso; obtain ⟨i1, i2, i3, i4, i5, i6, i7⟩ := hi.1 rfl; first | omega | (have j := i1 (by omega); simp_all; done) | (have j := he (i2 (by omega)); simp_all; done) | (have j := i2 (by omega); simp_all; done) | (have j := i3 (by omega); simp_all; done) | (have j := i4 (by omega); simp_all; done) | (have j := i5 (by omega); simp_all; done))), rfl⟩
 refine sQ (pNf rfl) rfl (sQ (pPt rfl rfl) rfl (sQ (pPf rfl rfl) rfl (sD (nS (cT rfl ?_)))))
 refine tS (tR (sQ (pA rfl) rfl (sD (nS (tT (rS ?_))))))
 refine rF1 (rT rfl) ?_
 exact ⟨rfl, by (cases R with | false => rfl | true => (exfalso; obtain ⟨i1, i2, i3, i4, i5, i6, i7⟩ := hi.1 rfl; first | omega | (have j := i1 (by omega); simp_all; done) | (have j := he (i2 (by omega)); simp_all; done) | (have j := i2 (by omega); simp_all; done) | (have j := i3 (by omega); simp_all; done) | (have j := i4 (by omega); simp_all; done) | (have j := i5 (by omega); simp_all; done))), rfl⟩
mutual
def sShape (D N : Int) : Tm → Int → Bool
 | .mk k nm num ty fr lb ks, deep => decide (deep ≤ D) && decide (k ≠ N) && tmNode k nm num ty fr lb ks.length && sShapeL D N ks (deep + 1)
def sShapeL (D N : Int) : List Tm → Int → Bool
 | [], _ => true
 | t :: ts, deep => sShape D N t deep && sShapeL D N ts deep
end
theorem sShapeL_iff (D N : Int) : ∀ (ts : List Tm) (d : Int), sShapeL D N ts d = true ↔ ∀ i, (h : i < ts.length) → sShape D N ts[i] d = true
 | [], d => by simp [sShapeL]
 | t :: ts, d => by
  simp only [sShapeL, Bool.and_eq_true, sShapeL_iff D N ts d]
  constructor
  ·rintro ⟨h1, h2⟩ i hi
   cases i with
   | zero => exact h1
   | succ i => exact h2 i (by simpa using hi)
  ·intro h
   exact ⟨h 0 (by simp), fun i hi => h (i + 1) (by simpa using hi)⟩
theorem sShape_no {D N : Int} {k : Int} {nm : ByteArray} {num : Int} {ty fr : Ty} {lb : Int} {ks : List Tm} {d : Int} (h : D < d ∨ k = N ∨ tmNode k nm num ty fr lb ks.length = false) : sShape D N (.mk k nm num ty fr lb ks) d = false := by
 rw [sShape]
 rcases h with h | h | h
 ·rw [decide_eq_false (by omega)]; rfl
 ·rw [decide_eq_false (p := k ≠ N) (by omega), Bool.and_false]; rfl
 ·rw [h, Bool.and_false]; rfl
theorem sShape_go {D N : Int} {k : Int} {nm : ByteArray} {num : Int} {ty fr : Ty} {lb : Int} {ks : List Tm} {d : Int} (h1 : d ≤ D) (h2 : k ≠ N) (h3 : tmNode k nm num ty fr lb ks.length = true) : sShape D N (.mk k nm num ty fr lb ks) d = sShapeL D N ks (d + 1) := by
 rw [sShape, decide_eq_true h1, decide_eq_true h2, h3]; rfl
theorem sShapeL_f {D N : Int} {ks : List Tm} {d : Int} {i : Nat} (hi : i < ks.length) (h : sShape D N ks[i] d = false) : sShapeL D N ks d = false := by
 cases hx : sShapeL D N ks d with
 | false => rfl
 | true => rw [(sShapeL_iff D N ks d).1 hx i hi] at h; cases h
theorem tmNode_14 {k : Int} {nm : ByteArray} {num : Int} {ty fr : Ty} {lb : Int} {n : Nat} (hk : k = 14) (ha : tmOps k = n) : tmNode k nm num ty fr lb n = true ↔ nm = ⟨#[]⟩ ∧ num = 0 ∧ (1 ≤ absLb lb ∧ absLb lb ≤ 99) ∧ tValid ty = true ∧ tValid fr = true ∧ tCons fr ty = true := by
 rw [tmNode_iff, absLb_spec]
 simp only [withinB, tConsistent, decide_eq_true_eq, Bool.and_eq_true]
 constructor
 ·rintro ⟨_, _, h3, _, h5, h6, _, h8, _⟩
  have h8 := h8 hk
  exact ⟨h3 (by omega), by have := h5 (by omega); omega, h8.2, h6 (by omega), h8.1.1.1, h8.1.2⟩
 ·rintro ⟨h1, h2, h3, h4, h5, h6⟩
  exact ⟨ha, fun h => absurd h (by omega), fun _ => h1, fun h => absurd h (by omega), fun _ => by omega, fun _ => h4, fun h => absurd h (by omega), fun _ => ⟨⟨⟨h5, h4⟩, h6⟩, h3⟩, fun h => absurd hk h⟩
theorem tmNode_ne {k : Int} {nm : ByteArray} {num : Int} {ty fr : Ty} {lb : Int} {n : Nat} (hk : k ≠ 14) (ha : tmOps k = n) : tmNode k nm num ty fr lb n = true ↔
  (k = 1 ∨ k = 5 → nameOk nm = true) ∧ (¬(k = 1 ∨ k = 5) → nm = ⟨#[]⟩) ∧ (k = 5 ∨ k = 13 ∨ k = 14 → tValid ty = true) ∧ (¬(k = 5 ∨ k = 13 ∨ k = 14) → tNone ty = true) ∧ (k ≠ 14 → tNone fr = true ∧ lb = 0) ∧ (k = 2 → 0 ≤ num ∧ num ≤ 999) ∧ (k ≠ 2 → num = 0) := by
 rw [tmNode_iff]
 simp only [withinB, decide_eq_true_eq]
 constructor
 ·rintro ⟨_, h2, h3, h4, h5, h6, h7, _, h9⟩
  exact ⟨h2, h3, h6, h7, h9, h4, fun h => by have := h5 h; omega⟩
 ·rintro ⟨h2, h3, h6, h7, h9, h4, h5⟩
  exact ⟨ha, h2, h3, h4, fun h => by have := h5 h; omega, h6, h7, fun h => absurd h hk, h9⟩
theorem l4Shape_fn : ∀ (t : Tm) (d : Int) (G : IM) (cells : List Value), 0 ≤ d ∧ d ≤ 40 → RTm G t cells →
  Fn Tryz.prog 118 [.agg ⟨cells⟩, .int .i64 d] [] G (Val (.bool (sShape 40 13 t (41 - d))) G) := by
 refine Tm.ind fun k nm num ty fr lb ks ih d G cells hd hr => ?_
 have hr0 := hr
 have h14 := fun h : k = 14 => @tmNode_14 k nm num ty fr lb ks.length h
 have hne := fun h : k ≠ 14 => @tmNode_ne k nm num ty fr lb ks.length h
 have har := fun h : tmNode k nm num ty fr lb ks.length = true => (tmNode_iff.1 h).1
 obtain ⟨R, hR⟩ : ∃ R, tmNode k nm num ty fr lb ks.length = R := ⟨_, rfl⟩
 rw [hR] at h14 hne har
 have hlo := l4Own_fn k nm num ty fr lb ks G cells hr0 R
 have hl2 := l2Own_fn k nm num ty fr lb ks G cells hr0 R
 have hk1 := l2Kids_fn k G
 obtain ⟨tk, tks⟩ := ty
 obtain ⟨fk, fks⟩ := fr
 obtain ⟨pt, ct, pf, cf, p, c, es, rfl, hk, hnum, hlb, hty, hfr, hsl, hkl⟩ := hr.open9
 have hn := hsl.le
 clear hr hr0
 refine fn_enter Tryz.func118 rfl Tryz.ntmps118 Tryz.results118 rfl ?_
 intro w0
 refine tS (tR ?_)
 refine sE (step_box_a rfl rfl) rfl (fun b3 => ?_)
 refine sQ (pA rfl) rfl (sD (nS (tS (tS (tri_draw mixed rfl ?_)))))
 refine any_pure (i := 0) (l' := [tt,ff,ff,ff,ff,ff,ff,ff,ff,ff,ff,ff,ff,ff,ff,ff,ff,ff,ff,ff,ff,ff,ff,ff,ff,ff,ff,ff,ff,ff,ff,ff,ff,ff,ff,ff]) rfl npI (pM rfl) rfl (by kernel_rfl) rfl rfl ?_
 refine any_bool (i := 1) (l' := [tt,tt,ff,ff,ff,ff,ff,ff,ff,ff,ff,ff,ff,ff,ff,ff,ff,ff,ff,ff,ff,ff,ff,ff,ff,ff,ff,ff,ff,ff,ff,ff,ff,ff,ff,ff]) rfl npI (pure_lss rfl rfl) rfl (by kernel_rfl) rfl rfl (fun h11 => ?_) (fun h11 => ?_)
 refine aP 2 rfl (pM rfl) rfl ?_
 refine aK' 3 rfl rfl rfl ?_
 refine aK' 4 rfl rfl rfl ?_
 refine aK' 6 rfl rfl rfl ?_
 refine aK' 7 rfl rfl rfl ?_
 refine aK' 8 rfl rfl rfl ?_
 refine aK' 5 rfl rfl rfl ?_
 refine aK' 9 rfl rfl rfl ?_
 refine aP 10 rfl (pPt rfl rfl) rfl ?_
 refine aP 11 rfl (pM rfl) rfl ?_
 refine aK' 12 rfl rfl rfl ?_
 refine aK' 13 rfl rfl rfl ?_
 refine aK' 14 rfl rfl rfl ?_
 refine aP 15 rfl (pPt rfl rfl) rfl ?_
 refine aP 16 rfl (pM rfl) rfl ?_
 refine aK' 17 rfl rfl rfl ?_
 refine aK' 18 rfl rfl rfl ?_
 refine aK' 19 rfl rfl rfl ?_
 refine aK' 20 rfl rfl rfl ?_
 refine aK' 21 rfl rfl rfl ?_
 refine aK' 22 rfl rfl rfl ?_
 refine aK' 23 rfl rfl rfl ?_
 refine aK' 24 rfl rfl rfl ?_
 refine aP 25 rfl (pPt rfl rfl) rfl ?_
 refine aP 26 rfl (pM rfl) rfl ?_
 refine aK' 27 rfl rfl rfl ?_
 refine aK' 28 rfl rfl rfl ?_
 refine aK' 29 rfl rfl rfl ?_
 refine aK' 30 rfl rfl rfl ?_
 refine aK' 31 rfl rfl rfl ?_
 refine aK' 32 rfl rfl rfl ?_
 refine aK' 33 rfl rfl rfl ?_
 refine aK' 34 rfl rfl rfl ?_
 refine aP 35 rfl (pPt rfl rfl) rfl ?_
 refine aD' ?_
 refine nS (cT rfl ?_)
 refine tS (tR (sQ (pA rfl) rfl (sD (nS (tT (rS ?_))))))
 refine rF1 (rT rfl) ?_
 (rw [sShape_no (by rw [hR]; first | omega | exact .inr (.inr (by assumption)) | exact .inr (.inr (by cases R with | false => rfl | true => exact absurd (har rfl) (by omega))))]; exact ⟨rfl, rfl, rfl⟩)
 refine aP 2 rfl (pM rfl) rfl ?_
 refine aP 3 rfl (pF0 rfl) rfl ?_
 refine aL 4 rfl (lBs rfl rfl) rfl ?_
 refine aP 6 rfl (pF0 rfl) rfl ?_
 refine aL 7 rfl (lBs rfl rfl) rfl ?_
 refine aP 8 rfl (pLn rfl rfl) rfl ?_
 refine aO' 5 ?_
 refine one_val rfl rfl (hk1) rfl rfl rfl ?_
 refine any_bool (i := 9) (l' := [tt,tt,tt,tt,tt,tt,tt,tt,tt,tt,ff,ff,ff,ff,ff,ff,ff,ff,ff,ff,ff,ff,ff,ff,ff,ff,ff,ff,ff,ff,ff,ff,ff,ff,ff,ff]) rfl npI (pure_neq rfl rfl) rfl (by kernel_rfl) rfl rfl (fun h66 => ?_) (fun h66 => ?_)
 refine aP 10 rfl (pPf rfl rfl) rfl ?_
 refine aP 11 rfl (pM rfl) rfl ?_
 refine aK' 12 rfl rfl rfl ?_
 refine aK' 13 rfl rfl rfl ?_
 refine aK' 14 rfl rfl rfl ?_
 refine aP 15 rfl (pPt rfl rfl) rfl ?_
 refine aP 16 rfl (pM rfl) rfl ?_
 refine aK' 17 rfl rfl rfl ?_
 refine aK' 18 rfl rfl rfl ?_
 refine aK' 19 rfl rfl rfl ?_
 refine aK' 20 rfl rfl rfl ?_
 refine aK' 21 rfl rfl rfl ?_
 refine aK' 22 rfl rfl rfl ?_
 refine aK' 23 rfl rfl rfl ?_
 refine aK' 24 rfl rfl rfl ?_
 refine aP 25 rfl (pPt rfl rfl) rfl ?_
 refine aP 26 rfl (pM rfl) rfl ?_
 refine aK' 27 rfl rfl rfl ?_
 refine aK' 28 rfl rfl rfl ?_
 refine aK' 29 rfl rfl rfl ?_
 refine aK' 30 rfl rfl rfl ?_
 refine aK' 31 rfl rfl rfl ?_
 refine aK' 32 rfl rfl rfl ?_
 refine aK' 33 rfl rfl rfl ?_
 refine aK' 34 rfl rfl rfl ?_
 refine aP 35 rfl (pPt rfl rfl) rfl ?_
 refine aD' ?_
 refine nS (cT rfl ?_)
 refine tS (tR (sQ (pA rfl) rfl (sD (nS (tT (rS ?_))))))
 refine rF1 (rT rfl) ?_
 (rw [sShape_no (by rw [hR]; first | omega | exact .inr (.inr (by assumption)) | exact .inr (.inr (by cases R with | false => rfl | true => exact absurd (har rfl) (by omega))))]; exact ⟨rfl, rfl, rfl⟩)
 refine aP 10 rfl (pPf rfl rfl) rfl ?_
 refine aP 11 rfl (pM rfl) rfl ?_
 refine aP 12 rfl (pF0 rfl) rfl ?_
 refine aL 13 rfl (lBs rfl rfl) rfl ?_
 refine any_bool (i := 14) (l' := [tt,tt,tt,tt,tt,tt,tt,tt,tt,tt,tt,tt,tt,tt,tt,ff,ff,ff,ff,ff,ff,ff,ff,ff,ff,ff,ff,ff,ff,ff,ff,ff,ff,ff,ff,ff]) rfl npI (pE rfl rfl) rfl (by kernel_rfl) rfl rfl (fun h109 => ?_) (fun h109 => ?_)
 refine aP 15 rfl (pPf rfl rfl) rfl ?_
 refine aP 16 rfl (pM rfl) rfl ?_
 refine aK' 17 rfl rfl rfl ?_
 refine aK' 18 rfl rfl rfl ?_
 refine aK' 19 rfl rfl rfl ?_
 refine aK' 20 rfl rfl rfl ?_
 refine aK' 21 rfl rfl rfl ?_
 refine aK' 22 rfl rfl rfl ?_
 refine aK' 23 rfl rfl rfl ?_
 refine aK' 24 rfl rfl rfl ?_
 refine aP 25 rfl (pPt rfl rfl) rfl ?_
 refine aP 26 rfl (pM rfl) rfl ?_
 refine aK' 27 rfl rfl rfl ?_
 refine aK' 28 rfl rfl rfl ?_
 refine aK' 29 rfl rfl rfl ?_
 refine aK' 30 rfl rfl rfl ?_
 refine aK' 31 rfl rfl rfl ?_
 refine aK' 32 rfl rfl rfl ?_
 refine aK' 33 rfl rfl rfl ?_
 refine aK' 34 rfl rfl rfl ?_
 refine aP 35 rfl (pPt rfl rfl) rfl ?_
 refine aD' ?_
 refine nS (cT rfl ?_)
 refine tS (tR (sQ (pA rfl) rfl (sD (nS (tT (rS ?_))))))
 refine rF1 (rT rfl) ?_
 (rw [sShape_no (by rw [hR]; first | omega | exact .inr (.inr (by assumption)) | exact .inr (.inr (by cases R with | false => rfl | true => exact absurd (har rfl) (by omega))))]; exact ⟨rfl, rfl, rfl⟩)
 refine aP 15 rfl (pPf rfl rfl) rfl ?_
 refine aP 16 rfl (pM rfl) rfl ?_
 refine aP 17 rfl (pF0 rfl) rfl ?_
 refine aL 18 rfl (lBs rfl rfl) rfl ?_
 refine any_bool (i := 19) (l' := [tt,tt,tt,tt,tt,tt,tt,tt,tt,tt,tt,tt,tt,tt,tt,tt,tt,tt,tt,tt,ff,ff,ff,ff,ff,ff,ff,ff,ff,ff,ff,ff,ff,ff,ff,ff]) rfl npI (pE rfl rfl) rfl (by kernel_rfl) rfl rfl (fun h147 => ?_) (fun h147 => ?_)
 refine aP 20 rfl (pM rfl) rfl ?_
 refine aL 21 rfl (lBa rfl rfl) rfl ?_
 refine aO' 22 ?_
 refine one_valb rfl rfl (hlo (h14 (by omega) (by omega))) rfl rfl rfl (fun h151 => ?_) (fun h151 => ?_)
 refine aP 23 rfl (pNt rfl) rfl ?_
 refine aP 24 rfl (pPt rfl rfl) rfl ?_
 refine aP 25 rfl (pPf rfl rfl) rfl ?_
 refine aP 26 rfl (pM rfl) rfl ?_
 refine aP 27 rfl (pF0 rfl) rfl ?_
 refine aL 28 rfl (lBs rfl rfl) rfl ?_
 refine aP 29 rfl (pure_neq_f rfl rfl (by omega)) rfl ?_
 refine aP 30 rfl (pM rfl) rfl ?_
 refine aK' 31 rfl rfl rfl ?_
 refine aK' 32 rfl rfl rfl ?_
 refine aK' 33 rfl rfl rfl ?_
 refine aP 34 rfl (pPf rfl rfl) rfl ?_
 refine aP 35 rfl (pPf rfl rfl) rfl ?_
 refine aD' ?_
 refine nS (cF rfl ?_)
 refine tK (nS (tS (tS (tR (sQ (pA rfl) rfl (sD ?_))))))
 refine nS (tri_block ?_)
 (refine tri_loopN (fun (i : Nat) => ⟨[(5, .int .i64 i), (2, .pointer (some ⟨b3, 0, none⟩)), (1, .int .i64 d)], [.blk b3 [.int .i64 k, .string nm, .int .i64 num, .int .i64 tk, .slice pt tks.length ct, .int .i64 fk, .slice pf fks.length cf, .int .i64 lb, .slice p ks.length c]], G⟩) (fun i => i ≤ ks.length ∧ ∀ j (h : j < ks.length), j < i → sShape 40 13 ks[j] (41 - d + 1) = true) (fun i => ks.length - i) 0 ?_ ?_ ?_)
 exact sMk
 exact ⟨by omega, by omega⟩
 (rintro i ⟨hi, hf⟩)
 refine tS (tS (tR (sQ (pM rfl) rfl (sQ (pF0 rfl) rfl (sL (lBs rfl rfl) rfl rfl ?_)))))
 refine sQ (pLn rfl rfl) rfl (sB (pure_lss rfl rfl) rfl rfl (fun h188 => ?_) (fun h188 => ?_))
 refine sD (nS (cT rfl ?_))
 refine tK (nS (tS (tri_block (tS (tR (sQ (pF0 rfl) rfl ?_))))))
 refine sL (lBs rfl rfl) rfl rfl ?_
 refine sQ (pM rfl) rfl ?_
 (obtain ⟨b, o, e, rfl, hl, hat, hre, hgb⟩ := hsl.kidTm hkl (i := i) (by omega) (by omega); refine sP (pIN rfl rfl rfl (by omega)) rfl rfl ?_)
 refine sL (load_a rfl rfl (hat _) hl) rfl rfl ?_
 refine sQ (pM rfl) rfl (sP (pure_sub rfl rfl (by omega) (by omega)) rfl rfl ?_)
 (have hih := ih ks[i] (List.getElem_mem (by omega)) (d - 1) G _ (by omega) hre; rw [show 41 - (d - 1) = 41 - d + 1 by omega] at hih; refine seq_valb rfl hih rfl rfl (fun h205 => ?_) (fun h205 => ?_))
 refine sQ (pNt rfl) rfl (sD (nS (cF rfl ?_)))
 refine tK (nrm_block (nS (tR (sQ (pM rfl) rfl (sP (pure_add rfl rfl (by omega) (by omega)) rfl rfl ?_)))))
 refine sQ (pA rfl) rfl (sD (nrm_loopN (i + 1) ?_ ?_ ?_))
 exact sMk
 exact ⟨by omega, fun j hj hji => by (by_cases he : j = i; (subst he; assumption); exact hf j hj (by omega))⟩
 omega
 refine sQ (pNf rfl) rfl (sD (nS (cT rfl ?_)))
 refine tS (tR (sQ (pA rfl) rfl (sD (nS (tT (rB ?_))))))
 refine rS (ret_loopN (rB (rS (rF1 (rT rfl) ?_))))
 (rw [sShape_go (by omega) (by omega) (hR.trans (by assumption)), sShapeL_f (i := i) (by omega) (by assumption)]; exact ⟨rfl, rfl, rfl⟩)
 refine sD (nS (cF rfl ?_))
 refine tri_exit ?_
 refine ext_seq ?_
 refine ext_loopN ?_
 refine ext_block_eq ?_
 refine nS (tS (tR (sQ (pA rfl) rfl (sD (nS (tT ?_))))))
 refine rF1 (rT rfl) ?_
 (rw [sShape_go (by omega) (by omega) (hR.trans (by assumption)), (sShapeL_iff 40 13 ks _).2 (fun j hj => hf j hj (by omega))]; exact ⟨rfl, rfl, rfl⟩)
 refine aP 23 rfl (pNf rfl) rfl ?_
 refine aP 24 rfl (pPt rfl rfl) rfl ?_
 refine aP 25 rfl (pPf rfl rfl) rfl ?_
 refine aP 26 rfl (pM rfl) rfl ?_
 refine aK' 27 rfl rfl rfl ?_
 refine aK' 28 rfl rfl rfl ?_
 refine aK' 29 rfl rfl rfl ?_
 refine aK' 30 rfl rfl rfl ?_
 refine aK' 31 rfl rfl rfl ?_
 refine aK' 32 rfl rfl rfl ?_
 refine aK' 33 rfl rfl rfl ?_
 refine aK' 34 rfl rfl rfl ?_
 refine aP 35 rfl (pPt rfl rfl) rfl ?_
 refine aD' ?_
 refine nS (cT rfl ?_)
 refine tS (tR (sQ (pA rfl) rfl (sD (nS (tT (rS ?_))))))
 refine rF1 (rT rfl) ?_
 (rw [sShape_no (by rw [hR]; first | omega | exact .inr (.inr (by assumption)) | exact .inr (.inr (by cases R with | false => rfl | true => exact absurd (har rfl) (by omega))))]; exact ⟨rfl, rfl, rfl⟩)
 refine aP 20 rfl (pM rfl) rfl ?_
 refine aK' 21 rfl rfl rfl ?_
 refine aK' 22 rfl rfl rfl ?_
 refine aK' 23 rfl rfl rfl ?_
 refine aP 24 rfl (pPf rfl rfl) rfl ?_
 refine aP 25 rfl (pPf rfl rfl) rfl ?_
 refine aP 26 rfl (pM rfl) rfl ?_
 refine aP 27 rfl (pF0 rfl) rfl ?_
 refine aL 28 rfl (lBs rfl rfl) rfl ?_
 refine aP 29 rfl (pure_neq_t rfl rfl (by omega)) rfl ?_
 refine aP 30 rfl (pM rfl) rfl ?_
 refine aL 31 rfl (lBa rfl rfl) rfl ?_
 refine aO' 32 ?_
 refine one_valb rfl rfl (hl2 (hne (by omega) (by omega))) rfl rfl rfl (fun h293 => ?_) (fun h293 => ?_)
 refine aP 33 rfl (pNt rfl) rfl ?_
 refine aP 34 rfl (pPt rfl rfl) rfl ?_
 refine aP 35 rfl (pPf rfl rfl) rfl ?_
 refine aD' ?_
 refine nS (cF rfl ?_)
 refine tK (nS (tS (tS (tR (sQ (pA rfl) rfl (sD ?_))))))
 refine nS (tri_block ?_)
 (refine tri_loopN (fun (i : Nat) => ⟨[(5, .int .i64 i), (2, .pointer (some ⟨b3, 0, none⟩)), (1, .int .i64 d)], [.blk b3 [.int .i64 k, .string nm, .int .i64 num, .int .i64 tk, .slice pt tks.length ct, .int .i64 fk, .slice pf fks.length cf, .int .i64 lb, .slice p ks.length c]], G⟩) (fun i => i ≤ ks.length ∧ ∀ j (h : j < ks.length), j < i → sShape 40 13 ks[j] (41 - d + 1) = true) (fun i => ks.length - i) 0 ?_ ?_ ?_)
 exact sMk
 exact ⟨by omega, by omega⟩
 (rintro i ⟨hi, hf⟩)
 refine tS (tS (tR (sQ (pM rfl) rfl (sQ (pF0 rfl) rfl (sL (lBs rfl rfl) rfl rfl ?_)))))
 refine sQ (pLn rfl rfl) rfl (sB (pure_lss rfl rfl) rfl rfl (fun h320 => ?_) (fun h320 => ?_))
 refine sD (nS (cT rfl ?_))
 refine tK (nS (tS (tri_block (tS (tR (sQ (pF0 rfl) rfl ?_))))))
 refine sL (lBs rfl rfl) rfl rfl ?_
 refine sQ (pM rfl) rfl ?_
 (obtain ⟨b, o, e, rfl, hl, hat, hre, hgb⟩ := hsl.kidTm hkl (i := i) (by omega) (by omega); refine sP (pIN rfl rfl rfl (by omega)) rfl rfl ?_)
 refine sL (load_a rfl rfl (hat _) hl) rfl rfl ?_
 refine sQ (pM rfl) rfl (sP (pure_sub rfl rfl (by omega) (by omega)) rfl rfl ?_)
 (have hih := ih ks[i] (List.getElem_mem (by omega)) (d - 1) G _ (by omega) hre; rw [show 41 - (d - 1) = 41 - d + 1 by omega] at hih; refine seq_valb rfl hih rfl rfl (fun h337 => ?_) (fun h337 => ?_))
 refine sQ (pNt rfl) rfl (sD (nS (cF rfl ?_)))
 refine tK (nrm_block (nS (tR (sQ (pM rfl) rfl (sP (pure_add rfl rfl (by omega) (by omega)) rfl rfl ?_)))))
 refine sQ (pA rfl) rfl (sD (nrm_loopN (i + 1) ?_ ?_ ?_))
 exact sMk
 exact ⟨by omega, fun j hj hji => by (by_cases he : j = i; (subst he; assumption); exact hf j hj (by omega))⟩
 omega
 refine sQ (pNf rfl) rfl (sD (nS (cT rfl ?_)))
 refine tS (tR (sQ (pA rfl) rfl (sD (nS (tT (rB ?_))))))
 refine rS (ret_loopN (rB (rS (rF1 (rT rfl) ?_))))
 (rw [sShape_go (by omega) (by omega) (hR.trans (by assumption)), sShapeL_f (i := i) (by omega) (by assumption)]; exact ⟨rfl, rfl, rfl⟩)
 refine sD (nS (cF rfl ?_))
 refine tri_exit ?_
 refine ext_seq ?_
 refine ext_loopN ?_
 refine ext_block_eq ?_
 refine nS (tS (tR (sQ (pA rfl) rfl (sD (nS (tT ?_))))))
 refine rF1 (rT rfl) ?_
 (rw [sShape_go (by omega) (by omega) (hR.trans (by assumption)), (sShapeL_iff 40 13 ks _).2 (fun j hj => hf j hj (by omega))]; exact ⟨rfl, rfl, rfl⟩)
 refine aP 33 rfl (pNf rfl) rfl ?_
 refine aP 34 rfl (pPt rfl rfl) rfl ?_
 refine aP 35 rfl (pPf rfl rfl) rfl ?_
 refine aD' ?_
 refine nS (cT rfl ?_)
 refine tS (tR (sQ (pA rfl) rfl (sD (nS (tT (rS ?_))))))
 refine rF1 (rT rfl) ?_
 (rw [sShape_no (by rw [hR]; first | omega | exact .inr (.inr (by assumption)) | exact .inr (.inr (by cases R with | false => rfl | true => exact absurd (har rfl) (by omega))))]; exact ⟨rfl, rfl, rfl⟩)
theorem sShape_inv {D N : Int} {k : Int} {nm : ByteArray} {num : Int} {ty fr : Ty} {lb : Int} {ks : List Tm} {d : Int} (h : sShape D N (.mk k nm num ty fr lb ks) d = true) : d ≤ D ∧ ∀ i, (hi : i < ks.length) → sShape D N ks[i] (d + 1) = true := by
 rw [sShape] at h
 simp only [Bool.and_eq_true, decide_eq_true_eq] at h
 exact ⟨h.1.1.1, (sShapeL_iff D N ks _).1 h.2⟩
mutual
theorem mScan_shape (M D N : Int) : ∀ (t : Tm) (deep c : Int), c ≤ M → ((mScan M D N t deep c).1 = true ↔ sShape D N t deep = true ∧ c + tmCount t ≤ M)
 | .mk k nm num ty fr lb ks, deep, c, hc => by
  rw [mScan, tmCount]
  by_cases h : c + 1 > M ∨ deep > D ∨ k = N ∨ tmNode k nm num ty fr lb ks.length = false
  ·rw [if_pos h]
   constructor
   ·intro h; cases h
   ·rintro ⟨h1, h2⟩
    rcases h with h | h
    ·omega
    ·rw [sShape_no h] at h1; cases h1
  ·rw [if_neg h]
   have hn : tmNode k nm num ty fr lb ks.length = true := by
    cases hx : tmNode k nm num ty fr lb ks.length with
    | true => rfl
    | false => exact absurd (Or.inr (Or.inr (Or.inr hx))) h
   rw [sShape_go (by omega) (by omega) hn, mScanL_shape M D N ks (deep + 1) (c + 1) (by omega)]
   constructor
   ·rintro ⟨a, b⟩; exact ⟨a, by omega⟩
   ·rintro ⟨a, b⟩; exact ⟨a, by omega⟩
theorem mScanL_shape (M D N : Int) : ∀ (ts : List Tm) (deep c : Int), c ≤ M → ((mScanL M D N ts deep c).1 = true ↔ sShapeL D N ts deep = true ∧ c + tmCountL ts ≤ M)
 | [], deep, c, hc => by simp [mScanL, sShapeL, tmCountL]; omega
 | t :: ts, deep, c, hc => by
  have h0 := mScan_shape M D N t deep c hc
  rw [mScanL, sShapeL, tmCountL, Bool.and_eq_true]
  by_cases h : (mScan M D N t deep c).1 = true
  ·rw [if_pos h, mScan_count M D N t deep c h, mScanL_shape M D N ts deep _ (h0.1 h).2]
   have := h0.1 h
   constructor
   ·rintro ⟨a, b⟩; exact ⟨⟨this.1, a⟩, by omega⟩
   ·rintro ⟨⟨_, a⟩, b⟩; exact ⟨a, by omega⟩
  ·rw [if_neg h]
   constructor
   ·intro h'; cases h'
   ·rintro ⟨⟨a, _⟩, b⟩
    exact absurd (h0.2 ⟨a, by omega⟩) h
end
theorem castValid_iff (t : Tm) : castValid t = true ↔ sShape 40 13 t 1 = true ∧ tmCount t ≤ 200 := by
 have := mScan_shape 200 40 13 t 1 0 (by omega)
 rw [castValid, this]
 constructor
 ·rintro ⟨a, b⟩; exact ⟨a, by omega⟩
 ·rintro ⟨a, b⟩; exact ⟨a, by omega⟩
theorem l2Count_fn (D N : Int) : ∀ (t : Tm) (d : Int) (G : IM) (cells : List Value), d ≤ 40 → sShape D N t (D + 1 - d) = true → tmCount t ≤ 4294967296 → RTm G t cells →
  Fn Tryz.prog 65 [.agg ⟨cells⟩, .int .i64 d] [] G (Val (.int .i64 (tmCount t : Int)) G) := by
 refine Tm.ind fun k nm num ty fr lb ks ih d G cells hd hv hcnt hr => ?_
 have hone := hr.one
 obtain ⟨hv1, hv2⟩ := sShape_inv hv
 obtain ⟨tk, tks⟩ := ty
 obtain ⟨fk, fks⟩ := fr
 obtain ⟨pt, ct, pf, cf, p, c, es, rfl, hk, hnum, hlb, hty, hfr, hsl, hkl⟩ := hr.open9
 have hn := hsl.le
 clear hr
 rw [tmCount] at hcnt ⊢
 refine fn_enter Tryz.func65 rfl Tryz.ntmps65 Tryz.results65 rfl ?_
 intro w0
 refine tS (tR ?_)
 refine sE (step_box_a rfl rfl) rfl (fun b3 => ?_)
 refine sQ (pA rfl) rfl (sD (nS (tS (tR (sQ (pA rfl) rfl (sD ?_))))))
 refine nS (tS (tS (tR (sQ (pA rfl) rfl (sD (nS ?_))))))
 refine tri_block ?_
 (refine tri_loopN (fun (i : Nat) => ⟨[(6, .int .i64 i), (5, .int .i64 ((tmCountL (ks.take i) + 1 : Nat) : Int)), (2, .pointer (some ⟨b3, 0, none⟩)), (1, .int .i64 d)], [.blk b3 [.int .i64 k, .string nm, .int .i64 num, .int .i64 tk, .slice pt tks.length ct, .int .i64 fk, .slice pf fks.length cf, .int .i64 lb, .slice p ks.length c]], G⟩) (fun i => i ≤ ks.length) (fun i => ks.length - i) 0 ?_ ?_ ?_)
 exact sMk
 exact Nat.zero_le _
 (rintro i hi)
 refine tS (tS (tR (sQ (pM rfl) rfl (sQ (pF0 rfl) rfl (sL (lBs rfl rfl) rfl rfl ?_)))))
 refine sQ (pLn rfl rfl) rfl (sB (pure_lss rfl rfl) rfl rfl (fun h30 => ?_) (fun h30 => ?_))
 refine sQ (pM rfl) rfl (sQ (pM rfl) rfl (sP (pure_gtr_t rfl rfl (by omega)) rfl rfl ?_))
 refine sQ (pPt rfl rfl) rfl (sD (nS (cT rfl ?_)))
 refine tK (nS (tS (tri_block (tR (sQ (pM rfl) rfl (sQ (pF0 rfl) rfl ?_))))))
 refine sL (lBs rfl rfl) rfl rfl ?_
 refine sQ (pM rfl) rfl ?_
 (obtain ⟨b, o, e, rfl, hl, hat, hre, hgb⟩ := hsl.kidTm hkl (i := i) (by omega) (by omega); have htk := tmCountL_take (ks := ks) (i := i) (by omega); refine sP (pIN rfl rfl rfl (by omega)) rfl rfl ?_)
 refine sL (load_a rfl rfl (hat _) hl) rfl rfl ?_
 refine sQ (pM rfl) rfl (sP (pure_sub rfl rfl (by omega) (by omega)) rfl rfl ?_)
 (have hvk := hv2 i (by omega); rw [show D + 1 - d + 1 = D + 1 - (d - 1) by omega] at hvk; refine seq_val rfl (ih ks[i] (List.getElem_mem (by omega)) (d - 1) G _ (by omega) hvk (by omega) hre) rfl rfl ?_)
 refine sP (pure_add rfl rfl (by omega) (by omega)) rfl rfl ?_
 refine sQ (pA rfl) rfl (sD (nrm_block (nS (tR (sQ (pM rfl) rfl (sP (pure_add rfl rfl (by omega) (by omega)) rfl rfl ?_))))))
 refine sQ (pA rfl) rfl (sD ?_)
 (refine nrm_loopN (i + 1) ?_ ?_ ?_; rw [show ((tmCountL (ks.take (i + 1)) + 1 : Nat) : Int) = ((tmCountL (ks.take i) + 1 : Nat) : Int) + (tmCount ks[i] : Int) from by rw [tmCountL_succ (by omega)]; omega])
 exact sMk
 omega
 omega
 refine sQ (pM rfl) rfl (sK rfl rfl (sK rfl rfl (sQ (pPf rfl rfl) rfl (sD (nS (cF rfl ?_))))))
 refine tri_exit ?_
 refine ext_seq ?_
 refine ext_loopN ?_
 refine ext_block_eq ?_
 refine nS (tS (tR (sQ (pM rfl) rfl (sQ (pA rfl) rfl (sD (nS ?_))))))
 refine tT (rF1 (rT rfl) ?_)
 (obtain rfl : i = ks.length := (by omega); rw [List.take_length]; exact ⟨rfl, rfl, rfl⟩)
theorem sCastValid_fn (t : Tm) (G : IM) (cells : List Value) (hcnt : tmCount t ≤ 4294967296) (hr : RTm G t cells) :
  Fn Tryz.prog 86 [.agg ⟨cells⟩] [] G (Val (.bool (castValid t)) G) := by
 have hl := hr.len
 have hv := l4Shape_fn t 40 G cells (by omega) hr
 have hc := fun h => l2Count_fn 40 13 t 40 G cells (by omega) h hcnt hr
 have hi := castValid_iff t
 obtain ⟨R, hR⟩ : ∃ R, castValid t = R := ⟨_, rfl⟩
 rw [hR] at hi ⊢
 refine fn_enter Tryz.func86 rfl Tryz.ntmps86 Tryz.results86 rfl ?_
 intro w0
 refine tS (tR ?_)
 refine sE (step_box_a rfl rfl) rfl (fun b3 => ?_)
 refine sQ (pA rfl) rfl (sD (nS (tS (tR (sL (load_a rfl rfl (at_blk_all (by repeat first | exact mH | apply mT)) (by assumption)) rfl rfl ?_)))))
 refine seq_valb rfl (hv) rfl rfl (fun h10 => ?_) (fun h10 => ?_)
 refine sQ (pM rfl) rfl (sL (load_a rfl rfl (at_blk_all (by repeat first | exact mH | apply mT)) (by assumption)) rfl rfl ?_)
 refine seq_val rfl (hc (by assumption)) rfl rfl ?_
 refine sB (pure_leq rfl rfl) rfl rfl (fun h14 => ?_) (fun h14 => ?_)
 refine sQ (pPt rfl rfl) rfl (sQ (pA rfl) rfl (sD (nS (tT (rF1 (rT rfl) ?_)))))
 exact ⟨rfl, by rw [hi.2 ⟨by assumption, by omega⟩], rfl⟩
 refine sQ (pPt rfl rfl) rfl (sQ (pA rfl) rfl (sD (nS (tT (rF1 (rT rfl) ?_)))))
 exact ⟨rfl, by (cases R with | false => rfl | true => (exfalso; have h0 := hi.1 rfl; first | omega | simp_all)), rfl⟩
 refine sQ (pM rfl) rfl (sK rfl rfl (sK rfl rfl (sK rfl rfl (sQ (pPf rfl rfl) rfl (sQ (pA rfl) rfl (sD ?_))))))
 refine nS (tT (rF1 (rT rfl) ?_))
 exact ⟨rfl, by (cases R with | false => rfl | true => (exfalso; have h0 := hi.1 rfl; first | omega | simp_all)), rfl⟩
theorem Sw.same {hp hp' : List Ent} {e : Ent} (h : Sw hp e e hp') : hp' = hp := by
 generalize he : e = e' at h
 have : ∀ {hp e e' hp'}, Sw hp e e' hp' → e = e' → hp' = hp := by
  intro hp e e' hp' h
  induction h with
  | here => rintro rfl; rfl
  | there _ ih => intro he; rw [ih he]
 subst he
 exact this h rfl
section
variable {P : Program} {Γ : Ctx} {env : Env} {hp : List Ent} {G : IM} {ty : TypeId}
theorem step_appendSl {d : Nat} {x y : Operand} {t el : TypeId} {i : TyR} {sz by' : Nat} {zs : List Value} [hI : TyI P t i] {ie : TyR} [hEl : TyI P el ie] (hd' : i.desc = .slice el) [hE : TySz P el sz by' zs] {p q : Option Addr} {c n m c2 : Nat} {cs news : List Value} {hp' : Option Addr → Nat → List Ent}
  (hd : Nat.blt d Γ.n = true) (hx : evo env x = some (.slice p n c)) (hy : evo env y = some (.slice q m c2)) (hsz : Nat.blt 0 sz = true)
  (hm : ∀ p' c', Sw hp (.slc p c el sz n cs) (.slc p' c' el sz (n + m) (cs ++ news)) (hp' p' c'))
  (hS : Sl G q m c2 sz news) (h1 : ∀ u ∈ news, u.oneCell' = true) (hc : n ≤ c)
  (h63 : n + m ≤ maxLen) (hb : (n + m) * by' ≤ 140737488355328) :
  StepOp P Γ ⟨env, hp, G⟩ (some d) (.call ⟨.builtin .append, ⟨[x, y]⟩, ⟨[t, t]⟩⟩) ty (vfp p) (fun σ' => ∃ p' c', σ' = ⟨(d, .slice p' (n + m) c') :: env, hp' p' c', G⟩) := by
 obtain ⟨hl, _, _, hat⟩ := hS
 rcases Nat.eq_zero_or_pos m with rfl | hm0
 ·obtain rfl : news = [] := List.length_eq_zero_iff.1 (by omega)
  have hpu := pure_append0 (P := P) (Γ := Γ) (hp := hp) (G := G) (ty := ty) (t := t) (el := el) hd' hx hy hc
  refine ⟨fun a w hs pos af gd Q next hn => ?_⟩
  simp only [Oper.wp, hpu.run a w hs, Oper.upon]
  refine hn _ _ _ (hs.put d _ (by simpa using hd) hs.res) (Ext.refl _ _) ⟨p, c, ?_⟩
  have h0 := hm p c
  simp only [Nat.add_zero, List.append_nil] at h0 ⊢
  rw [h0.same]
 ·obtain ⟨b, o, full, rfl, hg, hv⟩ := hat.resolve_left (by omega)
  exact step_append hd' hd hx hy hsz hm (at_im hg hv) hl h1 h63 hb
variable {K : Po} {ops : Array Oper} {rest : List Oper} {pos : String} {af : Array Edge} {gd : Option (Nat × Bool)}
theorem seq_appendSl {d : Nat} {x y : Operand} {t el : TypeId} {i : TyR} {sz by' : Nat} {zs : List Value} [hI : TyI P t i] {ie : TyR} [hEl : TyI P el ie] [hE : TySz P el sz by' zs] {p q : Option Addr} {c n m c2 : Nat} {cs news : List Value} {hp' : Option Addr → Nat → List Ent}
  (hd' : i.desc = .slice el) (hd : Nat.blt d Γ.n = true) (hx : evo env x = some (.slice p n c)) (hy : evo env y = some (.slice q m c2)) (hsz : Nat.blt 0 sz = true)
  (hm : ∀ p' c', Sw hp (.slc p c el sz n cs) (.slc p' c' el sz (n + m) (cs ++ news)) (hp' p' c'))
  (hS : Sl G q m c2 sz news) (h1 : ∀ u ∈ news, u.oneCell' = true) (hc : n ≤ c)
  (h63 : n + m ≤ maxLen) (hb : (n + m) * by' ≤ 140737488355328) (hw : wantG ops env gd = some true)
  (k : ∀ p' c', TriL P Γ ops rest K ⟨(d, .slice p' (n + m) c') :: env, hp' p' c', G⟩) : TriL P Γ ops (⟨some d, .call ⟨.builtin .append, ⟨[x, y]⟩, ⟨[t, t]⟩⟩, ty, pos, af, gd⟩ :: rest) K ⟨env, hp, G⟩ :=
 seq_step (step_appendSl hd' hd hx hy hsz hm hS h1 hc h63 hb) hw (by rintro _ ⟨p', c', rfl⟩; exact k p' c')
theorem one_appendSl {H : List (Nat × Nat)} {fuel : Nat} {listed l' : List Bool} {j d : Nat} {cs : List Value} {x y : Operand} {t el : TypeId} {i : TyR} {sz by' : Nat} {zs : List Value} [hI : TyI P t i] {ie : TyR} [hEl : TyI P el ie] [hE : TySz P el sz by' zs] {p q : Option Addr} {c n m c2 : Nat} {news : List Value} {hp' : Option Addr → Nat → List Ent} {H' : List (Nat × Nat)}
  (hi : ops[j]? = some ⟨some d, .call ⟨.builtin .append, ⟨[x, y]⟩, ⟨[t, t]⟩⟩, ty, pos, af, gd⟩) (hd' : i.desc = .slice el)
  (hd : Nat.blt d Γ.n = true) (hx : evo env x = some (.slice p n c)) (hy : evo env y = some (.slice q m c2)) (hsz : Nat.blt 0 sz = true)
  (hm : ∀ p' c', Sw hp (.slc p c el sz n cs) (.slc p' c' el sz (n + m) (cs ++ news)) (hp' p' c'))
  (hS : Sl G q m c2 sz news) (h1 : ∀ u ∈ news, u.oneCell' = true) (hc : n ≤ c)
  (h63 : n + m ≤ maxLen) (hb : (n + m) * by' ≤ 140737488355328) (hw : wantG ops env gd = some true) (hl : listed.set j true = l')
  (hok : HmOk ops j hp G (.slc p c el sz n cs) H H')
  (k : ∀ p' c', AnyL P Γ ops K H' fuel l' ⟨(d, .slice p' (n + m) c') :: env, hp' p' c', G⟩) : One P Γ ops K H fuel listed j ⟨env, hp, G⟩ :=
 one_stepM hi (step_appendSl hd' hd hx hy hsz hm hS h1 hc h63 hb) hw hl (fun _ _ hs => hok.spec hs) hok.filter (by rintro _ ⟨p', c', rfl⟩; exact k p' c')
/-- The callee is handed an own entry; what it hands back comes in its place. -/
theorem one_take {H H' : List (Nat × Nat)} {fuel : Nat} {listed l' : List Bool} {j d : Nat} {f : FuncId} [hF : FunI P f] {xs : List Operand} {ats : Array TypeId} {vs : List Value} {e : Ent} {rst : List Ent} {post : IM → Value → List Ent → Prop}
  (hi : ops[j]? = some ⟨some d, .call ⟨.value (.func f), ⟨xs⟩, ats⟩, ty, pos, af, gd⟩) (hx : evl env xs = some vs) (h : Fn P f vs [e] G post) (hp' : hp.Perm ([e] ++ rst)) (hw : wantG ops env gd = some true) (hd : Nat.blt d Γ.n = true) (hl : listed.set j true = l')
  (hok : HmOk ops j hp G e H H')
  (k : ∀ v G' outs, IMle G G' → post G' v outs → AnyL P Γ ops K H' fuel l' ⟨(d, v) :: env, outs ++ rst, G'⟩) : One P Γ ops K H fuel listed j ⟨env, hp, G⟩ :=
 one_stepM hi (step_call_own hx h hp' hd) hw hl (fun _ _ hs => by simpa [Fp] using hok.spec hs) hok.filter (by rintro _ ⟨v, G', outs, rfl, hle, hq⟩; exact k v G' outs hle hq)
end
theorem Sl.of_blk {G : IM} {b n c sz : Nat} {A C cs : List Value} (hl : cs.length = n * sz) (hc : n ≤ c) (hm : c ≤ maxLen) (hg : G b = some (A ++ (cs ++ C))) : Sl G (some ⟨b, A.length, none⟩) n c sz cs := by
 refine ⟨hl, hc, hm, .inr ⟨b, A.length, _, rfl, hg, fun j v hj => ?_⟩⟩
 have hlt : j < cs.length := (List.getElem?_eq_some_iff.1 hj).1
 rw [List.getElem?_append, if_neg (by omega), List.getElem?_append, if_pos (by omega), show A.length + j - A.length = j by omega]
 exact hj
/-- These blocks lie in G, and among F. -/
def InG (G : IM) (bs : Blks) (F : List Nat) : Prop := (bs.map Prod.fst).Sublist F ∧ ∀ q ∈ bs, G q.1 = some q.2
/- Sizes. -/
mutual
theorem small_ty : ∀ t : Ty, szTy t ≤ 4294967296 → t.small
 | .mk _ ks, h => by
  rw [szTy] at h
  have := sumTy_nn ks
  simp only [Ty.small]
  exact ⟨by omega, small_tyL ks (by omega)⟩
theorem small_tyL : ∀ ts : List Ty, sumTy ts ≤ 4294967296 → Ty.smallL ts
 | [], _ => by simp [Ty.smallL]
 | t :: ts, h => by
  rw [sumTy] at h
  have := szTy_nn t
  have := sumTy_nn ts
  simp only [Ty.smallL]
  exact ⟨small_ty t (by omega), small_tyL ts (by omega)⟩
end
mutual
theorem small_tm : ∀ t : Tm, szTm t ≤ 4294967296 → t.small
 | .mk _ nm _ ty fr _ ks, h => by
  rw [szTm] at h
  have := sumTm_nn ks
  have := szTy_nn ty
  have := szTy_nn fr
  simp only [Tm.small]
  exact ⟨by omega, small_ty ty (by omega), small_ty fr (by omega), by omega, small_tmL ks (by omega)⟩
theorem small_tmL : ∀ ts : List Tm, sumTm ts ≤ 4294967296 → Tm.smallL ts
 | [], _ => by simp [Tm.smallL]
 | t :: ts, h => by
  rw [sumTm] at h
  have := szTm_nn t
  have := sumTm_nn ts
  simp only [Tm.smallL]
  exact ⟨small_tm t (by omega), small_tmL ts (by omega)⟩
end
mutual
theorem count_sz : ∀ t : Tm, (tmCount t : Int) ≤ szTm t + 1
 | .mk _ nm _ ty fr _ ks => by
  have := count_szL ks
  have := szTy_nn ty
  have := szTy_nn fr
  rw [szTm, tmCount]; omega
theorem count_szL : ∀ ts : List Tm, (tmCountL ts : Int) ≤ ts.length + sumTm ts
 | [] => by rw [sumTm, tmCountL]; simp
 | t :: ts => by
  have := count_sz t
  have := count_szL ts
  rw [sumTm, tmCountL, List.length_cons]; omega
end
def tyAny : Ty := .mk 1 []
/-- A type of at most that height whose nodes have the operands that they must have. -/
def tAh : Nat → Ty → Prop
 | 0, .mk k ks => ks = [] ∧ k ≠ 4 ∧ k ≠ 5
 | n + 1, .mk k ks => (k = 4 ∨ k = 5 → ks.length = 2) ∧ (k ≠ 4 → k ≠ 5 → ks.length = 0) ∧ ∀ t ∈ ks, tAh n t
mutual
/-- The nodes have the operands that they must have. -/
def tAr : Ty → Prop
 | .mk k ks => (k = 4 ∨ k = 5 → ks.length = 2) ∧ (k ≠ 4 → k ≠ 5 → ks.length = 0) ∧ tArL ks
def tArL : List Ty → Prop
 | [] => True
 | t :: ts => tAr t ∧ tArL ts
end
theorem tArL_mem : ∀ {ts : List Ty}, tArL ts ↔ ∀ t ∈ ts, tAr t
 | [] => by simp [tArL]
 | t :: ts => by simp only [tArL, tArL_mem (ts := ts), List.forall_mem_cons]
theorem tAh.ar : ∀ {n : Nat} {t : Ty}, tAh n t → tAr t
 | 0, .mk k ks, h => by
  obtain ⟨rfl, h1, h2⟩ := h
  rw [tAr]
  exact ⟨fun h => by omega, fun _ _ => rfl, by rw [tArL]; trivial⟩
 | n + 1, .mk k ks, h => by
  obtain ⟨h1, h2, h3⟩ := h
  rw [tAr]
  exact ⟨h1, h2, tArL_mem.2 fun t ht => (h3 t ht).ar⟩
theorem tAh.up : ∀ {n : Nat} {t : Ty}, tAh n t → tAh (n + 1) t
 | 0, .mk k ks, h => by
  obtain ⟨rfl, h1, h2⟩ := h
  exact ⟨fun h => by omega, fun _ _ => rfl, by simp⟩
 | n + 1, .mk k ks, h => by
  obtain ⟨h1, h2, h3⟩ := h
  exact ⟨h1, h2, fun t ht => (h3 t ht).up⟩
theorem tAh.le {n m : Nat} {t : Ty} (h : tAh n t) (hm : n ≤ m) : tAh m t := by
 induction hm with
 | refl => exact h
 | step _ ih => exact ih.up
theorem tAh_any (n : Nat) : tAh n tyAny := by
 refine tAh.le (n := 0) ⟨rfl, by decide, by decide⟩ (Nat.zero_le n)
theorem tAh_leaf (n : Nat) {k : Int} (h4 : k ≠ 4) (h5 : k ≠ 5) : tAh n (.mk k []) := tAh.le (n := 0) ⟨rfl, h4, h5⟩ (Nat.zero_le n)
theorem tAr_any : tAr tyAny := (tAh_any 0).ar
mutual
theorem tAr.small : ∀ {t : Ty}, tAr t → t.small
 | .mk k ks, h => by
  rw [tAr] at h
  rw [Ty.small]
  exact ⟨by have h1 := h.1; have h2 := h.2.1; omega, tArL.small h.2.2⟩
theorem tArL.small : ∀ {ts : List Ty}, tArL ts → Ty.smallL ts
 | [], _ => by rw [Ty.smallL]; trivial
 | t :: ts, h => by
  rw [tArL] at h
  rw [Ty.smallL]
  exact ⟨h.1.small, tArL.small h.2⟩
end
theorem tAh_sz : ∀ {n : Nat} {t : Ty}, tAh n t → szTy t ≤ ((2 ^ (n + 1) - 2 : Nat) : Int)
 | 0, .mk k ks, h => by
  obtain ⟨rfl, h1, h2⟩ := h
  rw [szTy, sumTy]; simp
 | n + 1, .mk k ks, h => by
  obtain ⟨h1, h2, h3⟩ := h
  have hp : 2 ≤ 2 ^ (n + 1) := by
   have := Nat.pow_le_pow_right (n := 2) (by omega) (show 1 ≤ n + 1 by omega)
   simpa using this
  have e : 2 ^ (n + 1 + 1) = 2 ^ (n + 1) * 2 := Nat.pow_succ ..
  have hl : ks.length = 0 ∨ ks.length = 2 := by omega
  rw [szTy]
  match ks, hl, h3 with
  | [], _, _ => rw [sumTy]; simp
  | [a, b], _, h3 =>
   have := tAh_sz (h3 a (by simp))
   have := tAh_sz (h3 b (by simp))
   simp only [sumTy, List.length_cons, List.length_nil]; omega
def tyInt : Ty := .mk 2 []
def tyBool : Ty := .mk 3 []
mutual
def tSame : Ty → Ty → Bool
 | .mk k ks, t => decide (k = t.k) && tSameL ks t.ks
def tSameL : List Ty → List Ty → Bool
 | [], [] => true
 | a :: xs, b :: ys => tSame a b && tSameL xs ys
 | _, _ => false
end
theorem tSame_mk (k k' : Int) (ks ks' : List Ty) : tSame (.mk k ks) (.mk k' ks') = (decide (k = k') && tSameL ks ks') := by rw [tSame]; rfl
mutual
theorem tSame_iff : ∀ (a b : Ty), tSame a b = true ↔ a = b
 | .mk k ks, .mk k' ks' => by
  rw [tSame_mk, Bool.and_eq_true, decide_eq_true_eq, tSameL_iffE ks ks', Ty.mk.injEq]
theorem tSameL_iffE : ∀ (xs ys : List Ty), tSameL xs ys = true ↔ xs = ys
 | [], [] => by simp [tSameL]
 | [], b :: ys => by simp [tSameL]
 | a :: xs, [] => by simp [tSameL]
 | a :: xs, b :: ys => by
  rw [tSameL, Bool.and_eq_true, tSame_iff a b, tSameL_iffE xs ys, List.cons.injEq]
end
theorem tSame_self (a : Ty) : tSame a a = true := (tSame_iff a a).2 rfl
theorem tSameL_iff : ∀ (xs ys : List Ty), tSameL xs ys = true ↔ xs.length = ys.length ∧ ∀ i, (h : i < xs.length) → (h' : i < ys.length) → tSame xs[i] ys[i] = true
 | [], [] => by simp [tSameL]
 | [], b :: ys => by simp [tSameL]
 | a :: xs, [] => by simp [tSameL]
 | a :: xs, b :: ys => by
  simp only [tSameL, Bool.and_eq_true, tSameL_iff xs ys, List.length_cons]
  constructor
  ·rintro ⟨h1, h2, h3⟩
   refine ⟨by omega, fun i hi hi' => ?_⟩
   cases i with
   | zero => exact h1
   | succ i => exact h3 i (by simpa using hi) (by simpa using hi')
  ·rintro ⟨h1, h2⟩
   exact ⟨h2 0 (by simp) (by simp), by omega, fun i hi hi' => h2 (i + 1) (by simpa using hi) (by simpa using hi')⟩

/-- What stands for names, the eldest first. -/
abbrev Cx := List (ByteArray × Ty)
/-- The youngest of the first n. -/
def lookN (cx : Cx) (nm : ByteArray) : Nat → Option Ty
 | 0 => none
 | n + 1 => match cx[n]? with
  | some b => if b.1 = nm then some b.2 else lookN cx nm n
  | none => lookN cx nm n
def mLook (cx : Cx) (nm : ByteArray) : Option Ty := lookN cx nm cx.length
theorem lookN_eq {cx : Cx} {nm x : ByteArray} {n : Nat} {t : Ty} (h : cx[n]? = some (x, t)) (he : x = nm) : lookN cx nm (n + 1) = some t := by
 rw [lookN, h]; simp only [he, if_true]
theorem lookN_ne {cx : Cx} {nm x : ByteArray} {n : Nat} {t : Ty} (h : cx[n]? = some (x, t)) (he : ¬x = nm) : lookN cx nm (n + 1) = lookN cx nm n := by
 rw [lookN, h]; simp only [he, if_false]

mutual
/-- The meet of two types that are consistent. -/
def mMeet : Ty → Ty → Ty
 | .mk k ks, b => if k = 1 then b else if b.k = 1 then .mk k ks else .mk k (mMeetL ks b.ks)
def mMeetL : List Ty → List Ty → List Ty
 | a :: xs, b :: ys => mMeet a b :: mMeetL xs ys
 | _, _ => []
end
theorem mMeet_mk (k k' : Int) (ks ks' : List Ty) : mMeet (.mk k ks) (.mk k' ks') = if k = 1 then .mk k' ks' else if k' = 1 then .mk k ks else .mk k (mMeetL ks ks') := by rw [mMeet]; rfl
/-- The operands of a type as one of a kind. -/
def mMatch (kind : Int) (t : Ty) : Option (Ty × Ty) :=
 if t.k = kind then some (t.ks.getD 0 ty0, t.ks.getD 1 ty0) else if t.k = 1 then some (tyAny, tyAny) else none
/-- What a node wants of its operands, and its type. -/
def mWanted (cx : Cx) (k : Int) (nm : ByteArray) (ty : Ty) (h : List Ty) : Option (List Ty × Ty) :=
 if k = 1 then (match mLook cx nm with | some t => some ([], t) | none => none)
 else if k = 2 then some ([], tyInt)
 else if k = 3 ∨ k = 4 then some ([], tyBool)
 else if k = 5 then some ([], .mk 4 [ty, h.getD 0 ty0])
 else if k = 6 then (match mMatch 4 (h.getD 0 ty0) with | some (a, b) => if tCons (h.getD 1 ty0) a = true then some ([.mk 4 [a, b], a], b) else none | none => none)
 else if k = 7 ∨ k = 8 then (if tCons (h.getD 0 ty0) tyInt = true ∧ tCons (h.getD 1 ty0) tyInt = true then some ([tyInt, tyInt], if k = 8 then tyBool else tyInt) else none)
 else if k = 9 then (if tCons (h.getD 0 ty0) tyBool = true ∧ tCons (h.getD 1 ty0) (h.getD 2 ty0) = true then some ([tyBool, mMeet (h.getD 1 ty0) (h.getD 2 ty0), mMeet (h.getD 1 ty0) (h.getD 2 ty0)], mMeet (h.getD 1 ty0) (h.getD 2 ty0)) else none)
 else if k = 10 then some ([], .mk 5 [h.getD 0 ty0, h.getD 1 ty0])
 else if k = 13 then (if tCons (h.getD 0 ty0) ty = true then some ([ty], ty) else none)
 else (match mMatch 5 (h.getD 0 ty0) with | some (a, b) => some ([.mk 5 [a, b]], if k = 12 then b else a) | none => none)
def mNodeT (cx : Cx) (k : Int) (nm : ByteArray) (ty : Ty) (h : List Ty) : Option (List Ty × Ty) := match mWanted cx k nm ty h with
 | some (w, t) => if tValid t = true then some (w, t) else none
 | none => none
/-- The first of two lists, as far as it goes, is the second. -/
def sameTo : List Ty → List Ty → Bool
 | [], _ => true
 | a :: xs, b :: ys => tSame a b && sameTo xs ys
 | _ :: _, [] => false
def inCx (cx : Cx) (k : Int) (nm : ByteArray) (ty : Ty) : Cx := if k = 5 then cx ++ [(nm, ty)] else cx
mutual
/-- The type of a term with casts. -/
def castTy (cx : Cx) : Tm → Option Ty
 | .mk k nm num ty fr lb ks => match castTyL (inCx cx k nm ty) ks with
  | none => none
  | some h => if k = 14 then (if tSame (h.getD 0 ty0) fr = true then some ty else none)
   else match mNodeT cx k nm ty h with
    | none => none
    | some (w, t) => if sameTo w h = true then some t else none
def castTyL (cx : Cx) : List Tm → Option (List Ty)
 | [] => some []
 | t :: ts => match castTy cx t with
  | none => none
  | some u => match castTyL cx ts with
   | none => none
   | some us => some (u :: us)
end
def mCastTypeOf (e : Tm) : Option Ty := if castValid e = true then castTy [] e else none
theorem ownType_fn : ∀ (t : Ty) (G : IM) (cells : List Value), t.small → RTy G t cells →
  Fn Tryz.prog 56 [.agg ⟨cells⟩] [] G (Imm fun G' v => ∃ cells' F, v = .agg ⟨cells'⟩ ∧ STy (Dif G' G) t cells' F ∧ F.Nodup) := by
 refine Ty.ind fun k ks ih G cells hts hr => ?_
 simp only [Ty.small] at hts
 obtain ⟨hsm, hks⟩ := hts
 obtain ⟨p, c, es, rfl, hk, hsl, hkl⟩ := hr.open
 simp only [Ty.k, Ty.ks] at hk hsl hkl ⊢
 have hn := hsl.le
 refine fn_enter Tryz.func56 rfl Tryz.ntmps56 Tryz.results56 rfl ?_
 intro w0
 refine tS (tR ?_)
 refine sE (step_box_a rfl rfl) rfl (fun b3 => ?_)
 refine sE (step_alloc rfl) rfl (fun b4 => ?_)
 refine sD (nS (tS (tR (sQ (pF0 rfl) rfl (sL (lBs rfl rfl) rfl rfl ?_)))))
 refine sQ (pBd rfl rfl) rfl ?_
 refine sE (step_alloc rfl) rfl (fun b12 => ?_)
 refine sS' ?_
 refine sD (nS (tS (tS (tR (sQ (pF0 rfl) rfl (sL (lBs rfl rfl) rfl rfl ?_))))))
 refine sQ (pLn rfl rfl) rfl (sQ (pM rfl) rfl (sD (nS (tri_block ?_))))
 (refine tri_nil 32 2 ?_; refine tri_loopN (fun (x : Nat × Option Addr × Nat × List (List Value) × List Nat × IM) => ⟨[(12, .int .i64 x.1), (11, .int .i64 ks.length), (10, .slice p ks.length c), (3, .pointer (some ⟨b12, 0, none⟩)), (2, .pointer (some ⟨b4, 0, none⟩))], [.blk b12 [.int .i64 k, .slice x.2.1 x.1 x.2.2.1], .slc x.2.1 x.2.2.1 32 2 x.1 x.2.2.2.1.flatten, .blk b4 [.int .i64 0, .slice none 0 0]], x.2.2.2.2.2⟩) (fun x => x.1 ≤ ks.length ∧ IMle G x.2.2.2.2.2 ∧ STyL (Dif x.2.2.2.2.2 G) (ks.take x.1) x.2.2.2.1 x.2.2.2.2.1 ∧ x.2.2.2.2.1.Nodup) (fun x => ks.length - x.1) (0, none, 0, [], [], G) ?_ ?_ ?_)
 (simp only [flat_snoc]; exact sub_mk (by repeat (first | exact SubE.nil | refine SubE.cons rfl ?_)) (by repeat (first | exact SubH.refl | exact SubH.nil | refine SubH.cons (by repeat (first | exact Pk.here | apply Pk.there)) ?_)))
 exact ⟨by simp, IMle.refl _, by simp [STyL], by simp⟩
 (rintro ⟨i, pn, cn, es', F, Gi⟩ ⟨hi, hle, hst, hnd⟩; simp only [] at hi hle hst hnd ⊢; replace hsl := hsl.mono hle; replace hkl := hkl.mono hle)
 refine tS (tR (sB (pure_lss rfl rfl) rfl rfl (fun h32 => ?_) (fun h32 => ?_)))
 refine sD (nS (tS (cT rfl ?_)))
 refine tK (nS (tS (tri_block (tS (tR ?_)))))
 (obtain ⟨b, o, p2, c2, rfl, hat, hre, hgb⟩ := hsl.kidTy hkl (i := i) (by omega) (by omega); refine sP (pIN rfl rfl rfl (by omega)) rfl rfl ?_)
 refine sL (load_a rfl rfl (hat _) rfl) rfl rfl ?_
 refine sE (step_alloc rfl) rfl (fun b45 => ?_)
 refine sS' ?_
 refine sD (nS (tri_draw mixed rfl ?_))
 refine any_pure (i := 0) (l' := [tt,ff,ff,ff,ff,ff,ff,ff]) rfl npI (pF0 rfl) rfl (by kernel_rfl) rfl rfl ?_
 refine aL 1 rfl (lBs rfl rfl) rfl ?_
 refine aL 2 rfl (lBa rfl rfl) rfl ?_
 refine aO' 3 ?_
 (refine one_imm rfl rfl (ih _ (List.getElem_mem (by omega)) _ _ (Ty.smallL_mem hks _ (List.getElem_mem (by omega))) hre) rfl rfl rfl (fun v G1 hle1 hh => ?_); obtain ⟨cells', F', rfl, hs', hnd'⟩ := hh; obtain ⟨p3, c3, es3, rfl, _⟩ := hs'.R.open)
 refine aO' 4 ?_
 (refine one_step0 rfl (step_buildSlice rfl rfl rfl (by omega) (by unfold maxLen; omega) rfl) rfl rfl ?_; rintro _ ⟨b56, rfl⟩)
 refine aO' 5 ?_
 refine one_append rfl rfl rfl rfl rfl rfl (fun _ _ => by repeat (first | exact Sw.here | apply Sw.there)) (at_slc_all (by repeat first | exact mH | apply mT)) rfl (by simp [Value.oneCell']) (by unfold maxLen; omega) (by omega) rfl rfl (by repeat (first | exact HmOk.nil | apply HmOk.dep (by kernel_rfl) | apply HmOk.blk (by kernel_rfl) (by repeat (first | exact Pk.here | apply Pk.there)) (by repeat first | exact mH | apply mT))) (fun pn' cn' => ?_)
 refine aP 6 rfl (pF0 rfl) rfl ?_
 refine aO' 7 ?_
 refine one_store rfl rfl rfl rfl rfl rfl rfl rfl (by kernel_rfl) (by repeat first | exact Sw.here | apply Sw.there) (by rfl) ?_
 refine aD' ?_
 refine nrm_block (nS (tR (sP (pure_add rfl rfl (by omega) (by omega)) rfl rfl ?_)))
 refine sQ (pM rfl) rfl (sD (nrm_loopN (i + 1, pn', cn', es' ++ [[.int .i64 ks[i].k, .slice p3 ks[i].ks.length c3]], F ++ F', G1) ?_ ?_ ?_))
 (simp only [flat_snoc]; exact sub_mk (by repeat (first | exact SubE.nil | refine SubE.cons rfl ?_)) (by repeat (first | exact SubH.refl | exact SubH.nil | refine SubH.cons (by repeat (first | exact Pk.here | apply Pk.there)) ?_)))
 exact ⟨by omega, hle.trans hle1, STyL.step hst hnd hle hle1 (by omega) hs' hnd'⟩
 (show ks.length - (i + 1) < ks.length - i; omega)
 refine sD (nS (tS (cF rfl ?_)))
 refine tri_exit ?_
 refine ext_seq ?_
 refine ext_loopN ?_
 refine ext_block_eq ?_
 refine nS (tS (tR (sL (lBa rfl rfl) rfl rfl ?_)))
 refine sS' ?_
 refine sD (nS ?_)
 (refine ret_freeze (by repeat (first | exact Pk.here | apply Pk.there)) (fun G2 hle2 hsl2 hno2 => ?_); obtain rfl : i = ks.length := by omega)
 refine tT (rF1 (rC rfl (lBa rfl rfl)) ?_)
 (rw [List.take_length] at hst; obtain ⟨F2, hf1, hf2⟩ := STy.fin hst hnd hle hle2 hsl2 hno2 hk; exact ⟨rfl, _, F2, rfl, hf1, hf2⟩)
/-- What a copy of a type comes to. -/
def ToTy (t : Ty) (G : IM) : IM → Value → List Ent → Prop := Imm fun G' v => ∃ cells' F, v = .agg ⟨cells'⟩ ∧ STy (Dif G' G) t cells' F ∧ F.Nodup
def ToTyS (ks : List Ty) (G : IM) : IM → Value → List Ent → Prop := Imm fun G' v => ∃ p c F, v = .slice p ks.length c ∧ STyS (Dif G' G) ks p c F ∧ F.Nodup
def ToTm (t : Tm) (G : IM) : IM → Value → List Ent → Prop := Imm fun G' v => ∃ cells' F, v = .agg ⟨cells'⟩ ∧ STm (Dif G' G) t cells' F ∧ F.Nodup
def ToTmS (ks : List Tm) (G : IM) : IM → Value → List Ent → Prop := Imm fun G' v => ∃ p c F, v = .slice p ks.length c ∧ STmS (Dif G' G) ks p c F ∧ F.Nodup
theorem toTypeS_of (ks : List Ty) (ih : ∀ t ∈ ks, ∀ (G : IM) (cells : List Value), t.small → RTy G t cells → Fn Tryz.prog 21 [.agg ⟨cells⟩] [] G (ToTy t G)) (hks : Ty.smallL ks) (hsm : ks.length ≤ 4294967296)
  (G : IM) (p : Option Addr) (c : Nat) (es : List (List Value)) (hsl : SlE G p ks.length c 2 es) (hkl : RTyL G ks es) :
  Fn Tryz.prog 42 [.slice p ks.length c] [] G (ToTyS ks G) := by
 have hn := hsl.le
 refine fn_enter Tryz.func42 rfl Tryz.ntmps42 Tryz.results42 rfl ?_
 intro w0
 refine tS (tR (sQ (pA rfl) rfl (sD (nS (tS (tR ?_))))))
 refine sQ (pM rfl) rfl (sQ (pLn rfl rfl) rfl ?_)
 (refine seq_makeBlk rfl rfl rfl (by omega) (by unfold maxLen; omega) rfl (fun bm => ?_))
 refine sQ (pA rfl) rfl (sD (nS (tS (tS (tR (sQ (pA rfl) rfl ?_))))))
 refine sD (nS (tri_block ?_))
 (refine tri_loopN (fun (x : Nat × List (List Value) × List Nat × IM) => ⟨[(4, .int .i64 x.1), (3, .slice (some ⟨bm, 0, none⟩) ks.length ks.length), (0, .slice p ks.length c)], [.blk bm (x.2.1.flatten ++ zrep (ks.length - x.1) [.int .i64 0, .slice none 0 0])], x.2.2.2⟩) (fun x => x.1 ≤ ks.length ∧ IMle G x.2.2.2 ∧ STyL (Dif x.2.2.2 G) (ks.take x.1) x.2.1 x.2.2.1 ∧ x.2.2.1.Nodup) (fun x => ks.length - x.1) (0, [], [], G) ?_ ?_ ?_)
 (simp only [flat_snoc]; exact sMk)
 exact ⟨by simp, IMle.refl _, by simp [STyL], by simp⟩
 (rintro ⟨i, es', F, Gi⟩ ⟨hi, hle, hst, hnd⟩; simp only [] at hi hle hst hnd ⊢; replace hsl := hsl.mono hle; replace hkl := hkl.mono hle)
 refine tS (tS (tR (sQ (pM rfl) rfl (sQ (pM rfl) rfl (sQ (pLn rfl rfl) rfl (sB (pure_lss rfl rfl) rfl rfl (fun h31 => ?_) (fun h31 => ?_)))))))
 refine sD (nS (cT rfl ?_))
 refine tK (nS (tS (tri_block (tR (sQ (pM rfl) rfl (sQ (pM rfl) rfl ?_))))))
 refine sQ (pM rfl) rfl (sQ (pM rfl) rfl ?_)
 (obtain ⟨b, o, p2, c2, rfl, hat, hre, hgb⟩ := hsl.kidTy hkl (i := i) (by omega) (by omega); refine sP (pIN rfl rfl rfl (by omega)) rfl rfl ?_)
 refine sL (load_a rfl rfl (hat _) rfl) rfl rfl ?_
 (refine seq_imm rfl (ih ks[i] (List.getElem_mem (by omega)) _ _ (Ty.smallL_mem hks _ (List.getElem_mem (by omega))) hre) rfl rfl (fun v G1 hle1 hh => ?_); obtain ⟨cells', F', rfl, hs', hnd'⟩ := hh; obtain ⟨p3, c3, rfl, _⟩ := hs'.open)
 refine sP (pIN rfl rfl rfl (by omega)) rfl rfl ?_
 (refine seq_store rfl rfl rfl rfl rfl rfl (by repeat first | exact Sw.here | apply Sw.there) (upd_next (by rw [hst.R.len, List.length_take]; omega) hst.R.all rfl rfl (by omega)) ?_)
 refine sD (nrm_block (nS (tR (sQ (pM rfl) rfl (sP (pure_add rfl rfl (by omega) (by omega)) rfl rfl ?_)))))
 refine sQ (pA rfl) rfl (sD (nrm_loopN (i + 1, es' ++ [[.int .i64 ks[i].k, .slice p3 ks[i].ks.length c3]], F ++ F', G1) ?_ ?_ ?_))
 (simp only [flat_snoc]; exact sMk)
 exact ⟨by omega, hle.trans hle1, STyL.step hst hnd hle hle1 (by omega) hs' hnd'⟩
 (show ks.length - (i + 1) < ks.length - i; omega)
 refine sD (nS (cF rfl ?_))
 refine tri_exit ?_
 refine ext_seq ?_
 refine ext_loopN ?_
 refine ext_block_eq ?_
 refine nS (tS (tR (sQ (pM rfl) rfl (sQ (pA rfl) rfl (sD (nS ?_))))))
 (obtain rfl : i = ks.length := (by omega); rw [zrep_self]; refine tri_freezes (bs := [(bm, es'.flatten)]) (List.Perm.refl _) (fun hn2 hd2 hle2 => ?_))
 refine tT (rF1 (rT rfl) ?_)
 (rw [List.take_length] at hst; obtain ⟨F2, hf1, hf2⟩ := STyS.fin hst hnd hle hle2 (sl_wi (by rw [flat_len hst.R.all, hst.R.len]) (by unfold maxLen; omega)) (wi_no hd2); exact ⟨rfl, _, _, F2, rfl, hf1, hf2⟩)
theorem toType_fn : ∀ (t : Ty) (G : IM) (cells : List Value), t.small → RTy G t cells → Fn Tryz.prog 21 [.agg ⟨cells⟩] [] G (ToTy t G) := by
 refine Ty.ind fun k ks ih G cells hts hr => ?_
 simp only [Ty.small] at hts
 obtain ⟨hsm, hks⟩ := hts
 obtain ⟨p, c, es, rfl, hk, hsl, hkl⟩ := hr.open
 simp only [Ty.k, Ty.ks] at hk hsl hkl ⊢
 have hS := toTypeS_of ks ih hks hsm G p c es hsl hkl
 refine fn_enter Tryz.func21 rfl Tryz.ntmps21 Tryz.results21 rfl ?_
 intro w0
 refine tS (tR ?_)
 refine sE (step_box_a rfl rfl) rfl (fun b3 => ?_)
 refine sE (step_alloc rfl) rfl (fun b4 => ?_)
 refine sD (nS (tS (tR ?_)))
 refine sE (step_alloc rfl) rfl (fun b9 => ?_)
 refine sD (nS (tS (tR (sQ (pF0 rfl) rfl (sL (lBs rfl rfl) rfl rfl ?_)))))
 refine sQ (pF0 rfl) rfl (sS' ?_)
 refine sD (nS (tS (tR (sQ (pF0 rfl) rfl (sL (lBs rfl rfl) rfl rfl ?_)))))
 (refine seq_imm rfl hS rfl rfl (fun v G1 hle1 hh => ?_); obtain ⟨p1, c1, F1, rfl, hs1, hn1⟩ := hh)
 refine sQ (pF0 rfl) rfl (sS' ?_)
 refine sD (nS (tS (tR (sL (lBa rfl rfl) rfl rfl ?_))))
 refine sS' ?_
 refine sD (nS (tT (rF1 (rC rfl (lBa rfl rfl)) ?_)))
 exact ⟨rfl, _, F1, rfl, hs1.ty hk, hn1⟩
theorem toTermS_of (ks : List Tm) (ih : ∀ t ∈ ks, ∀ (G : IM) (cells : List Value), t.small → RTm G t cells → Fn Tryz.prog 7 [.agg ⟨cells⟩] [] G (ToTm t G)) (hks : Tm.smallL ks) (hsm : ks.length ≤ 4294967296)
  (G : IM) (p : Option Addr) (c : Nat) (es : List (List Value)) (hsl : SlE G p ks.length c 9 es) (hkl : RTmL G ks es) :
  Fn Tryz.prog 22 [.slice p ks.length c] [] G (ToTmS ks G) := by
 have hn := hsl.le
 refine fn_enter Tryz.func22 rfl Tryz.ntmps22 Tryz.results22 rfl ?_
 intro w0
 refine tS (tR (sQ (pA rfl) rfl (sD (nS (tS (tR ?_))))))
 refine sQ (pM rfl) rfl (sQ (pLn rfl rfl) rfl ?_)
 (refine seq_makeBlk rfl rfl rfl (by omega) (by unfold maxLen; omega) rfl (fun bm => ?_))
 refine sQ (pA rfl) rfl (sD (nS (tS (tS (tR (sQ (pA rfl) rfl ?_))))))
 refine sD (nS (tri_block ?_))
 (refine tri_loopN (fun (x : Nat × List (List Value) × List Nat × IM) => ⟨[(4, .int .i64 x.1), (3, .slice (some ⟨bm, 0, none⟩) ks.length ks.length), (0, .slice p ks.length c)], [.blk bm (x.2.1.flatten ++ zrep (ks.length - x.1) [.int .i64 0, .string ⟨⟨[]⟩⟩, .int .i64 0, .int .i64 0, .slice none 0 0, .int .i64 0, .slice none 0 0, .int .i64 0, .slice none 0 0])], x.2.2.2⟩) (fun x => x.1 ≤ ks.length ∧ IMle G x.2.2.2 ∧ STmL (Dif x.2.2.2 G) (ks.take x.1) x.2.1 x.2.2.1 ∧ x.2.2.1.Nodup) (fun x => ks.length - x.1) (0, [], [], G) ?_ ?_ ?_)
 (simp only [flat_snoc]; exact sMk)
 exact ⟨by simp, IMle.refl _, by simp [STmL], by simp⟩
 (rintro ⟨i, es', F, Gi⟩ ⟨hi, hle, hst, hnd⟩; simp only [] at hi hle hst hnd ⊢; replace hsl := hsl.mono hle; replace hkl := hkl.mono hle)
 refine tS (tS (tR (sQ (pM rfl) rfl (sQ (pM rfl) rfl (sQ (pLn rfl rfl) rfl (sB (pure_lss rfl rfl) rfl rfl (fun h31 => ?_) (fun h31 => ?_)))))))
 refine sD (nS (cT rfl ?_))
 refine tK (nS (tS (tri_block (tR (sQ (pM rfl) rfl (sQ (pM rfl) rfl ?_))))))
 refine sQ (pM rfl) rfl (sQ (pM rfl) rfl ?_)
 (obtain ⟨b, o, e, rfl, hl, hat, hre, hgb⟩ := hsl.kidTm hkl (i := i) (by omega) (by omega); refine sP (pIN rfl rfl rfl (by omega)) rfl rfl ?_)
 refine sL (load_a rfl rfl (hat _) hl) rfl rfl ?_
 (refine seq_imm rfl (ih ks[i] (List.getElem_mem (by omega)) _ _ (Tm.smallL_mem hks _ (List.getElem_mem (by omega))) hre) rfl rfl (fun v G1 hle1 hh => ?_); obtain ⟨cells', F', rfl, hs', hnd'⟩ := hh; have hl9 := hs'.R.len; have hone := hs'.R.one)
 refine sP (pIN rfl rfl rfl (by omega)) rfl rfl ?_
 (refine seq_store rfl rfl rfl hl9 hone rfl (by repeat first | exact Sw.here | apply Sw.there) (upd_next (by rw [hst.R.len, List.length_take]; omega) hst.R.all rfl hl9 (by omega)) ?_)
 refine sD (nrm_block (nS (tR (sQ (pM rfl) rfl (sP (pure_add rfl rfl (by omega) (by omega)) rfl rfl ?_)))))
 refine sQ (pA rfl) rfl (sD (nrm_loopN (i + 1, es' ++ [cells'], F ++ F', G1) ?_ ?_ ?_))
 (simp only [flat_snoc]; exact sMk)
 exact ⟨by omega, hle.trans hle1, STmL.step hst hnd hle hle1 (by omega) hs' hnd'⟩
 (show ks.length - (i + 1) < ks.length - i; omega)
 refine sD (nS (cF rfl ?_))
 refine tri_exit ?_
 refine ext_seq ?_
 refine ext_loopN ?_
 refine ext_block_eq ?_
 refine nS (tS (tR (sQ (pM rfl) rfl (sQ (pA rfl) rfl (sD (nS ?_))))))
 (obtain rfl : i = ks.length := (by omega); rw [zrep_self]; refine tri_freezes (bs := [(bm, es'.flatten)]) (List.Perm.refl _) (fun hn2 hd2 hle2 => ?_))
 refine tT (rF1 (rT rfl) ?_)
 (rw [List.take_length] at hst; obtain ⟨F2, hf1, hf2⟩ := STmS.fin hst hnd hle hle2 (sl_wi (by rw [flat_len hst.R.all, hst.R.len]) (by unfold maxLen; omega)) (wi_no hd2); exact ⟨rfl, _, _, F2, rfl, hf1, hf2⟩)
theorem toTerm_fn : ∀ (t : Tm) (G : IM) (cells : List Value), t.small → RTm G t cells → Fn Tryz.prog 7 [.agg ⟨cells⟩] [] G (ToTm t G) := by
 refine Tm.ind fun k nm num ty fr lb ks ih G cells hts hr => ?_
 have hone := hr.one
 simp only [Tm.small] at hts
 obtain ⟨hnm, hty', hfr', hsm, hks⟩ := hts
 obtain ⟨tk, tks⟩ := ty
 obtain ⟨fk, fks⟩ := fr
 obtain ⟨pt, ct, pf, cf, p, c, es, rfl, hk, hnum, hlb, hty, hfr, hsl, hkl⟩ := hr.open9
 have hT := toType_fn (.mk tk tks) G _ hty' hty
 refine fn_enter Tryz.func7 rfl Tryz.ntmps7 Tryz.results7 rfl ?_
 intro w0
 refine tS (tR ?_)
 refine sE (step_box_a rfl rfl) rfl (fun b3 => ?_)
 refine sE (step_alloc rfl) rfl (fun b4 => ?_)
 refine sD (nS (tS (tR ?_)))
 refine sE (step_alloc rfl) rfl (fun b9 => ?_)
 refine sD (nS (tS (tR (sQ (pF0 rfl) rfl (sL (lBs rfl rfl) rfl rfl ?_)))))
 refine sQ (pF0 rfl) rfl (sS' ?_)
 refine sD (nS (tS (tR (sQ (pF0 rfl) rfl (sL (lBs rfl rfl) rfl rfl ?_)))))
 refine sQ (pF0 rfl) rfl (sS' ?_)
 refine sD (nS (tS (tR (sQ (pF0 rfl) rfl (sL (lBs rfl rfl) rfl rfl ?_)))))
 refine sQ (pF0 rfl) rfl (sS' ?_)
 refine sD (nS (tS (tR (sQ (pF0 rfl) rfl (sL (lBa rfl rfl) rfl rfl ?_)))))
 (refine seq_imm rfl hT rfl rfl (fun v G1 hle1 hh => ?_); obtain ⟨cs1, F1, rfl, hs1, hn1⟩ := hh; obtain ⟨p1, c1, rfl, _⟩ := hs1.open; have hF := toType_fn (.mk fk fks) G1 _ hfr' (hfr.mono hle1))
 refine sQ (pF0 rfl) rfl (sS' ?_)
 refine sD (nS (tS (tR (sQ (pF0 rfl) rfl (sL (lBa rfl rfl) rfl rfl ?_)))))
 (refine seq_imm rfl hF rfl rfl (fun v G2 hle2 hh => ?_); obtain ⟨cs2, F2, rfl, hs2, hn2⟩ := hh; obtain ⟨p2, c2, rfl, _⟩ := hs2.open; have hS := toTermS_of ks ih hks hsm G2 p c es (hsl.mono (hle1.trans hle2)) (hkl.mono (hle1.trans hle2)))
 refine sQ (pF0 rfl) rfl (sS' ?_)
 refine sD (nS (tS (tR (sQ (pF0 rfl) rfl (sL (lBs rfl rfl) rfl rfl ?_)))))
 refine sQ (pF0 rfl) rfl (sS' ?_)
 refine sD (nS (tS (tR (sQ (pF0 rfl) rfl (sL (lBs rfl rfl) rfl rfl ?_)))))
 (refine seq_imm rfl hS rfl rfl (fun v G3 hle3 hh => ?_); obtain ⟨p3, c3, F3, rfl, hs3, hn3⟩ := hh)
 refine sQ (pF0 rfl) rfl (sS' ?_)
 refine sD (nS (tS (tR (sL (lBa rfl rfl) rfl rfl ?_))))
 refine sS' ?_
 refine sD (nS (tT (rF1 (rC rfl (lBa rfl rfl)) ?_)))
 (obtain ⟨F, hf1, hf2⟩ := STm.mk3 (nm := nm) hk hnum hlb hle1 hle2 hle3 hs1 hn1 hs2 hn2 hs3 hn3; exact ⟨rfl, _, F, rfl, hf1, hf2⟩)
theorem l1Copy_fn : ∀ (t : Ty) (G : IM) (cells : List Value), t.small → RTy G t cells → Fn Tryz.prog 115 [.agg ⟨cells⟩] [] G (ToTy t G) := by
 refine Ty.ind fun k ks ih G cells hts hr => ?_
 simp only [Ty.small] at hts
 obtain ⟨hsm, hks⟩ := hts
 obtain ⟨p, c, es, rfl, hk, hsl, hkl⟩ := hr.open
 simp only [Ty.k, Ty.ks] at hk hsl hkl ⊢
 have hn := hsl.le
 refine fn_enter Tryz.func115 rfl Tryz.ntmps115 Tryz.results115 rfl ?_
 intro w0
 refine tS (tR ?_)
 refine sE (step_box_a rfl rfl) rfl (fun b3 => ?_)
 refine sE (step_alloc rfl) rfl (fun b4 => ?_)
 refine sD (nS (tS (tR (sQ (pF0 rfl) rfl (sL (lBs rfl rfl) rfl rfl ?_)))))
 refine sQ (pBd rfl rfl) rfl ?_
 refine sE (step_alloc rfl) rfl (fun b12 => ?_)
 refine sS' ?_
 refine sD (nS (tS (tS (tR (sQ (pA rfl) rfl (sD ?_))))))
 refine nS (tri_block ?_)
 (refine tri_nil 32 2 ?_; refine tri_loopN (fun (x : Nat × Option Addr × Nat × List (List Value) × List Nat × IM) => ⟨[(4, .int .i64 x.1), (3, .pointer (some ⟨b12, 0, none⟩)), (1, .pointer (some ⟨b3, 0, none⟩)), (2, .pointer (some ⟨b4, 0, none⟩))], [.blk b12 [.int .i64 k, .slice x.2.1 x.1 x.2.2.1], .slc x.2.1 x.2.2.1 32 2 x.1 x.2.2.2.1.flatten, .blk b4 [.int .i64 0, .slice none 0 0], .blk b3 [.int .i64 k, .slice p ks.length c]], x.2.2.2.2.2⟩) (fun x => x.1 ≤ ks.length ∧ IMle G x.2.2.2.2.2 ∧ STyL (Dif x.2.2.2.2.2 G) (ks.take x.1) x.2.2.2.1 x.2.2.2.2.1 ∧ x.2.2.2.2.1.Nodup) (fun x => ks.length - x.1) (0, none, 0, [], [], G) ?_ ?_ ?_)
 (simp only [flat_snoc]; exact sMk)
 exact ⟨by simp, IMle.refl _, by simp [STyL], by simp⟩
 (rintro ⟨i, pn, cn, es', F, Gi⟩ ⟨hi, hle, hst, hnd⟩; simp only [] at hi hle hst hnd ⊢; replace hsl := hsl.mono hle; replace hkl := hkl.mono hle)
 refine tS (tS (tR (sQ (pM rfl) rfl (sQ (pF0 rfl) rfl (sL (lBs rfl rfl) rfl rfl ?_)))))
 refine sQ (pLn rfl rfl) rfl (sB (pure_lss rfl rfl) rfl rfl (fun h34 => ?_) (fun h34 => ?_))
 refine sD (nS (cT rfl ?_))
 refine tK (nS (tS (tri_block ?_)))
 (obtain ⟨b, o, p2, c2, rfl, hat, hre, hgb⟩ := hsl.kidTy hkl (i := i) (by omega) (by omega); refine tri_draw mixed rfl ?_)
 refine any_pure (i := 0) (l' := [tt,ff,ff,ff,ff,ff,ff,ff,ff,ff,ff,ff]) rfl npI (pF0 rfl) rfl (by kernel_rfl) rfl rfl ?_
 refine aL 1 rfl (lBs rfl rfl) rfl ?_
 refine aP 2 rfl (pF0 rfl) rfl ?_
 refine aL 3 rfl (lBs rfl rfl) rfl ?_
 refine aP 4 rfl (pM rfl) rfl ?_
 refine aP 5 rfl (pIN rfl rfl rfl (by omega)) rfl ?_
 refine aL 6 rfl (load_a rfl rfl (hat _) rfl) rfl ?_
 refine aO' 7 ?_
 (refine one_imm rfl rfl (ih ks[i] (List.getElem_mem (by omega)) _ _ (Ty.smallL_mem hks _ (List.getElem_mem (by omega))) hre) rfl rfl rfl (fun v G1 hle1 hh => ?_); obtain ⟨cells', F', rfl, hs', hnd'⟩ := hh; obtain ⟨p3, c3, es3, rfl, _⟩ := hs'.R.open)
 refine aO' 8 ?_
 (refine one_step0 rfl (step_buildSlice rfl rfl rfl (by omega) (by unfold maxLen; omega) rfl) rfl rfl ?_; rintro _ ⟨b53, rfl⟩)
 refine aO' 9 ?_
 refine one_append rfl rfl rfl rfl rfl rfl (fun _ _ => by repeat (first | exact Sw.here | apply Sw.there)) (at_slc_all (by repeat first | exact mH | apply mT)) rfl (by simp [Value.oneCell']) (by unfold maxLen; omega) (by omega) rfl rfl (by repeat (first | exact HmOk.nil | apply HmOk.dep (by decide +kernel) | apply HmOk.blk (by decide +kernel) (by repeat (first | exact Pk.here | apply Pk.there)) (by repeat first | exact mH | apply mT))) (fun pn' cn' => ?_)
 refine aP 10 rfl (pF0 rfl) rfl ?_
 refine aO' 11 ?_
 refine one_store rfl rfl rfl rfl rfl rfl rfl rfl (by kernel_rfl) (by repeat first | exact Sw.here | apply Sw.there) (by rfl) ?_
 refine aD' ?_
 refine nrm_block (nS (tR (sQ (pM rfl) rfl (sP (pure_add rfl rfl (by omega) (by omega)) rfl rfl ?_))))
 refine sQ (pA rfl) rfl (sD (nrm_loopN (i + 1, pn', cn', es' ++ [[.int .i64 ks[i].k, .slice p3 ks[i].ks.length c3]], F ++ F', G1) ?_ ?_ ?_))
 (simp only [flat_snoc]; exact sMk)
 exact ⟨by omega, hle.trans hle1, STyL.step hst hnd hle hle1 (by omega) hs' hnd'⟩
 (show ks.length - (i + 1) < ks.length - i; omega)
 refine sD (nS (cF rfl ?_))
 refine tri_exit ?_
 refine ext_seq ?_
 refine ext_loopN ?_
 refine ext_block_eq ?_
 refine nS (tS (tR (sL (lBa rfl rfl) rfl rfl ?_)))
 refine sS' ?_
 refine sD (nS ?_)
 (refine ret_freeze (by repeat (first | exact Pk.here | apply Pk.there)) (fun G2 hle2 hsl2 hno2 => ?_); obtain rfl : i = ks.length := (by omega))
 refine tT (rF1 (rC rfl (lBa rfl rfl)) ?_)
 (rw [List.take_length] at hst; obtain ⟨F2, hf1, hf2⟩ := STy.fin hst hnd hle hle2 hsl2 hno2 hk; exact ⟨rfl, _, F2, rfl, hf1, hf2⟩)
theorem l2Copy_fn : ∀ (t : Tm) (G : IM) (cells : List Value), t.small → RTm G t cells → Fn Tryz.prog 82 [.agg ⟨cells⟩] [] G (ToTm t G) := by
 refine Tm.ind fun k nm num ty fr lb ks ih G cells hts hr => ?_
 have hone := hr.one
 simp only [Tm.small] at hts
 obtain ⟨hnm, hty', hfr', hsm, hks⟩ := hts
 obtain ⟨tk, tks⟩ := ty
 obtain ⟨fk, fks⟩ := fr
 obtain ⟨pt, ct, pf, cf, p, c, es, rfl, hk, hnum, hlb, hty, hfr, hsl, hkl⟩ := hr.open9
 have hn := hsl.le
 have hT := l1Copy_fn (.mk tk tks) G _ hty' hty
 refine fn_enter Tryz.func82 rfl Tryz.ntmps82 Tryz.results82 rfl ?_
 intro w0
 refine tS (tR ?_)
 refine sE (step_box_a rfl rfl) rfl (fun b3 => ?_)
 refine sE (step_alloc rfl) rfl (fun b4 => ?_)
 refine sD (nS (tS (tR (sL (lBa rfl rfl) rfl rfl ?_))))
 refine sE (step_alloc rfl) rfl (fun b10 => ?_)
 refine sS' ?_
 refine sD (nS (tS (tR (sQ (pF0 rfl) rfl (sL (lBa rfl rfl) rfl rfl ?_)))))
 (refine seq_imm rfl hT rfl rfl (fun v G1 hle1 hh => ?_); obtain ⟨cs1, F1, rfl, hs1, hn1⟩ := hh; obtain ⟨p1, c1, rfl, _⟩ := hs1.open; have hF := l1Copy_fn (.mk fk fks) G1 _ hfr' (hfr.mono hle1))
 refine sQ (pF0 rfl) rfl (sS' ?_)
 refine sD (nS (tS (tR (sQ (pF0 rfl) rfl (sL (lBa rfl rfl) rfl rfl ?_)))))
 (refine seq_imm rfl hF rfl rfl (fun v G2 hle2 hh => ?_); obtain ⟨cs2, F2, rfl, hs2, hn2⟩ := hh; obtain ⟨p2, c2, rfl, _⟩ := hs2.open; replace hsl := hsl.mono (hle1.trans hle2); replace hkl := hkl.mono (hle1.trans hle2))
 refine sQ (pF0 rfl) rfl (sS' ?_)
 refine sD (nS (tS (tR (sQ (pF0 rfl) rfl (sS' ?_)))))
 refine sD (nS (tS (tS (tR (sQ (pA rfl) rfl (sD ?_))))))
 refine nS (tri_block ?_)
 (refine tri_nil 35 9 ?_; refine tri_loopN (fun (x : Nat × Option Addr × Nat × List (List Value) × List Nat × IM) => ⟨[(4, .int .i64 x.1), (3, .pointer (some ⟨b10, 0, none⟩)), (1, .pointer (some ⟨b3, 0, none⟩)), (2, .pointer (some ⟨b4, 0, none⟩))], [.blk b10 [.int .i64 k, .string nm, .int .i64 num, .int .i64 tk, .slice p1 tks.length c1, .int .i64 fk, .slice p2 fks.length c2, .int .i64 lb, .slice x.2.1 x.1 x.2.2.1], .slc x.2.1 x.2.2.1 35 9 x.1 x.2.2.2.1.flatten, .blk b4 [.int .i64 0, .string ⟨⟨[]⟩⟩, .int .i64 0, .int .i64 0, .slice none 0 0, .int .i64 0, .slice none 0 0, .int .i64 0, .slice none 0 0], .blk b3 [.int .i64 k, .string nm, .int .i64 num, .int .i64 tk, .slice pt tks.length ct, .int .i64 fk, .slice pf fks.length cf, .int .i64 lb, .slice p ks.length c]], x.2.2.2.2.2⟩) (fun x => x.1 ≤ ks.length ∧ IMle G2 x.2.2.2.2.2 ∧ STmL (Dif x.2.2.2.2.2 G2) (ks.take x.1) x.2.2.2.1 x.2.2.2.2.1 ∧ x.2.2.2.2.1.Nodup) (fun x => ks.length - x.1) (0, none, 0, [], [], G2) ?_ ?_ ?_)
 (simp only [flat_snoc]; exact sMk)
 exact ⟨by simp, IMle.refl _, by simp [STmL], by simp⟩
 (rintro ⟨i, pn, cn, es', F, Gi⟩ ⟨hi, hle, hst, hnd⟩; simp only [] at hi hle hst hnd ⊢; replace hsl := hsl.mono hle; replace hkl := hkl.mono hle)
 refine tS (tS (tR (sQ (pM rfl) rfl (sQ (pF0 rfl) rfl (sL (lBs rfl rfl) rfl rfl ?_)))))
 refine sQ (pLn rfl rfl) rfl (sB (pure_lss rfl rfl) rfl rfl (fun h56 => ?_) (fun h56 => ?_))
 refine sD (nS (cT rfl ?_))
 refine tK (nS (tS (tri_block ?_)))
 (obtain ⟨b, o, e, rfl, hl, hat, hre, hgb⟩ := hsl.kidTm hkl (i := i) (by omega) (by omega); have hone := hre.one; refine tri_draw mixed rfl ?_)
 refine any_pure (i := 0) (l' := [tt,ff,ff,ff,ff,ff,ff,ff,ff,ff,ff,ff]) rfl npI (pF0 rfl) rfl (by kernel_rfl) rfl rfl ?_
 refine aL 1 rfl (lBs rfl rfl) rfl ?_
 refine aP 2 rfl (pF0 rfl) rfl ?_
 refine aL 3 rfl (lBs rfl rfl) rfl ?_
 refine aP 4 rfl (pM rfl) rfl ?_
 refine aP 5 rfl (pIN rfl rfl rfl (by omega)) rfl ?_
 refine aL 6 rfl (load_a rfl rfl (hat _) hl) rfl ?_
 refine aO' 7 ?_
 (refine one_imm rfl rfl (ih ks[i] (List.getElem_mem (by omega)) _ _ (Tm.smallL_mem hks _ (List.getElem_mem (by omega))) hre) rfl rfl rfl (fun v G3 hle3 hh => ?_); obtain ⟨cells', F', rfl, hs', hnd'⟩ := hh; obtain ⟨qt, dt, et', qf, df, ef', q3, d3, es3, rfl, _⟩ := hs'.R.open)
 refine aO' 8 ?_
 (refine one_step0 rfl (step_buildSlice rfl rfl rfl (by omega) (by unfold maxLen; omega) rfl) rfl rfl ?_; rintro _ ⟨b75, rfl⟩)
 refine aO' 9 ?_
 refine one_append rfl rfl rfl rfl rfl rfl (fun _ _ => by repeat (first | exact Sw.here | apply Sw.there)) (at_slc_all (by repeat first | exact mH | apply mT)) rfl (by simp [Value.oneCell']) (by unfold maxLen; omega) (by omega) rfl rfl (by repeat (first | exact HmOk.nil | apply HmOk.dep (by decide +kernel) | apply HmOk.blk (by decide +kernel) (by repeat (first | exact Pk.here | apply Pk.there)) (by repeat first | exact mH | apply mT))) (fun pn' cn' => ?_)
 refine aP 10 rfl (pF0 rfl) rfl ?_
 refine aO' 11 ?_
 refine one_store rfl rfl rfl rfl rfl rfl rfl rfl (by kernel_rfl) (by repeat first | exact Sw.here | apply Sw.there) (by rfl) ?_
 refine aD' ?_
 refine nrm_block (nS (tR (sQ (pM rfl) rfl (sP (pure_add rfl rfl (by omega) (by omega)) rfl rfl ?_))))
 refine sQ (pA rfl) rfl (sD (nrm_loopN (i + 1, pn', cn', es' ++ [[.int .i64 ks[i].k, .string ks[i].nm, .int .i64 ks[i].num, .int .i64 ks[i].ty.k, .slice qt ks[i].ty.ks.length dt, .int .i64 ks[i].fr.k, .slice qf ks[i].fr.ks.length df, .int .i64 ks[i].lb, .slice q3 ks[i].ks.length d3]], F ++ F', G3) ?_ ?_ ?_))
 (simp only [flat_snoc]; exact sMk)
 exact ⟨by omega, hle.trans hle3, STmL.step hst hnd hle hle3 (by omega) hs' hnd'⟩
 (show ks.length - (i + 1) < ks.length - i; omega)
 refine sD (nS (cF rfl ?_))
 refine tri_exit ?_
 refine ext_seq ?_
 refine ext_loopN ?_
 refine ext_block_eq ?_
 refine nS (tS (tR (sL (lBa rfl rfl) rfl rfl ?_)))
 refine sS' ?_
 refine sD (nS ?_)
 (refine ret_freeze (by repeat (first | exact Pk.here | apply Pk.there)) (fun G4 hle4 hsl4 hno4 => ?_); obtain rfl : i = ks.length := (by omega))
 refine tT (rF1 (rC rfl (lBa rfl rfl)) ?_)
 (rw [List.take_length] at hst; obtain ⟨F3, hf1, hf2⟩ := STmS.fin hst hnd hle hle4 hsl4 hno4; obtain ⟨F5, hg1, hg2⟩ := STm.mk3 (nm := nm) hk hnum hlb hle1 hle2 (hle.trans hle4) hs1 hn1 hs2 hn2 hf1 hf2; exact ⟨rfl, _, F5, rfl, hg1, hg2⟩)
mutual
def mMap (g : Tm → Tm) : Tm → Tm
 | .mk k nm num ty fr lb ks => g (.mk k nm num ty fr lb (mMapL g ks))
def mMapL (g : Tm → Tm) : List Tm → List Tm
 | [] => []
 | t :: ts => mMap g t :: mMapL g ts
end
theorem mMapL_eq (g : Tm → Tm) : ∀ ks, mMapL g ks = ks.map (mMap g)
 | [] => rfl
 | t :: ts => by rw [mMapL, mMapL_eq g ts, List.map_cons]
mutual
theorem mMap_id : ∀ t, mMap id t = t
 | .mk k nm num ty fr lb ks => by rw [mMap, mMapL_id ks]; rfl
theorem mMapL_id : ∀ ks, mMapL id ks = ks
 | [] => rfl
 | t :: ts => by rw [mMapL, mMap_id t, mMapL_id ts]
end
/-- A term put together, its operands first. -/
theorem STm.mk3k {G G1 G2 G3 : IM} {k : Int} {nm : ByteArray} {num : Int} {ty fr : Ty} {lb : Int} {ks : List Tm} {tc fc : List Value} {p : Option Addr} {c : Nat} {F1 F2 F3 : List Nat} (hk : I64 k) (hnum : I64 num) (hlb : I64 lb)
  (hl1 : IMle G G1) (hl2 : IMle G1 G2) (hl3 : IMle G2 G3) (h3 : STmS (Dif G1 G) ks p c F3) (n3 : F3.Nodup) (h1 : STy (Dif G2 G1) ty tc F1) (n1 : F1.Nodup) (h2 : STy (Dif G3 G2) fr fc F2) (n2 : F2.Nodup) :
  ∃ F, STm (Dif G3 G) (.mk k nm num ty fr lb ks) ([.int .i64 k, .string nm, .int .i64 num] ++ tc ++ fc ++ [.int .i64 lb, .slice p ks.length c]) F ∧ F.Nodup := by
 obtain ⟨es, Fs, e1, e2, rfl, e4⟩ := h3
 have i3 : ∀ b ∈ vfp p ++ Fs, Dif G1 G b ≠ none := by
  intro b hb
  rcases List.mem_append.1 hb with hb | hb
  ·exact e4 b hb
  ·exact e2.inG b hb
 have a1 : IMle (Dif G1 G) (Dif G3 G) := Dif.mono (hl2.trans hl3)
 have a2 : IMle (Dif G2 G1) (Dif G3 G) := fun b l h => Dif.mono hl3 b l (Dif.anti hl1 b l h)
 have a3 : IMle (Dif G3 G2) (Dif G3 G) := Dif.anti (hl1.trans hl2)
 refine ⟨F1 ++ (F2 ++ (vfp p ++ Fs)), ?_, ?_⟩
 ·simp only [STm]
  exact ⟨tc, fc, p, c, es, F1, F2, Fs, rfl, hk, hnum, hlb, h1.mono a2, h2.mono a3, e1.mono a1, e2.mono a1, rfl, dmono a1 e4⟩
 ·rw [List.nodup_append, List.nodup_append]
  refine ⟨n1, ⟨n2, n3, ?_⟩, ?_⟩
  ·rintro x hx y hy rfl
   exact dif_no (dmono (Dif.mono hl2) i3) h2.inG x hy x hx rfl
  ·rintro x hx y hy rfl
   rcases List.mem_append.1 hy with hy | hy
   ·exact dif_no (dmono (Dif.anti hl1) h1.inG) h2.inG x hx x hy rfl
   ·exact dif_no i3 h1.inG x hy x hx rfl
/- What is asked of every node that comes to the change. -/
mutual
def mOk (Q : Tm → Prop) (g : Tm → Tm) : Tm → Prop
 | .mk k nm num ty fr lb ks => mOkL Q g ks ∧ Q (.mk k nm num ty fr lb (mMapL g ks))
def mOkL (Q : Tm → Prop) (g : Tm → Tm) : List Tm → Prop
 | [] => True
 | t :: ts => mOk Q g t ∧ mOkL Q g ts
end
theorem mOkL_mem {Q : Tm → Prop} {g : Tm → Tm} : ∀ {ts : List Tm}, mOkL Q g ts → ∀ t ∈ ts, mOk Q g t
 | [], _, t, h => by simp at h
 | t' :: ts, h, t, ht => by
  simp only [mOkL] at h
  rcases List.mem_cons.1 ht with rfl | ht
  ·exact h.1
  ·exact mOkL_mem h.2 t ht
mutual
theorem mOk_true (g : Tm → Tm) : ∀ t, mOk (fun _ => True) g t
 | .mk k nm num ty fr lb ks => by rw [mOk]; exact ⟨mOkL_true g ks, trivial⟩
theorem mOkL_true (g : Tm → Tm) : ∀ ts, mOkL (fun _ => True) g ts
 | [] => by rw [mOkL]; trivial
 | t :: ts => by rw [mOkL]; exact ⟨mOk_true g t, mOkL_true g ts⟩
end
/-- What is asked of a change of nodes. -/
def MapOk (g : Tm → Tm) (Q : Tm → Prop) (fid : FuncId) (us cs : List Value) : Prop := ∀ (t : Tm) (G0 G1 : IM) (cells : List Value) (F : List Nat), Q t → IMle G0 G1 → STm (Dif G1 G0) t cells F → F.Nodup →
 Fn Tryz.prog fid (us ++ [.agg ⟨cells⟩] ++ cs) [] G1 (Imm fun G2 v => ∃ cells' F', v = .agg ⟨cells'⟩ ∧ STm (Dif G2 G0) (g t) cells' F' ∧ F'.Nodup)
theorem mapped_fn (g : Tm → Tm) (Q : Tm → Prop) (fid : FuncId) [FunI Tryz.prog fid] (us cs : List Value) (hg : MapOk g Q fid us cs) : ∀ (t : Tm) (G : IM) (cells : List Value), mOk Q g t → t.small → RTm G t cells →
  Fn Tryz.prog 92 [.agg ⟨cells⟩, .func (.func fid) ⟨us⟩ ⟨cs⟩] [] G (ToTm (mMap g t) G) := by
 refine Tm.ind fun k nm num ty fr lb ks ih G cells hmo hts hr => ?_
 have hone := hr.one
 simp only [mOk] at hmo
 obtain ⟨hmoL, hQ⟩ := hmo
 simp only [Tm.small] at hts
 obtain ⟨hnm, hty', hfr', hsm, hks⟩ := hts
 obtain ⟨tk, tks⟩ := ty
 obtain ⟨fk, fks⟩ := fr
 obtain ⟨pt, ct, pf, cf, p, c, es, rfl, hk, hnum, hlb, hty, hfr, hsl, hkl⟩ := hr.open9
 have hn := hsl.le
 have hlen : (mMapL g ks).length = ks.length := by rw [mMapL_eq, List.length_map]
 have hget : ∀ i (h : i < ks.length) (h' : i < (mMapL g ks).length), (mMapL g ks)[i] = mMap g ks[i] := fun i h h' => by simp [mMapL_eq]
 refine fn_enter Tryz.func92 rfl Tryz.ntmps92 Tryz.results92 rfl ?_
 intro w0
 refine tS (tR ?_)
 refine sE (step_box_a rfl rfl) rfl (fun b3 => ?_)
 refine sE (step_alloc rfl) rfl (fun b4 => ?_)
 refine sD (nS (tS (tR (sQ (pA rfl) rfl (sD (nS ?_))))))
 refine tS (tS (tR (sQ (pF0 rfl) rfl (sL (lBs rfl rfl) rfl rfl ?_))))
 refine sQ (pLn rfl rfl) rfl (sQ (pM rfl) rfl (sD (nS (tri_block ?_))))
 (refine tri_nil 35 9 ?_; refine tri_loopN (fun (x : Nat × Option Addr × Nat × List (List Value) × List Nat × IM) => ⟨[(11, .int .i64 x.1), (10, .int .i64 ks.length), (9, .slice p ks.length c), (5, .slice x.2.1 x.1 x.2.2.1), (2, .pointer (some ⟨b3, 0, none⟩)), (1, .func (.func fid) ⟨us⟩ ⟨cs⟩), (4, .pointer (some ⟨b4, 0, none⟩))], [.slc x.2.1 x.2.2.1 35 9 x.1 x.2.2.2.1.flatten, .blk b4 [.int .i64 0, .string ⟨⟨[]⟩⟩, .int .i64 0, .int .i64 0, .slice none 0 0, .int .i64 0, .slice none 0 0, .int .i64 0, .slice none 0 0], .blk b3 [.int .i64 k, .string nm, .int .i64 num, .int .i64 tk, .slice pt tks.length ct, .int .i64 fk, .slice pf fks.length cf, .int .i64 lb, .slice p ks.length c]], x.2.2.2.2.2⟩) (fun x => x.1 ≤ ks.length ∧ IMle G x.2.2.2.2.2 ∧ STmL (Dif x.2.2.2.2.2 G) ((mMapL g ks).take x.1) x.2.2.2.1 x.2.2.2.2.1 ∧ x.2.2.2.2.1.Nodup) (fun x => ks.length - x.1) (0, none, 0, [], [], G) ?_ ?_ ?_)
 (simp only [flat_snoc]; exact sMk)
 exact ⟨by simp, IMle.refl _, by simp [STmL], by simp⟩
 (rintro ⟨i, pn, cn, es', F, Gi⟩ ⟨hi, hle, hst, hnd⟩; simp only [] at hi hle hst hnd ⊢; replace hsl := hsl.mono hle; replace hkl := hkl.mono hle)
 refine tS (tR (sB (pure_lss rfl rfl) rfl rfl (fun h28 => ?_) (fun h28 => ?_)))
 refine sD (nS (tS (cT rfl ?_)))
 refine tK (nS (tS (tri_block (tS (tR ?_)))))
 (obtain ⟨b, o, e, rfl, hl, hat, hre, hgb⟩ := hsl.kidTm hkl (i := i) (by omega) (by omega); have hone := hre.one; refine sP (pIN rfl rfl rfl (by omega)) rfl rfl ?_)
 refine sL (load_a rfl rfl (hat _) hl) rfl rfl ?_
 refine sE (step_alloc rfl) rfl (fun b41 => ?_)
 refine sS rfl rfl rfl hl hone rfl ?_ (hu := by exact upd_all hl.symm)
 refine sD (nS (tR (sQ (pM rfl) rfl (sL (load_a rfl rfl (at_blk_all (by repeat first | exact mH | apply mT)) (by assumption)) rfl rfl ?_))))
 refine sQ (pM rfl) rfl ?_
 (refine seq_imm rfl (ih ks[i] (List.getElem_mem (by omega)) _ _ (mOkL_mem hmoL _ (List.getElem_mem (by omega))) (Tm.smallL_mem hks _ (List.getElem_mem (by omega))) hre) rfl rfl (fun v G3 hle3 hh => ?_); obtain ⟨cells', F', rfl, hs', hnd'⟩ := hh; rw [← hget i (by omega) (by omega)] at hs'; have hlc := hs'.R.len; have hoc := hs'.R.one)
 (obtain ⟨v1, v2, v3, v4, v5, v6, v7, v8, v9, rfl⟩ : ∃ v1 v2 v3 v4 v5 v6 v7 v8 v9, cells' = [v1, v2, v3, v4, v5, v6, v7, v8, v9] := by obtain ⟨_, _, _, _, _, _, _, _, _, rfl, _⟩ := hs'.R.open; exact ⟨_, _, _, _, _, _, _, _, _, rfl⟩)
 (refine seq_step (step_buildSlice rfl rfl rfl (by omega) (by unfold maxLen; omega) rfl) rfl ?_; rintro _ ⟨b51, rfl⟩)
 refine seq_append rfl rfl rfl rfl rfl (fun _ _ => by repeat (first | exact Sw.here | apply Sw.there)) (at_slc_all (by repeat first | exact mH | apply mT)) rfl (fun u hu => List.all_eq_true.1 hoc u hu) (by unfold maxLen; omega) (by omega) rfl (fun pn' cn' => ?_)
 refine sQ (pA rfl) rfl (sD (nrm_block (nS (tR (sP (pure_add rfl rfl (by omega) (by omega)) rfl rfl ?_)))))
 refine sQ (pM rfl) rfl (sD (nrm_loopN (i + 1, pn', cn', es' ++ [[v1, v2, v3, v4, v5, v6, v7, v8, v9]], F ++ F', G3) ?_ ?_ ?_))
 (simp only [flat_snoc]; exact sMk)
 exact ⟨by omega, hle.trans hle3, STmL.step hst hnd hle hle3 (by omega) hs' hnd'⟩
 (show ks.length - (i + 1) < ks.length - i; omega)
 refine sD (nS (tS (cF rfl ?_)))
 refine tri_exit ?_
 refine ext_seq ?_
 refine ext_loopN ?_
 refine ext_block_eq ?_
 refine nS (tS ?_)
 (obtain rfl : i = ks.length := (by omega); refine tri_freeze (by repeat (first | exact Pk.here | apply Pk.there)) (fun G2 hle2 hsl2 hno2 => ?_); rw [← hlen, List.take_length] at hst; rw [← hlen] at hsl2; obtain ⟨F3, hf1, hf2⟩ := STmS.fin hst hnd hle hle2 hsl2 hno2; have hleG := hle.trans hle2; have hT := ownType_fn (.mk tk tks) G2 _ hty' (hty.mono hleG); refine tri_draw mixed rfl ?_)
 refine any_pure (i := 0) (l' := [tt,ff,ff,ff,ff,ff,ff,ff,ff,ff,ff,ff,ff]) rfl npI (pF0 rfl) rfl (by kernel_rfl) rfl rfl ?_
 refine aL 1 rfl (lBa rfl rfl) rfl ?_
 refine aP 3 rfl (pF0 rfl) rfl ?_
 refine aL 4 rfl (lBa rfl rfl) rfl ?_
 refine aP 6 rfl (pM rfl) rfl ?_
 refine aO' 2 ?_
 (refine one_imm rfl rfl hT rfl rfl rfl (fun v G4 hle4 hh => ?_); obtain ⟨cs1, F1, rfl, hs1, hn1⟩ := hh; obtain ⟨p1, c1, rfl, _⟩ := hs1.open; have hF := ownType_fn (.mk fk fks) G4 _ hfr' (hfr.mono (hleG.trans hle4)))
 refine aP 7 rfl (pF0 rfl) rfl ?_
 refine aO' 5 ?_
 (refine one_imm rfl rfl hF rfl rfl rfl (fun v G5 hle5 hh => ?_); obtain ⟨cs2, F2, rfl, hs2, hn2⟩ := hh; obtain ⟨p2, c2, rfl, _⟩ := hs2.open; obtain ⟨F6, hg1, hg2⟩ := STm.mk3k (nm := nm) hk hnum hlb hleG hle4 hle5 hf1 hf2 hs1 hn1 hs2 hn2; rw [hlen] at hg1; have hch := hg _ G G5 _ F6 hQ (hleG.trans (hle4.trans hle5)) hg1 hg2)
 refine aO' 8 ?_
 refine one_store rfl rfl rfl rfl rfl rfl rfl rfl (by kernel_rfl) (by repeat first | exact Sw.here | apply Sw.there) (by rfl) ?_
 refine aP 9 rfl (pF0 rfl) rfl ?_
 refine aO' 10 ?_
 refine one_store rfl rfl rfl rfl rfl rfl rfl rfl (by kernel_rfl) (by repeat first | exact Sw.here | apply Sw.there) (by rfl) ?_
 refine aP 11 rfl (pF0 rfl) rfl ?_
 refine aO' 12 ?_
 refine one_store rfl rfl rfl rfl rfl rfl rfl rfl (by kernel_rfl) (by repeat first | exact Sw.here | apply Sw.there) (by rfl) ?_
 refine aD' ?_
 refine nS (tS (tR (sQ (pM rfl) rfl (sL (lBa rfl rfl) rfl rfl ?_))))
 (refine seq_step (step_callv rfl rfl hch (List.Perm.refl _) rfl) rfl ?_; rintro _ ⟨v, G7, outs, rfl, hle7, rfl, cells7, F7, rfl, hs7, hn7⟩; have hl7 := hs7.R.len; have ho7 := hs7.R.one)
 refine sS rfl rfl rfl hl7 ho7 rfl ?_ (hu := by exact upd_all hl7.symm)
 refine sD (nS (tT (rF1 (rC rfl (load_a rfl rfl (at_blk_all (by repeat first | exact mH | apply mT)) hl7)) ?_)))
 (rw [mMap]; exact ⟨rfl, cells7, F7, rfl, hs7, hn7⟩)
theorem own1_fn (G : IM) (cells : List Value) (hl : cells.length = 9) (hone : cells.all (·.oneCell') = true) : Fn Tryz.prog 93 [.agg ⟨cells⟩] [] G (Val (.agg ⟨cells⟩) G) := by
 refine fn_enter Tryz.func93 rfl Tryz.ntmps93 Tryz.results93 rfl ?_
 intro w0
 refine tS (tR ?_)
 refine sE (step_box_a rfl rfl) rfl (fun b3 => ?_)
 refine sE (step_alloc rfl) rfl (fun b4 => ?_)
 refine sD (nS (tS (tR (sL (load_a rfl rfl (at_blk_all (by repeat first | exact mH | apply mT)) (by assumption)) rfl rfl ?_))))
 refine sS rfl rfl rfl hl hone rfl ?_ (hu := by exact upd_all hl.symm)
 refine sD (nS (tT (rF1 (rC rfl (load_a rfl rfl (at_blk_all (by repeat first | exact mH | apply mT)) hl)) ?_)))
 exact ⟨rfl, rfl, rfl⟩
theorem mapOk_id : MapOk id (fun _ => True) 93 [] [] := fun t G0 G1 cells F _ hle hs hn =>
 (own1_fn G1 cells hs.R.len hs.R.one).mono fun G' v outs _ ⟨h1, h2, h3⟩ => ⟨h3, cells, F, h2, by rw [h1]; exact hs, hn⟩
theorem own_fn (t : Tm) (G : IM) (cells : List Value) (hts : t.small) (hr : RTm G t cells) : Fn Tryz.prog 55 [.agg ⟨cells⟩] [] G (ToTm t G) := by
 have hl := hr.len
 have hone := hr.one
 have hM := mapped_fn id (fun _ => True) 93 [] [] mapOk_id t G cells (mOk_true _ t) hts hr
 rw [mMap_id] at hM
 refine fn_enter Tryz.func55 rfl Tryz.ntmps55 Tryz.results55 rfl ?_
 intro w0
 refine tS (tR ?_)
 refine sE (step_box_a rfl rfl) rfl (fun b3 => ?_)
 refine sE (step_alloc rfl) rfl (fun b4 => ?_)
 refine sD (nS (tS (tR (sL (load_a rfl rfl (at_blk_all (by repeat first | exact mH | apply mT)) (by assumption)) rfl rfl ?_))))
 (refine seq_imm rfl hM rfl rfl (fun v G3 hle3 hh => ?_); obtain ⟨cells', F', rfl, hs', hnd'⟩ := hh; have hl' := hs'.R.len; have ho' := hs'.R.one)
 refine sS rfl rfl rfl hl' ho' rfl ?_ (hu := by exact upd_all hl'.symm)
 refine sD (nS (tT (rF1 (rC rfl (load_a rfl rfl (at_blk_all (by repeat first | exact mH | apply mT)) hl')) ?_)))
 exact ⟨rfl, cells', F', rfl, hs', hnd'⟩
theorem termValid_iff (t : Tm) : termValid t = true ↔ sShape 12 14 t 1 = true ∧ tmCount t ≤ 30 := by
 have := mScan_shape 30 12 14 t 1 0 (by omega)
 rw [termValid, this]
 constructor
 ·rintro ⟨a, b⟩; exact ⟨a, by omega⟩
 ·rintro ⟨a, b⟩; exact ⟨a, by omega⟩
theorem l2Shape_fn : ∀ (t : Tm) (d : Int) (G : IM) (cells : List Value), 0 ≤ d ∧ d ≤ 12 → RTm G t cells →
  Fn Tryz.prog 64 [.agg ⟨cells⟩, .int .i64 d] [] G (Val (.bool (sShape 12 14 t (13 - d))) G) := by
 refine Tm.ind fun k nm num ty fr lb ks ih d G cells hd hr => ?_
 have hr0 := hr
 have hne := fun h : k ≠ 14 => @tmNode_ne k nm num ty fr lb ks.length h
 have har := fun h : tmNode k nm num ty fr lb ks.length = true => (tmNode_iff.1 h).1
 obtain ⟨R, hR⟩ : ∃ R, tmNode k nm num ty fr lb ks.length = R := ⟨_, rfl⟩
 rw [hR] at hne har
 have hl2 := l2Own_fn k nm num ty fr lb ks G cells hr0 R
 have hk1 := l2Kids_fn k G
 obtain ⟨tk, tks⟩ := ty
 obtain ⟨fk, fks⟩ := fr
 obtain ⟨pt, ct, pf, cf, p, c, es, rfl, hk, hnum, hlb, hty, hfr, hsl, hkl⟩ := hr.open9
 have hn := hsl.le
 clear hr hr0
 refine fn_enter Tryz.func64 rfl Tryz.ntmps64 Tryz.results64 rfl ?_
 intro w0
 refine tS (tR ?_)
 refine sE (step_box_a rfl rfl) rfl (fun b3 => ?_)
 refine sQ (pA rfl) rfl (sD (nS (tS (tS (tri_draw mixed rfl ?_)))))
 refine any_pure (i := 0) (l' := [tt,ff,ff,ff,ff,ff,ff,ff,ff,ff,ff,ff,ff,ff,ff,ff,ff,ff,ff,ff,ff]) rfl npI (pM rfl) rfl (by kernel_rfl) rfl rfl ?_
 refine any_bool (i := 1) (l' := [tt,tt,ff,ff,ff,ff,ff,ff,ff,ff,ff,ff,ff,ff,ff,ff,ff,ff,ff,ff,ff]) rfl npI (pure_lss rfl rfl) rfl (by kernel_rfl) rfl rfl (fun h11 => ?_) (fun h11 => ?_)
 refine aP 2 rfl (pM rfl) rfl ?_
 refine aK' 3 rfl rfl rfl ?_
 refine aK' 4 rfl rfl rfl ?_
 refine aK' 6 rfl rfl rfl ?_
 refine aK' 7 rfl rfl rfl ?_
 refine aK' 8 rfl rfl rfl ?_
 refine aK' 5 rfl rfl rfl ?_
 refine aK' 9 rfl rfl rfl ?_
 refine aP 10 rfl (pPt rfl rfl) rfl ?_
 refine aP 11 rfl (pM rfl) rfl ?_
 refine aK' 12 rfl rfl rfl ?_
 refine aK' 13 rfl rfl rfl ?_
 refine aK' 14 rfl rfl rfl ?_
 refine aP 15 rfl (pPt rfl rfl) rfl ?_
 refine aP 16 rfl (pM rfl) rfl ?_
 refine aK' 17 rfl rfl rfl ?_
 refine aK' 18 rfl rfl rfl ?_
 refine aK' 19 rfl rfl rfl ?_
 refine aP 20 rfl (pPt rfl rfl) rfl ?_
 refine aD' ?_
 refine nS (cT rfl ?_)
 refine tS (tR (sQ (pA rfl) rfl (sD (nS (tT (rS ?_))))))
 refine rF1 (rT rfl) ?_
 (rw [sShape_no (by rw [hR]; first | omega | exact .inr (.inr (by assumption)) | exact .inr (.inr (by cases R with | false => rfl | true => exact absurd (har rfl) (by omega))))]; exact ⟨rfl, rfl, rfl⟩)
 refine aP 2 rfl (pM rfl) rfl ?_
 refine aP 3 rfl (pF0 rfl) rfl ?_
 refine aL 4 rfl (lBs rfl rfl) rfl ?_
 refine aP 6 rfl (pF0 rfl) rfl ?_
 refine aL 7 rfl (lBs rfl rfl) rfl ?_
 refine aP 8 rfl (pLn rfl rfl) rfl ?_
 refine aO' 5 ?_
 refine one_val rfl rfl (hk1) rfl rfl rfl ?_
 refine any_bool (i := 9) (l' := [tt,tt,tt,tt,tt,tt,tt,tt,tt,tt,ff,ff,ff,ff,ff,ff,ff,ff,ff,ff,ff]) rfl npI (pure_neq rfl rfl) rfl (by kernel_rfl) rfl rfl (fun h51 => ?_) (fun h51 => ?_)
 refine aP 10 rfl (pPf rfl rfl) rfl ?_
 refine aP 11 rfl (pM rfl) rfl ?_
 refine aK' 12 rfl rfl rfl ?_
 refine aK' 13 rfl rfl rfl ?_
 refine aK' 14 rfl rfl rfl ?_
 refine aP 15 rfl (pPt rfl rfl) rfl ?_
 refine aP 16 rfl (pM rfl) rfl ?_
 refine aK' 17 rfl rfl rfl ?_
 refine aK' 18 rfl rfl rfl ?_
 refine aK' 19 rfl rfl rfl ?_
 refine aP 20 rfl (pPt rfl rfl) rfl ?_
 refine aD' ?_
 refine nS (cT rfl ?_)
 refine tS (tR (sQ (pA rfl) rfl (sD (nS (tT (rS ?_))))))
 refine rF1 (rT rfl) ?_
 (rw [sShape_no (by rw [hR]; first | omega | exact .inr (.inr (by assumption)) | exact .inr (.inr (by cases R with | false => rfl | true => exact absurd (har rfl) (by omega))))]; exact ⟨rfl, rfl, rfl⟩)
 refine aP 10 rfl (pPf rfl rfl) rfl ?_
 refine aP 11 rfl (pM rfl) rfl ?_
 refine aP 12 rfl (pF0 rfl) rfl ?_
 refine aL 13 rfl (lBs rfl rfl) rfl ?_
 refine any_bool (i := 14) (l' := [tt,tt,tt,tt,tt,tt,tt,tt,tt,tt,tt,tt,tt,tt,tt,ff,ff,ff,ff,ff,ff]) rfl npI (pE rfl rfl) rfl (by kernel_rfl) rfl rfl (fun h79 => ?_) (fun h79 => ?_)
 refine aP 15 rfl (pPf rfl rfl) rfl ?_
 refine aP 16 rfl (pM rfl) rfl ?_
 refine aK' 17 rfl rfl rfl ?_
 refine aK' 18 rfl rfl rfl ?_
 refine aK' 19 rfl rfl rfl ?_
 refine aP 20 rfl (pPt rfl rfl) rfl ?_
 refine aD' ?_
 refine nS (cT rfl ?_)
 refine tS (tR (sQ (pA rfl) rfl (sD (nS (tT (rS ?_))))))
 refine rF1 (rT rfl) ?_
 (rw [sShape_no (by rw [hR]; first | omega | exact .inr (.inr (by assumption)) | exact .inr (.inr (by cases R with | false => rfl | true => exact absurd (har rfl) (by omega))))]; exact ⟨rfl, rfl, rfl⟩)
 refine aP 15 rfl (pPf rfl rfl) rfl ?_
 refine aP 16 rfl (pM rfl) rfl ?_
 refine aL 17 rfl (lBa rfl rfl) rfl ?_
 refine aO' 18 ?_
 refine one_valb rfl rfl (hl2 (hne (by omega) (by omega))) rfl rfl rfl (fun h102 => ?_) (fun h102 => ?_)
 refine aP 19 rfl (pNt rfl) rfl ?_
 refine aP 20 rfl (pPf rfl rfl) rfl ?_
 refine aD' ?_
 refine nS (cF rfl ?_)
 refine tK (nS (tS (tS (tR (sQ (pA rfl) rfl (sD ?_))))))
 refine nS (tri_block ?_)
 (refine tri_loopN (fun (i : Nat) => ⟨[(5, .int .i64 i), (2, .pointer (some ⟨b3, 0, none⟩)), (1, .int .i64 d)], [.blk b3 [.int .i64 k, .string nm, .int .i64 num, .int .i64 tk, .slice pt tks.length ct, .int .i64 fk, .slice pf fks.length cf, .int .i64 lb, .slice p ks.length c]], G⟩) (fun i => i ≤ ks.length ∧ ∀ j (h : j < ks.length), j < i → sShape 12 14 ks[j] (13 - d + 1) = true) (fun i => ks.length - i) 0 ?_ ?_ ?_)
 exact sMk
 exact ⟨by omega, by omega⟩
 (rintro i ⟨hi, hf⟩)
 refine tS (tS (tR (sQ (pM rfl) rfl (sQ (pF0 rfl) rfl (sL (lBs rfl rfl) rfl rfl ?_)))))
 refine sQ (pLn rfl rfl) rfl (sB (pure_lss rfl rfl) rfl rfl (fun h128 => ?_) (fun h128 => ?_))
 refine sD (nS (cT rfl ?_))
 refine tK (nS (tS (tri_block (tS (tR (sQ (pF0 rfl) rfl ?_))))))
 refine sL (lBs rfl rfl) rfl rfl ?_
 refine sQ (pM rfl) rfl ?_
 (obtain ⟨b, o, e, rfl, hl, hat, hre, hgb⟩ := hsl.kidTm hkl (i := i) (by omega) (by omega); refine sP (pIN rfl rfl rfl (by omega)) rfl rfl ?_)
 refine sL (load_a rfl rfl (hat _) hl) rfl rfl ?_
 refine sQ (pM rfl) rfl (sP (pure_sub rfl rfl (by omega) (by omega)) rfl rfl ?_)
 (have hih := ih ks[i] (List.getElem_mem (by omega)) (d - 1) G _ (by omega) hre; rw [show 13 - (d - 1) = 13 - d + 1 by omega] at hih; refine seq_valb rfl hih rfl rfl (fun h145 => ?_) (fun h145 => ?_))
 refine sQ (pNt rfl) rfl (sD (nS (cF rfl ?_)))
 refine tK (nrm_block (nS (tR (sQ (pM rfl) rfl (sP (pure_add rfl rfl (by omega) (by omega)) rfl rfl ?_)))))
 refine sQ (pA rfl) rfl (sD (nrm_loopN (i + 1) ?_ ?_ ?_))
 exact sMk
 exact ⟨by omega, fun j hj hji => by (by_cases he : j = i; (subst he; assumption); exact hf j hj (by omega))⟩
 omega
 refine sQ (pNf rfl) rfl (sD (nS (cT rfl ?_)))
 refine tS (tR (sQ (pA rfl) rfl (sD (nS (tT (rB ?_))))))
 refine rS (ret_loopN (rB (rS (rF1 (rT rfl) ?_))))
 (rw [sShape_go (by omega) (by omega) (hR.trans (by assumption)), sShapeL_f (i := i) (by omega) (by assumption)]; exact ⟨rfl, rfl, rfl⟩)
 refine sD (nS (cF rfl ?_))
 refine tri_exit ?_
 refine ext_seq ?_
 refine ext_loopN ?_
 refine ext_block_eq ?_
 refine nS (tS (tR (sQ (pA rfl) rfl (sD (nS (tT ?_))))))
 refine rF1 (rT rfl) ?_
 (rw [sShape_go (by omega) (by omega) (hR.trans (by assumption)), (sShapeL_iff 12 14 ks _).2 (fun j hj => hf j hj (by omega))]; exact ⟨rfl, rfl, rfl⟩)
 refine aP 19 rfl (pNf rfl) rfl ?_
 refine aP 20 rfl (pPf rfl rfl) rfl ?_
 refine aD' ?_
 refine nS (cT rfl ?_)
 refine tS (tR (sQ (pA rfl) rfl (sD (nS (tT (rS ?_))))))
 refine rF1 (rT rfl) ?_
 (rw [sShape_no (by rw [hR]; first | omega | exact .inr (.inr (by assumption)) | exact .inr (.inr (by cases R with | false => rfl | true => exact absurd (har rfl) (by omega))))]; exact ⟨rfl, rfl, rfl⟩)
theorem sTermValid_fn (t : Tm) (G : IM) (cells : List Value) (hcnt : tmCount t ≤ 4294967296) (hr : RTm G t cells) :
  Fn Tryz.prog 38 [.agg ⟨cells⟩] [] G (Val (.bool (termValid t)) G) := by
 have hl := hr.len
 have hv := l2Shape_fn t 12 G cells (by omega) hr
 have hc := fun h => l2Count_fn 12 14 t 12 G cells (by omega) h hcnt hr
 have hi := termValid_iff t
 obtain ⟨R, hR⟩ : ∃ R, termValid t = R := ⟨_, rfl⟩
 rw [hR] at hi ⊢
 refine fn_enter Tryz.func38 rfl Tryz.ntmps38 Tryz.results38 rfl ?_
 intro w0
 refine tS (tR ?_)
 refine sE (step_box_a rfl rfl) rfl (fun b3 => ?_)
 refine sQ (pA rfl) rfl (sD (nS (tS (tR (sL (load_a rfl rfl (at_blk_all (by repeat first | exact mH | apply mT)) (by assumption)) rfl rfl ?_)))))
 refine seq_valb rfl (hv) rfl rfl (fun h10 => ?_) (fun h10 => ?_)
 refine sQ (pM rfl) rfl (sL (load_a rfl rfl (at_blk_all (by repeat first | exact mH | apply mT)) (by assumption)) rfl rfl ?_)
 refine seq_val rfl (hc (by assumption)) rfl rfl ?_
 refine sB (pure_leq rfl rfl) rfl rfl (fun h14 => ?_) (fun h14 => ?_)
 refine sQ (pPt rfl rfl) rfl (sQ (pA rfl) rfl (sD (nS (tT (rF1 (rT rfl) ?_)))))
 exact ⟨rfl, by rw [hi.2 ⟨by assumption, by omega⟩], rfl⟩
 refine sQ (pPt rfl rfl) rfl (sQ (pA rfl) rfl (sD (nS (tT (rF1 (rT rfl) ?_)))))
 exact ⟨rfl, by (cases R with | false => rfl | true => (exfalso; have h0 := hi.1 rfl; first | omega | simp_all)), rfl⟩
 refine sQ (pM rfl) rfl (sK rfl rfl (sK rfl rfl (sK rfl rfl (sQ (pPf rfl rfl) rfl (sQ (pA rfl) rfl (sD ?_))))))
 refine nS (tT (rF1 (rT rfl) ?_))
 exact ⟨rfl, by (cases R with | false => rfl | true => (exfalso; have h0 := hi.1 rfl; first | omega | simp_all)), rfl⟩
section forget
variable {P : Program} {Γ : Ctx} {env : Env} {hp : List Ent} {G : IM} {K : Po} {ops : Array Oper} {rest : List Oper} {ty : TypeId} {pos : String} {af : Array Edge} {gd : Option (Nat × Bool)}
end forget
/-- The node at a path. -/
def tAt : Tm → List Int → Option Tm
 | t, [] => some t
 | .mk _ _ _ _ _ _ ks, i :: is => if h : 0 ≤ i ∧ i < ks.length then tAt (ks[i.toNat]'(by omega)) is else none
def z9 : List Value := [.int .i64 0, .string ⟨⟨[]⟩⟩, .int .i64 0, .int .i64 0, .slice none 0 0, .int .i64 0, .slice none 0 0, .int .i64 0, .slice none 0 0]
def AtP (t : Tm) (path : List Int) (G : IM) : IM → Value → List Ent → Prop := fun G' v outs => G' = G ∧ outs = [] ∧
 ((∃ x cells, tAt t path = some x ∧ RTm G x cells ∧ v = .tuple ⟨[.agg ⟨cells⟩, .bool true]⟩) ∨ (tAt t path = none ∧ v = .tuple ⟨[.agg ⟨z9⟩, .bool false]⟩))
def tm0 : Tm := .mk 0 ⟨⟨[]⟩⟩ 0 (.mk 0 []) (.mk 0 []) 0 []
theorem STm.zero (G : IM) : STm G tm0 z9 [] := by
 simp only [tm0, STm, STy, STyL, STmL, z9]
 refine ⟨[.int .i64 0, .slice none 0 0], [.int .i64 0, .slice none 0 0], none, 0, [], [], [], [], rfl, ⟨by omega, by omega⟩, ⟨by omega, by omega⟩, ⟨by omega, by omega⟩, ?_, ?_, SlE.nil _ _, ⟨rfl, rfl⟩, rfl, by simp [vfp]⟩
 ·exact ⟨none, 0, [], [], rfl, ⟨by omega, by omega⟩, SlE.nil _ _, ⟨rfl, rfl⟩, rfl, by simp [vfp]⟩
 ·exact ⟨none, 0, [], [], rfl, ⟨by omega, by omega⟩, SlE.nil _ _, ⟨rfl, rfl⟩, rfl, by simp [vfp]⟩
/-- TermAt in plain words. -/
def mTermAt (t : Tm) (path : List Int) : Tm × Bool := if castValid t = true then (match tAt t path with | some x => (x, true) | none => (tm0, false)) else (tm0, false)
/-- A term and a truth value, the term in memory of its own. -/
def TbP (r : Tm × Bool) (G : IM) : IM → Value → List Ent → Prop := Imm fun G' v => ∃ cells F, v = .tuple ⟨[.agg ⟨cells⟩, .bool r.2]⟩ ∧ STm (Dif G' G) r.1 cells F ∧ F.Nodup
section rlaws
variable {P : Program} {Γ : Ctx} {env : Env} {hp : List Ent} {G : IM} {ty : TypeId}
theorem pure_slice_to {x y : Operand} {t el : TypeId} {i : TyR} {sz by' : Nat} {zs : List Value} [hI : TyI P t i] (hd' : i.desc = .slice el) [hE : TySz P el sz by' zs] {p : Option Addr} {n c l : Nat}
  (hx : evo env x = some (.slice p n c)) (hy : evo env y = some (.int .i64 (l : Int))) (hl : l ≤ c) :
  PureOp P Γ ⟨env, hp, G⟩ (.slice t x none (some y) none) ty (.slice p l c) := by
 refine ⟨fun a _ hs _ _ _ _ w => ?_⟩
 have hu := hI.und
 rw [hd'] at hu
 obtain ⟨d, hE⟩ := hE.ok
 obtain ⟨inf, z, t1, t2, t3, _⟩ := run_tyI (P := P) (t := el)
 have e1 : a.eval x = _ := hs.evo hx
 have e2 : a.eval y = _ := hs.evo hy
 have hb : ∀ code, (Instr.sliceBound (.int .i64 (l : Int)) c code).run P w = .ok l w := fun code => by
  unfold Instr.sliceBound
  simp only [asIntOf, Sem.run_bind, Sem.run_pure, Result.andThen_ok]
  rw [if_pos ⟨by omega, by omega⟩]
  simp
 simp only [execOp, Option.map, e1, e2, Instr.sliceAt, Sem.run_bind, run_underlying hu, Result.andThen_ok, Instr.slice, Instr.sliceBounds, Sem.run_pure, hb, t3]
 by_cases h : c = 0
 ·subst h; simp
 ·rw [if_neg h]; simp; cases p <;> simp [Addr.add]
end rlaws
def byts (bs : List UInt8) : List Value := bs.map fun b => .int .u8 (b.toNat : Int)
/-- The source: where it lies, and how many numbers were drawn. -/
def rd (br : Nat) (pb : Option Addr) (nb cb p : Nat) : Ent := .blk br [.slice pb nb cb, .int .i64 (p : Int)]
/-- What a draw of numbers leaves behind. -/
def Drew (br : Nat) (pb : Option Addr) (nb cb p B : Nat) (Φ : IM → Value → Prop) : IM → Value → List Ent → Prop := fun G' v outs => ∃ p', p ≤ p' ∧ p' ≤ p + B ∧ outs = [rd br pb nb cb p'] ∧ Φ G' v
structure cutK {ι : Type} (S : ι → Sy) (φ : ι → Prop) (e : Exit) (σ : Sy) : Prop where
 run : match e with
  | .normal => ∃ i, φ i ∧ Sub σ (S i)
  | _ => False
section cut
variable {P : Program} {Γ : Ctx} {K : Po} {σ : Sy} {ι : Type}
/-- All that comes behind a piece of code is walked once. -/
theorem tri_cut {c y : Code} (S : ι → Sy) (φ : ι → Prop) (h : Tri P Γ c (cutK S φ) σ) (k : ∀ i, φ i → Tri P Γ y K (S i)) : Tri P Γ c (seqK P Γ y K) σ := by
 refine tri_post h ?_
 rintro e σ ⟨hk⟩
 cases e with
 | normal => obtain ⟨i, hi, hs⟩ := hk; exact ⟨tri_sub hs (k i hi)⟩
 | _ => exact hk.elim
where
 tri_post {c : Code} {K K' : Po} {σ : Sy} (h : Tri P Γ c K σ) (hk : ∀ e σ, K e σ → K' e σ) : Tri P Γ c K' σ := tri_mono h hk
theorem nrm_cut {S : ι → Sy} {φ : ι → Prop} {σ : Sy} (i : ι) (hs : Sub σ (S i)) (h : φ i) : cutK S φ .normal σ := ⟨⟨i, h, hs⟩⟩
theorem np_cut {S : ι → Sy} {φ : ι → Prop} : noPanic (cutK S φ) := fun _ _ h => h.run
instance npC5 {S : ι → Sy} {φ : ι → Prop} : NpC (cutK S φ) := ⟨np_cut⟩
end cut
section take
variable {P : Program} {Γ : Ctx} {env : Env} {hp : List Ent} {G : IM} {K : Po} {ops : Array Oper} {rest : List Oper} {ty : TypeId} {pos : String} {af : Array Edge} {gd : Option (Nat × Bool)}
theorem seq_take {d : Nat} {f : FuncId} [hF : FunI P f] {xs : List Operand} {ats : Array TypeId} {vs : List Value} {ins rst : List Ent} {post : IM → Value → List Ent → Prop}
  (hx : evl env xs = some vs) (h : Fn P f vs ins G post) (hp' : hp.Perm (ins ++ rst)) (hw : wantG ops env gd = some true) (hd : Nat.blt d Γ.n = true)
  (k : ∀ v G' outs, IMle G G' → post G' v outs → TriL P Γ ops rest K ⟨(d, v) :: env, outs ++ rst, G'⟩) : TriL P Γ ops (⟨some d, .call ⟨.value (.func f), ⟨xs⟩, ats⟩, ty, pos, af, gd⟩ :: rest) K ⟨env, hp, G⟩ :=
 seq_step (step_call_own hx h hp' hd) hw (by rintro _ ⟨v, G', outs, rfl, hle, hq⟩; exact k v G' outs hle hq)
end take
theorem l1Any_fn (G : IM) : Fn Tryz.prog 144 [] [] G (Val (.agg ⟨[.int .i64 1, .slice none 0 0]⟩) G) := by
 refine fn_enter Tryz.func144 rfl Tryz.ntmps144 Tryz.results144 rfl ?_
 intro w0
 refine tS (tR ?_)
 refine sE (step_alloc rfl) rfl (fun b3 => ?_)
 refine sD (nS (tS (tR (sQ (pBd rfl rfl) rfl (sS' ?_)))))
 refine sD (nS (tT (rF1 (rC rfl (lBa rfl rfl)) ?_)))
 exact ⟨rfl, rfl, rfl⟩
/-- How big a drawn type is. -/
def dB : Nat → Nat
 | 0 => 0
 | d + 1 => 2 * dB d + 2
theorem RTyL.ty {G : IM} {k : Int} {ts : List Ty} {es : List (List Value)} {p : Option Addr} {n c : Nat} (h : RTyL G ts es) (hn : ts.length = n) (hs : Sl G p n c 2 es.flatten) (hk : I64 k) : RTy G (.mk k ts) [.int .i64 k, .slice p n c] := by
 subst hn
 simp only [RTy]
 exact ⟨p, c, es, rfl, hk, SlE.of hs h.len h.all (fun e he => (h.each e he).2), h⟩
theorem tyAny_r (G : IM) : RTy G tyAny [.int .i64 1, .slice none 0 0] := by
 simp only [tyAny, RTy]
 exact ⟨none, 0, [], rfl, ⟨by omega, by omega⟩, SlE.of (Sl.nil _ _) rfl (by simp) (by simp), by simp [RTyL]⟩
mutual
def mBare : Tm → Tm
 | .mk k nm num ty fr lb ks => if k = 13 ∨ k = 14 then (mBareL ks).headD tm0 else .mk k nm num (if k = 5 then tyAny else ty0) ty0 0 (mBareL ks)
def mBareL : List Tm → List Tm
 | [] => []
 | t :: ts => mBare t :: mBareL ts
end
/-- The change that is made at a node. -/
def bareG : Tm → Tm
 | .mk k nm num ty fr lb ks => if k = 13 ∨ k = 14 then ks.headD tm0 else if k = 5 then .mk k nm num tyAny fr lb ks else .mk k nm num ty fr lb ks
def bareQ : Tm → Prop
 | .mk k _ _ _ _ _ ks => k = 13 ∨ k = 14 → ks ≠ []
theorem tNone_eq {t : Ty} (h : tNone t = true) : t = ty0 := by
 obtain ⟨k, ks⟩ := t
 obtain ⟨h1, h2⟩ : (Ty.mk k ks).k = 0 ∧ (Ty.mk k ks).ks.length = 0 := of_decide_eq_true h
 simp only [Ty.k, Ty.ks] at h1 h2
 have h3 : ks = [] := List.length_eq_zero_iff.1 (by omega)
 rw [h3, ty0]
 congr
theorem sShape_go2 {D N : Int} {k : Int} {nm : ByteArray} {num : Int} {ty fr : Ty} {lb : Int} {ks : List Tm} {d : Int} (h : sShape D N (.mk k nm num ty fr lb ks) d = true) : d ≤ D ∧ k ≠ N ∧ tmNode k nm num ty fr lb ks.length = true ∧ sShapeL D N ks (d + 1) = true := by
 rw [sShape] at h
 simp only [Bool.and_eq_true, decide_eq_true_eq] at h
 exact ⟨h.1.1.1, h.1.1.2, h.1.2, h.2⟩
section slaws
variable {P : Program} {Γ : Ctx} {env : Env} {hp : List Ent} {G : IM} {ty : TypeId}
end slaws
theorem ty0_r (G : IM) : RTy G ty0 [.int .i64 0, .slice none 0 0] := by
 simp only [ty0, RTy]
 exact ⟨none, 0, [], rfl, ⟨by omega, by omega⟩, SlE.of (Sl.nil _ _) rfl (by simp) (by simp), by simp [RTyL]⟩
theorem tmOps_le (k : Int) : tmOps k ≤ 3 := by
 unfold tmOps; repeat (split; omega)
 omega
theorem l2Num_fn (n : Int) (G : IM) : Fn Tryz.prog 178 [.int .i64 n] [] G (Val (.agg ⟨[.int .i64 2, .string ⟨⟨[]⟩⟩, .int .i64 n, .int .i64 0, .slice none 0 0, .int .i64 0, .slice none 0 0, .int .i64 0, .slice none 0 0]⟩) G) := by
 refine fn_enter Tryz.func178 rfl Tryz.ntmps178 Tryz.results178 rfl ?_
 intro w0
 refine tS (tR ?_)
 refine sE (step_alloc rfl) rfl (fun b3 => ?_)
 refine sD (nS (tS (tR (sQ (pM rfl) rfl (sQ (pBd rfl rfl) rfl (sS' ?_))))))
 refine sD (nS (tT (rF1 (rC rfl (lBa rfl rfl)) ?_)))
 exact ⟨rfl, rfl, rfl⟩
/-- How big a drawn term is. -/
def tB : Nat → Nat
 | 0 => 3
 | d + 1 => 3 * tB d + 20
/-- A new source. -/
def Opened (G : IM) : IM → Value → List Ent → Prop := fun G' v outs => G' = G ∧ ∃ br pb nb cb bs, v = .pointer (some ⟨br, 0, none⟩) ∧ outs = [rd br pb nb cb 0] ∧ nb ≤ 2000 ∧ Sl G pb nb cb 1 (byts bs)
theorem l3Int_fn (G : IM) : Fn Tryz.prog 99 [] [] G (Val (.agg ⟨[.int .i64 2, .slice none 0 0]⟩) G) := by
 refine fn_enter Tryz.func99 rfl Tryz.ntmps99 Tryz.results99 rfl ?_
 intro w0
 refine tS (tR ?_)
 refine sE (step_alloc rfl) rfl (fun b3 => ?_)
 refine sD (nS (tS (tR (sQ (pBd rfl rfl) rfl (sS' ?_)))))
 refine sD (nS (tT (rF1 (rC rfl (lBa rfl rfl)) ?_)))
 exact ⟨rfl, rfl, rfl⟩
theorem l3Bool_fn (G : IM) : Fn Tryz.prog 100 [] [] G (Val (.agg ⟨[.int .i64 3, .slice none 0 0]⟩) G) := by
 refine fn_enter Tryz.func100 rfl Tryz.ntmps100 Tryz.results100 rfl ?_
 intro w0
 refine tS (tR ?_)
 refine sE (step_alloc rfl) rfl (fun b3 => ?_)
 refine sD (nS (tS (tR (sQ (pBd rfl rfl) rfl (sS' ?_)))))
 refine sD (nS (tT (rF1 (rC rfl (lBa rfl rfl)) ?_)))
 exact ⟨rfl, rfl, rfl⟩
theorem l2Node_fn (G : IM) (k : Int) (p : Option Addr) (n c : Nat) : Fn Tryz.prog 177 [.int .i64 k, .slice p n c] [] G (Val (.agg ⟨[.int .i64 k, .string ⟨⟨[]⟩⟩, .int .i64 0, .int .i64 0, .slice none 0 0, .int .i64 0, .slice none 0 0, .int .i64 0, .slice p n c]⟩) G) := by
 refine fn_enter Tryz.func177 rfl Tryz.ntmps177 Tryz.results177 rfl ?_
 intro w0
 refine tS (tR ?_)
 refine sE (step_alloc rfl) rfl (fun b3 => ?_)
 refine sD (nS (tS (tR (sQ (pM rfl) rfl (sQ (pM rfl) rfl (sQ (pBd rfl rfl) rfl ?_))))))
 refine sS' ?_
 refine sD (nS (tT (rF1 (rC rfl (lBa rfl rfl)) ?_)))
 exact ⟨rfl, rfl, rfl⟩
theorem tyLeaf_r (G : IM) {k : Int} (hk : I64 k) : RTy G (.mk k []) [.int .i64 k, .slice none 0 0] := by
 simp only [RTy]
 exact ⟨none, 0, [], rfl, hk, SlE.of (Sl.nil _ _) rfl (by simp) (by simp), by simp [RTyL]⟩
theorem szLeaf (k : Int) : szTy (.mk k []) = 0 := rfl
/-- A type and a truth value. -/
def TyB (B : Int) (G : IM) : IM → Value → List Ent → Prop := Imm fun G' v => ∃ t cells b, v = .tuple ⟨[.agg ⟨cells⟩, .bool b]⟩ ∧ RTy G' t cells ∧ tAr t ∧ szTy t ≤ B
theorem tAr_two {k : Int} {a b : Ty} (hk : k = 4 ∨ k = 5) (ha : tAr a) (hb : tAr b) : tAr (.mk k [a, b]) := by
 rw [tAr]
 exact ⟨fun _ => rfl, fun h4 h5 => by omega, by simp [tArL, ha, hb]⟩
theorem tAr_leaf {k : Int} (h4 : k ≠ 4) (h5 : k ≠ 5) : tAr (.mk k []) := (tAh_leaf 0 h4 h5).ar
theorem tAr.kid {k : Int} {ks : List Ty} (h : tAr (.mk k ks)) : ∀ t ∈ ks, tAr t := by
 rw [tAr] at h; exact tArL_mem.1 h.2.2
theorem tAr.two {k : Int} {ks : List Ty} (h : tAr (.mk k ks)) : ks.length ≤ 2 := by
 rw [tAr] at h
 have h1 := h.1
 have h2 := h.2.1
 omega
/-- Two types and a truth value. -/
def TyTyB (B : Int) (G : IM) : IM → Value → List Ent → Prop := Imm fun G' v => ∃ a ca b cb x, v = .tuple ⟨[.agg ⟨ca⟩, .agg ⟨cb⟩, .bool x]⟩ ∧ RTy G' a ca ∧ tAr a ∧ szTy a ≤ B ∧ RTy G' b cb ∧ tAr b ∧ szTy b ≤ B
/-- A type. -/
def TyP (B : Int) (Q : Ty → Prop) (G : IM) : IM → Value → List Ent → Prop := Imm fun G' v => ∃ t cells, v = .agg ⟨cells⟩ ∧ RTy G' t cells ∧ tAr t ∧ szTy t ≤ B ∧ Q t
theorem tAr_like {k : Int} {ks us : List Ty} (h : tAr (.mk k ks)) (hl : us.length = ks.length) (hu : ∀ u ∈ us, tAr u) : tAr (.mk k us) := by
 rw [tAr] at h ⊢
 exact ⟨fun hk => by rw [hl]; exact h.1 hk, fun a b => by rw [hl]; exact h.2.1 a b, tArL_mem.2 hu⟩
theorem forall_snoc {P : Ty → Prop} {us : List Ty} {u : Ty} (h : ∀ x ∈ us, P x) (hu : P u) : ∀ x ∈ us ++ [u], P x := by
 simp only [List.forall_mem_append, List.forall_mem_singleton]; exact ⟨h, hu⟩
theorem l1ConsistentA_fn : ∀ (t t' : Ty) (G : IM) (cells cells' : List Value), tAr t → tAr t' → RTy G t cells → RTy G t' cells' →
  Fn Tryz.prog 129 [.agg ⟨cells⟩, .agg ⟨cells'⟩] [] G (Val (.bool (tCons t t')) G) := by
 refine Ty.ind fun k ks ih t' G cells cells' ha ha' hr hr' => ?_
 obtain ⟨k', ks'⟩ := t'
 obtain ⟨p, c, es, rfl, hk, hsl, hkl⟩ := hr.open
 obtain ⟨p', c', es', rfl, hk', hsl', hkl'⟩ := hr'.open
 simp only [Ty.k, Ty.ks] at hk hsl hkl hk' hsl' hkl' ⊢
 have hn := hsl.le
 have hn' := hsl'.le
 have hv2 := ha.kid
 have hv2' := ha'.kid
 rw [tAr] at ha ha'
 have hle : k = k' → ks.length = ks'.length := by
  rintro rfl
  have h1 := ha.1
  have h2 := ha.2.1
  have h3 := ha'.1
  have h4 := ha'.2.1
  omega
 refine fn_enter Tryz.func129 rfl Tryz.ntmps129 Tryz.results129 rfl ?_
 intro w0
 refine tS (tR ?_)
 refine sE (step_box_a rfl rfl) rfl (fun b3 => ?_)
 refine sE (step_box_a rfl rfl) rfl (fun b4 => ?_)
 refine sQ (pA rfl) rfl (sD (nS (tS (tS (tR (sQ (pF0 rfl) rfl ?_))))))
 refine sL (lBs rfl rfl) rfl rfl ?_
 refine sB (pE rfl rfl) rfl rfl (fun h13 => ?_) (fun h13 => ?_)
 refine sQ (pM rfl) rfl (sK rfl rfl (sK rfl rfl (sK rfl rfl (sQ (pPt rfl rfl) rfl (sD (nS ?_))))))
 refine cT rfl ?_
 refine tS (tR (sQ (pA rfl) rfl (sD (nS (tT (rS ?_))))))
 refine rF1 (rT rfl) ?_
 (rw [tCons_any (by omega)]; exact ⟨rfl, rfl, rfl⟩)
 refine sQ (pM rfl) rfl (sQ (pF0 rfl) rfl (sL (lBs rfl rfl) rfl rfl ?_))
 refine sB (pE rfl rfl) rfl rfl (fun h34 => ?_) (fun h34 => ?_)
 refine sQ (pPf rfl rfl) rfl (sD (nS (cT rfl ?_)))
 refine tS (tR (sQ (pA rfl) rfl (sD (nS (tT (rS ?_))))))
 refine rF1 (rT rfl) ?_
 (rw [tCons_any (by omega)]; exact ⟨rfl, rfl, rfl⟩)
 refine sQ (pPf rfl rfl) rfl (sD (nS (cF rfl ?_)))
 refine tK (nS (tS (tS (tR (sQ (pF0 rfl) rfl (sL (lBs rfl rfl) rfl rfl ?_))))))
 refine sQ (pF0 rfl) rfl (sL (lBs rfl rfl) rfl rfl ?_)
 refine sB (pure_neq rfl rfl) rfl rfl (fun h61 => ?_) (fun h61 => ?_)
 refine sD (nS (cT rfl ?_))
 refine tS (tR (sQ (pA rfl) rfl (sD (nS (tT (rS ?_))))))
 refine rF1 (rT rfl) ?_
 (rw [tCons_ne (by omega) (by omega) (by omega)]; exact ⟨rfl, rfl, rfl⟩)
 refine sD (nS (cF rfl ?_))
 refine tK (nS (tS (tS (tR (sQ (pA rfl) rfl (sD ?_))))))
 refine nS (tri_block ?_)
 (have hll : ks.length = ks'.length := hle (by omega); refine tri_loopN (fun (i : Nat) => ⟨[(5, .int .i64 i), (3, .pointer (some ⟨b4, 0, none⟩)), (2, .pointer (some ⟨b3, 0, none⟩))], [.blk b3 [.int .i64 k, .slice p ks.length c], .blk b4 [.int .i64 k', .slice p' ks'.length c']], G⟩) (fun i => i ≤ ks.length ∧ ∀ j (h : j < ks.length) (h' : j < ks'.length), j < i → tCons ks[j] ks'[j] = true) (fun i => ks.length - i) 0 ?_ ?_ ?_)
 exact sMk
 exact ⟨by omega, by omega⟩
 (rintro i ⟨hi, hf⟩)
 refine tS (tS (tR (sQ (pM rfl) rfl (sQ (pF0 rfl) rfl (sL (lBs rfl rfl) rfl rfl ?_)))))
 refine sQ (pLn rfl rfl) rfl (sB (pure_lss rfl rfl) rfl rfl (fun h97 => ?_) (fun h97 => ?_))
 refine sD (nS (cT rfl ?_))
 refine tK (nS (tS (tri_block (tS ?_))))
 (obtain ⟨b, o, p2, c2, rfl, hat, hre, hgb⟩ := hsl.kidTy hkl (i := i) (by omega) (by omega); obtain ⟨b', o', p2', c2', rfl, hat', hre', hgb'⟩ := hsl'.kidTy hkl' (i := i) (by omega) (by omega); refine tri_draw mixed rfl ?_)
 refine any_pure (i := 0) (l' := [tt,ff,ff,ff,ff,ff,ff,ff,ff,ff,ff,ff]) rfl npI (pF0 rfl) rfl (by kernel_rfl) rfl rfl ?_
 refine aL 1 rfl (lBs rfl rfl) rfl ?_
 refine aP 2 rfl (pM rfl) rfl ?_
 refine aP 3 rfl (pIN rfl rfl rfl (by omega)) rfl ?_
 refine aL 4 rfl (load_a rfl rfl (hat _) rfl) rfl ?_
 refine aP 5 rfl (pF0 rfl) rfl ?_
 refine aL 6 rfl (lBs rfl rfl) rfl ?_
 refine aP 7 rfl (pM rfl) rfl ?_
 refine aP 8 rfl (pIN rfl rfl rfl (by omega)) rfl ?_
 refine aL 9 rfl (load_a rfl rfl (hat' _) rfl) rfl ?_
 refine aO' 10 ?_
 refine one_valb rfl rfl (ih ks[i] (List.getElem_mem (by omega)) ks'[i] G _ _ (hv2 _ (List.getElem_mem (by omega))) (hv2' _ (List.getElem_mem (by omega))) hre hre') rfl rfl rfl (fun h118 => ?_) (fun h118 => ?_)
 refine aP 11 rfl (pNt rfl) rfl ?_
 refine aD' ?_
 refine nS (cF rfl ?_)
 refine tK (nrm_block (nS (tR (sQ (pM rfl) rfl (sP (pure_add rfl rfl (by omega) (by omega)) rfl rfl ?_)))))
 refine sQ (pA rfl) rfl (sD (nrm_loopN (i + 1) ?_ ?_ ?_))
 exact sMk
 exact ⟨by omega, fun j hj hj' hji => by (by_cases he : j = i; (subst he; assumption); exact hf j hj hj' (by omega))⟩
 omega
 refine aP 11 rfl (pNf rfl) rfl ?_
 refine aD' ?_
 refine nS (cT rfl ?_)
 refine tS (tR (sQ (pA rfl) rfl (sD (nS (tT (rB ?_))))))
 refine rS (ret_loopN (rB (rS (rF1 (rT rfl) ?_))))
 (rw [tCons_eq (by omega) (by omega) (by omega), tConsL_f (i := i) (by omega) (by omega) (by assumption)]; exact ⟨rfl, rfl, rfl⟩)
 refine sD (nS (cF rfl ?_))
 refine tri_exit ?_
 refine ext_seq ?_
 refine ext_loopN ?_
 refine ext_block_eq ?_
 refine nS (tS (tR (sQ (pA rfl) rfl (sD (nS (tT ?_))))))
 refine rF1 (rT rfl) ?_
 (rw [tCons_eq (by omega) (by omega) (by omega), (tConsL_iff ks _).2 ⟨hll, fun j hj hj' => hf j hj hj' (by omega)⟩]; exact ⟨rfl, rfl, rfl⟩)
theorem At.sub {hp : List Ent} {G : IM} {b o j : Nat} {vs : List Value} {v : Value} (h : At hp G b o vs) (hj : vs[j]? = some v) : At hp G b (o + j) [v] := by
 have key : ∀ {cs : List Value}, (∀ i u, vs[i]? = some u → cs[o + i]? = some u) → ∀ i u, [v][i]? = some u → cs[o + j + i]? = some u := by
  intro cs hc i u hu
  cases i with
  | zero => simp at hu; subst hu; simpa using hc j v hj
  | succ i => simp at hu
 rcases h with ⟨cs, hm, hv⟩ | ⟨n, c, el, sz, cs, hm, hv⟩ | ⟨full, hg, hv⟩
 ·exact .inl ⟨cs, hm, key hv⟩
 ·exact .inr (.inl ⟨n, c, el, sz, cs, hm, key hv⟩)
 ·exact .inr (.inr ⟨full, hg, key hv⟩)
/-- A marked term in memory that no longer changes. -/
def HTm (G : IM) (t : Tm) (k : Int) (cells : List Value) : Prop := ∃ pt ct et pf cf ef p c es,
 cells = [.int .i64 t.k, .string t.nm, .int .i64 t.num, .int .i64 t.ty.k, .slice pt t.ty.ks.length ct, .int .i64 t.fr.k, .slice pf t.fr.ks.length cf, .int .i64 t.lb, .slice p t.ks.length c] ∧
 SlE G pt t.ty.ks.length ct 2 et ∧ RTyL G (mkTyL t.ty.ks k) et ∧ SlE G pf t.fr.ks.length cf 2 ef ∧ RTyL G (mkTyL t.fr.ks (k + cntTyL t.ty.ks)) ef ∧ SlE G p t.ks.length c 9 es ∧ RTmL G (mkTmL t.ks (k + cntTyL t.ty.ks + cntTyL t.fr.ks)) es
/-- A binding in memory. -/
def RBd (G : IM) (e : List Value) : Prop := ∃ nm t q d, e = [.string nm, .int .i64 t.k, .slice q t.ks.length d] ∧ RTy G t [.int .i64 t.k, .slice q t.ks.length d] ∧ tAr t ∧ szTy t ≤ 30
/-- A context in memory. -/
def GCx (G : IM) (p : Option Addr) (n c : Nat) : Prop := ∃ es, es.length = n ∧ SlE G p n c 3 es ∧ ∀ e ∈ es, RBd G e
theorem At.drop {hp : List Ent} {G : IM} {b o : Nat} {v : Value} {vs : List Value} (h : At hp G b o (v :: vs)) : At hp G b (o + 1) vs := by
 have key : ∀ {cs : List Value}, (∀ i u, (v :: vs)[i]? = some u → cs[o + i]? = some u) → ∀ i u, vs[i]? = some u → cs[o + 1 + i]? = some u := by
  intro cs hc i u hu
  have := hc (i + 1) u (by simpa using hu)
  rwa [show o + 1 + i = o + (i + 1) by omega]
 rcases h with ⟨cs, hm, hv⟩ | ⟨n, c, el, sz, cs, hm, hv⟩ | ⟨full, hg, hv⟩
 ·exact .inl ⟨cs, hm, key hv⟩
 ·exact .inr (.inl ⟨n, c, el, sz, cs, hm, key hv⟩)
 ·exact .inr (.inr ⟨full, hg, key hv⟩)
theorem ctxValid_fn (G : IM) : Fn Tryz.prog 61 [.slice none 0 0] [] G (Val (.bool true) G) := by
 refine fn_enter Tryz.func61 rfl Tryz.ntmps61 Tryz.results61 rfl ?_
 intro w0
 refine tS ?_
 refine tR ?_
 refine sQ (pA rfl) rfl ?_
 refine sD ?_
 refine nS ?_
 refine tS ?_
 refine tS ?_
 refine tR ?_
 refine sQ (pA rfl) rfl ?_
 refine sD ?_
 refine nS ?_
 refine tri_block ?_
 (refine tri_loopN (fun (_ : Nat) => ⟨[(3, .int .i64 0), (0, .slice none 0 0)], [], G⟩) (fun _ => True) (fun i => i) 0 ?_ ?_ ?_)
 ·exact sMk
 ·trivial
 ·(rintro i _)
  refine tS ?_
  refine tS ?_
  refine tR ?_
  refine sQ (pM rfl) rfl ?_
  refine sQ (pM rfl) rfl ?_
  refine sQ (pLn rfl rfl) rfl ?_
  refine sP (pure_lss_f rfl rfl (by omega)) rfl rfl ?_
  refine sD ?_
  refine nS ?_
  refine cF rfl ?_
  refine tri_exit ?_
  refine ext_seq ?_
  refine ext_loopN ?_
  refine ext_block_eq ?_
  refine nS ?_
  refine tS ?_
  refine tR ?_
  refine sQ (pM rfl) rfl ?_
  refine sQ (pLn rfl rfl) rfl ?_
  refine sP (pure_leq_t rfl rfl (by omega)) rfl rfl ?_
  refine sQ (pA rfl) rfl ?_
  refine sD ?_
  refine nS ?_
  refine tT ?_
  refine rF1 (rT rfl) ?_
  trivial
end Gw
end Go.Proofs.YtmnfamimopcldaaGreatDoor
