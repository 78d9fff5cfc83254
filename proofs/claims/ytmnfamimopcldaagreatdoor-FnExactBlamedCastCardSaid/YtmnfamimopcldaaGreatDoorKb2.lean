/-
  The scans of types: typeScan, TypeValid, consistent, Consistent. The tests of terms. The scan of a term, CastValid, TermValid. slices.Clone of numbers, paths, AllPaths. AllPaths. The reference model's tests of types and nodes: they compute the same plain functions. The reference model's scans of types. The reference model's consistency of types. The reference model's tests of nodes. The reference model's scan of terms with casts. The reference model's count of nodes, its CastValid. append of a slice in memory that no longer changes, empty or not.
-/
import Derived.Test.YtmnfamimopcldaaGreatDoorKb1
set_option linter.unusedVariables false
set_option linter.unusedSimpArgs false
set_option maxHeartbeats 0
set_option maxRecDepth 100000
set_option synthInstance.maxSize 4000
set_option synthInstance.maxHeartbeats 0
namespace Go.Proofs.YtmnfamimopcldaaGreatDoor
open Go Go.RowKit
namespace Gw
theorem typeScan_1 (G : IM) (e : List Value) (d : Int) (b : Bool) (bd : Nat) (hl : e.length = 2) (hd : 0 ≤ d ∧ d ≤ 5) (h : Fn Tryz.prog 125 [.agg ⟨e⟩, .int .i64 (d + 1)] [] G (Val (.bool b) G)) :
  Fn Tryz.prog 147 [.agg ⟨e⟩, .pointer (some ⟨bd, 0, none⟩)] [.blk bd [.int .i64 d]] G (ValO (.bool (!b)) [.blk bd [.int .i64 d]] G) := by
 refine fn_enter Tryz.func147 rfl Tryz.ntmps147 Tryz.results147 rfl ?_
 intro w0
 refine tS (tR ?_)
 refine sE (step_box_a rfl rfl) rfl (fun b3 => ?_)
 refine sQ (pA rfl) rfl (sD (nS (tS (tR (sL (load_a rfl rfl (at_blk_all (by repeat first | exact mH | apply mT)) (by assumption)) rfl rfl ?_)))))
 refine sL (lBs rfl rfl) rfl rfl ?_
 refine sP (pure_add rfl rfl (by omega) (by omega)) rfl rfl ?_
 refine seq_valb rfl (h) rfl rfl (fun h12 => ?_) (fun h12 => ?_)
 refine sQ (pNt rfl) rfl (sQ (pA rfl) rfl (sD (nS (tT (ret_own1 (rT rfl) (SubH.cons (Pk.there Pk.here) SubH.nil) ?_)))))
 exact ⟨rfl, by simp [*], rfl⟩
 refine sQ (pNf rfl) rfl (sQ (pA rfl) rfl (sD (nS (tT (ret_own1 (rT rfl) (SubH.cons (Pk.there Pk.here) SubH.nil) ?_)))))
 exact ⟨rfl, by simp [*], rfl⟩
theorem typeScan_fn : ∀ (t : Ty) (d : Int) (G : IM) (cells : List Value), 0 ≤ d ∧ d ≤ 5 → RTy G t cells →
  Fn Tryz.prog 125 [.agg ⟨cells⟩, .int .i64 d] [] G (Val (.bool (tScan t d)) G) := by
 refine Ty.ind fun k ks ih d G cells hd hr => ?_
 obtain ⟨p, c, es, rfl, hk, hsl, hkl⟩ := hr.open
 simp only [Ty.k, Ty.ks] at hk hsl hkl ⊢
 have hn := hsl.le
 obtain ⟨A, hA⟩ : ∃ A, ks.all (tScan · (d + 1)) = A := ⟨_, rfl⟩
 refine fn_enter Tryz.func125 rfl Tryz.ntmps125 Tryz.results125 rfl ?_
 intro w0
 refine tS (tR ?_)
 refine sE (step_box_a rfl rfl) rfl (fun b3 => ?_)
 (refine seq_step (step_box_s rfl rfl rfl) rfl ?_; rintro _ ⟨b4, rfl⟩)
 refine sQ (pA rfl) rfl (sD (nS (tS (tR (sQ (pA rfl) rfl (sD ?_))))))
 refine nS (tS (tS (tR (sQ (pF0 rfl) rfl (sL (lBs rfl rfl) rfl rfl ?_)))))
 refine sD (nS (tri_block (tS (tS (tR (sB (pE rfl rfl) rfl rfl (fun h24 => ?_) (fun h24 => ?_)))))))
 refine sQ (pA rfl) rfl (sD (nS (cT rfl ?_)))
 refine tK (nS (cT rfl ?_))
 refine tR (sQ (pA rfl) rfl (sD (nrm_block (nS (tS (tR ?_))))))
 refine sL (lBs rfl rfl) rfl rfl ?_
 refine sB (pure_leq rfl rfl) rfl rfl (fun h40 => ?_) (fun h40 => ?_)
 refine sQ (pM rfl) rfl (sQ (pM rfl) rfl (sQ (pF0 rfl) rfl (sL (lBs rfl rfl) rfl rfl ?_)))
 refine sQ (pLn rfl rfl) rfl (sB (pE rfl rfl) rfl rfl (fun h46 => ?_) (fun h46 => ?_))
 refine sQ (pPt rfl rfl) rfl (sQ (pM rfl) rfl (sQ (pF0 rfl) rfl (sL (lBs rfl rfl) rfl rfl ?_)))
 refine sQ (pure_makeFunc rfl rfl) rfl (seq_valbo rfl (containsNot_Type _ _ _ _ _ hsl _ [] _ [.blk b4 [.int .i64 d]] (tScan · (d + 1)) ks rfl hA (fun i e he => typeScan_1 _ _ _ _ _ (hsl.all e (List.mem_of_getElem? he)) hd (ih _ (hkl.inv he ty0).1 _ _ _ (by omega) (hkl.inv he ty0).2))) perm_all rfl rfl (fun h52 => ?_) (fun h52 => ?_))
 simp only [Bool.not_eq_true', Bool.not_eq_false'] at h52
 refine sQ (pNt rfl) rfl (sQ (pPt rfl rfl) rfl (sQ (pA rfl) rfl (sD (nS (tT (rF1 (rT rfl) ?_))))))
 exact ⟨rfl, by (rw [tScan, tScanL_all, hA]; have := tyOps_spec k; first | (rw [decide_eq_true (by omega), decide_eq_true (by omega)]; simp only [*]; done) | (rw [decide_eq_true (by omega), decide_eq_true (by omega)]; simp only [*]; rfl) | (rw [decide_eq_false (by omega)]; rfl) | (rw [decide_eq_true (by omega), decide_eq_false (by omega)]; rfl)), rfl⟩
 simp only [Bool.not_eq_true', Bool.not_eq_false'] at h52
 refine sQ (pNf rfl) rfl (sQ (pPt rfl rfl) rfl (sQ (pA rfl) rfl (sD (nS (tT (rF1 (rT rfl) ?_))))))
 exact ⟨rfl, by (rw [tScan, tScanL_all, hA]; have := tyOps_spec k; first | (rw [decide_eq_true (by omega), decide_eq_true (by omega)]; simp only [*]; done) | (rw [decide_eq_true (by omega), decide_eq_true (by omega)]; simp only [*]; rfl) | (rw [decide_eq_false (by omega)]; rfl) | (rw [decide_eq_true (by omega), decide_eq_false (by omega)]; rfl)), rfl⟩
 refine sQ (pPt rfl rfl) rfl (sQ (pM rfl) rfl (sK rfl rfl (sK rfl rfl (sK rfl rfl (sK rfl rfl (sK rfl rfl ?_))))))
 refine sQ (pPf rfl rfl) rfl (sQ (pA rfl) rfl (sD (nS (tT (rF1 (rT rfl) ?_)))))
 exact ⟨rfl, by (rw [tScan, tScanL_all, hA]; have := tyOps_spec k; first | (rw [decide_eq_true (by omega), decide_eq_true (by omega)]; simp only [*]; done) | (rw [decide_eq_true (by omega), decide_eq_true (by omega)]; simp only [*]; rfl) | (rw [decide_eq_false (by omega)]; rfl) | (rw [decide_eq_true (by omega), decide_eq_false (by omega)]; rfl)), rfl⟩
 refine sQ (pM rfl) rfl (sK rfl rfl (sK rfl rfl (sK rfl rfl (sK rfl rfl (sK rfl rfl (sQ (pPf rfl rfl) rfl ?_))))))
 refine sQ (pM rfl) rfl (sK rfl rfl (sK rfl rfl (sK rfl rfl (sK rfl rfl (sK rfl rfl (sQ (pPf rfl rfl) rfl ?_))))))
 refine sQ (pA rfl) rfl (sD (nS (tT (rF1 (rT rfl) ?_))))
 exact ⟨rfl, by (rw [tScan, tScanL_all, hA]; have := tyOps_spec k; first | (rw [decide_eq_true (by omega), decide_eq_true (by omega)]; simp only [*]; done) | (rw [decide_eq_true (by omega), decide_eq_true (by omega)]; simp only [*]; rfl) | (rw [decide_eq_false (by omega)]; rfl) | (rw [decide_eq_true (by omega), decide_eq_false (by omega)]; rfl)), rfl⟩
 refine sQ (pA rfl) rfl (sD (nS (cF rfl ?_)))
 refine tS (tR (sB (pE rfl rfl) rfl rfl (fun h109 => ?_) (fun h109 => ?_)))
 refine sQ (pA rfl) rfl (sD (nS (cT rfl ?_)))
 refine tK (nS (cT rfl ?_))
 refine tR (sQ (pA rfl) rfl (sD (nrm_block (nS (tS (tR ?_))))))
 refine sL (lBs rfl rfl) rfl rfl ?_
 refine sB (pure_leq rfl rfl) rfl rfl (fun h125 => ?_) (fun h125 => ?_)
 refine sQ (pM rfl) rfl (sQ (pM rfl) rfl (sQ (pF0 rfl) rfl (sL (lBs rfl rfl) rfl rfl ?_)))
 refine sQ (pLn rfl rfl) rfl (sB (pE rfl rfl) rfl rfl (fun h131 => ?_) (fun h131 => ?_))
 refine sQ (pPt rfl rfl) rfl (sQ (pM rfl) rfl (sQ (pF0 rfl) rfl (sL (lBs rfl rfl) rfl rfl ?_)))
 refine sQ (pure_makeFunc rfl rfl) rfl (seq_valbo rfl (containsNot_Type _ _ _ _ _ hsl _ [] _ [.blk b4 [.int .i64 d]] (tScan · (d + 1)) ks rfl hA (fun i e he => typeScan_1 _ _ _ _ _ (hsl.all e (List.mem_of_getElem? he)) hd (ih _ (hkl.inv he ty0).1 _ _ _ (by omega) (hkl.inv he ty0).2))) perm_all rfl rfl (fun h137 => ?_) (fun h137 => ?_))
 simp only [Bool.not_eq_true', Bool.not_eq_false'] at h137
 refine sQ (pNt rfl) rfl (sQ (pPt rfl rfl) rfl (sQ (pA rfl) rfl (sD (nS (tT (rF1 (rT rfl) ?_))))))
 exact ⟨rfl, by (rw [tScan, tScanL_all, hA]; have := tyOps_spec k; first | (rw [decide_eq_true (by omega), decide_eq_true (by omega)]; simp only [*]; done) | (rw [decide_eq_true (by omega), decide_eq_true (by omega)]; simp only [*]; rfl) | (rw [decide_eq_false (by omega)]; rfl) | (rw [decide_eq_true (by omega), decide_eq_false (by omega)]; rfl)), rfl⟩
 simp only [Bool.not_eq_true', Bool.not_eq_false'] at h137
 refine sQ (pNf rfl) rfl (sQ (pPt rfl rfl) rfl (sQ (pA rfl) rfl (sD (nS (tT (rF1 (rT rfl) ?_))))))
 exact ⟨rfl, by (rw [tScan, tScanL_all, hA]; have := tyOps_spec k; first | (rw [decide_eq_true (by omega), decide_eq_true (by omega)]; simp only [*]; done) | (rw [decide_eq_true (by omega), decide_eq_true (by omega)]; simp only [*]; rfl) | (rw [decide_eq_false (by omega)]; rfl) | (rw [decide_eq_true (by omega), decide_eq_false (by omega)]; rfl)), rfl⟩
 refine sQ (pPt rfl rfl) rfl (sQ (pM rfl) rfl (sK rfl rfl (sK rfl rfl (sK rfl rfl (sK rfl rfl (sK rfl rfl ?_))))))
 refine sQ (pPf rfl rfl) rfl (sQ (pA rfl) rfl (sD (nS (tT (rF1 (rT rfl) ?_)))))
 exact ⟨rfl, by (rw [tScan, tScanL_all, hA]; have := tyOps_spec k; first | (rw [decide_eq_true (by omega), decide_eq_true (by omega)]; simp only [*]; done) | (rw [decide_eq_true (by omega), decide_eq_true (by omega)]; simp only [*]; rfl) | (rw [decide_eq_false (by omega)]; rfl) | (rw [decide_eq_true (by omega), decide_eq_false (by omega)]; rfl)), rfl⟩
 refine sQ (pM rfl) rfl (sK rfl rfl (sK rfl rfl (sK rfl rfl (sK rfl rfl (sK rfl rfl (sQ (pPf rfl rfl) rfl ?_))))))
 refine sQ (pM rfl) rfl (sK rfl rfl (sK rfl rfl (sK rfl rfl (sK rfl rfl (sK rfl rfl (sQ (pPf rfl rfl) rfl ?_))))))
 refine sQ (pA rfl) rfl (sD (nS (tT (rF1 (rT rfl) ?_))))
 exact ⟨rfl, by (rw [tScan, tScanL_all, hA]; have := tyOps_spec k; first | (rw [decide_eq_true (by omega), decide_eq_true (by omega)]; simp only [*]; done) | (rw [decide_eq_true (by omega), decide_eq_true (by omega)]; simp only [*]; rfl) | (rw [decide_eq_false (by omega)]; rfl) | (rw [decide_eq_true (by omega), decide_eq_false (by omega)]; rfl)), rfl⟩
 refine sQ (pA rfl) rfl (sD (nS (cF rfl ?_)))
 refine tR (sB (pE rfl rfl) rfl rfl (fun h193 => ?_) (fun h193 => ?_))
 refine sQ (pA rfl) rfl (sD (nS (cT rfl ?_)))
 refine tR (sQ (pA rfl) rfl (sD (nrm_block (nS (tS (tR ?_))))))
 refine sL (lBs rfl rfl) rfl rfl ?_
 refine sB (pure_leq rfl rfl) rfl rfl (fun h206 => ?_) (fun h206 => ?_)
 refine sQ (pM rfl) rfl (sQ (pM rfl) rfl (sQ (pF0 rfl) rfl (sL (lBs rfl rfl) rfl rfl ?_)))
 refine sQ (pLn rfl rfl) rfl (sB (pE rfl rfl) rfl rfl (fun h212 => ?_) (fun h212 => ?_))
 refine sQ (pPt rfl rfl) rfl (sQ (pM rfl) rfl (sQ (pF0 rfl) rfl (sL (lBs rfl rfl) rfl rfl ?_)))
 refine sQ (pure_makeFunc rfl rfl) rfl (seq_valbo rfl (containsNot_Type _ _ _ _ _ hsl _ [] _ [.blk b4 [.int .i64 d]] (tScan · (d + 1)) ks rfl hA (fun i e he => typeScan_1 _ _ _ _ _ (hsl.all e (List.mem_of_getElem? he)) hd (ih _ (hkl.inv he ty0).1 _ _ _ (by omega) (hkl.inv he ty0).2))) perm_all rfl rfl (fun h218 => ?_) (fun h218 => ?_))
 simp only [Bool.not_eq_true', Bool.not_eq_false'] at h218
 refine sQ (pNt rfl) rfl (sQ (pPt rfl rfl) rfl (sQ (pA rfl) rfl (sD (nS (tT (rF1 (rT rfl) ?_))))))
 exact ⟨rfl, by (rw [tScan, tScanL_all, hA]; have := tyOps_spec k; first | (rw [decide_eq_true (by omega), decide_eq_true (by omega)]; simp only [*]; done) | (rw [decide_eq_true (by omega), decide_eq_true (by omega)]; simp only [*]; rfl) | (rw [decide_eq_false (by omega)]; rfl) | (rw [decide_eq_true (by omega), decide_eq_false (by omega)]; rfl)), rfl⟩
 simp only [Bool.not_eq_true', Bool.not_eq_false'] at h218
 refine sQ (pNf rfl) rfl (sQ (pPt rfl rfl) rfl (sQ (pA rfl) rfl (sD (nS (tT (rF1 (rT rfl) ?_))))))
 exact ⟨rfl, by (rw [tScan, tScanL_all, hA]; have := tyOps_spec k; first | (rw [decide_eq_true (by omega), decide_eq_true (by omega)]; simp only [*]; done) | (rw [decide_eq_true (by omega), decide_eq_true (by omega)]; simp only [*]; rfl) | (rw [decide_eq_false (by omega)]; rfl) | (rw [decide_eq_true (by omega), decide_eq_false (by omega)]; rfl)), rfl⟩
 refine sQ (pPt rfl rfl) rfl (sQ (pM rfl) rfl (sK rfl rfl (sK rfl rfl (sK rfl rfl (sK rfl rfl (sK rfl rfl ?_))))))
 refine sQ (pPf rfl rfl) rfl (sQ (pA rfl) rfl (sD (nS (tT (rF1 (rT rfl) ?_)))))
 exact ⟨rfl, by (rw [tScan, tScanL_all, hA]; have := tyOps_spec k; first | (rw [decide_eq_true (by omega), decide_eq_true (by omega)]; simp only [*]; done) | (rw [decide_eq_true (by omega), decide_eq_true (by omega)]; simp only [*]; rfl) | (rw [decide_eq_false (by omega)]; rfl) | (rw [decide_eq_true (by omega), decide_eq_false (by omega)]; rfl)), rfl⟩
 refine sQ (pM rfl) rfl (sK rfl rfl (sK rfl rfl (sK rfl rfl (sK rfl rfl (sK rfl rfl (sQ (pPf rfl rfl) rfl ?_))))))
 refine sQ (pM rfl) rfl (sK rfl rfl (sK rfl rfl (sK rfl rfl (sK rfl rfl (sK rfl rfl (sQ (pPf rfl rfl) rfl ?_))))))
 refine sQ (pA rfl) rfl (sD (nS (tT (rF1 (rT rfl) ?_))))
 exact ⟨rfl, by (rw [tScan, tScanL_all, hA]; have := tyOps_spec k; first | (rw [decide_eq_true (by omega), decide_eq_true (by omega)]; simp only [*]; done) | (rw [decide_eq_true (by omega), decide_eq_true (by omega)]; simp only [*]; rfl) | (rw [decide_eq_false (by omega)]; rfl) | (rw [decide_eq_true (by omega), decide_eq_false (by omega)]; rfl)), rfl⟩
 refine sQ (pA rfl) rfl (sD (nS (cF rfl ?_)))
 refine tS (tS (tR (sB (pE rfl rfl) rfl rfl (fun h276 => ?_) (fun h276 => ?_))))
 refine sQ (pA rfl) rfl (sD (nS (cT rfl ?_)))
 refine tK (nS (cT rfl ?_))
 refine tR (sQ (pA rfl) rfl (sD (nrm_block (nS (tS (tR ?_))))))
 refine sL (lBs rfl rfl) rfl rfl ?_
 refine sB (pure_leq rfl rfl) rfl rfl (fun h292 => ?_) (fun h292 => ?_)
 refine sQ (pM rfl) rfl (sQ (pM rfl) rfl (sQ (pF0 rfl) rfl (sL (lBs rfl rfl) rfl rfl ?_)))
 refine sQ (pLn rfl rfl) rfl (sB (pE rfl rfl) rfl rfl (fun h298 => ?_) (fun h298 => ?_))
 refine sQ (pPt rfl rfl) rfl (sQ (pM rfl) rfl (sQ (pF0 rfl) rfl (sL (lBs rfl rfl) rfl rfl ?_)))
 refine sQ (pure_makeFunc rfl rfl) rfl (seq_valbo rfl (containsNot_Type _ _ _ _ _ hsl _ [] _ [.blk b4 [.int .i64 d]] (tScan · (d + 1)) ks rfl hA (fun i e he => typeScan_1 _ _ _ _ _ (hsl.all e (List.mem_of_getElem? he)) hd (ih _ (hkl.inv he ty0).1 _ _ _ (by omega) (hkl.inv he ty0).2))) perm_all rfl rfl (fun h304 => ?_) (fun h304 => ?_))
 simp only [Bool.not_eq_true', Bool.not_eq_false'] at h304
 refine sQ (pNt rfl) rfl (sQ (pPt rfl rfl) rfl (sQ (pA rfl) rfl (sD (nS (tT (rF1 (rT rfl) ?_))))))
 exact ⟨rfl, by (rw [tScan, tScanL_all, hA]; have := tyOps_spec k; first | (rw [decide_eq_true (by omega), decide_eq_true (by omega)]; simp only [*]; done) | (rw [decide_eq_true (by omega), decide_eq_true (by omega)]; simp only [*]; rfl) | (rw [decide_eq_false (by omega)]; rfl) | (rw [decide_eq_true (by omega), decide_eq_false (by omega)]; rfl)), rfl⟩
 simp only [Bool.not_eq_true', Bool.not_eq_false'] at h304
 refine sQ (pNf rfl) rfl (sQ (pPt rfl rfl) rfl (sQ (pA rfl) rfl (sD (nS (tT (rF1 (rT rfl) ?_))))))
 exact ⟨rfl, by (rw [tScan, tScanL_all, hA]; have := tyOps_spec k; first | (rw [decide_eq_true (by omega), decide_eq_true (by omega)]; simp only [*]; done) | (rw [decide_eq_true (by omega), decide_eq_true (by omega)]; simp only [*]; rfl) | (rw [decide_eq_false (by omega)]; rfl) | (rw [decide_eq_true (by omega), decide_eq_false (by omega)]; rfl)), rfl⟩
 refine sQ (pPt rfl rfl) rfl (sQ (pM rfl) rfl (sK rfl rfl (sK rfl rfl (sK rfl rfl (sK rfl rfl (sK rfl rfl ?_))))))
 refine sQ (pPf rfl rfl) rfl (sQ (pA rfl) rfl (sD (nS (tT (rF1 (rT rfl) ?_)))))
 exact ⟨rfl, by (rw [tScan, tScanL_all, hA]; have := tyOps_spec k; first | (rw [decide_eq_true (by omega), decide_eq_true (by omega)]; simp only [*]; done) | (rw [decide_eq_true (by omega), decide_eq_true (by omega)]; simp only [*]; rfl) | (rw [decide_eq_false (by omega)]; rfl) | (rw [decide_eq_true (by omega), decide_eq_false (by omega)]; rfl)), rfl⟩
 refine sQ (pM rfl) rfl (sK rfl rfl (sK rfl rfl (sK rfl rfl (sK rfl rfl (sK rfl rfl (sQ (pPf rfl rfl) rfl ?_))))))
 refine sQ (pM rfl) rfl (sK rfl rfl (sK rfl rfl (sK rfl rfl (sK rfl rfl (sK rfl rfl (sQ (pPf rfl rfl) rfl ?_))))))
 refine sQ (pA rfl) rfl (sD (nS (tT (rF1 (rT rfl) ?_))))
 exact ⟨rfl, by (rw [tScan, tScanL_all, hA]; have := tyOps_spec k; first | (rw [decide_eq_true (by omega), decide_eq_true (by omega)]; simp only [*]; done) | (rw [decide_eq_true (by omega), decide_eq_true (by omega)]; simp only [*]; rfl) | (rw [decide_eq_false (by omega)]; rfl) | (rw [decide_eq_true (by omega), decide_eq_false (by omega)]; rfl)), rfl⟩
 refine sQ (pA rfl) rfl (sD (nS (cF rfl ?_)))
 refine tR (sB (pE rfl rfl) rfl rfl (fun h360 => ?_) (fun h360 => ?_))
 refine sQ (pA rfl) rfl (sD (nS (cT rfl ?_)))
 refine tR (sQ (pA rfl) rfl (sD (nrm_block (nS (tS (tR ?_))))))
 refine sL (lBs rfl rfl) rfl rfl ?_
 refine sB (pure_leq rfl rfl) rfl rfl (fun h373 => ?_) (fun h373 => ?_)
 refine sQ (pM rfl) rfl (sQ (pM rfl) rfl (sQ (pF0 rfl) rfl (sL (lBs rfl rfl) rfl rfl ?_)))
 refine sQ (pLn rfl rfl) rfl (sB (pE rfl rfl) rfl rfl (fun h379 => ?_) (fun h379 => ?_))
 refine sQ (pPt rfl rfl) rfl (sQ (pM rfl) rfl (sQ (pF0 rfl) rfl (sL (lBs rfl rfl) rfl rfl ?_)))
 refine sQ (pure_makeFunc rfl rfl) rfl (seq_valbo rfl (containsNot_Type _ _ _ _ _ hsl _ [] _ [.blk b4 [.int .i64 d]] (tScan · (d + 1)) ks rfl hA (fun i e he => typeScan_1 _ _ _ _ _ (hsl.all e (List.mem_of_getElem? he)) hd (ih _ (hkl.inv he ty0).1 _ _ _ (by omega) (hkl.inv he ty0).2))) perm_all rfl rfl (fun h385 => ?_) (fun h385 => ?_))
 simp only [Bool.not_eq_true', Bool.not_eq_false'] at h385
 refine sQ (pNt rfl) rfl (sQ (pPt rfl rfl) rfl (sQ (pA rfl) rfl (sD (nS (tT (rF1 (rT rfl) ?_))))))
 exact ⟨rfl, by (rw [tScan, tScanL_all, hA]; have := tyOps_spec k; first | (rw [decide_eq_true (by omega), decide_eq_true (by omega)]; simp only [*]; done) | (rw [decide_eq_true (by omega), decide_eq_true (by omega)]; simp only [*]; rfl) | (rw [decide_eq_false (by omega)]; rfl) | (rw [decide_eq_true (by omega), decide_eq_false (by omega)]; rfl)), rfl⟩
 simp only [Bool.not_eq_true', Bool.not_eq_false'] at h385
 refine sQ (pNf rfl) rfl (sQ (pPt rfl rfl) rfl (sQ (pA rfl) rfl (sD (nS (tT (rF1 (rT rfl) ?_))))))
 exact ⟨rfl, by (rw [tScan, tScanL_all, hA]; have := tyOps_spec k; first | (rw [decide_eq_true (by omega), decide_eq_true (by omega)]; simp only [*]; done) | (rw [decide_eq_true (by omega), decide_eq_true (by omega)]; simp only [*]; rfl) | (rw [decide_eq_false (by omega)]; rfl) | (rw [decide_eq_true (by omega), decide_eq_false (by omega)]; rfl)), rfl⟩
 refine sQ (pPt rfl rfl) rfl (sQ (pM rfl) rfl (sK rfl rfl (sK rfl rfl (sK rfl rfl (sK rfl rfl (sK rfl rfl ?_))))))
 refine sQ (pPf rfl rfl) rfl (sQ (pA rfl) rfl (sD (nS (tT (rF1 (rT rfl) ?_)))))
 exact ⟨rfl, by (rw [tScan, tScanL_all, hA]; have := tyOps_spec k; first | (rw [decide_eq_true (by omega), decide_eq_true (by omega)]; simp only [*]; done) | (rw [decide_eq_true (by omega), decide_eq_true (by omega)]; simp only [*]; rfl) | (rw [decide_eq_false (by omega)]; rfl) | (rw [decide_eq_true (by omega), decide_eq_false (by omega)]; rfl)), rfl⟩
 refine sQ (pM rfl) rfl (sK rfl rfl (sK rfl rfl (sK rfl rfl (sK rfl rfl (sK rfl rfl (sQ (pPf rfl rfl) rfl ?_))))))
 refine sQ (pM rfl) rfl (sK rfl rfl (sK rfl rfl (sK rfl rfl (sK rfl rfl (sK rfl rfl (sQ (pPf rfl rfl) rfl ?_))))))
 refine sQ (pA rfl) rfl (sD (nS (tT (rF1 (rT rfl) ?_))))
 exact ⟨rfl, by (rw [tScan, tScanL_all, hA]; have := tyOps_spec k; first | (rw [decide_eq_true (by omega), decide_eq_true (by omega)]; simp only [*]; done) | (rw [decide_eq_true (by omega), decide_eq_true (by omega)]; simp only [*]; rfl) | (rw [decide_eq_false (by omega)]; rfl) | (rw [decide_eq_true (by omega), decide_eq_false (by omega)]; rfl)), rfl⟩
 refine sQ (pA rfl) rfl (sD (nS (cF rfl ?_)))
 refine tK (nrm_block (nS (tS (tR (sL (lBs rfl rfl) rfl rfl ?_)))))
 refine sB (pure_leq rfl rfl) rfl rfl (fun h446 => ?_) (fun h446 => ?_)
 refine sQ (pM rfl) rfl (sQ (pM rfl) rfl (sQ (pF0 rfl) rfl (sL (lBs rfl rfl) rfl rfl ?_)))
 refine sQ (pLn rfl rfl) rfl (sP (pure_eql_f rfl rfl (by omega)) rfl rfl ?_)
 refine sQ (pPt rfl rfl) rfl (sQ (pM rfl) rfl (sK rfl rfl (sK rfl rfl (sK rfl rfl (sK rfl rfl (sK rfl rfl ?_))))))
 refine sQ (pPf rfl rfl) rfl (sQ (pA rfl) rfl (sD (nS (tT (rF1 (rT rfl) ?_)))))
 exact ⟨rfl, by (rw [tScan, tScanL_all, hA]; have := tyOps_spec k; first | (rw [decide_eq_true (by omega), decide_eq_true (by omega)]; simp only [*]; done) | (rw [decide_eq_true (by omega), decide_eq_true (by omega)]; simp only [*]; rfl) | (rw [decide_eq_false (by omega)]; rfl) | (rw [decide_eq_true (by omega), decide_eq_false (by omega)]; rfl)), rfl⟩
 refine sQ (pM rfl) rfl (sK rfl rfl (sK rfl rfl (sK rfl rfl (sK rfl rfl (sK rfl rfl (sQ (pPf rfl rfl) rfl ?_))))))
 refine sQ (pM rfl) rfl (sK rfl rfl (sK rfl rfl (sK rfl rfl (sK rfl rfl (sK rfl rfl (sQ (pPf rfl rfl) rfl ?_))))))
 refine sQ (pA rfl) rfl (sD (nS (tT (rF1 (rT rfl) ?_))))
 exact ⟨rfl, by (rw [tScan, tScanL_all, hA]; have := tyOps_spec k; first | (rw [decide_eq_true (by omega), decide_eq_true (by omega)]; simp only [*]; done) | (rw [decide_eq_true (by omega), decide_eq_true (by omega)]; simp only [*]; rfl) | (rw [decide_eq_false (by omega)]; rfl) | (rw [decide_eq_true (by omega), decide_eq_false (by omega)]; rfl)), rfl⟩
theorem typeValid_fn (t : Ty) (G : IM) (cells : List Value) (hr : RTy G t cells) : Fn Tryz.prog 90 [.agg ⟨cells⟩] [] G (Val (.bool (tValid t)) G) := by
 have hl := hr.len
 have hv := typeScan_fn t 1 G cells (by omega) hr
 refine fn_enter Tryz.func90 rfl Tryz.ntmps90 Tryz.results90 rfl ?_
 intro w0
 refine tS (tR ?_)
 refine sE (step_box_a rfl rfl) rfl (fun b3 => ?_)
 refine sQ (pA rfl) rfl (sD (nS (tS (tR (sL (load_a rfl rfl (at_blk_all (by repeat first | exact mH | apply mT)) (by assumption)) rfl rfl ?_)))))
 refine seq_val rfl (hv) rfl rfl ?_
 refine sQ (pA rfl) rfl (sD (nS (tT (rF1 (rT rfl) ?_))))
 exact ⟨rfl, rfl, rfl⟩
theorem consistent_fn : ∀ (t t' : Ty) (G : IM) (cells cells' : List Value), RTy G t cells → RTy G t' cells' →
  Fn Tryz.prog 123 [.agg ⟨cells⟩, .agg ⟨cells'⟩] [] G (Val (.bool (tCons t t')) G) := by
 refine Ty.ind fun k ks ih t' G cells cells' hr hr' => ?_
 obtain ⟨k', ks'⟩ := t'
 obtain ⟨p, c, es, rfl, hk, hsl, hkl⟩ := hr.open
 obtain ⟨p', c', es', rfl, hk', hsl', hkl'⟩ := hr'.open
 simp only [Ty.k, Ty.ks] at hk hsl hkl hk' hsl' hkl' ⊢
 have hn := hsl.le
 have hn' := hsl'.le
 obtain ⟨A, hA⟩ : ∃ A, tConsL ks ks' = A := ⟨_, rfl⟩
 have hA' : A = true ↔ ks.length = ks'.length ∧ ∀ i, i < ks.length → tCons (ks.getD i ty0) (ks'.getD i ty0) = true := by
  rw [← hA, tConsL_iff]
  constructor
  ·rintro ⟨h1, h2⟩
   refine ⟨h1, fun i hi => ?_⟩
   have := h2 i hi (by omega)
   simpa [List.getD_eq_getElem?_getD, List.getElem?_eq_getElem hi, List.getElem?_eq_getElem (show i < ks'.length by omega)] using this
  ·rintro ⟨h1, h2⟩
   refine ⟨h1, fun i hi hi' => ?_⟩
   have := h2 i hi
   simpa [List.getD_eq_getElem?_getD, List.getElem?_eq_getElem hi, List.getElem?_eq_getElem hi'] using this
 refine fn_enter Tryz.func123 rfl Tryz.ntmps123 Tryz.results123 rfl ?_
 intro w0
 refine tS (tR ?_)
 refine sE (step_box_a rfl rfl) rfl (fun b3 => ?_)
 refine sE (step_box_a rfl rfl) rfl (fun b4 => ?_)
 refine sQ (pA rfl) rfl (sD (nS (tS (tR (sQ (pF0 rfl) rfl (sL (lBs rfl rfl) rfl rfl ?_))))))
 refine sB (pE rfl rfl) rfl rfl (fun h12 => ?_) (fun h12 => ?_)
 refine sQ (pM rfl) rfl (sK rfl rfl (sK rfl rfl (sK rfl rfl (sQ (pPt rfl rfl) rfl (sQ (pM rfl) rfl (sK rfl rfl ?_))))))
 refine sK rfl rfl (sK rfl rfl (sK rfl rfl (sK rfl rfl (sK rfl rfl (sK rfl rfl (sK rfl rfl ?_))))))
 refine sK rfl rfl (sK rfl rfl (sK rfl rfl (sK rfl rfl (sQ (pPt rfl rfl) rfl (sQ (pA rfl) rfl (sD ?_))))))
 refine nS (tT (rF1 (rT rfl) ?_))
 exact ⟨rfl, by (rw [tCons_mk, hA]; first | (rw [decide_eq_true (p := k = 1) (by omega)]; rfl) | (rw [decide_eq_false (p := k = 1) (by omega), decide_eq_true (p := k' = 1) (by omega)]; rfl) | (rw [decide_eq_false (p := k = 1) (by omega), decide_eq_false (p := k' = 1) (by omega), decide_eq_false (p := k = k') (by omega)]; rfl) | (rw [decide_eq_false (p := k = 1) (by omega), decide_eq_false (p := k' = 1) (by omega), decide_eq_true (p := k = k') (by omega)]; simp only [*]; rfl)), rfl⟩
 refine sQ (pM rfl) rfl (sQ (pF0 rfl) rfl (sL (lBs rfl rfl) rfl rfl ?_))
 refine sB (pE rfl rfl) rfl rfl (fun h41 => ?_) (fun h41 => ?_)
 refine sQ (pPf rfl rfl) rfl (sQ (pM rfl) rfl (sK rfl rfl (sK rfl rfl (sK rfl rfl (sK rfl rfl (sK rfl rfl ?_))))))
 refine sK rfl rfl (sK rfl rfl (sK rfl rfl (sK rfl rfl (sK rfl rfl (sK rfl rfl (sK rfl rfl ?_))))))
 refine sQ (pPt rfl rfl) rfl (sQ (pA rfl) rfl (sD (nS (tT (rF1 (rT rfl) ?_)))))
 exact ⟨rfl, by (rw [tCons_mk, hA]; first | (rw [decide_eq_true (p := k = 1) (by omega)]; rfl) | (rw [decide_eq_false (p := k = 1) (by omega), decide_eq_true (p := k' = 1) (by omega)]; rfl) | (rw [decide_eq_false (p := k = 1) (by omega), decide_eq_false (p := k' = 1) (by omega), decide_eq_false (p := k = k') (by omega)]; rfl) | (rw [decide_eq_false (p := k = 1) (by omega), decide_eq_false (p := k' = 1) (by omega), decide_eq_true (p := k = k') (by omega)]; simp only [*]; rfl)), rfl⟩
 refine sQ (pPf rfl rfl) rfl (sQ (pM rfl) rfl (sQ (pF0 rfl) rfl (sL (lBs rfl rfl) rfl rfl ?_)))
 refine sQ (pF0 rfl) rfl (sL (lBs rfl rfl) rfl rfl ?_)
 refine sB (pE rfl rfl) rfl rfl (fun h69 => ?_) (fun h69 => ?_)
 refine sQ (pM rfl) rfl (sQ (pF0 rfl) rfl (sL (lBs rfl rfl) rfl rfl ?_))
 refine sQ (pF0 rfl) rfl (sL (lBs rfl rfl) rfl rfl ?_)
 refine seq_valb rfl (equalFunc_Type _ _ _ _ _ _ _ _ _ hsl hsl' _ [] [] [] (fun i => tCons (ks.getD i ty0) (ks'.getD i ty0)) A hA' (fun i e e' he he' => ih _ (hkl.inv he ty0).1 _ _ _ _ (hkl.inv he ty0).2 (hkl'.inv he' ty0).2)) rfl rfl (fun h75 => ?_) (fun h75 => ?_)
 refine sQ (pPt rfl rfl) rfl (sQ (pPf rfl rfl) rfl (sQ (pA rfl) rfl (sD (nS (tT (rF1 (rT rfl) ?_))))))
 exact ⟨rfl, by (rw [tCons_mk, hA]; first | (rw [decide_eq_true (p := k = 1) (by omega)]; rfl) | (rw [decide_eq_false (p := k = 1) (by omega), decide_eq_true (p := k' = 1) (by omega)]; rfl) | (rw [decide_eq_false (p := k = 1) (by omega), decide_eq_false (p := k' = 1) (by omega), decide_eq_false (p := k = k') (by omega)]; rfl) | (rw [decide_eq_false (p := k = 1) (by omega), decide_eq_false (p := k' = 1) (by omega), decide_eq_true (p := k = k') (by omega)]; simp only [*]; rfl)), rfl⟩
 refine sQ (pPt rfl rfl) rfl (sQ (pPf rfl rfl) rfl (sQ (pA rfl) rfl (sD (nS (tT (rF1 (rT rfl) ?_))))))
 exact ⟨rfl, by (rw [tCons_mk, hA]; first | (rw [decide_eq_true (p := k = 1) (by omega)]; rfl) | (rw [decide_eq_false (p := k = 1) (by omega), decide_eq_true (p := k' = 1) (by omega)]; rfl) | (rw [decide_eq_false (p := k = 1) (by omega), decide_eq_false (p := k' = 1) (by omega), decide_eq_false (p := k = k') (by omega)]; rfl) | (rw [decide_eq_false (p := k = 1) (by omega), decide_eq_false (p := k' = 1) (by omega), decide_eq_true (p := k = k') (by omega)]; simp only [*]; rfl)), rfl⟩
 refine sQ (pM rfl) rfl (sK rfl rfl (sK rfl rfl (sK rfl rfl (sK rfl rfl (sK rfl rfl (sQ (pPf rfl rfl) rfl ?_))))))
 refine sQ (pPf rfl rfl) rfl (sQ (pA rfl) rfl (sD (nS (tT (rF1 (rT rfl) ?_)))))
 exact ⟨rfl, by (rw [tCons_mk, hA]; first | (rw [decide_eq_true (p := k = 1) (by omega)]; rfl) | (rw [decide_eq_false (p := k = 1) (by omega), decide_eq_true (p := k' = 1) (by omega)]; rfl) | (rw [decide_eq_false (p := k = 1) (by omega), decide_eq_false (p := k' = 1) (by omega), decide_eq_false (p := k = k') (by omega)]; rfl) | (rw [decide_eq_false (p := k = 1) (by omega), decide_eq_false (p := k' = 1) (by omega), decide_eq_true (p := k = k') (by omega)]; simp only [*]; rfl)), rfl⟩
theorem consistentT_fn (t t' : Ty) (G : IM) (cells cells' : List Value) (hr : RTy G t cells) (hr' : RTy G t' cells') :
  Fn Tryz.prog 138 [.agg ⟨cells⟩, .agg ⟨cells'⟩] [] G (Val (.bool (tConsistent t t')) G) := by
 have hl := hr.len
 have hl' := hr'.len
 have hv := typeValid_fn t G cells hr
 have hv' := typeValid_fn t' G cells' hr'
 have hc := consistent_fn t t' G cells cells' hr hr'
 refine fn_enter Tryz.func138 rfl Tryz.ntmps138 Tryz.results138 rfl ?_
 intro w0
 refine tS (tR ?_)
 refine sE (step_box_a rfl rfl) rfl (fun b3 => ?_)
 refine sE (step_box_a rfl rfl) rfl (fun b4 => ?_)
 refine sQ (pA rfl) rfl (sD (nS (tS (tR (sL (load_a rfl rfl (at_blk_all (by repeat first | exact mH | apply mT)) (by assumption)) rfl rfl ?_)))))
 refine seq_valb rfl (hv) rfl rfl (fun h11 => ?_) (fun h11 => ?_)
 refine sQ (pM rfl) rfl (sL (load_a rfl rfl (at_blk_all (by repeat first | exact mH | apply mT)) (by assumption)) rfl rfl ?_)
 refine seq_valb rfl (hv') rfl rfl (fun h14 => ?_) (fun h14 => ?_)
 refine sQ (pPt rfl rfl) rfl (sQ (pM rfl) rfl (sL (load_a rfl rfl (at_blk_all (by repeat first | exact mH | apply mT)) (by assumption)) rfl rfl ?_))
 refine sL (load_a rfl rfl (at_blk_all (by repeat first | exact mH | apply mT)) (by assumption)) rfl rfl ?_
 refine seq_valb rfl (hc) rfl rfl (fun h19 => ?_) (fun h19 => ?_)
 refine sQ (pPt rfl rfl) rfl (sQ (pA rfl) rfl (sD (nS (tT (rF1 (rT rfl) ?_)))))
 exact ⟨rfl, by simp only [tConsistent]; simp only [*, Bool.true_and, Bool.false_and, Bool.and_true], rfl⟩
 refine sQ (pPt rfl rfl) rfl (sQ (pA rfl) rfl (sD (nS (tT (rF1 (rT rfl) ?_)))))
 exact ⟨rfl, by simp only [tConsistent]; simp only [*, Bool.true_and, Bool.false_and, Bool.and_true], rfl⟩
 refine sQ (pPt rfl rfl) rfl (sQ (pM rfl) rfl (sK rfl rfl (sK rfl rfl (sK rfl rfl (sQ (pPf rfl rfl) rfl (sQ (pA rfl) rfl ?_))))))
 refine sD (nS (tT (rF1 (rT rfl) ?_)))
 exact ⟨rfl, by simp only [tConsistent]; simp only [*, Bool.true_and, Bool.false_and, Bool.and_true], rfl⟩
 refine sQ (pM rfl) rfl (sK rfl rfl (sK rfl rfl (sQ (pPf rfl rfl) rfl (sQ (pM rfl) rfl (sK rfl rfl (sK rfl rfl ?_))))))
 refine sK rfl rfl (sQ (pPf rfl rfl) rfl (sQ (pA rfl) rfl (sD (nS (tT (rF1 (rT rfl) ?_))))))
 exact ⟨rfl, by simp only [tConsistent]; simp only [*, Bool.true_and, Bool.false_and, Bool.and_true], rfl⟩
theorem operands_fn (k : Int) (G : IM) (hk : I64 k) : Fn Tryz.prog 136 [.int .i64 k] [] G (Val (.int .i64 (tmOps k)) G) := by
 unfold I64 at hk
 refine fn_enter Tryz.func136 rfl Tryz.ntmps136 Tryz.results136 rfl ?_
 intro w0
 refine tS (tR (sQ (pA rfl) rfl (sD (nS (tS (tS ?_))))))
 refine tR (sQ (pM rfl) rfl (seq_valb rfl (within_fn _ _ _ _) rfl rfl (fun h10 => ?_) (fun h10 => ?_)))
 refine sQ (pNt rfl) rfl (sD (nS (cF rfl ?_)))
 refine tK (nS (tS (tR ?_)))
 (refine seq_step (step_buildSlice rfl rfl rfl (by omega) (by unfold maxLen; omega) rfl) rfl ?_; rintro _ ⟨b19, rfl⟩)
 refine sQ (pM rfl) rfl ?_
 (have hkk : 1 ≤ k ∧ k ≤ 14 := withinB_t (by assumption); refine sP (pure_sub rfl rfl (by omega) (by omega)) rfl rfl ?_)
 refine sP (pure_indexAddr rfl rfl rfl (by omega) (by omega)) rfl rfl ?_
 refine sL (load_s rfl rfl (at_slc (by repeat first | exact mH | apply mT) (one_at (by rw [Nat.zero_add, Nat.mul_one]; exact tmOps_tab hkk)))) rfl rfl ?_
 refine sQ (pA rfl) rfl (sD (nS (tT (rF1 (rT rfl) ?_))))
 exact ⟨rfl, rfl, rfl⟩
 refine sQ (pNf rfl) rfl (sD (nS (cT rfl ?_)))
 refine tS (tR (sQ (pA rfl) rfl (sD (nS (tT (rS ?_))))))
 refine rF1 (rT rfl) ?_
 exact ⟨rfl, by rw [tmOps_no (withinB_f (by assumption))], rfl⟩
theorem nodeOk_fn (k : Int) (nm : ByteArray) (num : Int) (ty fr : Ty) (lb : Int) (ks : List Tm) (G : IM) (cells : List Value) (hr : RTm G (.mk k nm num ty fr lb ks) cells) :
  Fn Tryz.prog 110 [.agg ⟨cells⟩] [] G (Val (.bool (tmNode k nm num ty fr lb ks.length)) G) := by
 obtain ⟨tk, tks⟩ := ty
 obtain ⟨fk, fks⟩ := fr
 obtain ⟨pt, ct, pf, cf, p, c, es, rfl, hk, hnum, hlb, hty, hfr, hsl, hkl⟩ := hr.open9
 have hi := @tmNode_iff k nm num (.mk tk tks) (.mk fk fks) lb ks.length
 obtain ⟨R, hR⟩ : ∃ R, tmNode k nm num (.mk tk tks) (.mk fk fks) lb ks.length = R := ⟨_, rfl⟩
 rw [hR] at hi ⊢
 clear hR hr
 have o1 := operands_fn k G hk
 have o2 := isName_fn nm G
 have o3 := typeValid_fn _ G _ hty
 have o4 := isNoType_fn _ G _ hty
 have o5 := consistentT_fn _ _ G _ _ hfr hty
 have o6 := isLabel_fn lb G
 have o7 := isNoType_fn _ G _ hfr
 refine fn_enter Tryz.func110 rfl Tryz.ntmps110 Tryz.results110 rfl ?_
 intro w0
 refine tS (tR ?_)
 refine sE (step_box_a rfl rfl) rfl (fun b3 => ?_)
 refine sQ (pA rfl) rfl (sD (nS (tS (tS (tri_draw mixed rfl ?_)))))
 refine any_pure (i := 0) (l' := [tt,ff,ff,ff,ff,ff,ff]) rfl npI (pF0 rfl) rfl (by kernel_rfl) rfl rfl ?_
 refine aL 1 rfl (lBs rfl rfl) rfl ?_
 refine aP 3 rfl (pF0 rfl) rfl ?_
 refine aL 4 rfl (lBs rfl rfl) rfl ?_
 refine aP 5 rfl (pLn rfl rfl) rfl ?_
 refine aO' 2 ?_
 refine one_val rfl rfl (o1) rfl rfl rfl ?_
 refine any_bool (i := 6) (l' := [tt,tt,tt,tt,tt,tt,tt]) rfl npI (pure_neq rfl rfl) rfl (by kernel_rfl) rfl rfl (fun h17 => ?_) (fun h17 => ?_)
 refine aD' ?_
 refine nS (cT rfl ?_)
 refine tS (tR (sQ (pA rfl) rfl (sD (nS (tT (rS ?_))))))
 refine rF1 (rT rfl) ?_
 exact ⟨rfl, by (cases R with | false => rfl | true => (exfalso; obtain ⟨i1, i2, i3, i4, i5, i6, i7, i8, i9⟩ := hi.1 rfl; first | omega | (have j := i2 (by omega); simp_all; done) | (have j := i3 (by omega); simp_all; done) | (have j := i4 (by omega); simp_all; done) | (have j := i5 (by omega); simp_all; done) | (have j := i6 (by omega); simp_all; done) | (have j := i7 (by omega); simp_all; done) | (have j := i8 (by omega); simp_all; done) | (have j := i9 (by omega); simp_all; done))), rfl⟩
 refine aD' ?_
 refine nS (cF rfl ?_)
 refine tK (nS (tS (tR (sQ (pF0 rfl) rfl (sL (lBs rfl rfl) rfl rfl ?_)))))
 refine sB (pE rfl rfl) rfl rfl (fun h39 => ?_) (fun h39 => ?_)
 refine sQ (pM rfl) rfl (sK rfl rfl (sK rfl rfl (sK rfl rfl (sQ (pPt rfl rfl) rfl (sQ (pA rfl) rfl (sD ?_))))))
 refine nS (tS (tR (sQ (pF0 rfl) rfl (sL (lBs rfl rfl) rfl rfl ?_))))
 refine sP (pure_eql_f rfl rfl (by omega)) rfl rfl ?_
 refine sQ (pM rfl) rfl (sQ (pF0 rfl) rfl (sL (lBs rfl rfl) rfl rfl ?_))
 refine sP (pure_eql_f rfl rfl (by omega)) rfl rfl ?_
 refine sQ (pPf rfl rfl) rfl (sQ (pM rfl) rfl (sQ (pF0 rfl) rfl (sL (lBs rfl rfl) rfl rfl ?_)))
 refine sP (pure_eql_f rfl rfl (by omega)) rfl rfl ?_
 refine sQ (pPf rfl rfl) rfl (sQ (pA rfl) rfl (sD (nS (tS (tR (sQ (pF0 rfl) rfl ?_))))))
 refine sL (lBs rfl rfl) rfl rfl ?_
 refine sP (pure_eql_f rfl rfl (by omega)) rfl rfl ?_
 refine sQ (pA rfl) rfl (sD (nS (tS (tR (sQ (pA rfl) rfl (sD ?_))))))
 refine nS (tS (tS (tR (sQ (pF0 rfl) rfl (sL (lBs rfl rfl) rfl rfl ?_)))))
 refine sP (pure_eql_f rfl rfl (by omega)) rfl rfl ?_
 refine sD (nS (cF rfl ?_))
 refine tK (nS (tS (tri_block (tS (tS (tR ?_))))))
 refine sQ (pM rfl) rfl (sQ (pM rfl) rfl (sQ (pF0 rfl) rfl (sL (lBs rfl rfl) rfl rfl ?_)))
 refine seq_valb rfl (o2) rfl rfl (fun h99 => ?_) (fun h99 => ?_)
 refine sQ (pNt rfl) rfl (sQ (pPt rfl rfl) rfl (sQ (pA rfl) rfl (sD (nS (cF rfl ?_)))))
 refine tS (tR (sQ (pM rfl) rfl (sQ (pNt rfl) rfl (sQ (pM rfl) rfl (sK rfl rfl (sK rfl rfl ?_))))))
 refine sK rfl rfl (sQ (pPf rfl rfl) rfl (sQ (pA rfl) rfl (sD (nS (cF rfl ?_)))))
 refine tR (sQ (pF0 rfl) rfl (sL (lBs rfl rfl) rfl rfl ?_))
 refine sQ (pM rfl) rfl (seq_valb rfl (within_fn _ _ _ _) rfl rfl (fun h123 => ?_) (fun h123 => ?_))
 refine sQ (pNt rfl) rfl (sQ (pA rfl) rfl (sD (nS (cF rfl ?_))))
 refine tS (tS (tR (sQ (pM rfl) rfl (sQ (pM rfl) rfl (sK rfl rfl (sK rfl rfl ?_))))))
 refine sK rfl rfl (sK rfl rfl (sQ (pPf rfl rfl) rfl (sQ (pA rfl) rfl (sD (nS (cF rfl ?_))))))
 refine tR (sQ (pM rfl) rfl (sQ (pNf rfl) rfl (sQ (pM rfl) rfl (sQ (pF0 rfl) rfl (sL (lBa rfl rfl) rfl rfl ?_)))))
 refine seq_valb rfl (o4) rfl rfl (fun h149 => ?_) (fun h149 => ?_)
 refine sQ (pNt rfl) rfl (sQ (pPt rfl rfl) rfl (sQ (pA rfl) rfl (sD (nS (cF rfl ?_)))))
 refine tS (tS (tR (sQ (pM rfl) rfl (sQ (pM rfl) rfl (sK rfl rfl (sK rfl rfl ?_))))))
 refine sK rfl rfl (sK rfl rfl (sK rfl rfl (sK rfl rfl (sK rfl rfl (sK rfl rfl (sK rfl rfl ?_))))))
 refine sK rfl rfl (sK rfl rfl (sK rfl rfl (sQ (pPf rfl rfl) rfl (sQ (pA rfl) rfl (sD (nS ?_))))))
 refine cF rfl ?_
 refine tR (sQ (pM rfl) rfl (sQ (pNf rfl) rfl (sQ (pM rfl) rfl (sQ (pF0 rfl) rfl (sL (lBa rfl rfl) rfl rfl ?_)))))
 refine seq_valb rfl (o7) rfl rfl (fun h184 => ?_) (fun h184 => ?_)
 refine sQ (pNt rfl) rfl (sQ (pM rfl) rfl (sQ (pF0 rfl) rfl (sL (lBs rfl rfl) rfl rfl ?_)))
 refine sB (pure_neq rfl rfl) rfl rfl (fun h189 => ?_) (fun h189 => ?_)
 refine sQ (pPf rfl rfl) rfl (sQ (pPt rfl rfl) rfl (sQ (pA rfl) rfl (sD (nS (cT rfl ?_)))))
 refine tS (tR (sQ (pA rfl) rfl (sD (nS (tT (rB ?_))))))
 refine rS (rF1 (rT rfl) ?_)
 exact ⟨rfl, by (cases R with | false => rfl | true => (exfalso; obtain ⟨i1, i2, i3, i4, i5, i6, i7, i8, i9⟩ := hi.1 rfl; first | omega | (have j := i2 (by omega); simp_all; done) | (have j := i3 (by omega); simp_all; done) | (have j := i4 (by omega); simp_all; done) | (have j := i5 (by omega); simp_all; done) | (have j := i6 (by omega); simp_all; done) | (have j := i7 (by omega); simp_all; done) | (have j := i8 (by omega); simp_all; done) | (have j := i9 (by omega); simp_all; done))), rfl⟩
 refine sQ (pPf rfl rfl) rfl (sQ (pPt rfl rfl) rfl (sQ (pA rfl) rfl (sD (nS (cF rfl ?_)))))
 refine tK (nrm_block (nS (tS (tR (sQ (pA rfl) rfl (sD ?_))))))
 refine nS (tT (rF1 (rT rfl) ?_))
 exact ⟨rfl, by rw [hi.2 ⟨by omega, fun _ => by (first | assumption | (exfalso; omega) | exact Classical.not_not.1 (by assumption)), fun _ => by (first | assumption | (exfalso; omega) | exact Classical.not_not.1 (by assumption)), fun _ => by (first | assumption | (exfalso; omega) | exact Classical.not_not.1 (by assumption)), fun _ => by (first | assumption | (exfalso; omega) | exact Classical.not_not.1 (by assumption)), fun _ => by (first | assumption | (exfalso; omega) | exact Classical.not_not.1 (by assumption)), fun _ => by (first | assumption | (exfalso; omega) | exact Classical.not_not.1 (by assumption)), fun _ => ⟨by (first | assumption | (exfalso; omega)), by (first | assumption | (exfalso; omega))⟩, fun _ => ⟨by (first | assumption | (exfalso; omega)), by (first | assumption | omega)⟩⟩], rfl⟩
 refine sQ (pNf rfl) rfl (sQ (pM rfl) rfl (sK rfl rfl (sK rfl rfl (sK rfl rfl (sQ (pPt rfl rfl) rfl (sQ (pPt rfl rfl) rfl ?_))))))
 refine sQ (pA rfl) rfl (sD (nS (cT rfl ?_)))
 refine tS (tR (sQ (pA rfl) rfl (sD (nS (tT (rB ?_))))))
 refine rS (rF1 (rT rfl) ?_)
 exact ⟨rfl, by (cases R with | false => rfl | true => (exfalso; obtain ⟨i1, i2, i3, i4, i5, i6, i7, i8, i9⟩ := hi.1 rfl; first | omega | (have j := i2 (by omega); simp_all; done) | (have j := i3 (by omega); simp_all; done) | (have j := i4 (by omega); simp_all; done) | (have j := i5 (by omega); simp_all; done) | (have j := i6 (by omega); simp_all; done) | (have j := i7 (by omega); simp_all; done) | (have j := i8 (by omega); simp_all; done) | (have j := i9 (by omega); simp_all; done))), rfl⟩
 refine sQ (pNf rfl) rfl (sQ (pPt rfl rfl) rfl (sQ (pA rfl) rfl (sD (nS (cT rfl ?_)))))
 refine tS (tR (sQ (pA rfl) rfl (sD (nS (tT (rB ?_))))))
 refine rS (rF1 (rT rfl) ?_)
 exact ⟨rfl, by (cases R with | false => rfl | true => (exfalso; obtain ⟨i1, i2, i3, i4, i5, i6, i7, i8, i9⟩ := hi.1 rfl; first | omega | (have j := i2 (by omega); simp_all; done) | (have j := i3 (by omega); simp_all; done) | (have j := i4 (by omega); simp_all; done) | (have j := i5 (by omega); simp_all; done) | (have j := i6 (by omega); simp_all; done) | (have j := i7 (by omega); simp_all; done) | (have j := i8 (by omega); simp_all; done) | (have j := i9 (by omega); simp_all; done))), rfl⟩
 refine sQ (pNf rfl) rfl (sQ (pA rfl) rfl (sD (nS (cT rfl ?_))))
 refine tS (tR (sQ (pA rfl) rfl (sD (nS (tT (rB ?_))))))
 refine rS (rF1 (rT rfl) ?_)
 exact ⟨rfl, by (cases R with | false => rfl | true => (exfalso; obtain ⟨i1, i2, i3, i4, i5, i6, i7, i8, i9⟩ := hi.1 rfl; first | omega | (have j := i2 (by omega); simp_all; done) | (have j := i3 (by omega); simp_all; done) | (have j := i4 (by omega); simp_all; done) | (have j := i5 (by omega); simp_all; done) | (have j := i6 (by omega); simp_all; done) | (have j := i7 (by omega); simp_all; done) | (have j := i8 (by omega); simp_all; done) | (have j := i9 (by omega); simp_all; done))), rfl⟩
 refine sQ (pNf rfl) rfl (sQ (pPt rfl rfl) rfl (sQ (pA rfl) rfl (sD (nS (cT rfl ?_)))))
 refine tK (nS (cT rfl ?_))
 refine tS (tR (sQ (pA rfl) rfl (sD (nS (tT (rB ?_))))))
 refine rS (rF1 (rT rfl) ?_)
 exact ⟨rfl, by (cases R with | false => rfl | true => (exfalso; obtain ⟨i1, i2, i3, i4, i5, i6, i7, i8, i9⟩ := hi.1 rfl; first | omega | (have j := i2 (by omega); simp_all; done) | (have j := i3 (by omega); simp_all; done) | (have j := i4 (by omega); simp_all; done) | (have j := i5 (by omega); simp_all; done) | (have j := i6 (by omega); simp_all; done) | (have j := i7 (by omega); simp_all; done) | (have j := i8 (by omega); simp_all; done) | (have j := i9 (by omega); simp_all; done))), rfl⟩
 refine sQ (pM rfl) rfl (sQ (pF0 rfl) rfl (sL (lBs rfl rfl) rfl rfl ?_))
 refine sB (pE rfl rfl) rfl rfl (fun h297 => ?_) (fun h297 => ?_)
 refine sQ (pPf rfl rfl) rfl (sQ (pA rfl) rfl (sD (nS (tS (tR (sQ (pF0 rfl) rfl ?_))))))
 refine sL (lBs rfl rfl) rfl rfl ?_
 refine sP (pure_eql_t rfl rfl (by omega)) rfl rfl ?_
 refine sQ (pM rfl) rfl (sK rfl rfl (sK rfl rfl (sK rfl rfl (sQ (pPt rfl rfl) rfl (sQ (pM rfl) rfl (sK rfl rfl ?_))))))
 refine sK rfl rfl (sK rfl rfl (sQ (pPt rfl rfl) rfl (sQ (pA rfl) rfl (sD (nS (tS ?_))))))
 refine tR (sQ (pF0 rfl) rfl (sL (lBs rfl rfl) rfl rfl ?_))
 refine sP (pure_eql_f rfl rfl (by omega)) rfl rfl ?_
 refine sQ (pA rfl) rfl (sD (nS (tS (tR (sQ (pA rfl) rfl (sD ?_))))))
 refine nS (tS (tS (tR (sQ (pF0 rfl) rfl (sL (lBs rfl rfl) rfl rfl ?_)))))
 refine sP (pure_eql_f rfl rfl (by omega)) rfl rfl ?_
 refine sD (nS (cF rfl ?_))
 refine tK (nS (tS (tri_block (tS (tS (tR ?_))))))
 refine sQ (pM rfl) rfl (sQ (pM rfl) rfl (sQ (pF0 rfl) rfl (sL (lBs rfl rfl) rfl rfl ?_)))
 refine seq_valb rfl (o2) rfl rfl (fun h353 => ?_) (fun h353 => ?_)
 refine sQ (pNt rfl) rfl (sQ (pPt rfl rfl) rfl (sQ (pA rfl) rfl (sD (nS (cF rfl ?_)))))
 refine tS (tR (sQ (pM rfl) rfl (sQ (pNt rfl) rfl (sQ (pM rfl) rfl (sK rfl rfl (sK rfl rfl ?_))))))
 refine sK rfl rfl (sQ (pPf rfl rfl) rfl (sQ (pA rfl) rfl (sD (nS (cF rfl ?_)))))
 refine tR (sQ (pF0 rfl) rfl (sL (lBs rfl rfl) rfl rfl ?_))
 refine sQ (pM rfl) rfl (seq_valb rfl (within_fn _ _ _ _) rfl rfl (fun h377 => ?_) (fun h377 => ?_))
 refine sQ (pNt rfl) rfl (sQ (pA rfl) rfl (sD (nS (cF rfl ?_))))
 refine tS (tS (tR (sQ (pM rfl) rfl (sQ (pM rfl) rfl (sQ (pF0 rfl) rfl (sL (lBa rfl rfl) rfl rfl ?_))))))
 refine seq_valb rfl (o3) rfl rfl (fun h390 => ?_) (fun h390 => ?_)
 refine sQ (pNt rfl) rfl (sQ (pPt rfl rfl) rfl (sQ (pA rfl) rfl (sD (nS (cF rfl ?_)))))
 refine tR (sQ (pM rfl) rfl (sQ (pNt rfl) rfl (sQ (pM rfl) rfl (sK rfl rfl (sK rfl rfl (sK rfl rfl ?_))))))
 refine sK rfl rfl (sQ (pPf rfl rfl) rfl (sQ (pA rfl) rfl (sD (nS (cF rfl ?_)))))
 refine tS (tS (tR (sQ (pM rfl) rfl (sQ (pM rfl) rfl (sK rfl rfl (sK rfl rfl ?_))))))
 refine sK rfl rfl (sK rfl rfl (sK rfl rfl (sK rfl rfl (sK rfl rfl (sK rfl rfl (sK rfl rfl ?_))))))
 refine sK rfl rfl (sK rfl rfl (sK rfl rfl (sQ (pPf rfl rfl) rfl (sQ (pA rfl) rfl (sD (nS ?_))))))
 refine cF rfl ?_
 refine tR (sQ (pM rfl) rfl (sQ (pNf rfl) rfl (sQ (pM rfl) rfl (sQ (pF0 rfl) rfl (sL (lBa rfl rfl) rfl rfl ?_)))))
 refine seq_valb rfl (o7) rfl rfl (fun h438 => ?_) (fun h438 => ?_)
 refine sQ (pNt rfl) rfl (sQ (pM rfl) rfl (sQ (pF0 rfl) rfl (sL (lBs rfl rfl) rfl rfl ?_)))
 refine sB (pure_neq rfl rfl) rfl rfl (fun h443 => ?_) (fun h443 => ?_)
 refine sQ (pPf rfl rfl) rfl (sQ (pPt rfl rfl) rfl (sQ (pA rfl) rfl (sD (nS (cT rfl ?_)))))
 refine tS (tR (sQ (pA rfl) rfl (sD (nS (tT (rB ?_))))))
 refine rS (rF1 (rT rfl) ?_)
 exact ⟨rfl, by (cases R with | false => rfl | true => (exfalso; obtain ⟨i1, i2, i3, i4, i5, i6, i7, i8, i9⟩ := hi.1 rfl; first | omega | (have j := i2 (by omega); simp_all; done) | (have j := i3 (by omega); simp_all; done) | (have j := i4 (by omega); simp_all; done) | (have j := i5 (by omega); simp_all; done) | (have j := i6 (by omega); simp_all; done) | (have j := i7 (by omega); simp_all; done) | (have j := i8 (by omega); simp_all; done) | (have j := i9 (by omega); simp_all; done))), rfl⟩
 refine sQ (pPf rfl rfl) rfl (sQ (pPt rfl rfl) rfl (sQ (pA rfl) rfl (sD (nS (cF rfl ?_)))))
 refine tK (nrm_block (nS (tS (tR (sQ (pA rfl) rfl (sD ?_))))))
 refine nS (tT (rF1 (rT rfl) ?_))
 exact ⟨rfl, by rw [hi.2 ⟨by omega, fun _ => by (first | assumption | (exfalso; omega) | exact Classical.not_not.1 (by assumption)), fun _ => by (first | assumption | (exfalso; omega) | exact Classical.not_not.1 (by assumption)), fun _ => by (first | assumption | (exfalso; omega) | exact Classical.not_not.1 (by assumption)), fun _ => by (first | assumption | (exfalso; omega) | exact Classical.not_not.1 (by assumption)), fun _ => by (first | assumption | (exfalso; omega) | exact Classical.not_not.1 (by assumption)), fun _ => by (first | assumption | (exfalso; omega) | exact Classical.not_not.1 (by assumption)), fun _ => ⟨by (first | assumption | (exfalso; omega)), by (first | assumption | (exfalso; omega))⟩, fun _ => ⟨by (first | assumption | (exfalso; omega)), by (first | assumption | omega)⟩⟩], rfl⟩
 refine sQ (pNf rfl) rfl (sQ (pM rfl) rfl (sK rfl rfl (sK rfl rfl (sK rfl rfl (sQ (pPt rfl rfl) rfl (sQ (pPt rfl rfl) rfl ?_))))))
 refine sQ (pA rfl) rfl (sD (nS (cT rfl ?_)))
 refine tS (tR (sQ (pA rfl) rfl (sD (nS (tT (rB ?_))))))
 refine rS (rF1 (rT rfl) ?_)
 exact ⟨rfl, by (cases R with | false => rfl | true => (exfalso; obtain ⟨i1, i2, i3, i4, i5, i6, i7, i8, i9⟩ := hi.1 rfl; first | omega | (have j := i2 (by omega); simp_all; done) | (have j := i3 (by omega); simp_all; done) | (have j := i4 (by omega); simp_all; done) | (have j := i5 (by omega); simp_all; done) | (have j := i6 (by omega); simp_all; done) | (have j := i7 (by omega); simp_all; done) | (have j := i8 (by omega); simp_all; done) | (have j := i9 (by omega); simp_all; done))), rfl⟩
 refine sQ (pNf rfl) rfl (sQ (pPt rfl rfl) rfl (sQ (pA rfl) rfl (sD (nS (cT rfl ?_)))))
 refine tK (nS (cT rfl ?_))
 refine tS (tR (sQ (pA rfl) rfl (sD (nS (tT (rB ?_))))))
 refine rS (rF1 (rT rfl) ?_)
 exact ⟨rfl, by (cases R with | false => rfl | true => (exfalso; obtain ⟨i1, i2, i3, i4, i5, i6, i7, i8, i9⟩ := hi.1 rfl; first | omega | (have j := i2 (by omega); simp_all; done) | (have j := i3 (by omega); simp_all; done) | (have j := i4 (by omega); simp_all; done) | (have j := i5 (by omega); simp_all; done) | (have j := i6 (by omega); simp_all; done) | (have j := i7 (by omega); simp_all; done) | (have j := i8 (by omega); simp_all; done) | (have j := i9 (by omega); simp_all; done))), rfl⟩
 refine sQ (pNf rfl) rfl (sQ (pA rfl) rfl (sD (nS (cT rfl ?_))))
 refine tS (tR (sQ (pA rfl) rfl (sD (nS (tT (rB ?_))))))
 refine rS (rF1 (rT rfl) ?_)
 exact ⟨rfl, by (cases R with | false => rfl | true => (exfalso; obtain ⟨i1, i2, i3, i4, i5, i6, i7, i8, i9⟩ := hi.1 rfl; first | omega | (have j := i2 (by omega); simp_all; done) | (have j := i3 (by omega); simp_all; done) | (have j := i4 (by omega); simp_all; done) | (have j := i5 (by omega); simp_all; done) | (have j := i6 (by omega); simp_all; done) | (have j := i7 (by omega); simp_all; done) | (have j := i8 (by omega); simp_all; done) | (have j := i9 (by omega); simp_all; done))), rfl⟩
 refine sQ (pNf rfl) rfl (sQ (pPt rfl rfl) rfl (sQ (pA rfl) rfl (sD (nS (cT rfl ?_)))))
 refine tK (nS (cT rfl ?_))
 refine tS (tR (sQ (pA rfl) rfl (sD (nS (tT (rB ?_))))))
 refine rS (rF1 (rT rfl) ?_)
 exact ⟨rfl, by (cases R with | false => rfl | true => (exfalso; obtain ⟨i1, i2, i3, i4, i5, i6, i7, i8, i9⟩ := hi.1 rfl; first | omega | (have j := i2 (by omega); simp_all; done) | (have j := i3 (by omega); simp_all; done) | (have j := i4 (by omega); simp_all; done) | (have j := i5 (by omega); simp_all; done) | (have j := i6 (by omega); simp_all; done) | (have j := i7 (by omega); simp_all; done) | (have j := i8 (by omega); simp_all; done) | (have j := i9 (by omega); simp_all; done))), rfl⟩
 refine sQ (pPf rfl rfl) rfl (sQ (pA rfl) rfl (sD (nS (tS (tR (sQ (pF0 rfl) rfl ?_))))))
 refine sL (lBs rfl rfl) rfl rfl ?_
 refine sP (pure_eql_f rfl rfl (by omega)) rfl rfl ?_
 refine sQ (pM rfl) rfl (sQ (pF0 rfl) rfl (sL (lBs rfl rfl) rfl rfl ?_))
 refine sB (pE rfl rfl) rfl rfl (fun h563 => ?_) (fun h563 => ?_)
 refine sQ (pPf rfl rfl) rfl (sQ (pM rfl) rfl (sK rfl rfl (sK rfl rfl (sK rfl rfl (sQ (pPt rfl rfl) rfl (sQ (pA rfl) rfl ?_))))))
 refine sD (nS (tS (tR (sQ (pF0 rfl) rfl (sL (lBs rfl rfl) rfl rfl ?_)))))
 refine sP (pure_eql_f rfl rfl (by omega)) rfl rfl ?_
 refine sQ (pA rfl) rfl (sD (nS (tS (tR (sQ (pA rfl) rfl (sD ?_))))))
 refine nS (tS (tS (tR (sQ (pF0 rfl) rfl (sL (lBs rfl rfl) rfl rfl ?_)))))
 refine sP (pure_eql_f rfl rfl (by omega)) rfl rfl ?_
 refine sD (nS (cF rfl ?_))
 refine tK (nS (tS (tri_block (tS (tS (tR ?_))))))
 refine sQ (pM rfl) rfl (sQ (pM rfl) rfl (sK rfl rfl (sK rfl rfl (sK rfl rfl (sK rfl rfl (sQ (pPf rfl rfl) rfl ?_))))))
 refine sQ (pA rfl) rfl (sD (nS (cF rfl ?_)))
 refine tS (tR (sQ (pM rfl) rfl (sQ (pNf rfl) rfl (sQ (pM rfl) rfl (sQ (pF0 rfl) rfl (sL (lBs rfl rfl) rfl rfl ?_))))))
 refine sB (pure_sneq rfl rfl) rfl rfl (fun h620 => ?_) (fun h620 => ?_)
 refine sQ (pPt rfl rfl) rfl (sQ (pA rfl) rfl (sD (nS (cT rfl ?_))))
 refine tK (nS (cT rfl ?_))
 refine tS (tR (sQ (pA rfl) rfl (sD (nS (tT (rB ?_))))))
 refine rS (rF1 (rT rfl) ?_)
 exact ⟨rfl, by (cases R with | false => rfl | true => (exfalso; obtain ⟨i1, i2, i3, i4, i5, i6, i7, i8, i9⟩ := hi.1 rfl; first | omega | (have j := i2 (by omega); simp_all; done) | (have j := i3 (by omega); simp_all; done) | (have j := i4 (by omega); simp_all; done) | (have j := i5 (by omega); simp_all; done) | (have j := i6 (by omega); simp_all; done) | (have j := i7 (by omega); simp_all; done) | (have j := i8 (by omega); simp_all; done) | (have j := i9 (by omega); simp_all; done))), rfl⟩
 refine sQ (pPt rfl rfl) rfl (sQ (pA rfl) rfl (sD (nS (cF rfl ?_))))
 refine tR (sQ (pF0 rfl) rfl (sL (lBs rfl rfl) rfl rfl ?_))
 refine sQ (pM rfl) rfl (seq_valb rfl (within_fn _ _ _ _) rfl rfl (fun h648 => ?_) (fun h648 => ?_))
 refine sQ (pNt rfl) rfl (sQ (pA rfl) rfl (sD (nS (cF rfl ?_))))
 refine tS (tS (tR (sQ (pM rfl) rfl (sQ (pM rfl) rfl (sQ (pF0 rfl) rfl (sL (lBa rfl rfl) rfl rfl ?_))))))
 refine seq_valb rfl (o3) rfl rfl (fun h661 => ?_) (fun h661 => ?_)
 refine sQ (pNt rfl) rfl (sQ (pPt rfl rfl) rfl (sQ (pA rfl) rfl (sD (nS (cF rfl ?_)))))
 refine tR (sQ (pM rfl) rfl (sQ (pNt rfl) rfl (sQ (pM rfl) rfl (sK rfl rfl (sK rfl rfl (sK rfl rfl ?_))))))
 refine sK rfl rfl (sQ (pPf rfl rfl) rfl (sQ (pA rfl) rfl (sD (nS (cF rfl ?_)))))
 refine tS (tS (tR (sQ (pM rfl) rfl (sQ (pM rfl) rfl (sK rfl rfl (sK rfl rfl ?_))))))
 refine sK rfl rfl (sK rfl rfl (sK rfl rfl (sK rfl rfl (sK rfl rfl (sK rfl rfl (sK rfl rfl ?_))))))
 refine sK rfl rfl (sK rfl rfl (sK rfl rfl (sQ (pPf rfl rfl) rfl (sQ (pA rfl) rfl (sD (nS ?_))))))
 refine cF rfl ?_
 refine tR (sQ (pM rfl) rfl (sQ (pNf rfl) rfl (sQ (pM rfl) rfl (sQ (pF0 rfl) rfl (sL (lBa rfl rfl) rfl rfl ?_)))))
 refine seq_valb rfl (o7) rfl rfl (fun h709 => ?_) (fun h709 => ?_)
 refine sQ (pNt rfl) rfl (sQ (pM rfl) rfl (sQ (pF0 rfl) rfl (sL (lBs rfl rfl) rfl rfl ?_)))
 refine sB (pure_neq rfl rfl) rfl rfl (fun h714 => ?_) (fun h714 => ?_)
 refine sQ (pPf rfl rfl) rfl (sQ (pPt rfl rfl) rfl (sQ (pA rfl) rfl (sD (nS (cT rfl ?_)))))
 refine tS (tR (sQ (pA rfl) rfl (sD (nS (tT (rB ?_))))))
 refine rS (rF1 (rT rfl) ?_)
 exact ⟨rfl, by (cases R with | false => rfl | true => (exfalso; obtain ⟨i1, i2, i3, i4, i5, i6, i7, i8, i9⟩ := hi.1 rfl; first | omega | (have j := i2 (by omega); simp_all; done) | (have j := i3 (by omega); simp_all; done) | (have j := i4 (by omega); simp_all; done) | (have j := i5 (by omega); simp_all; done) | (have j := i6 (by omega); simp_all; done) | (have j := i7 (by omega); simp_all; done) | (have j := i8 (by omega); simp_all; done) | (have j := i9 (by omega); simp_all; done))), rfl⟩
 refine sQ (pPf rfl rfl) rfl (sQ (pPt rfl rfl) rfl (sQ (pA rfl) rfl (sD (nS (cF rfl ?_)))))
 refine tK (nrm_block (nS (tS (tR (sQ (pA rfl) rfl (sD ?_))))))
 refine nS (tT (rF1 (rT rfl) ?_))
 exact ⟨rfl, by rw [hi.2 ⟨by omega, fun _ => by (first | assumption | (exfalso; omega) | exact Classical.not_not.1 (by assumption)), fun _ => by (first | assumption | (exfalso; omega) | exact Classical.not_not.1 (by assumption)), fun _ => by (first | assumption | (exfalso; omega) | exact Classical.not_not.1 (by assumption)), fun _ => by (first | assumption | (exfalso; omega) | exact Classical.not_not.1 (by assumption)), fun _ => by (first | assumption | (exfalso; omega) | exact Classical.not_not.1 (by assumption)), fun _ => by (first | assumption | (exfalso; omega) | exact Classical.not_not.1 (by assumption)), fun _ => ⟨by (first | assumption | (exfalso; omega)), by (first | assumption | (exfalso; omega))⟩, fun _ => ⟨by (first | assumption | (exfalso; omega)), by (first | assumption | omega)⟩⟩], rfl⟩
 refine sQ (pNf rfl) rfl (sQ (pM rfl) rfl (sK rfl rfl (sK rfl rfl (sK rfl rfl (sQ (pPt rfl rfl) rfl (sQ (pPt rfl rfl) rfl ?_))))))
 refine sQ (pA rfl) rfl (sD (nS (cT rfl ?_)))
 refine tS (tR (sQ (pA rfl) rfl (sD (nS (tT (rB ?_))))))
 refine rS (rF1 (rT rfl) ?_)
 exact ⟨rfl, by (cases R with | false => rfl | true => (exfalso; obtain ⟨i1, i2, i3, i4, i5, i6, i7, i8, i9⟩ := hi.1 rfl; first | omega | (have j := i2 (by omega); simp_all; done) | (have j := i3 (by omega); simp_all; done) | (have j := i4 (by omega); simp_all; done) | (have j := i5 (by omega); simp_all; done) | (have j := i6 (by omega); simp_all; done) | (have j := i7 (by omega); simp_all; done) | (have j := i8 (by omega); simp_all; done) | (have j := i9 (by omega); simp_all; done))), rfl⟩
 refine sQ (pNf rfl) rfl (sQ (pPt rfl rfl) rfl (sQ (pA rfl) rfl (sD (nS (cT rfl ?_)))))
 refine tK (nS (cT rfl ?_))
 refine tS (tR (sQ (pA rfl) rfl (sD (nS (tT (rB ?_))))))
 refine rS (rF1 (rT rfl) ?_)
 exact ⟨rfl, by (cases R with | false => rfl | true => (exfalso; obtain ⟨i1, i2, i3, i4, i5, i6, i7, i8, i9⟩ := hi.1 rfl; first | omega | (have j := i2 (by omega); simp_all; done) | (have j := i3 (by omega); simp_all; done) | (have j := i4 (by omega); simp_all; done) | (have j := i5 (by omega); simp_all; done) | (have j := i6 (by omega); simp_all; done) | (have j := i7 (by omega); simp_all; done) | (have j := i8 (by omega); simp_all; done) | (have j := i9 (by omega); simp_all; done))), rfl⟩
 refine sQ (pNf rfl) rfl (sQ (pA rfl) rfl (sD (nS (cT rfl ?_))))
 refine tS (tR (sQ (pA rfl) rfl (sD (nS (tT (rB ?_))))))
 refine rS (rF1 (rT rfl) ?_)
 exact ⟨rfl, by (cases R with | false => rfl | true => (exfalso; obtain ⟨i1, i2, i3, i4, i5, i6, i7, i8, i9⟩ := hi.1 rfl; first | omega | (have j := i2 (by omega); simp_all; done) | (have j := i3 (by omega); simp_all; done) | (have j := i4 (by omega); simp_all; done) | (have j := i5 (by omega); simp_all; done) | (have j := i6 (by omega); simp_all; done) | (have j := i7 (by omega); simp_all; done) | (have j := i8 (by omega); simp_all; done) | (have j := i9 (by omega); simp_all; done))), rfl⟩
 refine sQ (pPf rfl rfl) rfl (sQ (pM rfl) rfl (sQ (pF0 rfl) rfl (sL (lBs rfl rfl) rfl rfl ?_)))
 refine sB (pE rfl rfl) rfl rfl (fun h807 => ?_) (fun h807 => ?_)
 refine sQ (pPf rfl rfl) rfl (sQ (pA rfl) rfl (sD (nS (tS (tR (sQ (pF0 rfl) rfl ?_))))))
 refine sL (lBs rfl rfl) rfl rfl ?_
 refine sP (pure_eql_t rfl rfl (by omega)) rfl rfl ?_
 refine sQ (pA rfl) rfl (sD (nS (tS (tR (sQ (pA rfl) rfl (sD ?_))))))
 refine nS (tS (tS (tR (sQ (pF0 rfl) rfl (sL (lBs rfl rfl) rfl rfl ?_)))))
 refine sP (pure_eql_f rfl rfl (by omega)) rfl rfl ?_
 refine sD (nS (cF rfl ?_))
 refine tK (nS (tS (tri_block (tS (tS (tR ?_))))))
 refine sQ (pM rfl) rfl (sQ (pM rfl) rfl (sK rfl rfl (sK rfl rfl (sK rfl rfl (sK rfl rfl (sQ (pPf rfl rfl) rfl ?_))))))
 refine sQ (pA rfl) rfl (sD (nS (cF rfl ?_)))
 refine tS (tR (sQ (pM rfl) rfl (sQ (pNf rfl) rfl (sQ (pM rfl) rfl (sQ (pF0 rfl) rfl (sL (lBs rfl rfl) rfl rfl ?_))))))
 refine sB (pure_sneq rfl rfl) rfl rfl (fun h859 => ?_) (fun h859 => ?_)
 refine sQ (pPt rfl rfl) rfl (sQ (pA rfl) rfl (sD (nS (cT rfl ?_))))
 refine tK (nS (cT rfl ?_))
 refine tS (tR (sQ (pA rfl) rfl (sD (nS (tT (rB ?_))))))
 refine rS (rF1 (rT rfl) ?_)
 exact ⟨rfl, by (cases R with | false => rfl | true => (exfalso; obtain ⟨i1, i2, i3, i4, i5, i6, i7, i8, i9⟩ := hi.1 rfl; first | omega | (have j := i2 (by omega); simp_all; done) | (have j := i3 (by omega); simp_all; done) | (have j := i4 (by omega); simp_all; done) | (have j := i5 (by omega); simp_all; done) | (have j := i6 (by omega); simp_all; done) | (have j := i7 (by omega); simp_all; done) | (have j := i8 (by omega); simp_all; done) | (have j := i9 (by omega); simp_all; done))), rfl⟩
 refine sQ (pPt rfl rfl) rfl (sQ (pA rfl) rfl (sD (nS (cF rfl ?_))))
 refine tR (sQ (pF0 rfl) rfl (sL (lBs rfl rfl) rfl rfl ?_))
 refine sQ (pM rfl) rfl (seq_valb rfl (within_fn _ _ _ _) rfl rfl (fun h887 => ?_) (fun h887 => ?_))
 refine sQ (pNt rfl) rfl (sQ (pA rfl) rfl (sD (nS (cF rfl ?_))))
 refine tS (tS (tR (sQ (pM rfl) rfl (sQ (pM rfl) rfl (sQ (pF0 rfl) rfl (sL (lBa rfl rfl) rfl rfl ?_))))))
 refine seq_valb rfl (o3) rfl rfl (fun h900 => ?_) (fun h900 => ?_)
 refine sQ (pNt rfl) rfl (sQ (pPt rfl rfl) rfl (sQ (pA rfl) rfl (sD (nS (cF rfl ?_)))))
 refine tR (sQ (pM rfl) rfl (sQ (pNt rfl) rfl (sQ (pM rfl) rfl (sK rfl rfl (sK rfl rfl (sK rfl rfl ?_))))))
 refine sK rfl rfl (sQ (pPf rfl rfl) rfl (sQ (pA rfl) rfl (sD (nS (cF rfl ?_)))))
 refine tS (tS (tR (sQ (pM rfl) rfl (sQ (pM rfl) rfl (sQ (pF0 rfl) rfl (sL (lBa rfl rfl) rfl rfl ?_))))))
 refine sQ (pF0 rfl) rfl (sL (lBa rfl rfl) rfl rfl ?_)
 refine seq_valb rfl (o5) rfl rfl (fun h929 => ?_) (fun h929 => ?_)
 refine sQ (pNt rfl) rfl (sQ (pM rfl) rfl (sQ (pF0 rfl) rfl (sL (lBs rfl rfl) rfl rfl ?_)))
 refine seq_valb rfl (o6) rfl rfl (fun h934 => ?_) (fun h934 => ?_)
 refine sQ (pNt rfl) rfl (sQ (pPf rfl rfl) rfl (sQ (pPt rfl rfl) rfl (sQ (pA rfl) rfl (sD (nS (cF rfl ?_))))))
 refine tR (sQ (pM rfl) rfl (sQ (pNt rfl) rfl (sQ (pM rfl) rfl (sK rfl rfl (sK rfl rfl (sK rfl rfl ?_))))))
 refine sK rfl rfl (sK rfl rfl (sK rfl rfl (sK rfl rfl (sK rfl rfl (sK rfl rfl (sQ (pPf rfl rfl) rfl ?_))))))
 refine sQ (pA rfl) rfl (sD (nS (cF rfl ?_)))
 refine tK (nrm_block (nS (tS (tR (sQ (pA rfl) rfl (sD ?_))))))
 refine nS (tT (rF1 (rT rfl) ?_))
 exact ⟨rfl, by rw [hi.2 ⟨by omega, fun _ => by (first | assumption | (exfalso; omega) | exact Classical.not_not.1 (by assumption)), fun _ => by (first | assumption | (exfalso; omega) | exact Classical.not_not.1 (by assumption)), fun _ => by (first | assumption | (exfalso; omega) | exact Classical.not_not.1 (by assumption)), fun _ => by (first | assumption | (exfalso; omega) | exact Classical.not_not.1 (by assumption)), fun _ => by (first | assumption | (exfalso; omega) | exact Classical.not_not.1 (by assumption)), fun _ => by (first | assumption | (exfalso; omega) | exact Classical.not_not.1 (by assumption)), fun _ => ⟨by (first | assumption | (exfalso; omega)), by (first | assumption | (exfalso; omega))⟩, fun _ => ⟨by (first | assumption | (exfalso; omega)), by (first | assumption | omega)⟩⟩], rfl⟩
 refine sQ (pNf rfl) rfl (sQ (pPf rfl rfl) rfl (sQ (pPt rfl rfl) rfl (sQ (pA rfl) rfl (sD (nS (cT rfl ?_))))))
 refine tK (nS (cT rfl ?_))
 refine tS (tR (sQ (pA rfl) rfl (sD (nS (tT (rB ?_))))))
 refine rS (rF1 (rT rfl) ?_)
 exact ⟨rfl, by (cases R with | false => rfl | true => (exfalso; obtain ⟨i1, i2, i3, i4, i5, i6, i7, i8, i9⟩ := hi.1 rfl; first | omega | (have j := i2 (by omega); simp_all; done) | (have j := i3 (by omega); simp_all; done) | (have j := i4 (by omega); simp_all; done) | (have j := i5 (by omega); simp_all; done) | (have j := i6 (by omega); simp_all; done) | (have j := i7 (by omega); simp_all; done) | (have j := i8 (by omega); simp_all; done) | (have j := i9 (by omega); simp_all; done))), rfl⟩
 refine sQ (pNf rfl) rfl (sQ (pM rfl) rfl (sK rfl rfl (sK rfl rfl (sK rfl rfl (sK rfl rfl (sQ (pPt rfl rfl) rfl ?_))))))
 refine sQ (pPt rfl rfl) rfl (sQ (pA rfl) rfl (sD (nS (cT rfl ?_))))
 refine tK (nS (cT rfl ?_))
 refine tS (tR (sQ (pA rfl) rfl (sD (nS (tT (rB ?_))))))
 refine rS (rF1 (rT rfl) ?_)
 exact ⟨rfl, by (cases R with | false => rfl | true => (exfalso; obtain ⟨i1, i2, i3, i4, i5, i6, i7, i8, i9⟩ := hi.1 rfl; first | omega | (have j := i2 (by omega); simp_all; done) | (have j := i3 (by omega); simp_all; done) | (have j := i4 (by omega); simp_all; done) | (have j := i5 (by omega); simp_all; done) | (have j := i6 (by omega); simp_all; done) | (have j := i7 (by omega); simp_all; done) | (have j := i8 (by omega); simp_all; done) | (have j := i9 (by omega); simp_all; done))), rfl⟩
 refine sQ (pNf rfl) rfl (sQ (pPt rfl rfl) rfl (sQ (pA rfl) rfl (sD (nS (cT rfl ?_)))))
 refine tK (nS (cT rfl ?_))
 refine tS (tR (sQ (pA rfl) rfl (sD (nS (tT (rB ?_))))))
 refine rS (rF1 (rT rfl) ?_)
 exact ⟨rfl, by (cases R with | false => rfl | true => (exfalso; obtain ⟨i1, i2, i3, i4, i5, i6, i7, i8, i9⟩ := hi.1 rfl; first | omega | (have j := i2 (by omega); simp_all; done) | (have j := i3 (by omega); simp_all; done) | (have j := i4 (by omega); simp_all; done) | (have j := i5 (by omega); simp_all; done) | (have j := i6 (by omega); simp_all; done) | (have j := i7 (by omega); simp_all; done) | (have j := i8 (by omega); simp_all; done) | (have j := i9 (by omega); simp_all; done))), rfl⟩
 refine sQ (pNf rfl) rfl (sQ (pA rfl) rfl (sD (nS (cT rfl ?_))))
 refine tS (tR (sQ (pA rfl) rfl (sD (nS (tT (rB ?_))))))
 refine rS (rF1 (rT rfl) ?_)
 exact ⟨rfl, by (cases R with | false => rfl | true => (exfalso; obtain ⟨i1, i2, i3, i4, i5, i6, i7, i8, i9⟩ := hi.1 rfl; first | omega | (have j := i2 (by omega); simp_all; done) | (have j := i3 (by omega); simp_all; done) | (have j := i4 (by omega); simp_all; done) | (have j := i5 (by omega); simp_all; done) | (have j := i6 (by omega); simp_all; done) | (have j := i7 (by omega); simp_all; done) | (have j := i8 (by omega); simp_all; done) | (have j := i9 (by omega); simp_all; done))), rfl⟩
 refine sQ (pPf rfl rfl) rfl (sQ (pA rfl) rfl (sD (nS (tS (tR (sQ (pF0 rfl) rfl ?_))))))
 refine sL (lBs rfl rfl) rfl rfl ?_
 refine sP (pure_eql_f rfl rfl (by omega)) rfl rfl ?_
 refine sQ (pA rfl) rfl (sD (nS (tS (tR (sQ (pA rfl) rfl (sD ?_))))))
 refine nS (tS (tS (tR (sQ (pF0 rfl) rfl (sL (lBs rfl rfl) rfl rfl ?_)))))
 refine sB (pE rfl rfl) rfl rfl (fun h1072 => ?_) (fun h1072 => ?_)
 refine sD (nS (cT rfl ?_))
 refine tR (sQ (pA rfl) rfl (sD (nS (tS (tri_block (tS ?_))))))
 refine tS (tR (sQ (pM rfl) rfl (sQ (pM rfl) rfl (sK rfl rfl (sK rfl rfl (sK rfl rfl ?_))))))
 refine sK rfl rfl (sQ (pPf rfl rfl) rfl (sQ (pA rfl) rfl (sD (nS (cF rfl ?_)))))
 refine tS (tR (sQ (pM rfl) rfl (sQ (pNf rfl) rfl (sQ (pM rfl) rfl (sQ (pF0 rfl) rfl (sL (lBs rfl rfl) rfl rfl ?_))))))
 refine sB (pure_sneq rfl rfl) rfl rfl (fun h1103 => ?_) (fun h1103 => ?_)
 refine sQ (pPt rfl rfl) rfl (sQ (pA rfl) rfl (sD (nS (cT rfl ?_))))
 refine tK (nS (cT rfl ?_))
 refine tS (tR (sQ (pA rfl) rfl (sD (nS (tT (rB ?_))))))
 refine rS (rF1 (rT rfl) ?_)
 exact ⟨rfl, by (cases R with | false => rfl | true => (exfalso; obtain ⟨i1, i2, i3, i4, i5, i6, i7, i8, i9⟩ := hi.1 rfl; first | omega | (have j := i2 (by omega); simp_all; done) | (have j := i3 (by omega); simp_all; done) | (have j := i4 (by omega); simp_all; done) | (have j := i5 (by omega); simp_all; done) | (have j := i6 (by omega); simp_all; done) | (have j := i7 (by omega); simp_all; done) | (have j := i8 (by omega); simp_all; done) | (have j := i9 (by omega); simp_all; done))), rfl⟩
 refine sQ (pPt rfl rfl) rfl (sQ (pA rfl) rfl (sD (nS (cF rfl ?_))))
 refine tR (sQ (pF0 rfl) rfl (sL (lBs rfl rfl) rfl rfl ?_))
 refine sQ (pM rfl) rfl (seq_valb rfl (within_fn _ _ _ _) rfl rfl (fun h1131 => ?_) (fun h1131 => ?_))
 refine sQ (pNt rfl) rfl (sQ (pA rfl) rfl (sD (nS (cF rfl ?_))))
 refine tS (tS (tR (sQ (pM rfl) rfl (sQ (pM rfl) rfl (sK rfl rfl (sK rfl rfl ?_))))))
 refine sK rfl rfl (sK rfl rfl (sQ (pPf rfl rfl) rfl (sQ (pA rfl) rfl (sD (nS (cF rfl ?_))))))
 refine tR (sQ (pM rfl) rfl (sQ (pNf rfl) rfl (sQ (pM rfl) rfl (sQ (pF0 rfl) rfl (sL (lBa rfl rfl) rfl rfl ?_)))))
 refine seq_valb rfl (o4) rfl rfl (fun h1157 => ?_) (fun h1157 => ?_)
 refine sQ (pNt rfl) rfl (sQ (pPt rfl rfl) rfl (sQ (pA rfl) rfl (sD (nS (cF rfl ?_)))))
 refine tS (tS (tR (sQ (pM rfl) rfl (sQ (pM rfl) rfl (sK rfl rfl (sK rfl rfl ?_))))))
 refine sK rfl rfl (sK rfl rfl (sK rfl rfl (sK rfl rfl (sK rfl rfl (sK rfl rfl (sK rfl rfl ?_))))))
 refine sK rfl rfl (sK rfl rfl (sK rfl rfl (sQ (pPf rfl rfl) rfl (sQ (pA rfl) rfl (sD (nS ?_))))))
 refine cF rfl ?_
 refine tR (sQ (pM rfl) rfl (sQ (pNf rfl) rfl (sQ (pM rfl) rfl (sQ (pF0 rfl) rfl (sL (lBa rfl rfl) rfl rfl ?_)))))
 refine seq_valb rfl (o7) rfl rfl (fun h1192 => ?_) (fun h1192 => ?_)
 refine sQ (pNt rfl) rfl (sQ (pM rfl) rfl (sQ (pF0 rfl) rfl (sL (lBs rfl rfl) rfl rfl ?_)))
 refine sB (pure_neq rfl rfl) rfl rfl (fun h1197 => ?_) (fun h1197 => ?_)
 refine sQ (pPf rfl rfl) rfl (sQ (pPt rfl rfl) rfl (sQ (pA rfl) rfl (sD (nS (cT rfl ?_)))))
 refine tS (tR (sQ (pA rfl) rfl (sD (nS (tT (rB ?_))))))
 refine rS (rF1 (rT rfl) ?_)
 exact ⟨rfl, by (cases R with | false => rfl | true => (exfalso; obtain ⟨i1, i2, i3, i4, i5, i6, i7, i8, i9⟩ := hi.1 rfl; first | omega | (have j := i2 (by omega); simp_all; done) | (have j := i3 (by omega); simp_all; done) | (have j := i4 (by omega); simp_all; done) | (have j := i5 (by omega); simp_all; done) | (have j := i6 (by omega); simp_all; done) | (have j := i7 (by omega); simp_all; done) | (have j := i8 (by omega); simp_all; done) | (have j := i9 (by omega); simp_all; done))), rfl⟩
 refine sQ (pPf rfl rfl) rfl (sQ (pPt rfl rfl) rfl (sQ (pA rfl) rfl (sD (nS (cF rfl ?_)))))
 refine tK (nrm_block (nS (tS (tR (sQ (pA rfl) rfl (sD ?_))))))
 refine nS (tT (rF1 (rT rfl) ?_))
 exact ⟨rfl, by rw [hi.2 ⟨by omega, fun _ => by (first | assumption | (exfalso; omega) | exact Classical.not_not.1 (by assumption)), fun _ => by (first | assumption | (exfalso; omega) | exact Classical.not_not.1 (by assumption)), fun _ => by (first | assumption | (exfalso; omega) | exact Classical.not_not.1 (by assumption)), fun _ => by (first | assumption | (exfalso; omega) | exact Classical.not_not.1 (by assumption)), fun _ => by (first | assumption | (exfalso; omega) | exact Classical.not_not.1 (by assumption)), fun _ => by (first | assumption | (exfalso; omega) | exact Classical.not_not.1 (by assumption)), fun _ => ⟨by (first | assumption | (exfalso; omega)), by (first | assumption | (exfalso; omega))⟩, fun _ => ⟨by (first | assumption | (exfalso; omega)), by (first | assumption | omega)⟩⟩], rfl⟩
 refine sQ (pNf rfl) rfl (sQ (pM rfl) rfl (sK rfl rfl (sK rfl rfl (sK rfl rfl (sQ (pPt rfl rfl) rfl (sQ (pPt rfl rfl) rfl ?_))))))
 refine sQ (pA rfl) rfl (sD (nS (cT rfl ?_)))
 refine tS (tR (sQ (pA rfl) rfl (sD (nS (tT (rB ?_))))))
 refine rS (rF1 (rT rfl) ?_)
 exact ⟨rfl, by (cases R with | false => rfl | true => (exfalso; obtain ⟨i1, i2, i3, i4, i5, i6, i7, i8, i9⟩ := hi.1 rfl; first | omega | (have j := i2 (by omega); simp_all; done) | (have j := i3 (by omega); simp_all; done) | (have j := i4 (by omega); simp_all; done) | (have j := i5 (by omega); simp_all; done) | (have j := i6 (by omega); simp_all; done) | (have j := i7 (by omega); simp_all; done) | (have j := i8 (by omega); simp_all; done) | (have j := i9 (by omega); simp_all; done))), rfl⟩
 refine sQ (pNf rfl) rfl (sQ (pPt rfl rfl) rfl (sQ (pA rfl) rfl (sD (nS (cT rfl ?_)))))
 refine tS (tR (sQ (pA rfl) rfl (sD (nS (tT (rB ?_))))))
 refine rS (rF1 (rT rfl) ?_)
 exact ⟨rfl, by (cases R with | false => rfl | true => (exfalso; obtain ⟨i1, i2, i3, i4, i5, i6, i7, i8, i9⟩ := hi.1 rfl; first | omega | (have j := i2 (by omega); simp_all; done) | (have j := i3 (by omega); simp_all; done) | (have j := i4 (by omega); simp_all; done) | (have j := i5 (by omega); simp_all; done) | (have j := i6 (by omega); simp_all; done) | (have j := i7 (by omega); simp_all; done) | (have j := i8 (by omega); simp_all; done) | (have j := i9 (by omega); simp_all; done))), rfl⟩
 refine sQ (pNf rfl) rfl (sQ (pA rfl) rfl (sD (nS (cT rfl ?_))))
 refine tS (tR (sQ (pA rfl) rfl (sD (nS (tT (rB ?_))))))
 refine rS (rF1 (rT rfl) ?_)
 exact ⟨rfl, by (cases R with | false => rfl | true => (exfalso; obtain ⟨i1, i2, i3, i4, i5, i6, i7, i8, i9⟩ := hi.1 rfl; first | omega | (have j := i2 (by omega); simp_all; done) | (have j := i3 (by omega); simp_all; done) | (have j := i4 (by omega); simp_all; done) | (have j := i5 (by omega); simp_all; done) | (have j := i6 (by omega); simp_all; done) | (have j := i7 (by omega); simp_all; done) | (have j := i8 (by omega); simp_all; done) | (have j := i9 (by omega); simp_all; done))), rfl⟩
 refine sD (nS (cF rfl ?_))
 refine tK (nS (tS (tri_block (tS (tS (tR ?_))))))
 refine sQ (pM rfl) rfl (sQ (pM rfl) rfl (sK rfl rfl (sK rfl rfl (sK rfl rfl (sK rfl rfl (sQ (pPf rfl rfl) rfl ?_))))))
 refine sQ (pA rfl) rfl (sD (nS (cF rfl ?_)))
 refine tS (tR (sQ (pM rfl) rfl (sQ (pNf rfl) rfl (sQ (pM rfl) rfl (sQ (pF0 rfl) rfl (sL (lBs rfl rfl) rfl rfl ?_))))))
 refine sB (pure_sneq rfl rfl) rfl rfl (fun h1311 => ?_) (fun h1311 => ?_)
 refine sQ (pPt rfl rfl) rfl (sQ (pA rfl) rfl (sD (nS (cT rfl ?_))))
 refine tK (nS (cT rfl ?_))
 refine tS (tR (sQ (pA rfl) rfl (sD (nS (tT (rB ?_))))))
 refine rS (rF1 (rT rfl) ?_)
 exact ⟨rfl, by (cases R with | false => rfl | true => (exfalso; obtain ⟨i1, i2, i3, i4, i5, i6, i7, i8, i9⟩ := hi.1 rfl; first | omega | (have j := i2 (by omega); simp_all; done) | (have j := i3 (by omega); simp_all; done) | (have j := i4 (by omega); simp_all; done) | (have j := i5 (by omega); simp_all; done) | (have j := i6 (by omega); simp_all; done) | (have j := i7 (by omega); simp_all; done) | (have j := i8 (by omega); simp_all; done) | (have j := i9 (by omega); simp_all; done))), rfl⟩
 refine sQ (pPt rfl rfl) rfl (sQ (pA rfl) rfl (sD (nS (cF rfl ?_))))
 refine tR (sQ (pF0 rfl) rfl (sL (lBs rfl rfl) rfl rfl ?_))
 refine sQ (pM rfl) rfl (seq_valb rfl (within_fn _ _ _ _) rfl rfl (fun h1339 => ?_) (fun h1339 => ?_))
 refine sQ (pNt rfl) rfl (sQ (pA rfl) rfl (sD (nS (cF rfl ?_))))
 refine tS (tS (tR (sQ (pM rfl) rfl (sQ (pM rfl) rfl (sK rfl rfl (sK rfl rfl ?_))))))
 refine sK rfl rfl (sK rfl rfl (sQ (pPf rfl rfl) rfl (sQ (pA rfl) rfl (sD (nS (cF rfl ?_))))))
 refine tR (sQ (pM rfl) rfl (sQ (pNf rfl) rfl (sQ (pM rfl) rfl (sQ (pF0 rfl) rfl (sL (lBa rfl rfl) rfl rfl ?_)))))
 refine seq_valb rfl (o4) rfl rfl (fun h1365 => ?_) (fun h1365 => ?_)
 refine sQ (pNt rfl) rfl (sQ (pPt rfl rfl) rfl (sQ (pA rfl) rfl (sD (nS (cF rfl ?_)))))
 refine tS (tS (tR (sQ (pM rfl) rfl (sQ (pM rfl) rfl (sK rfl rfl (sK rfl rfl ?_))))))
 refine sK rfl rfl (sK rfl rfl (sK rfl rfl (sK rfl rfl (sK rfl rfl (sK rfl rfl (sK rfl rfl ?_))))))
 refine sK rfl rfl (sK rfl rfl (sK rfl rfl (sQ (pPf rfl rfl) rfl (sQ (pA rfl) rfl (sD (nS ?_))))))
 refine cF rfl ?_
 refine tR (sQ (pM rfl) rfl (sQ (pNf rfl) rfl (sQ (pM rfl) rfl (sQ (pF0 rfl) rfl (sL (lBa rfl rfl) rfl rfl ?_)))))
 refine seq_valb rfl (o7) rfl rfl (fun h1400 => ?_) (fun h1400 => ?_)
 refine sQ (pNt rfl) rfl (sQ (pM rfl) rfl (sQ (pF0 rfl) rfl (sL (lBs rfl rfl) rfl rfl ?_)))
 refine sB (pure_neq rfl rfl) rfl rfl (fun h1405 => ?_) (fun h1405 => ?_)
 refine sQ (pPf rfl rfl) rfl (sQ (pPt rfl rfl) rfl (sQ (pA rfl) rfl (sD (nS (cT rfl ?_)))))
 refine tS (tR (sQ (pA rfl) rfl (sD (nS (tT (rB ?_))))))
 refine rS (rF1 (rT rfl) ?_)
 exact ⟨rfl, by (cases R with | false => rfl | true => (exfalso; obtain ⟨i1, i2, i3, i4, i5, i6, i7, i8, i9⟩ := hi.1 rfl; first | omega | (have j := i2 (by omega); simp_all; done) | (have j := i3 (by omega); simp_all; done) | (have j := i4 (by omega); simp_all; done) | (have j := i5 (by omega); simp_all; done) | (have j := i6 (by omega); simp_all; done) | (have j := i7 (by omega); simp_all; done) | (have j := i8 (by omega); simp_all; done) | (have j := i9 (by omega); simp_all; done))), rfl⟩
 refine sQ (pPf rfl rfl) rfl (sQ (pPt rfl rfl) rfl (sQ (pA rfl) rfl (sD (nS (cF rfl ?_)))))
 refine tK (nrm_block (nS (tS (tR (sQ (pA rfl) rfl (sD ?_))))))
 refine nS (tT (rF1 (rT rfl) ?_))
 exact ⟨rfl, by rw [hi.2 ⟨by omega, fun _ => by (first | assumption | (exfalso; omega) | exact Classical.not_not.1 (by assumption)), fun _ => by (first | assumption | (exfalso; omega) | exact Classical.not_not.1 (by assumption)), fun _ => by (first | assumption | (exfalso; omega) | exact Classical.not_not.1 (by assumption)), fun _ => by (first | assumption | (exfalso; omega) | exact Classical.not_not.1 (by assumption)), fun _ => by (first | assumption | (exfalso; omega) | exact Classical.not_not.1 (by assumption)), fun _ => by (first | assumption | (exfalso; omega) | exact Classical.not_not.1 (by assumption)), fun _ => ⟨by (first | assumption | (exfalso; omega)), by (first | assumption | (exfalso; omega))⟩, fun _ => ⟨by (first | assumption | (exfalso; omega)), by (first | assumption | omega)⟩⟩], rfl⟩
 refine sQ (pNf rfl) rfl (sQ (pM rfl) rfl (sK rfl rfl (sK rfl rfl (sK rfl rfl (sQ (pPt rfl rfl) rfl (sQ (pPt rfl rfl) rfl ?_))))))
 refine sQ (pA rfl) rfl (sD (nS (cT rfl ?_)))
 refine tS (tR (sQ (pA rfl) rfl (sD (nS (tT (rB ?_))))))
 refine rS (rF1 (rT rfl) ?_)
 exact ⟨rfl, by (cases R with | false => rfl | true => (exfalso; obtain ⟨i1, i2, i3, i4, i5, i6, i7, i8, i9⟩ := hi.1 rfl; first | omega | (have j := i2 (by omega); simp_all; done) | (have j := i3 (by omega); simp_all; done) | (have j := i4 (by omega); simp_all; done) | (have j := i5 (by omega); simp_all; done) | (have j := i6 (by omega); simp_all; done) | (have j := i7 (by omega); simp_all; done) | (have j := i8 (by omega); simp_all; done) | (have j := i9 (by omega); simp_all; done))), rfl⟩
 refine sQ (pNf rfl) rfl (sQ (pPt rfl rfl) rfl (sQ (pA rfl) rfl (sD (nS (cT rfl ?_)))))
 refine tS (tR (sQ (pA rfl) rfl (sD (nS (tT (rB ?_))))))
 refine rS (rF1 (rT rfl) ?_)
 exact ⟨rfl, by (cases R with | false => rfl | true => (exfalso; obtain ⟨i1, i2, i3, i4, i5, i6, i7, i8, i9⟩ := hi.1 rfl; first | omega | (have j := i2 (by omega); simp_all; done) | (have j := i3 (by omega); simp_all; done) | (have j := i4 (by omega); simp_all; done) | (have j := i5 (by omega); simp_all; done) | (have j := i6 (by omega); simp_all; done) | (have j := i7 (by omega); simp_all; done) | (have j := i8 (by omega); simp_all; done) | (have j := i9 (by omega); simp_all; done))), rfl⟩
 refine sQ (pNf rfl) rfl (sQ (pA rfl) rfl (sD (nS (cT rfl ?_))))
 refine tS (tR (sQ (pA rfl) rfl (sD (nS (tT (rB ?_))))))
 refine rS (rF1 (rT rfl) ?_)
 exact ⟨rfl, by (cases R with | false => rfl | true => (exfalso; obtain ⟨i1, i2, i3, i4, i5, i6, i7, i8, i9⟩ := hi.1 rfl; first | omega | (have j := i2 (by omega); simp_all; done) | (have j := i3 (by omega); simp_all; done) | (have j := i4 (by omega); simp_all; done) | (have j := i5 (by omega); simp_all; done) | (have j := i6 (by omega); simp_all; done) | (have j := i7 (by omega); simp_all; done) | (have j := i8 (by omega); simp_all; done) | (have j := i9 (by omega); simp_all; done))), rfl⟩
theorem scan_fn (M D N : Int) (hM : 0 ≤ M ∧ M ≤ 1000) (hD : 0 ≤ D ∧ D ≤ 1000) (bc : Nat) : ∀ (t : Tm) (deep c : Int) (G : IM) (cells : List Value), 0 ≤ deep ∧ deep ≤ D + 1 → 0 ≤ c ∧ c ≤ M → RTm G t cells →
  Fn Tryz.prog 73 [.agg ⟨cells⟩, .int .i64 deep, .int .i64 M, .int .i64 D, .int .i64 N, .pointer (some ⟨bc, 0, none⟩)] [.blk bc [.int .i64 c]] G
   (ValO (.bool (mScan M D N t deep c).1) [.blk bc [.int .i64 (mScan M D N t deep c).2]] G) := by
 refine Tm.ind fun k nm num ty fr lb ks ih deep c G cells hd hc hr => ?_
 have hno := nodeOk_fn k nm num ty fr lb ks G cells hr
 obtain ⟨tk, tks⟩ := ty
 obtain ⟨fk, fks⟩ := fr
 obtain ⟨pt, ct, pf, cf, p, cp, es, rfl, hk, hnum, hlb, hty, hfr, hsl, hkl⟩ := hr.open9
 have hn := hsl.le
 obtain ⟨R, hR⟩ : ∃ R, tmNode k nm num (.mk tk tks) (.mk fk fks) lb ks.length = R := ⟨_, rfl⟩
 rw [hR] at hno
 refine fn_enter Tryz.func73 rfl Tryz.ntmps73 Tryz.results73 rfl ?_
 intro w0
 refine tS (tR ?_)
 refine sE (step_box_a rfl rfl) rfl (fun b3 => ?_)
 refine sQ (pA rfl) rfl (sD (nS (tS (tR (sQ (pM rfl) rfl (sQ (pure_nilCheck rfl) rfl ?_))))))
 refine sL (lBs rfl rfl) rfl rfl ?_
 refine sP (pure_add rfl rfl (by omega) (by omega)) rfl rfl ?_
 refine sQ (pure_nilCheck rfl) rfl (sS' ?_)
 refine sD (nS (tS (tS (tR (sQ (pM rfl) rfl (sQ (pure_nilCheck rfl) rfl ?_))))))
 refine sL (lBs rfl rfl) rfl rfl ?_
 refine sQ (pM rfl) rfl (sB (pure_gtr rfl rfl) rfl rfl (fun h24 => ?_) (fun h24 => ?_))
 refine sQ (pM rfl) rfl (sK rfl rfl (sK rfl rfl (sK rfl rfl (sQ (pPt rfl rfl) rfl (sQ (pM rfl) rfl (sK rfl rfl ?_))))))
 refine sK rfl rfl (sK rfl rfl (sK rfl rfl (sQ (pPt rfl rfl) rfl (sQ (pM rfl) rfl (sK rfl rfl (sK rfl rfl ?_))))))
 refine sK rfl rfl (sQ (pPt rfl rfl) rfl (sD (nS (cT rfl ?_))))
 refine tS (tR (sQ (pA rfl) rfl (sD (nS (tT (rS ?_))))))
 refine ret_own1 (outs := [.blk bc [.int .i64 _]]) (rT rfl) (SubH.cons (by repeat (first | exact Pk.here | apply Pk.there)) SubH.nil) ?_
 (rw [mScan_no (by rw [hR]; first | omega | exact Or.inr (Or.inr (Or.inr (by assumption)))) ]; exact ⟨rfl, rfl, rfl⟩)
 refine sQ (pM rfl) rfl (sQ (pM rfl) rfl (sQ (pM rfl) rfl (sB (pure_gtr rfl rfl) rfl rfl (fun h56 => ?_) (fun h56 => ?_))))
 refine sQ (pPf rfl rfl) rfl (sQ (pM rfl) rfl (sK rfl rfl (sK rfl rfl (sK rfl rfl (sK rfl rfl (sQ (pPt rfl rfl) rfl ?_))))))
 refine sQ (pM rfl) rfl (sK rfl rfl (sK rfl rfl (sK rfl rfl (sQ (pPt rfl rfl) rfl (sD (nS ?_))))))
 refine cT rfl ?_
 refine tS (tR (sQ (pA rfl) rfl (sD (nS (tT (rS ?_))))))
 refine ret_own1 (outs := [.blk bc [.int .i64 _]]) (rT rfl) (SubH.cons (by repeat (first | exact Pk.here | apply Pk.there)) SubH.nil) ?_
 (rw [mScan_no (by rw [hR]; first | omega | exact Or.inr (Or.inr (Or.inr (by assumption)))) ]; exact ⟨rfl, rfl, rfl⟩)
 refine sQ (pPf rfl rfl) rfl (sQ (pM rfl) rfl (sQ (pF0 rfl) rfl (sL (lBs rfl rfl) rfl rfl ?_)))
 refine sQ (pM rfl) rfl (sB (pE rfl rfl) rfl rfl (fun h86 => ?_) (fun h86 => ?_))
 refine sQ (pPf rfl rfl) rfl (sQ (pM rfl) rfl (sK rfl rfl (sK rfl rfl (sK rfl rfl (sQ (pPt rfl rfl) rfl (sD ?_))))))
 refine nS (cT rfl ?_)
 refine tS (tR (sQ (pA rfl) rfl (sD (nS (tT (rS ?_))))))
 refine ret_own1 (outs := [.blk bc [.int .i64 _]]) (rT rfl) (SubH.cons (by repeat (first | exact Pk.here | apply Pk.there)) SubH.nil) ?_
 (rw [mScan_no (by rw [hR]; first | omega | exact Or.inr (Or.inr (Or.inr (by assumption)))) ]; exact ⟨rfl, rfl, rfl⟩)
 refine sQ (pPf rfl rfl) rfl (sQ (pM rfl) rfl (sL (lBa rfl rfl) rfl rfl ?_))
 refine seq_valb rfl (hno) rfl rfl (fun h108 => ?_) (fun h108 => ?_)
 refine sQ (pNt rfl) rfl (sQ (pPf rfl rfl) rfl (sD (nS (cF rfl ?_))))
 refine tK (nS (tS (tS (tR (sQ (pF0 rfl) rfl (sL (lBs rfl rfl) rfl rfl ?_))))))
 refine sQ (pLn rfl rfl) rfl (sQ (pM rfl) rfl (sD (nS (tri_block ?_))))
 (have hmk := mScan_go (M := M) (D := D) (N := N) (deep := deep) (c := c) (by omega) (hR.trans (by assumption)); refine tri_loopN (fun (x : Nat × Int) => ⟨[(44, .int .i64 x.1), (43, .int .i64 ks.length), (42, .slice p ks.length cp), (5, .pointer (some ⟨bc, 0, none⟩)), (4, .int .i64 N), (3, .int .i64 D), (2, .int .i64 M), (1, .int .i64 deep)], [.blk bc [.int .i64 x.2]], G⟩) (fun x => x.1 ≤ ks.length ∧ 0 ≤ x.2 ∧ x.2 ≤ M ∧ mScanL M D N ks (deep + 1) (c + 1) = mScanL M D N (ks.drop x.1) (deep + 1) x.2) (fun x => ks.length - x.1) (0, c + 1) ?_ ?_ ?_)
 (simp only [flat_snoc]; exact sMk)
 exact ⟨by simp, by simp; omega, by simp; omega, by simp⟩
 (rintro ⟨i, ci⟩ ⟨hi, hc0, hc1, hst⟩; simp only [] at hi hc0 hc1 hst ⊢)
 refine tS (tR (sB (pure_lss rfl rfl) rfl rfl (fun h132 => ?_) (fun h132 => ?_)))
 refine sD (nS (tS (cT rfl ?_)))
 refine tK (nS (tS (tri_block (tS (tR ?_)))))
 (obtain ⟨b, o, e, rfl, hl, hat, hre, hgb⟩ := hsl.kidTm hkl (i := i) (by omega) (by omega); have hone := hre.one; have hle := mScan_le M D N ks[i] (deep + 1) ci hc0 hc1; refine sP (pIN rfl rfl rfl (by omega)) rfl rfl ?_)
 refine sL (load_a rfl rfl (hat _) hl) rfl rfl ?_
 refine sE (step_alloc rfl) rfl (fun b145 => ?_)
 refine seq_store rfl rfl rfl (by assumption) (by assumption) rfl (by repeat first | exact Sw.here | apply Sw.there) (by exact upd_all (by symm; assumption)) ?_
 refine sD (nS (tS (tR (sL (load_a rfl rfl (at_blk_all (by repeat first | exact mH | apply mT)) (by assumption)) rfl rfl ?_))))
 refine sQ (pM rfl) rfl (sP (pure_add rfl rfl (by omega) (by omega)) rfl rfl ?_)
 refine sQ (pM rfl) rfl (sQ (pM rfl) rfl (sQ (pM rfl) rfl (sQ (pM rfl) rfl (seq_valbx rfl (ih ks[i] (List.getElem_mem _) (deep + 1) ci G e (by omega) (by omega) hre) (Pk.perm (by repeat (first | exact Pk.here | apply Pk.there))) rfl rfl (fun h158 => ?_) (fun h158 => ?_)))))
 refine sQ (pNt rfl) rfl (sD (nS (cF rfl ?_)))
 refine tK (nrm_block (nS (tR (sP (pure_add rfl rfl (by omega) (by omega)) rfl rfl ?_))))
 refine sQ (pM rfl) rfl (sD (nrm_loopN (i + 1, (mScan M D N ks[i] (deep + 1) ci).2) ?_ ?_ ?_))
 (simp only [flat_snoc]; exact sMk)
 exact ⟨by omega, by omega, hle.2.2 (by assumption), by rw [hst, mScanL_t (by omega) (by assumption)]⟩
 (show ks.length - (i + 1) < ks.length - i; omega)
 refine sQ (pNf rfl) rfl (sD (nS (cT rfl ?_)))
 refine tS (tR (sQ (pA rfl) rfl (sD (nS (tT (rB ?_))))))
 refine rS (ret_loopN (rB (rS (ret_own1 (outs := [.blk bc [.int .i64 _]]) (rT rfl) (SubH.cons (by repeat (first | exact Pk.here | apply Pk.there)) SubH.nil) ?_))))
 (rw [hmk, hst, mScanL_f (by omega) (by assumption)]; exact ⟨rfl, rfl, rfl⟩)
 refine sD (nS (tS (cF rfl ?_)))
 refine tri_exit ?_
 refine ext_seq ?_
 refine ext_loopN ?_
 refine ext_block_eq ?_
 refine nS (tS (tR (sQ (pA rfl) rfl (sD (nS (tT ?_))))))
 refine ret_own1 (outs := [.blk bc [.int .i64 _]]) (rT rfl) (SubH.cons (by repeat (first | exact Pk.here | apply Pk.there)) SubH.nil) ?_
 (rw [hmk, hst, mScanL_end (by omega)]; exact ⟨rfl, rfl, rfl⟩)
 refine sQ (pNf rfl) rfl (sQ (pPf rfl rfl) rfl (sD (nS (cT rfl ?_))))
 refine tS (tR (sQ (pA rfl) rfl (sD (nS (tT (rS ?_))))))
 refine ret_own1 (outs := [.blk bc [.int .i64 _]]) (rT rfl) (SubH.cons (by repeat (first | exact Pk.here | apply Pk.there)) SubH.nil) ?_
 (rw [mScan_no (by rw [hR]; first | omega | exact Or.inr (Or.inr (Or.inr (by assumption)))) ]; exact ⟨rfl, rfl, rfl⟩)
theorem castValid_fn (t : Tm) (G : IM) (cells : List Value) (hr : RTm G t cells) : Fn Tryz.prog 94 [.agg ⟨cells⟩] [] G (Val (.bool (castValid t)) G) := by
 have hl := hr.len
 refine fn_enter Tryz.func94 rfl Tryz.ntmps94 Tryz.results94 rfl ?_
 intro w0
 refine tS (tR ?_)
 refine sE (step_box_a rfl rfl) rfl (fun b3 => ?_)
 refine sQ (pA rfl) rfl (sD (nS (tS (tR ?_))))
 refine sE (step_alloc rfl) rfl (fun b9 => ?_)
 refine sS' ?_
 refine sD (nS (tS (tR (sL (load_a rfl rfl (at_blk_all (by repeat first | exact mH | apply mT)) (by assumption)) rfl rfl ?_))))
 refine seq_valx rfl (scan_fn 200 40 13 (by omega) (by omega) _ t 1 0 G cells (by omega) (by omega) hr) perm_all rfl rfl ?_
 refine sQ (pA rfl) rfl (sD (nS (tT (rF1 (rT rfl) ?_))))
 exact ⟨rfl, rfl, rfl⟩
theorem termValid_fn (t : Tm) (G : IM) (cells : List Value) (hr : RTm G t cells) : Fn Tryz.prog 44 [.agg ⟨cells⟩] [] G (Val (.bool (termValid t)) G) := by
 have hl := hr.len
 refine fn_enter Tryz.func44 rfl Tryz.ntmps44 Tryz.results44 rfl ?_
 intro w0
 refine tS (tR ?_)
 refine sE (step_box_a rfl rfl) rfl (fun b3 => ?_)
 refine sQ (pA rfl) rfl (sD (nS (tS (tR ?_))))
 refine sE (step_alloc rfl) rfl (fun b9 => ?_)
 refine sS' ?_
 refine sD (nS (tS (tR (sL (load_a rfl rfl (at_blk_all (by repeat first | exact mH | apply mT)) (by assumption)) rfl rfl ?_))))
 refine seq_valx rfl (scan_fn 30 12 14 (by omega) (by omega) _ t 1 0 G cells (by omega) (by omega) hr) perm_all rfl rfl ?_
 refine sQ (pA rfl) rfl (sD (nS (tT (rF1 (rT rfl) ?_))))
 exact ⟨rfl, rfl, rfl⟩
theorem clone_int (G : IM) (p : Option Addr) (n c : Nat) (cells : List Value) (h : Sl G p n c 1 cells) (ho : ∀ u ∈ cells, u.oneCell' = true) (hn : n ≤ 4294967296) :
  Fn Tryz.prog 127 [.slice p n c] [] G (fun G' v outs => G' = G ∧ ∃ p' c', v = .slice p' n c' ∧ outs = [.slc p' c' 3 1 n cells]) := by
 have hp := h.nn
 obtain ⟨hl, hc, hm, hat⟩ := h
 refine fn_enter Tryz.func127 rfl Tryz.ntmps127 Tryz.results127 rfl ?_
 intro w0
 cases p with
 | none =>
  obtain rfl := hp rfl
  obtain rfl : cells = [] := List.length_eq_zero_iff.1 (by omega)
  refine tri_nil 3 1 ?_
  refine tS ?_
  refine tR ?_
  refine sQ (pA rfl) rfl ?_
  refine sD ?_
  refine nS ?_
  refine tS ?_
  refine tS ?_
  refine tR ?_
  refine sQ (pM rfl) rfl ?_
  refine sQ (pure_slnil_t rfl rfl rfl) rfl ?_
  refine sD ?_
  refine nS ?_
  refine cT rfl ?_
  refine tS ?_
  refine tR ?_
  refine sQ (pA rfl) rfl ?_
  refine sD ?_
  refine nS ?_
  refine tT ?_
  refine rS ?_
  refine ret_own1 (rT rfl) SubH.refl ?_
  exact ⟨rfl, _, _, rfl, rfl⟩
 | some a =>
  rcases Nat.eq_zero_or_pos n with rfl | hn0
  ·obtain rfl : cells = [] := List.length_eq_zero_iff.1 (by omega)
   refine tS ?_
   refine tR ?_
   refine sQ (pA rfl) rfl ?_
   refine sD ?_
   refine nS ?_
   refine tS ?_
   refine tS ?_
   refine tR ?_
   refine sQ (pM rfl) rfl ?_
   refine sQ (pure_slnil_f rfl rfl rfl) rfl ?_
   refine sD ?_
   refine nS ?_
   refine cF rfl ?_
   refine tK ?_
   refine nS ?_
   refine tS ?_
   refine tR ?_
   (refine seq_step (step_buildSlice rfl rfl rfl (by omega) (by unfold maxLen; omega) rfl) rfl ?_; rintro _ ⟨b18, rfl⟩)
   refine sQ (pM rfl) rfl ?_
   refine sP (pure_append0 rfl rfl rfl (Nat.le_refl _)) rfl rfl ?_
   refine sQ (pA rfl) rfl ?_
   refine sD ?_
   refine nS ?_
   refine tT ?_
   refine ret_own1 (rT rfl) SubH.refl ?_
   exact ⟨rfl, _, _, rfl, rfl⟩
  ·obtain ⟨b, o, full, he, hg, hv⟩ := hat.resolve_left (by omega)
   obtain rfl := Option.some.inj he
   refine tS ?_
   refine tR ?_
   refine sQ (pA rfl) rfl ?_
   refine sD ?_
   refine nS ?_
   refine tS ?_
   refine tS ?_
   refine tR ?_
   refine sQ (pM rfl) rfl ?_
   refine sQ (pure_slnil_f rfl rfl rfl) rfl ?_
   refine sD ?_
   refine nS ?_
   refine cF rfl ?_
   refine tK ?_
   refine nS ?_
   refine tS ?_
   refine tR ?_
   (refine seq_step (step_buildSlice rfl rfl rfl (by omega) (by unfold maxLen; omega) rfl) rfl ?_; rintro _ ⟨b18, rfl⟩)
   refine sQ (pM rfl) rfl ?_
   refine seq_append rfl rfl rfl rfl rfl (fun _ _ => by repeat (first | exact Sw.here | apply Sw.there)) (at_im hg hv) (by omega) ho (by unfold maxLen; omega) (by omega) rfl (fun pn cn => ?_)
   refine sQ (pA rfl) rfl ?_
   refine sD ?_
   refine nS ?_
   refine tT ?_
   refine ret_own1 (rT rfl) SubH.refl ?_
   exact ⟨rfl, _, _, by rw [Nat.zero_add], by rw [Nat.zero_add]; rfl⟩
theorem paths_fn : ∀ (t : Tm) (path : List Int) (G : IM) (cells : List Value) (pp : Option Addr) (pc : Nat), RTm G t cells → Sl G pp path.length pc 1 (ints path) → path.length + tmCount t ≤ 4294967296 →
  Fn Tryz.prog 95 [.agg ⟨cells⟩, .slice pp path.length pc] [] G (Imm fun G' v => ∃ p c, v = .slice p (mPaths t path).length c ∧ RPs (Dif G' G) (mPaths t path) p c) := by
 refine Tm.ind fun k nm num ty fr lb ks ih path G cells pp pc hr hpath hcnt => ?_
 have hone := hr.one
 obtain ⟨tk, tks⟩ := ty
 obtain ⟨fk, fks⟩ := fr
 obtain ⟨pt, ct, pf, cf, p, cp, es, rfl, hk, hnum, hlb, hty, hfr, hsl, hkl⟩ := hr.open9
 rw [tmCount] at hcnt
 have hn := len_le_count ks
 refine fn_enter Tryz.func95 rfl Tryz.ntmps95 Tryz.results95 rfl ?_
 intro w0
 refine tS (tR ?_)
 refine sE (step_box_a rfl rfl) rfl (fun b3 => ?_)
 refine sQ (pA rfl) rfl (sD (nS (tS (tR (sQ (pM rfl) rfl ?_)))))
 (refine seq_own rfl (clone_int _ _ _ _ _ hpath (ints_one _) (by omega)) rfl rfl (fun v10 G10 outs10 hle10 h10 => ?_); obtain ⟨hG, p1, c1, rfl, rfl⟩ := h10; replace hG := hG.symm; subst hG)
 replace hpath := hpath.mono hle10
 replace hr := hr.mono hle10
 replace hty := hty.mono hle10
 replace hfr := hfr.mono hle10
 replace hsl := hsl.mono hle10
 replace hkl := hkl.mono hle10
 (refine triL_freeze (cs := ints path) (by repeat (first | exact Pk.here | apply Pk.there)) (fun G2 hle2 hsl2 hno2 => ?_); obtain ⟨hf1, hf2⟩ := SPs.first hsl2 hno2 hsl2.nn hle2; refine seq_step (step_buildSlice rfl rfl rfl (by omega) (by unfold maxLen; omega) rfl) rfl ?_; rintro _ ⟨b11, rfl⟩)
 refine sQ (pA rfl) rfl (sD (nS (tS (tS (tR (sQ (pF0 rfl) rfl ?_))))))
 refine sL (lBs rfl rfl) rfl rfl ?_
 refine sQ (pLn rfl rfl) rfl (sQ (pM rfl) rfl (sD (nS (tri_block ?_))))
 (refine tri_loopN (fun (x : Nat × Option Addr × Nat × Nat × List Value × List Nat × IM) => ⟨[(14, .int .i64 x.1), (13, .int .i64 ks.length), (12, .slice p ks.length cp), (5, .slice x.2.1 x.2.2.1 x.2.2.2.1), (1, .slice pp path.length pc)], [.slc x.2.1 x.2.2.2.1 39 1 x.2.2.1 x.2.2.2.2.1], x.2.2.2.2.2.2⟩) (fun x => x.1 ≤ ks.length ∧ x.2.2.1 = tmCountL (ks.take x.1) + 1 ∧ IMle G x.2.2.2.2.2.2 ∧ SPs (Dif x.2.2.2.2.2.2 G) (path :: mPathsL (ks.take x.1) 0 path) x.2.2.2.2.1 x.2.2.2.2.2.1 ∧ x.2.2.2.2.2.1.Nodup) (fun x => ks.length - x.1) (0, some ⟨b11, 0, none⟩, 1, 1, [.slice p1 path.length c1], vfp p1, G2) ?_ ?_ ?_)
 (simp only [flat_snoc]; exact sMk)
 exact ⟨Nat.zero_le _, rfl, hle2, hf1, hf2⟩
 (rintro ⟨i, pn, m, cn, es', F, Gi⟩ ⟨hi, hm, hleI, hst, hnd⟩; simp only [] at hi hm hleI hst hnd ⊢; replace hsl := hsl.mono hleI; replace hkl := hkl.mono hleI; replace hpath := hpath.mono hleI)
 refine tS (tR (sB (pure_lss rfl rfl) rfl rfl (fun h31 => ?_) (fun h31 => ?_)))
 refine sD (nS (tS (cT rfl ?_)))
 refine tK (nS (tS (tri_block (tS (tR (sQ (pM rfl) rfl ?_))))))
 (obtain ⟨b, o, e, rfl, hl, hat, hre, hgb⟩ := hsl.kidTm hkl (i := i) (by omega) (by omega); have hone := hre.one; have htk := tmCountL_take (ks := ks) (i := i) (by omega); refine sP (pIN rfl rfl rfl (by omega)) rfl rfl ?_)
 refine sL (load_a rfl rfl (hat _) hl) rfl rfl ?_
 refine sE (step_alloc rfl) rfl (fun b45 => ?_)
 refine sQ (pA rfl) rfl (seq_store rfl rfl rfl (by assumption) (by assumption) rfl (by repeat first | exact Sw.here | apply Sw.there) (by exact upd_all (by symm; assumption)) ?_)
 refine sD (nS (tri_draw mixed rfl ?_))
 refine any_pure (i := 0) (l' := [tt,ff,ff,ff,ff,ff,ff,ff,ff,ff]) rfl npI (pM rfl) rfl (by kernel_rfl) rfl rfl ?_
 refine aL 1 rfl (load_a rfl rfl (at_blk_all (by repeat first | exact mH | apply mT)) (by assumption)) rfl ?_
 refine aP 2 rfl (pM rfl) rfl ?_
 refine aP 4 rfl (pM rfl) rfl ?_
 refine any_two (j := 3) (j' := 5) (by kernel_rfl) ?_ ?_
 (refine one_own rfl rfl (clone_int _ _ _ _ _ hpath (ints_one _) (by omega)) rfl rfl rfl (fun v56 G56 outs56 hle56 h56 => ?_); obtain ⟨hG, p1, c1, rfl, rfl⟩ := h56; replace hG := hG.symm; subst hG)
 replace hkl := hkl.mono hle56
 replace hpath := hpath.mono hle56
 replace hsl := hsl.mono hle56
 replace hre := hre.mono hle56
 refine aO' 5 ?_
 (refine one_step0 rfl (step_buildSlice rfl rfl rfl (by omega) (by unfold maxLen; omega) rfl) rfl rfl ?_; rintro _ ⟨b58, rfl⟩)
 refine aO' 6 ?_
 (refine one_append rfl rfl rfl rfl rfl rfl (fun _ _ => by repeat (first | exact Sw.here | apply Sw.there)) (at_slc_all (by repeat first | exact mH | apply mT)) rfl (by simp [Value.oneCell']) (by unfold maxLen; omega) (by omega) rfl rfl (by repeat (first | exact HmOk.nil | apply HmOk.dep (by decide +kernel) | apply HmOk.blk (by decide +kernel) (by repeat (first | exact Pk.here | apply Pk.there)) (by repeat first | exact mH | apply mT))) (fun p4 c4 => ?_))
 (refine any_freeze (cs := ints path ++ [.int .i64 (i : Int)]) (by repeat (first | exact Pk.here | apply Pk.there)) (fun Gf hle61 hslf hnof => ?_); rw [← ints_snoc] at hslf; replace hre := hre.mono hle61; have hlef := hle61)
 replace hkl := hkl.mono hle61
 replace hpath := hpath.mono hle61
 replace hsl := hsl.mono hle61
 refine aO' 7 ?_
 (have hih := ih ks[i] (List.getElem_mem (by omega)) (path ++ [(i : Int)]) Gf e p4 c4 hre; rw [show (path ++ [(i : Int)]).length = path.length + 1 from by simp] at hih; replace hih := hih hslf (by omega); refine one_imm rfl rfl hih rfl rfl rfl (fun v G1 hle1 hh => ?_); obtain ⟨p5, c5, rfl, es5, F5, hsl5, hnb5, hsp5, hnd5⟩ := hh; have hm5 := mPaths_len ks[i] (path ++ [(i : Int)]); have hpos := tmCount_pos ks[i]; obtain ⟨hl5, hc5, hx5, hat5⟩ := hsl5; obtain ⟨b5, o5, full5, rfl, hg5, hv5⟩ := hat5.resolve_left (by omega))
 refine aO' 8 ?_
 (refine one_append rfl rfl rfl rfl rfl rfl (fun _ _ => by repeat (first | exact Sw.here | apply Sw.there)) (at_im (Dif.le _ _ _ _ hg5) hv5) hl5 hsp5.one (by unfold maxLen; omega) (by omega) rfl rfl (by repeat (first | exact HmOk.nil | apply HmOk.dep (by decide +kernel) | apply HmOk.blk (by decide +kernel) (by repeat (first | exact Pk.here | apply Pk.there)) (by repeat first | exact mH | apply mT))) (fun p6 c6 => ?_))
 refine aP 9 rfl (pA rfl) rfl ?_
 refine aD' ?_
 refine nrm_block (nS (tR (sP (pure_add rfl rfl (by omega) (by omega)) rfl rfl ?_)))
 refine sQ (pM rfl) rfl (sD ?_)
 (obtain ⟨q1, q2⟩ := SPs.step hst hnd hleI hlef hle1 hsp5 (List.nodup_append.1 hnd5).2.1; have hsu := tmCountL_succ (ks := ks) (i := i) (by omega); refine nrm_loopN (i + 1, p6, m + (mPaths ks[i] (path ++ [(i : Int)])).length, c6, es' ++ es5, F ++ F5, G1) ?_ ?_ ?_)
 (simp only [flat_snoc]; exact sMk)
 (dsimp only; exact ⟨by omega, by omega, (hleI.trans hlef).trans hle1, by rw [mPathsL_take (by omega)]; exact q1, q2⟩)
 (show ks.length - (i + 1) < ks.length - i; omega)
 (refine one_step0 rfl (step_buildSlice rfl rfl rfl (by omega) (by unfold maxLen; omega) rfl) rfl rfl ?_; rintro _ ⟨b78, rfl⟩)
 refine aO' 3 ?_
 (refine one_own rfl rfl (clone_int _ _ _ _ _ hpath (ints_one _) (by omega)) rfl rfl rfl (fun v80 G80 outs80 hle80 h80 => ?_); obtain ⟨hG, p1, c1, rfl, rfl⟩ := h80; replace hG := hG.symm; subst hG)
 replace hkl := hkl.mono hle80
 replace hpath := hpath.mono hle80
 replace hsl := hsl.mono hle80
 replace hre := hre.mono hle80
 refine aO' 6 ?_
 (refine one_append rfl rfl rfl rfl rfl rfl (fun _ _ => by repeat (first | exact Sw.here | apply Sw.there)) (at_slc_all (by repeat first | exact mH | apply mT)) rfl (by simp [Value.oneCell']) (by unfold maxLen; omega) (by omega) rfl rfl (by repeat (first | exact HmOk.nil | apply HmOk.dep (by decide +kernel) | apply HmOk.blk (by decide +kernel) (by repeat (first | exact Pk.here | apply Pk.there)) (by repeat first | exact mH | apply mT))) (fun p4 c4 => ?_))
 (refine any_freeze (cs := ints path ++ [.int .i64 (i : Int)]) (by repeat (first | exact Pk.here | apply Pk.there)) (fun Gf hle83 hslf hnof => ?_); rw [← ints_snoc] at hslf; replace hre := hre.mono hle83; have hlef := hle83)
 replace hkl := hkl.mono hle83
 replace hpath := hpath.mono hle83
 replace hsl := hsl.mono hle83
 refine aO' 7 ?_
 (have hih := ih ks[i] (List.getElem_mem (by omega)) (path ++ [(i : Int)]) Gf e p4 c4 hre; rw [show (path ++ [(i : Int)]).length = path.length + 1 from by simp] at hih; replace hih := hih hslf (by omega); refine one_imm rfl rfl hih rfl rfl rfl (fun v G1 hle1 hh => ?_); obtain ⟨p5, c5, rfl, es5, F5, hsl5, hnb5, hsp5, hnd5⟩ := hh; have hm5 := mPaths_len ks[i] (path ++ [(i : Int)]); have hpos := tmCount_pos ks[i]; obtain ⟨hl5, hc5, hx5, hat5⟩ := hsl5; obtain ⟨b5, o5, full5, rfl, hg5, hv5⟩ := hat5.resolve_left (by omega))
 refine aO' 8 ?_
 (refine one_append rfl rfl rfl rfl rfl rfl (fun _ _ => by repeat (first | exact Sw.here | apply Sw.there)) (at_im (Dif.le _ _ _ _ hg5) hv5) hl5 hsp5.one (by unfold maxLen; omega) (by omega) rfl rfl (by repeat (first | exact HmOk.nil | apply HmOk.dep (by decide +kernel) | apply HmOk.blk (by decide +kernel) (by repeat (first | exact Pk.here | apply Pk.there)) (by repeat first | exact mH | apply mT))) (fun p6 c6 => ?_))
 refine aP 9 rfl (pA rfl) rfl ?_
 refine aD' ?_
 refine nrm_block (nS (tR (sP (pure_add rfl rfl (by omega) (by omega)) rfl rfl ?_)))
 refine sQ (pM rfl) rfl (sD ?_)
 (obtain ⟨q1, q2⟩ := SPs.step hst hnd hleI hlef hle1 hsp5 (List.nodup_append.1 hnd5).2.1; have hsu := tmCountL_succ (ks := ks) (i := i) (by omega); refine nrm_loopN (i + 1, p6, m + (mPaths ks[i] (path ++ [(i : Int)])).length, c6, es' ++ es5, F ++ F5, G1) ?_ ?_ ?_)
 (simp only [flat_snoc]; exact sMk)
 (dsimp only; exact ⟨by omega, by omega, (hleI.trans hlef).trans hle1, by rw [mPathsL_take (by omega)]; exact q1, q2⟩)
 (show ks.length - (i + 1) < ks.length - i; omega)
 refine sD (nS (tS (cF rfl ?_)))
 refine tri_exit ?_
 refine ext_seq ?_
 refine ext_loopN ?_
 refine ext_block_eq ?_
 refine nS (tS (tR (sQ (pM rfl) rfl (sQ (pA rfl) rfl (sD (nS ?_))))))
 (refine ret_freeze (by repeat (first | exact Pk.here | apply Pk.there)) (fun G3 hle3 hsl3 hno3 => ?_); obtain rfl : i = ks.length := by omega)
 refine tT (rF1 (rT rfl) ?_)
 (rw [List.take_length] at hst hm; have hfin := RPs.fin hst hnd hleI hle3 hsl3 (by rw [List.length_cons, mPathsL_len, hm]) hno3; exact ⟨rfl, pn, cn, by rw [mPaths_len, tmCount, hm], by rw [mPaths]; exact hfin⟩)
theorem allPaths_fn (t : Tm) (G : IM) (cells : List Value) (hr : RTm G t cells) :
  Fn Tryz.prog 57 [.agg ⟨cells⟩] [] G (Imm fun G' v => ∃ p c, v = .slice p (mAll t).length c ∧ RPs (Dif G' G) (mAll t) p c) := by
 have hl := hr.len
 have hv := castValid_fn t G cells hr
 have hcnt := @castValid_count t
 refine fn_enter Tryz.func57 rfl Tryz.ntmps57 Tryz.results57 rfl ?_
 intro w0
 refine tS (tR ?_)
 refine sE (step_box_a rfl rfl) rfl (fun b3 => ?_)
 refine sQ (pA rfl) rfl (sD (nS (tS (tS (tR (sL (load_a rfl rfl (at_blk_all (by repeat first | exact mH | apply mT)) (by assumption)) rfl rfl ?_))))))
 refine seq_valb rfl (hv) rfl rfl (fun h11 => ?_) (fun h11 => ?_)
 refine sQ (pNt rfl) rfl (sD (nS (cF rfl ?_)))
 refine tK (nS (tS (tR (sL (load_a rfl rfl (at_blk_all (by repeat first | exact mH | apply mT)) (by assumption)) rfl rfl ?_))))
 (have hp := paths_fn t [] G cells none 0 hr (Sl.nil G 1) (by have := hcnt (by assumption); simp; omega); refine seq_imm rfl hp rfl rfl (fun v21 G21 hle21 hh => ?_); obtain ⟨p1, c1, rfl, hrp⟩ := hh)
 replace hr := hr.mono hle21
 refine sQ (pA rfl) rfl (sD (nS (tT (rF1 (rT rfl) ?_))))
 (have hm : mAll t = mPaths t [] := if_pos (by assumption); rw [hm]; exact ⟨rfl, _, _, rfl, hrp⟩)
 refine sQ (pNf rfl) rfl (sD (nS (cT rfl ?_)))
 refine tS (tR (sQ (pA rfl) rfl (sD (nS (tT (rS ?_))))))
 refine rF1 (rT rfl) ?_
 (have hm : mAll t = [] := if_neg (by simp [*]); rw [hm]; exact ⟨rfl, _, _, rfl, RPs.nil _⟩)
theorem l1Kids_fn (k : Int) (G : IM) : Fn Tryz.prog 148 [.int .i64 k] [] G (Val (.int .i64 (tyOps k)) G) := by
 refine fn_enter Tryz.func148 rfl Tryz.ntmps148 Tryz.results148 rfl ?_
 intro w0
 refine tS (tR (sQ (pA rfl) rfl (sD (nS (tS (tS ?_))))))
 refine tR (sQ (pM rfl) rfl (sD (nS (tri_block (tS (tS ?_))))))
 refine tR (sB (pE rfl rfl) rfl rfl (fun h16 => ?_) (fun h16 => ?_))
 refine sQ (pA rfl) rfl (sD (nS (cT rfl ?_)))
 refine tK (nS (cT rfl ?_))
 refine tS (tR (sQ (pA rfl) rfl (sD (nS (tT (rB ?_))))))
 refine rS (rF1 (rT rfl) ?_)
 exact ⟨rfl, by (first | rw [(tyOps_spec k).1 (by omega)] | rw [(tyOps_spec k).2.1 (by omega)] | rw [(tyOps_spec k).2.2 (by omega) (by omega) (by omega) (by omega) (by omega)]), rfl⟩
 refine sQ (pA rfl) rfl (sD (nS (cF rfl ?_)))
 refine tS (tR (sB (pE rfl rfl) rfl rfl (fun h40 => ?_) (fun h40 => ?_)))
 refine sQ (pA rfl) rfl (sD (nS (cT rfl ?_)))
 refine tK (nS (cT rfl ?_))
 refine tS (tR (sQ (pA rfl) rfl (sD (nS (tT (rB ?_))))))
 refine rS (rF1 (rT rfl) ?_)
 exact ⟨rfl, by (first | rw [(tyOps_spec k).1 (by omega)] | rw [(tyOps_spec k).2.1 (by omega)] | rw [(tyOps_spec k).2.2 (by omega) (by omega) (by omega) (by omega) (by omega)]), rfl⟩
 refine sQ (pA rfl) rfl (sD (nS (cF rfl ?_)))
 refine tR (sB (pE rfl rfl) rfl rfl (fun h63 => ?_) (fun h63 => ?_))
 refine sQ (pA rfl) rfl (sD (nS (cT rfl ?_)))
 refine tS (tR (sQ (pA rfl) rfl (sD (nS (tT (rB ?_))))))
 refine rS (rF1 (rT rfl) ?_)
 exact ⟨rfl, by (first | rw [(tyOps_spec k).1 (by omega)] | rw [(tyOps_spec k).2.1 (by omega)] | rw [(tyOps_spec k).2.2 (by omega) (by omega) (by omega) (by omega) (by omega)]), rfl⟩
 refine sQ (pA rfl) rfl (sD (nS (cF rfl ?_)))
 refine tS (tS (tR (sB (pE rfl rfl) rfl rfl (fun h85 => ?_) (fun h85 => ?_))))
 refine sQ (pA rfl) rfl (sD (nS (cT rfl ?_)))
 refine tK (nS (cT rfl ?_))
 refine tS (tR (sQ (pA rfl) rfl (sD (nS (tT (rB ?_))))))
 refine rS (rF1 (rT rfl) ?_)
 exact ⟨rfl, by (first | rw [(tyOps_spec k).1 (by omega)] | rw [(tyOps_spec k).2.1 (by omega)] | rw [(tyOps_spec k).2.2 (by omega) (by omega) (by omega) (by omega) (by omega)]), rfl⟩
 refine sQ (pA rfl) rfl (sD (nS (cF rfl ?_)))
 refine tR (sB (pE rfl rfl) rfl rfl (fun h108 => ?_) (fun h108 => ?_))
 refine sQ (pA rfl) rfl (sD (nS (cT rfl ?_)))
 refine tS (tR (sQ (pA rfl) rfl (sD (nS (tT (rB ?_))))))
 refine rS (rF1 (rT rfl) ?_)
 exact ⟨rfl, by (first | rw [(tyOps_spec k).1 (by omega)] | rw [(tyOps_spec k).2.1 (by omega)] | rw [(tyOps_spec k).2.2 (by omega) (by omega) (by omega) (by omega) (by omega)]), rfl⟩
 refine sQ (pA rfl) rfl (sD (nS (cF rfl ?_)))
 refine tK (nrm_block (nS (tS (tR (sQ (pA rfl) rfl (sD ?_))))))
 refine nS (tT (rF1 (rT rfl) ?_))
 exact ⟨rfl, by (first | rw [(tyOps_spec k).1 (by omega)] | rw [(tyOps_spec k).2.1 (by omega)] | rw [(tyOps_spec k).2.2 (by omega) (by omega) (by omega) (by omega) (by omega)]), rfl⟩
theorem l2Kids_fn (k : Int) (G : IM) : Fn Tryz.prog 103 [.int .i64 k] [] G (Val (.int .i64 (tmOps k)) G) := by
 refine fn_enter Tryz.func103 rfl Tryz.ntmps103 Tryz.results103 rfl ?_
 intro w0
 refine tS (tR (sQ (pA rfl) rfl (sD (nS (tS (tS ?_))))))
 refine tR (sQ (pM rfl) rfl (sD (nS (tri_block (tS (tS ?_))))))
 refine tR (sB (pE rfl rfl) rfl rfl (fun h16 => ?_) (fun h16 => ?_))
 refine sQ (pA rfl) rfl (sD (nS (cT rfl ?_)))
 refine tK (nS (cT rfl ?_))
 refine tS (tR (sQ (pA rfl) rfl (sD (nS (tT (rB ?_))))))
 refine rS (rF1 (rT rfl) ?_)
 exact ⟨rfl, by (unfold tmOps; first | rw [if_pos (by omega)] | rw [if_neg (by omega), if_pos (by omega)] | rw [if_neg (by omega), if_neg (by omega), if_pos (by omega)] | rw [if_neg (by omega), if_neg (by omega), if_neg (by omega), if_pos (by omega)] | rw [if_neg (by omega), if_neg (by omega), if_neg (by omega), if_neg (by omega)]), rfl⟩
 refine sQ (pA rfl) rfl (sD (nS (cF rfl ?_)))
 refine tS (tR (sB (pE rfl rfl) rfl rfl (fun h40 => ?_) (fun h40 => ?_)))
 refine sQ (pA rfl) rfl (sD (nS (cT rfl ?_)))
 refine tK (nS (cT rfl ?_))
 refine tS (tR (sQ (pA rfl) rfl (sD (nS (tT (rB ?_))))))
 refine rS (rF1 (rT rfl) ?_)
 exact ⟨rfl, by (unfold tmOps; first | rw [if_pos (by omega)] | rw [if_neg (by omega), if_pos (by omega)] | rw [if_neg (by omega), if_neg (by omega), if_pos (by omega)] | rw [if_neg (by omega), if_neg (by omega), if_neg (by omega), if_pos (by omega)] | rw [if_neg (by omega), if_neg (by omega), if_neg (by omega), if_neg (by omega)]), rfl⟩
 refine sQ (pA rfl) rfl (sD (nS (cF rfl ?_)))
 refine tS (tR (sB (pE rfl rfl) rfl rfl (fun h64 => ?_) (fun h64 => ?_)))
 refine sQ (pA rfl) rfl (sD (nS (cT rfl ?_)))
 refine tK (nS (cT rfl ?_))
 refine tS (tR (sQ (pA rfl) rfl (sD (nS (tT (rB ?_))))))
 refine rS (rF1 (rT rfl) ?_)
 exact ⟨rfl, by (unfold tmOps; first | rw [if_pos (by omega)] | rw [if_neg (by omega), if_pos (by omega)] | rw [if_neg (by omega), if_neg (by omega), if_pos (by omega)] | rw [if_neg (by omega), if_neg (by omega), if_neg (by omega), if_pos (by omega)] | rw [if_neg (by omega), if_neg (by omega), if_neg (by omega), if_neg (by omega)]), rfl⟩
 refine sQ (pA rfl) rfl (sD (nS (cF rfl ?_)))
 refine tR (sB (pE rfl rfl) rfl rfl (fun h87 => ?_) (fun h87 => ?_))
 refine sQ (pA rfl) rfl (sD (nS (cT rfl ?_)))
 refine tS (tR (sQ (pA rfl) rfl (sD (nS (tT (rB ?_))))))
 refine rS (rF1 (rT rfl) ?_)
 exact ⟨rfl, by (unfold tmOps; first | rw [if_pos (by omega)] | rw [if_neg (by omega), if_pos (by omega)] | rw [if_neg (by omega), if_neg (by omega), if_pos (by omega)] | rw [if_neg (by omega), if_neg (by omega), if_neg (by omega), if_pos (by omega)] | rw [if_neg (by omega), if_neg (by omega), if_neg (by omega), if_neg (by omega)]), rfl⟩
 refine sQ (pA rfl) rfl (sD (nS (cF rfl ?_)))
 refine tS (tS (tR (sB (pE rfl rfl) rfl rfl (fun h109 => ?_) (fun h109 => ?_))))
 refine sQ (pA rfl) rfl (sD (nS (cT rfl ?_)))
 refine tK (nS (cT rfl ?_))
 refine tS (tR (sQ (pA rfl) rfl (sD (nS (tT (rB ?_))))))
 refine rS (rF1 (rT rfl) ?_)
 exact ⟨rfl, by (unfold tmOps; first | rw [if_pos (by omega)] | rw [if_neg (by omega), if_pos (by omega)] | rw [if_neg (by omega), if_neg (by omega), if_pos (by omega)] | rw [if_neg (by omega), if_neg (by omega), if_neg (by omega), if_pos (by omega)] | rw [if_neg (by omega), if_neg (by omega), if_neg (by omega), if_neg (by omega)]), rfl⟩
 refine sQ (pA rfl) rfl (sD (nS (cF rfl ?_)))
 refine tS (tR (sB (pE rfl rfl) rfl rfl (fun h133 => ?_) (fun h133 => ?_)))
 refine sQ (pA rfl) rfl (sD (nS (cT rfl ?_)))
 refine tK (nS (cT rfl ?_))
 refine tS (tR (sQ (pA rfl) rfl (sD (nS (tT (rB ?_))))))
 refine rS (rF1 (rT rfl) ?_)
 exact ⟨rfl, by (unfold tmOps; first | rw [if_pos (by omega)] | rw [if_neg (by omega), if_pos (by omega)] | rw [if_neg (by omega), if_neg (by omega), if_pos (by omega)] | rw [if_neg (by omega), if_neg (by omega), if_neg (by omega), if_pos (by omega)] | rw [if_neg (by omega), if_neg (by omega), if_neg (by omega), if_neg (by omega)]), rfl⟩
 refine sQ (pA rfl) rfl (sD (nS (cF rfl ?_)))
 refine tS (tR (sB (pE rfl rfl) rfl rfl (fun h157 => ?_) (fun h157 => ?_)))
 refine sQ (pA rfl) rfl (sD (nS (cT rfl ?_)))
 refine tK (nS (cT rfl ?_))
 refine tS (tR (sQ (pA rfl) rfl (sD (nS (tT (rB ?_))))))
 refine rS (rF1 (rT rfl) ?_)
 exact ⟨rfl, by (unfold tmOps; first | rw [if_pos (by omega)] | rw [if_neg (by omega), if_pos (by omega)] | rw [if_neg (by omega), if_neg (by omega), if_pos (by omega)] | rw [if_neg (by omega), if_neg (by omega), if_neg (by omega), if_pos (by omega)] | rw [if_neg (by omega), if_neg (by omega), if_neg (by omega), if_neg (by omega)]), rfl⟩
 refine sQ (pA rfl) rfl (sD (nS (cF rfl ?_)))
 refine tS (tR (sB (pE rfl rfl) rfl rfl (fun h181 => ?_) (fun h181 => ?_)))
 refine sQ (pA rfl) rfl (sD (nS (cT rfl ?_)))
 refine tK (nS (cT rfl ?_))
 refine tS (tR (sQ (pA rfl) rfl (sD (nS (tT (rB ?_))))))
 refine rS (rF1 (rT rfl) ?_)
 exact ⟨rfl, by (unfold tmOps; first | rw [if_pos (by omega)] | rw [if_neg (by omega), if_pos (by omega)] | rw [if_neg (by omega), if_neg (by omega), if_pos (by omega)] | rw [if_neg (by omega), if_neg (by omega), if_neg (by omega), if_pos (by omega)] | rw [if_neg (by omega), if_neg (by omega), if_neg (by omega), if_neg (by omega)]), rfl⟩
 refine sQ (pA rfl) rfl (sD (nS (cF rfl ?_)))
 refine tR (sB (pE rfl rfl) rfl rfl (fun h204 => ?_) (fun h204 => ?_))
 refine sQ (pA rfl) rfl (sD (nS (cT rfl ?_)))
 refine tS (tR (sQ (pA rfl) rfl (sD (nS (tT (rB ?_))))))
 refine rS (rF1 (rT rfl) ?_)
 exact ⟨rfl, by (unfold tmOps; first | rw [if_pos (by omega)] | rw [if_neg (by omega), if_pos (by omega)] | rw [if_neg (by omega), if_neg (by omega), if_pos (by omega)] | rw [if_neg (by omega), if_neg (by omega), if_neg (by omega), if_pos (by omega)] | rw [if_neg (by omega), if_neg (by omega), if_neg (by omega), if_neg (by omega)]), rfl⟩
 refine sQ (pA rfl) rfl (sD (nS (cF rfl ?_)))
 refine tS (tS (tR (sB (pE rfl rfl) rfl rfl (fun h226 => ?_) (fun h226 => ?_))))
 refine sQ (pA rfl) rfl (sD (nS (cT rfl ?_)))
 refine tK (nS (cT rfl ?_))
 refine tS (tR (sQ (pA rfl) rfl (sD (nS (tT (rB ?_))))))
 refine rS (rF1 (rT rfl) ?_)
 exact ⟨rfl, by (unfold tmOps; first | rw [if_pos (by omega)] | rw [if_neg (by omega), if_pos (by omega)] | rw [if_neg (by omega), if_neg (by omega), if_pos (by omega)] | rw [if_neg (by omega), if_neg (by omega), if_neg (by omega), if_pos (by omega)] | rw [if_neg (by omega), if_neg (by omega), if_neg (by omega), if_neg (by omega)]), rfl⟩
 refine sQ (pA rfl) rfl (sD (nS (cF rfl ?_)))
 refine tS (tR (sB (pE rfl rfl) rfl rfl (fun h250 => ?_) (fun h250 => ?_)))
 refine sQ (pA rfl) rfl (sD (nS (cT rfl ?_)))
 refine tK (nS (cT rfl ?_))
 refine tS (tR (sQ (pA rfl) rfl (sD (nS (tT (rB ?_))))))
 refine rS (rF1 (rT rfl) ?_)
 exact ⟨rfl, by (unfold tmOps; first | rw [if_pos (by omega)] | rw [if_neg (by omega), if_pos (by omega)] | rw [if_neg (by omega), if_neg (by omega), if_pos (by omega)] | rw [if_neg (by omega), if_neg (by omega), if_neg (by omega), if_pos (by omega)] | rw [if_neg (by omega), if_neg (by omega), if_neg (by omega), if_neg (by omega)]), rfl⟩
 refine sQ (pA rfl) rfl (sD (nS (cF rfl ?_)))
 refine tS (tR (sB (pE rfl rfl) rfl rfl (fun h274 => ?_) (fun h274 => ?_)))
 refine sQ (pA rfl) rfl (sD (nS (cT rfl ?_)))
 refine tK (nS (cT rfl ?_))
 refine tS (tR (sQ (pA rfl) rfl (sD (nS (tT (rB ?_))))))
 refine rS (rF1 (rT rfl) ?_)
 exact ⟨rfl, by (unfold tmOps; first | rw [if_pos (by omega)] | rw [if_neg (by omega), if_pos (by omega)] | rw [if_neg (by omega), if_neg (by omega), if_pos (by omega)] | rw [if_neg (by omega), if_neg (by omega), if_neg (by omega), if_pos (by omega)] | rw [if_neg (by omega), if_neg (by omega), if_neg (by omega), if_neg (by omega)]), rfl⟩
 refine sQ (pA rfl) rfl (sD (nS (cF rfl ?_)))
 refine tR (sB (pE rfl rfl) rfl rfl (fun h297 => ?_) (fun h297 => ?_))
 refine sQ (pA rfl) rfl (sD (nS (cT rfl ?_)))
 refine tS (tR (sQ (pA rfl) rfl (sD (nS (tT (rB ?_))))))
 refine rS (rF1 (rT rfl) ?_)
 exact ⟨rfl, by (unfold tmOps; first | rw [if_pos (by omega)] | rw [if_neg (by omega), if_pos (by omega)] | rw [if_neg (by omega), if_neg (by omega), if_pos (by omega)] | rw [if_neg (by omega), if_neg (by omega), if_neg (by omega), if_pos (by omega)] | rw [if_neg (by omega), if_neg (by omega), if_neg (by omega), if_neg (by omega)]), rfl⟩
 refine sQ (pA rfl) rfl (sD (nS (cF rfl ?_)))
 refine tS (tR (sB (pE rfl rfl) rfl rfl (fun h318 => ?_) (fun h318 => ?_)))
 refine sQ (pA rfl) rfl (sD (nS (cT rfl ?_)))
 refine tS (tR (sQ (pA rfl) rfl (sD (nS (tT (rB ?_))))))
 refine rS (rF1 (rT rfl) ?_)
 exact ⟨rfl, by (unfold tmOps; first | rw [if_pos (by omega)] | rw [if_neg (by omega), if_pos (by omega)] | rw [if_neg (by omega), if_neg (by omega), if_pos (by omega)] | rw [if_neg (by omega), if_neg (by omega), if_neg (by omega), if_pos (by omega)] | rw [if_neg (by omega), if_neg (by omega), if_neg (by omega), if_neg (by omega)]), rfl⟩
 refine sQ (pA rfl) rfl (sD (nS (cF rfl ?_)))
 refine tK (nrm_block (nS (tS (tR (sQ (pA rfl) rfl (sD ?_))))))
 refine nS (tT (rF1 (rT rfl) ?_))
 exact ⟨rfl, by (unfold tmOps; first | rw [if_pos (by omega)] | rw [if_neg (by omega), if_pos (by omega)] | rw [if_neg (by omega), if_neg (by omega), if_pos (by omega)] | rw [if_neg (by omega), if_neg (by omega), if_neg (by omega), if_pos (by omega)] | rw [if_neg (by omega), if_neg (by omega), if_neg (by omega), if_neg (by omega)]), rfl⟩
theorem l2Name_fn (s : ByteArray) (G : IM) : Fn Tryz.prog 96 [.string s] [] G (Val (.bool (nameOk s)) G) := by
 refine fn_enter Tryz.func96 rfl Tryz.ntmps96 Tryz.results96 rfl ?_
 intro w0
 refine tS (tR (sQ (pA rfl) rfl (sD (nS (tS (tR ?_))))))
 refine sQ (pM rfl) rfl (sQ (pure_len_str rfl rfl) rfl (sB (pE rfl rfl) rfl rfl (fun h10 => ?_) (fun h10 => ?_)))
 refine sQ (pM rfl) rfl (sQ (pM rfl) rfl (sP (pure_sindex rfl rfl rfl (by omega) (ba_get (by omega))) rfl rfl ?_))
 refine sB (pure_geq rfl rfl) rfl rfl (fun h14 => ?_) (fun h14 => ?_)
 refine sQ (pPt rfl rfl) rfl (sQ (pM rfl) rfl (sQ (pM rfl) rfl (sP (pure_sindex rfl rfl rfl (by omega) (ba_get (by omega))) rfl rfl ?_)))
 refine sB (pure_leq rfl rfl) rfl rfl (fun h19 => ?_) (fun h19 => ?_)
 refine sQ (pPt rfl rfl) rfl (sQ (pA rfl) rfl (sD (nS (tT (rF1 (rT rfl) ?_)))))
 exact ⟨rfl, by simp only [nameOk]; (try simp only [Int.toNat_zero] at *); (first | rw [decide_eq_true (by omega)] | rw [decide_eq_false (by omega)]), rfl⟩
 refine sQ (pPt rfl rfl) rfl (sQ (pA rfl) rfl (sD (nS (tT (rF1 (rT rfl) ?_)))))
 exact ⟨rfl, by simp only [nameOk]; (try simp only [Int.toNat_zero] at *); (first | rw [decide_eq_true (by omega)] | rw [decide_eq_false (by omega)]), rfl⟩
 refine sQ (pPt rfl rfl) rfl (sQ (pM rfl) rfl (sK rfl rfl (sK rfl rfl (sK rfl rfl (sQ (pPf rfl rfl) rfl (sQ (pA rfl) rfl ?_))))))
 refine sD (nS (tT (rF1 (rT rfl) ?_)))
 exact ⟨rfl, by simp only [nameOk]; (try simp only [Int.toNat_zero] at *); (first | rw [decide_eq_true (by omega)] | rw [decide_eq_false (by omega)]), rfl⟩
 refine sQ (pM rfl) rfl (sK rfl rfl (sK rfl rfl (sK rfl rfl (sQ (pPf rfl rfl) rfl (sQ (pM rfl) rfl (sK rfl rfl ?_))))))
 refine sK rfl rfl (sK rfl rfl (sQ (pPf rfl rfl) rfl (sQ (pA rfl) rfl (sD (nS (tT ?_))))))
 refine rF1 (rT rfl) ?_
 exact ⟨rfl, by simp only [nameOk]; (try simp only [Int.toNat_zero] at *); (first | rw [decide_eq_true (by omega)] | rw [decide_eq_false (by omega)]), rfl⟩
theorem l2None_fn (t : Ty) (G : IM) (cells : List Value) (hr : RTy G t cells) : Fn Tryz.prog 131 [.agg ⟨cells⟩] [] G (Val (.bool (tNone t)) G) := by
 obtain ⟨p, c, es, rfl, hk, hsl, hkl⟩ := hr.open
 refine fn_enter Tryz.func131 rfl Tryz.ntmps131 Tryz.results131 rfl ?_
 intro w0
 refine tS (tR ?_)
 refine sE (step_box_a rfl rfl) rfl (fun b3 => ?_)
 refine sQ (pA rfl) rfl (sD (nS (tS (tR (sQ (pF0 rfl) rfl (sL (lBs rfl rfl) rfl rfl ?_))))))
 refine sB (pE rfl rfl) rfl rfl (fun h11 => ?_) (fun h11 => ?_)
 refine sQ (pM rfl) rfl (sQ (pF0 rfl) rfl (sL (lBs rfl rfl) rfl rfl ?_))
 refine sQ (pLn rfl rfl) rfl (sB (pE rfl rfl) rfl rfl (fun h16 => ?_) (fun h16 => ?_))
 refine sQ (pPt rfl rfl) rfl (sQ (pA rfl) rfl (sD (nS (tT (rF1 (rT rfl) ?_)))))
 exact ⟨rfl, by simp only [tNone]; (first | rw [decide_eq_true (by omega)] | rw [decide_eq_false (by omega)]), rfl⟩
 refine sQ (pPt rfl rfl) rfl (sQ (pA rfl) rfl (sD (nS (tT (rF1 (rT rfl) ?_)))))
 exact ⟨rfl, by simp only [tNone]; (first | rw [decide_eq_true (by omega)] | rw [decide_eq_false (by omega)]), rfl⟩
 refine sQ (pM rfl) rfl (sK rfl rfl (sK rfl rfl (sK rfl rfl (sK rfl rfl (sQ (pPf rfl rfl) rfl (sQ (pA rfl) rfl ?_))))))
 refine sD (nS (tT (rF1 (rT rfl) ?_)))
 exact ⟨rfl, by simp only [tNone]; (first | rw [decide_eq_true (by omega)] | rw [decide_eq_false (by omega)]), rfl⟩
/-- The absolute value of a label, 0 for what is no label's size. -/
def absLb (n : Int) : Int := if n < -99 ∨ n > 99 then 0 else if n < 0 then -n else n
theorem l1Abs_fn (n : Int) (G : IM) : Fn Tryz.prog 31 [.int .i64 n] [] G (Val (.int .i64 (absLb n)) G) := by
 refine fn_enter Tryz.func31 rfl Tryz.ntmps31 Tryz.results31 rfl ?_
 intro w0
 refine tS (tR (sQ (pA rfl) rfl (sD (nS (tS (tS ?_))))))
 refine tR (sQ (pM rfl) rfl (sB (pure_lss rfl rfl) rfl rfl (fun h10 => ?_) (fun h10 => ?_)))
 refine sQ (pM rfl) rfl (sK rfl rfl (sK rfl rfl (sQ (pPt rfl rfl) rfl (sD (nS (cT rfl ?_))))))
 refine tS (tR (sQ (pA rfl) rfl (sD (nS (tT (rS ?_))))))
 refine rF1 (rT rfl) ?_
 exact ⟨rfl, by (unfold absLb; first | rw [if_pos (by omega)] | rw [if_neg (by omega), if_pos (by omega)] | rw [if_neg (by omega), if_neg (by omega)]), rfl⟩
 refine sQ (pM rfl) rfl (sQ (pM rfl) rfl (sB (pure_gtr rfl rfl) rfl rfl (fun h29 => ?_) (fun h29 => ?_)))
 refine sQ (pPf rfl rfl) rfl (sD (nS (cT rfl ?_)))
 refine tS (tR (sQ (pA rfl) rfl (sD (nS (tT (rS ?_))))))
 refine rF1 (rT rfl) ?_
 exact ⟨rfl, by (unfold absLb; first | rw [if_pos (by omega)] | rw [if_neg (by omega), if_pos (by omega)] | rw [if_neg (by omega), if_neg (by omega)]), rfl⟩
 refine sQ (pPf rfl rfl) rfl (sD (nS (cF rfl ?_)))
 refine tK (nS (tS (tS (tR (sQ (pM rfl) rfl (sB (pure_lss rfl rfl) rfl rfl (fun h53 => ?_) (fun h53 => ?_)))))))
 refine sD (nS (cT rfl ?_))
 refine tS (tR (sQ (pM rfl) rfl (sP (pure_neg rfl (by omega) (by omega)) rfl rfl ?_)))
 refine sQ (pA rfl) rfl (sD (nS (tT (rS (rF1 (rT rfl) ?_)))))
 exact ⟨rfl, by (unfold absLb; first | rw [if_pos (by omega)] | rw [if_neg (by omega), if_pos (by omega)] | rw [if_neg (by omega), if_neg (by omega)]), rfl⟩
 refine sD (nS (cF rfl ?_))
 refine tK (nS (tS (tR (sQ (pM rfl) rfl (sQ (pA rfl) rfl (sD ?_))))))
 refine nS (tT (rF1 (rT rfl) ?_))
 exact ⟨rfl, by (unfold absLb; first | rw [if_pos (by omega)] | rw [if_neg (by omega), if_pos (by omega)] | rw [if_neg (by omega), if_neg (by omega)]), rfl⟩
theorem tScan_no {k : Int} {ks : List Ty} {d : Int} (h : 4 < d ∨ tyOps k ≠ ks.length) : tScan (.mk k ks) d = false := by
 rw [tScan]
 rcases h with h | h
 ·rw [decide_eq_false (by omega)]; rfl
 ·rw [decide_eq_false (p := tyOps k = ks.length) h, Bool.and_false]; rfl
theorem tScan_go {k : Int} {ks : List Ty} {d : Int} (h : d ≤ 4) (h2 : tyOps k = ks.length) : tScan (.mk k ks) d = tScanL ks (d + 1) := by
 rw [tScan, decide_eq_true h, decide_eq_true h2]; rfl
theorem tScanL_f {ks : List Ty} {d : Int} {i : Nat} (hi : i < ks.length) (h : tScan ks[i] d = false) : tScanL ks d = false := by
 cases hx : tScanL ks d with
 | false => rfl
 | true => rw [(tScanL_iff ks d).1 hx i hi] at h; cases h
theorem l1Shape_fn : ∀ (t : Ty) (d : Int) (G : IM) (cells : List Value), 0 ≤ d ∧ d ≤ 4 → RTy G t cells →
  Fn Tryz.prog 128 [.agg ⟨cells⟩, .int .i64 d] [] G (Val (.bool (tScan t (5 - d))) G) := by
 refine Ty.ind fun k ks ih d G cells hd hr => ?_
 obtain ⟨p, c, es, rfl, hk, hsl, hkl⟩ := hr.open
 simp only [Ty.k, Ty.ks] at hk hsl hkl ⊢
 have hn := hsl.le
 have hk1 := l1Kids_fn k G
 refine fn_enter Tryz.func128 rfl Tryz.ntmps128 Tryz.results128 rfl ?_
 intro w0
 refine tS (tR ?_)
 refine sE (step_box_a rfl rfl) rfl (fun b3 => ?_)
 refine sQ (pA rfl) rfl (sD (nS (tS (tS (tri_draw mixed rfl ?_)))))
 refine any_pure (i := 0) (l' := [tt,ff,ff,ff,ff,ff,ff,ff,ff,ff,ff]) rfl npI (pM rfl) rfl (by kernel_rfl) rfl rfl ?_
 refine any_bool (i := 1) (l' := [tt,tt,ff,ff,ff,ff,ff,ff,ff,ff,ff]) rfl npI (pure_lss rfl rfl) rfl (by kernel_rfl) rfl rfl (fun h11 => ?_) (fun h11 => ?_)
 refine aP 2 rfl (pM rfl) rfl ?_
 refine aK' 3 rfl rfl rfl ?_
 refine aK' 4 rfl rfl rfl ?_
 refine aK' 6 rfl rfl rfl ?_
 refine aK' 7 rfl rfl rfl ?_
 refine aK' 8 rfl rfl rfl ?_
 refine aK' 5 rfl rfl rfl ?_
 refine aK' 9 rfl rfl rfl ?_
 refine aP 10 rfl (pPt rfl rfl) rfl ?_
 refine aD' ?_
 refine nS (cT rfl ?_)
 refine tS (tR (sQ (pA rfl) rfl (sD (nS (tT (rS ?_))))))
 refine rF1 (rT rfl) ?_
 (rw [tScan_no (by omega)]; exact ⟨rfl, rfl, rfl⟩)
 refine aP 2 rfl (pM rfl) rfl ?_
 refine aP 3 rfl (pF0 rfl) rfl ?_
 refine aL 4 rfl (lBs rfl rfl) rfl ?_
 refine aP 6 rfl (pF0 rfl) rfl ?_
 refine aL 7 rfl (lBs rfl rfl) rfl ?_
 refine aP 8 rfl (pLn rfl rfl) rfl ?_
 refine aO' 5 ?_
 refine one_val rfl rfl (hk1) rfl rfl rfl ?_
 refine any_bool (i := 9) (l' := [tt,tt,tt,tt,tt,tt,tt,tt,tt,tt,ff]) rfl npI (pure_neq rfl rfl) rfl (by kernel_rfl) rfl rfl (fun h41 => ?_) (fun h41 => ?_)
 refine aP 10 rfl (pPf rfl rfl) rfl ?_
 refine aD' ?_
 refine nS (cT rfl ?_)
 refine tS (tR (sQ (pA rfl) rfl (sD (nS (tT (rS ?_))))))
 refine rF1 (rT rfl) ?_
 (rw [tScan_no (by omega)]; exact ⟨rfl, rfl, rfl⟩)
 refine aP 10 rfl (pPf rfl rfl) rfl ?_
 refine aD' ?_
 refine nS (cF rfl ?_)
 refine tK (nS (tS (tS (tR (sQ (pA rfl) rfl (sD ?_))))))
 refine nS (tri_block ?_)
 (refine tri_loopN (fun (i : Nat) => ⟨[(5, .int .i64 i), (2, .pointer (some ⟨b3, 0, none⟩)), (1, .int .i64 d)], [.blk b3 [.int .i64 k, .slice p ks.length c]], G⟩) (fun i => i ≤ ks.length ∧ ∀ j (h : j < ks.length), j < i → tScan ks[j] (5 - d + 1) = true) (fun i => ks.length - i) 0 ?_ ?_ ?_)
 exact sMk
 exact ⟨by omega, by omega⟩
 (rintro i ⟨hi, hf⟩)
 refine tS (tS (tR (sQ (pM rfl) rfl (sQ (pF0 rfl) rfl (sL (lBs rfl rfl) rfl rfl ?_)))))
 refine sQ (pLn rfl rfl) rfl (sB (pure_lss rfl rfl) rfl rfl (fun h79 => ?_) (fun h79 => ?_))
 refine sD (nS (cT rfl ?_))
 refine tK (nS (tS (tri_block (tS (tR (sQ (pF0 rfl) rfl ?_))))))
 refine sL (lBs rfl rfl) rfl rfl ?_
 refine sQ (pM rfl) rfl ?_
 (obtain ⟨b, o, p2, c2, rfl, hat, hre, hgb⟩ := hsl.kidTy hkl (i := i) (by omega) (by omega); refine sP (pIN rfl rfl rfl (by omega)) rfl rfl ?_)
 refine sL (load_a rfl rfl (hat _) rfl) rfl rfl ?_
 refine sQ (pM rfl) rfl (sP (pure_sub rfl rfl (by omega) (by omega)) rfl rfl ?_)
 (have hih := ih ks[i] (List.getElem_mem (by omega)) (d - 1) G _ (by omega) hre; rw [show 5 - (d - 1) = 5 - d + 1 by omega] at hih; refine seq_valb rfl hih rfl rfl (fun h96 => ?_) (fun h96 => ?_))
 refine sQ (pNt rfl) rfl (sD (nS (cF rfl ?_)))
 refine tK (nrm_block (nS (tR (sQ (pM rfl) rfl (sP (pure_add rfl rfl (by omega) (by omega)) rfl rfl ?_)))))
 refine sQ (pA rfl) rfl (sD (nrm_loopN (i + 1) ?_ ?_ ?_))
 exact sMk
 exact ⟨by omega, fun j hj hji => by (by_cases he : j = i; (subst he; assumption); exact hf j hj (by omega))⟩
 omega
 refine sQ (pNf rfl) rfl (sD (nS (cT rfl ?_)))
 refine tS (tR (sQ (pA rfl) rfl (sD (nS (tT (rB ?_))))))
 refine rS (ret_loopN (rB (rS (rF1 (rT rfl) ?_))))
 (rw [tScan_go (by omega) (by omega), tScanL_f (i := i) (by omega) (by assumption)]; exact ⟨rfl, rfl, rfl⟩)
 refine sD (nS (cF rfl ?_))
 refine tri_exit ?_
 refine ext_seq ?_
 refine ext_loopN ?_
 refine ext_block_eq ?_
 refine nS (tS (tR (sQ (pA rfl) rfl (sD (nS (tT ?_))))))
 refine rF1 (rT rfl) ?_
 (rw [tScan_go (by omega) (by omega), (tScanL_iff ks _).2 (fun j hj => hf j hj (by omega))]; exact ⟨rfl, rfl, rfl⟩)
theorem sTypeValid_fn (t : Ty) (G : IM) (cells : List Value) (hr : RTy G t cells) : Fn Tryz.prog 97 [.agg ⟨cells⟩] [] G (Val (.bool (tValid t)) G) := by
 have hl := hr.len
 have hv := l1Shape_fn t 4 G cells (by omega) hr
 refine fn_enter Tryz.func97 rfl Tryz.ntmps97 Tryz.results97 rfl ?_
 intro w0
 refine tS (tR ?_)
 refine sE (step_box_a rfl rfl) rfl (fun b3 => ?_)
 refine sQ (pA rfl) rfl (sD (nS (tS (tR (sL (load_a rfl rfl (at_blk_all (by repeat first | exact mH | apply mT)) (by assumption)) rfl rfl ?_)))))
 refine seq_val rfl (hv) rfl rfl ?_
 refine sQ (pA rfl) rfl (sD (nS (tT (rF1 (rT rfl) ?_))))
 exact ⟨rfl, rfl, rfl⟩
theorem tScan_inv {k : Int} {ks : List Ty} {d : Int} (h : tScan (.mk k ks) d = true) : tyOps k = ks.length ∧ ∀ i, (hi : i < ks.length) → tScan ks[i] (d + 1) = true := by
 rw [tScan] at h
 simp only [Bool.and_eq_true, decide_eq_true_eq] at h
 exact ⟨h.1.2, (tScanL_iff ks _).1 h.2⟩
theorem tCons_any {k k' : Int} {ks ks' : List Ty} (h : k = 1 ∨ k' = 1) : tCons (.mk k ks) (.mk k' ks') = true := by
 rw [tCons_mk]
 rcases h with h | h
 ·rw [decide_eq_true (p := k = 1) h]; rfl
 ·rw [decide_eq_true (p := k' = 1) h]; simp
theorem tCons_ne {k k' : Int} {ks ks' : List Ty} (h : k ≠ 1) (h' : k' ≠ 1) (hk : k ≠ k') : tCons (.mk k ks) (.mk k' ks') = false := by
 rw [tCons_mk, decide_eq_false h, decide_eq_false h', decide_eq_false hk]; rfl
theorem tCons_eq {k k' : Int} {ks ks' : List Ty} (h : k ≠ 1) (h' : k' ≠ 1) (hk : k = k') : tCons (.mk k ks) (.mk k' ks') = tConsL ks ks' := by
 rw [tCons_mk, decide_eq_false h, decide_eq_false h', decide_eq_true hk]; rfl
theorem tConsL_f {ks ks' : List Ty} {i : Nat} (hi : i < ks.length) (hi' : i < ks'.length) (h : tCons ks[i] ks'[i] = false) : tConsL ks ks' = false := by
 cases hx : tConsL ks ks' with
 | false => rfl
 | true => rw [((tConsL_iff ks ks').1 hx).2 i hi hi'] at h; cases h
theorem l1Consistent_fn : ∀ (t t' : Ty) (G : IM) (cells cells' : List Value) (d d' : Int), tScan t d = true → tScan t' d' = true → RTy G t cells → RTy G t' cells' →
  Fn Tryz.prog 129 [.agg ⟨cells⟩, .agg ⟨cells'⟩] [] G (Val (.bool (tCons t t')) G) := by
 refine Ty.ind fun k ks ih t' G cells cells' d d' hv hv' hr hr' => ?_
 obtain ⟨k', ks'⟩ := t'
 obtain ⟨p, c, es, rfl, hk, hsl, hkl⟩ := hr.open
 obtain ⟨p', c', es', rfl, hk', hsl', hkl'⟩ := hr'.open
 simp only [Ty.k, Ty.ks] at hk hsl hkl hk' hsl' hkl' ⊢
 have hn := hsl.le
 have hn' := hsl'.le
 obtain ⟨hv1, hv2⟩ := tScan_inv hv
 obtain ⟨hv1', hv2'⟩ := tScan_inv hv'
 have hle : k = k' → ks.length = ks'.length := by rintro rfl; omega
 refine fn_enter Tryz.func129 rfl Tryz.ntmps129 Tryz.results129 rfl ?_
 intro w0
 refine tS (tR ?_)
 refine sE (step_box_a rfl rfl) rfl (fun b3 => ?_)
 refine sE (step_box_a rfl rfl) rfl (fun b4 => ?_)
 refine sQ (pA rfl) rfl (sD (nS (tS (tS (tR (sQ (pF0 rfl) rfl ?_))))))
 refine sL (lBs rfl rfl) rfl rfl ?_
 refine sB (pE rfl rfl) rfl rfl (fun h13 => ?_) (fun h13 => ?_)
 refine sQ (pM rfl) rfl (sK rfl rfl (sK rfl rfl (sK rfl rfl (sQ (pPt rfl rfl) rfl (sD (nS ?_))))))
 refine cT rfl ?_
 refine tS (tR (sQ (pA rfl) rfl (sD (nS (tT (rS ?_))))))
 refine rF1 (rT rfl) ?_
 (rw [tCons_any (by omega)]; exact ⟨rfl, rfl, rfl⟩)
 refine sQ (pM rfl) rfl (sQ (pF0 rfl) rfl (sL (lBs rfl rfl) rfl rfl ?_))
 refine sB (pE rfl rfl) rfl rfl (fun h34 => ?_) (fun h34 => ?_)
 refine sQ (pPf rfl rfl) rfl (sD (nS (cT rfl ?_)))
 refine tS (tR (sQ (pA rfl) rfl (sD (nS (tT (rS ?_))))))
 refine rF1 (rT rfl) ?_
 (rw [tCons_any (by omega)]; exact ⟨rfl, rfl, rfl⟩)
 refine sQ (pPf rfl rfl) rfl (sD (nS (cF rfl ?_)))
 refine tK (nS (tS (tS (tR (sQ (pF0 rfl) rfl (sL (lBs rfl rfl) rfl rfl ?_))))))
 refine sQ (pF0 rfl) rfl (sL (lBs rfl rfl) rfl rfl ?_)
 refine sB (pure_neq rfl rfl) rfl rfl (fun h61 => ?_) (fun h61 => ?_)
 refine sD (nS (cT rfl ?_))
 refine tS (tR (sQ (pA rfl) rfl (sD (nS (tT (rS ?_))))))
 refine rF1 (rT rfl) ?_
 (rw [tCons_ne (by omega) (by omega) (by omega)]; exact ⟨rfl, rfl, rfl⟩)
 refine sD (nS (cF rfl ?_))
 refine tK (nS (tS (tS (tR (sQ (pA rfl) rfl (sD ?_))))))
 refine nS (tri_block ?_)
 (have hll : ks.length = ks'.length := hle (by omega); refine tri_loopN (fun (i : Nat) => ⟨[(5, .int .i64 i), (3, .pointer (some ⟨b4, 0, none⟩)), (2, .pointer (some ⟨b3, 0, none⟩))], [.blk b3 [.int .i64 k, .slice p ks.length c], .blk b4 [.int .i64 k', .slice p' ks'.length c']], G⟩) (fun i => i ≤ ks.length ∧ ∀ j (h : j < ks.length) (h' : j < ks'.length), j < i → tCons ks[j] ks'[j] = true) (fun i => ks.length - i) 0 ?_ ?_ ?_)
 exact sMk
 exact ⟨by omega, by omega⟩
 (rintro i ⟨hi, hf⟩)
 refine tS (tS (tR (sQ (pM rfl) rfl (sQ (pF0 rfl) rfl (sL (lBs rfl rfl) rfl rfl ?_)))))
 refine sQ (pLn rfl rfl) rfl (sB (pure_lss rfl rfl) rfl rfl (fun h97 => ?_) (fun h97 => ?_))
 refine sD (nS (cT rfl ?_))
 refine tK (nS (tS (tri_block (tS ?_))))
 (obtain ⟨b, o, p2, c2, rfl, hat, hre, hgb⟩ := hsl.kidTy hkl (i := i) (by omega) (by omega); obtain ⟨b', o', p2', c2', rfl, hat', hre', hgb'⟩ := hsl'.kidTy hkl' (i := i) (by omega) (by omega); refine tri_draw mixed rfl ?_)
 refine any_pure (i := 0) (l' := [tt,ff,ff,ff,ff,ff,ff,ff,ff,ff,ff,ff]) rfl npI (pF0 rfl) rfl (by kernel_rfl) rfl rfl ?_
 refine aL 1 rfl (lBs rfl rfl) rfl ?_
 refine aP 2 rfl (pM rfl) rfl ?_
 refine aP 3 rfl (pIN rfl rfl rfl (by omega)) rfl ?_
 refine aL 4 rfl (load_a rfl rfl (hat _) rfl) rfl ?_
 refine aP 5 rfl (pF0 rfl) rfl ?_
 refine aL 6 rfl (lBs rfl rfl) rfl ?_
 refine aP 7 rfl (pM rfl) rfl ?_
 refine aP 8 rfl (pIN rfl rfl rfl (by omega)) rfl ?_
 refine aL 9 rfl (load_a rfl rfl (hat' _) rfl) rfl ?_
 refine aO' 10 ?_
 refine one_valb rfl rfl (ih ks[i] (List.getElem_mem (by omega)) ks'[i] G _ _ _ _ (hv2 i (by omega)) (hv2' i (by omega)) hre hre') rfl rfl rfl (fun h118 => ?_) (fun h118 => ?_)
 refine aP 11 rfl (pNt rfl) rfl ?_
 refine aD' ?_
 refine nS (cF rfl ?_)
 refine tK (nrm_block (nS (tR (sQ (pM rfl) rfl (sP (pure_add rfl rfl (by omega) (by omega)) rfl rfl ?_)))))
 refine sQ (pA rfl) rfl (sD (nrm_loopN (i + 1) ?_ ?_ ?_))
 exact sMk
 exact ⟨by omega, fun j hj hj' hji => by (by_cases he : j = i; (subst he; assumption); exact hf j hj hj' (by omega))⟩
 omega
 refine aP 11 rfl (pNf rfl) rfl ?_
 refine aD' ?_
 refine nS (cT rfl ?_)
 refine tS (tR (sQ (pA rfl) rfl (sD (nS (tT (rB ?_))))))
 refine rS (ret_loopN (rB (rS (rF1 (rT rfl) ?_))))
 (rw [tCons_eq (by omega) (by omega) (by omega), tConsL_f (i := i) (by omega) (by omega) (by assumption)]; exact ⟨rfl, rfl, rfl⟩)
 refine sD (nS (cF rfl ?_))
 refine tri_exit ?_
 refine ext_seq ?_
 refine ext_loopN ?_
 refine ext_block_eq ?_
 refine nS (tS (tR (sQ (pA rfl) rfl (sD (nS (tT ?_))))))
 refine rF1 (rT rfl) ?_
 (rw [tCons_eq (by omega) (by omega) (by omega), (tConsL_iff ks _).2 ⟨hll, fun j hj hj' => hf j hj hj' (by omega)⟩]; exact ⟨rfl, rfl, rfl⟩)
section blaws
variable {P : Program} {Γ : Ctx} {env : Env} {hp : List Ent} {G : IM} {ty : TypeId}
theorem pure_bneq_s {x y : Operand} {t t' : TypeId} {i : TyR} [hI : TyI P t i] (hd : i.desc = .bool) {r : Bool} (hx : evo env x = some (.bool r)) (hy : evo env y = some (.bool r)) :
  PureOp P Γ ⟨env, hp, G⟩ (.binOp .neq t x y t') ty (.bool false) := by
 have h := pure_bneq (P := P) (Γ := Γ) (hp := hp) (G := G) (t := t) (t' := t') (ty := ty) hd hx hy
 rwa [decide_eq_false (by simp)] at h
theorem pure_bneq_tf {x y : Operand} {t t' : TypeId} {i : TyR} [hI : TyI P t i] (hd : i.desc = .bool) (hx : evo env x = some (.bool true)) (hy : evo env y = some (.bool false)) :
  PureOp P Γ ⟨env, hp, G⟩ (.binOp .neq t x y t') ty (.bool true) := pure_bneq hd hx hy
theorem pure_bneq_ft {x y : Operand} {t t' : TypeId} {i : TyR} [hI : TyI P t i] (hd : i.desc = .bool) (hx : evo env x = some (.bool false)) (hy : evo env y = some (.bool true)) :
  PureOp P Γ ⟨env, hp, G⟩ (.binOp .neq t x y t') ty (.bool true) := pure_bneq hd hx hy
end blaws
theorem absLb_spec (n : Int) : ((1 ≤ absLb n ∧ absLb n ≤ 99) ↔ labelOk n = true) := by
 unfold absLb labelOk withinB
 simp only [Bool.or_eq_true, decide_eq_true_eq]
 split
 ·omega
 ·split <;> omega
theorem l4Own_fn (k : Int) (nm : ByteArray) (num : Int) (ty fr : Ty) (lb : Int) (ks : List Tm) (G : IM) (cells : List Value) (hr : RTm G (.mk k nm num ty fr lb ks) cells) (R : Bool)
  (hi : R = true ↔ nm = ⟨#[]⟩ ∧ num = 0 ∧ (1 ≤ absLb lb ∧ absLb lb ≤ 99) ∧ tValid ty = true ∧ tValid fr = true ∧ tCons fr ty = true) :
  Fn Tryz.prog 145 [.agg ⟨cells⟩] [] G (Val (.bool R) G) := by
 obtain ⟨tk, tks⟩ := ty
 obtain ⟨fk, fks⟩ := fr
 obtain ⟨pt, ct, pf, cf, p, c, es, rfl, hk, hnum, hlb, hty, hfr, hsl, hkl⟩ := hr.open9
 clear hr
 have o3 := sTypeValid_fn _ G _ hty
 have o4 := sTypeValid_fn _ G _ hfr
 have o6 := l1Abs_fn lb G
 refine fn_enter Tryz.func145 rfl Tryz.ntmps145 Tryz.results145 rfl ?_
 intro w0
 refine tS (tR ?_)
 refine sE (step_box_a rfl rfl) rfl (fun b3 => ?_)
 refine sQ (pA rfl) rfl (sD (nS (tS (tR (sQ (pF0 rfl) rfl (sL (lBs rfl rfl) rfl rfl ?_))))))
 refine seq_val rfl (o6) rfl rfl ?_
 refine sQ (pA rfl) rfl (sD (nS (tS (tR (sQ (pF0 rfl) rfl (sL (lBs rfl rfl) rfl rfl ?_))))))
 refine sB (pure_seql rfl rfl) rfl rfl (fun h19 => ?_) (fun h19 => ?_)
 refine sQ (pM rfl) rfl (sQ (pF0 rfl) rfl (sL (lBs rfl rfl) rfl rfl ?_))
 refine sB (pE rfl rfl) rfl rfl (fun h23 => ?_) (fun h23 => ?_)
 refine sQ (pPt rfl rfl) rfl (sQ (pM rfl) rfl (sQ (pM rfl) rfl (sB (pure_geq rfl rfl) rfl rfl (fun h27 => ?_) (fun h27 => ?_))))
 refine sQ (pPt rfl rfl) rfl (sQ (pM rfl) rfl (sQ (pM rfl) rfl (sB (pure_leq rfl rfl) rfl rfl (fun h31 => ?_) (fun h31 => ?_))))
 refine sQ (pPt rfl rfl) rfl (sQ (pM rfl) rfl (sQ (pF0 rfl) rfl (sL (lBa rfl rfl) rfl rfl ?_)))
 refine seq_valb rfl (o3) rfl rfl (fun h36 => ?_) (fun h36 => ?_)
 refine sQ (pPt rfl rfl) rfl (sQ (pM rfl) rfl (sQ (pF0 rfl) rfl (sL (lBa rfl rfl) rfl rfl ?_)))
 refine seq_valb rfl (o4) rfl rfl (fun h41 => ?_) (fun h41 => ?_)
 refine sQ (pPt rfl rfl) rfl (sQ (pM rfl) rfl (sQ (pF0 rfl) rfl (sL (lBa rfl rfl) rfl rfl ?_)))
 refine sQ (pF0 rfl) rfl (sL (lBa rfl rfl) rfl rfl ?_)
 refine seq_valb rfl (l1Consistent_fn _ _ G _ _ _ _ (by assumption) (by assumption) hfr hty) rfl rfl (fun h48 => ?_) (fun h48 => ?_)
 refine sQ (pPt rfl rfl) rfl (sQ (pA rfl) rfl (sD (nS (tT (rF1 (rT rfl) ?_)))))
 exact ⟨rfl, by rw [hi.2 ⟨by (first | assumption | exact Classical.not_not.1 (by assumption)), by omega, by omega, by assumption, by assumption, by assumption⟩], rfl⟩
 refine sQ (pPt rfl rfl) rfl (sQ (pA rfl) rfl (sD (nS (tT (rF1 (rT rfl) ?_)))))
 exact ⟨rfl, by (cases R with | false => rfl | true => (exfalso; obtain ⟨i1, i2, i3, i4, i5, i6⟩ := hi.1 rfl; first | omega | (simp_all; done))), rfl⟩
 refine sQ (pPt rfl rfl) rfl (sQ (pM rfl) rfl (sK rfl rfl (sK rfl rfl (sK rfl rfl (sK rfl rfl (sK rfl rfl ?_))))))
 refine sQ (pPf rfl rfl) rfl (sQ (pA rfl) rfl (sD (nS (tT (rF1 (rT rfl) ?_)))))
 exact ⟨rfl, by (cases R with | false => rfl | true => (exfalso; obtain ⟨i1, i2, i3, i4, i5, i6⟩ := hi.1 rfl; first | omega | (simp_all; done))), rfl⟩
 refine sQ (pPt rfl rfl) rfl (sQ (pM rfl) rfl (sK rfl rfl (sK rfl rfl (sK rfl rfl (sQ (pPf rfl rfl) rfl (sQ (pM rfl) rfl ?_))))))
 refine sK rfl rfl (sK rfl rfl (sK rfl rfl (sK rfl rfl (sK rfl rfl (sQ (pPf rfl rfl) rfl (sQ (pA rfl) rfl ?_))))))
 refine sD (nS (tT (rF1 (rT rfl) ?_)))
 exact ⟨rfl, by (cases R with | false => rfl | true => (exfalso; obtain ⟨i1, i2, i3, i4, i5, i6⟩ := hi.1 rfl; first | omega | (simp_all; done))), rfl⟩
 refine sQ (pPt rfl rfl) rfl (sQ (pM rfl) rfl (sK rfl rfl (sK rfl rfl (sK rfl rfl (sQ (pPf rfl rfl) rfl (sQ (pM rfl) rfl ?_))))))
 refine sK rfl rfl (sK rfl rfl (sK rfl rfl (sQ (pPf rfl rfl) rfl (sQ (pM rfl) rfl (sK rfl rfl (sK rfl rfl ?_))))))
 refine sK rfl rfl (sK rfl rfl (sK rfl rfl (sQ (pPf rfl rfl) rfl (sQ (pA rfl) rfl (sD (nS ?_))))))
 refine tT (rF1 (rT rfl) ?_)
 exact ⟨rfl, by (cases R with | false => rfl | true => (exfalso; obtain ⟨i1, i2, i3, i4, i5, i6⟩ := hi.1 rfl; first | omega | (simp_all; done))), rfl⟩
 refine sQ (pPt rfl rfl) rfl (sQ (pM rfl) rfl (sK rfl rfl (sK rfl rfl (sQ (pPf rfl rfl) rfl (sQ (pM rfl) rfl (sK rfl rfl ?_))))))
 refine sK rfl rfl (sK rfl rfl (sQ (pPf rfl rfl) rfl (sQ (pM rfl) rfl (sK rfl rfl (sK rfl rfl (sK rfl rfl ?_))))))
 refine sQ (pPf rfl rfl) rfl (sQ (pM rfl) rfl (sK rfl rfl (sK rfl rfl (sK rfl rfl (sK rfl rfl (sK rfl rfl ?_))))))
 refine sQ (pPf rfl rfl) rfl (sQ (pA rfl) rfl (sD (nS (tT (rF1 (rT rfl) ?_)))))
 exact ⟨rfl, by (cases R with | false => rfl | true => (exfalso; obtain ⟨i1, i2, i3, i4, i5, i6⟩ := hi.1 rfl; first | omega | (simp_all; done))), rfl⟩
 refine sQ (pPt rfl rfl) rfl (sQ (pM rfl) rfl (sK rfl rfl (sK rfl rfl (sQ (pPf rfl rfl) rfl (sQ (pM rfl) rfl (sK rfl rfl ?_))))))
 refine sK rfl rfl (sQ (pPf rfl rfl) rfl (sQ (pM rfl) rfl (sK rfl rfl (sK rfl rfl (sK rfl rfl (sQ (pPf rfl rfl) rfl ?_))))))
 refine sQ (pM rfl) rfl (sK rfl rfl (sK rfl rfl (sK rfl rfl (sQ (pPf rfl rfl) rfl (sQ (pM rfl) rfl (sK rfl rfl ?_))))))
 refine sK rfl rfl (sK rfl rfl (sK rfl rfl (sK rfl rfl (sQ (pPf rfl rfl) rfl (sQ (pA rfl) rfl (sD ?_))))))
 refine nS (tT (rF1 (rT rfl) ?_))
 exact ⟨rfl, by (cases R with | false => rfl | true => (exfalso; obtain ⟨i1, i2, i3, i4, i5, i6⟩ := hi.1 rfl; first | omega | (simp_all; done))), rfl⟩
 refine sQ (pM rfl) rfl (sK rfl rfl (sK rfl rfl (sK rfl rfl (sQ (pPf rfl rfl) rfl (sQ (pM rfl) rfl (sK rfl rfl ?_))))))
 refine sK rfl rfl (sQ (pPf rfl rfl) rfl (sQ (pM rfl) rfl (sK rfl rfl (sK rfl rfl (sQ (pPf rfl rfl) rfl (sQ (pM rfl) rfl ?_))))))
 refine sK rfl rfl (sK rfl rfl (sK rfl rfl (sQ (pPf rfl rfl) rfl (sQ (pM rfl) rfl (sK rfl rfl (sK rfl rfl ?_))))))
 refine sK rfl rfl (sQ (pPf rfl rfl) rfl (sQ (pM rfl) rfl (sK rfl rfl (sK rfl rfl (sK rfl rfl (sK rfl rfl ?_))))))
 refine sK rfl rfl (sQ (pPf rfl rfl) rfl (sQ (pA rfl) rfl (sD (nS (tT (rF1 (rT rfl) ?_))))))
 exact ⟨rfl, by (cases R with | false => rfl | true => (exfalso; obtain ⟨i1, i2, i3, i4, i5, i6⟩ := hi.1 rfl; first | omega | (simp_all; done))), rfl⟩
theorem l2Own_fn (k : Int) (nm : ByteArray) (num : Int) (ty fr : Ty) (lb : Int) (ks : List Tm) (G : IM) (cells : List Value) (hr : RTm G (.mk k nm num ty fr lb ks) cells) (R : Bool)
  (hi : R = true ↔ (k = 1 ∨ k = 5 → nameOk nm = true) ∧ (¬(k = 1 ∨ k = 5) → nm = ⟨#[]⟩) ∧ (k = 5 ∨ k = 13 ∨ k = 14 → tValid ty = true) ∧ (¬(k = 5 ∨ k = 13 ∨ k = 14) → tNone ty = true) ∧ (k ≠ 14 → tNone fr = true ∧ lb = 0) ∧ (k = 2 → 0 ≤ num ∧ num ≤ 999) ∧ (k ≠ 2 → num = 0)) :
  Fn Tryz.prog 104 [.agg ⟨cells⟩] [] G (Val (.bool R) G) := by
 have he : nm = ⟨#[]⟩ → nameOk nm = false := by rintro rfl; rfl
 obtain ⟨tk, tks⟩ := ty
 obtain ⟨fk, fks⟩ := fr
 obtain ⟨pt, ct, pf, cf, p, c, es, rfl, hk, hnum, hlb, hty, hfr, hsl, hkl⟩ := hr.open9
 clear hr
 have o2 := l2Name_fn nm G
 have o3 := sTypeValid_fn _ G _ hty
 have o4 := l2None_fn _ G _ hty
 have o7 := l2None_fn _ G _ hfr
 refine fn_enter Tryz.func104 rfl Tryz.ntmps104 Tryz.results104 rfl ?_
 intro w0
 refine tS (tR ?_)
 refine sE (step_box_a rfl rfl) rfl (fun b3 => ?_)
 refine sQ (pA rfl) rfl (sD (nS (tS (tR (sQ (pF0 rfl) rfl (sL (lBs rfl rfl) rfl rfl ?_))))))
 refine sB (pE rfl rfl) rfl rfl (fun h11 => ?_) (fun h11 => ?_)
 refine sQ (pM rfl) rfl (sK rfl rfl (sK rfl rfl (sK rfl rfl (sQ (pPt rfl rfl) rfl (sQ (pA rfl) rfl (sD ?_))))))
 refine nS (tS (tR (sQ (pF0 rfl) rfl (sL (lBs rfl rfl) rfl rfl ?_))))
 refine sP (pure_eql_f rfl rfl (by omega)) rfl rfl ?_
 refine sQ (pM rfl) rfl (sQ (pF0 rfl) rfl (sL (lBs rfl rfl) rfl rfl ?_))
 refine sP (pure_eql_f rfl rfl (by omega)) rfl rfl ?_
 refine sQ (pPf rfl rfl) rfl (sQ (pM rfl) rfl (sQ (pF0 rfl) rfl (sL (lBs rfl rfl) rfl rfl ?_)))
 refine sP (pure_eql_f rfl rfl (by omega)) rfl rfl ?_
 refine sQ (pPf rfl rfl) rfl (sQ (pA rfl) rfl (sD (nS (tS (tS (tR ?_))))))
 refine sQ (pM rfl) rfl (sQ (pF0 rfl) rfl (sL (lBs rfl rfl) rfl rfl ?_))
 refine seq_valb rfl (o2) rfl rfl (fun h44 => ?_) (fun h44 => ?_)
 refine sQ (pure_bneq_s rfl rfl rfl) rfl (sQ (pM rfl) rfl (sQ (pM rfl) rfl (sQ (pNt rfl) rfl (sQ (pM rfl) rfl (sK rfl rfl (sK rfl rfl ?_))))))
 refine sK rfl rfl (sQ (pPf rfl rfl) rfl (sQ (pPf rfl rfl) rfl (sQ (pM rfl) rfl (sQ (pM rfl) rfl (sQ (pM rfl) rfl (sK rfl rfl ?_))))))
 refine sK rfl rfl (sK rfl rfl (sK rfl rfl (sQ (pPf rfl rfl) rfl (sQ (pPf rfl rfl) rfl (sQ (pM rfl) rfl (sQ (pM rfl) rfl ?_))))))
 refine sQ (pNf rfl) rfl (sQ (pM rfl) rfl (sQ (pF0 rfl) rfl (sL (lBa rfl rfl) rfl rfl ?_)))
 refine seq_valb rfl (o4) rfl rfl (fun h70 => ?_) (fun h70 => ?_)
 refine sQ (pNt rfl) rfl (sQ (pPt rfl rfl) rfl (sQ (pPf rfl rfl) rfl (sD (nS (cF rfl ?_)))))
 refine tK (nS (tS (tS (tR (sQ (pF0 rfl) rfl (sL (lBs rfl rfl) rfl rfl ?_))))))
 refine sP (pure_neq_t rfl rfl (by omega)) rfl rfl ?_
 refine sQ (pM rfl) rfl (sQ (pF0 rfl) rfl (sL (lBa rfl rfl) rfl rfl ?_))
 refine seq_valb rfl (o7) rfl rfl (fun h88 => ?_) (fun h88 => ?_)
 refine sQ (pNt rfl) rfl (sQ (pM rfl) rfl (sQ (pF0 rfl) rfl (sL (lBs rfl rfl) rfl rfl ?_)))
 refine sB (pure_neq rfl rfl) rfl rfl (fun h93 => ?_) (fun h93 => ?_)
 refine sQ (pPf rfl rfl) rfl (sQ (pPt rfl rfl) rfl (sD (nS (cT rfl ?_))))
 refine tS (tR (sQ (pA rfl) rfl (sD (nS (tT (rS ?_))))))
 refine rF1 (rT rfl) ?_
 exact ⟨rfl, by (cases R with | false => rfl | true => (exfalso; obtain ⟨i1, i2, i3, i4, i5, i6, i7⟩ := hi.1 rfl; first | omega | (have j := i1 (by omega); simp_all; done) | (have j := he (i2 (by omega)); simp_all; done) | (have j := i2 (by omega); simp_all; done) | (have j := i3 (by omega); simp_all; done) | (have j := i4 (by omega); simp_all; done) | (have j := i5 (by omega); simp_all; done))), rfl⟩
 refine sQ (pPf rfl rfl) rfl (sQ (pPt rfl rfl) rfl (sD (nS (cF rfl ?_))))
 refine tK (nS (tS (tS (tR (sQ (pF0 rfl) rfl (sL (lBs rfl rfl) rfl rfl ?_))))))
 refine sP (pure_eql_f rfl rfl (by omega)) rfl rfl ?_
 refine sD (nS (cF rfl ?_))
 refine tK (nS (tS (tR (sQ (pF0 rfl) rfl (sL (lBs rfl rfl) rfl rfl ?_)))))
 refine sB (pE rfl rfl) rfl rfl (fun h130 => ?_) (fun h130 => ?_)
 refine sQ (pA rfl) rfl (sD (nS (tT (rF1 (rT rfl) ?_))))
 exact ⟨rfl, by rw [hi.2 ⟨fun _ => by (first | assumption | (exfalso; omega)), fun _ => by (first | assumption | (exfalso; omega) | exact Classical.not_not.1 (by assumption)), fun _ => by (first | assumption | (exfalso; omega)), fun _ => by (first | assumption | (exfalso; omega)), fun _ => ⟨by (first | assumption | (exfalso; omega)), by (first | assumption | omega)⟩, by omega, by omega⟩], rfl⟩
 refine sQ (pA rfl) rfl (sD (nS (tT (rF1 (rT rfl) ?_))))
 exact ⟨rfl, by (cases R with | false => rfl | true => (exfalso; obtain ⟨i1, i2, i3, i4, i5, i6, i7⟩ := hi.1 rfl; first | omega | (have j := i1 (by omega); simp_all; done) | (have j := he (i2 (by omega)); simp_all; done) | (have j := i2 (by omega); simp_all; done) | (have j := i3 (by omega); simp_all; done) | (have j := i4 (by omega); simp_all; done) | (have j := i5 (by omega); simp_all; done))), rfl⟩
 refine sQ (pNf rfl) rfl (sQ (pM rfl) rfl (sK rfl rfl (sK rfl rfl (sK rfl rfl (sQ (pPt rfl rfl) rfl (sQ (pPt rfl rfl) rfl ?_))))))
 refine sD (nS (cT rfl ?_))
 refine tS (tR (sQ (pA rfl) rfl (sD (nS (tT (rS ?_))))))
 refine rF1 (rT rfl) ?_
 exact ⟨rfl, by (cases R with | false => rfl | true => (exfalso; obtain ⟨i1, i2, i3, i4, i5, i6, i7⟩ := hi.1 rfl; first | omega | (have j := i1 (by omega); simp_all; done) | (have j := he (i2 (by omega)); simp_all; done) | (have j := i2 (by omega); simp_all; done) | (have j := i3 (by omega); simp_all; done) | (have j := i4 (by omega); simp_all; done) | (have j := i5 (by omega); simp_all; done))), rfl⟩
 refine sQ (pNf rfl) rfl (sQ (pPt rfl rfl) rfl (sQ (pPf rfl rfl) rfl (sD (nS (cT rfl ?_)))))
 refine tS (tR (sQ (pA rfl) rfl (sD (nS (tT (rS ?_))))))
 refine rF1 (rT rfl) ?_
 exact ⟨rfl, by (cases R with | false => rfl | true => (exfalso; obtain ⟨i1, i2, i3, i4, i5, i6, i7⟩ := hi.1 rfl; first | omega | (have j := i1 (by omega); simp_all; done) | (have j := he (i2 (by omega)); simp_all; done) | (have j := i2 (by omega); simp_all; done) | (have j := i3 (by omega); simp_all; done) | (have j := i4 (by omega); simp_all; done) | (have j := i5 (by omega); simp_all; done))), rfl⟩
 refine sQ (pure_bneq_tf rfl rfl rfl) rfl (sQ (pM rfl) rfl (sK rfl rfl (sK rfl rfl (sK rfl rfl (sK rfl rfl (sK rfl rfl ?_))))))
 refine sK rfl rfl (sK rfl rfl (sQ (pPt rfl rfl) rfl (sQ (pM rfl) rfl (sK rfl rfl (sK rfl rfl (sK rfl rfl ?_))))))
 refine sK rfl rfl (sK rfl rfl (sK rfl rfl (sK rfl rfl (sQ (pPt rfl rfl) rfl (sQ (pM rfl) rfl (sK rfl rfl ?_))))))
 refine sK rfl rfl (sK rfl rfl (sK rfl rfl (sK rfl rfl (sK rfl rfl (sK rfl rfl (sK rfl rfl ?_))))))
 refine sQ (pPt rfl rfl) rfl (sD (nS (cT rfl ?_)))
 refine tS (tR (sQ (pA rfl) rfl (sD (nS (tT (rS ?_))))))
 refine rF1 (rT rfl) ?_
 exact ⟨rfl, by (cases R with | false => rfl | true => (exfalso; obtain ⟨i1, i2, i3, i4, i5, i6, i7⟩ := hi.1 rfl; first | omega | (have j := i1 (by omega); simp_all; done) | (have j := he (i2 (by omega)); simp_all; done) | (have j := i2 (by omega); simp_all; done) | (have j := i3 (by omega); simp_all; done) | (have j := i4 (by omega); simp_all; done) | (have j := i5 (by omega); simp_all; done))), rfl⟩
 refine sQ (pM rfl) rfl (sQ (pF0 rfl) rfl (sL (lBs rfl rfl) rfl rfl ?_))
 refine sB (pE rfl rfl) rfl rfl (fun h221 => ?_) (fun h221 => ?_)
 refine sQ (pPf rfl rfl) rfl (sQ (pA rfl) rfl (sD (nS (tS (tR (sQ (pF0 rfl) rfl ?_))))))
 refine sL (lBs rfl rfl) rfl rfl ?_
 refine sP (pure_eql_t rfl rfl (by omega)) rfl rfl ?_
 refine sQ (pM rfl) rfl (sK rfl rfl (sK rfl rfl (sK rfl rfl (sQ (pPt rfl rfl) rfl (sQ (pM rfl) rfl (sK rfl rfl ?_))))))
 refine sK rfl rfl (sK rfl rfl (sQ (pPt rfl rfl) rfl (sQ (pA rfl) rfl (sD (nS (tS ?_))))))
 refine tS (tR (sQ (pM rfl) rfl (sQ (pF0 rfl) rfl (sL (lBs rfl rfl) rfl rfl ?_))))
 refine seq_valb rfl (o2) rfl rfl (fun h250 => ?_) (fun h250 => ?_)
 refine sQ (pure_bneq_s rfl rfl rfl) rfl (sQ (pM rfl) rfl (sQ (pM rfl) rfl (sQ (pNt rfl) rfl (sQ (pM rfl) rfl (sK rfl rfl (sK rfl rfl ?_))))))
 refine sK rfl rfl (sQ (pPf rfl rfl) rfl (sQ (pPf rfl rfl) rfl (sQ (pM rfl) rfl (sQ (pM rfl) rfl (sQ (pM rfl) rfl (sQ (pF0 rfl) rfl ?_))))))
 refine sL (lBa rfl rfl) rfl rfl ?_
 refine seq_valb rfl (o3) rfl rfl (fun h266 => ?_) (fun h266 => ?_)
 refine sQ (pNt rfl) rfl (sQ (pPt rfl rfl) rfl (sQ (pPf rfl rfl) rfl (sQ (pM rfl) rfl (sQ (pM rfl) rfl (sQ (pNt rfl) rfl (sQ (pM rfl) rfl ?_))))))
 refine sK rfl rfl (sK rfl rfl (sK rfl rfl (sK rfl rfl (sQ (pPf rfl rfl) rfl (sQ (pPf rfl rfl) rfl (sD ?_))))))
 refine nS (cF rfl ?_)
 refine tK (nS (tS (tS (tR (sQ (pF0 rfl) rfl (sL (lBs rfl rfl) rfl rfl ?_))))))
 refine sP (pure_neq_t rfl rfl (by omega)) rfl rfl ?_
 refine sQ (pM rfl) rfl (sQ (pF0 rfl) rfl (sL (lBa rfl rfl) rfl rfl ?_))
 refine seq_valb rfl (o7) rfl rfl (fun h294 => ?_) (fun h294 => ?_)
 refine sQ (pNt rfl) rfl (sQ (pM rfl) rfl (sQ (pF0 rfl) rfl (sL (lBs rfl rfl) rfl rfl ?_)))
 refine sB (pure_neq rfl rfl) rfl rfl (fun h299 => ?_) (fun h299 => ?_)
 refine sQ (pPf rfl rfl) rfl (sQ (pPt rfl rfl) rfl (sD (nS (cT rfl ?_))))
 refine tS (tR (sQ (pA rfl) rfl (sD (nS (tT (rS ?_))))))
 refine rF1 (rT rfl) ?_
 exact ⟨rfl, by (cases R with | false => rfl | true => (exfalso; obtain ⟨i1, i2, i3, i4, i5, i6, i7⟩ := hi.1 rfl; first | omega | (have j := i1 (by omega); simp_all; done) | (have j := he (i2 (by omega)); simp_all; done) | (have j := i2 (by omega); simp_all; done) | (have j := i3 (by omega); simp_all; done) | (have j := i4 (by omega); simp_all; done) | (have j := i5 (by omega); simp_all; done))), rfl⟩
 refine sQ (pPf rfl rfl) rfl (sQ (pPt rfl rfl) rfl (sD (nS (cF rfl ?_))))
 refine tK (nS (tS (tS (tR (sQ (pF0 rfl) rfl (sL (lBs rfl rfl) rfl rfl ?_))))))
 refine sP (pure_eql_f rfl rfl (by omega)) rfl rfl ?_
 refine sD (nS (cF rfl ?_))
 refine tK (nS (tS (tR (sQ (pF0 rfl) rfl (sL (lBs rfl rfl) rfl rfl ?_)))))
 refine sB (pE rfl rfl) rfl rfl (fun h336 => ?_) (fun h336 => ?_)
 refine sQ (pA rfl) rfl (sD (nS (tT (rF1 (rT rfl) ?_))))
 exact ⟨rfl, by rw [hi.2 ⟨fun _ => by (first | assumption | (exfalso; omega)), fun _ => by (first | assumption | (exfalso; omega) | exact Classical.not_not.1 (by assumption)), fun _ => by (first | assumption | (exfalso; omega)), fun _ => by (first | assumption | (exfalso; omega)), fun _ => ⟨by (first | assumption | (exfalso; omega)), by (first | assumption | omega)⟩, by omega, by omega⟩], rfl⟩
 refine sQ (pA rfl) rfl (sD (nS (tT (rF1 (rT rfl) ?_))))
 exact ⟨rfl, by (cases R with | false => rfl | true => (exfalso; obtain ⟨i1, i2, i3, i4, i5, i6, i7⟩ := hi.1 rfl; first | omega | (have j := i1 (by omega); simp_all; done) | (have j := he (i2 (by omega)); simp_all; done) | (have j := i2 (by omega); simp_all; done) | (have j := i3 (by omega); simp_all; done) | (have j := i4 (by omega); simp_all; done) | (have j := i5 (by omega); simp_all; done))), rfl⟩
 refine sQ (pNf rfl) rfl (sQ (pM rfl) rfl (sK rfl rfl (sK rfl rfl (sK rfl rfl (sQ (pPt rfl rfl) rfl (sQ (pPt rfl rfl) rfl ?_))))))
 refine sD (nS (cT rfl ?_))
 refine tS (tR (sQ (pA rfl) rfl (sD (nS (tT (rS ?_))))))
 refine rF1 (rT rfl) ?_
 exact ⟨rfl, by (cases R with | false => rfl | true => (exfalso; obtain ⟨i1, i2, i3, i4, i5, i6, i7⟩ := hi.1 rfl; first | omega | (have j := i1 (by omega); simp_all; done) | (have j := he (i2 (by omega)); simp_all; done) | (have j := i2 (by omega); simp_all; done) | (have j := i3 (by omega); simp_all; done) | (have j := i4 (by omega); simp_all; done) | (have j := i5 (by omega); simp_all; done))), rfl⟩
 refine sQ (pNf rfl) rfl (sQ (pPt rfl rfl) rfl (sQ (pPf rfl rfl) rfl (sQ (pM rfl) rfl (sK rfl rfl (sK rfl rfl (sK rfl rfl ?_))))))
 refine sK rfl rfl (sK rfl rfl (sK rfl rfl (sK rfl rfl (sK rfl rfl (sQ (pPt rfl rfl) rfl (sD ?_))))))
 refine nS (cT rfl ?_)
 refine tS (tR (sQ (pA rfl) rfl (sD (nS (tT (rS ?_))))))
 refine rF1 (rT rfl) ?_
 exact ⟨rfl, by (cases R with | false => rfl | true => (exfalso; obtain ⟨i1, i2, i3, i4, i5, i6, i7⟩ := hi.1 rfl; first | omega | (have j := i1 (by omega); simp_all; done) | (have j := he (i2 (by omega)); simp_all; done) | (have j := i2 (by omega); simp_all; done) | (have j := i3 (by omega); simp_all; done) | (have j := i4 (by omega); simp_all; done) | (have j := i5 (by omega); simp_all; done))), rfl⟩
 refine sQ (pure_bneq_tf rfl rfl rfl) rfl (sQ (pM rfl) rfl (sK rfl rfl (sK rfl rfl (sK rfl rfl (sK rfl rfl (sK rfl rfl ?_))))))
 refine sK rfl rfl (sK rfl rfl (sQ (pPt rfl rfl) rfl (sQ (pM rfl) rfl (sK rfl rfl (sK rfl rfl (sK rfl rfl ?_))))))
 refine sK rfl rfl (sK rfl rfl (sK rfl rfl (sK rfl rfl (sQ (pPt rfl rfl) rfl (sQ (pM rfl) rfl (sK rfl rfl ?_))))))
 refine sK rfl rfl (sK rfl rfl (sK rfl rfl (sK rfl rfl (sK rfl rfl (sK rfl rfl (sK rfl rfl ?_))))))
 refine sQ (pPt rfl rfl) rfl (sD (nS (cT rfl ?_)))
 refine tS (tR (sQ (pA rfl) rfl (sD (nS (tT (rS ?_))))))
 refine rF1 (rT rfl) ?_
 exact ⟨rfl, by (cases R with | false => rfl | true => (exfalso; obtain ⟨i1, i2, i3, i4, i5, i6, i7⟩ := hi.1 rfl; first | omega | (have j := i1 (by omega); simp_all; done) | (have j := he (i2 (by omega)); simp_all; done) | (have j := i2 (by omega); simp_all; done) | (have j := i3 (by omega); simp_all; done) | (have j := i4 (by omega); simp_all; done) | (have j := i5 (by omega); simp_all; done))), rfl⟩
 refine sQ (pPf rfl rfl) rfl (sQ (pA rfl) rfl (sD (nS (tS (tR (sQ (pF0 rfl) rfl ?_))))))
 refine sL (lBs rfl rfl) rfl rfl ?_
 refine sP (pure_eql_f rfl rfl (by omega)) rfl rfl ?_
 refine sQ (pM rfl) rfl (sQ (pF0 rfl) rfl (sL (lBs rfl rfl) rfl rfl ?_))
 refine sB (pE rfl rfl) rfl rfl (fun h446 => ?_) (fun h446 => ?_)
 refine sQ (pPf rfl rfl) rfl (sQ (pM rfl) rfl (sK rfl rfl (sK rfl rfl (sK rfl rfl (sQ (pPt rfl rfl) rfl (sQ (pA rfl) rfl ?_))))))
 refine sD (nS (tS (tS (tR (sQ (pM rfl) rfl (sQ (pF0 rfl) rfl ?_))))))
 refine sL (lBs rfl rfl) rfl rfl ?_
 refine seq_valb rfl (o2) rfl rfl (fun h462 => ?_) (fun h462 => ?_)
 refine sQ (pure_bneq_ft rfl rfl rfl) rfl (sQ (pM rfl) rfl (sK rfl rfl (sK rfl rfl (sK rfl rfl (sK rfl rfl (sK rfl rfl ?_))))))
 refine sK rfl rfl (sK rfl rfl (sQ (pPt rfl rfl) rfl (sQ (pM rfl) rfl (sK rfl rfl (sK rfl rfl (sK rfl rfl ?_))))))
 refine sK rfl rfl (sK rfl rfl (sK rfl rfl (sK rfl rfl (sQ (pPt rfl rfl) rfl (sQ (pM rfl) rfl (sK rfl rfl ?_))))))
 refine sK rfl rfl (sK rfl rfl (sK rfl rfl (sK rfl rfl (sK rfl rfl (sK rfl rfl (sK rfl rfl ?_))))))
 refine sQ (pPt rfl rfl) rfl (sD (nS (cT rfl ?_)))
 refine tS (tR (sQ (pA rfl) rfl (sD (nS (tT (rS ?_))))))
 refine rF1 (rT rfl) ?_
 exact ⟨rfl, by (cases R with | false => rfl | true => (exfalso; obtain ⟨i1, i2, i3, i4, i5, i6, i7⟩ := hi.1 rfl; first | omega | (have j := i1 (by omega); simp_all; done) | (have j := he (i2 (by omega)); simp_all; done) | (have j := i2 (by omega); simp_all; done) | (have j := i3 (by omega); simp_all; done) | (have j := i4 (by omega); simp_all; done) | (have j := i5 (by omega); simp_all; done))), rfl⟩
 refine sQ (pure_bneq_s rfl rfl rfl) rfl (sQ (pM rfl) rfl (sQ (pM rfl) rfl (sQ (pNf rfl) rfl (sQ (pM rfl) rfl (sQ (pF0 rfl) rfl (sL (lBs rfl rfl) rfl rfl ?_))))))
 refine sB (pure_sneq rfl rfl) rfl rfl (fun h511 => ?_) (fun h511 => ?_)
 refine sQ (pPt rfl rfl) rfl (sQ (pPf rfl rfl) rfl (sQ (pM rfl) rfl (sK rfl rfl (sK rfl rfl (sK rfl rfl (sK rfl rfl ?_))))))
 refine sK rfl rfl (sK rfl rfl (sK rfl rfl (sQ (pPt rfl rfl) rfl (sQ (pM rfl) rfl (sK rfl rfl (sK rfl rfl ?_))))))
 refine sK rfl rfl (sK rfl rfl (sK rfl rfl (sK rfl rfl (sK rfl rfl (sK rfl rfl (sQ (pPt rfl rfl) rfl ?_))))))
 refine sD (nS (cT rfl ?_))
 refine tS (tR (sQ (pA rfl) rfl (sD (nS (tT (rS ?_))))))
 refine rF1 (rT rfl) ?_
 exact ⟨rfl, by (cases R with | false => rfl | true => (exfalso; obtain ⟨i1, i2, i3, i4, i5, i6, i7⟩ := hi.1 rfl; first | omega | (have j := i1 (by omega); simp_all; done) | (have j := he (i2 (by omega)); simp_all; done) | (have j := i2 (by omega); simp_all; done) | (have j := i3 (by omega); simp_all; done) | (have j := i4 (by omega); simp_all; done) | (have j := i5 (by omega); simp_all; done))), rfl⟩
 refine sQ (pPt rfl rfl) rfl (sQ (pPf rfl rfl) rfl (sQ (pM rfl) rfl (sQ (pM rfl) rfl (sQ (pM rfl) rfl (sQ (pF0 rfl) rfl (sL (lBa rfl rfl) rfl rfl ?_))))))
 refine seq_valb rfl (o3) rfl rfl (fun h552 => ?_) (fun h552 => ?_)
 refine sQ (pNt rfl) rfl (sQ (pPt rfl rfl) rfl (sQ (pPf rfl rfl) rfl (sQ (pM rfl) rfl (sQ (pM rfl) rfl (sQ (pNt rfl) rfl (sQ (pM rfl) rfl ?_))))))
 refine sK rfl rfl (sK rfl rfl (sK rfl rfl (sK rfl rfl (sQ (pPf rfl rfl) rfl (sQ (pPf rfl rfl) rfl (sD ?_))))))
 refine nS (cF rfl ?_)
 refine tK (nS (tS (tS (tR (sQ (pF0 rfl) rfl (sL (lBs rfl rfl) rfl rfl ?_))))))
 refine sP (pure_neq_t rfl rfl (by omega)) rfl rfl ?_
 refine sQ (pM rfl) rfl (sQ (pF0 rfl) rfl (sL (lBa rfl rfl) rfl rfl ?_))
 refine seq_valb rfl (o7) rfl rfl (fun h580 => ?_) (fun h580 => ?_)
 refine sQ (pNt rfl) rfl (sQ (pM rfl) rfl (sQ (pF0 rfl) rfl (sL (lBs rfl rfl) rfl rfl ?_)))
 refine sB (pure_neq rfl rfl) rfl rfl (fun h585 => ?_) (fun h585 => ?_)
 refine sQ (pPf rfl rfl) rfl (sQ (pPt rfl rfl) rfl (sD (nS (cT rfl ?_))))
 refine tS (tR (sQ (pA rfl) rfl (sD (nS (tT (rS ?_))))))
 refine rF1 (rT rfl) ?_
 exact ⟨rfl, by (cases R with | false => rfl | true => (exfalso; obtain ⟨i1, i2, i3, i4, i5, i6, i7⟩ := hi.1 rfl; first | omega | (have j := i1 (by omega); simp_all; done) | (have j := he (i2 (by omega)); simp_all; done) | (have j := i2 (by omega); simp_all; done) | (have j := i3 (by omega); simp_all; done) | (have j := i4 (by omega); simp_all; done) | (have j := i5 (by omega); simp_all; done))), rfl⟩
 refine sQ (pPf rfl rfl) rfl (sQ (pPt rfl rfl) rfl (sD (nS (cF rfl ?_))))
 refine tK (nS (tS (tS (tR (sQ (pF0 rfl) rfl (sL (lBs rfl rfl) rfl rfl ?_))))))
 refine sP (pure_eql_f rfl rfl (by omega)) rfl rfl ?_
 refine sD (nS (cF rfl ?_))
 refine tK (nS (tS (tR (sQ (pF0 rfl) rfl (sL (lBs rfl rfl) rfl rfl ?_)))))
 refine sB (pE rfl rfl) rfl rfl (fun h622 => ?_) (fun h622 => ?_)
 refine sQ (pA rfl) rfl (sD (nS (tT (rF1 (rT rfl) ?_))))
 exact ⟨rfl, by rw [hi.2 ⟨fun _ => by (first | assumption | (exfalso; omega)), fun _ => by (first | assumption | (exfalso; omega) | exact Classical.not_not.1 (by assumption)), fun _ => by (first | assumption | (exfalso; omega)), fun _ => by (first | assumption | (exfalso; omega)), fun _ => ⟨by (first | assumption | (exfalso; omega)), by (first | assumption | omega)⟩, by omega, by omega⟩], rfl⟩
 refine sQ (pA rfl) rfl (sD (nS (tT (rF1 (rT rfl) ?_))))
 exact ⟨rfl, by (cases R with | false => rfl | true => (exfalso; obtain ⟨i1, i2, i3, i4, i5, i6, i7⟩ := hi.1 rfl; first | omega | (have j := i1 (by omega); simp_all; done) | (have j := he (i2 (by omega)); simp_all; done) | (have j := i2 (by omega); simp_all; done) | (have j := i3 (by omega); simp_all; done) | (have j := i4 (by omega); simp_all; done) | (have j := i5 (by omega); simp_all; done))), rfl⟩
 refine sQ (pNf rfl) rfl (sQ (pM rfl) rfl (sK rfl rfl (sK rfl rfl (sK rfl rfl (sQ (pPt rfl rfl) rfl (sQ (pPt rfl rfl) rfl ?_))))))
 refine sD (nS (cT rfl ?_))
 refine tS (tR (sQ (pA rfl) rfl (sD (nS (tT (rS ?_))))))
 refine rF1 (rT rfl) ?_
 exact ⟨rfl, by (cases R with | false => rfl | true => (exfalso; obtain ⟨i1, i2, i3, i4, i5, i6, i7⟩ := hi.1 rfl; first | omega | (have j := i1 (by omega); simp_all; done) | (have j := he (i2 (by omega)); simp_all; done) | (have j := i2 (by omega); simp_all; done) | (have j := i3 (by omega); simp_all; done) | (have j := i4 (by omega); simp_all; done) | (have j := i5 (by omega); simp_all; done))), rfl⟩
 refine sQ (pNf rfl) rfl (sQ (pPt rfl rfl) rfl (sQ (pPf rfl rfl) rfl (sQ (pM rfl) rfl (sK rfl rfl (sK rfl rfl (sK rfl rfl ?_))))))
 refine sK rfl rfl (sK rfl rfl (sK rfl rfl (sK rfl rfl (sK rfl rfl (sQ (pPt rfl rfl) rfl (sD ?_))))))
 refine nS (cT rfl ?_)
 refine tS (tR (sQ (pA rfl) rfl (sD (nS (tT (rS ?_))))))
 refine rF1 (rT rfl) ?_
 exact ⟨rfl, by (cases R with | false => rfl | true => (exfalso; obtain ⟨i1, i2, i3, i4, i5, i6, i7⟩ := hi.1 rfl; first | omega | (have j := i1 (by omega); simp_all; done) | (have j := he (i2 (by omega)); simp_all; done) | (have j := i2 (by omega); simp_all; done) | (have j := i3 (by omega); simp_all; done) | (have j := i4 (by omega); simp_all; done) | (have j := i5 (by omega); simp_all; done))), rfl⟩
 refine sQ (pPf rfl rfl) rfl (sQ (pM rfl) rfl (sQ (pF0 rfl) rfl (sL (lBs rfl rfl) rfl rfl ?_)))
 refine sB (pE rfl rfl) rfl rfl (fun h683 => ?_) (fun h683 => ?_)
 refine sQ (pPf rfl rfl) rfl (sQ (pA rfl) rfl (sD (nS (tS (tS (tR ?_))))))
 refine sQ (pM rfl) rfl (sQ (pF0 rfl) rfl (sL (lBs rfl rfl) rfl rfl ?_))
 refine seq_valb rfl (o2) rfl rfl (fun h694 => ?_) (fun h694 => ?_)
 refine sQ (pure_bneq_ft rfl rfl rfl) rfl (sQ (pM rfl) rfl (sK rfl rfl (sK rfl rfl (sK rfl rfl (sK rfl rfl (sK rfl rfl ?_))))))
 refine sK rfl rfl (sK rfl rfl (sQ (pPt rfl rfl) rfl (sQ (pM rfl) rfl (sK rfl rfl (sK rfl rfl (sK rfl rfl ?_))))))
 refine sK rfl rfl (sK rfl rfl (sK rfl rfl (sK rfl rfl (sQ (pPt rfl rfl) rfl (sQ (pM rfl) rfl (sK rfl rfl ?_))))))
 refine sK rfl rfl (sK rfl rfl (sK rfl rfl (sK rfl rfl (sK rfl rfl (sK rfl rfl (sK rfl rfl ?_))))))
 refine sQ (pPt rfl rfl) rfl (sD (nS (cT rfl ?_)))
 refine tS (tR (sQ (pA rfl) rfl (sD (nS (tT (rS ?_))))))
 refine rF1 (rT rfl) ?_
 exact ⟨rfl, by (cases R with | false => rfl | true => (exfalso; obtain ⟨i1, i2, i3, i4, i5, i6, i7⟩ := hi.1 rfl; first | omega | (have j := i1 (by omega); simp_all; done) | (have j := he (i2 (by omega)); simp_all; done) | (have j := i2 (by omega); simp_all; done) | (have j := i3 (by omega); simp_all; done) | (have j := i4 (by omega); simp_all; done) | (have j := i5 (by omega); simp_all; done))), rfl⟩
 refine sQ (pure_bneq_s rfl rfl rfl) rfl (sQ (pM rfl) rfl (sQ (pM rfl) rfl (sQ (pNf rfl) rfl (sQ (pM rfl) rfl (sQ (pF0 rfl) rfl (sL (lBs rfl rfl) rfl rfl ?_))))))
 refine sB (pure_sneq rfl rfl) rfl rfl (fun h743 => ?_) (fun h743 => ?_)
 refine sQ (pPt rfl rfl) rfl (sQ (pPf rfl rfl) rfl (sQ (pM rfl) rfl (sK rfl rfl (sK rfl rfl (sK rfl rfl (sK rfl rfl ?_))))))
 refine sK rfl rfl (sK rfl rfl (sK rfl rfl (sQ (pPt rfl rfl) rfl (sQ (pM rfl) rfl (sK rfl rfl (sK rfl rfl ?_))))))
 refine sK rfl rfl (sK rfl rfl (sK rfl rfl (sK rfl rfl (sK rfl rfl (sK rfl rfl (sQ (pPt rfl rfl) rfl ?_))))))
 refine sD (nS (cT rfl ?_))
 refine tS (tR (sQ (pA rfl) rfl (sD (nS (tT (rS ?_))))))
 refine rF1 (rT rfl) ?_
 exact ⟨rfl, by (cases R with | false => rfl | true => (exfalso; obtain ⟨i1, i2, i3, i4, i5, i6, i7⟩ := hi.1 rfl; first | omega | (have j := i1 (by omega); simp_all; done) | (have j := he (i2 (by omega)); simp_all; done) | (have j := i2 (by omega); simp_all; done) | (have j := i3 (by omega); simp_all; done) | (have j := i4 (by omega); simp_all; done) | (have j := i5 (by omega); simp_all; done))), rfl⟩
 refine sQ (pPt rfl rfl) rfl (sQ (pPf rfl rfl) rfl (sQ (pM rfl) rfl (sQ (pM rfl) rfl (sQ (pM rfl) rfl (sQ (pF0 rfl) rfl (sL (lBa rfl rfl) rfl rfl ?_))))))
 refine seq_valb rfl (o3) rfl rfl (fun h784 => ?_) (fun h784 => ?_)
 refine sQ (pNt rfl) rfl (sQ (pPt rfl rfl) rfl (sQ (pPf rfl rfl) rfl (sQ (pM rfl) rfl (sQ (pM rfl) rfl (sQ (pNt rfl) rfl (sQ (pM rfl) rfl ?_))))))
 refine sK rfl rfl (sK rfl rfl (sK rfl rfl (sK rfl rfl (sQ (pPf rfl rfl) rfl (sQ (pPf rfl rfl) rfl (sD ?_))))))
 refine nS (cF rfl ?_)
 refine tK (nS (tS (tS (tR (sQ (pF0 rfl) rfl (sL (lBs rfl rfl) rfl rfl ?_))))))
 refine sP (pure_neq_f rfl rfl (by omega)) rfl rfl ?_
 refine sQ (pM rfl) rfl (sK rfl rfl (sK rfl rfl (sK rfl rfl (sK rfl rfl (sK rfl rfl (sK rfl rfl ?_))))))
 refine sK rfl rfl (sK rfl rfl (sK rfl rfl (sQ (pPf rfl rfl) rfl (sD (nS (cF rfl ?_))))))
 refine tK (nS (tS (tS (tR (sQ (pF0 rfl) rfl (sL (lBs rfl rfl) rfl rfl ?_))))))
 refine sP (pure_eql_f rfl rfl (by omega)) rfl rfl ?_
 refine sD (nS (cF rfl ?_))
 refine tK (nS (tS (tR (sQ (pF0 rfl) rfl (sL (lBs rfl rfl) rfl rfl ?_)))))
 refine sB (pE rfl rfl) rfl rfl (fun h840 => ?_) (fun h840 => ?_)
 refine sQ (pA rfl) rfl (sD (nS (tT (rF1 (rT rfl) ?_))))
 exact ⟨rfl, by rw [hi.2 ⟨fun _ => by (first | assumption | (exfalso; omega)), fun _ => by (first | assumption | (exfalso; omega) | exact Classical.not_not.1 (by assumption)), fun _ => by (first | assumption | (exfalso; omega)), fun _ => by (first | assumption | (exfalso; omega)), fun _ => ⟨by (first | assumption | (exfalso; omega)), by (first | assumption | omega)⟩, by omega, by omega⟩], rfl⟩
 refine sQ (pA rfl) rfl (sD (nS (tT (rF1 (rT rfl) ?_))))
 exact ⟨rfl, by (cases R with | false => rfl | true => (exfalso; obtain ⟨i1, i2, i3, i4, i5, i6, i7⟩ := hi.1 rfl; first | omega | (have j := i1 (by omega); simp_all; done) | (have j := he (i2 (by omega)); simp_all; done) | (have j := i2 (by omega); simp_all; done) | (have j := i3 (by omega); simp_all; done) | (have j := i4 (by omega); simp_all; done) | (have j := i5 (by omega); simp_all; done))), rfl⟩
 refine sQ (pNf rfl) rfl (sQ (pPt rfl rfl) rfl (sQ (pPf rfl rfl) rfl (sQ (pM rfl) rfl (sK rfl rfl (sK rfl rfl (sK rfl rfl ?_))))))
 refine sK rfl rfl (sK rfl rfl (sK rfl rfl (sK rfl rfl (sK rfl rfl (sQ (pPt rfl rfl) rfl (sD ?_))))))
 refine nS (cT rfl ?_)
 refine tS (tR (sQ (pA rfl) rfl (sD (nS (tT (rS ?_))))))
 refine rF1 (rT rfl) ?_
 exact ⟨rfl, by (cases R with | false => rfl | true => (exfalso; obtain ⟨i1, i2, i3, i4, i5, i6, i7⟩ := hi.1 rfl; first | omega | (have j := i1 (by omega); simp_all; done) | (have j := he (i2 (by omega)); simp_all; done) | (have j := i2 (by omega); simp_all; done) | (have j := i3 (by omega); simp_all; done) | (have j := i4 (by omega); simp_all; done) | (have j := i5 (by omega); simp_all; done))), rfl⟩
 refine sQ (pPf rfl rfl) rfl (sQ (pA rfl) rfl (sD (nS (tS (tS (tR ?_))))))
 refine sQ (pM rfl) rfl (sQ (pF0 rfl) rfl (sL (lBs rfl rfl) rfl rfl ?_))
 refine seq_valb rfl (o2) rfl rfl (fun h888 => ?_) (fun h888 => ?_)
 refine sQ (pure_bneq_ft rfl rfl rfl) rfl (sQ (pM rfl) rfl (sK rfl rfl (sK rfl rfl (sK rfl rfl (sK rfl rfl (sK rfl rfl ?_))))))
 refine sK rfl rfl (sK rfl rfl (sQ (pPt rfl rfl) rfl (sQ (pM rfl) rfl (sK rfl rfl (sK rfl rfl (sK rfl rfl ?_))))))
 refine sK rfl rfl (sK rfl rfl (sK rfl rfl (sK rfl rfl (sQ (pPt rfl rfl) rfl (sQ (pM rfl) rfl (sK rfl rfl ?_))))))
 refine sK rfl rfl (sK rfl rfl (sK rfl rfl (sK rfl rfl (sK rfl rfl (sK rfl rfl (sK rfl rfl ?_))))))
 refine sQ (pPt rfl rfl) rfl (sD (nS (cT rfl ?_)))
 refine tS (tR (sQ (pA rfl) rfl (sD (nS (tT (rS ?_))))))
 refine rF1 (rT rfl) ?_
 exact ⟨rfl, by (cases R with | false => rfl | true => (exfalso; obtain ⟨i1, i2, i3, i4, i5, i6, i7⟩ := hi.1 rfl; first | omega | (have j := i1 (by omega); simp_all; done) | (have j := he (i2 (by omega)); simp_all; done) | (have j := i2 (by omega); simp_all; done) | (have j := i3 (by omega); simp_all; done) | (have j := i4 (by omega); simp_all; done) | (have j := i5 (by omega); simp_all; done))), rfl⟩
 refine sQ (pure_bneq_s rfl rfl rfl) rfl (sQ (pM rfl) rfl (sQ (pM rfl) rfl (sQ (pNf rfl) rfl (sQ (pM rfl) rfl (sQ (pF0 rfl) rfl (sL (lBs rfl rfl) rfl rfl ?_))))))
 refine sB (pure_sneq rfl rfl) rfl rfl (fun h937 => ?_) (fun h937 => ?_)
 refine sQ (pPt rfl rfl) rfl (sQ (pPf rfl rfl) rfl (sQ (pM rfl) rfl (sK rfl rfl (sK rfl rfl (sK rfl rfl (sK rfl rfl ?_))))))
 refine sK rfl rfl (sK rfl rfl (sK rfl rfl (sQ (pPt rfl rfl) rfl (sQ (pM rfl) rfl (sK rfl rfl (sK rfl rfl ?_))))))
 refine sK rfl rfl (sK rfl rfl (sK rfl rfl (sK rfl rfl (sK rfl rfl (sK rfl rfl (sQ (pPt rfl rfl) rfl ?_))))))
 refine sD (nS (cT rfl ?_))
 refine tS (tR (sQ (pA rfl) rfl (sD (nS (tT (rS ?_))))))
 refine rF1 (rT rfl) ?_
 exact ⟨rfl, by (cases R with | false => rfl | true => (exfalso; obtain ⟨i1, i2, i3, i4, i5, i6, i7⟩ := hi.1 rfl; first | omega | (have j := i1 (by omega); simp_all; done) | (have j := he (i2 (by omega)); simp_all; done) | (have j := i2 (by omega); simp_all; done) | (have j := i3 (by omega); simp_all; done) | (have j := i4 (by omega); simp_all; done) | (have j := i5 (by omega); simp_all; done))), rfl⟩
 refine sQ (pPt rfl rfl) rfl (sQ (pPf rfl rfl) rfl (sQ (pM rfl) rfl (sQ (pM rfl) rfl (sQ (pM rfl) rfl (sK rfl rfl (sK rfl rfl ?_))))))
 refine sK rfl rfl (sK rfl rfl (sQ (pPf rfl rfl) rfl (sQ (pPf rfl rfl) rfl (sQ (pM rfl) rfl (sQ (pM rfl) rfl (sQ (pNf rfl) rfl ?_))))))
 refine sQ (pM rfl) rfl (sQ (pF0 rfl) rfl (sL (lBa rfl rfl) rfl rfl ?_))
 refine seq_valb rfl (o4) rfl rfl (fun h988 => ?_) (fun h988 => ?_)
 refine sQ (pNt rfl) rfl (sQ (pPt rfl rfl) rfl (sQ (pPf rfl rfl) rfl (sD (nS (cF rfl ?_)))))
 refine tK (nS (tS (tS (tR (sQ (pF0 rfl) rfl (sL (lBs rfl rfl) rfl rfl ?_))))))
 refine sP (pure_neq_t rfl rfl (by omega)) rfl rfl ?_
 refine sQ (pM rfl) rfl (sQ (pF0 rfl) rfl (sL (lBa rfl rfl) rfl rfl ?_))
 refine seq_valb rfl (o7) rfl rfl (fun h1006 => ?_) (fun h1006 => ?_)
 refine sQ (pNt rfl) rfl (sQ (pM rfl) rfl (sQ (pF0 rfl) rfl (sL (lBs rfl rfl) rfl rfl ?_)))
 refine sB (pure_neq rfl rfl) rfl rfl (fun h1011 => ?_) (fun h1011 => ?_)
 refine sQ (pPf rfl rfl) rfl (sQ (pPt rfl rfl) rfl (sD (nS (cT rfl ?_))))
 refine tS (tR (sQ (pA rfl) rfl (sD (nS (tT (rS ?_))))))
 refine rF1 (rT rfl) ?_
 exact ⟨rfl, by (cases R with | false => rfl | true => (exfalso; obtain ⟨i1, i2, i3, i4, i5, i6, i7⟩ := hi.1 rfl; first | omega | (have j := i1 (by omega); simp_all; done) | (have j := he (i2 (by omega)); simp_all; done) | (have j := i2 (by omega); simp_all; done) | (have j := i3 (by omega); simp_all; done) | (have j := i4 (by omega); simp_all; done) | (have j := i5 (by omega); simp_all; done))), rfl⟩
 refine sQ (pPf rfl rfl) rfl (sQ (pPt rfl rfl) rfl (sD (nS (cF rfl ?_))))
 refine tK (nS (tS (tS (tR (sQ (pF0 rfl) rfl (sL (lBs rfl rfl) rfl rfl ?_))))))
 refine sB (pE rfl rfl) rfl rfl (fun h1038 => ?_) (fun h1038 => ?_)
 refine sD (nS (cT rfl ?_))
 refine tS (tR (sQ (pF0 rfl) rfl (sL (lBs rfl rfl) rfl rfl ?_)))
 refine sB (pure_geq rfl rfl) rfl rfl (fun h1046 => ?_) (fun h1046 => ?_)
 refine sQ (pM rfl) rfl (sQ (pF0 rfl) rfl (sL (lBs rfl rfl) rfl rfl ?_))
 refine sB (pure_leq rfl rfl) rfl rfl (fun h1050 => ?_) (fun h1050 => ?_)
 refine sQ (pPt rfl rfl) rfl (sQ (pA rfl) rfl (sD (nS (tT (rS (rF1 (rT rfl) ?_))))))
 exact ⟨rfl, by rw [hi.2 ⟨fun _ => by (first | assumption | (exfalso; omega)), fun _ => by (first | assumption | (exfalso; omega) | exact Classical.not_not.1 (by assumption)), fun _ => by (first | assumption | (exfalso; omega)), fun _ => by (first | assumption | (exfalso; omega)), fun _ => ⟨by (first | assumption | (exfalso; omega)), by (first | assumption | omega)⟩, by omega, by omega⟩], rfl⟩
 refine sQ (pPt rfl rfl) rfl (sQ (pA rfl) rfl (sD (nS (tT (rS (rF1 (rT rfl) ?_))))))
 exact ⟨rfl, by (cases R with | false => rfl | true => (exfalso; obtain ⟨i1, i2, i3, i4, i5, i6, i7⟩ := hi.1 rfl; first | omega | (have j := i1 (by omega); simp_all; done) | (have j := he (i2 (by omega)); simp_all; done) | (have j := i2 (by omega); simp_all; done) | (have j := i3 (by omega); simp_all; done) | (have j := i4 (by omega); simp_all; done) | (have j := i5 (by omega); simp_all; done))), rfl⟩
 refine sQ (pM rfl) rfl (sK rfl rfl (sK rfl rfl (sK rfl rfl (sQ (pPf rfl rfl) rfl (sQ (pA rfl) rfl (sD ?_))))))
 refine nS (tT (rS (rF1 (rT rfl) ?_)))
 exact ⟨rfl, by (cases R with | false => rfl | true => (exfalso; obtain ⟨i1, i2, i3, i4, i5, i6, i7⟩ := hi.1 rfl; first | omega | (have j := i1 (by omega); simp_all; done) | (have j := he (i2 (by omega)); simp_all; done) | (have j := i2 (by omega); simp_all; done) | (have j := i3 (by omega); simp_all; done) | (have j := i4 (by omega); simp_all; done) | (have j := i5 (by omega); simp_all; done))), rfl⟩
 refine sD (nS (cF rfl ?_))
 refine tK (nS (tS (tR (sQ (pF0 rfl) rfl (sL (lBs rfl rfl) rfl rfl ?_)))))
 refine sB (pE rfl rfl) rfl rfl (fun h1088 => ?_) (fun h1088 => ?_)
 refine sQ (pA rfl) rfl (sD (nS (tT (rF1 (rT rfl) ?_))))
 exact ⟨rfl, by rw [hi.2 ⟨fun _ => by (first | assumption | (exfalso; omega)), fun _ => by (first | assumption | (exfalso; omega) | exact Classical.not_not.1 (by assumption)), fun _ => by (first | assumption | (exfalso; omega)), fun _ => by (first | assumption | (exfalso; omega)), fun _ => ⟨by (first | assumption | (exfalso; omega)), by (first | assumption | omega)⟩, by omega, by omega⟩], rfl⟩
 refine sQ (pA rfl) rfl (sD (nS (tT (rF1 (rT rfl) ?_))))
 exact ⟨rfl, by (cases R with | false => rfl | true => (exfalso; obtain ⟨i1, i2, i3, i4, i5, i6, i7⟩ := hi.1 rfl; first | omega | (have j := i1 (by omega); simp_all; done) | (have j := he (i2 (by omega)); simp_all; done) | (have j := i2 (by omega); simp_all; done) | (have j := i3 (by omega); simp_all; done) | (have j := i4 (by omega); simp_all; done) | (have j := i5 (by omega); simp_all; done))), rfl⟩
 refine sQ (pNf rfl) rfl (sQ (pM rfl) rfl (sK rfl rfl (sK rfl rfl (sK rfl rfl (sQ (pPt rfl rfl) rfl (sQ (pPt rfl rfl) rfl ?_))))))
 refine sD (nS (cT rfl ?_))
 refine tS (tR (sQ (pA rfl) rfl (sD (nS (tT (rS ?_))))))
 refine rF1 (rT rfl) ?_
 exact ⟨rfl, by (cases R with | false => rfl | true => (exfalso; obtain ⟨i1, i2, i3, i4, i5, i6, i7⟩ := hi.1 rfl; first | omega | (have j := i1 (by omega); simp_all; done) | (have j := he (i2 (by omega)); simp_all; done) | (have j := i2 (by omega); simp_all; done) | (have j := i3 (by omega); simp_all; done) | (have j := i4 (by omega); simp_all; done) | (have j := i5 (by omega); simp_all; done))), rfl⟩
 refine sQ (pNf rfl) rfl (sQ (pPt rfl rfl) rfl (sQ (pPf rfl rfl) rfl (sD (nS (cT rfl ?_)))))
 refine tS (tR (sQ (pA rfl) rfl (sD (nS (tT (rS ?_))))))
 refine rF1 (rT rfl) ?_
 exact ⟨rfl, by (cases R with | false => rfl | true => (exfalso; obtain ⟨i1, i2, i3, i4, i5, i6, i7⟩ := hi.1 rfl; first | omega | (have j := i1 (by omega); simp_all; done) | (have j := he (i2 (by omega)); simp_all; done) | (have j := i2 (by omega); simp_all; done) | (have j := i3 (by omega); simp_all; done) | (have j := i4 (by omega); simp_all; done) | (have j := i5 (by omega); simp_all; done))), rfl⟩
mutual
def sShape (D N : Int) : Tm → Int → Bool
 | .mk k nm num ty fr lb ks, deep => decide (deep ≤ D) && decide (k ≠ N) && tmNode k nm num ty fr lb ks.length && sShapeL D N ks (deep + 1)
def sShapeL (D N : Int) : List Tm → Int → Bool
 | [], _ => true
 | t :: ts, deep => sShape D N t deep && sShapeL D N ts deep
end
theorem sShapeL_iff (D N : Int) : ∀ (ts : List Tm) (d : Int), sShapeL D N ts d = true ↔ ∀ i, (h : i < ts.length) → sShape D N ts[i] d = true
 | [], d => by simp [sShapeL]
 | t :: ts, d => by
  simp only [sShapeL, Bool.and_eq_true, sShapeL_iff D N ts d]
  constructor
  ·rintro ⟨h1, h2⟩ i hi
   cases i with
   | zero => exact h1
   | succ i => exact h2 i (by simpa using hi)
  ·intro h
   exact ⟨h 0 (by simp), fun i hi => h (i + 1) (by simpa using hi)⟩
theorem sShape_no {D N : Int} {k : Int} {nm : ByteArray} {num : Int} {ty fr : Ty} {lb : Int} {ks : List Tm} {d : Int} (h : D < d ∨ k = N ∨ tmNode k nm num ty fr lb ks.length = false) : sShape D N (.mk k nm num ty fr lb ks) d = false := by
 rw [sShape]
 rcases h with h | h | h
 ·rw [decide_eq_false (by omega)]; rfl
 ·rw [decide_eq_false (p := k ≠ N) (by omega), Bool.and_false]; rfl
 ·rw [h, Bool.and_false]; rfl
theorem sShape_go {D N : Int} {k : Int} {nm : ByteArray} {num : Int} {ty fr : Ty} {lb : Int} {ks : List Tm} {d : Int} (h1 : d ≤ D) (h2 : k ≠ N) (h3 : tmNode k nm num ty fr lb ks.length = true) : sShape D N (.mk k nm num ty fr lb ks) d = sShapeL D N ks (d + 1) := by
 rw [sShape, decide_eq_true h1, decide_eq_true h2, h3]; rfl
theorem sShapeL_f {D N : Int} {ks : List Tm} {d : Int} {i : Nat} (hi : i < ks.length) (h : sShape D N ks[i] d = false) : sShapeL D N ks d = false := by
 cases hx : sShapeL D N ks d with
 | false => rfl
 | true => rw [(sShapeL_iff D N ks d).1 hx i hi] at h; cases h
theorem tmNode_14 {k : Int} {nm : ByteArray} {num : Int} {ty fr : Ty} {lb : Int} {n : Nat} (hk : k = 14) (ha : tmOps k = n) : tmNode k nm num ty fr lb n = true ↔ nm = ⟨#[]⟩ ∧ num = 0 ∧ (1 ≤ absLb lb ∧ absLb lb ≤ 99) ∧ tValid ty = true ∧ tValid fr = true ∧ tCons fr ty = true := by
 rw [tmNode_iff, absLb_spec]
 simp only [withinB, tConsistent, decide_eq_true_eq, Bool.and_eq_true]
 constructor
 ·rintro ⟨_, _, h3, _, h5, h6, _, h8, _⟩
  have h8 := h8 hk
  exact ⟨h3 (by omega), by have := h5 (by omega); omega, h8.2, h6 (by omega), h8.1.1.1, h8.1.2⟩
 ·rintro ⟨h1, h2, h3, h4, h5, h6⟩
  exact ⟨ha, fun h => absurd h (by omega), fun _ => h1, fun h => absurd h (by omega), fun _ => by omega, fun _ => h4, fun h => absurd h (by omega), fun _ => ⟨⟨⟨h5, h4⟩, h6⟩, h3⟩, fun h => absurd hk h⟩
theorem tmNode_ne {k : Int} {nm : ByteArray} {num : Int} {ty fr : Ty} {lb : Int} {n : Nat} (hk : k ≠ 14) (ha : tmOps k = n) : tmNode k nm num ty fr lb n = true ↔
  (k = 1 ∨ k = 5 → nameOk nm = true) ∧ (¬(k = 1 ∨ k = 5) → nm = ⟨#[]⟩) ∧ (k = 5 ∨ k = 13 ∨ k = 14 → tValid ty = true) ∧ (¬(k = 5 ∨ k = 13 ∨ k = 14) → tNone ty = true) ∧ (k ≠ 14 → tNone fr = true ∧ lb = 0) ∧ (k = 2 → 0 ≤ num ∧ num ≤ 999) ∧ (k ≠ 2 → num = 0) := by
 rw [tmNode_iff]
 simp only [withinB, decide_eq_true_eq]
 constructor
 ·rintro ⟨_, h2, h3, h4, h5, h6, h7, _, h9⟩
  exact ⟨h2, h3, h6, h7, h9, h4, fun h => by have := h5 h; omega⟩
 ·rintro ⟨h2, h3, h6, h7, h9, h4, h5⟩
  exact ⟨ha, h2, h3, h4, fun h => by have := h5 h; omega, h6, h7, fun h => absurd h hk, h9⟩
theorem l4Shape_fn : ∀ (t : Tm) (d : Int) (G : IM) (cells : List Value), 0 ≤ d ∧ d ≤ 40 → RTm G t cells →
  Fn Tryz.prog 118 [.agg ⟨cells⟩, .int .i64 d] [] G (Val (.bool (sShape 40 13 t (41 - d))) G) := by
 refine Tm.ind fun k nm num ty fr lb ks ih d G cells hd hr => ?_
 have hr0 := hr
 have h14 := fun h : k = 14 => @tmNode_14 k nm num ty fr lb ks.length h
 have hne := fun h : k ≠ 14 => @tmNode_ne k nm num ty fr lb ks.length h
 have har := fun h : tmNode k nm num ty fr lb ks.length = true => (tmNode_iff.1 h).1
 obtain ⟨R, hR⟩ : ∃ R, tmNode k nm num ty fr lb ks.length = R := ⟨_, rfl⟩
 rw [hR] at h14 hne har
 have hlo := l4Own_fn k nm num ty fr lb ks G cells hr0 R
 have hl2 := l2Own_fn k nm num ty fr lb ks G cells hr0 R
 have hk1 := l2Kids_fn k G
 obtain ⟨tk, tks⟩ := ty
 obtain ⟨fk, fks⟩ := fr
 obtain ⟨pt, ct, pf, cf, p, c, es, rfl, hk, hnum, hlb, hty, hfr, hsl, hkl⟩ := hr.open9
 have hn := hsl.le
 clear hr hr0
 refine fn_enter Tryz.func118 rfl Tryz.ntmps118 Tryz.results118 rfl ?_
 intro w0
 refine tS (tR ?_)
 refine sE (step_box_a rfl rfl) rfl (fun b3 => ?_)
 refine sQ (pA rfl) rfl (sD (nS (tS (tS (tri_draw mixed rfl ?_)))))
 refine any_pure (i := 0) (l' := [tt,ff,ff,ff,ff,ff,ff,ff,ff,ff,ff,ff,ff,ff,ff,ff,ff,ff,ff,ff,ff,ff,ff,ff,ff,ff,ff,ff,ff,ff,ff,ff,ff,ff,ff,ff]) rfl npI (pM rfl) rfl (by kernel_rfl) rfl rfl ?_
 refine any_bool (i := 1) (l' := [tt,tt,ff,ff,ff,ff,ff,ff,ff,ff,ff,ff,ff,ff,ff,ff,ff,ff,ff,ff,ff,ff,ff,ff,ff,ff,ff,ff,ff,ff,ff,ff,ff,ff,ff,ff]) rfl npI (pure_lss rfl rfl) rfl (by kernel_rfl) rfl rfl (fun h11 => ?_) (fun h11 => ?_)
 refine aP 2 rfl (pM rfl) rfl ?_
 refine aK' 3 rfl rfl rfl ?_
 refine aK' 4 rfl rfl rfl ?_
 refine aK' 6 rfl rfl rfl ?_
 refine aK' 7 rfl rfl rfl ?_
 refine aK' 8 rfl rfl rfl ?_
 refine aK' 5 rfl rfl rfl ?_
 refine aK' 9 rfl rfl rfl ?_
 refine aP 10 rfl (pPt rfl rfl) rfl ?_
 refine aP 11 rfl (pM rfl) rfl ?_
 refine aK' 12 rfl rfl rfl ?_
 refine aK' 13 rfl rfl rfl ?_
 refine aK' 14 rfl rfl rfl ?_
 refine aP 15 rfl (pPt rfl rfl) rfl ?_
 refine aP 16 rfl (pM rfl) rfl ?_
 refine aK' 17 rfl rfl rfl ?_
 refine aK' 18 rfl rfl rfl ?_
 refine aK' 19 rfl rfl rfl ?_
 refine aK' 20 rfl rfl rfl ?_
 refine aK' 21 rfl rfl rfl ?_
 refine aK' 22 rfl rfl rfl ?_
 refine aK' 23 rfl rfl rfl ?_
 refine aK' 24 rfl rfl rfl ?_
 refine aP 25 rfl (pPt rfl rfl) rfl ?_
 refine aP 26 rfl (pM rfl) rfl ?_
 refine aK' 27 rfl rfl rfl ?_
 refine aK' 28 rfl rfl rfl ?_
 refine aK' 29 rfl rfl rfl ?_
 refine aK' 30 rfl rfl rfl ?_
 refine aK' 31 rfl rfl rfl ?_
 refine aK' 32 rfl rfl rfl ?_
 refine aK' 33 rfl rfl rfl ?_
 refine aK' 34 rfl rfl rfl ?_
 refine aP 35 rfl (pPt rfl rfl) rfl ?_
 refine aD' ?_
 refine nS (cT rfl ?_)
 refine tS (tR (sQ (pA rfl) rfl (sD (nS (tT (rS ?_))))))
 refine rF1 (rT rfl) ?_
 (rw [sShape_no (by rw [hR]; first | omega | exact .inr (.inr (by assumption)) | exact .inr (.inr (by cases R with | false => rfl | true => exact absurd (har rfl) (by omega))))]; exact ⟨rfl, rfl, rfl⟩)
 refine aP 2 rfl (pM rfl) rfl ?_
 refine aP 3 rfl (pF0 rfl) rfl ?_
 refine aL 4 rfl (lBs rfl rfl) rfl ?_
 refine aP 6 rfl (pF0 rfl) rfl ?_
 refine aL 7 rfl (lBs rfl rfl) rfl ?_
 refine aP 8 rfl (pLn rfl rfl) rfl ?_
 refine aO' 5 ?_
 refine one_val rfl rfl (hk1) rfl rfl rfl ?_
 refine any_bool (i := 9) (l' := [tt,tt,tt,tt,tt,tt,tt,tt,tt,tt,ff,ff,ff,ff,ff,ff,ff,ff,ff,ff,ff,ff,ff,ff,ff,ff,ff,ff,ff,ff,ff,ff,ff,ff,ff,ff]) rfl npI (pure_neq rfl rfl) rfl (by kernel_rfl) rfl rfl (fun h66 => ?_) (fun h66 => ?_)
 refine aP 10 rfl (pPf rfl rfl) rfl ?_
 refine aP 11 rfl (pM rfl) rfl ?_
 refine aK' 12 rfl rfl rfl ?_
 refine aK' 13 rfl rfl rfl ?_
 refine aK' 14 rfl rfl rfl ?_
 refine aP 15 rfl (pPt rfl rfl) rfl ?_
 refine aP 16 rfl (pM rfl) rfl ?_
 refine aK' 17 rfl rfl rfl ?_
 refine aK' 18 rfl rfl rfl ?_
 refine aK' 19 rfl rfl rfl ?_
 refine aK' 20 rfl rfl rfl ?_
 refine aK' 21 rfl rfl rfl ?_
 refine aK' 22 rfl rfl rfl ?_
 refine aK' 23 rfl rfl rfl ?_
 refine aK' 24 rfl rfl rfl ?_
 refine aP 25 rfl (pPt rfl rfl) rfl ?_
 refine aP 26 rfl (pM rfl) rfl ?_
 refine aK' 27 rfl rfl rfl ?_
 refine aK' 28 rfl rfl rfl ?_
 refine aK' 29 rfl rfl rfl ?_
 refine aK' 30 rfl rfl rfl ?_
 refine aK' 31 rfl rfl rfl ?_
 refine aK' 32 rfl rfl rfl ?_
 refine aK' 33 rfl rfl rfl ?_
 refine aK' 34 rfl rfl rfl ?_
 refine aP 35 rfl (pPt rfl rfl) rfl ?_
 refine aD' ?_
 refine nS (cT rfl ?_)
 refine tS (tR (sQ (pA rfl) rfl (sD (nS (tT (rS ?_))))))
 refine rF1 (rT rfl) ?_
 (rw [sShape_no (by rw [hR]; first | omega | exact .inr (.inr (by assumption)) | exact .inr (.inr (by cases R with | false => rfl | true => exact absurd (har rfl) (by omega))))]; exact ⟨rfl, rfl, rfl⟩)
 refine aP 10 rfl (pPf rfl rfl) rfl ?_
 refine aP 11 rfl (pM rfl) rfl ?_
 refine aP 12 rfl (pF0 rfl) rfl ?_
 refine aL 13 rfl (lBs rfl rfl) rfl ?_
 refine any_bool (i := 14) (l' := [tt,tt,tt,tt,tt,tt,tt,tt,tt,tt,tt,tt,tt,tt,tt,ff,ff,ff,ff,ff,ff,ff,ff,ff,ff,ff,ff,ff,ff,ff,ff,ff,ff,ff,ff,ff]) rfl npI (pE rfl rfl) rfl (by kernel_rfl) rfl rfl (fun h109 => ?_) (fun h109 => ?_)
 refine aP 15 rfl (pPf rfl rfl) rfl ?_
 refine aP 16 rfl (pM rfl) rfl ?_
 refine aK' 17 rfl rfl rfl ?_
 refine aK' 18 rfl rfl rfl ?_
 refine aK' 19 rfl rfl rfl ?_
 refine aK' 20 rfl rfl rfl ?_
 refine aK' 21 rfl rfl rfl ?_
 refine aK' 22 rfl rfl rfl ?_
 refine aK' 23 rfl rfl rfl ?_
 refine aK' 24 rfl rfl rfl ?_
 refine aP 25 rfl (pPt rfl rfl) rfl ?_
 refine aP 26 rfl (pM rfl) rfl ?_
 refine aK' 27 rfl rfl rfl ?_
 refine aK' 28 rfl rfl rfl ?_
 refine aK' 29 rfl rfl rfl ?_
 refine aK' 30 rfl rfl rfl ?_
 refine aK' 31 rfl rfl rfl ?_
 refine aK' 32 rfl rfl rfl ?_
 refine aK' 33 rfl rfl rfl ?_
 refine aK' 34 rfl rfl rfl ?_
 refine aP 35 rfl (pPt rfl rfl) rfl ?_
 refine aD' ?_
 refine nS (cT rfl ?_)
 refine tS (tR (sQ (pA rfl) rfl (sD (nS (tT (rS ?_))))))
 refine rF1 (rT rfl) ?_
 (rw [sShape_no (by rw [hR]; first | omega | exact .inr (.inr (by assumption)) | exact .inr (.inr (by cases R with | false => rfl | true => exact absurd (har rfl) (by omega))))]; exact ⟨rfl, rfl, rfl⟩)
 refine aP 15 rfl (pPf rfl rfl) rfl ?_
 refine aP 16 rfl (pM rfl) rfl ?_
 refine aP 17 rfl (pF0 rfl) rfl ?_
 refine aL 18 rfl (lBs rfl rfl) rfl ?_
 refine any_bool (i := 19) (l' := [tt,tt,tt,tt,tt,tt,tt,tt,tt,tt,tt,tt,tt,tt,tt,tt,tt,tt,tt,tt,ff,ff,ff,ff,ff,ff,ff,ff,ff,ff,ff,ff,ff,ff,ff,ff]) rfl npI (pE rfl rfl) rfl (by kernel_rfl) rfl rfl (fun h147 => ?_) (fun h147 => ?_)
 refine aP 20 rfl (pM rfl) rfl ?_
 refine aL 21 rfl (lBa rfl rfl) rfl ?_
 refine aO' 22 ?_
 refine one_valb rfl rfl (hlo (h14 (by omega) (by omega))) rfl rfl rfl (fun h151 => ?_) (fun h151 => ?_)
 refine aP 23 rfl (pNt rfl) rfl ?_
 refine aP 24 rfl (pPt rfl rfl) rfl ?_
 refine aP 25 rfl (pPf rfl rfl) rfl ?_
 refine aP 26 rfl (pM rfl) rfl ?_
 refine aP 27 rfl (pF0 rfl) rfl ?_
 refine aL 28 rfl (lBs rfl rfl) rfl ?_
 refine aP 29 rfl (pure_neq_f rfl rfl (by omega)) rfl ?_
 refine aP 30 rfl (pM rfl) rfl ?_
 refine aK' 31 rfl rfl rfl ?_
 refine aK' 32 rfl rfl rfl ?_
 refine aK' 33 rfl rfl rfl ?_
 refine aP 34 rfl (pPf rfl rfl) rfl ?_
 refine aP 35 rfl (pPf rfl rfl) rfl ?_
 refine aD' ?_
 refine nS (cF rfl ?_)
 refine tK (nS (tS (tS (tR (sQ (pA rfl) rfl (sD ?_))))))
 refine nS (tri_block ?_)
 (refine tri_loopN (fun (i : Nat) => ⟨[(5, .int .i64 i), (2, .pointer (some ⟨b3, 0, none⟩)), (1, .int .i64 d)], [.blk b3 [.int .i64 k, .string nm, .int .i64 num, .int .i64 tk, .slice pt tks.length ct, .int .i64 fk, .slice pf fks.length cf, .int .i64 lb, .slice p ks.length c]], G⟩) (fun i => i ≤ ks.length ∧ ∀ j (h : j < ks.length), j < i → sShape 40 13 ks[j] (41 - d + 1) = true) (fun i => ks.length - i) 0 ?_ ?_ ?_)
 exact sMk
 exact ⟨by omega, by omega⟩
 (rintro i ⟨hi, hf⟩)
 refine tS (tS (tR (sQ (pM rfl) rfl (sQ (pF0 rfl) rfl (sL (lBs rfl rfl) rfl rfl ?_)))))
 refine sQ (pLn rfl rfl) rfl (sB (pure_lss rfl rfl) rfl rfl (fun h188 => ?_) (fun h188 => ?_))
 refine sD (nS (cT rfl ?_))
 refine tK (nS (tS (tri_block (tS (tR (sQ (pF0 rfl) rfl ?_))))))
 refine sL (lBs rfl rfl) rfl rfl ?_
 refine sQ (pM rfl) rfl ?_
 (obtain ⟨b, o, e, rfl, hl, hat, hre, hgb⟩ := hsl.kidTm hkl (i := i) (by omega) (by omega); refine sP (pIN rfl rfl rfl (by omega)) rfl rfl ?_)
 refine sL (load_a rfl rfl (hat _) hl) rfl rfl ?_
 refine sQ (pM rfl) rfl (sP (pure_sub rfl rfl (by omega) (by omega)) rfl rfl ?_)
 (have hih := ih ks[i] (List.getElem_mem (by omega)) (d - 1) G _ (by omega) hre; rw [show 41 - (d - 1) = 41 - d + 1 by omega] at hih; refine seq_valb rfl hih rfl rfl (fun h205 => ?_) (fun h205 => ?_))
 refine sQ (pNt rfl) rfl (sD (nS (cF rfl ?_)))
 refine tK (nrm_block (nS (tR (sQ (pM rfl) rfl (sP (pure_add rfl rfl (by omega) (by omega)) rfl rfl ?_)))))
 refine sQ (pA rfl) rfl (sD (nrm_loopN (i + 1) ?_ ?_ ?_))
 exact sMk
 exact ⟨by omega, fun j hj hji => by (by_cases he : j = i; (subst he; assumption); exact hf j hj (by omega))⟩
 omega
 refine sQ (pNf rfl) rfl (sD (nS (cT rfl ?_)))
 refine tS (tR (sQ (pA rfl) rfl (sD (nS (tT (rB ?_))))))
 refine rS (ret_loopN (rB (rS (rF1 (rT rfl) ?_))))
 (rw [sShape_go (by omega) (by omega) (hR.trans (by assumption)), sShapeL_f (i := i) (by omega) (by assumption)]; exact ⟨rfl, rfl, rfl⟩)
 refine sD (nS (cF rfl ?_))
 refine tri_exit ?_
 refine ext_seq ?_
 refine ext_loopN ?_
 refine ext_block_eq ?_
 refine nS (tS (tR (sQ (pA rfl) rfl (sD (nS (tT ?_))))))
 refine rF1 (rT rfl) ?_
 (rw [sShape_go (by omega) (by omega) (hR.trans (by assumption)), (sShapeL_iff 40 13 ks _).2 (fun j hj => hf j hj (by omega))]; exact ⟨rfl, rfl, rfl⟩)
 refine aP 23 rfl (pNf rfl) rfl ?_
 refine aP 24 rfl (pPt rfl rfl) rfl ?_
 refine aP 25 rfl (pPf rfl rfl) rfl ?_
 refine aP 26 rfl (pM rfl) rfl ?_
 refine aK' 27 rfl rfl rfl ?_
 refine aK' 28 rfl rfl rfl ?_
 refine aK' 29 rfl rfl rfl ?_
 refine aK' 30 rfl rfl rfl ?_
 refine aK' 31 rfl rfl rfl ?_
 refine aK' 32 rfl rfl rfl ?_
 refine aK' 33 rfl rfl rfl ?_
 refine aK' 34 rfl rfl rfl ?_
 refine aP 35 rfl (pPt rfl rfl) rfl ?_
 refine aD' ?_
 refine nS (cT rfl ?_)
 refine tS (tR (sQ (pA rfl) rfl (sD (nS (tT (rS ?_))))))
 refine rF1 (rT rfl) ?_
 (rw [sShape_no (by rw [hR]; first | omega | exact .inr (.inr (by assumption)) | exact .inr (.inr (by cases R with | false => rfl | true => exact absurd (har rfl) (by omega))))]; exact ⟨rfl, rfl, rfl⟩)
 refine aP 20 rfl (pM rfl) rfl ?_
 refine aK' 21 rfl rfl rfl ?_
 refine aK' 22 rfl rfl rfl ?_
 refine aK' 23 rfl rfl rfl ?_
 refine aP 24 rfl (pPf rfl rfl) rfl ?_
 refine aP 25 rfl (pPf rfl rfl) rfl ?_
 refine aP 26 rfl (pM rfl) rfl ?_
 refine aP 27 rfl (pF0 rfl) rfl ?_
 refine aL 28 rfl (lBs rfl rfl) rfl ?_
 refine aP 29 rfl (pure_neq_t rfl rfl (by omega)) rfl ?_
 refine aP 30 rfl (pM rfl) rfl ?_
 refine aL 31 rfl (lBa rfl rfl) rfl ?_
 refine aO' 32 ?_
 refine one_valb rfl rfl (hl2 (hne (by omega) (by omega))) rfl rfl rfl (fun h293 => ?_) (fun h293 => ?_)
 refine aP 33 rfl (pNt rfl) rfl ?_
 refine aP 34 rfl (pPt rfl rfl) rfl ?_
 refine aP 35 rfl (pPf rfl rfl) rfl ?_
 refine aD' ?_
 refine nS (cF rfl ?_)
 refine tK (nS (tS (tS (tR (sQ (pA rfl) rfl (sD ?_))))))
 refine nS (tri_block ?_)
 (refine tri_loopN (fun (i : Nat) => ⟨[(5, .int .i64 i), (2, .pointer (some ⟨b3, 0, none⟩)), (1, .int .i64 d)], [.blk b3 [.int .i64 k, .string nm, .int .i64 num, .int .i64 tk, .slice pt tks.length ct, .int .i64 fk, .slice pf fks.length cf, .int .i64 lb, .slice p ks.length c]], G⟩) (fun i => i ≤ ks.length ∧ ∀ j (h : j < ks.length), j < i → sShape 40 13 ks[j] (41 - d + 1) = true) (fun i => ks.length - i) 0 ?_ ?_ ?_)
 exact sMk
 exact ⟨by omega, by omega⟩
 (rintro i ⟨hi, hf⟩)
 refine tS (tS (tR (sQ (pM rfl) rfl (sQ (pF0 rfl) rfl (sL (lBs rfl rfl) rfl rfl ?_)))))
 refine sQ (pLn rfl rfl) rfl (sB (pure_lss rfl rfl) rfl rfl (fun h320 => ?_) (fun h320 => ?_))
 refine sD (nS (cT rfl ?_))
 refine tK (nS (tS (tri_block (tS (tR (sQ (pF0 rfl) rfl ?_))))))
 refine sL (lBs rfl rfl) rfl rfl ?_
 refine sQ (pM rfl) rfl ?_
 (obtain ⟨b, o, e, rfl, hl, hat, hre, hgb⟩ := hsl.kidTm hkl (i := i) (by omega) (by omega); refine sP (pIN rfl rfl rfl (by omega)) rfl rfl ?_)
 refine sL (load_a rfl rfl (hat _) hl) rfl rfl ?_
 refine sQ (pM rfl) rfl (sP (pure_sub rfl rfl (by omega) (by omega)) rfl rfl ?_)
 (have hih := ih ks[i] (List.getElem_mem (by omega)) (d - 1) G _ (by omega) hre; rw [show 41 - (d - 1) = 41 - d + 1 by omega] at hih; refine seq_valb rfl hih rfl rfl (fun h337 => ?_) (fun h337 => ?_))
 refine sQ (pNt rfl) rfl (sD (nS (cF rfl ?_)))
 refine tK (nrm_block (nS (tR (sQ (pM rfl) rfl (sP (pure_add rfl rfl (by omega) (by omega)) rfl rfl ?_)))))
 refine sQ (pA rfl) rfl (sD (nrm_loopN (i + 1) ?_ ?_ ?_))
 exact sMk
 exact ⟨by omega, fun j hj hji => by (by_cases he : j = i; (subst he; assumption); exact hf j hj (by omega))⟩
 omega
 refine sQ (pNf rfl) rfl (sD (nS (cT rfl ?_)))
 refine tS (tR (sQ (pA rfl) rfl (sD (nS (tT (rB ?_))))))
 refine rS (ret_loopN (rB (rS (rF1 (rT rfl) ?_))))
 (rw [sShape_go (by omega) (by omega) (hR.trans (by assumption)), sShapeL_f (i := i) (by omega) (by assumption)]; exact ⟨rfl, rfl, rfl⟩)
 refine sD (nS (cF rfl ?_))
 refine tri_exit ?_
 refine ext_seq ?_
 refine ext_loopN ?_
 refine ext_block_eq ?_
 refine nS (tS (tR (sQ (pA rfl) rfl (sD (nS (tT ?_))))))
 refine rF1 (rT rfl) ?_
 (rw [sShape_go (by omega) (by omega) (hR.trans (by assumption)), (sShapeL_iff 40 13 ks _).2 (fun j hj => hf j hj (by omega))]; exact ⟨rfl, rfl, rfl⟩)
 refine aP 33 rfl (pNf rfl) rfl ?_
 refine aP 34 rfl (pPt rfl rfl) rfl ?_
 refine aP 35 rfl (pPf rfl rfl) rfl ?_
 refine aD' ?_
 refine nS (cT rfl ?_)
 refine tS (tR (sQ (pA rfl) rfl (sD (nS (tT (rS ?_))))))
 refine rF1 (rT rfl) ?_
 (rw [sShape_no (by rw [hR]; first | omega | exact .inr (.inr (by assumption)) | exact .inr (.inr (by cases R with | false => rfl | true => exact absurd (har rfl) (by omega))))]; exact ⟨rfl, rfl, rfl⟩)
theorem sShape_inv {D N : Int} {k : Int} {nm : ByteArray} {num : Int} {ty fr : Ty} {lb : Int} {ks : List Tm} {d : Int} (h : sShape D N (.mk k nm num ty fr lb ks) d = true) : d ≤ D ∧ ∀ i, (hi : i < ks.length) → sShape D N ks[i] (d + 1) = true := by
 rw [sShape] at h
 simp only [Bool.and_eq_true, decide_eq_true_eq] at h
 exact ⟨h.1.1.1, (sShapeL_iff D N ks _).1 h.2⟩
mutual
theorem mScan_shape (M D N : Int) : ∀ (t : Tm) (deep c : Int), c ≤ M → ((mScan M D N t deep c).1 = true ↔ sShape D N t deep = true ∧ c + tmCount t ≤ M)
 | .mk k nm num ty fr lb ks, deep, c, hc => by
  rw [mScan, tmCount]
  by_cases h : c + 1 > M ∨ deep > D ∨ k = N ∨ tmNode k nm num ty fr lb ks.length = false
  ·rw [if_pos h]
   constructor
   ·intro h; cases h
   ·rintro ⟨h1, h2⟩
    rcases h with h | h
    ·omega
    ·rw [sShape_no h] at h1; cases h1
  ·rw [if_neg h]
   have hn : tmNode k nm num ty fr lb ks.length = true := by
    cases hx : tmNode k nm num ty fr lb ks.length with
    | true => rfl
    | false => exact absurd (Or.inr (Or.inr (Or.inr hx))) h
   rw [sShape_go (by omega) (by omega) hn, mScanL_shape M D N ks (deep + 1) (c + 1) (by omega)]
   constructor
   ·rintro ⟨a, b⟩; exact ⟨a, by omega⟩
   ·rintro ⟨a, b⟩; exact ⟨a, by omega⟩
theorem mScanL_shape (M D N : Int) : ∀ (ts : List Tm) (deep c : Int), c ≤ M → ((mScanL M D N ts deep c).1 = true ↔ sShapeL D N ts deep = true ∧ c + tmCountL ts ≤ M)
 | [], deep, c, hc => by simp [mScanL, sShapeL, tmCountL]; omega
 | t :: ts, deep, c, hc => by
  have h0 := mScan_shape M D N t deep c hc
  rw [mScanL, sShapeL, tmCountL, Bool.and_eq_true]
  by_cases h : (mScan M D N t deep c).1 = true
  ·rw [if_pos h, mScan_count M D N t deep c h, mScanL_shape M D N ts deep _ (h0.1 h).2]
   have := h0.1 h
   constructor
   ·rintro ⟨a, b⟩; exact ⟨⟨this.1, a⟩, by omega⟩
   ·rintro ⟨⟨_, a⟩, b⟩; exact ⟨a, by omega⟩
  ·rw [if_neg h]
   constructor
   ·intro h'; cases h'
   ·rintro ⟨⟨a, _⟩, b⟩
    exact absurd (h0.2 ⟨a, by omega⟩) h
end
theorem castValid_iff (t : Tm) : castValid t = true ↔ sShape 40 13 t 1 = true ∧ tmCount t ≤ 200 := by
 have := mScan_shape 200 40 13 t 1 0 (by omega)
 rw [castValid, this]
 constructor
 ·rintro ⟨a, b⟩; exact ⟨a, by omega⟩
 ·rintro ⟨a, b⟩; exact ⟨a, by omega⟩
theorem l2Count_fn (D N : Int) : ∀ (t : Tm) (d : Int) (G : IM) (cells : List Value), d ≤ 40 → sShape D N t (D + 1 - d) = true → tmCount t ≤ 4294967296 → RTm G t cells →
  Fn Tryz.prog 65 [.agg ⟨cells⟩, .int .i64 d] [] G (Val (.int .i64 (tmCount t : Int)) G) := by
 refine Tm.ind fun k nm num ty fr lb ks ih d G cells hd hv hcnt hr => ?_
 have hone := hr.one
 obtain ⟨hv1, hv2⟩ := sShape_inv hv
 obtain ⟨tk, tks⟩ := ty
 obtain ⟨fk, fks⟩ := fr
 obtain ⟨pt, ct, pf, cf, p, c, es, rfl, hk, hnum, hlb, hty, hfr, hsl, hkl⟩ := hr.open9
 have hn := hsl.le
 clear hr
 rw [tmCount] at hcnt ⊢
 refine fn_enter Tryz.func65 rfl Tryz.ntmps65 Tryz.results65 rfl ?_
 intro w0
 refine tS (tR ?_)
 refine sE (step_box_a rfl rfl) rfl (fun b3 => ?_)
 refine sQ (pA rfl) rfl (sD (nS (tS (tR (sQ (pA rfl) rfl (sD ?_))))))
 refine nS (tS (tS (tR (sQ (pA rfl) rfl (sD (nS ?_))))))
 refine tri_block ?_
 (refine tri_loopN (fun (i : Nat) => ⟨[(6, .int .i64 i), (5, .int .i64 ((tmCountL (ks.take i) + 1 : Nat) : Int)), (2, .pointer (some ⟨b3, 0, none⟩)), (1, .int .i64 d)], [.blk b3 [.int .i64 k, .string nm, .int .i64 num, .int .i64 tk, .slice pt tks.length ct, .int .i64 fk, .slice pf fks.length cf, .int .i64 lb, .slice p ks.length c]], G⟩) (fun i => i ≤ ks.length) (fun i => ks.length - i) 0 ?_ ?_ ?_)
 exact sMk
 exact Nat.zero_le _
 (rintro i hi)
 refine tS (tS (tR (sQ (pM rfl) rfl (sQ (pF0 rfl) rfl (sL (lBs rfl rfl) rfl rfl ?_)))))
 refine sQ (pLn rfl rfl) rfl (sB (pure_lss rfl rfl) rfl rfl (fun h30 => ?_) (fun h30 => ?_))
 refine sQ (pM rfl) rfl (sQ (pM rfl) rfl (sP (pure_gtr_t rfl rfl (by omega)) rfl rfl ?_))
 refine sQ (pPt rfl rfl) rfl (sD (nS (cT rfl ?_)))
 refine tK (nS (tS (tri_block (tR (sQ (pM rfl) rfl (sQ (pF0 rfl) rfl ?_))))))
 refine sL (lBs rfl rfl) rfl rfl ?_
 refine sQ (pM rfl) rfl ?_
 (obtain ⟨b, o, e, rfl, hl, hat, hre, hgb⟩ := hsl.kidTm hkl (i := i) (by omega) (by omega); have htk := tmCountL_take (ks := ks) (i := i) (by omega); refine sP (pIN rfl rfl rfl (by omega)) rfl rfl ?_)
 refine sL (load_a rfl rfl (hat _) hl) rfl rfl ?_
 refine sQ (pM rfl) rfl (sP (pure_sub rfl rfl (by omega) (by omega)) rfl rfl ?_)
 (have hvk := hv2 i (by omega); rw [show D + 1 - d + 1 = D + 1 - (d - 1) by omega] at hvk; refine seq_val rfl (ih ks[i] (List.getElem_mem (by omega)) (d - 1) G _ (by omega) hvk (by omega) hre) rfl rfl ?_)
 refine sP (pure_add rfl rfl (by omega) (by omega)) rfl rfl ?_
 refine sQ (pA rfl) rfl (sD (nrm_block (nS (tR (sQ (pM rfl) rfl (sP (pure_add rfl rfl (by omega) (by omega)) rfl rfl ?_))))))
 refine sQ (pA rfl) rfl (sD ?_)
 (refine nrm_loopN (i + 1) ?_ ?_ ?_; rw [show ((tmCountL (ks.take (i + 1)) + 1 : Nat) : Int) = ((tmCountL (ks.take i) + 1 : Nat) : Int) + (tmCount ks[i] : Int) from by rw [tmCountL_succ (by omega)]; omega])
 exact sMk
 omega
 omega
 refine sQ (pM rfl) rfl (sK rfl rfl (sK rfl rfl (sQ (pPf rfl rfl) rfl (sD (nS (cF rfl ?_))))))
 refine tri_exit ?_
 refine ext_seq ?_
 refine ext_loopN ?_
 refine ext_block_eq ?_
 refine nS (tS (tR (sQ (pM rfl) rfl (sQ (pA rfl) rfl (sD (nS ?_))))))
 refine tT (rF1 (rT rfl) ?_)
 (obtain rfl : i = ks.length := (by omega); rw [List.take_length]; exact ⟨rfl, rfl, rfl⟩)
theorem sCastValid_fn (t : Tm) (G : IM) (cells : List Value) (hcnt : tmCount t ≤ 4294967296) (hr : RTm G t cells) :
  Fn Tryz.prog 86 [.agg ⟨cells⟩] [] G (Val (.bool (castValid t)) G) := by
 have hl := hr.len
 have hv := l4Shape_fn t 40 G cells (by omega) hr
 have hc := fun h => l2Count_fn 40 13 t 40 G cells (by omega) h hcnt hr
 have hi := castValid_iff t
 obtain ⟨R, hR⟩ : ∃ R, castValid t = R := ⟨_, rfl⟩
 rw [hR] at hi ⊢
 refine fn_enter Tryz.func86 rfl Tryz.ntmps86 Tryz.results86 rfl ?_
 intro w0
 refine tS (tR ?_)
 refine sE (step_box_a rfl rfl) rfl (fun b3 => ?_)
 refine sQ (pA rfl) rfl (sD (nS (tS (tR (sL (load_a rfl rfl (at_blk_all (by repeat first | exact mH | apply mT)) (by assumption)) rfl rfl ?_)))))
 refine seq_valb rfl (hv) rfl rfl (fun h10 => ?_) (fun h10 => ?_)
 refine sQ (pM rfl) rfl (sL (load_a rfl rfl (at_blk_all (by repeat first | exact mH | apply mT)) (by assumption)) rfl rfl ?_)
 refine seq_val rfl (hc (by assumption)) rfl rfl ?_
 refine sB (pure_leq rfl rfl) rfl rfl (fun h14 => ?_) (fun h14 => ?_)
 refine sQ (pPt rfl rfl) rfl (sQ (pA rfl) rfl (sD (nS (tT (rF1 (rT rfl) ?_)))))
 exact ⟨rfl, by rw [hi.2 ⟨by assumption, by omega⟩], rfl⟩
 refine sQ (pPt rfl rfl) rfl (sQ (pA rfl) rfl (sD (nS (tT (rF1 (rT rfl) ?_)))))
 exact ⟨rfl, by (cases R with | false => rfl | true => (exfalso; have h0 := hi.1 rfl; first | omega | simp_all)), rfl⟩
 refine sQ (pM rfl) rfl (sK rfl rfl (sK rfl rfl (sK rfl rfl (sQ (pPf rfl rfl) rfl (sQ (pA rfl) rfl (sD ?_))))))
 refine nS (tT (rF1 (rT rfl) ?_))
 exact ⟨rfl, by (cases R with | false => rfl | true => (exfalso; have h0 := hi.1 rfl; first | omega | simp_all)), rfl⟩
theorem Sw.same {hp hp' : List Ent} {e : Ent} (h : Sw hp e e hp') : hp' = hp := by
 generalize he : e = e' at h
 have : ∀ {hp e e' hp'}, Sw hp e e' hp' → e = e' → hp' = hp := by
  intro hp e e' hp' h
  induction h with
  | here => rintro rfl; rfl
  | there _ ih => intro he; rw [ih he]
 subst he
 exact this h rfl
section
variable {P : Program} {Γ : Ctx} {env : Env} {hp : List Ent} {G : IM} {ty : TypeId}
theorem step_appendSl {d : Nat} {x y : Operand} {t el : TypeId} {i : TyR} {sz by' : Nat} {zs : List Value} [hI : TyI P t i] {ie : TyR} [hEl : TyI P el ie] (hd' : i.desc = .slice el) [hE : TySz P el sz by' zs] {p q : Option Addr} {c n m c2 : Nat} {cs news : List Value} {hp' : Option Addr → Nat → List Ent}
  (hd : Nat.blt d Γ.n = true) (hx : evo env x = some (.slice p n c)) (hy : evo env y = some (.slice q m c2)) (hsz : Nat.blt 0 sz = true)
  (hm : ∀ p' c', Sw hp (.slc p c el sz n cs) (.slc p' c' el sz (n + m) (cs ++ news)) (hp' p' c'))
  (hS : Sl G q m c2 sz news) (h1 : ∀ u ∈ news, u.oneCell' = true) (hc : n ≤ c)
  (h63 : n + m ≤ maxLen) (hb : (n + m) * by' ≤ 140737488355328) :
  StepOp P Γ ⟨env, hp, G⟩ (some d) (.call ⟨.builtin .append, ⟨[x, y]⟩, ⟨[t, t]⟩⟩) ty (vfp p) (fun σ' => ∃ p' c', σ' = ⟨(d, .slice p' (n + m) c') :: env, hp' p' c', G⟩) := by
 obtain ⟨hl, _, _, hat⟩ := hS
 rcases Nat.eq_zero_or_pos m with rfl | hm0
 ·obtain rfl : news = [] := List.length_eq_zero_iff.1 (by omega)
  have hpu := pure_append0 (P := P) (Γ := Γ) (hp := hp) (G := G) (ty := ty) (t := t) (el := el) hd' hx hy hc
  refine ⟨fun a w hs pos af gd Q next hn => ?_⟩
  simp only [Oper.wp, hpu.run a w hs, Oper.upon]
  refine hn _ _ _ (hs.put d _ (by simpa using hd) hs.res) (Ext.refl _ _) ⟨p, c, ?_⟩
  have h0 := hm p c
  simp only [Nat.add_zero, List.append_nil] at h0 ⊢
  rw [h0.same]
 ·obtain ⟨b, o, full, rfl, hg, hv⟩ := hat.resolve_left (by omega)
  exact step_append hd' hd hx hy hsz hm (at_im hg hv) hl h1 h63 hb
variable {K : Po} {ops : Array Oper} {rest : List Oper} {pos : String} {af : Array Edge} {gd : Option (Nat × Bool)}
theorem seq_appendSl {d : Nat} {x y : Operand} {t el : TypeId} {i : TyR} {sz by' : Nat} {zs : List Value} [hI : TyI P t i] {ie : TyR} [hEl : TyI P el ie] [hE : TySz P el sz by' zs] {p q : Option Addr} {c n m c2 : Nat} {cs news : List Value} {hp' : Option Addr → Nat → List Ent}
  (hd' : i.desc = .slice el) (hd : Nat.blt d Γ.n = true) (hx : evo env x = some (.slice p n c)) (hy : evo env y = some (.slice q m c2)) (hsz : Nat.blt 0 sz = true)
  (hm : ∀ p' c', Sw hp (.slc p c el sz n cs) (.slc p' c' el sz (n + m) (cs ++ news)) (hp' p' c'))
  (hS : Sl G q m c2 sz news) (h1 : ∀ u ∈ news, u.oneCell' = true) (hc : n ≤ c)
  (h63 : n + m ≤ maxLen) (hb : (n + m) * by' ≤ 140737488355328) (hw : wantG ops env gd = some true)
  (k : ∀ p' c', TriL P Γ ops rest K ⟨(d, .slice p' (n + m) c') :: env, hp' p' c', G⟩) : TriL P Γ ops (⟨some d, .call ⟨.builtin .append, ⟨[x, y]⟩, ⟨[t, t]⟩⟩, ty, pos, af, gd⟩ :: rest) K ⟨env, hp, G⟩ :=
 seq_step (step_appendSl hd' hd hx hy hsz hm hS h1 hc h63 hb) hw (by rintro _ ⟨p', c', rfl⟩; exact k p' c')
theorem one_appendSl {H : List (Nat × Nat)} {fuel : Nat} {listed l' : List Bool} {j d : Nat} {cs : List Value} {x y : Operand} {t el : TypeId} {i : TyR} {sz by' : Nat} {zs : List Value} [hI : TyI P t i] {ie : TyR} [hEl : TyI P el ie] [hE : TySz P el sz by' zs] {p q : Option Addr} {c n m c2 : Nat} {news : List Value} {hp' : Option Addr → Nat → List Ent} {H' : List (Nat × Nat)}
  (hi : ops[j]? = some ⟨some d, .call ⟨.builtin .append, ⟨[x, y]⟩, ⟨[t, t]⟩⟩, ty, pos, af, gd⟩) (hd' : i.desc = .slice el)
  (hd : Nat.blt d Γ.n = true) (hx : evo env x = some (.slice p n c)) (hy : evo env y = some (.slice q m c2)) (hsz : Nat.blt 0 sz = true)
  (hm : ∀ p' c', Sw hp (.slc p c el sz n cs) (.slc p' c' el sz (n + m) (cs ++ news)) (hp' p' c'))
  (hS : Sl G q m c2 sz news) (h1 : ∀ u ∈ news, u.oneCell' = true) (hc : n ≤ c)
  (h63 : n + m ≤ maxLen) (hb : (n + m) * by' ≤ 140737488355328) (hw : wantG ops env gd = some true) (hl : listed.set j true = l')
  (hok : HmOk ops j hp G (.slc p c el sz n cs) H H')
  (k : ∀ p' c', AnyL P Γ ops K H' fuel l' ⟨(d, .slice p' (n + m) c') :: env, hp' p' c', G⟩) : One P Γ ops K H fuel listed j ⟨env, hp, G⟩ :=
 one_stepM hi (step_appendSl hd' hd hx hy hsz hm hS h1 hc h63 hb) hw hl (fun _ _ hs => hok.spec hs) hok.filter (by rintro _ ⟨p', c', rfl⟩; exact k p' c')
/-- The callee is handed an own entry; what it hands back comes in its place. -/
theorem one_take {H H' : List (Nat × Nat)} {fuel : Nat} {listed l' : List Bool} {j d : Nat} {f : FuncId} [hF : FunI P f] {xs : List Operand} {ats : Array TypeId} {vs : List Value} {e : Ent} {rst : List Ent} {post : IM → Value → List Ent → Prop}
  (hi : ops[j]? = some ⟨some d, .call ⟨.value (.func f), ⟨xs⟩, ats⟩, ty, pos, af, gd⟩) (hx : evl env xs = some vs) (h : Fn P f vs [e] G post) (hp' : hp.Perm ([e] ++ rst)) (hw : wantG ops env gd = some true) (hd : Nat.blt d Γ.n = true) (hl : listed.set j true = l')
  (hok : HmOk ops j hp G e H H')
  (k : ∀ v G' outs, IMle G G' → post G' v outs → AnyL P Γ ops K H' fuel l' ⟨(d, v) :: env, outs ++ rst, G'⟩) : One P Γ ops K H fuel listed j ⟨env, hp, G⟩ :=
 one_stepM hi (step_call_own hx h hp' hd) hw hl (fun _ _ hs => by simpa [Fp] using hok.spec hs) hok.filter (by rintro _ ⟨v, G', outs, rfl, hle, hq⟩; exact k v G' outs hle hq)
end
end Gw
end Go.Proofs.YtmnfamimopcldaaGreatDoor
