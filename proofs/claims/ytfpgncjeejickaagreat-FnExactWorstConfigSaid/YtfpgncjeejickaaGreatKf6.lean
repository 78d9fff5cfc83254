/-
  The reference's typing, exactly: meets, the types of nodes.
-/
import Derived.Test.YtfpgncjeejickaaGreatKf5
import Derived.Test.YtfpgncjeejickaaGreatKf4
import Derived.Test.YtfpgncjeejickaaGreatKf3
import Derived.Test.YtfpgncjeejickaaGreatKf2
import Derived.Lib.Slices
set_option linter.unusedVariables false
set_option linter.unusedSimpArgs false
set_option maxHeartbeats 0
set_option maxRecDepth 100000
set_option synthInstance.maxSize 4000
set_option synthInstance.maxHeartbeats 0
namespace Go.Proofs.YtfpgncjeejickaaGreat
open Go Go.RowKit
namespace Gw
theorem A4m : ∀ (xs ys : List Ty), xs.length = ys.length → (S7 xs ys).length = xs.length
 | [], [], _ => rfl
 | a :: xs, b :: ys, h => by simp only [S7, List.length_cons]; rw [A4m xs ys (by simpa using h)]
 | [], b :: ys, h => by simp at h
 | a :: xs, [], h => by simp at h
theorem A5N : ∀ (xs ys : List Ty) (i : Nat) (h : i < xs.length) (h' : i < ys.length) (hl : i < (S7 xs ys).length), (S7 xs ys)[i] = T6 xs[i] ys[i]
 | [], _, i, h, _, _ => by simp at h
 | a :: xs, [], i, _, h', _ => by simp at h'
 | a :: xs, b :: ys, 0, _, _, _ => by simp [S7]
 | a :: xs, b :: ys, i + 1, h, h', hl => by
  simp only [S7, List.getElem_cons_succ]
  exact A5N xs ys i (by simpa using h) (by simpa using h') _
theorem B3n {xs ys : List Ty} {i : Nat} (hl : xs.length = ys.length) (h : i < xs.length) : (S7 xs ys).take (i + 1) = (S7 xs ys).take i ++ [T6 xs[i] (ys[i]'(by omega))] := by
 rw [List.take_succ_eq_append_getElem (by rw [A4m _ _ hl]; exact h), A5N _ _ i h (by omega)]
theorem B3o : ∀ (a b : Ty) (G : IM) (ca cb : List Value), J5 a b = true → E6 a → E6 b → B6 G a ca → B6 G b cb → Fn Tryz.prog 234 [.agg ⟨ca⟩, .agg ⟨cb⟩] [] G (J8 fun G' v => ∃ cells, v = .agg ⟨cells⟩ ∧ B6 G' (T6 a b) cells) := by
 refine Ty.ind fun ak aks ih b G ca cb hc ha hb hra hrb => ?_
 obtain ⟨bk, bks⟩ := b
 have hka := ha.kid
 have hkb := hb.kid
 have hca := P6 _ G _ ha.small hra
 have hcb := P6 _ G _ hb.small hrb
 have hcc : ak ≠ 1 → bk ≠ 1 → aks.length = bks.length ∧ ∀ i, (h : i < aks.length) → (h' : i < bks.length) → J5 aks[i] bks[i] = true := by
  intro h1 h2
  rw [W0, decide_eq_false h1, decide_eq_false h2] at hc
  simp only [Bool.false_or, Bool.and_eq_true, decide_eq_true_eq] at hc
  exact (A1v _ _).1 hc.2
 rw [A2A]
 obtain ⟨pa, cca, ea, rfl, hak, hsla, hkla⟩ := hra.open
 obtain ⟨pb, ccb, eb, rfl, hbk, hslb, hklb⟩ := hrb.open
 simp only [Ty.k, Ty.ks] at hak hsla hkla hbk hslb hklb ⊢
 have hna := hsla.le
 have hnb := hslb.le
 have hl2 := ha.two
 refine B4 Tryz.func234 rfl Tryz.ntmps234 Tryz.results234 rfl ?_
 intro w0
 refine tS (tR ?_)
 refine sE (C1 rfl rfl) rfl (fun b3 => ?_)
 refine sE (C1 rfl rfl) rfl (fun b4 => ?_)
 refine sE (A5 rfl) rfl (fun b5 => ?_)
 refine C3 ?_
 refine sB (qE rfl rfl) rfl rfl (fun h13 => ?_) (fun h13 => ?_)
 refine sD (nS (qT rfl (tS (tR (sL (A3 rfl rfl) rfl rfl ?_)))))
 (refine D2 rfl (by first | exact hcb | exact hca) rfl rfl (fun v G1 hle1 hh => ?_); obtain ⟨cs1, F1, rfl, hs1, hn1⟩ := hh; obtain ⟨p1, c1, rfl, _⟩ := hs1.open; have hr1 := hs1.R.mono (B2.le G1 G))
 refine J7 ?_
 refine sD (nS (tT (rS ?_)))
 refine E1 (rC rfl (A3 rfl rfl)) ?_
 (rw [if_pos (by omega)]; exact ⟨rfl, _, rfl, hr1⟩)
 refine I8 ?_
 refine sB (qE rfl rfl) rfl rfl (fun h38 => ?_) (fun h38 => ?_)
 refine sD (nS (qT rfl (tS (tR (sL (A3 rfl rfl) rfl rfl ?_)))))
 (refine D2 rfl (by first | exact hcb | exact hca) rfl rfl (fun v G1 hle1 hh => ?_); obtain ⟨cs1, F1, rfl, hs1, hn1⟩ := hh; obtain ⟨p1, c1, rfl, _⟩ := hs1.open; have hr1 := hs1.R.mono (B2.le G1 G))
 refine J7 ?_
 refine sD (nS (tT (rS ?_)))
 refine E1 (rC rfl (A3 rfl rfl)) ?_
 (rw [if_neg (by omega), if_pos (by omega)]; exact ⟨rfl, _, rfl, hr1⟩)
 refine I8 ?_
 refine sE (A5 rfl) rfl (fun b63 => ?_)
 refine J7 ?_
 refine sD (nS (tS (tS (tR (sQ (qA rfl) rfl (sD (nS ?_)))))))
 refine B3 ?_
 (obtain ⟨hlab, hcab⟩ := hcc (by omega) (by omega); refine S2 25 2 ?_; refine I1 (fun (x : Nat × Option Addr × Nat × List Ty × List (List Value) × IM) => ⟨[(6, .int .i64 x.1), (5, .pointer (some ⟨b63, 0, none⟩)), (4, .pointer (some ⟨b5, 0, none⟩)), (2, .pointer (some ⟨b3, 0, none⟩)), (3, .pointer (some ⟨b4, 0, none⟩))], [.blk b63 [.int .i64 ak, .slice x.2.1 x.1 x.2.2.1], .slc x.2.1 x.2.2.1 25 2 x.1 x.2.2.2.2.1.flatten, .blk b5 [.int .i64 0, .slice none 0 0], .blk b4 [.int .i64 bk, .slice pb bks.length ccb], .blk b3 [.int .i64 ak, .slice pa aks.length cca]], x.2.2.2.2.2⟩) (fun x => x.1 ≤ aks.length ∧ B7 G x.2.2.2.2.2 ∧ x.2.2.2.1.length = x.1 ∧ C2 x.2.2.2.2.2 x.2.2.2.1 x.2.2.2.2.1 ∧ x.2.2.2.1 = (S7 aks bks).take x.1) (fun x => aks.length - x.1) (0, none, 0, [], [], G) ?_ ?_ ?_)
 (simp only [H5]; exact C9)
 (exact ⟨by simp, B7.refl _, rfl, by simp [C2], rfl⟩)
 (rintro ⟨i, pn, cn, us, es', Gi⟩ ⟨hi, hle, hlu, hst, hus⟩; simp only [] at hi hle hlu hst hus ⊢; replace hsla := hsla.mono hle; replace hkla := hkla.mono hle; replace hslb := hslb.mono hle; replace hklb := hklb.mono hle)
 refine C3 ?_
 refine sB (I2 rfl rfl) rfl rfl (fun h85 => ?_) (fun h85 => ?_)
 refine sD (nS (qT rfl (tK (nS (tS ?_)))))
 refine B3 ?_
 (obtain ⟨b, o, q0, d0, hp0, hat0, hre0, hg0⟩ := hsla.kidTy hkla (i := i) (by omega) (by omega); obtain ⟨b', o', q1, d1, hp1, hat1, hre1, hg1⟩ := hslb.kidTy hklb (i := i) (by omega) (by omega); subst hp0; subst hp1; have hih := ih aks[i] (List.getElem_mem (by omega)) bks[i] Gi _ _ (hcab i (by omega) (by omega)) (hka _ (List.getElem_mem (by omega))) (hkb _ (List.getElem_mem (by omega))) hre0 hre1; refine D5 D6 rfl ?_)
 refine J6 (i := 0) (l' := [tt,ff,ff,ff,ff,ff,ff,ff,ff,ff,ff,ff,ff,ff,ff,ff,ff]) rfl D0 (B0 rfl) rfl (by kernel_rfl) rfl rfl ?_
 refine aL 1 rfl (B9 rfl rfl) rfl ?_
 refine aP 2 rfl (B0 rfl) rfl ?_
 refine aL 3 rfl (B9 rfl rfl) rfl ?_
 refine aP 4 rfl (qM rfl) rfl ?_
 refine aP 5 rfl (A8 rfl rfl rfl (by omega)) rfl ?_
 refine aL 6 rfl (A0 rfl rfl (hat0 _) rfl) rfl ?_
 refine aP 7 rfl (B0 rfl) rfl ?_
 refine aL 8 rfl (B9 rfl rfl) rfl ?_
 refine aP 9 rfl (qM rfl) rfl ?_
 refine aP 10 rfl (A8 rfl rfl rfl (by omega)) rfl ?_
 refine aL 11 rfl (A0 rfl rfl (hat1 _) rfl) rfl ?_
 refine A2 12 ?_
 (refine E9 rfl rfl hih rfl rfl rfl (fun v G1 hle1 hh => ?_); obtain ⟨cells', rfl, hru⟩ := hh; generalize hu : T6 aks[i] bks[i] = u at hru; obtain ⟨p3, c3, es3, rfl, _⟩ := hru.open)
 refine A2 13 ?_
 (refine E3 rfl (D7 rfl rfl rfl (by omega) (by unfold maxLen; omega) rfl) rfl rfl ?_; rintro _ ⟨b109, rfl⟩)
 refine A2 14 ?_
 refine U2 rfl rfl rfl rfl rfl rfl (fun _ _ => by repeat (first | exact Sw.here | apply Sw.there)) (N8 (by repeat first | exact mH | apply mT)) rfl (by simp [Value.oneCell']) (by unfold maxLen; omega) (by omega) rfl rfl (by repeat (first | exact C6.nil | apply C6.dep (by decide +kernel) | apply C6.blk (by decide +kernel) (by repeat (first | exact Pk.here | apply Pk.there)) (by repeat first | exact mH | apply mT))) (fun pn' cn' => ?_)
 refine aP 15 rfl (B0 rfl) rfl ?_
 refine A2 16 ?_
 refine Y2 rfl rfl rfl rfl rfl rfl rfl rfl (by decide +kernel) (by repeat first | exact Sw.here | apply Sw.there) (by rfl) ?_
 refine C5 (P4 (nS (tR (sQ (qM rfl) rfl ?_))))
 refine sP (E8 rfl rfl (by omega) (by omega)) rfl rfl ?_
 refine sQ (qA rfl) rfl (sD ?_)
 refine I4 (i + 1, pn', cn', us ++ [u], es' ++ [[.int .i64 u.k, .slice p3 u.ks.length c3]], G1) ?_ ?_ ?_
 (simp only [H5]; exact C9)
 (dsimp only; exact ⟨by omega, hle.trans hle1, by simp [hlu], C2.snoc (hst.mono hle1) hru, by rw [B3n hlab (by omega), ← hus, hu]⟩)
 (show aks.length - (i + 1) < aks.length - i; omega)
 refine L5 ?_
 (refine H7 (by repeat (first | exact Pk.here | apply Pk.there)) (fun G2 hle2 hsl2 hno2 => ?_); obtain rfl : i = aks.length := (by omega))
 refine tT ?_
 refine E1 (rC rfl (A3 rfl rfl)) ?_
 (rw [List.take_of_length_le (by rw [A4m _ _ hlab]; omega)] at hus; rw [if_neg (by omega), if_neg (by omega), ← hus]; exact ⟨rfl, _, rfl, (hst.mono hle2).ty hlu hsl2 hak⟩)
theorem gD {ts : List Ty} {i : Nat} (h : i < ts.length) : ts.getD i B5 = ts[i] := by rw [List.getD_eq_getElem?_getD, List.getElem?_eq_getElem h, Option.getD_some]
section
variable {cx : Cx} {k : Int} {nm : ByteArray} {ty : Ty} {ts : List Ty}
theorem A81 (h : 1 < ts.length) : V5 cx 6 nm ty ts = match R1 4 ts[0] with | some (a, b) => if J5 ts[1] a = true then some b else none | none => none := by
 unfold V5 O0
 rw [gD (i := 0) (by omega), gD (i := 1) h]
 simp only [show ¬((6 : Int) = 1) by decide, show ¬((6 : Int) = 2) by decide, show ¬((6 : Int) = 3 ∨ (6 : Int) = 4) by decide, show ¬((6 : Int) = 5) by decide, if_false, if_true]
 cases R1 4 ts[0] with
 | none => rfl
 | some p =>
  obtain ⟨a, b⟩ := p
  by_cases hc : J5 ts[1] a = true
  ·simp [hc]
  ·simp [hc]
theorem A4n (hk : k = 7 ∨ k = 8) (h : 1 < ts.length) : V5 cx k nm ty ts = if J5 ts[0] R9 = true ∧ J5 ts[1] R9 = true then some (if k = 8 then X3 else R9) else none := by
 unfold V5 O0
 rw [gD (i := 0) (by omega), gD (i := 1) h, if_neg (by omega), if_neg (by omega), if_neg (by omega), if_neg (by omega), if_neg (by omega), if_pos hk]
 by_cases hc : J5 ts[0] R9 = true ∧ J5 ts[1] R9 = true
 ·rw [if_pos hc, if_pos hc]; simp only; rw [if_neg (by omega)]
 ·rw [if_neg hc, if_neg hc]
theorem A82 (h : 2 < ts.length) : V5 cx 9 nm ty ts = if J5 ts[0] X3 = true ∧ J5 ts[1] ts[2] = true then some (T6 ts[1] ts[2]) else none := by
 unfold V5 O0
 rw [gD (i := 0) (by omega), gD (i := 1) (by omega), gD (i := 2) h, if_neg (by omega), if_neg (by omega), if_neg (by omega), if_neg (by omega), if_neg (by omega), if_neg (by omega), if_pos rfl]
 by_cases hc : J5 ts[0] X3 = true ∧ J5 ts[1] ts[2] = true
 ·rw [if_pos hc, if_pos hc]; simp
 ·rw [if_neg hc, if_neg hc]
theorem B3p (h : 1 < ts.length) : V5 cx 10 nm ty ts = if F4 (.mk 5 [ts[0], ts[1]]) = true then some (.mk 5 [ts[0], ts[1]]) else none := by
 unfold V5 O0
 rw [gD (i := 0) (by omega), gD (i := 1) h, if_neg (by omega), if_neg (by omega), if_neg (by omega), if_neg (by omega), if_neg (by omega), if_neg (by omega), if_neg (by omega), if_pos rfl]
 cases hv : F4 (.mk 5 [ts[0], ts[1]]) <;> simp [hv]
theorem B3q (h : 0 < ts.length) : V5 cx 13 nm ty ts = if J5 ts[0] ty = true then some ty else none := by
 unfold V5 O0
 rw [gD (i := 0) h, if_neg (by omega), if_neg (by omega), if_neg (by omega), if_neg (by omega), if_neg (by omega), if_neg (by omega), if_neg (by omega), if_neg (by omega), if_pos rfl]
 by_cases hc : J5 ts[0] ty = true
 ·rw [if_pos hc, if_pos hc]; simp
 ·rw [if_neg hc, if_neg hc]
theorem A4o (hk : k = 11 ∨ k = 12) (h : 0 < ts.length) : V5 cx k nm ty ts = match R1 5 ts[0] with | some (a, b) => some (if k = 12 then b else a) | none => none := by
 unfold V5 O0
 rw [gD (i := 0) h, if_neg (by omega), if_neg (by omega), if_neg (by omega), if_neg (by omega), if_neg (by omega), if_neg (by omega), if_neg (by omega), if_neg (by omega), if_neg (by omega)]
 cases R1 5 ts[0] with
 | none => rfl
 | some p =>
  obtain ⟨a, b⟩ := p
  simp only
  rw [if_neg (by omega)]
end
theorem B3r : ∀ (a b : Ty), J5 a b = true → E6 a → E6 b → E6 (T6 a b) := by
 refine Ty.ind fun k ks ih b hc ha hb => ?_
 obtain ⟨k', ks'⟩ := b
 rw [A2A]
 split
 ·exact hb
 ·split
  ·exact ha
  ·rw [W0] at hc
   simp only [Bool.or_eq_true, Bool.and_eq_true, decide_eq_true_eq] at hc
   obtain ⟨hk, hl⟩ : k = k' ∧ O9 ks ks' = true := by
    rcases hc with (h | h) | h
    ·contradiction
    ·contradiction
    ·exact h
   obtain ⟨hll, hcc⟩ := (A1v _ _).1 hl
   have hlen := A4m ks ks' hll
   refine B1P ha hlen fun u hu => ?_
   obtain ⟨i, hi, rfl⟩ := List.mem_iff_getElem.1 hu
   rw [A5N ks ks' i (by omega) (by omega)]
   exact ih _ (List.getElem_mem _) _ (hcc i (by omega) (by omega)) (ha.kid _ (List.getElem_mem _)) (hb.kid _ (List.getElem_mem _))
theorem B3s (cx : Cx) (k : Int) (nm : ByteArray) (num : Int) (ty fr : Ty) (lb : Int) (ks : List Tm) (ts : List Ty) (G : IM) (cells : List Value) (p : Option Addr) (c : Nat) (es : List (List Value))
  (hops : D9 k = ts.length) (hk6 : 6 ≤ k ∧ k ≤ 13) (hty : E6 ty) (hr : A6 G (.mk k nm num ty fr lb ks) cells) (hsl : C4 G p ts.length c 2 es) (hkl : C2 G ts es) (har : ∀ t ∈ ts, E6 t) :
  Fn Tryz.prog 201 [.agg ⟨cells⟩, .slice p ts.length c] [] G (O2 (V5 cx k nm ty ts) G) := by
 have hone := hr.one
 have hop := A2D hops
 have ha0 := fun h : 0 < ts.length => har _ (List.getElem_mem h)
 have ha1 := fun h : 1 < ts.length => har _ (List.getElem_mem h)
 have ha2 := fun h : 2 < ts.length => har _ (List.getElem_mem h)
 obtain ⟨tk, tks⟩ := ty
 obtain ⟨fk, fks⟩ := fr
 obtain ⟨pt, ct, pf, cf, pk, ck, ek, rfl, hk, hnum, hlb, hrty, hrfr, _, _⟩ := hr.open9
 refine B4 Tryz.func201 rfl Tryz.ntmps201 Tryz.results201 rfl ?_
 intro w0
 refine tS (tR ?_)
 refine sE (C1 rfl rfl) rfl (fun b3 => ?_)
 refine sE (A5 rfl) rfl (fun b4 => ?_)
 refine I8 ?_
 refine B3 (tS (tR (sB (qE rfl rfl) rfl rfl (fun h18 => ?_) (fun h18 => ?_))))
 refine C3 ?_
 (have hl2 : ts.length = 2 := hop.1 (by omega); obtain ⟨b0, o0, q0, d0, hp0, hat0, hre0, hg0⟩ := hsl.kidTy hkl (i := 0) (by omega) (by omega); obtain ⟨b1, o1, q1, d1, hp1, hat1, hre1, hg1⟩ := hsl.kidTy hkl (i := 1) (by omega) (by omega); cases hp0; cases hp1; refine sP (A8 (j := 0) rfl rfl rfl (by omega)) rfl rfl ?_)
 refine sL (A0 rfl rfl (hat0 _) rfl) rfl rfl ?_
 focus (refine D2 rfl (A2R 4 ts[0] G _ (.inl rfl) (ha0 (by omega)) hre0) rfl rfl (fun v G1 hle1 hh => ?_); obtain ⟨ma, mca, mb, mcb, rfl, hma, hmb, hma2, hmb2, hpp⟩ := hh; obtain ⟨p1, c1, e1, rfl, _⟩ := hma.open; obtain ⟨p2, c2, e2, rfl, _⟩ := hmb.open; replace hsl := hsl.mono hle1; replace hkl := hkl.mono hle1; rcases hm : R1 4 ts[0] with _ | pr; rotate_left; obtain rfl := hpp _ hm; rotate_left; all_goals simp only [Option.isSome])
 refine H8 ?_
 refine sE (A5 rfl) rfl (fun b33 => ?_)
 refine sE (A5 rfl) rfl (fun b34 => ?_)
 refine J7 ?_
 refine J7 ?_
 refine sQ (qA rfl) rfl (sD (nS (tS ?_)))
 (have hl2 : ts.length = 2 := hop.1 (by omega); obtain ⟨b0, o0, q0, d0, hp0, hat0, hre0, hg0⟩ := hsl.kidTy hkl (i := 0) (by omega) (by omega); obtain ⟨b1, o1, q1, d1, hp1, hat1, hre1, hg1⟩ := hsl.kidTy hkl (i := 1) (by omega) (by omega); cases hp0; cases hp1; refine D5 D6 rfl ?_)
 refine L3 (i := 0) (l' := [tt,ff,ff,ff,ff,ff,ff,ff,ff,ff,ff]) rfl D0 (A3 rfl rfl) rfl (by kernel_rfl) rfl rfl ?_
 refine aP 1 rfl (qM rfl) rfl ?_
 refine aP 2 rfl (qM rfl) rfl ?_
 refine B8 3 rfl rfl rfl ?_
 refine B8 4 rfl rfl rfl ?_
 refine B8 5 rfl rfl rfl ?_
 refine B8 6 rfl rfl rfl ?_
 refine B8 7 rfl rfl rfl ?_
 refine aP 8 rfl (N4 rfl rfl) rfl ?_
 refine A2 9 ?_
 refine H0 rfl ?_
 refine aP 10 rfl (qA rfl) rfl ?_
 refine C5 (nS (tT (rB (rS ?_))))
 refine E5 (rC rfl (A3 rfl rfl)) (rT rfl) ?_
 (obtain rfl : k = 6 := (by omega); exact O2.no (by rw [A81 (by omega), hm]) hmb hmb2)
 refine H8 ?_
 refine sE (A5 rfl) rfl (fun b65 => ?_)
 refine sE (A5 rfl) rfl (fun b66 => ?_)
 refine J7 ?_
 refine J7 ?_
 refine sQ (qA rfl) rfl (sD (nS (tS ?_)))
 (have hl2 : ts.length = 2 := hop.1 (by omega); obtain ⟨b0, o0, q0, d0, hp0, hat0, hre0, hg0⟩ := hsl.kidTy hkl (i := 0) (by omega) (by omega); obtain ⟨b1, o1, q1, d1, hp1, hat1, hre1, hg1⟩ := hsl.kidTy hkl (i := 1) (by omega) (by omega); cases hp0; cases hp1; refine D5 D6 rfl ?_)
 refine L3 (i := 0) (l' := [tt,ff,ff,ff,ff,ff,ff,ff,ff,ff,ff]) rfl D0 (A3 rfl rfl) rfl (by kernel_rfl) rfl rfl ?_
 refine aP 1 rfl (qM rfl) rfl ?_
 refine aP 2 rfl (qM rfl) rfl ?_
 refine aP 3 rfl (qM rfl) rfl ?_
 refine aP 4 rfl (A8 (j := 1) rfl rfl rfl (by omega)) rfl ?_
 refine aL 5 rfl (A0 rfl rfl (hat1 _) rfl) rfl ?_
 refine aL 6 rfl (A3 rfl rfl) rfl ?_
 refine A2 7 ?_
 refine M6 rfl rfl ((A1H ts[1] ma _ _ _ (ha1 (by omega)) hma2 hre1 hma)) rfl rfl rfl ?_
 refine aP 8 rfl (L4 rfl rfl) rfl ?_
 refine A2 9 ?_
 refine H0 rfl ?_
 refine aP 10 rfl (qA rfl) rfl ?_
 refine C5 (nS (tT (rB (rS ?_))))
 refine E5 (rC rfl (A3 rfl rfl)) (rT rfl) ?_
 (obtain rfl : k = 6 := (by omega); exact O2.mk (by rw [A81 (by omega), hm]) hmb hmb2)
 refine sQ (qA rfl) rfl (sD (nS (cF rfl (tS (tR ?_)))))
 refine sB (qE rfl rfl) rfl rfl (fun h100 => ?_) (fun h100 => ?_)
 refine sQ (qA rfl) rfl (sD (nS (qT rfl (tS ?_))))
 (have hl2 : ts.length = 2 := hop.1 (by omega); obtain ⟨b0, o0, q0, d0, hp0, hat0, hre0, hg0⟩ := hsl.kidTy hkl (i := 0) (by omega) (by omega); obtain ⟨b1, o1, q1, d1, hp1, hat1, hre1, hg1⟩ := hsl.kidTy hkl (i := 1) (by omega) (by omega); cases hp0; cases hp1; refine D5 D6 rfl ?_)
 refine J6 (i := 1) (l' := [ff,tt,ff,ff,ff,ff,ff,ff,ff,ff,ff,ff,ff,ff,ff]) rfl D0 (qM rfl) rfl (by kernel_rfl) rfl rfl ?_
 refine aP 2 rfl (A8 (j := 0) rfl rfl rfl (by omega)) rfl ?_
 refine aL 3 rfl (A0 rfl rfl (hat0 _) rfl) rfl ?_
 refine A2 0 ?_
 refine M6 rfl rfl ((A03 _)) rfl rfl rfl ?_
 refine A2 4 ?_
 refine M6 rfl rfl ((A03 _)) rfl rfl rfl ?_
 refine A2 5 ?_
 refine S3 rfl rfl ((A1H ts[0] (.mk 2 []) _ _ _ (ha0 (by omega)) (S8 (by decide) (by decide)) hre0 (O4 _ ⟨by omega, by omega⟩))) rfl rfl rfl (fun h115 => ?_) (fun h115 => ?_)
 refine aP 6 rfl (qM rfl) rfl ?_
 refine aP 7 rfl (qM rfl) rfl ?_
 refine aP 8 rfl (A8 (j := 1) rfl rfl rfl (by omega)) rfl ?_
 refine aL 9 rfl (A0 rfl rfl (hat1 _) rfl) rfl ?_
 refine A2 10 ?_
 refine M6 rfl rfl ((A03 _)) rfl rfl rfl ?_
 refine A2 11 ?_
 refine M6 rfl rfl ((A1H ts[1] (.mk 2 []) _ _ _ (ha1 (by omega)) (S8 (by decide) (by decide)) hre1 (O4 _ ⟨by omega, by omega⟩))) rfl rfl rfl ?_
 refine aP 12 rfl (L4 rfl rfl) rfl ?_
 refine A2 13 ?_
 refine H0 rfl ?_
 refine aP 14 rfl (qA rfl) rfl ?_
 refine C5 (nS (tT (rB (rS ?_))))
 refine E5 (rC rfl (A3 rfl rfl)) (rT rfl) ?_
 (have hk7 : k = 7 := (by omega); exact O2.mk (by rw [A4n (.inl hk7) (by omega)]; simp_all [R9]) (O4 _ ⟨by omega, by omega⟩) (S8 (by omega) (by omega)))
 refine aP 6 rfl (qM rfl) rfl ?_
 refine B8 7 rfl rfl rfl ?_
 refine B8 8 rfl rfl rfl ?_
 refine B8 9 rfl rfl rfl ?_
 refine B8 10 rfl rfl rfl ?_
 refine B8 11 rfl rfl rfl ?_
 refine aP 12 rfl (N4 rfl rfl) rfl ?_
 refine A2 13 ?_
 refine H0 rfl ?_
 refine aP 14 rfl (qA rfl) rfl ?_
 refine C5 (nS (tT (rB (rS ?_))))
 refine E5 (rC rfl (A3 rfl rfl)) (rT rfl) ?_
 (have hk7 : k = 7 := (by omega); exact O2.mk (by rw [A4n (.inl hk7) (by omega)]; simp_all [R9]) (O4 _ ⟨by omega, by omega⟩) (S8 (by omega) (by omega)))
 refine sQ (qA rfl) rfl (sD (nS (cF rfl (tS (tR ?_)))))
 refine sB (qE rfl rfl) rfl rfl (fun h158 => ?_) (fun h158 => ?_)
 refine sQ (qA rfl) rfl (sD (nS (qT rfl (tS ?_))))
 (have hl2 : ts.length = 2 := hop.1 (by omega); obtain ⟨b0, o0, q0, d0, hp0, hat0, hre0, hg0⟩ := hsl.kidTy hkl (i := 0) (by omega) (by omega); obtain ⟨b1, o1, q1, d1, hp1, hat1, hre1, hg1⟩ := hsl.kidTy hkl (i := 1) (by omega) (by omega); cases hp0; cases hp1; refine D5 D6 rfl ?_)
 refine J6 (i := 1) (l' := [ff,tt,ff,ff,ff,ff,ff,ff,ff,ff,ff,ff,ff,ff,ff]) rfl D0 (qM rfl) rfl (by kernel_rfl) rfl rfl ?_
 refine aP 2 rfl (A8 (j := 0) rfl rfl rfl (by omega)) rfl ?_
 refine aL 3 rfl (A0 rfl rfl (hat0 _) rfl) rfl ?_
 refine A2 0 ?_
 refine M6 rfl rfl ((A3i _)) rfl rfl rfl ?_
 refine A2 4 ?_
 refine M6 rfl rfl ((A03 _)) rfl rfl rfl ?_
 refine A2 5 ?_
 refine S3 rfl rfl ((A1H ts[0] (.mk 2 []) _ _ _ (ha0 (by omega)) (S8 (by decide) (by decide)) hre0 (O4 _ ⟨by omega, by omega⟩))) rfl rfl rfl (fun h173 => ?_) (fun h173 => ?_)
 refine aP 6 rfl (qM rfl) rfl ?_
 refine aP 7 rfl (qM rfl) rfl ?_
 refine aP 8 rfl (A8 (j := 1) rfl rfl rfl (by omega)) rfl ?_
 refine aL 9 rfl (A0 rfl rfl (hat1 _) rfl) rfl ?_
 refine A2 10 ?_
 refine M6 rfl rfl ((A03 _)) rfl rfl rfl ?_
 refine A2 11 ?_
 refine M6 rfl rfl ((A1H ts[1] (.mk 2 []) _ _ _ (ha1 (by omega)) (S8 (by decide) (by decide)) hre1 (O4 _ ⟨by omega, by omega⟩))) rfl rfl rfl ?_
 refine aP 12 rfl (L4 rfl rfl) rfl ?_
 refine A2 13 ?_
 refine H0 rfl ?_
 refine aP 14 rfl (qA rfl) rfl ?_
 refine C5 (nS (tT (rB (rS ?_))))
 refine E5 (rC rfl (A3 rfl rfl)) (rT rfl) ?_
 (have hk8 : k = 8 := (by omega); exact O2.mk (by rw [A4n (.inr hk8) (by omega)]; simp_all [R9, X3]) (O4 _ ⟨by omega, by omega⟩) (S8 (by omega) (by omega)))
 refine aP 6 rfl (qM rfl) rfl ?_
 refine B8 7 rfl rfl rfl ?_
 refine B8 8 rfl rfl rfl ?_
 refine B8 9 rfl rfl rfl ?_
 refine B8 10 rfl rfl rfl ?_
 refine B8 11 rfl rfl rfl ?_
 refine aP 12 rfl (N4 rfl rfl) rfl ?_
 refine A2 13 ?_
 refine H0 rfl ?_
 refine aP 14 rfl (qA rfl) rfl ?_
 refine C5 (nS (tT (rB (rS ?_))))
 refine E5 (rC rfl (A3 rfl rfl)) (rT rfl) ?_
 (have hk8 : k = 8 := (by omega); exact O2.mk (by rw [A4n (.inr hk8) (by omega)]; simp_all [R9, X3]) (O4 _ ⟨by omega, by omega⟩) (S8 (by omega) (by omega)))
 refine sQ (qA rfl) rfl (sD (nS (cF rfl (tS (tR ?_)))))
 refine sB (qE rfl rfl) rfl rfl (fun h216 => ?_) (fun h216 => ?_)
 refine sQ (qA rfl) rfl (sD (nS (qT rfl (tS (tS ?_)))))
 (have hl3 : ts.length = 3 := hop.2.1 (by omega); obtain ⟨b0, o0, q0, d0, hp0, hat0, hre0, hg0⟩ := hsl.kidTy hkl (i := 0) (by omega) (by omega); obtain ⟨b1, o1, q1, d1, hp1, hat1, hre1, hg1⟩ := hsl.kidTy hkl (i := 1) (by omega) (by omega); obtain ⟨b2, o2, q2, d2, hp2, hat2, hre2, hg2⟩ := hsl.kidTy hkl (i := 2) (by omega) (by omega); cases hp0; cases hp1; cases hp2; refine D5 D6 rfl ?_)
 refine J6 (i := 0) (l' := [tt,ff,ff,ff,ff,ff,ff,ff]) rfl D0 (qM rfl) rfl (by kernel_rfl) rfl rfl ?_
 refine aP 1 rfl (A8 (j := 1) rfl rfl rfl (by omega)) rfl ?_
 refine aL 2 rfl (A0 rfl rfl (hat1 _) rfl) rfl ?_
 refine aP 3 rfl (qM rfl) rfl ?_
 refine aP 4 rfl (A8 (j := 2) rfl rfl rfl (by omega)) rfl ?_
 refine aL 5 rfl (A0 rfl rfl (hat2 _) rfl) rfl ?_
 refine A2 6 ?_
 refine S3 rfl rfl ((A1H ts[1] ts[2] _ _ _ (ha1 (by omega)) (ha2 (by omega)) hre1 hre2)) rfl rfl rfl (fun h231 => ?_) (fun h231 => ?_)
 refine aP 7 rfl (U0 rfl) rfl ?_
 refine C5 (nS (cF rfl (tK (nS (tS ?_)))))
 (have hl3 : ts.length = 3 := hop.2.1 (by omega); obtain ⟨b0, o0, q0, d0, hp0, hat0, hre0, hg0⟩ := hsl.kidTy hkl (i := 0) (by omega) (by omega); obtain ⟨b1, o1, q1, d1, hp1, hat1, hre1, hg1⟩ := hsl.kidTy hkl (i := 1) (by omega) (by omega); obtain ⟨b2, o2, q2, d2, hp2, hat2, hre2, hg2⟩ := hsl.kidTy hkl (i := 2) (by omega) (by omega); cases hp0; cases hp1; cases hp2; refine D5 D6 rfl ?_)
 refine J6 (i := 0) (l' := [tt,ff,ff,ff,ff,ff,ff,ff,ff,ff,ff,ff,ff,ff]) rfl D0 (qM rfl) rfl (by kernel_rfl) rfl rfl ?_
 refine aP 1 rfl (A8 (j := 1) rfl rfl rfl (by omega)) rfl ?_
 refine aL 2 rfl (A0 rfl rfl (hat1 _) rfl) rfl ?_
 refine aP 3 rfl (qM rfl) rfl ?_
 refine aP 4 rfl (A8 (j := 2) rfl rfl rfl (by omega)) rfl ?_
 refine aL 5 rfl (A0 rfl rfl (hat2 _) rfl) rfl ?_
 refine aP 7 rfl (qM rfl) rfl ?_
 refine aP 8 rfl (A8 (j := 0) rfl rfl rfl (by omega)) rfl ?_
 refine aL 9 rfl (A0 rfl rfl (hat0 _) rfl) rfl ?_
 refine A2 6 ?_
 (refine E9 rfl rfl (B3o ts[1] ts[2] G _ _ (by assumption) (ha1 (by omega)) (ha2 (by omega)) hre1 hre2) rfl rfl rfl (fun v G1 hle1 hh => ?_); obtain ⟨mc, rfl, hmr⟩ := hh; obtain ⟨mt, hmt⟩ : ∃ mt, T6 ts[1] ts[2] = mt := ⟨_, rfl⟩; rw [hmt] at hmr; have hma : E6 mt := (hmt ▸ B3r ts[1] ts[2] (by assumption) (ha1 (by omega)) (ha2 (by omega))); obtain ⟨p1, c1, e1, rfl, _⟩ := hmr.open; have hre0q := hre0.mono hle1)
 refine A2 10 ?_
 refine M6 rfl rfl ((A3i _)) rfl rfl rfl ?_
 refine A2 11 ?_
 refine M6 rfl rfl ((A1H ts[0] (.mk 3 []) _ _ _ (ha0 (by omega)) (S8 (by decide) (by decide)) hre0q (O4 _ ⟨by omega, by omega⟩))) rfl rfl rfl ?_
 refine A2 12 ?_
 refine H0 rfl ?_
 refine aP 13 rfl (qA rfl) rfl ?_
 refine C5 (nS (tT (rB (rS ?_))))
 refine E5 (rC rfl (A3 rfl rfl)) (rT rfl) ?_
 (obtain rfl : k = 9 := (by omega); exact O2.mk (by rw [A82 (by omega), hmt]; simp_all [X3]) hmr hma)
 refine aP 7 rfl (pNf rfl) rfl ?_
 refine L5 ?_
 refine E5 (rC rfl (A3 rfl rfl)) (rT rfl) ?_
 (obtain rfl : k = 9 := (by omega); exact O2.no (by rw [A82 (by omega)]; simp_all) (O4 _ ⟨by omega, by omega⟩) (S8 (by omega) (by omega)))
 refine sQ (qA rfl) rfl (sD (nS (cF rfl (tS (tR ?_)))))
 refine sB (qE rfl rfl) rfl rfl (fun h288 => ?_) (fun h288 => ?_)
 refine sQ (qA rfl) rfl (sD (nS (qT rfl (tS ?_))))
 (have hl2 : ts.length = 2 := hop.1 (by omega); obtain ⟨b0, o0, q0, d0, hp0, hat0, hre0, hg0⟩ := hsl.kidTy hkl (i := 0) (by omega) (by omega); obtain ⟨b1, o1, q1, d1, hp1, hat1, hre1, hg1⟩ := hsl.kidTy hkl (i := 1) (by omega) (by omega); cases hp0; cases hp1; refine D5 D6 rfl ?_)
 refine J6 (i := 0) (l' := [tt,ff,ff,ff,ff,ff,ff,ff,ff,ff,ff]) rfl D0 (qM rfl) rfl (by kernel_rfl) rfl rfl ?_
 refine aP 1 rfl (A8 (j := 0) rfl rfl rfl (by omega)) rfl ?_
 refine aL 2 rfl (A0 rfl rfl (hat0 _) rfl) rfl ?_
 refine aP 3 rfl (qM rfl) rfl ?_
 refine aP 4 rfl (A8 (j := 1) rfl rfl rfl (by omega)) rfl ?_
 refine aL 5 rfl (A0 rfl rfl (hat1 _) rfl) rfl ?_
 refine A2 6 ?_
 (refine E9 rfl rfl (A2l 5 ts[0] ts[1] G _ _ (.inr rfl) (ha0 (by omega)) (ha1 (by omega)) hre0 hre1) rfl rfl rfl (fun v G1 hle1 hh => ?_); obtain ⟨mc, rfl, hmr⟩ := hh; have hma := A32 (.inr rfl) (ha0 (by omega)) (ha1 (by omega)); obtain ⟨p1, c1, e1, rfl, _⟩ := hmr.open)
 refine aP 7 rfl (pX rfl rfl) rfl ?_
 refine aP 8 rfl (pX rfl rfl) rfl ?_
 refine A2 9 ?_
 refine H0 rfl ?_
 refine aP 10 rfl (qA rfl) rfl ?_
 refine C5 (nS (tT (rB (rS ?_))))
 refine E5 (rC rfl (A3 rfl rfl)) (rT rfl) ?_
 (obtain rfl : k = 10 := (by omega); exact O2.mk (by rw [B3p (by omega)]) hmr hma)
 refine sQ (qA rfl) rfl (sD (nS (cF rfl (tS (tR ?_)))))
 refine sB (qE rfl rfl) rfl rfl (fun h321 => ?_) (fun h321 => ?_)
 refine C3 ?_
 (have hl1 : ts.length = 1 := hop.2.2 (by omega); obtain ⟨b0, o0, q0, d0, hp0, hat0, hre0, hg0⟩ := hsl.kidTy hkl (i := 0) (by omega) (by omega); cases hp0; refine sP (A8 (j := 0) rfl rfl rfl (by omega)) rfl rfl ?_)
 refine sL (A0 rfl rfl (hat0 _) rfl) rfl rfl ?_
 focus (refine D2 rfl (A2R 5 ts[0] G _ (.inr rfl) (ha0 (by omega)) hre0) rfl rfl (fun v G1 hle1 hh => ?_); obtain ⟨ma, mca, mb, mcb, rfl, hma, hmb, hma2, hmb2, hpp⟩ := hh; obtain ⟨p1, c1, e1, rfl, _⟩ := hma.open; obtain ⟨p2, c2, e2, rfl, _⟩ := hmb.open; rcases hm : R1 5 ts[0] with _ | pr; rotate_left; obtain rfl := hpp _ hm; rotate_left; all_goals simp only [Option.isSome])
 refine H8 ?_
 refine sE (A5 rfl) rfl (fun b336 => ?_)
 refine sE (A5 rfl) rfl (fun b337 => ?_)
 refine J1 ?_
 refine E5 (rC rfl (A3 rfl rfl)) (rT rfl) ?_
 (have hk11 : k = 11 := (by omega); exact O2.no (by rw [A4o (.inl hk11) (by omega), hm]) hma hma2)
 refine H8 ?_
 refine sE (A5 rfl) rfl (fun b360 => ?_)
 refine sE (A5 rfl) rfl (fun b361 => ?_)
 refine J1 ?_
 refine E5 (rC rfl (A3 rfl rfl)) (rT rfl) ?_
 (have hk11 : k = 11 := (by omega); exact O2.yes (by rw [A4o (.inl hk11) (by omega), hm]; simp only; rw [if_neg (by omega)]) hma hma2)
 refine sQ (qA rfl) rfl (sD (nS (cF rfl (tS (tR ?_)))))
 refine sB (qE rfl rfl) rfl rfl (fun h386 => ?_) (fun h386 => ?_)
 refine C3 ?_
 (have hl1 : ts.length = 1 := hop.2.2 (by omega); obtain ⟨b0, o0, q0, d0, hp0, hat0, hre0, hg0⟩ := hsl.kidTy hkl (i := 0) (by omega) (by omega); cases hp0; refine sP (A8 (j := 0) rfl rfl rfl (by omega)) rfl rfl ?_)
 refine sL (A0 rfl rfl (hat0 _) rfl) rfl rfl ?_
 focus (refine D2 rfl (A2R 5 ts[0] G _ (.inr rfl) (ha0 (by omega)) hre0) rfl rfl (fun v G1 hle1 hh => ?_); obtain ⟨ma, mca, mb, mcb, rfl, hma, hmb, hma2, hmb2, hpp⟩ := hh; obtain ⟨p1, c1, e1, rfl, _⟩ := hma.open; obtain ⟨p2, c2, e2, rfl, _⟩ := hmb.open; rcases hm : R1 5 ts[0] with _ | pr; rotate_left; obtain rfl := hpp _ hm; rotate_left; all_goals simp only [Option.isSome])
 refine H8 ?_
 refine sE (A5 rfl) rfl (fun b401 => ?_)
 refine sE (A5 rfl) rfl (fun b402 => ?_)
 refine J1 ?_
 refine E5 (rC rfl (A3 rfl rfl)) (rT rfl) ?_
 (have hk12 : k = 12 := (by omega); exact O2.no (by rw [A4o (.inr hk12) (by omega), hm]) hmb hmb2)
 refine H8 ?_
 refine sE (A5 rfl) rfl (fun b425 => ?_)
 refine sE (A5 rfl) rfl (fun b426 => ?_)
 refine J1 ?_
 refine E5 (rC rfl (A3 rfl rfl)) (rT rfl) ?_
 (have hk12 : k = 12 := (by omega); exact O2.yes (by rw [A4o (.inr hk12) (by omega), hm]; simp only; rw [if_pos (by omega)]) hmb hmb2)
 refine sQ (qA rfl) rfl (sD (nS (cF rfl (tS (tR ?_)))))
 refine sP (A0o rfl rfl (by omega)) rfl rfl ?_
 refine sQ (qA rfl) rfl (sD (nS (qT rfl (tS ?_))))
 (have hl1 : ts.length = 1 := hop.2.2 (by omega); obtain ⟨b0, o0, q0, d0, hp0, hat0, hre0, hg0⟩ := hsl.kidTy hkl (i := 0) (by omega) (by omega); cases hp0; refine D5 D6 rfl ?_)
 refine J6 (i := 0) (l' := [tt,ff,ff,ff,ff,ff,ff,ff,ff,ff,ff]) rfl D0 (B0 rfl) rfl (by kernel_rfl) rfl rfl ?_
 refine aL 1 rfl (A3 rfl rfl) rfl ?_
 refine aP 3 rfl (qM rfl) rfl ?_
 refine aP 4 rfl (A8 (j := 0) rfl rfl rfl (by omega)) rfl ?_
 refine aL 5 rfl (A0 rfl rfl (hat0 _) rfl) rfl ?_
 refine aP 6 rfl (B0 rfl) rfl ?_
 refine aL 7 rfl (A3 rfl rfl) rfl ?_
 refine A2 2 ?_
 (refine E9 rfl rfl (P6 (.mk tk tks) G _ hty.small hrty) rfl rfl rfl (fun v G1 hle1 hh => ?_); obtain ⟨cs1, F1, rfl, hs1, hn1⟩ := hh; obtain ⟨p1, c1, rfl, _⟩ := hs1.open; have hmr := hs1.R.mono (B2.le G1 G); have hre0q := hre0.mono hle1; have hrtyq := hrty.mono hle1)
 refine A2 8 ?_
 refine M6 rfl rfl ((A1H ts[0] (.mk tk tks) _ _ _ (ha0 (by omega)) hty hre0q hrtyq)) rfl rfl rfl ?_
 refine A2 9 ?_
 refine H0 rfl ?_
 refine aP 10 rfl (qA rfl) rfl ?_
 refine C5 (nS (tT (rB (rS ?_))))
 refine E5 (rC rfl (A3 rfl rfl)) (rT rfl) ?_
 (obtain rfl : k = 13 := (by omega); exact O2.mk (by rw [B3q (by omega)]) hmr hty)
section
variable {ak bk : Int} {aks bks : List Ty}
theorem B3t (h : ak ≠ bk) : M4 (.mk ak aks) (.mk bk bks) = false := by rw [A17, decide_eq_false h]; rfl
theorem B3u (h : aks.length ≠ bks.length) : M4 (.mk ak aks) (.mk bk bks) = false := by
 rw [A17]
 cases hl : Z7 aks bks with
 | false => simp
 | true => exact absurd ((A3e _ _).1 hl).1 h
theorem B3v {i : Nat} (hi : i < aks.length) (hi' : i < bks.length) (h : M4 aks[i] bks[i] = false) : M4 (.mk ak aks) (.mk bk bks) = false := by
 rw [A17]
 cases hl : Z7 aks bks with
 | false => simp
 | true => have := ((A3e _ _).1 hl).2 i hi hi'; rw [h] at this; cases this
theorem B3w (hk : ak = bk) (hl : aks.length = bks.length) (h : ∀ i, (h : i < aks.length) → (h' : i < bks.length) → M4 aks[i] bks[i] = true) : M4 (.mk ak aks) (.mk bk bks) = true := by
 rw [A17, decide_eq_true hk, (A3e _ _).2 ⟨hl, h⟩]; rfl
end
theorem A83 : ∀ (a b : Ty) (G : IM) (ca cb : List Value), B6 G a ca → B6 G b cb → Fn Tryz.prog 203 [.agg ⟨ca⟩, .agg ⟨cb⟩] [] G (E4 (.bool (M4 a b)) G) := by
 refine Ty.ind fun ak aks ih b G ca cb hra hrb => ?_
 obtain ⟨bk, bks⟩ := b
 obtain ⟨pa, cca, ea, rfl, hak, hsla, hkla⟩ := hra.open
 obtain ⟨pb, ccb, eb, rfl, hbk, hslb, hklb⟩ := hrb.open
 simp only [Ty.k, Ty.ks] at hak hsla hkla hbk hslb hklb ⊢
 have hna := hsla.le
 have hnb := hslb.le
 have e1 := @B3t ak bk aks bks
 have e2 := @B3u ak bk aks bks
 have e3 := fun i => @B3v ak bk aks bks i
 have e4 := @B3w ak bk aks bks
 generalize M4 (.mk ak aks) (.mk bk bks) = R at e1 e2 e3 e4 ⊢
 refine B4 Tryz.func203 rfl Tryz.ntmps203 Tryz.results203 rfl ?_
 intro w0
 refine tS (tR ?_)
 refine sE (C1 rfl rfl) rfl (fun b3 => ?_)
 refine sE (C1 rfl rfl) rfl (fun b4 => ?_)
 refine I8 ?_
 refine sB (N7 rfl rfl) rfl rfl (fun h15 => ?_) (fun h15 => ?_)
 refine A0b ?_
 (exact ⟨rfl, by rw [e1 (by omega)], rfl⟩)
 refine C3 ?_
 refine sB (N7 rfl rfl) rfl rfl (fun h44 => ?_) (fun h44 => ?_)
 refine J9 ?_
 (exact ⟨rfl, by rw [e2 (by omega)], rfl⟩)
 refine J9 ?_
 refine B3 ?_
 (refine I1 (fun (i : Nat) => ⟨[(5, .int .i64 i), (2, .pointer (some ⟨b3, 0, none⟩)), (3, .pointer (some ⟨b4, 0, none⟩))], [.blk b4 [.int .i64 bk, .slice pb bks.length ccb], .blk b3 [.int .i64 ak, .slice pa aks.length cca]], G⟩) (fun i => i ≤ aks.length ∧ ∀ j, (h : j < aks.length) → (h' : j < bks.length) → j < i → M4 aks[j] bks[j] = true) (fun i => aks.length - i) 0 ?_ ?_ ?_)
 exact C9
 (exact ⟨Nat.zero_le _, fun j _ _ hj => absurd hj (Nat.not_lt_zero j)⟩)
 (rintro i ⟨hi, hall⟩)
 refine C3 ?_
 refine sB (I2 rfl rfl) rfl rfl (fun h82 => ?_) (fun h82 => ?_)
 refine sD (nS (qT rfl (tK (nS (tS ?_)))))
 refine B3 ?_
 refine tS ?_
 (obtain ⟨b, o, q0, d0, hp0, hat0, hre0, hg0⟩ := hsla.kidTy hkla (i := i) (by omega) (by omega); obtain ⟨b', o', q1, d1, hp1, hat1, hre1, hg1⟩ := hslb.kidTy hklb (i := i) (by omega) (by omega); subst hp0; subst hp1; have hih := ih aks[i] (List.getElem_mem (by omega)) bks[i] G _ _ hre0 hre1; refine D5 D6 rfl ?_)
 refine J6 (i := 0) (l' := [tt,ff,ff,ff,ff,ff,ff,ff,ff,ff,ff,ff]) rfl D0 (B0 rfl) rfl (by kernel_rfl) rfl rfl ?_
 refine aL 1 rfl (B9 rfl rfl) rfl ?_
 refine aP 2 rfl (qM rfl) rfl ?_
 refine aP 3 rfl (A8 rfl rfl rfl (by omega)) rfl ?_
 refine aL 4 rfl (A0 rfl rfl (hat0 _) rfl) rfl ?_
 refine aP 5 rfl (B0 rfl) rfl ?_
 refine aL 6 rfl (B9 rfl rfl) rfl ?_
 refine aP 7 rfl (qM rfl) rfl ?_
 refine aP 8 rfl (A8 rfl rfl rfl (by omega)) rfl ?_
 refine aL 9 rfl (A0 rfl rfl (hat1 _) rfl) rfl ?_
 refine A2 10 ?_
 refine S3 rfl rfl (hih) rfl rfl rfl (fun h103 => ?_) (fun h103 => ?_)
 refine aP 11 rfl (U0 rfl) rfl ?_
 refine D3 ?_
 refine sP (E8 rfl rfl (by omega) (by omega)) rfl rfl ?_
 refine sQ (qA rfl) rfl (sD ?_)
 refine I4 (i + 1) ?_ ?_ ?_
 exact C9
 (exact ⟨by omega, fun j h h' hj => by by_cases hji : j = i; (subst hji; assumption); exact hall j h h' (by omega)⟩)
 omega
 refine aP 11 rfl (pNf rfl) rfl ?_
 refine H3 ?_
 (exact ⟨rfl, by rw [e3 i (by omega) (by omega) (by assumption)], rfl⟩)
 refine H3 ?_
 (exact ⟨rfl, by rw [e4 (by omega) (by omega) (fun j h h' => hall j h h' (by omega))], rfl⟩)
theorem A84 (G : IM) (cx : Cx) (p : Option Addr) (n c : Nat) (nm : ByteArray) (t : Ty) (cells : List Value) (hx : Q4 G cx p n c) (hn : n ≤ 1000) (hr : B6 G t cells) :
  Fn Tryz.prog 146 [.slice p n c, .string nm, .agg ⟨cells⟩] [] G (J8 fun G' v => ∃ p' c', v = .slice p' (n + 1) c' ∧ Q4 G' (cx ++ [(nm, t)]) p' (n + 1) c') := by
 obtain ⟨k, ks⟩ := t
 obtain ⟨q, d, es0, rfl, _⟩ := hr.open
 simp only [Ty.k, Ty.ks] at hr ⊢
 obtain ⟨hx1, es, h2, h3⟩ := id hx
 have hSl : Sl G p n c 3 es.flatten := h2.1
 have h1c : ∀ u ∈ es.flatten, u.oneCell' = true := by
  intro u hu
  obtain ⟨e, he, hue⟩ := List.mem_flatten.1 hu
  exact List.all_eq_true.1 (h2.one e he) u hue
 refine B4 Tryz.func146 rfl Tryz.ntmps146 Tryz.results146 rfl ?_
 intro w0
 refine tS (tR ?_)
 refine sE (C1 rfl rfl) rfl (fun b3 => ?_)
 refine sQ (qA rfl) rfl (sD (nS (tS ?_)))
 refine D5 D6 rfl ?_
 refine J6 (i := 1) (l' := [ff,tt,ff,ff,ff,ff,ff,ff,ff]) rfl D0 (qM rfl) rfl (by kernel_rfl) rfl rfl ?_
 refine aP 3 rfl (qM rfl) rfl ?_
 refine aL 4 rfl (A3 rfl rfl) rfl ?_
 refine aP 5 rfl (U1 rfl rfl) rfl ?_
 refine Q0 (j := 0) (j' := 6) (by kernel_rfl) ?_ ?_
 (refine E3 rfl (D7 rfl rfl rfl (by omega) (by unfold maxLen; omega) rfl) rfl rfl ?_; rintro _ ⟨b14, rfl⟩)
 refine Q0 (j := 2) (j' := 6) (by kernel_rfl) ?_ ?_
 (refine A49 rfl rfl rfl rfl rfl rfl (fun _ _ => by repeat (first | exact Sw.here | apply Sw.there)) hSl h1c (Nat.zero_le _) (by unfold maxLen; omega) (by omega) rfl rfl (by repeat (first | exact C6.nil | apply C6.dep (by decide +kernel) | apply C6.blk (by decide +kernel) (by repeat (first | exact Pk.here | apply Pk.there)) (by repeat first | exact mH | apply mT))) (fun p4 c4 => ?_); simp only [Nat.zero_add, List.nil_append])
 refine A2 6 ?_
 (refine E3 rfl (D7 rfl rfl rfl (by omega) (by unfold maxLen; omega) rfl) rfl rfl ?_; rintro _ ⟨b18, rfl⟩)
 refine A2 7 ?_
 (refine U2 rfl rfl rfl rfl rfl rfl (fun _ _ => by repeat (first | exact Sw.here | apply Sw.there)) (N8 (by repeat first | exact mH | apply mT)) rfl (by simp [Value.oneCell']) (by unfold maxLen; omega) (by omega) rfl rfl (by repeat (first | exact C6.nil | apply C6.dep (by decide +kernel) | apply C6.blk (by decide +kernel) (by repeat (first | exact Pk.here | apply Pk.there)) (by repeat first | exact mH | apply mT))) (fun p5 c5 => ?_))
 refine aP 8 rfl (qA rfl) rfl ?_
 refine C5 (nS ?_)
 (refine H7 (cs := es.flatten ++ [.string nm, .int .i64 k, .slice q ks.length d]) (by repeat (first | exact Pk.here | apply Pk.there)) (fun G5 hle5 hsl5 hno5 => ?_))
 refine tT (E1 (rT rfl) ?_)
 (exact ⟨rfl, _, _, rfl, Q4.snoc (nm := nm) (t := .mk k ks) hx1 h2.len h2.all h2.one h3 hle5 ⟨_, _, rfl, hr.mono hle5⟩ hsl5⟩)
 (refine E3 rfl (D7 rfl rfl rfl (by omega) (by unfold maxLen; omega) rfl) rfl rfl ?_; rintro _ ⟨b28, rfl⟩)
 refine A2 2 ?_
 (refine A49 rfl rfl rfl rfl rfl rfl (fun _ _ => by repeat (first | exact Sw.here | apply Sw.there)) hSl h1c (Nat.zero_le _) (by unfold maxLen; omega) (by omega) rfl rfl (by repeat (first | exact C6.nil | apply C6.dep (by decide +kernel) | apply C6.blk (by decide +kernel) (by repeat (first | exact Pk.here | apply Pk.there)) (by repeat first | exact mH | apply mT))) (fun p4 c4 => ?_); simp only [Nat.zero_add, List.nil_append])
 refine A2 7 ?_
 (refine U2 rfl rfl rfl rfl rfl rfl (fun _ _ => by repeat (first | exact Sw.here | apply Sw.there)) (N8 (by repeat first | exact mH | apply mT)) rfl (by simp [Value.oneCell']) (by unfold maxLen; omega) (by omega) rfl rfl (by repeat (first | exact C6.nil | apply C6.dep (by decide +kernel) | apply C6.blk (by decide +kernel) (by repeat (first | exact Pk.here | apply Pk.there)) (by repeat first | exact mH | apply mT))) (fun p5 c5 => ?_))
 refine aP 8 rfl (qA rfl) rfl ?_
 refine C5 (nS ?_)
 (refine H7 (cs := es.flatten ++ [.string nm, .int .i64 k, .slice q ks.length d]) (by repeat (first | exact Pk.here | apply Pk.there)) (fun G5 hle5 hsl5 hno5 => ?_))
 refine tT (E1 (rT rfl) ?_)
 (exact ⟨rfl, _, _, rfl, Q4.snoc (nm := nm) (t := .mk k ks) hx1 h2.len h2.all h2.one h3 hle5 ⟨_, _, rfl, hr.mono hle5⟩ hsl5⟩)
 (refine E3 rfl (D7 rfl rfl rfl (by omega) (by unfold maxLen; omega) rfl) rfl rfl ?_; rintro _ ⟨b40, rfl⟩)
 refine A2 0 ?_
 (refine E3 rfl (D7 rfl rfl rfl (by omega) (by unfold maxLen; omega) rfl) rfl rfl ?_; rintro _ ⟨b42, rfl⟩)
 refine A2 2 ?_
 (refine A49 rfl rfl rfl rfl rfl rfl (fun _ _ => by repeat (first | exact Sw.here | apply Sw.there)) hSl h1c (Nat.zero_le _) (by unfold maxLen; omega) (by omega) rfl rfl (by repeat (first | exact C6.nil | apply C6.dep (by decide +kernel) | apply C6.blk (by decide +kernel) (by repeat (first | exact Pk.here | apply Pk.there)) (by repeat first | exact mH | apply mT))) (fun p4 c4 => ?_); simp only [Nat.zero_add, List.nil_append])
 refine A2 7 ?_
 (refine U2 rfl rfl rfl rfl rfl rfl (fun _ _ => by repeat (first | exact Sw.here | apply Sw.there)) (N8 (by repeat first | exact mH | apply mT)) rfl (by simp [Value.oneCell']) (by unfold maxLen; omega) (by omega) rfl rfl (by repeat (first | exact C6.nil | apply C6.dep (by decide +kernel) | apply C6.blk (by decide +kernel) (by repeat (first | exact Pk.here | apply Pk.there)) (by repeat first | exact mH | apply mT))) (fun p5 c5 => ?_))
 refine aP 8 rfl (qA rfl) rfl ?_
 refine C5 (nS ?_)
 (refine H7 (cs := es.flatten ++ [.string nm, .int .i64 k, .slice q ks.length d]) (by repeat (first | exact Pk.here | apply Pk.there)) (fun G5 hle5 hsl5 hno5 => ?_))
 refine tT (E1 (rT rfl) ?_)
 (exact ⟨rfl, _, _, rfl, Q4.snoc (nm := nm) (t := .mk k ks) hx1 h2.len h2.all h2.one h3 hle5 ⟨_, _, rfl, hr.mono hle5⟩ hsl5⟩)
theorem A85 {cx : Cx} : ∀ {ks : List Tm} {i : Nat} {us : List Ty} {u : Ty} (hi : i < ks.length), U5 cx (ks.take i) = some us → P3 cx ks[i] = some u → U5 cx (ks.take (i + 1)) = some (us ++ [u])
 | [], i, us, u, hi, _, _ => by simp at hi
 | t :: ts, 0, us, u, _, h1, h2 => by
  simp only [List.take_zero, U5, Option.some.injEq] at h1
  subst h1
  simp only [List.getElem_cons_zero] at h2
  simp [U5, h2]
 | t :: ts, i + 1, us, u, hi, h1, h2 => by
  simp only [List.take_succ_cons, U5] at h1 ⊢
  split at h1
  ·cases h1
  ·rename_i a ha
   split at h1
   ·cases h1
   ·rename_i bs has
    simp only [Option.some.injEq] at h1
    subst h1
    simp only [List.getElem_cons_succ] at h2
    have := A85 (ks := ts) (i := i) (by simpa using hi) has h2
    simp only [this, List.cons_append]
theorem A86 {cx : Cx} : ∀ {ks : List Tm} {i : Nat} (hi : i < ks.length), P3 cx ks[i] = none → U5 cx ks = none
 | [], i, hi, _ => by simp at hi
 | t :: ts, 0, _, h => by simp only [List.getElem_cons_zero] at h; rw [U5, h]
 | t :: ts, i + 1, hi, h => by
  simp only [List.getElem_cons_succ] at h
  have := A86 (ks := ts) (i := i) (by simpa using hi) h
  rw [U5, this]
  cases P3 cx t <;> rfl
section
variable {cx : Cx} {k : Int} {nm : ByteArray} {num : Int} {ty fr : Ty} {lb : Int} {ks : List Tm}
theorem B3x (hk : k = 1) (h0 : ks = []) : P3 cx (.mk k nm num ty fr lb ks) = A0C cx nm := by
 subst hk h0
 rw [P3, U5]
 simp only [V5, mW1]
 cases A0C cx nm with
 | none => rfl
 | some t => simp
theorem B3y (hk : k = 2) (h0 : ks = []) : P3 cx (.mk k nm num ty fr lb ks) = some R9 := by subst hk h0; rfl
theorem B3z (hk : k = 3 ∨ k = 4) (h0 : ks = []) : P3 cx (.mk k nm num ty fr lb ks) = some X3 := by subst h0; rcases hk with rfl | rfl <;> rfl
theorem B3A {b : Tm} (hk : k = 5) (h : P3 (cx ++ [(nm, ty)]) b = none) : P3 cx (.mk k nm num ty fr lb [b]) = none := by
 subst hk; rw [P3, O6, if_pos rfl, U5, h]
theorem B3B {b : Tm} {t : Ty} (hk : k = 5) (h : P3 (cx ++ [(nm, ty)]) b = some t) : P3 cx (.mk k nm num ty fr lb [b]) = if F4 (.mk 4 [ty, t]) = true then some (.mk 4 [ty, t]) else none := by
 subst hk
 rw [P3, O6, if_pos rfl, U5, h]
 simp only [U5, V5, mW5, List.getD_cons_zero]
 cases F4 (.mk 4 [ty, t]) <;> simp
theorem B3C (hk : k ≠ 5) (h : U5 cx ks = none) : P3 cx (.mk k nm num ty fr lb ks) = none := by rw [P3, O6, if_neg hk, h]
theorem B3D {ts : List Ty} (hk : k ≠ 5) (h : U5 cx ks = some ts) : P3 cx (.mk k nm num ty fr lb ks) = V5 cx k nm ty ts := by rw [P3, O6, if_neg hk, h]
end
theorem A87 : ∀ (e : Tm) (d : Int) (cx : Cx) (G : IM) (p : Option Addr) (n c : Nat) (cells : List Value), N5 12 14 e d = true → (n : Int) ≤ d → Z3 cx → Q4 G cx p n c → A6 G e cells →
  Fn Tryz.prog 145 [.slice p n c, .agg ⟨cells⟩] [] G (O2 (P3 cx e) G) := by
 refine Tm.ind fun k nm num ty fr lb ks ih d cx G p n c cells hv hnd hcv hx hr => ?_
 have hr0 := hr
 have hone := hr.one
 obtain ⟨hv1, hv2, hv3, hv4⟩ := A0Q hv
 have hvk := (A0O 12 14 ks _).1 hv4
 have har := (U3.1 hv3).1
 have hop := A2D har
 obtain ⟨hta, hts⟩ := A2E hv3
 have hkr : 1 ≤ k ∧ k ≤ 14 := A3s (by rw [har]; omega)
 have hcv5 : k = 5 → Z3 (cx ++ [(nm, ty)]) := fun hk => by have := A3o (k := k) (nm := nm) (ty := ty) hcv fun hk => (U3.1 hv3).2.2.2.2.2.1 (.inl hk); rwa [O6, if_pos hk] at this
 have h0 : k ≤ 4 → ks = [] := fun h => List.length_eq_zero_iff.1 (by
  have hk : k = 1 ∨ k = 2 ∨ k = 3 ∨ k = 4 := by omega
  rcases hk with rfl | rfl | rfl | rfl
  ·have : D9 1 = 0 := rfl; omega
  ·have : D9 2 = 0 := rfl; omega
  ·have : D9 3 = 0 := rfl; omega
  ·have : D9 4 = 0 := rfl; omega)
 have f1 := fun hk => @B3x cx k nm num ty fr lb ks hk (h0 (by omega))
 have f2 := fun hk => @B3y cx k nm num ty fr lb ks hk (h0 (by omega))
 have f3 := fun hk => @B3z cx k nm num ty fr lb ks hk (h0 (by omega))
 have f4 : ∀ (hk : k = 5) (hl : 0 < ks.length), P3 (cx ++ [(nm, ty)]) ks[0] = none → P3 cx (.mk k nm num ty fr lb ks) = none := fun hk hl h => by
  obtain ⟨b, rfl⟩ := ks1 (hop.2.2 (.inl hk)); exact B3A hk h
 have f5 : ∀ (t : Ty) (hk : k = 5) (hl : 0 < ks.length), P3 (cx ++ [(nm, ty)]) ks[0] = some t → P3 cx (.mk k nm num ty fr lb ks) = if F4 (.mk 4 [ty, t]) = true then some (.mk 4 [ty, t]) else none := fun t hk hl h => by
  obtain ⟨b, rfl⟩ := ks1 (hop.2.2 (.inl hk)); exact B3B hk h
 have f6 := @B3C cx k nm num ty fr lb ks
 have f7 := fun ts => @B3D cx k nm num ty fr lb ks ts
 generalize P3 cx (.mk k nm num ty fr lb ks) = R at f1 f2 f3 f4 f5 f6 f7 ⊢
 obtain ⟨tk, tks⟩ := ty
 obtain ⟨fk, fks⟩ := fr
 obtain ⟨pt, ct, pf, cf, q, cq, es, rfl, hk, hnum, hlb, hty, hfr, hsl, hkl⟩ := hr.open9
 have hlen : ks.length ≤ 3 := by have := A1G k; omega
 refine B4 Tryz.func145 rfl Tryz.ntmps145 Tryz.results145 rfl ?_
 intro w0
 refine tS (tR ?_)
 refine sE (C1 rfl rfl) rfl (fun b3 => ?_)
 refine sE (A5 rfl) rfl (fun b4 => ?_)
 refine I8 ?_
 refine B3 (tS (tR (sB (qE rfl rfl) rfl rfl (fun h18 => ?_) (fun h18 => ?_))))
 refine D8 ?_
 (refine D2 rfl (B3m G cx hcv p n c nm hx) rfl rfl (fun v G1 hle1 hh => ?_); obtain ⟨mt, mc, rfl, hmr, hma, hmu⟩ := hh; obtain ⟨p1, c1, e1, rfl, _⟩ := hmr.open)
 refine D8 ?_
 refine E5 (rC rfl (A3 rfl rfl)) (rT rfl) ?_
 (rw [f1 (by omega)]; exact ⟨rfl, _, _, rfl, hmr, hma, hmu⟩)
 refine sQ (qA rfl) rfl (sD (nS (cF rfl (tS (tR ?_)))))
 refine sB (qE rfl rfl) rfl rfl (fun h46 => ?_) (fun h46 => ?_)
 refine sQ (qA rfl) rfl (sD (nS (qT rfl (tS (tR ?_)))))
 refine I3 rfl ((A03 _)) rfl rfl ?_
 refine J7 ?_
 refine sQ (qA rfl) rfl (sD (nS (tT (rB (rS ?_)))))
 refine E5 (rC rfl (A3 rfl rfl)) (rT rfl) ?_
 (rw [f2 (by omega)]; exact O2.yes rfl (J4 _) (S8 (by omega) (by omega)))
 refine sQ (qA rfl) rfl (sD (nS (cF rfl (tS (tS (tR ?_))))))
 refine sB (qE rfl rfl) rfl rfl (fun h70 => ?_) (fun h70 => ?_)
 refine D8 ?_
 refine I3 rfl ((A3i _)) rfl rfl ?_
 refine J7 ?_
 refine sQ (qA rfl) rfl (sD (nS (tT (rB (rS ?_)))))
 refine E5 (rC rfl (A3 rfl rfl)) (rT rfl) ?_
 (rw [f3 (by omega)]; exact O2.yes rfl (Z2 _) (S8 (by omega) (by omega)))
 refine sQ (qA rfl) rfl (sD (nS (cF rfl (tR ?_))))
 refine sB (qE rfl rfl) rfl rfl (fun h95 => ?_) (fun h95 => ?_)
 refine sQ (qA rfl) rfl (sD (nS (qT rfl (tS (tR ?_)))))
 refine I3 rfl ((A3i _)) rfl rfl ?_
 refine J7 ?_
 refine sQ (qA rfl) rfl (sD (nS (tT (rB (rS ?_)))))
 refine E5 (rC rfl (A3 rfl rfl)) (rT rfl) ?_
 (rw [f3 (by omega)]; exact O2.yes rfl (Z2 _) (S8 (by omega) (by omega)))
 refine sQ (qA rfl) rfl (sD (nS (cF rfl (tS (tR ?_)))))
 refine sB (qE rfl rfl) rfl rfl (fun h118 => ?_) (fun h118 => ?_)
 refine sQ (qA rfl) rfl (sD (nS (qT rfl (tS ?_))))
 (have hl1 : ks.length = 1 := hop.2.2 (by omega); obtain ⟨b, o, e, rfl, hl, hat, hre, hgb⟩ := hsl.kidTm hkl (i := 0) (by omega) (by omega); have hMore := A84 G cx p n c nm (.mk tk tks) _ hx (by omega) hty; refine D5 D6 rfl ?_)
 refine J6 (i := 0) (l' := [tt,ff,ff,ff,ff,ff,ff,ff,ff,ff,ff,ff,ff,ff,ff,ff,ff]) rfl D0 (qM rfl) rfl (by kernel_rfl) rfl rfl ?_
 refine aP 1 rfl (B0 rfl) rfl ?_
 refine aL 2 rfl (B9 rfl rfl) rfl ?_
 refine aP 3 rfl (B0 rfl) rfl ?_
 refine aL 4 rfl (A3 rfl rfl) rfl ?_
 refine aP 6 rfl (B0 rfl) rfl ?_
 refine aL 7 rfl (B9 rfl rfl) rfl ?_
 refine aP 8 rfl (A8 (j := 0) rfl rfl rfl (by omega)) rfl ?_
 refine aL 9 rfl (A0 rfl rfl (hat _) hl) rfl ?_
 refine Q0 (j := 5) (j' := 14) (by kernel_rfl) ?_ ?_
 (refine E9 rfl rfl hMore rfl rfl rfl (fun v G1 hle1 hh => ?_); obtain ⟨pm, cm, rfl, hxm⟩ := hh; have hreM := hre.mono hle1; have hLam := ih ks[0] (List.getElem_mem (by omega)) (d + 1) _ G1 pm (n + 1) cm _ (hvk 0 (by omega)) (by omega) (hcv5 (by omega)) hxm hreM; have htyM := hty.mono hle1)
 refine Q0 (j := 10) (j' := 14) (by kernel_rfl) ?_ ?_
 focus (refine E9 rfl rfl hLam rfl rfl rfl (fun v G2 hle2 hh => ?_); obtain ⟨mt, mc, rfl, hmr, hma, hmu⟩ := hh; obtain ⟨p1, c1, e1, rfl, _⟩ := hmr.open; have htyN := htyM.mono hle2; rcases hE : P3 (cx ++ [(nm, Ty.mk tk tks)]) ks[0] with _ | mt2; rotate_left; obtain rfl := hmu _ hE; rotate_left; all_goals simp only [Option.isSome])
 refine aP 11 rfl (qM rfl) rfl ?_
 refine aP 12 rfl (pX rfl rfl) rfl ?_
 refine aP 13 rfl (pX rfl rfl) rfl ?_
 refine A2 14 ?_
 (refine E3 rfl (A5 rfl) rfl rfl ?_; rintro _ ⟨b142, rfl⟩)
 refine A2 15 ?_
 refine H0 rfl ?_
 refine aP 16 rfl (qA rfl) rfl ?_
 refine A0p ?_
 refine E5 (rC rfl (A3 rfl rfl)) (rT rfl) ?_
 (rw [f4 (by omega) (by omega) (by first | exact hE | assumption)]; exact O2.no rfl (O4 _ ⟨by omega, by omega⟩) (S8 (by omega) (by omega)))
 refine aP 11 rfl (qM rfl) rfl ?_
 refine aP 12 rfl (pX rfl rfl) rfl ?_
 refine aP 13 rfl (pX rfl rfl) rfl ?_
 refine A2 14 ?_
 (refine E3 rfl (A5 rfl) rfl rfl ?_; rintro _ ⟨b173, rfl⟩)
 refine A2 15 ?_
 refine H0 rfl ?_
 refine aP 16 rfl (qA rfl) rfl ?_
 refine S1 ?_
 (refine D2 rfl (A2l 4 (.mk tk tks) _ _ _ _ (.inl rfl) hta hma htyN hmr) rfl rfl (fun v G3 hle3 hh => ?_); obtain ⟨mc2, rfl, hmr2⟩ := hh; obtain ⟨p2, c2, e2, rfl, _⟩ := hmr2.open)
 refine D8 ?_
 refine E5 (rC rfl (A3 rfl rfl)) (rT rfl) ?_
 (rw [f5 _ (by omega) (by omega) (by first | exact hE | assumption)]; exact O2.mk rfl hmr2 (A32 (.inl rfl) hta hma))
 (refine E3 rfl (A5 rfl) rfl rfl ?_; rintro _ ⟨b206, rfl⟩)
 refine A2 10 ?_
 focus (refine E9 rfl rfl hLam rfl rfl rfl (fun v G2 hle2 hh => ?_); obtain ⟨mt, mc, rfl, hmr, hma, hmu⟩ := hh; obtain ⟨p1, c1, e1, rfl, _⟩ := hmr.open; have htyN := htyM.mono hle2; rcases hE : P3 (cx ++ [(nm, Ty.mk tk tks)]) ks[0] with _ | mt2; rotate_left; obtain rfl := hmu _ hE; rotate_left; all_goals simp only [Option.isSome])
 refine aP 11 rfl (qM rfl) rfl ?_
 refine aP 12 rfl (pX rfl rfl) rfl ?_
 refine aP 13 rfl (pX rfl rfl) rfl ?_
 refine A2 15 ?_
 refine H0 rfl ?_
 refine aP 16 rfl (qA rfl) rfl ?_
 refine A0p ?_
 refine E5 (rC rfl (A3 rfl rfl)) (rT rfl) ?_
 (rw [f4 (by omega) (by omega) (by first | exact hE | assumption)]; exact O2.no rfl (O4 _ ⟨by omega, by omega⟩) (S8 (by omega) (by omega)))
 refine aP 11 rfl (qM rfl) rfl ?_
 refine aP 12 rfl (pX rfl rfl) rfl ?_
 refine aP 13 rfl (pX rfl rfl) rfl ?_
 refine A2 15 ?_
 refine H0 rfl ?_
 refine aP 16 rfl (qA rfl) rfl ?_
 refine S1 ?_
 (refine D2 rfl (A2l 4 (.mk tk tks) _ _ _ _ (.inl rfl) hta hma htyN hmr) rfl rfl (fun v G3 hle3 hh => ?_); obtain ⟨mc2, rfl, hmr2⟩ := hh; obtain ⟨p2, c2, e2, rfl, _⟩ := hmr2.open)
 refine D8 ?_
 refine E5 (rC rfl (A3 rfl rfl)) (rT rfl) ?_
 (rw [f5 _ (by omega) (by omega) (by first | exact hE | assumption)]; exact O2.mk rfl hmr2 (A32 (.inl rfl) hta hma))
 (refine E3 rfl (A5 rfl) rfl rfl ?_; rintro _ ⟨b273, rfl⟩)
 refine A2 5 ?_
 (refine E9 rfl rfl hMore rfl rfl rfl (fun v G1 hle1 hh => ?_); obtain ⟨pm, cm, rfl, hxm⟩ := hh; have hreM := hre.mono hle1; have hLam := ih ks[0] (List.getElem_mem (by omega)) (d + 1) _ G1 pm (n + 1) cm _ (hvk 0 (by omega)) (by omega) (hcv5 (by omega)) hxm hreM; have htyM := hty.mono hle1)
 refine A2 10 ?_
 focus (refine E9 rfl rfl hLam rfl rfl rfl (fun v G2 hle2 hh => ?_); obtain ⟨mt, mc, rfl, hmr, hma, hmu⟩ := hh; obtain ⟨p1, c1, e1, rfl, _⟩ := hmr.open; have htyN := htyM.mono hle2; rcases hE : P3 (cx ++ [(nm, Ty.mk tk tks)]) ks[0] with _ | mt2; rotate_left; obtain rfl := hmu _ hE; rotate_left; all_goals simp only [Option.isSome])
 refine aP 11 rfl (qM rfl) rfl ?_
 refine aP 12 rfl (pX rfl rfl) rfl ?_
 refine aP 13 rfl (pX rfl rfl) rfl ?_
 refine A2 15 ?_
 refine H0 rfl ?_
 refine aP 16 rfl (qA rfl) rfl ?_
 refine A0p ?_
 refine E5 (rC rfl (A3 rfl rfl)) (rT rfl) ?_
 (rw [f4 (by omega) (by omega) (by first | exact hE | assumption)]; exact O2.no rfl (O4 _ ⟨by omega, by omega⟩) (S8 (by omega) (by omega)))
 refine aP 11 rfl (qM rfl) rfl ?_
 refine aP 12 rfl (pX rfl rfl) rfl ?_
 refine aP 13 rfl (pX rfl rfl) rfl ?_
 refine A2 15 ?_
 refine H0 rfl ?_
 refine aP 16 rfl (qA rfl) rfl ?_
 refine S1 ?_
 (refine D2 rfl (A2l 4 (.mk tk tks) _ _ _ _ (.inl rfl) hta hma htyN hmr) rfl rfl (fun v G3 hle3 hh => ?_); obtain ⟨mc2, rfl, hmr2⟩ := hh; obtain ⟨p2, c2, e2, rfl, _⟩ := hmr2.open)
 refine D8 ?_
 refine E5 (rC rfl (A3 rfl rfl)) (rT rfl) ?_
 (rw [f5 _ (by omega) (by omega) (by first | exact hE | assumption)]; exact O2.mk rfl hmr2 (A32 (.inl rfl) hta hma))
 refine D8 ?_
 (refine K6 (D7 rfl rfl rfl (by omega) (by unfold maxLen; omega) rfl) rfl ?_; rintro _ ⟨b351, rfl⟩)
 refine D8 ?_
 refine B3 ?_
 (refine I1 (fun (x : Nat × Option Addr × Nat × List Ty × List (List Value) × IM) => ⟨[(9, .int .i64 x.1), (8, .slice x.2.1 x.1 x.2.2.1), (3, .pointer (some ⟨b3, 0, none⟩)), (4, .pointer (some ⟨b4, 0, none⟩)), (0, .slice p n c)], [.slc x.2.1 x.2.2.1 25 2 x.1 x.2.2.2.2.1.flatten, .blk b4 [.int .i64 0, .slice none 0 0], .blk b3 [.int .i64 k, .string nm, .int .i64 num, .int .i64 tk, .slice pt tks.length ct, .int .i64 fk, .slice pf fks.length cf, .int .i64 lb, .slice q ks.length cq]], x.2.2.2.2.2⟩) (fun x => x.1 ≤ ks.length ∧ B7 G x.2.2.2.2.2 ∧ x.2.2.2.1.length = x.1 ∧ C2 x.2.2.2.2.2 x.2.2.2.1 x.2.2.2.2.1 ∧ (∀ u ∈ x.2.2.2.1, E6 u) ∧ U5 cx (ks.take x.1) = some x.2.2.2.1) (fun x => ks.length - x.1) (0, some ⟨b351, 0, none⟩, 0, [], [], G) ?_ ?_ ?_)
 (simp only [H5]; exact C9)
 (exact ⟨by simp, B7.refl _, rfl, by simp [C2], by simp, by simp [U5]⟩)
 (rintro ⟨i, pn, cn, us, es', Gi⟩ ⟨hi, hle, hlu, hst, hau, hsu⟩; simp only [] at hi hle hlu hst hau hsu ⊢; replace hsl := hsl.mono hle; replace hkl := hkl.mono hle; replace hx := hx.mono hle; replace hr0 := hr0.mono hle)
 refine C3 ?_
 refine sB (I2 rfl rfl) rfl rfl (fun h373 => ?_) (fun h373 => ?_)
 refine sD (nS (qT rfl (tK (nS (tS ?_)))))
 refine B3 ?_
 refine E2 ?_
 (obtain ⟨b, o, e, rfl, hl, hat, hre, hgb⟩ := hsl.kidTm hkl (i := i) (by omega) (by omega); refine sP (A8 rfl rfl rfl (by omega)) rfl rfl ?_)
 refine sL (A0 rfl rfl (hat _) hl) rfl rfl ?_
 focus (refine D2 rfl (ih ks[i] (List.getElem_mem (by omega)) (d + 1) cx Gi p n c _ (hvk i (by omega)) (by omega) hcv hx hre) rfl rfl (fun v G2 hle2 hh => ?_); obtain ⟨u, uc, rfl, hru, hua, huu⟩ := hh; obtain ⟨p3, c3, e3, rfl, _⟩ := hru.open; rcases hE : P3 cx ks[i] with _ | u2; rotate_left; obtain rfl := huu _ hE; rotate_left; all_goals simp only [Option.isSome])
 refine J2 ?_
 refine sE (A5 rfl) rfl (fun b393 => ?_)
 refine A3L ?_
 refine E5 (rC rfl (A3 rfl rfl)) (rT rfl) ?_
 (rw [f6 (by omega) (A86 (by omega) hE)]; exact O2.no rfl (O4 _ ⟨by omega, by omega⟩) (S8 (by omega) (by omega)))
 refine J2 ?_
 refine sE (A5 rfl) rfl (fun b425 => ?_)
 refine S1 ?_
 (refine K6 (D7 rfl rfl rfl (by omega) (by unfold maxLen; omega) rfl) rfl ?_; rintro _ ⟨b443, rfl⟩)
 refine Z5 rfl rfl rfl rfl rfl (fun _ _ => by repeat (first | exact Sw.here | apply Sw.there)) (N8 (by repeat first | exact mH | apply mT)) rfl (by simp [Value.oneCell']) (by unfold maxLen; omega) (by omega) rfl (fun pn' cn' => ?_)
 refine E2 ?_
 refine sP (E8 rfl rfl (by omega) (by omega)) rfl rfl ?_
 refine sQ (qA rfl) rfl (sD ?_)
 refine I4 (i + 1, pn', cn', us ++ [u2], es' ++ [[.int .i64 u2.k, .slice p3 u2.ks.length c3]], G2) ?_ ?_ ?_
 (simp only [H5]; exact C9)
 (dsimp only; exact ⟨by omega, hle.trans hle2, by simp [hlu], C2.snoc (hst.mono hle2) hru, A33 hau hua, A85 (by omega) hsu hE⟩)
 (show ks.length - (i + 1) < ks.length - i; omega)
 refine J9 ?_
 (obtain rfl : i = ks.length := (by omega); rw [List.take_length] at hsu; refine A1X (cs := es'.flatten) (by repeat (first | exact Pk.here | apply Pk.there)) (fun G3 hle3 hsl3 hno3 => ?_); have hst3 := hst.mono hle3; have hRes := B3s cx k nm num (.mk tk tks) (.mk fk fks) lb ks us G3 _ pn cn es' (by rw [hlu]; exact har) (by omega) hta (hr0.mono hle3) (by rw [hlu]; exact C4.of hsl3 (by rw [hst3.len, hlu]) hst3.all (fun e he => (hst3.each e he).2)) hst3 hau; rw [hlu] at hRes; refine D2 rfl hRes rfl rfl (fun v G4 hle4 hh => ?_); obtain ⟨mt, mc, rfl, hmr, hma, hmu⟩ := hh; obtain ⟨p1, c1, e1, rfl, _⟩ := hmr.open)
 refine C3 ?_
 refine E5 (rC rfl (A3 rfl rfl)) (rT rfl) ?_
 (rw [f7 us (by omega) hsu]; exact ⟨rfl, _, _, rfl, hmr, hma, hmu⟩)
theorem B3E {e : Tm} (h : P0 e = true) : Q8 e = P3 [] e := by
 have hs := ((A1m e).1 h).1
 obtain ⟨h1, h2⟩ := A2N e 1 [] 0 hs A2M
 unfold Q8
 cases hE : M7 [] e 0 with
 | none => rw [A5F h hE, h2 hE]
 | some r =>
  obtain ⟨u, a, l⟩ := r
  rw [A5G h hE, (h1 u a l hE).1]
theorem B3F {e u : Tm} {t : Ty} (h : V4 e = some (u, t)) : P0 e = true ∧ ∃ l, M7 [] e 0 = some (u, t, l) := by
 unfold V4 at h
 split at h
 ·rename_i hv
  refine ⟨hv, ?_⟩
  split at h
  ·rename_i u' t' l' he; cases h; exact ⟨l', he⟩
  ·cases h
 ·cases h
def A5O (t : Ty) (x : Bool) (G : IM) : IM → Value → List A4 → Prop := J8 fun G' v => ∃ cells, v = .tuple ⟨[.agg ⟨cells⟩, .bool x]⟩ ∧ B6 G' (if x = true then t else B5) cells
theorem B3G (t : Ty) (G : IM) (cells : List Value) (hr : B6 G t cells) : Fn Tryz.prog 194 [.agg ⟨cells⟩, .bool true] [] G (A5O t true G) := by
 obtain ⟨p, c, e, rfl, _⟩ := hr.open
 refine B4 Tryz.func194 rfl Tryz.ntmps194 Tryz.results194 rfl ?_
 intro w0
 refine tS (tR ?_)
 refine sE (C1 rfl rfl) rfl (fun b3 => ?_)
 refine sE (A5 rfl) rfl (fun b4 => ?_)
 refine A0p ?_
 refine E5 (rC rfl (A3 rfl rfl)) (rT rfl) ?_
 (exact ⟨rfl, _, rfl, hr⟩)
theorem B3H (t : Ty) (G : IM) (cells : List Value) (hr : B6 G t cells) : Fn Tryz.prog 194 [.agg ⟨cells⟩, .bool false] [] G (A5O t false G) := by
 obtain ⟨p, c, e, rfl, _⟩ := hr.open
 refine B4 Tryz.func194 rfl Tryz.ntmps194 Tryz.results194 rfl ?_
 intro w0
 refine tS (tR ?_)
 refine sE (C1 rfl rfl) rfl (fun b3 => ?_)
 refine sE (A5 rfl) rfl (fun b4 => ?_)
 refine A0b ?_
 refine E5 (rC rfl (A3 rfl rfl)) (rT rfl) ?_
 (exact ⟨rfl, _, rfl, O4 _ ⟨by omega, by omega⟩⟩)
theorem B3I (t : Ty) (x : Bool) (G : IM) (cells : List Value) (hr : B6 G t cells) : Fn Tryz.prog 194 [.agg ⟨cells⟩, .bool x] [] G (A5O t x G) := by
 cases x
 ·exact B3H t G cells hr
 ·exact B3G t G cells hr
theorem W2.sure {o : Option Ty} {t : Ty} {G G' : IM} {cells : List Value} (h : ∀ u, o = some u → u = t) (hr : B6 G' (if o.isSome = true then t else B5) cells) : W2 o G G' (.tuple ⟨[.agg ⟨cells⟩, .bool o.isSome]⟩) [] := by
 cases o with
 | none => exact ⟨rfl, cells, B5, rfl, hr, by simp⟩
 | some u => exact ⟨rfl, cells, t, rfl, hr, fun x hx => by cases hx; exact (h _ rfl).symm⟩
theorem B3J (e : Tm) (G : IM) (cells : List Value) (hcnt : D1 e ≤ 4294967296) (hr : A6 G e cells) :
  Fn Tryz.prog 140 [.slice none 0 0, .agg ⟨cells⟩] [] G (W2 (Q8 e) G) := by
 have hl := hr.len
 have hone := hr.one
 have hw := A5f e G cells hcnt hr
 have hT := fun h : P0 e = true => A87 e 1 [] G none 0 0 cells ((A1m e).1 h).1 (by omega) A2M (Q4.nil G) hr
 have hts := fun h => @B3E e h
 have hno := @A8M e
 refine B4 Tryz.func140 rfl Tryz.ntmps140 Tryz.results140 rfl ?_
 intro w0
 refine tS (tR ?_)
 refine sE (C1 rfl rfl) rfl (fun b3 => ?_)
 refine sE (A5 rfl) rfl (fun b4 => ?_)
 refine C3 ?_
 refine I3 rfl ((B1R _)) rfl rfl ?_
 refine sQ (U0 rfl) rfl (sQ (qM rfl) rfl ?_)
 refine sL (A0 rfl rfl (A9 (by repeat first | exact mH | apply mT)) (by assumption)) rfl rfl ?_
 refine F0 rfl (hw) rfl rfl (fun h16 => ?_) (fun h16 => ?_)
 refine I8 ?_
 refine sL (A0 rfl rfl (A9 (by repeat first | exact mH | apply mT)) (by assumption)) rfl rfl ?_
 (refine D2 rfl (hT (by assumption)) rfl rfl (fun v G1 hle1 hh => ?_); obtain ⟨mt, mc, rfl, hmr, hma, hmu⟩ := hh; obtain ⟨p1, c1, e1, rfl, _⟩ := hmr.open; have hmo := hts (by assumption))
 refine sQ (pX rfl rfl) rfl (sQ (pX rfl rfl) rfl ?_)
 (refine D2 rfl (B3I mt _ _ _ hmr) rfl rfl (fun v G2 hle2 hh => ?_); obtain ⟨mc2, rfl, hmr2⟩ := hh; obtain ⟨p2, c2, e2, rfl, _⟩ := hmr2.open)
 refine C3 ?_
 refine E5 (rC rfl (A3 rfl rfl)) (rT rfl) ?_
 (rw [hmo]; exact W2.sure hmu hmr2)
 refine L5 ?_
 refine E5 (rC rfl (A3 rfl rfl)) (rT rfl) ?_
 (exact W2.no (u := B5) (O4 _ ⟨by omega, by omega⟩) rfl (hno (by assumption)))
theorem A88 (e : Tm) (G : IM) (cells : List Value) (hcnt : D1 e ≤ 4294967296) (hr : A6 G e cells) :
  Fn Tryz.prog 99 [.agg ⟨cells⟩] [] G (W2 (Q8 e) G) := by
 have hl := hr.len
 have hone := hr.one
 refine B4 Tryz.func99 rfl Tryz.ntmps99 Tryz.results99 rfl ?_
 intro w0
 refine tS (tR ?_)
 refine sE (C1 rfl rfl) rfl (fun b3 => ?_)
 refine sE (A5 rfl) rfl (fun b4 => ?_)
 refine sQ (qA rfl) rfl (sD (nS (tS (tR ?_))))
 refine sL (A0 rfl rfl (A9 (by repeat first | exact mH | apply mT)) (by assumption)) rfl rfl ?_
 (refine D2 rfl (B3J e G cells hcnt hr) rfl rfl (fun v G1 hle1 hh => ?_); obtain ⟨cu, u, rfl, hru, hu⟩ := hh; obtain ⟨p1, c1, e1, rfl, _⟩ := hru.open)
 refine C3 ?_
 refine E5 (rC rfl (A3 rfl rfl)) (rT rfl) ?_
 (exact ⟨rfl, _, u, rfl, hru, hu⟩)
def A1r (e : Tm) (a b : Ty) (l : Int) : IM → Value → List A4 → Prop := J8 fun G' v => ∃ cells, v = .tuple ⟨[.agg ⟨cells⟩, .int .i64 (if M4 a b = true then l else l + 1)]⟩ ∧ A6 G' (if M4 a b = true then e else K8 e a b l) cells
theorem A1r.yes {G : IM} {e : Tm} {a b : Ty} {l : Int} {cells : List Value} (h : M4 a b = true) (hr : A6 G e cells) : A1r e a b l G (.tuple ⟨[.agg ⟨cells⟩, .int .i64 l]⟩) [] := ⟨rfl, cells, by rw [if_pos h], by rw [if_pos h]; exact hr⟩
theorem A1r.no {G : IM} {e : Tm} {a b : Ty} {l : Int} {cells : List Value} (h : M4 a b = false) (hr : A6 G (K8 e a b l) cells) : A1r e a b l G (.tuple ⟨[.agg ⟨cells⟩, .int .i64 (l + 1)]⟩) [] := ⟨rfl, cells, by rw [if_neg (by rw [h]; decide)], by rw [if_neg (by rw [h]; decide)]; exact hr⟩
theorem B3K (e : Tm) (a b : Ty) (label : Int) (G : IM) (ce ca cb : List Value) (hlab : -1099511627776 ≤ label ∧ label ≤ 1099511627776) (hr : A6 G e ce) (hra : B6 G a ca) (hrb : B6 G b cb) (hsa : a.small) (hsb : b.small) :
  Fn Tryz.prog 148 [.agg ⟨ce⟩, .agg ⟨ca⟩, .agg ⟨cb⟩, .int .i64 label] [] G (A1r e a b label) := by
 have hl := hr.len
 have hone := hr.one
 obtain ⟨hlab1, hlab2⟩ := hlab
 have hSame := A83 a b G ca cb hra hrb
 obtain ⟨ak, aks⟩ := a
 obtain ⟨bk, bks⟩ := b
 obtain ⟨pa, cca, ea, rfl, _⟩ := hra.open
 obtain ⟨pb, ccb, eb, rfl, _⟩ := hrb.open
 simp only [Ty.k, Ty.ks] at hra hrb hSame ⊢
 obtain ⟨v1, v2, v3, v4, v5, v6, v7, v8, v9, rfl⟩ := T8 hl
 refine B4 Tryz.func148 rfl Tryz.ntmps148 Tryz.results148 rfl ?_
 intro w0
 refine tS (tR ?_)
 refine sE (C1 rfl rfl) rfl (fun b3 => ?_)
 refine sE (C1 rfl rfl) rfl (fun b4 => ?_)
 refine sE (C1 rfl rfl) rfl (fun b5 => ?_)
 refine sE (A5 rfl) rfl (fun b6 => ?_)
 refine D3 ?_
 refine F0 rfl (hSame) rfl rfl (fun h15 => ?_) (fun h15 => ?_)
 refine sD (nS (qT rfl (tS (tR ?_))))
 refine sL (A0 rfl rfl (A9 (by repeat first | exact mH | apply mT)) hl) rfl rfl ?_
 refine sQ (qM rfl) rfl ?_
 refine sS rfl rfl rfl hl hone rfl ?_ (hu := by exact D4 hl.symm)
 refine sQ (qA rfl) rfl (sD (nS (tT (rS ?_))))
 refine E5 (rC rfl (A0 rfl rfl (A9 (by repeat first | exact mH | apply mT)) hl)) (rT rfl) ?_
 (exact A1r.yes (by assumption) hr)
 refine sD (nS (cF rfl (tK (nS (tS ?_)))))
 refine D5 D6 rfl ?_
 refine L3 (i := 5) (l' := [ff,ff,ff,ff,ff,tt,ff,ff,ff,ff,ff,ff]) rfl D0 (A0 rfl rfl (A9 (by repeat first | exact mH | apply mT)) hl) rfl (by kernel_rfl) rfl rfl ?_
 refine aL 0 rfl (A3 rfl rfl) rfl ?_
 refine aL 2 rfl (A3 rfl rfl) rfl ?_
 refine aP 4 rfl (qM rfl) rfl ?_
 refine aP 8 rfl (qM rfl) rfl ?_
 refine aP 9 rfl (E8 rfl rfl (by omega) (by omega)) rfl ?_
 refine Q0 (j := 1) (j' := 6) (by kernel_rfl) ?_ ?_
 (refine E9 rfl rfl (P6 _ _ _ hsa hra) rfl rfl rfl (fun v G1 hle1 hh => ?_); obtain ⟨cs1, F1, rfl, hs1, hn1⟩ := hh; obtain ⟨p1, c1, rfl, _⟩ := hs1.open; have hC2 := P6 _ G1 _ hsb (hrb.mono hle1))
 refine Q0 (j := 3) (j' := 6) (by kernel_rfl) ?_ ?_
 (refine E9 rfl rfl hC2 rfl rfl rfl (fun v G2 hle2 hh => ?_); obtain ⟨cs2, F2, rfl, hs2, hn2⟩ := hh; obtain ⟨p2, c2, rfl, _⟩ := hs2.open; have hr1 := hs1.R.mono ((B2.le G1 _).trans hle2); have hr2 := hs2.R.mono (B2.le G2 G1); have hre := hr.mono (hle1.trans hle2))
 refine A2 6 ?_
 (refine E3 rfl (D7 rfl rfl rfl (by omega) (by unfold maxLen; omega) rfl) rfl rfl ?_; rintro _ ⟨b49, rfl⟩)
 refine aP 7 rfl (U1 rfl rfl) rfl ?_
 refine A2 10 ?_
 refine H0 rfl ?_
 refine aP 11 rfl (qA rfl) rfl ?_
 refine C5 (nS ?_)
 (refine H7 (cs := [v1, v2, v3, v4, v5, v6, v7, v8, v9]) (by repeat (first | exact Pk.here | apply Pk.there)) (fun G5 hle5 hsl5 hno5 => ?_); obtain ⟨hone1, hone2⟩ := A2F (hre.mono hle5) hsl5)
 refine tT ?_
 refine E5 (rC rfl (A3 rfl rfl)) (rT rfl) ?_
 (exact A1r.no (by assumption) (A6.of9 (ks := [e]) ⟨by omega, by omega⟩ ⟨by omega, by omega⟩ ⟨by omega, by omega⟩ (hr2.mono hle5) (hr1.mono hle5) hone1 hone2))
 (refine E3 rfl (D7 rfl rfl rfl (by omega) (by unfold maxLen; omega) rfl) rfl rfl ?_; rintro _ ⟨b60, rfl⟩)
 refine A2 3 ?_
 (refine E9 rfl rfl hC2 rfl rfl rfl (fun v G2 hle2 hh => ?_); obtain ⟨cs2, F2, rfl, hs2, hn2⟩ := hh; obtain ⟨p2, c2, rfl, _⟩ := hs2.open; have hr1 := hs1.R.mono ((B2.le G1 _).trans hle2); have hr2 := hs2.R.mono (B2.le G2 G1); have hre := hr.mono (hle1.trans hle2))
 refine aP 7 rfl (U1 rfl rfl) rfl ?_
 refine A2 10 ?_
 refine H0 rfl ?_
 refine aP 11 rfl (qA rfl) rfl ?_
 refine C5 (nS ?_)
 (refine H7 (cs := [v1, v2, v3, v4, v5, v6, v7, v8, v9]) (by repeat (first | exact Pk.here | apply Pk.there)) (fun G5 hle5 hsl5 hno5 => ?_); obtain ⟨hone1, hone2⟩ := A2F (hre.mono hle5) hsl5)
 refine tT ?_
 refine E5 (rC rfl (A3 rfl rfl)) (rT rfl) ?_
 (exact A1r.no (by assumption) (A6.of9 (ks := [e]) ⟨by omega, by omega⟩ ⟨by omega, by omega⟩ ⟨by omega, by omega⟩ (hr2.mono hle5) (hr1.mono hle5) hone1 hone2))
 (refine E3 rfl (D7 rfl rfl rfl (by omega) (by unfold maxLen; omega) rfl) rfl rfl ?_; rintro _ ⟨b73, rfl⟩)
 refine A2 1 ?_
 (refine E9 rfl rfl (P6 _ _ _ hsa hra) rfl rfl rfl (fun v G1 hle1 hh => ?_); obtain ⟨cs1, F1, rfl, hs1, hn1⟩ := hh; obtain ⟨p1, c1, rfl, _⟩ := hs1.open; have hC2 := P6 _ G1 _ hsb (hrb.mono hle1))
 refine A2 3 ?_
 (refine E9 rfl rfl hC2 rfl rfl rfl (fun v G2 hle2 hh => ?_); obtain ⟨cs2, F2, rfl, hs2, hn2⟩ := hh; obtain ⟨p2, c2, rfl, _⟩ := hs2.open; have hr1 := hs1.R.mono ((B2.le G1 _).trans hle2); have hr2 := hs2.R.mono (B2.le G2 G1); have hre := hr.mono (hle1.trans hle2))
 refine aP 7 rfl (U1 rfl rfl) rfl ?_
 refine A2 10 ?_
 refine H0 rfl ?_
 refine aP 11 rfl (qA rfl) rfl ?_
 refine C5 (nS ?_)
 (refine H7 (cs := [v1, v2, v3, v4, v5, v6, v7, v8, v9]) (by repeat (first | exact Pk.here | apply Pk.there)) (fun G5 hle5 hsl5 hno5 => ?_); obtain ⟨hone1, hone2⟩ := A2F (hre.mono hle5) hsl5)
 refine tT ?_
 refine E5 (rC rfl (A3 rfl rfl)) (rT rfl) ?_
 (exact A1r.no (by assumption) (A6.of9 (ks := [e]) ⟨by omega, by omega⟩ ⟨by omega, by omega⟩ ⟨by omega, by omega⟩ (hr2.mono hle5) (hr1.mono hle5) hone1 hone2))
def R3 (w ts : List Ty) : List Ty := if w = [] then ts else w
theorem A3x {a : Ty} {w ts : List Ty} : R3 (a :: w) ts = a :: w := by unfold R3; rw [if_neg (by simp)]
def V7 (ws : List Ty) (n : Nat) (G : IM) : IM → Value → List A4 → Prop := J8 fun G' v => ∃ p c es, v = .slice p n c ∧ ws.length = n ∧ C4 G' p n c 2 es ∧ C2 G' ws es
theorem V7.mk {G G' : IM} {p : Option Addr} {n c : Nat} {ws ws' : List Ty} {es : List (List Value)} (he : ws = ws') (hl : ws'.length = n) (hs : Sl G' p n c 2 es.flatten) (hst : C2 G' ws' es) : V7 ws n G G' (.slice p n c) [] := by
 subst he
 exact ⟨rfl, p, c, es, rfl, hl, C4.of hs (by rw [hst.len, hl]) hst.all (fun e he => (hst.each e he).2), hst⟩
theorem V7.mk1 {G G' : IM} {p : Option Addr} {n c : Nat} {ws : List Ty} {a : Ty} {ca : List Value} (he : ws = [a]) (hn : n = 1) (hs : Sl G' p 1 c 2 ca) (ha : B6 G' a ca) : V7 ws n G G' (.slice p 1 c) [] := by
 subst hn
 exact V7.mk (ws' := [a]) (es := [ca]) he rfl (by simpa using hs) ⟨_, _, rfl, ha, rfl⟩
theorem V7.mk2 {G G' : IM} {p : Option Addr} {n c : Nat} {ws : List Ty} {a b : Ty} {ca cb : List Value} (he : ws = [a, b]) (hn : n = 2) (hs : Sl G' p 2 c 2 (ca ++ cb)) (ha : B6 G' a ca) (hb : B6 G' b cb) : V7 ws n G G' (.slice p 2 c) [] := by
 subst hn
 exact V7.mk (ws' := [a, b]) (es := [ca, cb]) he rfl (by simpa using hs) ⟨_, _, rfl, ha, _, _, rfl, hb, rfl⟩
theorem V7.mk3 {G G' : IM} {p : Option Addr} {n c : Nat} {ws : List Ty} {a b d : Ty} {ca cb cd : List Value} (he : ws = [a, b, d]) (hn : n = 3) (hs : Sl G' p 3 c 2 (ca ++ (cb ++ cd))) (ha : B6 G' a ca) (hb : B6 G' b cb) (hd : B6 G' d cd) : V7 ws n G G' (.slice p 3 c) [] := by
 subst hn
 exact V7.mk (ws' := [a, b, d]) (es := [ca, cb, cd]) he rfl (by simpa using hs) ⟨_, _, rfl, ha, _, _, rfl, hb, _, _, rfl, hd, rfl⟩
section
variable {cx : Cx} {k : Int} {nm : ByteArray} {ty : Ty} {ts w : List Ty} {t : Ty}
theorem wo6 (hk : k = 6) (h : O0 cx k nm ty ts = some (w, t)) (hl : 0 < ts.length) : ∃ a b, R1 4 ts[0] = some (a, b) ∧ R3 w ts = [.mk 4 [a, b], a] := by
 subst hk
 rw [mW6, gD hl] at h
 split at h
 ·rename_i a b hm
  split at h
  ·cases h; exact ⟨a, _, hm, A3x⟩
  ·cases h
 ·cases h
theorem B3L (hk : k = 7 ∨ k = 8) (h : O0 cx k nm ty ts = some (w, t)) : R3 w ts = [R9, R9] := by
 rw [U4 hk] at h
 split at h
 ·cases h; exact A3x
 ·cases h
theorem wo9 (hk : k = 9) (h : O0 cx k nm ty ts = some (w, t)) : R3 w ts = [X3, t, t] := by
 subst hk
 rw [mW9] at h
 split at h
 ·cases h; exact A3x
 ·cases h
theorem B3M (hk : k = 11 ∨ k = 12) (h : O0 cx k nm ty ts = some (w, t)) (hl : 0 < ts.length) : ∃ a b, R1 5 ts[0] = some (a, b) ∧ R3 w ts = [.mk 5 [a, b]] := by
 rw [A2L hk, gD hl] at h
 split at h
 ·rename_i a b hm; cases h; exact ⟨a, b, hm, A3x⟩
 ·cases h
theorem B3N (hk : k = 13) (h : O0 cx k nm ty ts = some (w, t)) : R3 w ts = [t] := by
 subst hk
 rw [A2f] at h
 split at h
 ·cases h; exact A3x
 ·cases h
theorem wo0 (hk : 1 ≤ k ∧ k ≤ 5 ∨ k = 10) (h : O0 cx k nm ty ts = some (w, t)) : R3 w ts = ts := by
 have : w = [] := by
  have hk' : k = 1 ∨ k = 2 ∨ (k = 3 ∨ k = 4) ∨ k = 5 ∨ k = 10 := by omega
  rcases hk' with rfl | rfl | hk | rfl | rfl
  ·rw [mW1] at h; split at h <;> cases h; rfl
  ·rw [mW2] at h; cases h; rfl
  ·rw [A3l hk] at h; cases h; rfl
  ·rw [mW5] at h; cases h; rfl
  ·rw [A4b] at h; cases h; rfl
 subst this; rfl
end
theorem B3O (cx : Cx) (k : Int) (nm : ByteArray) (num : Int) (ty fr : Ty) (lb : Int) (ks : List Tm) (ts w : List Ty) (t : Ty) (G : IM) (cells tcells : List Value) (p : Option Addr) (c : Nat) (es : List (List Value))
  (hw : O0 cx k nm ty ts = some (w, t)) (hk14 : k ≠ 14) (hops : D9 k = ts.length) (hr : A6 G (.mk k nm num ty fr lb ks) cells) (hsl : C4 G p ts.length c 2 es) (hkl : C2 G ts es) (har : ∀ t ∈ ts, E6 t) (hrt : B6 G t tcells) :
  Fn Tryz.prog 147 [.agg ⟨cells⟩, .slice p ts.length c, .agg ⟨tcells⟩] [] G (V7 (R3 w ts) ts.length G) := by
 have hone := hr.one
 have hop := A2D hops
 have hkr : 1 ≤ k ∧ k ≤ 14 := A3s (by rw [hops]; omega)
 have ha0 := fun h : 0 < ts.length => har _ (List.getElem_mem h)
 obtain ⟨tyk, tyks⟩ := ty
 obtain ⟨fk, fks⟩ := fr
 obtain ⟨tk, tks⟩ := t
 obtain ⟨q9, d9, e9, rfl, _⟩ := hrt.open
 obtain ⟨pt, ct, pf, cf, pk, ck, ek, rfl, hk, hnum, hlb, hrty, hrfr, _, _⟩ := hr.open9
 have o6 := fun h hl => wo6 h hw hl
 have o78 := fun h => B3L h hw
 have o9 := fun h => wo9 h hw
 have o11 := fun h hl => B3M h hw hl
 have o13 := fun h => B3N h hw
 have o0 := fun h => wo0 h hw
 refine B4 Tryz.func147 rfl Tryz.ntmps147 Tryz.results147 rfl ?_
 intro w0
 refine tS (tR ?_)
 refine sE (C1 rfl rfl) rfl (fun b3 => ?_)
 refine sE (C1 rfl rfl) rfl (fun b4 => ?_)
 refine I8 ?_
 refine B3 (tS (tR (sB (qE rfl rfl) rfl rfl (fun h18 => ?_) (fun h18 => ?_))))
 refine C3 ?_
 (have hl2 : ts.length = 2 := hop.1 (by omega); obtain ⟨b0, o0', q0, d0, hp0, hat0, hre0, hg0⟩ := hsl.kidTy hkl (i := 0) (by omega) (by omega); cases hp0; refine sP (A8 (j := 0) rfl rfl rfl (by omega)) rfl rfl ?_)
 refine sL (A0 rfl rfl (hat0 _) rfl) rfl rfl ?_
 (obtain ⟨ma', mb', hm, hwo⟩ := o6 (by omega) (by omega); refine D2 rfl (A2R 4 ts[0] G _ (.inl rfl) (ha0 (by omega)) hre0) rfl rfl (fun v G1 hle1 hh => ?_); obtain ⟨ma, mca, mb, mcb, rfl, hma, hmb, hma2, hmb2, hpp⟩ := hh; have hpe := hpp _ hm; simp only [Prod.mk.injEq] at hpe; obtain ⟨rfl, rfl⟩ := hpe; obtain ⟨p1, c1, e1, rfl, _⟩ := hma.open; obtain ⟨p2, c2, e2, rfl, _⟩ := hmb.open; have hTwo := A2l 4 _ _ G1 _ _ (.inl rfl) hma2 hmb2 hma hmb)
 refine H8 ?_
 refine sE (A5 rfl) rfl (fun b33 => ?_)
 refine sE (A5 rfl) rfl (fun b34 => ?_)
 refine D8 ?_
 (refine D2 rfl hTwo rfl rfl (fun v G2 hle2 hh => ?_); obtain ⟨mc, rfl, hmr⟩ := hh; obtain ⟨p3, c3, e3, rfl, _⟩ := hmr.open; have hma4 := hma.mono hle2)
 refine J2 ?_
 refine sE (A5 rfl) rfl (fun b48 => ?_)
 refine D3 ?_
 (refine K6 (D7 rfl rfl rfl (by omega) (by unfold maxLen; omega) rfl) rfl ?_; rintro _ ⟨b57, rfl⟩)
 refine sQ (qA rfl) rfl (sD (nS ?_))
 (refine H7 (by repeat (first | exact Pk.here | apply Pk.there)) (fun G5 hle5 hsl5 hno5 => ?_))
 refine tT (rB (rS (E1 (rT rfl) ?_)))
 (exact V7.mk2 hwo (hop.1 (by omega)) hsl5 (hmr.mono hle5) (hma4.mono hle5))
 refine sQ (qA rfl) rfl (sD (nS (cF rfl (tS (tS (tR ?_))))))
 refine sB (qE rfl rfl) rfl rfl (fun h74 => ?_) (fun h74 => ?_)
 refine D8 ?_
 refine I3 rfl ((A03 _)) rfl rfl ?_
 refine I3 rfl ((A03 _)) rfl rfl ?_
 (refine K6 (D7 rfl rfl rfl (by omega) (by unfold maxLen; omega) rfl) rfl ?_; rintro _ ⟨b86, rfl⟩)
 refine sQ (qA rfl) rfl (sD (nS ?_))
 (refine H7 (by repeat (first | exact Pk.here | apply Pk.there)) (fun G5 hle5 hsl5 hno5 => ?_))
 refine tT (rB (rS (E1 (rT rfl) ?_)))
 (exact V7.mk2 (o78 (by omega)) (hop.1 (by omega)) hsl5 (J4 _) (J4 _))
 refine sQ (qA rfl) rfl (sD (nS (cF rfl (tR ?_))))
 refine sB (qE rfl rfl) rfl rfl (fun h101 => ?_) (fun h101 => ?_)
 refine sQ (qA rfl) rfl (sD (nS (qT rfl (tS (tR ?_)))))
 refine I3 rfl ((A03 _)) rfl rfl ?_
 refine I3 rfl ((A03 _)) rfl rfl ?_
 (refine K6 (D7 rfl rfl rfl (by omega) (by unfold maxLen; omega) rfl) rfl ?_; rintro _ ⟨b110, rfl⟩)
 refine sQ (qA rfl) rfl (sD (nS ?_))
 (refine H7 (by repeat (first | exact Pk.here | apply Pk.there)) (fun G5 hle5 hsl5 hno5 => ?_))
 refine tT (rB (rS (E1 (rT rfl) ?_)))
 (exact V7.mk2 (o78 (by omega)) (hop.1 (by omega)) hsl5 (J4 _) (J4 _))
 refine sQ (qA rfl) rfl (sD (nS (cF rfl (tS (tR ?_)))))
 refine sB (qE rfl rfl) rfl rfl (fun h126 => ?_) (fun h126 => ?_)
 refine sQ (qA rfl) rfl (sD (nS (qT rfl (tS ?_))))
 refine D5 D6 rfl ?_
 refine L3 (i := 1) (l' := [ff,tt,ff,ff,ff]) rfl D0 (A3 rfl rfl) rfl (by kernel_rfl) rfl rfl ?_
 refine aL 2 rfl (A3 rfl rfl) rfl ?_
 refine A2 0 ?_
 refine M6 rfl rfl ((A3i _)) rfl rfl rfl ?_
 refine A2 3 ?_
 (refine E3 rfl (D7 rfl rfl rfl (by omega) (by unfold maxLen; omega) rfl) rfl rfl ?_; rintro _ ⟨b138, rfl⟩)
 refine aP 4 rfl (qA rfl) rfl ?_
 refine C5 (nS ?_)
 (refine H7 (by repeat (first | exact Pk.here | apply Pk.there)) (fun G5 hle5 hsl5 hno5 => ?_))
 refine tT (rB (rS (E1 (rT rfl) ?_)))
 (exact V7.mk3 (o9 (by omega)) (hop.2.1 (by omega)) hsl5 (Z2 _) (hrt.mono hle5) (hrt.mono hle5))
 refine sQ (qA rfl) rfl (sD (nS (cF rfl (tS (tS (tR ?_))))))
 refine sB (qE rfl rfl) rfl rfl (fun h155 => ?_) (fun h155 => ?_)
 refine I8 ?_
 (have hl1 : ts.length = 1 := hop.2.2 (by omega); obtain ⟨b0, o0', q0, d0, hp0, hat0, hre0, hg0⟩ := hsl.kidTy hkl (i := 0) (by omega) (by omega); cases hp0; refine sP (A8 (j := 0) rfl rfl rfl (by omega)) rfl rfl ?_)
 refine sL (A0 rfl rfl (hat0 _) rfl) rfl rfl ?_
 (obtain ⟨ma', mb', hm, hwo⟩ := o11 (by omega) (by omega); refine D2 rfl (A2R 5 ts[0] G _ (.inr rfl) (ha0 (by omega)) hre0) rfl rfl (fun v G1 hle1 hh => ?_); obtain ⟨ma, mca, mb, mcb, rfl, hma, hmb, hma2, hmb2, hpp⟩ := hh; have hpe := hpp _ hm; simp only [Prod.mk.injEq] at hpe; obtain ⟨rfl, rfl⟩ := hpe; obtain ⟨p1, c1, e1, rfl, _⟩ := hma.open; obtain ⟨p2, c2, e2, rfl, _⟩ := hmb.open; have hTwo := A2l 5 _ _ G1 _ _ (.inr rfl) hma2 hmb2 hma hmb)
 refine H8 ?_
 refine sE (A5 rfl) rfl (fun b173 => ?_)
 refine sE (A5 rfl) rfl (fun b174 => ?_)
 refine D8 ?_
 (refine D2 rfl hTwo rfl rfl (fun v G2 hle2 hh => ?_); obtain ⟨mc, rfl, hmr⟩ := hh; obtain ⟨p3, c3, e3, rfl, _⟩ := hmr.open; have hma4 := hma.mono hle2)
 refine J2 ?_
 refine sE (A5 rfl) rfl (fun b188 => ?_)
 refine C3 ?_
 (refine K6 (D7 rfl rfl rfl (by omega) (by unfold maxLen; omega) rfl) rfl ?_; rintro _ ⟨b196, rfl⟩)
 refine sQ (qA rfl) rfl (sD (nS ?_))
 (refine H7 (by repeat (first | exact Pk.here | apply Pk.there)) (fun G5 hle5 hsl5 hno5 => ?_))
 refine tT (rB (rS (E1 (rT rfl) ?_)))
 (exact V7.mk1 hwo (hop.2.2 (by omega)) hsl5 (hmr.mono hle5))
 refine sQ (qA rfl) rfl (sD (nS (cF rfl (tR ?_))))
 refine sB (qE rfl rfl) rfl rfl (fun h211 => ?_) (fun h211 => ?_)
 refine C3 ?_
 (have hl1 : ts.length = 1 := hop.2.2 (by omega); obtain ⟨b0, o0', q0, d0, hp0, hat0, hre0, hg0⟩ := hsl.kidTy hkl (i := 0) (by omega) (by omega); cases hp0; refine sP (A8 (j := 0) rfl rfl rfl (by omega)) rfl rfl ?_)
 refine sL (A0 rfl rfl (hat0 _) rfl) rfl rfl ?_
 (obtain ⟨ma', mb', hm, hwo⟩ := o11 (by omega) (by omega); refine D2 rfl (A2R 5 ts[0] G _ (.inr rfl) (ha0 (by omega)) hre0) rfl rfl (fun v G1 hle1 hh => ?_); obtain ⟨ma, mca, mb, mcb, rfl, hma, hmb, hma2, hmb2, hpp⟩ := hh; have hpe := hpp _ hm; simp only [Prod.mk.injEq] at hpe; obtain ⟨rfl, rfl⟩ := hpe; obtain ⟨p1, c1, e1, rfl, _⟩ := hma.open; obtain ⟨p2, c2, e2, rfl, _⟩ := hmb.open; have hTwo := A2l 5 _ _ G1 _ _ (.inr rfl) hma2 hmb2 hma hmb)
 refine H8 ?_
 refine sE (A5 rfl) rfl (fun b226 => ?_)
 refine sE (A5 rfl) rfl (fun b227 => ?_)
 refine D8 ?_
 (refine D2 rfl hTwo rfl rfl (fun v G2 hle2 hh => ?_); obtain ⟨mc, rfl, hmr⟩ := hh; obtain ⟨p3, c3, e3, rfl, _⟩ := hmr.open; have hma4 := hma.mono hle2)
 refine J2 ?_
 refine sE (A5 rfl) rfl (fun b241 => ?_)
 refine C3 ?_
 (refine K6 (D7 rfl rfl rfl (by omega) (by unfold maxLen; omega) rfl) rfl ?_; rintro _ ⟨b249, rfl⟩)
 refine sQ (qA rfl) rfl (sD (nS ?_))
 (refine H7 (by repeat (first | exact Pk.here | apply Pk.there)) (fun G5 hle5 hsl5 hno5 => ?_))
 refine tT (rB (rS (E1 (rT rfl) ?_)))
 (exact V7.mk1 hwo (hop.2.2 (by omega)) hsl5 (hmr.mono hle5))
 refine sQ (qA rfl) rfl (sD (nS (cF rfl (tS (tR ?_)))))
 refine sB (qE rfl rfl) rfl rfl (fun h265 => ?_) (fun h265 => ?_)
 refine C3 ?_
 (refine K6 (D7 rfl rfl rfl (by omega) (by unfold maxLen; omega) rfl) rfl ?_; rintro _ ⟨b273, rfl⟩)
 refine sQ (qA rfl) rfl (sD (nS ?_))
 (refine H7 (by repeat (first | exact Pk.here | apply Pk.there)) (fun G5 hle5 hsl5 hno5 => ?_))
 refine tT (rB (rS (E1 (rT rfl) ?_)))
 (exact V7.mk1 (o13 (by omega)) (hop.2.2 (by omega)) hsl5 (hrt.mono hle5))
 refine H3 ?_
 (exact V7.mk (o0 (by omega)) rfl hsl.sl hkl)
theorem A89 : ∀ (us : List Tm) (h : List Ty) (l : Int), I0 us h h l = (us, l)
 | [], h, l => by simp [I0]
 | u :: us, [], l => by simp [I0]
 | u :: us, a :: h, l => by simp only [I0, A5c, if_true, A89 us h l]
theorem A4p {us : List Tm} {h w : List Ty} {l : Int} : I0 us h (R3 w h) l = I0 us h w l := by
 unfold R3
 split
 ·rename_i hw; subst hw; rw [A89, A0v]
 ·rfl
theorem B3P {cx : Cx} {k : Int} {nm : ByteArray} {ty : Ty} {h w : List Ty} {t : Ty} (hh : ∀ a ∈ h, F4 a = true) (hw : Wt cx k nm ty h w t) : ∀ a ∈ R3 w h, F4 a = true := by
 intro a ha
 unfold R3 at ha
 split at ha
 ·exact hh a ha
 ·rename_i hne
  obtain ⟨i, hi, rfl⟩ := List.mem_iff_getElem.1 ha
  exact (hw.ok i hi (by rcases hw.len with h1 | h1; exact absurd h1 hne; omega)).2
def B3Q (u : Tm) (t : Ty) (l : Int) (G : IM) : IM → Value → List A4 → Prop := J8 fun G' v => ∃ cu ct, v = .tuple ⟨[.agg ⟨cu⟩, .agg ⟨ct⟩, .int .i64 (l + 1)]⟩ ∧ A6 G' u cu ∧ B6 G' t ct
theorem A9a {cx : Cx} : ∀ {ks : List Tm} {l : Int} {us : List Tm} {h : List Ty} {l' : Int}, M5 cx ks l = some (us, h, l') → us.length = ks.length ∧ h.length = ks.length
 | [], l, us, h, l', he => by simp only [M5, Option.some.injEq, Prod.mk.injEq] at he; obtain ⟨rfl, rfl, _⟩ := he; exact ⟨rfl, rfl⟩
 | t :: ts, l, us, h, l', he => by
  rw [M5] at he
  split at he
  ·cases he
  ·split at he
   ·cases he
   ·rename_i hz
    simp only [Option.some.injEq, Prod.mk.injEq] at he
    obtain ⟨rfl, rfl, _⟩ := he
    have := A9a hz
    simp [this.1, this.2]
theorem B3R : ∀ (e : Tm) (d : Int) (cx : Cx) (l0 : Int) (u0 : Tm) (t0 : Ty) (l1 : Int) (G : IM) (p : Option Addr) (n c : Nat) (cells : List Value), M7 cx e l0 = some (u0, t0, l1) → N5 12 14 e d = true → (n : Int) ≤ d → Z3 cx → Q4 G cx p n c → A6 G e cells → 0 ≤ l0 → l0 + (D1 e : Int) ≤ 1000000000 →
  Fn Tryz.prog 103 [.slice p n c, .agg ⟨cells⟩, .int .i64 (l0 + 1)] [] G (B3Q u0 t0 l1 G) := by
 refine Tm.ind fun k nm num ty fr lb ks ih d cx l0 u0 t0 l1 G p n c cells hel hv hnd hcv hx hr hl0 hlc => ?_
 have hr0 := hr
 have hone := hr.one
 have hT := A87 _ d cx G p n c cells hv hnd hcv hx hr
 obtain ⟨hts1, hts2⟩ := (A2N _ d cx l0 hv hcv).1 u0 t0 l1 hel
 rw [hts1] at hT
 have hsm := A7L _ d hv
 obtain ⟨hv1, hv2, hv3, hv4⟩ := A0Q hv
 have hvk := (A0O 12 14 ks _).1 hv4
 have har := (U3.1 hv3).1
 have hop := A2D har
 obtain ⟨hta, hts⟩ := A2E hv3
 have hcvX : Z3 (O6 cx k nm ty) := A3o hcv fun hk => (U3.1 hv3).2.2.2.2.2.1 (.inl hk)
 have hck : D1 (.mk k nm num ty fr lb ks) = E7 ks + 1 := Z1 ..
 rw [hck] at hlc
 rw [M7] at hel
 rcases hEL : M5 (O6 cx k nm ty) ks l0 with _ | ⟨usA, tsA, lA⟩
 ·rw [hEL] at hel; cases hel
 rw [hEL] at hel
 unfold A1p at hel
 rcases hNT : Y9 cx k nm ty tsA with _ | ⟨w, t9⟩
 ·simp only [hNT] at hel; cases hel
 simp only [hNT, Option.some.injEq, Prod.mk.injEq] at hel
 obtain ⟨hu0, rfl, rfl⟩ := hel
 obtain ⟨hlA1, hlA2⟩ := A9a hEL
 have hmw := (A7V hNT).2
 obtain ⟨_, htv, _⟩ := (A7Z ks (fun t ht d' cx' l' h1 h2 => A2N t d' cx' l' h1 h2) (d + 1) _ l0 hv4 hcvX).1 usA tsA lA hEL
 have hcAll := A04 usA tsA w lA
 have hWV : ∀ a ∈ R3 w tsA, F4 a = true := B3P htv (A8A htv (fun hk => (U3.1 hv3).2.2.2.2.2.1 (.inr (.inl hk))) (by rw [hlA2]; exact har) hv2 hmw)
 obtain ⟨tk, tks⟩ := ty
 obtain ⟨fk, fks⟩ := fr
 obtain ⟨pt, ct, pf, cf, q, cq, es, rfl, hk, hnum, hlb, hty, hfr, hsl, hkl⟩ := hr.open9
 have hlen : ks.length ≤ 3 := by have := A1G k; omega
 have hk13 : k = 13 → ks.length = 1 := fun h => hop.2.2 (by omega)
 refine B4 Tryz.func103 rfl Tryz.ntmps103 Tryz.results103 rfl ?_
 intro w0
 refine tS (tR ?_)
 refine sE (C1 rfl rfl) rfl (fun b3 => ?_)
 refine sE (A5 rfl) rfl (fun b4 => ?_)
 refine sE (A5 rfl) rfl (fun b5 => ?_)
 refine C3 ?_
 (refine D2 rfl hT rfl rfl (fun v G1 hle1 hh => ?_); obtain ⟨mt, mc, rfl, hmr, hma, hmu⟩ := hh; obtain rfl := hmu _ rfl; obtain ⟨p1, d1, e1, rfl, _⟩ := hmr.open; have hC := A3g _ G1 _ hsm (hr0.mono hle1))
 refine J2 ?_
 refine sE (A5 rfl) rfl (fun b17 => ?_)
 refine C3 ?_
 (refine D2 rfl hC rfl rfl (fun v G2 hle2 hh => ?_); obtain ⟨cs1, F1, rfl, hs1, hn1⟩ := hh; have hr1 := hs1.R.mono (B2.le G2 G1); obtain ⟨q1, c1, q2, c2, q3, c3, es1, rfl, _, _, _, hty1, hfr1, _, _⟩ := hr1.open9; have hle02 := hle1.trans hle2; replace hx := hx.mono hle02; replace hty := hty.mono hle02; replace hsl := hsl.mono hle02; replace hkl := hkl.mono hle02; replace hmr := hmr.mono hle2; replace hr0 := hr0.mono hle02)
 refine sE (A5 rfl) rfl (fun b26 => ?_)
 refine F8 ?_
 (show K2 _ _ (.region 4 ..) _ _; refine A3h (fun (x : Bool) => ⟨[(30, .bool x), (0, .slice p n c), (2, .int .i64 (l0 + 1)), (4, .pointer (some ⟨b3, 0, none⟩)), (6, .pointer (some ⟨b4, 0, none⟩)), (7, .pointer (some ⟨b5, 0, none⟩)), (9, .pointer (some ⟨b17, 0, none⟩)), (11, .pointer (some ⟨b26, 0, none⟩))], [.blk b26 [.int .i64 k, .string nm, .int .i64 num, .int .i64 tk, .slice q1 tks.length c1, .int .i64 fk, .slice q2 fks.length c2, .int .i64 lb, .slice none 0 0], .blk b17 [.int .i64 t9.k, .slice p1 t9.ks.length d1], .blk b5 [.int .i64 0, .slice none 0 0], .blk b4 [.int .i64 0, .string ⟨⟨[]⟩⟩, .int .i64 0, .int .i64 0, .slice none 0 0, .int .i64 0, .slice none 0 0, .int .i64 0, .slice none 0 0], .blk b3 [.int .i64 k, .string nm, .int .i64 num, .int .i64 tk, .slice pt tks.length ct, .int .i64 fk, .slice pf fks.length cf, .int .i64 lb, .slice q ks.length cq]], G2⟩) (fun x => x = true ↔ k = 5) ?_ ?_)
 ·refine tR (sQ (B0 rfl) rfl (sL (B9 rfl rfl) rfl rfl ?_))
  refine sB (qE rfl rfl) rfl rfl (fun h42 => ?_) (fun h42 => ?_)
  ·refine sD ?_
   refine A1n true (Q1 (by repeat (first | exact I7.nil | refine I7.cons rfl ?_)) (by repeat (first | exact A7.refl | exact A7.nil | refine A7.cons (by repeat (first | exact Pk.here | apply Pk.there)) ?_ | apply A7.drop))) ⟨fun _ => (by omega), fun _ => rfl⟩
  ·refine sD ?_
   refine A1n false (Q1 (by repeat (first | exact I7.nil | refine I7.cons rfl ?_)) (by repeat (first | exact A7.refl | exact A7.nil | refine A7.cons (by repeat (first | exact Pk.here | apply Pk.there)) ?_ | apply A7.drop))) ⟨fun h => (by cases h), fun _ => (by omega)⟩
 ·(rintro (x : Bool) hx5)
  (show K2 _ _ (.cond (.tmp 30) _ _) _ _; refine A3h (fun (x : Option Addr × Nat × Nat × IM) => ⟨[(0, .slice x.1 x.2.1 x.2.2.1), (2, .int .i64 (l0 + 1)), (4, .pointer (some ⟨b3, 0, none⟩)), (6, .pointer (some ⟨b4, 0, none⟩)), (7, .pointer (some ⟨b5, 0, none⟩)), (9, .pointer (some ⟨b17, 0, none⟩)), (11, .pointer (some ⟨b26, 0, none⟩))], [.blk b26 [.int .i64 k, .string nm, .int .i64 num, .int .i64 tk, .slice q1 tks.length c1, .int .i64 fk, .slice q2 fks.length c2, .int .i64 lb, .slice none 0 0], .blk b17 [.int .i64 t9.k, .slice p1 t9.ks.length d1], .blk b5 [.int .i64 0, .slice none 0 0], .blk b4 [.int .i64 0, .string ⟨⟨[]⟩⟩, .int .i64 0, .int .i64 0, .slice none 0 0, .int .i64 0, .slice none 0 0, .int .i64 0, .slice none 0 0], .blk b3 [.int .i64 k, .string nm, .int .i64 num, .int .i64 tk, .slice pt tks.length ct, .int .i64 fk, .slice pf fks.length cf, .int .i64 lb, .slice q ks.length cq]], x.2.2.2⟩) (fun x => B7 G2 x.2.2.2 ∧ Q4 x.2.2.2 (O6 cx k nm (.mk tk tks)) x.1 x.2.1 x.2.2.1 ∧ (x.2.1 : Int) ≤ d + 1) (A9y rfl (fun hxt => ?_) (fun hxf => ?_)) ?_)
  ·refine E2 ?_
   (refine D2 rfl (A84 G2 cx p n c nm (.mk tk tks) _ hx (by omega) hty) rfl rfl (fun v G3 hle3 hh => ?_); obtain ⟨pm0, cm0, rfl, hxm⟩ := hh)
   refine sQ (qA rfl) rfl (sD ?_)
   refine A1n (pm0, n + 1, cm0, G3) (Q1 (by repeat (first | exact I7.nil | refine I7.cons rfl ?_)) (by repeat (first | exact A7.refl | exact A7.nil | refine A7.cons (by repeat (first | exact Pk.here | apply Pk.there)) ?_ | apply A7.drop))) ?_
   (dsimp only; exact ⟨hle3, by rw [O6, if_pos (hx5.1 (by assumption))]; exact hxm, by omega⟩)
  ·refine tK ?_
   refine A1n (p, n, c, G2) (Q1 (by repeat (first | exact I7.nil | refine I7.cons rfl ?_)) (by repeat (first | exact A7.refl | exact A7.nil | refine A7.cons (by repeat (first | exact Pk.here | apply Pk.there)) ?_ | apply A7.drop))) ?_
   (dsimp only; exact ⟨B7.refl _, by rw [O6, if_neg (fun h => by have := hx5.2 h; rw [this] at hxf; cases hxf)]; exact hx, by omega⟩)
  ·(rintro ⟨(px : Option Addr), nx, cxx, Gx⟩ ⟨hleX, hxX, hnX⟩; simp only [] at hleX hxX hnX ⊢; replace hty1 := hty1.mono hleX; replace hfr1 := hfr1.mono hleX; replace hsl := hsl.mono hleX; replace hkl := hkl.mono hleX; replace hmr := hmr.mono hleX; replace hr0 := hr0.mono hleX)
   refine tS (tR ?_)
   (refine K6 (D7 rfl rfl rfl (by omega) (by unfold maxLen; omega) rfl) rfl ?_; rintro _ ⟨b66, rfl⟩)
   refine D8 ?_
   refine B3 ?_
   (refine S2 28 9 ?_; refine I1 (fun (x : Nat × (Option Addr × Nat × List Tm × List (List Value)) × (Option Addr × Nat × List Ty × List (List Value)) × Int × IM) => ⟨[(13, .int .i64 x.1), (12, .slice x.2.2.1.1 x.1 x.2.2.1.2.1), (0, .slice px nx cxx), (2, .int .i64 (x.2.2.2.1 + 1)), (4, .pointer (some ⟨b3, 0, none⟩)), (6, .pointer (some ⟨b4, 0, none⟩)), (7, .pointer (some ⟨b5, 0, none⟩)), (9, .pointer (some ⟨b17, 0, none⟩)), (11, .pointer (some ⟨b26, 0, none⟩))], [.blk b26 [.int .i64 k, .string nm, .int .i64 num, .int .i64 tk, .slice q1 tks.length c1, .int .i64 fk, .slice q2 fks.length c2, .int .i64 lb, .slice x.2.1.1 x.1 x.2.1.2.1], .slc x.2.1.1 x.2.1.2.1 28 9 x.1 x.2.1.2.2.2.flatten, .slc x.2.2.1.1 x.2.2.1.2.1 25 2 x.1 x.2.2.1.2.2.2.flatten, .blk b17 [.int .i64 t9.k, .slice p1 t9.ks.length d1], .blk b5 [.int .i64 0, .slice none 0 0], .blk b4 [.int .i64 0, .string ⟨⟨[]⟩⟩, .int .i64 0, .int .i64 0, .slice none 0 0, .int .i64 0, .slice none 0 0, .int .i64 0, .slice none 0 0], .blk b3 [.int .i64 k, .string nm, .int .i64 num, .int .i64 tk, .slice pt tks.length ct, .int .i64 fk, .slice pf fks.length cf, .int .i64 lb, .slice q ks.length cq]], x.2.2.2.2⟩) (fun x => x.1 ≤ ks.length ∧ B7 Gx x.2.2.2.2 ∧ x.2.1.2.2.1.length = x.1 ∧ C7 x.2.2.2.2 x.2.1.2.2.1 x.2.1.2.2.2 ∧ x.2.2.1.2.2.1.length = x.1 ∧ C2 x.2.2.2.2 x.2.2.1.2.2.1 x.2.2.1.2.2.2 ∧ M5 (O6 cx k nm (.mk tk tks)) (ks.take x.1) l0 = some (x.2.1.2.2.1, x.2.2.1.2.2.1, x.2.2.2.1) ∧ l0 ≤ x.2.2.2.1 ∧ x.2.2.2.1 + x.1 ≤ l0 + (E7 (ks.take x.1) : Int)) (fun x => ks.length - x.1) (0, (none, 0, [], []), (some ⟨b66, 0, none⟩, 0, [], []), l0, Gx) ?_ ?_ ?_)
   ·(simp only [List.take_zero, A0v]; exact (Q1 (by repeat (first | exact I7.nil | refine I7.cons rfl ?_)) (by repeat (first | exact A7.refl | exact A7.nil | refine A7.cons (by repeat (first | exact Pk.here | apply Pk.there)) ?_ | apply A7.drop))))
   ·(exact ⟨by simp, B7.refl _, rfl, by simp [C7], rfl, by simp [C2], by simp [M5], Int.le_refl _, by simp [E7]⟩)
   ·(rintro ⟨i, ⟨pn, cn, us, es'⟩, ⟨pm, cm, ts, ess⟩, l, Gi⟩ ⟨hi, hle, hlu, hst, hlt, hstt, hml, hl1, hl2⟩; simp only [] at hi hle hlu hst hlt hstt hml hl1 hl2 ⊢; replace hty1 := hty1.mono hle; replace hfr1 := hfr1.mono hle; replace hsl := hsl.mono hle; replace hkl := hkl.mono hle; replace hmr := hmr.mono hle; replace hr0 := hr0.mono hle; replace hxX := hxX.mono hle)
    refine C3 ?_
    refine sB (I2 rfl rfl) rfl rfl (fun h88 => ?_) (fun h88 => ?_)
    ·refine sD (nS (qT rfl (tK (nS (tS ?_)))))
     refine B3 ?_
     refine E2 ?_
     (obtain ⟨b, o, e, rfl, hl, hate, hre, hgb⟩ := hsl.kidTm hkl (i := i) (by omega) (by omega); have hsc := A0t (ks := ks) (i := i) (by omega); have hsk := A0s (ks := ks) (i := i) (by omega); rcases hE : M7 (O6 cx k nm (Ty.mk tk tks)) ks[i] l with _ | ⟨u, t, l3⟩; (have hno := A5o (by omega) hml hE; rw [hEL] at hno; cases hno); have hlm := A5C.el_mono _ _ _ _ _ _ hE; have hlx := A8C ks[i] (d + 1) _ l u t l3 (hvk i (by omega)) hE; refine sP (A8 rfl rfl rfl (by omega)) rfl rfl ?_)
     refine sL (A0 rfl rfl (hate _) hl) rfl rfl ?_
     refine sQ (qM rfl) rfl ?_
     (refine D2 rfl (ih ks[i] (List.getElem_mem (by omega)) (d + 1) _ l u t l3 Gi px nx cxx _ hE (hvk i (by omega)) (by omega) hcvX hxX hre (by omega) (by omega)) rfl rfl (fun v G3 hle3 hh => ?_); obtain ⟨uc, tc, rfl, hru, hrt⟩ := hh; obtain ⟨v1, v2, v3, v4, v5, v6, v7, v8, v9, rfl⟩ := T8 hru.len; obtain ⟨p3, c3, e3, rfl, _⟩ := hrt.open; have hlu9 := hru.len; have hou9 := hru.one)
     refine H8 ?_
     refine sE (A5 rfl) rfl (fun b110 => ?_)
     refine sE (A5 rfl) rfl (fun b111 => ?_)
     refine sS rfl rfl rfl hlu9 hou9 rfl ?_ (hu := by exact D4 hlu9.symm)
     refine D8 ?_
     (refine K6 (D7 rfl rfl rfl (by omega) (by unfold maxLen; omega) rfl) rfl ?_; rintro _ ⟨b122, rfl⟩)
     refine Z5 rfl rfl rfl rfl rfl (fun _ _ => by repeat (first | exact Sw.here | apply Sw.there)) (N8 (by repeat first | exact mH | apply mT)) rfl (fun u hu => List.all_eq_true.1 hou9 u hu) (by unfold maxLen; omega) (by omega) rfl (fun pn' cn' => ?_)
     refine D3 ?_
     (refine K6 (D7 rfl rfl rfl (by omega) (by unfold maxLen; omega) rfl) rfl ?_; rintro _ ⟨b132, rfl⟩)
     refine Z5 rfl rfl rfl rfl rfl (fun _ _ => by repeat (first | exact Sw.here | apply Sw.there)) (N8 (by repeat first | exact mH | apply mT)) rfl (by simp [Value.oneCell']) (by unfold maxLen; omega) (by omega) rfl (fun pm' cm' => ?_)
     refine F8 ?_
     refine sP (E8 rfl rfl (by omega) (by omega)) rfl rfl ?_
     refine sQ (qA rfl) rfl (sD ?_)
     refine I4 (i + 1, (pn', cn', us ++ [u], es' ++ [[v1, v2, v3, v4, v5, v6, v7, v8, v9]]), (pm', cm', ts ++ [t], ess ++ [[.int .i64 t.k, .slice p3 t.ks.length c3]]), l3, G3) ?_ ?_ ?_
     ·(simp only [H5]; exact C9)
     ·(dsimp only; exact ⟨by omega, hle.trans hle3, by simp [hlu], C7.snoc (hst.mono hle3) hru, by simp [hlt], C2.snoc (hstt.mono hle3) hrt, A3p (by omega) hml hE, by omega, by omega⟩)
     ·(show ks.length - (i + 1) < ks.length - i; omega)
    ·refine K1 ?_
     (obtain rfl : i = ks.length := (by omega); rw [List.take_length] at hml hl2; rw [hEL] at hml; simp only [Option.some.injEq, Prod.mk.injEq] at hml; obtain ⟨rfl, rfl, rfl⟩ := hml; refine A1X (cs := ess.flatten) (by repeat (first | exact Pk.here | apply Pk.there)) (fun G4 hle4 hsl4 hno4 => ?_); have hstt4 := hstt.mono hle4; have hslT : C4 G4 pm ks.length cm 2 ess := C4.of hsl4 (by rw [hstt4.len, hlt]) hstt4.all (fun e he => (hstt4.each e he).2); have hW := B3O cx k nm num (.mk tk tks) (.mk fk fks) lb ks _ w _ G4 _ _ pm cm ess hmw hv2 (by rw [hlt]; exact har) (hr0.mono hle4) (by rw [hlt]; exact hslT) hstt4 (fun t ht => A1L (htv t ht)) (hmr.mono hle4); rw [hlt] at hW; refine D2 rfl hW rfl rfl (fun v G5 hle5 hh => ?_); obtain ⟨pw, cw, esw, rfl, hlw, hsw, hstw⟩ := hh; have hle45 := hle4.trans hle5; replace hty1 := hty1.mono hle45; replace hfr1 := hfr1.mono hle45; replace hmr := hmr.mono hle45; replace hst := hst.mono hle45; replace hslT := hslT.mono hle5; replace hstt := hstt.mono hle45; rcases Nat.eq_zero_or_pos ks.length with h0 | h0)
     ·refine D8 ?_
      refine B3 ?_
      (have h0' : ks.length = 0 := h0; refine I1 (fun (_ : Nat) => ⟨[(18, .int .i64 0), (17, .slice pw ks.length cw), (12, .slice pm ks.length cm), (2, .int .i64 (lA + 1)), (4, .pointer (some ⟨b3, 0, none⟩)), (6, .pointer (some ⟨b4, 0, none⟩)), (7, .pointer (some ⟨b5, 0, none⟩)), (9, .pointer (some ⟨b17, 0, none⟩)), (11, .pointer (some ⟨b26, 0, none⟩))], [.blk b26 [.int .i64 k, .string nm, .int .i64 num, .int .i64 tk, .slice q1 tks.length c1, .int .i64 fk, .slice q2 fks.length c2, .int .i64 lb, .slice pn ks.length cn], .slc pn cn 28 9 ks.length es'.flatten, .blk b17 [.int .i64 t9.k, .slice p1 t9.ks.length d1], .blk b5 [.int .i64 0, .slice none 0 0], .blk b4 [.int .i64 0, .string ⟨⟨[]⟩⟩, .int .i64 0, .int .i64 0, .slice none 0 0, .int .i64 0, .slice none 0 0, .int .i64 0, .slice none 0 0], .blk b3 [.int .i64 k, .string nm, .int .i64 num, .int .i64 tk, .slice pt tks.length ct, .int .i64 fk, .slice pf fks.length cf, .int .i64 lb, .slice q ks.length cq]], G5⟩) (fun _ => True) (fun i => i) 0 ?_ ?_ ?_)
      ·exact C9
      ·trivial
      ·(rintro (i0 : Nat) _)
       refine E2 ?_
       refine sP (V1 rfl rfl (by omega)) rfl rfl ?_
       refine K1 ?_
       refine sP (I6 rfl rfl (by omega)) rfl rfl ?_
       refine sD (nS (cF rfl (tK (nS (tS ?_)))))
       refine D5 D6 rfl ?_
       refine L3 (i := 0) (l' := [tt,ff,ff,ff,ff,ff]) rfl D0 (A3 rfl rfl) rfl (by kernel_rfl) rfl rfl ?_
       refine aL 1 rfl (A3 rfl rfl) rfl ?_
       refine aP 2 rfl (qM rfl) rfl ?_
       refine A2 3 ?_
       refine oS rfl rfl rfl rfl rfl rfl rfl rfl ?_
       refine A2 4 ?_
       refine oS rfl rfl rfl rfl rfl rfl rfl rfl ?_
       refine aP 5 rfl (qA rfl) rfl ?_
       refine C5 (nS ?_)
       (refine H7 (cs := es'.flatten) (by repeat (first | exact Pk.here | apply Pk.there)) (fun G8 hle8 hsl8 hno8 => ?_); have hst8 := hst.mono hle8)
       refine tT ?_
       refine C8 (rC rfl (A3 rfl rfl)) (rC rfl (A3 rfl rfl)) (rT rfl) ?_
       (have hu9 : usA = [] := List.length_eq_zero_iff.1 (by omega); have hne : k ≠ 13 := (fun h => by have := hk13 h; omega); have hz : I0 usA tsA w lA = (usA, lA) := (by rw [hu9]; simp [I0]); rw [if_neg hne, hz] at hu0; subst hu0; rw [hz]; exact ⟨rfl, _, _, rfl, A6.put hk hnum hlb (hty1.mono hle8) (hfr1.mono hle8) hlA1.symm (C4.of hsl8 (by rw [hst8.len, hlA1]) hst8.all (fun e he => (hst8.each e he).2)) hst8, hmr.mono hle8⟩)
     ·(refine A3j (cs := es'.flatten) (by repeat (first | exact Pk.here | apply Pk.there)) h0 (fun bc C hpe hnc hcm => ?_); subst hpe; refine sQ (qA rfl) rfl ?_)
      refine sD (nS (tS (tS (tR (sQ (qA rfl) rfl (sD (nS ?_)))))))
      refine B3 ?_
      (have hLoop2 := hlw; refine I1 (fun (x : Nat × List (List Value) × IM) => ⟨[(18, .int .i64 x.1), (17, .slice pw ks.length cw), (12, .slice pm ks.length cm), (2, .int .i64 ((I0 usA tsA ((R3 w tsA).take x.1) lA).2 + 1)), (4, .pointer (some ⟨b3, 0, none⟩)), (6, .pointer (some ⟨b4, 0, none⟩)), (7, .pointer (some ⟨b5, 0, none⟩)), (9, .pointer (some ⟨b17, 0, none⟩)), (11, .pointer (some ⟨b26, 0, none⟩))], [.blk b26 [.int .i64 k, .string nm, .int .i64 num, .int .i64 tk, .slice q1 tks.length c1, .int .i64 fk, .slice q2 fks.length c2, .int .i64 lb, .slice (some ⟨bc, 0, none⟩) ks.length cn], .blk bc (x.2.1.flatten ++ C), .blk b17 [.int .i64 t9.k, .slice p1 t9.ks.length d1], .blk b5 [.int .i64 0, .slice none 0 0], .blk b4 [.int .i64 0, .string ⟨⟨[]⟩⟩, .int .i64 0, .int .i64 0, .slice none 0 0, .int .i64 0, .slice none 0 0, .int .i64 0, .slice none 0 0], .blk b3 [.int .i64 k, .string nm, .int .i64 num, .int .i64 tk, .slice pt tks.length ct, .int .i64 fk, .slice pf fks.length cf, .int .i64 lb, .slice q ks.length cq]], x.2.2⟩) (fun x => x.1 ≤ ks.length ∧ B7 G5 x.2.2 ∧ C7 x.2.2 (I0 usA tsA ((R3 w tsA).take x.1) lA).1 x.2.1) (fun x => ks.length - x.1) (0, es', G5) ?_ ?_ ?_)
      ·(simp only [List.take_zero, A0v]; exact (Q1 (by repeat (first | exact I7.nil | refine I7.cons rfl ?_)) (by repeat (first | exact A7.refl | exact A7.nil | refine A7.cons (by repeat (first | exact Pk.here | apply Pk.there)) ?_ | apply A7.drop))))
      ·(exact ⟨Nat.zero_le _, B7.refl _, by simp only [List.take_zero, A0v]; exact hst⟩)
      ·(rintro ⟨j, es2, G6⟩ ⟨hj, hle6, hst2⟩; simp only [] at hj hle6 hst2 ⊢; replace hty1 := hty1.mono hle6; replace hfr1 := hfr1.mono hle6; replace hmr := hmr.mono hle6; replace hslT := hslT.mono hle6; replace hstt := hstt.mono hle6; replace hsw := hsw.mono hle6; replace hstw := hstw.mono hle6; have hle2s := hst2.len; rw [A1q] at hle2s; have hall2 := hst2.all)
       refine E2 ?_
       refine sB (I2 rfl rfl) rfl rfl (fun h242 => ?_) (fun h242 => ?_)
       ·refine sD (nS (qT rfl (tK (nS (tS ?_)))))
        refine B3 ?_
        (have hjw : j < (R3 w tsA).length := (by omega); obtain ⟨bt, ot, qt, dt, hpt, hatt, hrtt, hgt⟩ := hslT.kidTy hstt (i := j) (by omega) (by omega); obtain ⟨bw, ow, qw, dw, hpw, hatw, hrtw, hgw⟩ := (show C4 G6 pw (R3 w tsA).length cw 2 esw from by rw [hlw]; exact hsw).kidTy hstw (i := j) (by omega) (by omega); cases hpt; cases hpw; obtain ⟨m1, m2, _⟩ := A3q usA tsA (R3 w tsA) lA j hjw (by omega) (by omega); obtain ⟨m3, m4⟩ := A75 (us := usA) (h := tsA) (w := R3 w tsA) (l := lA) hjw (by omega) (by omega); obtain ⟨hE1, hE2⟩ := hst2.at2 (i := j) (by omega) (by omega); rw [m2] at hE2; have hE3 := hE2.len; have hcj := A04 usA tsA ((R3 w tsA).take j) lA; refine D5 D6 rfl ?_)
        refine J6 (i := 0) (l' := [tt,ff,ff,ff,ff,ff,ff,ff,ff,ff,ff,ff,ff,ff,ff,ff,ff,ff,ff,ff,ff,ff,ff,ff]) rfl D0 (B0 rfl) rfl (by kernel_rfl) rfl rfl ?_
        refine aL 1 rfl (B9 rfl rfl) rfl ?_
        refine aP 2 rfl (qM rfl) rfl ?_
        refine aP 3 rfl (B0 rfl) rfl ?_
        refine aL 4 rfl (B9 rfl rfl) rfl ?_
        refine aP 5 rfl (qM rfl) rfl ?_
        refine aP 6 rfl (A8 (j := j) rfl rfl rfl (by omega)) rfl ?_
        refine aL 7 rfl (A0 rfl rfl (A35 (es := es2) (by repeat first | exact mH | apply mT) (by omega) hall2) hE3) rfl ?_
        refine aP 8 rfl (qM rfl) rfl ?_
        refine aP 9 rfl (qM rfl) rfl ?_
        refine aP 10 rfl (A8 (j := j) rfl rfl rfl (by omega)) rfl ?_
        refine aL 11 rfl (A0 rfl rfl (hatt _) rfl) rfl ?_
        refine aP 12 rfl (qM rfl) rfl ?_
        refine aP 13 rfl (qM rfl) rfl ?_
        refine aP 14 rfl (A8 (j := j) rfl rfl rfl (by omega)) rfl ?_
        refine aL 15 rfl (A0 rfl rfl (hatw _) rfl) rfl ?_
        refine aP 16 rfl (qM rfl) rfl ?_
        refine A2 17 ?_
        (have hwsm := (A1L (hWV _ (List.getElem_mem (show j < (R3 w tsA).length by omega)))).small; refine E9 rfl rfl (B3K usA[j] tsA[j] (R3 w tsA)[j] _ _ _ _ _ (by omega) hE2 hrtt hrtw (A1L (htv _ (List.getElem_mem (by omega)))).small hwsm) rfl rfl rfl (fun v G7 hle7 hh => ?_); obtain ⟨uc, rfl, hru⟩ := hh; rw [show (if M4 tsA[j] (R3 w tsA)[j] = true then (I0 usA tsA ((R3 w tsA).take j) lA).2 + 1 else (I0 usA tsA ((R3 w tsA).take j) lA).2 + 1 + 1) = (I0 usA tsA ((R3 w tsA).take (j + 1)) lA).2 + 1 from by rw [m4]; split <;> rfl]; have hlu9 := hru.len; have hou9 := hru.one)
        refine aP 18 rfl (qM rfl) rfl ?_
        refine aP 19 rfl (pX rfl rfl) rfl ?_
        refine aP 21 rfl (A8 (j := j) rfl rfl rfl (by omega)) rfl ?_
        refine aP 20 rfl (pX rfl rfl) rfl ?_
        refine A2 22 ?_
        refine Y2 rfl rfl rfl rfl hlu9 hou9 rfl rfl (by kernel_rfl) (by repeat first | exact Sw.here | apply Sw.there) (by exact A3k (by omega) hall2 hlu9) ?_
        refine aP 23 rfl (qA rfl) rfl ?_
        refine C5 (P4 (nS (tR (sQ (qM rfl) rfl ?_))))
        refine sP (E8 rfl rfl (by omega) (by omega)) rfl rfl ?_
        refine sQ (qA rfl) rfl (sD ?_)
        refine I4 (j + 1, es2.set j uc, G7) ?_ ?_ ?_
        ·(simp only [List.take_zero, A0v]; exact (Q1 (by repeat (first | exact I7.nil | refine I7.cons rfl ?_)) (by repeat (first | exact A7.refl | exact A7.nil | refine A7.cons (by repeat (first | exact Pk.here | apply Pk.there)) ?_ | apply A7.drop))))
        ·(dsimp only; exact ⟨by omega, hle6.trans hle7, by rw [m3]; exact C7.set (hst2.mono hle7) hru⟩)
        ·(show ks.length - (j + 1) < ks.length - j; omega)
       ·refine K1 ?_
        refine sB (qE rfl rfl) rfl rfl (fun h302 => ?_) (fun h302 => ?_)
        ·refine sD (nS (qT rfl (tS ?_)))
         (have hq13 : k = 13 := (by omega); have hl13 := hk13 hq13; have hjw : j = (R3 w tsA).length := (by omega); rw [hjw, List.take_length, A4p] at hst2; have hm0 := A1q usA tsA w lA; obtain ⟨hE1, hE2⟩ := hst2.at2 (i := 0) (by omega) (by omega); have hE3 := hE2.len; have hE4 := hE2.one; refine D5 D6 rfl ?_)
         refine J6 (i := 0) (l' := [tt,ff,ff,ff,ff,ff,ff,ff,ff]) rfl D0 (B0 rfl) rfl (by kernel_rfl) rfl rfl ?_
         refine aL 1 rfl (B9 rfl rfl) rfl ?_
         refine aP 2 rfl (A8 (j := 0) rfl rfl rfl (by omega)) rfl ?_
         refine aL 3 rfl (A0 rfl rfl (A35 (es := es2) (by repeat first | exact mH | apply mT) (by omega) hall2) hE3) rfl ?_
         refine aL 4 rfl (A3 rfl rfl) rfl ?_
         refine aP 5 rfl (qM rfl) rfl ?_
         refine A2 6 ?_
         refine oS rfl rfl rfl rfl hE3 hE4 rfl rfl ?_ (hu := by exact D4 hE3.symm)
         refine A2 7 ?_
         refine oS rfl rfl rfl rfl rfl rfl rfl rfl ?_
         refine aP 8 rfl (qA rfl) rfl ?_
         refine C5 (nS ?_)
         (refine A1d (bs := [(bc, es2.flatten ++ C)]) (Pk.perm (by repeat (first | exact Pk.here | apply Pk.there))) (fun hn9 hd9 hle9 => ?_))
         refine tT (rS ?_)
         refine C8 (rC rfl (A0 rfl rfl (A9 (by repeat first | exact mH | apply mT)) hE3)) (rC rfl (A3 rfl rfl)) (rT rfl) ?_
         (rw [if_pos hq13, A8J (by omega)] at hu0; subst hu0; rw [hjw, List.take_length, A4p]; exact ⟨rfl, _, _, rfl, hE2.mono hle9, hmr.mono hle9⟩)
        ·refine sD (nS (cF rfl (tK (nS (tS ?_)))))
         refine D5 D6 rfl ?_
         refine L3 (i := 0) (l' := [tt,ff,ff,ff,ff,ff]) rfl D0 (A3 rfl rfl) rfl (by kernel_rfl) rfl rfl ?_
         refine aL 1 rfl (A3 rfl rfl) rfl ?_
         refine aP 2 rfl (qM rfl) rfl ?_
         refine A2 3 ?_
         refine oS rfl rfl rfl rfl rfl rfl rfl rfl ?_
         refine A2 4 ?_
         refine oS rfl rfl rfl rfl rfl rfl rfl rfl ?_
         refine aP 5 rfl (qA rfl) rfl ?_
         refine C5 (nS ?_)
         (refine A1d (bs := [(bc, es2.flatten ++ C)]) (Pk.perm (by repeat (first | exact Pk.here | apply Pk.there))) (fun hn9 hd9 hle9 => ?_))
         refine tT ?_
         refine C8 (rC rfl (A3 rfl rfl)) (rC rfl (A3 rfl rfl)) (rT rfl) ?_
         (have hjw : j = (R3 w tsA).length := (by omega); rw [hjw, List.take_length, A4p] at hst2; have hst9 := hst2.mono hle9; have hm0 := A1q usA tsA w lA; rw [if_neg (by omega)] at hu0; subst hu0; rw [hjw, List.take_length, A4p]; exact ⟨rfl, _, _, rfl, A6.put hk hnum hlb (hty1.mono hle9) (hfr1.mono hle9) (by rw [hm0, hlA1]) (C4.of (Sl.of_blk (A := []) (by rw [Z6 hst9.all, hst9.len, hm0, hlA1]) (by omega) hcm (Wi.in hn9 List.mem_cons_self)) (by rw [hst9.len, hm0, hlA1]) hst9.all (fun e he => (hst9.each e he).2)) hst9, hmr.mono hle9⟩)
theorem B3S (e : Tm) (G : IM) (cells : List Value) (hcnt : D1 e ≤ 4294967296) (hr : A6 G e cells) : Fn Tryz.prog 63 [.agg ⟨cells⟩] [] G (A0T (V4 e)) := by
 have hl := hr.len
 have hone := hr.one
 refine B4 Tryz.func63 rfl Tryz.ntmps63 Tryz.results63 rfl ?_
 intro w0
 refine tS (tR ?_)
 refine sE (C1 rfl rfl) rfl (fun b3 => ?_)
 refine sE (A5 rfl) rfl (fun b4 => ?_)
 refine sE (A5 rfl) rfl (fun b5 => ?_)
 refine sQ (qA rfl) rfl (sD (nS (tS (tR ?_))))
 refine sL (A0 rfl rfl (A9 (by repeat first | exact mH | apply mT)) (by assumption)) rfl rfl ?_
 focus (refine D2 rfl (A88 e _ _ (by omega) hr) rfl rfl (fun v G1 hle1 hh => ?_); obtain ⟨mc, mt, rfl, hmr, hmu⟩ := hh; obtain ⟨pt, ct, et, rfl, _⟩ := hmr.open; obtain ⟨r, hI⟩ : ∃ r, V4 e = r := ⟨_, rfl⟩; rcases r with _ | ⟨u, t⟩; (have hto : Q8 e = none := by unfold Q8; rw [hI]); rotate_left; (have hto : Q8 e = some t := by unfold Q8; rw [hI]); obtain ⟨hv, l3, hE⟩ := B3F hI; obtain ⟨hv1, hv2⟩ := (A1m e).1 hv; rotate_left; all_goals rw [hto]; all_goals simp only [Option.isSome])
 refine J2 ?_
 refine sE (A5 rfl) rfl (fun b16 => ?_)
 refine A0Y ?_
 refine C8 (rC rfl (A3 rfl rfl)) (rC rfl (A3 rfl rfl)) (rT rfl) ?_
 (exact A0T.no (by first | exact hI | rfl) (M1 _) (O4 _ ⟨by omega, by omega⟩))
 refine J2 ?_
 refine sE (A5 rfl) rfl (fun b45 => ?_)
 refine J1 ?_
 refine sL (A0 rfl rfl (A9 (by repeat first | exact mH | apply mT)) (by assumption)) rfl rfl ?_
 (have hIn := B3R e 1 [] 0 u t l3 G1 none 0 0 cells hE hv1 (by omega) A2M (Q4.nil _) (hr.mono hle1) (by omega) (by omega); refine D2 rfl hIn rfl rfl (fun v G2 hle2 hh => ?_); obtain ⟨cu, tc, rfl, hru, hrt⟩ := hh; obtain ⟨qt, dt, et2, rfl, _⟩ := hrt.open; have hlu := hru.len; have hou := hru.one)
 refine H8 ?_
 refine sE (A5 rfl) rfl (fun b68 => ?_)
 refine sE (A5 rfl) rfl (fun b69 => ?_)
 refine S6 rfl rfl rfl hlu hou rfl (by repeat first | exact Sw.here | apply Sw.there) (by exact D4 (by first | exact hlu.symm | omega)) ?_
 refine J7 ?_
 refine sQ (qA rfl) rfl (sD (nS (tS ?_)))
 refine D5 D6 rfl ?_
 refine L3 (i := 0) (l' := [tt,ff,ff,ff,ff]) rfl D0 (A0 rfl rfl (A9 (by repeat first | exact mH | apply mT)) hlu) rfl (by kernel_rfl) rfl rfl ?_
 refine aL 1 rfl (A3 rfl rfl) rfl ?_
 refine A2 2 ?_
 refine oS rfl rfl rfl rfl hlu hou rfl rfl ?_ (hu := by exact D4 hlu.symm)
 refine A2 3 ?_
 refine oS rfl rfl rfl rfl rfl rfl rfl rfl ?_
 refine aP 4 rfl (qA rfl) rfl ?_
 refine C5 (nS (tT ?_))
 refine C8 (rC rfl (A0 rfl rfl (A9 (by repeat first | exact mH | apply mT)) hlu)) (rC rfl (A3 rfl rfl)) (rT rfl) ?_
 (exact A0T.yes (by first | exact hI | rfl) hru hrt)
theorem X8.openA {a b : List Ty} {G' : IM} {v : Value} {outs : List A4} {m : Nat} (h : X8 (a ++ b) G' v outs) (hm : a.length = m) :
  ∃ p c es, v = .slice p (m + b.length) c ∧ outs = [.slc p c 25 2 (m + b.length) es.flatten] ∧ C2 G' (a ++ b) es := by
 subst hm
 rw [← List.length_append]
 exact h
theorem B3T : ∀ (t : Tm) (l : List Ty) (G : IM) (cells : List Value) (p : Option Addr) (c : Nat) (es : List (List Value)), t.small → l.length + D1 t ≤ 4000000 → A6 G t cells → C2 G l es →
  Fn Tryz.prog 142 [.slice p l.length c, .agg ⟨cells⟩] [.slc p c 25 2 l.length es.flatten] G (X8 (l ++ I5 t)) := by
 refine Tm.ind fun k nm num ty fr lb ks ih l G cells p c es0 hts hcnt hr hl0 => ?_
 have hone := hr.one
 simp only [Tm.small] at hts
 obtain ⟨_, hty', _, hsm, hks⟩ := hts
 have hcy : k = 5 ∨ k = 13 → I5 (.mk k nm num ty fr lb ks) = [ty] ++ H2 ks := fun h => by rw [I5, if_pos h]
 have hcn : ¬ (k = 5 ∨ k = 13) → I5 (.mk k nm num ty fr lb ks) = H2 ks := fun h => by rw [I5, if_neg h, List.nil_append]
 rw [D1] at hcnt
 obtain ⟨tk, tks⟩ := ty
 obtain ⟨fk, fks⟩ := fr
 obtain ⟨pt, ct, pf, cf, q, cq, ek, rfl, hk, hnum, hlb, hty, hfr, hsl, hkl⟩ := hr.open9
 have hn := hsl.le
 refine B4 Tryz.func142 rfl Tryz.ntmps142 Tryz.results142 rfl ?_
 intro w0
 refine tS (tR ?_)
 refine sE (C1 rfl rfl) rfl (fun b3 => ?_)
 refine D3 ?_
 refine sB (qE rfl rfl) rfl rfl (fun h12 => ?_) (fun h12 => ?_)
 refine J9 ?_
 (refine D2 rfl (P6 (.mk tk tks) G _ hty' hty) rfl rfl (fun v G1 hle1 hh => ?_); obtain ⟨cs1, F1, rfl, hs1, hn1⟩ := hh; have hr1 := hs1.R.mono (B2.le _ _); obtain ⟨p1, c1, rfl, _⟩ := hs1.open)
 (refine K6 (D7 rfl rfl rfl (by omega) (by unfold maxLen; omega) rfl) rfl ?_; rintro _ ⟨b26, rfl⟩)
 (refine Z5 rfl rfl rfl rfl rfl (fun _ _ => by repeat (first | exact Sw.here | apply Sw.there)) (N8 (by repeat first | exact mH | apply mT)) rfl (by simp [Value.oneCell']) (by unfold maxLen; omega) (by omega) rfl (fun pn0 cn0 => ?_))
 refine D8 ?_
 refine B3 ?_
 (have h14 := hcy (by omega); have hinit := C2.append (hl0.mono hle1) (C2.one1 hr1); refine I1 (fun (x : Nat × Nat × Option Addr × Nat × List (List Value) × IM) => ⟨[(5, .int .i64 x.1), (3, .pointer (some ⟨b3, 0, none⟩)), (0, .slice x.2.2.1 x.2.1 x.2.2.2.1)], [.slc x.2.2.1 x.2.2.2.1 25 2 x.2.1 x.2.2.2.2.1.flatten, .blk b3 [.int .i64 k, .string nm, .int .i64 num, .int .i64 tk, .slice pt tks.length ct, .int .i64 fk, .slice pf fks.length cf, .int .i64 lb, .slice q ks.length cq]], x.2.2.2.2.2⟩) (fun x => x.1 ≤ ks.length ∧ B7 G x.2.2.2.2.2 ∧ C2 x.2.2.2.2.2 ((l ++ [Ty.mk tk tks]) ++ H2 (ks.take x.1)) x.2.2.2.2.1 ∧ ((l ++ [Ty.mk tk tks]) ++ H2 (ks.take x.1)).length = x.2.1) (fun x => ks.length - x.1) (0, l.length + 1, pn0, cn0, es0 ++ [[.int .i64 tk, .slice p1 tks.length c1]], G1) (by simp only [List.flatten_append, List.flatten_cons, List.flatten_nil, List.append_nil]; exact (Q1 (by repeat (first | exact I7.nil | refine I7.cons rfl ?_)) (by repeat (first | exact A7.refl | exact A7.nil | refine A7.cons (by repeat (first | exact Pk.here | apply Pk.there)) ?_ | apply A7.drop)))) ?_ ?_)
 (exact ⟨Nat.zero_le _, hle1, (by show C2 G1 ((l ++ [Ty.mk tk tks]) ++ H2 (ks.take 0)) _; rw [List.take_zero, H2, List.append_nil]; exact hinit), by simp [H2]⟩)
 (rintro ⟨(i : Nat), (m : Nat), pn, cn, es, Gi⟩ ⟨hi, hle, hst, hlen⟩; simp only [] at hi hle hst hlen ⊢; replace hsl := hsl.mono hle; replace hkl := hkl.mono hle; have hb1 := A0G (ks.take i); have hb2 := A0G ks; have hlen0 := hlen; simp only [List.length_append, List.length_singleton, List.length_nil] at hlen)
 refine C3 ?_
 refine sB (I2 rfl rfl) rfl rfl (fun h48 => ?_) (fun h48 => ?_)
 refine sD (nS (qT rfl (tK (nS (tS ?_)))))
 refine B3 ?_
 refine O8 ?_
 (obtain ⟨b, o, e, rfl, hl, hat, hre, hgb⟩ := hsl.kidTm hkl (i := i) (by omega) (by omega); have hone9 := hre.one; have hsc := A0t (ks := ks) (i := i) (by omega); have hsk := A0s (ks := ks) (i := i) (by omega); refine sP (A8 rfl rfl rfl (by omega)) rfl rfl ?_)
 refine sL (A0 rfl rfl (hat _) hl) rfl rfl ?_
 (have hih := ih ks[i] (List.getElem_mem (by omega)) _ Gi e pn cn es (Tm.smallL_mem hks _ (List.getElem_mem (by omega))) (by simp only [List.length_append, List.length_singleton]; omega) hre hst; rw [hlen0] at hih; refine A1F rfl hih (Pk.perm (by repeat (first | exact Pk.here | apply Pk.there))) rfl rfl (fun v3 G3 outs hle3 hh => ?_); obtain ⟨p3, c3, e3, rfl, rfl, hr3⟩ := X8.openA hh hlen0)
 refine E2 ?_
 refine sP (E8 rfl rfl (by omega) (by omega)) rfl rfl ?_
 refine sQ (qA rfl) rfl (sD ?_)
 (refine I4 (i + 1, m + (I5 ks[i]).length, p3, c3, e3, G3) ?_ ?_ ?_)
 (simp only [H5]; exact C9)
 (dsimp only; exact ⟨by omega, hle.trans hle3, by rw [V6 (by omega), ← List.append_assoc]; exact hr3, by rw [V6 (by omega), ← List.append_assoc, List.length_append, hlen0]⟩)
 (show ks.length - (i + 1) < ks.length - i; omega)
 refine L5 ?_
 (obtain rfl : i = ks.length := (by omega))
 refine tT ?_
 refine N9 (outs := [.slc pn cn 25 2 m es.flatten]) (rT rfl) (A7.cons (by repeat (first | exact Pk.here | apply Pk.there)) A7.nil) ?_
 (rw [h14]; rw [List.take_length] at hst hlen; first | exact X8.mk (by simp only [List.length_append, List.length_singleton, List.length_nil]; omega) hst | (rw [← List.append_assoc]; exact X8.mk (by simp only [List.length_append, List.length_singleton, List.length_nil]; omega) hst))
 refine J2 ?_
 refine sB (qE rfl rfl) rfl rfl (fun h98 => ?_) (fun h98 => ?_)
 refine D3 ?_
 (refine D2 rfl (P6 (.mk tk tks) G _ hty' hty) rfl rfl (fun v G1 hle1 hh => ?_); obtain ⟨cs1, F1, rfl, hs1, hn1⟩ := hh; have hr1 := hs1.R.mono (B2.le _ _); obtain ⟨p1, c1, rfl, _⟩ := hs1.open)
 (refine K6 (D7 rfl rfl rfl (by omega) (by unfold maxLen; omega) rfl) rfl ?_; rintro _ ⟨b108, rfl⟩)
 (refine Z5 rfl rfl rfl rfl rfl (fun _ _ => by repeat (first | exact Sw.here | apply Sw.there)) (N8 (by repeat first | exact mH | apply mT)) rfl (by simp [Value.oneCell']) (by unfold maxLen; omega) (by omega) rfl (fun pn0 cn0 => ?_))
 refine D8 ?_
 refine B3 ?_
 (have h14 := hcy (by omega); have hinit := C2.append (hl0.mono hle1) (C2.one1 hr1); refine I1 (fun (x : Nat × Nat × Option Addr × Nat × List (List Value) × IM) => ⟨[(5, .int .i64 x.1), (3, .pointer (some ⟨b3, 0, none⟩)), (0, .slice x.2.2.1 x.2.1 x.2.2.2.1)], [.slc x.2.2.1 x.2.2.2.1 25 2 x.2.1 x.2.2.2.2.1.flatten, .blk b3 [.int .i64 k, .string nm, .int .i64 num, .int .i64 tk, .slice pt tks.length ct, .int .i64 fk, .slice pf fks.length cf, .int .i64 lb, .slice q ks.length cq]], x.2.2.2.2.2⟩) (fun x => x.1 ≤ ks.length ∧ B7 G x.2.2.2.2.2 ∧ C2 x.2.2.2.2.2 ((l ++ [Ty.mk tk tks]) ++ H2 (ks.take x.1)) x.2.2.2.2.1 ∧ ((l ++ [Ty.mk tk tks]) ++ H2 (ks.take x.1)).length = x.2.1) (fun x => ks.length - x.1) (0, l.length + 1, pn0, cn0, es0 ++ [[.int .i64 tk, .slice p1 tks.length c1]], G1) (by simp only [List.flatten_append, List.flatten_cons, List.flatten_nil, List.append_nil]; exact (Q1 (by repeat (first | exact I7.nil | refine I7.cons rfl ?_)) (by repeat (first | exact A7.refl | exact A7.nil | refine A7.cons (by repeat (first | exact Pk.here | apply Pk.there)) ?_ | apply A7.drop)))) ?_ ?_)
 (exact ⟨Nat.zero_le _, hle1, (by show C2 G1 ((l ++ [Ty.mk tk tks]) ++ H2 (ks.take 0)) _; rw [List.take_zero, H2, List.append_nil]; exact hinit), by simp [H2]⟩)
 (rintro ⟨(i : Nat), (m : Nat), pn, cn, es, Gi⟩ ⟨hi, hle, hst, hlen⟩; simp only [] at hi hle hst hlen ⊢; replace hsl := hsl.mono hle; replace hkl := hkl.mono hle; have hb1 := A0G (ks.take i); have hb2 := A0G ks; have hlen0 := hlen; simp only [List.length_append, List.length_singleton, List.length_nil] at hlen)
 refine C3 ?_
 refine sB (I2 rfl rfl) rfl rfl (fun h130 => ?_) (fun h130 => ?_)
 refine sD (nS (qT rfl (tK (nS (tS ?_)))))
 refine B3 ?_
 refine O8 ?_
 (obtain ⟨b, o, e, rfl, hl, hat, hre, hgb⟩ := hsl.kidTm hkl (i := i) (by omega) (by omega); have hone9 := hre.one; have hsc := A0t (ks := ks) (i := i) (by omega); have hsk := A0s (ks := ks) (i := i) (by omega); refine sP (A8 rfl rfl rfl (by omega)) rfl rfl ?_)
 refine sL (A0 rfl rfl (hat _) hl) rfl rfl ?_
 (have hih := ih ks[i] (List.getElem_mem (by omega)) _ Gi e pn cn es (Tm.smallL_mem hks _ (List.getElem_mem (by omega))) (by simp only [List.length_append, List.length_singleton]; omega) hre hst; rw [hlen0] at hih; refine A1F rfl hih (Pk.perm (by repeat (first | exact Pk.here | apply Pk.there))) rfl rfl (fun v3 G3 outs hle3 hh => ?_); obtain ⟨p3, c3, e3, rfl, rfl, hr3⟩ := X8.openA hh hlen0)
 refine E2 ?_
 refine sP (E8 rfl rfl (by omega) (by omega)) rfl rfl ?_
 refine sQ (qA rfl) rfl (sD ?_)
 (refine I4 (i + 1, m + (I5 ks[i]).length, p3, c3, e3, G3) ?_ ?_ ?_)
 (simp only [H5]; exact C9)
 (dsimp only; exact ⟨by omega, hle.trans hle3, by rw [V6 (by omega), ← List.append_assoc]; exact hr3, by rw [V6 (by omega), ← List.append_assoc, List.length_append, hlen0]⟩)
 (show ks.length - (i + 1) < ks.length - i; omega)
 refine L5 ?_
 (obtain rfl : i = ks.length := (by omega))
 refine tT ?_
 refine N9 (outs := [.slc pn cn 25 2 m es.flatten]) (rT rfl) (A7.cons (by repeat (first | exact Pk.here | apply Pk.there)) A7.nil) ?_
 (rw [h14]; rw [List.take_length] at hst hlen; first | exact X8.mk (by simp only [List.length_append, List.length_singleton, List.length_nil]; omega) hst | (rw [← List.append_assoc]; exact X8.mk (by simp only [List.length_append, List.length_singleton, List.length_nil]; omega) hst))
 refine J9 ?_
 refine B3 ?_
 (have h14 := hcn (by omega); refine I1 (fun (x : Nat × Nat × Option Addr × Nat × List (List Value) × IM) => ⟨[(5, .int .i64 x.1), (3, .pointer (some ⟨b3, 0, none⟩)), (0, .slice x.2.2.1 x.2.1 x.2.2.2.1)], [.slc x.2.2.1 x.2.2.2.1 25 2 x.2.1 x.2.2.2.2.1.flatten, .blk b3 [.int .i64 k, .string nm, .int .i64 num, .int .i64 tk, .slice pt tks.length ct, .int .i64 fk, .slice pf fks.length cf, .int .i64 lb, .slice q ks.length cq]], x.2.2.2.2.2⟩) (fun x => x.1 ≤ ks.length ∧ B7 G x.2.2.2.2.2 ∧ C2 x.2.2.2.2.2 (l ++ H2 (ks.take x.1)) x.2.2.2.2.1 ∧ (l ++ H2 (ks.take x.1)).length = x.2.1) (fun x => ks.length - x.1) (0, l.length, p, c, es0, G) ?_ ?_ ?_)
 (simp only [H5]; exact C9)
 (exact ⟨Nat.zero_le _, B7.refl _, by simpa [H2] using hl0, by simp [H2]⟩)
 (rintro ⟨(i : Nat), (m : Nat), pn, cn, es, Gi⟩ ⟨hi, hle, hst, hlen⟩; simp only [] at hi hle hst hlen ⊢; replace hsl := hsl.mono hle; replace hkl := hkl.mono hle; have hb1 := A0G (ks.take i); have hb2 := A0G ks; have hlen0 := hlen; simp only [List.length_append, List.length_singleton, List.length_nil] at hlen)
 refine C3 ?_
 refine sB (I2 rfl rfl) rfl rfl (fun h201 => ?_) (fun h201 => ?_)
 refine sD (nS (qT rfl (tK (nS (tS ?_)))))
 refine B3 ?_
 refine O8 ?_
 (obtain ⟨b, o, e, rfl, hl, hat, hre, hgb⟩ := hsl.kidTm hkl (i := i) (by omega) (by omega); have hone9 := hre.one; have hsc := A0t (ks := ks) (i := i) (by omega); have hsk := A0s (ks := ks) (i := i) (by omega); refine sP (A8 rfl rfl rfl (by omega)) rfl rfl ?_)
 refine sL (A0 rfl rfl (hat _) hl) rfl rfl ?_
 (have hih := ih ks[i] (List.getElem_mem (by omega)) _ Gi e pn cn es (Tm.smallL_mem hks _ (List.getElem_mem (by omega))) (by simp only [List.length_append, List.length_singleton]; omega) hre hst; rw [hlen0] at hih; refine A1F rfl hih (Pk.perm (by repeat (first | exact Pk.here | apply Pk.there))) rfl rfl (fun v3 G3 outs hle3 hh => ?_); obtain ⟨p3, c3, e3, rfl, rfl, hr3⟩ := X8.openA hh hlen0)
 refine E2 ?_
 refine sP (E8 rfl rfl (by omega) (by omega)) rfl rfl ?_
 refine sQ (qA rfl) rfl (sD ?_)
 (refine I4 (i + 1, m + (I5 ks[i]).length, p3, c3, e3, G3) ?_ ?_ ?_)
 (simp only [H5]; exact C9)
 (dsimp only; exact ⟨by omega, hle.trans hle3, by rw [V6 (by omega), ← List.append_assoc]; exact hr3, by rw [V6 (by omega), ← List.append_assoc, List.length_append, hlen0]⟩)
 (show ks.length - (i + 1) < ks.length - i; omega)
 refine L5 ?_
 (obtain rfl : i = ks.length := (by omega))
 refine tT ?_
 refine N9 (outs := [.slc pn cn 25 2 m es.flatten]) (rT rfl) (A7.cons (by repeat (first | exact Pk.here | apply Pk.there)) A7.nil) ?_
 (rw [h14]; rw [List.take_length] at hst hlen; first | exact X8.mk (by simp only [List.length_append, List.length_singleton, List.length_nil]; omega) hst | (rw [← List.append_assoc]; exact X8.mk (by simp only [List.length_append, List.length_singleton, List.length_nil]; omega) hst))
def V8 (t : Tm) : List Ty := if P0 t = true then I5 t else []
theorem A5P (t : Tm) (G : IM) (cells : List Value) (hts : t.small) (hcnt : D1 t ≤ 4000000) (hr : A6 G t cells) : Fn Tryz.prog 100 [.agg ⟨cells⟩] [] G (X8 (V8 t)) := by
 have hl := hr.len
 have hone := hr.one
 have hv := A5f t G cells (by omega) hr
 have hno : P0 t = false → V8 t = [] := fun h => by unfold V8; rw [h]; rfl
 have hyes : P0 t = true → V8 t = I5 t := fun h => by unfold V8; rw [h]; rfl
 refine B4 Tryz.func100 rfl Tryz.ntmps100 Tryz.results100 rfl ?_
 intro w0
 refine tS (tR ?_)
 refine sE (C1 rfl rfl) rfl (fun b3 => ?_)
 refine sQ (qA rfl) rfl (sD (nS (tS (tS (tR ?_)))))
 refine sL (A0 rfl rfl (A9 (by repeat first | exact mH | apply mT)) (by assumption)) rfl rfl ?_
 refine F0 rfl (hv) rfl rfl (fun h11 => ?_) (fun h11 => ?_)
 refine sQ (U0 rfl) rfl (sD (nS (cF rfl (tK (nS (tS (tR ?_)))))))
 (refine K6 (D7 rfl rfl rfl (by omega) (by unfold maxLen; omega) rfl) rfl ?_; rintro _ ⟨b20, rfl⟩)
 refine sL (A0 rfl rfl (A9 (by repeat first | exact mH | apply mT)) (by assumption)) rfl rfl ?_
 (refine A1F rfl (B3T t [] G cells _ 0 [] hts (by simp; omega) hr (by simp [C2])) (Pk.perm (by repeat (first | exact Pk.here | apply Pk.there))) rfl rfl (fun v3 G3 outs hle3 hh => ?_); obtain ⟨p3, c3, e3, rfl, rfl, hr3⟩ := hh)
 refine sQ (qA rfl) rfl (sD (nS (tT ?_)))
 refine N9 (outs := [.slc p3 c3 25 2 ([] ++ I5 t).length e3.flatten]) (rT rfl) (A7.cons (by repeat (first | exact Pk.here | apply Pk.there)) A7.nil) ?_
 (rw [hyes (by assumption)]; exact ⟨p3, c3, e3, rfl, rfl, hr3⟩)
 refine sQ (pNf rfl) rfl (sD (nS (qT rfl (tS (tR ?_)))))
 (refine K6 (D7 rfl rfl rfl (by omega) (by unfold maxLen; omega) rfl) rfl ?_; rintro _ ⟨b35, rfl⟩)
 refine sQ (qA rfl) rfl (sD (nS (tT (rS ?_))))
 refine N9 (rT rfl) (A7.cons Pk.here A7.nil) ?_
 (rw [hno (by assumption)]; exact ⟨_, _, [], rfl, rfl, by simp [C2]⟩)
theorem A9b (t : Tm) (G : IM) (cells : List Value) (hts : t.small) (hcnt : D1 t ≤ 4000000) (hr : A6 G t cells) : Fn Tryz.prog 61 [.agg ⟨cells⟩] [] G (J8 fun _ v => v = .int .i64 ((V8 t).length : Int)) := by
 have hl := hr.len
 have hone := hr.one
 refine B4 Tryz.func61 rfl Tryz.ntmps61 Tryz.results61 rfl ?_
 intro w0
 refine tS (tR ?_)
 refine sE (C1 rfl rfl) rfl (fun b3 => ?_)
 refine sQ (qA rfl) rfl (sD (nS (tS (tR ?_))))
 refine sL (A0 rfl rfl (A9 (by repeat first | exact mH | apply mT)) (by assumption)) rfl rfl ?_
 (refine Y0 rfl (A5P t G cells hts hcnt hr) rfl rfl (fun v G1 outs hle1 hh => ?_); obtain ⟨p1, c1, e1, rfl, rfl, hr1⟩ := hh)
 refine E2 ?_
 exact ⟨rfl, rfl⟩
def A2S (u : Tm) (n : Int) : IM → Value → List A4 → Prop := fun G' v outs => outs = [] ∧ ∃ cu, v = .tuple ⟨[.agg ⟨cu⟩, .int .i64 n]⟩ ∧ A6 G' u cu
theorem A2S.mk {G' : IM} {k : Int} {nm : ByteArray} {num : Int} {ty fr : Ty} {lb : Int} {ks : List Tm} {tk fk : Int} {pt pf : Option Addr} {nt ct nf cf : Nat} {p : Option Addr} {m c : Nat} {es : List (List Value)} {a n : Int}
  (hk : H1 k) (hnum : H1 num) (hlb : H1 lb) (hty : B6 G' ty [.int .i64 tk, .slice pt nt ct]) (hfr : B6 G' fr [.int .i64 fk, .slice pf nf cf]) (hm : m = ks.length) (hs : Sl G' p m c 9 es.flatten) (hr : C7 G' ks es) (ha : a = n) :
  A2S (.mk k nm num ty fr lb ks) n G' (.tuple ⟨[.agg ⟨[.int .i64 k, .string nm, .int .i64 num, .int .i64 tk, .slice pt nt ct, .int .i64 fk, .slice pf nf cf, .int .i64 lb, .slice p m c]⟩, .int .i64 a]⟩) [] := by
 subst hm ha
 refine ⟨rfl, _, rfl, ?_⟩
 simp only [A6]
 exact ⟨_, _, p, c, es, rfl, hk, hnum, hlb, hty, hfr, C4.of hs hr.len hr.all (fun e he => by obtain ⟨j, hj⟩ := List.getElem?_of_mem he; exact (hr.inv hj K7).2.one), hr⟩
theorem B3U (L : List Ty) (p : Option Addr) (c : Nat) (hsmL : ∀ u ∈ L, u.small) : ∀ (t : Tm) (a : Nat) (G : IM) (cells : List Value) (el : List (List Value)), a + (I5 t).length ≤ L.length → L.length ≤ 4000000 → t.small → D1 t ≤ 4000000 → A6 G t cells → C4 G p L.length c 2 el → C2 G L el →
  Fn Tryz.prog 144 [.agg ⟨cells⟩, .slice p L.length c, .int .i64 (a : Int)] [] G (A2S (W4 t (L.drop a)) ((a + (I5 t).length : Nat) : Int)) := by
 refine Tm.ind fun k nm num ty fr lb ks ih a G cells el hlen hLb hts hcnt hr hse hel => ?_
 have hone := hr.one
 have hlen9 := hr.len
 simp only [Tm.small] at hts
 obtain ⟨_, hty', hfr', hsm, hks⟩ := hts
 have hcy : k = 5 ∨ k = 13 → I5 (.mk k nm num ty fr lb ks) = [ty] ++ H2 ks := fun h => by rw [I5, if_pos h]
 have hcn : ¬ (k = 5 ∨ k = 13) → I5 (.mk k nm num ty fr lb ks) = H2 ks := fun h => by rw [I5, if_neg h, List.nil_append]
 have hwy : k = 5 ∨ k = 13 → W4 (.mk k nm num ty fr lb ks) (L.drop a) = .mk k nm num ((L.drop a).getD 0 B5) fr lb (P9 ks (L.drop (a + 1))) := fun h => by rw [W4, if_pos h, if_pos h, List.drop_drop]
 have hwn : ¬ (k = 5 ∨ k = 13) → W4 (.mk k nm num ty fr lb ks) (L.drop a) = .mk k nm num ty fr lb (P9 ks (L.drop a)) := fun h => by rw [W4, if_neg h, if_neg h]
 rw [D1] at hcnt
 obtain ⟨tk, tks⟩ := ty
 obtain ⟨fk, fks⟩ := fr
 obtain ⟨pt, ct, pf, cf, q, cq, ek, rfl, hk, hnum, hlb, hty, hfr, hsl, hkl⟩ := hr.open9
 have hn := hsl.le
 have hkn := A3R ks
 have hT := P6 (.mk tk tks) G _ hty' hty
 refine B4 Tryz.func144 rfl Tryz.ntmps144 Tryz.results144 rfl ?_
 intro w0
 refine tS (tR ?_)
 refine sE (C1 rfl rfl) rfl (fun b3 => ?_)
 refine sE (A5 rfl) rfl (fun b4 => ?_)
 refine E2 ?_
 refine sE (A5 rfl) rfl (fun b11 => ?_)
 refine C3 ?_
 (refine D2 rfl hT rfl rfl (fun v G1 hle1 hh => ?_); obtain ⟨cs1, F1, rfl, hs1, hn1⟩ := hh; have hr1 := hs1.R.mono (B2.le _ _); obtain ⟨p1, c1, rfl, _⟩ := hs1.open; have hF := P6 (.mk fk fks) G1 _ hfr' (hfr.mono hle1))
 refine D3 ?_
 (refine D2 rfl hF rfl rfl (fun v G2 hle2 hh => ?_); obtain ⟨cs2, F2, rfl, hs2, hn2⟩ := hh; have hr2 := hs2.R.mono (B2.le _ _); obtain ⟨p2, c2, rfl, _⟩ := hs2.open; have hle12 := hle1.trans hle2; replace hsl := hsl.mono hle12; replace hkl := hkl.mono hle12; replace hse := hse.mono hle12; replace hel := hel.mono hle12)
 refine H3 ?_
 refine sB (qE rfl rfl) rfl rfl (fun h44 => ?_) (fun h44 => ?_)
 refine J9 ?_
 (have hL1 := hcy (by omega); have h1 : a + (1 + (H2 ks).length) ≤ L.length := (by rw [hL1] at hlen; simp only [List.length_append, List.length_singleton] at hlen; omega); obtain ⟨b0, o0, p20, c20, rfl, hat0, hre0, hgb0⟩ := hse.kidTy hel (i := a) (by omega) (by omega); obtain ⟨T0, hT0⟩ : ∃ T, T = L[a]'(by omega) := ⟨_, rfl⟩; have hs0 := hsmL _ (List.getElem_mem (show a < L.length by omega)); rw [← hT0] at hre0 hat0 hs0; have hO := P6 T0 G2 _ hs0 hre0; refine sP (A8 rfl rfl rfl (by omega)) rfl rfl ?_)
 refine sL (A0 rfl rfl (hat0 _) rfl) rfl rfl ?_
 (refine D2 rfl hO rfl rfl (fun v G3 hle3 hh => ?_); obtain ⟨cs3, F3, rfl, hs3, hn3⟩ := hh; have hr3 := hs3.R.mono (B2.le _ _); obtain ⟨p3, c3, rfl, _⟩ := hs3.open)
 refine sQ (B0 rfl) rfl (J7 ?_)
 refine sD (nS (tR (sQ (qM rfl) rfl ?_)))
 refine sP (E8 rfl rfl (by omega) (by omega)) rfl rfl ?_
 refine D8 ?_
 refine B3 ?_
 (have hL2 := hcy (by omega); have hW2 := hwy (by omega); refine S2 28 9 ?_; refine I1 (fun (x : Nat × Option Addr × Nat × List (List Value) × IM) => ⟨[(9, .int .i64 x.1), (2, .int .i64 ((a + 1 + (H2 (ks.take x.1)).length : Nat) : Int)), (1, .slice (some ⟨b0, o0, none⟩) L.length c), (3, .pointer (some ⟨b3, 0, none⟩)), (8, .pointer (some ⟨b11, 0, none⟩)), (6, .pointer (some ⟨b4, 0, none⟩))], [.blk b11 [.int .i64 k, .string nm, .int .i64 num, .int .i64 T0.k, .slice p3 T0.ks.length c3, .int .i64 fk, .slice p2 fks.length c2, .int .i64 lb, .slice x.2.1 x.1 x.2.2.1], .slc x.2.1 x.2.2.1 28 9 x.1 x.2.2.2.1.flatten, .blk b4 [.int .i64 0, .string ⟨⟨[]⟩⟩, .int .i64 0, .int .i64 0, .slice none 0 0, .int .i64 0, .slice none 0 0, .int .i64 0, .slice none 0 0], .blk b3 [.int .i64 k, .string nm, .int .i64 num, .int .i64 tk, .slice pt tks.length ct, .int .i64 fk, .slice pf fks.length cf, .int .i64 lb, .slice q ks.length cq]], x.2.2.2.2⟩) (fun x => x.1 ≤ ks.length ∧ B7 G3 x.2.2.2.2 ∧ C7 x.2.2.2.2 (P9 (ks.take x.1) (L.drop (a + 1))) x.2.2.2.1) (fun x => ks.length - x.1) (0, none, 0, [], G3) ?_ ?_ ?_)
 (simp only [H5]; exact C9)
 (exact ⟨Nat.zero_le _, B7.refl _, by simp [P9, C7]⟩)
 (rintro ⟨(i : Nat), pn, cn, es, Gi⟩ ⟨hi, hle, hst⟩; simp only [] at hi hle hst ⊢)
 refine C3 ?_
 refine sB (I2 rfl rfl) rfl rfl (fun h88 => ?_) (fun h88 => ?_)
 refine sD (nS (qT rfl (tK (nS (tS ?_)))))
 refine B3 ?_
 refine tS (tR (sQ (U1 rfl rfl) rfl ?_))
 refine sE (A5 rfl) rfl (fun b99 => ?_)
 refine D3 ?_
 (obtain ⟨b, o, e, rfl, hl, hat, hre, hgb⟩ := (hsl.mono (by first | exact hle | exact hle3.trans hle)).kidTm (hkl.mono (by first | exact hle | exact hle3.trans hle)) (i := i) (by omega) (by omega); have hone9 := hre.one; have hsc := A0t (ks := ks) (i := i) (by omega); have hsk := A0s (ks := ks) (i := i) (by omega); have hts1 := A3w (ks := ks) (i := i) (by omega); have e9 : (H2 (ks.take (i + 1))).length = (H2 (ks.take i)).length + (I5 ks[i]).length := (by rw [V6 (by omega), List.length_append]); refine sP (A8 rfl rfl rfl (by omega)) rfl rfl ?_)
 refine sL (A0 rfl rfl (hat _) hl) rfl rfl ?_
 refine sQ (qM rfl) rfl (sQ (qM rfl) rfl ?_)
 (have hih := ih ks[i] (List.getElem_mem (by omega)) _ Gi e el (by rw [hL2] at hlen; (try simp only [List.length_append, List.length_singleton] at hlen); first | exact (show a + 1 + (H2 (ks.take i)).length + (I5 ks[i]).length ≤ L.length by omega) | exact (show a + (H2 (ks.take i)).length + (I5 ks[i]).length ≤ L.length by omega)) hLb (Tm.smallL_mem hks _ (List.getElem_mem (by omega))) (by omega) hre (hse.mono (by first | exact hle | exact hle3.trans hle)) (hel.mono (by first | exact hle | exact hle3.trans hle)); refine Y0 rfl hih rfl rfl (fun v G7 outs hle7 hh => ?_); obtain ⟨rfl, cu, rfl, hru⟩ := hh; rw [← List.drop_drop] at hru; have hsn := C7.snoc (hst.mono hle7) hru; obtain ⟨u1, u2, u3, u4, u5, u6, u7, u8, u9, rfl⟩ : ∃ u1 u2 u3 u4 u5 u6 u7 u8 u9, cu = [u1, u2, u3, u4, u5, u6, u7, u8, u9] := (by obtain ⟨_, _, _, _, _, _, _, _, _, rfl, _⟩ := hru.open; exact ⟨_, _, _, _, _, _, _, _, _, rfl⟩); have huo := hru.one)
 refine J2 ?_
 refine sS rfl rfl rfl rfl huo rfl ?_
 refine C3 ?_
 (refine K6 (D7 rfl rfl rfl (by omega) (by unfold maxLen; omega) rfl) rfl ?_; rintro _ ⟨b124, rfl⟩)
 (refine Z5 rfl rfl rfl rfl rfl (fun _ _ => by repeat (first | exact Sw.here | apply Sw.there)) (N8 (by repeat first | exact mH | apply mT)) rfl (fun u hu => List.all_eq_true.1 huo u hu) (by unfold maxLen; omega) (by omega) rfl (fun p4 c4 => ?_))
 refine C3 ?_
 refine sP (E8 rfl rfl (by omega) (by omega)) rfl rfl ?_
 refine sQ (qA rfl) rfl (sD ?_)
 (rw [← A3t (by omega)] at hsn; refine I4 (i + 1, p4, c4, es ++ [[u1, u2, u3, u4, u5, u6, u7, u8, u9]], G7) (by simp only [List.flatten_append, List.flatten_cons, List.flatten_nil, List.append_nil, e9, ← Nat.add_assoc]; exact (Q1 (by repeat (first | exact I7.nil | refine I7.cons rfl ?_)) (by repeat (first | exact A7.refl | exact A7.nil | refine A7.cons (by repeat (first | exact Pk.here | apply Pk.there)) ?_ | apply A7.drop)))) ?_ ?_)
 (dsimp only; exact ⟨by omega, hle.trans hle7, hsn⟩)
 (show ks.length - (i + 1) < ks.length - i; omega)
 refine J1 ?_
 (refine H7 (cs := es.flatten) (by repeat (first | exact Pk.here | apply Pk.there)) (fun G9 hle9 hsl9 hno9 => ?_); obtain rfl : i = ks.length := (by omega); rw [List.take_length] at hst)
 refine tT ?_
 refine E5 (rC rfl (A3 rfl rfl)) (rT rfl) ?_
 (rw [hW2, hL2]; exact A2S.mk hk hnum hlb (by first | (rw [List.getD_eq_getElem?_getD, List.getElem?_drop, Nat.add_zero, List.getElem?_eq_getElem (by omega), Option.getD_some, ← hT0]; exact hr3.mono (hle.trans hle9)) | exact hr1.mono (hle2.trans (hle.trans hle9))) (by first | exact hr2.mono (hle3.trans (hle.trans hle9)) | exact hr2.mono (hle.trans hle9)) (by rw [A2j]) hsl9 (hst.mono hle9) (by (simp only [List.take_length, List.length_append, List.length_singleton]) <;> omega))
 refine J2 ?_
 refine sB (qE rfl rfl) rfl rfl (fun h162 => ?_) (fun h162 => ?_)
 refine D3 ?_
 (have hL1 := hcy (by omega); have h1 : a + (1 + (H2 ks).length) ≤ L.length := (by rw [hL1] at hlen; simp only [List.length_append, List.length_singleton] at hlen; omega); obtain ⟨b0, o0, p20, c20, rfl, hat0, hre0, hgb0⟩ := hse.kidTy hel (i := a) (by omega) (by omega); obtain ⟨T0, hT0⟩ : ∃ T, T = L[a]'(by omega) := ⟨_, rfl⟩; have hs0 := hsmL _ (List.getElem_mem (show a < L.length by omega)); rw [← hT0] at hre0 hat0 hs0; have hO := P6 T0 G2 _ hs0 hre0; refine sP (A8 rfl rfl rfl (by omega)) rfl rfl ?_)
 refine sL (A0 rfl rfl (hat0 _) rfl) rfl rfl ?_
 (refine D2 rfl hO rfl rfl (fun v G3 hle3 hh => ?_); obtain ⟨cs3, F3, rfl, hs3, hn3⟩ := hh; have hr3 := hs3.R.mono (B2.le _ _); obtain ⟨p3, c3, rfl, _⟩ := hs3.open)
 refine sQ (B0 rfl) rfl (J7 ?_)
 refine sD (nS (tR (sQ (qM rfl) rfl ?_)))
 refine sP (E8 rfl rfl (by omega) (by omega)) rfl rfl ?_
 refine D8 ?_
 refine B3 ?_
 (have hL2 := hcy (by omega); have hW2 := hwy (by omega); refine S2 28 9 ?_; refine I1 (fun (x : Nat × Option Addr × Nat × List (List Value) × IM) => ⟨[(9, .int .i64 x.1), (2, .int .i64 ((a + 1 + (H2 (ks.take x.1)).length : Nat) : Int)), (1, .slice (some ⟨b0, o0, none⟩) L.length c), (3, .pointer (some ⟨b3, 0, none⟩)), (8, .pointer (some ⟨b11, 0, none⟩)), (6, .pointer (some ⟨b4, 0, none⟩))], [.blk b11 [.int .i64 k, .string nm, .int .i64 num, .int .i64 T0.k, .slice p3 T0.ks.length c3, .int .i64 fk, .slice p2 fks.length c2, .int .i64 lb, .slice x.2.1 x.1 x.2.2.1], .slc x.2.1 x.2.2.1 28 9 x.1 x.2.2.2.1.flatten, .blk b4 [.int .i64 0, .string ⟨⟨[]⟩⟩, .int .i64 0, .int .i64 0, .slice none 0 0, .int .i64 0, .slice none 0 0, .int .i64 0, .slice none 0 0], .blk b3 [.int .i64 k, .string nm, .int .i64 num, .int .i64 tk, .slice pt tks.length ct, .int .i64 fk, .slice pf fks.length cf, .int .i64 lb, .slice q ks.length cq]], x.2.2.2.2⟩) (fun x => x.1 ≤ ks.length ∧ B7 G3 x.2.2.2.2 ∧ C7 x.2.2.2.2 (P9 (ks.take x.1) (L.drop (a + 1))) x.2.2.2.1) (fun x => ks.length - x.1) (0, none, 0, [], G3) ?_ ?_ ?_)
 (simp only [H5]; exact C9)
 (exact ⟨Nat.zero_le _, B7.refl _, by simp [P9, C7]⟩)
 (rintro ⟨(i : Nat), pn, cn, es, Gi⟩ ⟨hi, hle, hst⟩; simp only [] at hi hle hst ⊢)
 refine C3 ?_
 refine sB (I2 rfl rfl) rfl rfl (fun h202 => ?_) (fun h202 => ?_)
 refine sD (nS (qT rfl (tK (nS (tS ?_)))))
 refine B3 ?_
 refine tS (tR (sQ (U1 rfl rfl) rfl ?_))
 refine sE (A5 rfl) rfl (fun b213 => ?_)
 refine D3 ?_
 (obtain ⟨b, o, e, rfl, hl, hat, hre, hgb⟩ := (hsl.mono (by first | exact hle | exact hle3.trans hle)).kidTm (hkl.mono (by first | exact hle | exact hle3.trans hle)) (i := i) (by omega) (by omega); have hone9 := hre.one; have hsc := A0t (ks := ks) (i := i) (by omega); have hsk := A0s (ks := ks) (i := i) (by omega); have hts1 := A3w (ks := ks) (i := i) (by omega); have e9 : (H2 (ks.take (i + 1))).length = (H2 (ks.take i)).length + (I5 ks[i]).length := (by rw [V6 (by omega), List.length_append]); refine sP (A8 rfl rfl rfl (by omega)) rfl rfl ?_)
 refine sL (A0 rfl rfl (hat _) hl) rfl rfl ?_
 refine sQ (qM rfl) rfl (sQ (qM rfl) rfl ?_)
 (have hih := ih ks[i] (List.getElem_mem (by omega)) _ Gi e el (by rw [hL2] at hlen; (try simp only [List.length_append, List.length_singleton] at hlen); first | exact (show a + 1 + (H2 (ks.take i)).length + (I5 ks[i]).length ≤ L.length by omega) | exact (show a + (H2 (ks.take i)).length + (I5 ks[i]).length ≤ L.length by omega)) hLb (Tm.smallL_mem hks _ (List.getElem_mem (by omega))) (by omega) hre (hse.mono (by first | exact hle | exact hle3.trans hle)) (hel.mono (by first | exact hle | exact hle3.trans hle)); refine Y0 rfl hih rfl rfl (fun v G7 outs hle7 hh => ?_); obtain ⟨rfl, cu, rfl, hru⟩ := hh; rw [← List.drop_drop] at hru; have hsn := C7.snoc (hst.mono hle7) hru; obtain ⟨u1, u2, u3, u4, u5, u6, u7, u8, u9, rfl⟩ : ∃ u1 u2 u3 u4 u5 u6 u7 u8 u9, cu = [u1, u2, u3, u4, u5, u6, u7, u8, u9] := (by obtain ⟨_, _, _, _, _, _, _, _, _, rfl, _⟩ := hru.open; exact ⟨_, _, _, _, _, _, _, _, _, rfl⟩); have huo := hru.one)
 refine J2 ?_
 refine sS rfl rfl rfl rfl huo rfl ?_
 refine C3 ?_
 (refine K6 (D7 rfl rfl rfl (by omega) (by unfold maxLen; omega) rfl) rfl ?_; rintro _ ⟨b238, rfl⟩)
 (refine Z5 rfl rfl rfl rfl rfl (fun _ _ => by repeat (first | exact Sw.here | apply Sw.there)) (N8 (by repeat first | exact mH | apply mT)) rfl (fun u hu => List.all_eq_true.1 huo u hu) (by unfold maxLen; omega) (by omega) rfl (fun p4 c4 => ?_))
 refine C3 ?_
 refine sP (E8 rfl rfl (by omega) (by omega)) rfl rfl ?_
 refine sQ (qA rfl) rfl (sD ?_)
 (rw [← A3t (by omega)] at hsn; refine I4 (i + 1, p4, c4, es ++ [[u1, u2, u3, u4, u5, u6, u7, u8, u9]], G7) (by simp only [List.flatten_append, List.flatten_cons, List.flatten_nil, List.append_nil, e9, ← Nat.add_assoc]; exact (Q1 (by repeat (first | exact I7.nil | refine I7.cons rfl ?_)) (by repeat (first | exact A7.refl | exact A7.nil | refine A7.cons (by repeat (first | exact Pk.here | apply Pk.there)) ?_ | apply A7.drop)))) ?_ ?_)
 (dsimp only; exact ⟨by omega, hle.trans hle7, hsn⟩)
 (show ks.length - (i + 1) < ks.length - i; omega)
 refine J1 ?_
 (refine H7 (cs := es.flatten) (by repeat (first | exact Pk.here | apply Pk.there)) (fun G9 hle9 hsl9 hno9 => ?_); obtain rfl : i = ks.length := (by omega); rw [List.take_length] at hst)
 refine tT ?_
 refine E5 (rC rfl (A3 rfl rfl)) (rT rfl) ?_
 (rw [hW2, hL2]; exact A2S.mk hk hnum hlb (by first | (rw [List.getD_eq_getElem?_getD, List.getElem?_drop, Nat.add_zero, List.getElem?_eq_getElem (by omega), Option.getD_some, ← hT0]; exact hr3.mono (hle.trans hle9)) | exact hr1.mono (hle2.trans (hle.trans hle9))) (by first | exact hr2.mono (hle3.trans (hle.trans hle9)) | exact hr2.mono (hle.trans hle9)) (by rw [A2j]) hsl9 (hst.mono hle9) (by (simp only [List.take_length, List.length_append, List.length_singleton]) <;> omega))
 refine J9 ?_
 refine B3 ?_
 (have hL2 := hcn (by omega); have hW2 := hwn (by omega); refine S2 28 9 ?_; refine I1 (fun (x : Nat × Option Addr × Nat × List (List Value) × IM) => ⟨[(9, .int .i64 x.1), (2, .int .i64 ((a + (H2 (ks.take x.1)).length : Nat) : Int)), (1, .slice p L.length c), (3, .pointer (some ⟨b3, 0, none⟩)), (8, .pointer (some ⟨b11, 0, none⟩)), (6, .pointer (some ⟨b4, 0, none⟩))], [.blk b11 [.int .i64 k, .string nm, .int .i64 num, .int .i64 tk, .slice p1 tks.length c1, .int .i64 fk, .slice p2 fks.length c2, .int .i64 lb, .slice x.2.1 x.1 x.2.2.1], .slc x.2.1 x.2.2.1 28 9 x.1 x.2.2.2.1.flatten, .blk b4 [.int .i64 0, .string ⟨⟨[]⟩⟩, .int .i64 0, .int .i64 0, .slice none 0 0, .int .i64 0, .slice none 0 0, .int .i64 0, .slice none 0 0], .blk b3 [.int .i64 k, .string nm, .int .i64 num, .int .i64 tk, .slice pt tks.length ct, .int .i64 fk, .slice pf fks.length cf, .int .i64 lb, .slice q ks.length cq]], x.2.2.2.2⟩) (fun x => x.1 ≤ ks.length ∧ B7 G2 x.2.2.2.2 ∧ C7 x.2.2.2.2 (P9 (ks.take x.1) (L.drop a)) x.2.2.2.1) (fun x => ks.length - x.1) (0, none, 0, [], G2) ?_ ?_ ?_)
 (simp only [H5]; exact C9)
 (exact ⟨Nat.zero_le _, B7.refl _, by simp [P9, C7]⟩)
 (rintro ⟨(i : Nat), pn, cn, es, Gi⟩ ⟨hi, hle, hst⟩; simp only [] at hi hle hst ⊢)
 refine C3 ?_
 refine sB (I2 rfl rfl) rfl rfl (fun h297 => ?_) (fun h297 => ?_)
 refine sD (nS (qT rfl (tK (nS (tS ?_)))))
 refine B3 ?_
 refine tS (tR (sQ (U1 rfl rfl) rfl ?_))
 refine sE (A5 rfl) rfl (fun b308 => ?_)
 refine D3 ?_
 (obtain ⟨b, o, e, rfl, hl, hat, hre, hgb⟩ := (hsl.mono (by first | exact hle | exact hle3.trans hle)).kidTm (hkl.mono (by first | exact hle | exact hle3.trans hle)) (i := i) (by omega) (by omega); have hone9 := hre.one; have hsc := A0t (ks := ks) (i := i) (by omega); have hsk := A0s (ks := ks) (i := i) (by omega); have hts1 := A3w (ks := ks) (i := i) (by omega); have e9 : (H2 (ks.take (i + 1))).length = (H2 (ks.take i)).length + (I5 ks[i]).length := (by rw [V6 (by omega), List.length_append]); refine sP (A8 rfl rfl rfl (by omega)) rfl rfl ?_)
 refine sL (A0 rfl rfl (hat _) hl) rfl rfl ?_
 refine sQ (qM rfl) rfl (sQ (qM rfl) rfl ?_)
 (have hih := ih ks[i] (List.getElem_mem (by omega)) _ Gi e el (by rw [hL2] at hlen; (try simp only [List.length_append, List.length_singleton] at hlen); first | exact (show a + 1 + (H2 (ks.take i)).length + (I5 ks[i]).length ≤ L.length by omega) | exact (show a + (H2 (ks.take i)).length + (I5 ks[i]).length ≤ L.length by omega)) hLb (Tm.smallL_mem hks _ (List.getElem_mem (by omega))) (by omega) hre (hse.mono (by first | exact hle | exact hle3.trans hle)) (hel.mono (by first | exact hle | exact hle3.trans hle)); refine Y0 rfl hih rfl rfl (fun v G7 outs hle7 hh => ?_); obtain ⟨rfl, cu, rfl, hru⟩ := hh; rw [← List.drop_drop] at hru; have hsn := C7.snoc (hst.mono hle7) hru; obtain ⟨u1, u2, u3, u4, u5, u6, u7, u8, u9, rfl⟩ : ∃ u1 u2 u3 u4 u5 u6 u7 u8 u9, cu = [u1, u2, u3, u4, u5, u6, u7, u8, u9] := (by obtain ⟨_, _, _, _, _, _, _, _, _, rfl, _⟩ := hru.open; exact ⟨_, _, _, _, _, _, _, _, _, rfl⟩); have huo := hru.one)
 refine J2 ?_
 refine sS rfl rfl rfl rfl huo rfl ?_
 refine C3 ?_
 (refine K6 (D7 rfl rfl rfl (by omega) (by unfold maxLen; omega) rfl) rfl ?_; rintro _ ⟨b333, rfl⟩)
 (refine Z5 rfl rfl rfl rfl rfl (fun _ _ => by repeat (first | exact Sw.here | apply Sw.there)) (N8 (by repeat first | exact mH | apply mT)) rfl (fun u hu => List.all_eq_true.1 huo u hu) (by unfold maxLen; omega) (by omega) rfl (fun p4 c4 => ?_))
 refine C3 ?_
 refine sP (E8 rfl rfl (by omega) (by omega)) rfl rfl ?_
 refine sQ (qA rfl) rfl (sD ?_)
 (rw [← A3t (by omega)] at hsn; refine I4 (i + 1, p4, c4, es ++ [[u1, u2, u3, u4, u5, u6, u7, u8, u9]], G7) (by simp only [List.flatten_append, List.flatten_cons, List.flatten_nil, List.append_nil, e9, ← Nat.add_assoc]; exact (Q1 (by repeat (first | exact I7.nil | refine I7.cons rfl ?_)) (by repeat (first | exact A7.refl | exact A7.nil | refine A7.cons (by repeat (first | exact Pk.here | apply Pk.there)) ?_ | apply A7.drop)))) ?_ ?_)
 (dsimp only; exact ⟨by omega, hle.trans hle7, hsn⟩)
 (show ks.length - (i + 1) < ks.length - i; omega)
 refine J1 ?_
 (refine H7 (cs := es.flatten) (by repeat (first | exact Pk.here | apply Pk.there)) (fun G9 hle9 hsl9 hno9 => ?_); obtain rfl : i = ks.length := (by omega); rw [List.take_length] at hst)
 refine tT ?_
 refine E5 (rC rfl (A3 rfl rfl)) (rT rfl) ?_
 (rw [hW2, hL2]; exact A2S.mk hk hnum hlb (by first | (rw [List.getD_eq_getElem?_getD, List.getElem?_drop, Nat.add_zero, List.getElem?_eq_getElem (by omega), Option.getD_some, ← hT0]; exact hr3.mono (hle.trans hle9)) | exact hr1.mono (hle2.trans (hle.trans hle9))) (by first | exact hr2.mono (hle3.trans (hle.trans hle9)) | exact hr2.mono (hle.trans hle9)) (by rw [A2j]) hsl9 (hst.mono hle9) (by (simp only [List.take_length, List.length_append, List.length_singleton]) <;> omega))
def A2m (t : Tm) (L : List Ty) : Option Tm := if P0 t = true ∧ (V8 t).length = L.length ∧ ∀ u ∈ L, F4 u = true then some (W4 t L) else none
theorem A9c {t : Tm} {L : List Ty} (h : P0 t = true) (hl : (V8 t).length = L.length) (ha : ∀ j, j < L.length → (h : j < L.length) → F4 L[j] = true) : A2m t L = some (W4 t L) := by
 unfold A2m
 rw [if_pos ⟨h, hl, fun u hu => by obtain ⟨i, hi, rfl⟩ := List.mem_iff_getElem.1 hu; exact ha i hi hi⟩]
theorem B3V {t : Tm} {L : List Ty} (h : ¬(P0 t = true ∧ (V8 t).length = L.length ∧ ∀ u ∈ L, F4 u = true)) : A2m t L = none := by
 unfold A2m; rw [if_neg h]
def TmB (o : Option Tm) : IM → Value → List A4 → Prop := J8 fun G' v => ∃ cu, v = .tuple ⟨[.agg ⟨cu⟩, .bool o.isSome]⟩ ∧ A6 G' (o.getD K7) cu
theorem A2n {t : Tm} (h : P0 t = true) : V8 t = I5 t := by unfold V8; rw [if_pos h]
theorem B3W (t : Tm) (L : List Ty) (G : IM) (cells : List Value) (p : Option Addr) (c : Nat) (es : List (List Value)) (hts : t.small) (hcnt : D1 t ≤ 4000000) (hLb : L.length ≤ 4000000) (hsm : ∀ u ∈ L, u.small) (hr : A6 G t cells) (hse : C4 G p L.length c 2 es) (hel : C2 G L es) :
  Fn Tryz.prog 102 [.agg ⟨cells⟩, .slice p L.length c] [] G (TmB (A2m t L)) := by
 have hl := hr.len
 have hone := hr.one
 have hyes := @A9c t L
 have hno := @B3V t L
 have htv := @A2n t
 have hT := A5P t G cells hts hcnt hr
 generalize A2m t L = R at hyes hno ⊢
 obtain ⟨TT, hTT⟩ : ∃ TT, V8 t = TT := ⟨_, rfl⟩
 rw [hTT] at hyes hno htv hT
 refine B4 Tryz.func102 rfl Tryz.ntmps102 Tryz.results102 rfl ?_
 intro w0
 refine tS (tR ?_)
 refine sE (C1 rfl rfl) rfl (fun b3 => ?_)
 refine sE (A5 rfl) rfl (fun b4 => ?_)
 refine sQ (qA rfl) rfl (sD (nS (tS (tS (tR ?_)))))
 refine sL (A0 rfl rfl (A9 (by repeat first | exact mH | apply mT)) hl) rfl rfl ?_
 (refine Y0 rfl hT rfl rfl (fun v G1 outs hle1 hh => ?_); obtain ⟨p1, c1, e1, rfl, rfl, hr1⟩ := hh; replace hr := hr.mono hle1; replace hse := hse.mono hle1; replace hel := hel.mono hle1; have hv := A5f t G1 cells (by omega) hr)
 refine J2 ?_
 refine sB (N7 rfl rfl) rfl rfl (fun h16 => ?_) (fun h16 => ?_)
 refine S1 ?_
 refine E5 (rC rfl (A3 rfl rfl)) (rT rfl) ?_
 (rw [hno (fun hc => by first | omega | exact Bool.noConfusion (hc.1.symm.trans (show P0 t = false by assumption)) | exact Bool.noConfusion ((hc.2.2 _ (List.getElem_mem (show i < L.length by omega))).symm.trans (by assumption)))]; exact ⟨rfl, _, rfl, (N2.zero _).R⟩)
 refine sQ (qM rfl) rfl ?_
 refine sL (A0 rfl rfl (A9 (by repeat first | exact mH | apply mT)) hl) rfl rfl ?_
 refine F0 rfl (hv) rfl rfl (fun h38 => ?_) (fun h38 => ?_)
 refine K1 ?_
 refine B3 ?_
 (refine I1 (fun (x : Nat) => ⟨[(6, .int .i64 x), (1, .slice p L.length c), (2, .pointer (some ⟨b3, 0, none⟩)), (4, .pointer (some ⟨b4, 0, none⟩))], [.blk b4 [.int .i64 0, .string ⟨⟨[]⟩⟩, .int .i64 0, .int .i64 0, .slice none 0 0, .int .i64 0, .slice none 0 0, .int .i64 0, .slice none 0 0], .blk b3 cells], G1⟩) (fun x => x ≤ L.length ∧ ∀ j, j < x → (h : j < L.length) → F4 L[j] = true) (fun x => L.length - x) 0 ?_ ?_ ?_)
 exact C9
 (exact ⟨Nat.zero_le _, fun j hj => absurd hj (by omega)⟩)
 (rintro (i : Nat) ⟨hi, hval⟩)
 refine E2 ?_
 refine sB (I2 rfl rfl) rfl rfl (fun h63 => ?_) (fun h63 => ?_)
 refine sD (nS (qT rfl (tK (nS (tS ?_)))))
 refine B3 ?_
 refine tS (tR (sQ (qM rfl) rfl (sQ (qM rfl) rfl ?_)))
 (obtain ⟨b0, o0, p20, c20, rfl, hat0, hre0, hgb0⟩ := hse.kidTy hel (i := i) (by omega) (by omega); have hV := A1D _ G1 _ hre0; refine sP (A8 rfl rfl rfl (by omega)) rfl rfl ?_)
 refine sL (A0 rfl rfl (hat0 _) rfl) rfl rfl ?_
 refine F0 rfl (hV) rfl rfl (fun h77 => ?_) (fun h77 => ?_)
 refine D8 ?_
 refine sP (E8 rfl rfl (by omega) (by omega)) rfl rfl ?_
 refine sQ (qA rfl) rfl (sD ?_)
 refine I4 (i + 1) ?_ ?_ ?_
 exact C9
 (exact ⟨by omega, fun j hj hl => by rcases Nat.lt_succ_iff_lt_or_eq.1 hj with h | h; exact hval j h hl; subst h; assumption⟩)
 (show L.length - (i + 1) < L.length - i; omega)
 refine S1 ?_
 refine E5 (rC rfl (A3 rfl rfl)) (rT rfl) ?_
 (rw [hno (fun hc => by first | omega | exact Bool.noConfusion (hc.1.symm.trans (show P0 t = false by assumption)) | exact Bool.noConfusion ((hc.2.2 _ (List.getElem_mem (show i < L.length by omega))).symm.trans (by assumption)))]; exact ⟨rfl, _, rfl, (N2.zero _).R⟩)
 refine I8 ?_
 refine sL (A0 rfl rfl (A9 (by repeat first | exact mH | apply mT)) hl) rfl rfl ?_
 refine sQ (qM rfl) rfl ?_
 (have hTv := htv (by assumption); refine Y0 rfl (B3U L p c hsm t 0 G1 cells es (by rw [← hTv]; omega) hLb hts hcnt hr hse hel) rfl rfl (fun v G3 outs hle3 hh => ?_); obtain ⟨rfl, cu, rfl, hru⟩ := hh; rw [List.drop_zero] at hru; have hul := hru.len; have huo := hru.one)
 refine J2 ?_
 refine sE (A5 rfl) rfl (fun b129 => ?_)
 refine sS rfl rfl rfl hul huo rfl ?_ (hu := by exact D4 hul.symm)
 refine sQ (qA rfl) rfl (sD (nS (tS (tR ?_))))
 refine sL (A0 rfl rfl (A9 (by repeat first | exact mH | apply mT)) hul) rfl rfl ?_
 refine sS rfl rfl rfl hul huo rfl ?_ (hu := by exact D4 hul.symm)
 refine sQ (qA rfl) rfl (sD (nS (tT ?_)))
 refine E5 (rC rfl (A0 rfl rfl (A9 (by repeat first | exact mH | apply mT)) hul)) (rT rfl) ?_
 (rw [hyes (by assumption) (by omega) (fun j hj => hval j (by omega))]; exact ⟨rfl, _, rfl, hru⟩)
 refine L5 ?_
 refine E5 (rC rfl (A3 rfl rfl)) (rT rfl) ?_
 (rw [hno (fun hc => by first | omega | exact Bool.noConfusion (hc.1.symm.trans (show P0 t = false by assumption)) | exact Bool.noConfusion ((hc.2.2 _ (List.getElem_mem (show i < L.length by omega))).symm.trans (by assumption)))]; exact ⟨rfl, _, rfl, (N2.zero _).R⟩)
theorem B3X {e : Tm} (h : (Q8 e).isSome = true) : P0 e = true := by
 unfold Q8 V4 at h
 split at h
 ·rename_i u t hx
  split at hx
  ·assumption
  ·cases hx
 ·cases h
mutual
theorem A9d : ∀ (t : Tm) (d : Int), N5 12 14 t d = true → t.small
 | .mk k nm num ty fr lb ks, d, h => by
  obtain ⟨_, h2, h3, h4⟩ := A0Q h
  obtain ⟨n1, n2, n3, n4, n5, n6, n7, n8, n9⟩ := U3.1 h3
  rw [Tm.small]
  refine ⟨by have := A7I h3; omega, (A2E h3).1.small, by rw [A2B (n9 h2).1]; exact A2d, ?_, A9e ks _ h4⟩
  have := A1G k; omega
theorem A9e : ∀ (ts : List Tm) (d : Int), N6 12 14 ts d = true → Tm.smallL ts
 | [], _, _ => by rw [Tm.smallL]; trivial
 | t :: ts, d, h => by
  rw [N6, Bool.and_eq_true] at h
  rw [Tm.smallL]
  exact ⟨A9d t d h.1, A9e ts d h.2⟩
end
theorem B3Y {e : Tm} (h : P0 e = true) : e.fit 30 := by
 obtain ⟨h1, h2⟩ := (A1m e).1 h
 exact ⟨A9d e 1 h1, h2⟩
mutual
theorem A9f : ∀ (t : Tm) (d : Int), N5 12 14 t d = true → ∀ u ∈ I5 t, F4 u = true
 | .mk k nm num ty fr lb ks, d, h => by
  obtain ⟨_, h2, h3, h4⟩ := A0Q h
  obtain ⟨n1, n2, n3, n4, n5, n6, n7, n8, n9⟩ := U3.1 h3
  intro u hu
  rw [I5, List.mem_append] at hu
  rcases hu with hu | hu
  ·split at hu
   ·rename_i hk
    obtain rfl := List.mem_singleton.1 hu
    exact n6 (by omega)
   ·simp at hu
  ·exact A9g ks _ h4 u hu
theorem A9g : ∀ (ts : List Tm) (d : Int), N6 12 14 ts d = true → ∀ u ∈ H2 ts, F4 u = true
 | [], _, _ => by simp [H2]
 | t :: ts, d, h => by
  rw [N6, Bool.and_eq_true] at h
  intro u hu
  rw [H2, List.mem_append] at hu
  rcases hu with hu | hu
  ·exact A9f t d h.1 u hu
  ·exact A9g ts d h.2 u hu
end
mutual
theorem A9h : ∀ (t : Tm) (l : List Ty), t.small → (∀ u ∈ l, u.small) → (W4 t l).small ∧ D1 (W4 t l) = D1 t
 | .mk k nm num ty fr lb ks, l, h, hl => by
  obtain ⟨h1, h2, h3, h4, h5⟩ := A0e.1 h
  rw [W4]
  have hd : ∀ u ∈ (if k = 5 ∨ k = 13 then l.drop 1 else l), u.small := by
   intro u hu
   split at hu
   ·exact hl u (List.mem_of_mem_drop hu)
   ·exact hl u hu
  obtain ⟨g1, g2⟩ := A9i ks _ h5 hd
  refine ⟨A0e.2 ⟨h1, ?_, h3, by rw [A2j]; exact h4, g1⟩, by rw [Z1, Z1, g2]⟩
  split
  ·rw [List.getD_eq_getElem?_getD]
   cases hx : l[0]? with
   | none => exact A2d
   | some t => exact hl t (List.mem_of_getElem? hx)
  ·exact h2
theorem A9i : ∀ (ts : List Tm) (l : List Ty), Tm.smallL ts → (∀ u ∈ l, u.small) → Tm.smallL (P9 ts l) ∧ E7 (P9 ts l) = E7 ts
 | [], l, _, _ => by simp [P9, Tm.smallL, E7]
 | t :: ts, l, h, hl => by
  simp only [Tm.smallL] at h
  obtain ⟨a1, a2⟩ := A9h t l h.1 hl
  obtain ⟨b1, b2⟩ := A9i ts (l.drop (I5 t).length) h.2 (fun u hu => hl u (List.mem_of_mem_drop hu))
  simp only [P9, Tm.smallL, E7, a2, b2]
  exact ⟨⟨a1, b1⟩, trivial⟩
end
def PLe (l l' : List Ty) : Prop := ∀ i, A5p (l.getD i B5) (l'.getD i B5) = true
section masks
variable {P : Program} {Γ : L7} {env : M0} {hp : List A4} {G : IM} {ty : TypeId}
end masks
theorem B3Z {e : Tm} {m : Nat} (h : P0 e = true) : A2m e (R6 m 0 (I5 e)) = some (X7 e m) := by
 unfold X7
 refine A9c h (by rw [A2n h, A2k]) fun j hj _ => ?_
 rcases A3u m (I5 e) 0 _ (List.getElem_mem hj) with h1 | h1
 ·rw [h1]; decide
 ·exact A9f e 1 ((A1m e).1 h).1 _ h1
theorem B30 (t : Tm) (m : Nat) (G : IM) (cells : List Value) (hv : P0 t = true) (h6 : (I5 t).length ≤ 60) (hm : m < 2 ^ (I5 t).length) (hm2 : m ≤ 4294967296) (hr : A6 G t cells) :
  Fn Tryz.prog 62 [.agg ⟨cells⟩, .int .i64 (m : Int)] [] G (J8 fun G' v => ∃ cu, v = .tuple ⟨[.agg ⟨cu⟩, .bool true]⟩ ∧ A6 G' (X7 t m) cu) := by
 have hl := hr.len
 have hone := hr.one
 have hf := B3Y hv
 have hcnt := hf.2
 have hT := A5P t G cells hf.1 (by omega) hr
 rw [A2n hv] at hT
 have hst0 := A4k t hf.1
 have hbw := @B3Z t m hv
 obtain ⟨L, hL⟩ : ∃ L, I5 t = L := ⟨_, rfl⟩
 have hml := A2k m L 0
 rw [hL] at hT h6 hm hst0 hbw
 have hWt := fun G cells p c es => B3W t (R6 m 0 L) G cells p c es hf.1 (by omega) (by rw [hml]; omega) (fun u hu => by rcases A3u m L 0 u hu with rfl | hu; exact A5K; exact hst0 u hu)
 rw [hml, hbw] at hWt
 refine B4 Tryz.func62 rfl Tryz.ntmps62 Tryz.results62 rfl ?_
 intro w0
 refine tS (tR ?_)
 refine sE (C1 rfl rfl) rfl (fun b3 => ?_)
 refine sE (A5 rfl) rfl (fun b4 => ?_)
 refine sQ (qA rfl) rfl (sD (nS (tS (tR ?_))))
 refine sL (A0 rfl rfl (A9 (by repeat first | exact mH | apply mT)) hl) rfl rfl ?_
 (refine Y0 rfl hT rfl rfl (fun v G1 outs hle1 hh => ?_); obtain ⟨p, c, es0, rfl, rfl, hr1⟩ := hh; replace hr := hr.mono hle1; obtain ⟨M, hM⟩ : ∃ M, 2 ^ L.length = M := ⟨_, rfl⟩; rw [hM] at hm)
 refine C3 ?_
 refine sP (V1 rfl rfl (by omega)) rfl rfl ?_
 refine H8 ?_
 (refine sP (A5J rfl rfl (by omega)) rfl rfl ?_; rw [hM])
 refine sP (A6d rfl rfl (by omega)) rfl rfl ?_
 refine J9 ?_
 refine B3 ?_
 (refine A6j (fun a w hs => hs.slc_ptT (p := p) (c := c) (el := 25) (sz := 2) (n := L.length) (cs := es0.flatten) (by repeat first | exact mH | apply mT)) (fun hq => ?_); refine I1 (fun (x : Nat × List (List Value)) => ⟨[(7, .int .i64 x.1), (6, .slice p L.length c), (1, .int .i64 (m : Int)), (2, .pointer (some ⟨b3, 0, none⟩)), (4, .pointer (some ⟨b4, 0, none⟩))], [.slc p c 25 2 L.length x.2.flatten, .blk b4 [.int .i64 0, .string ⟨⟨[]⟩⟩, .int .i64 0, .int .i64 0, .slice none 0 0, .int .i64 0, .slice none 0 0, .int .i64 0, .slice none 0 0], .blk b3 cells], G1⟩) (fun x => x.1 ≤ L.length ∧ C2 G1 (R6 m 0 (L.take x.1) ++ L.drop x.1) x.2) (fun x => L.length - x.1) (0, es0) ?_ ?_ ?_)
 (simp only [H5]; exact C9)
 (exact ⟨Nat.zero_le _, by simpa [R6] using hr1⟩)
 (rintro ⟨(i : Nat), es⟩ ⟨hi, hst⟩; simp only [] at hi hst ⊢; have hesl : es.length = L.length := (by have h0 := hst.len; simp only [List.length_append, A2k, List.length_take, List.length_drop] at h0; omega); have hstep := A8Q m L i)
 refine E2 ?_
 refine sB (I2 rfl rfl) rfl rfl (fun h49 => ?_) (fun h49 => ?_)
 refine sD (nS (qT rfl (tK (nS (tS ?_)))))
 refine B3 ?_
 refine tS (tR (sQ (qM rfl) rfl (sQ (qM rfl) rfl ?_)))
 refine sP (A8U rfl rfl (by omega)) rfl rfl ?_
 refine sQ (A8V rfl rfl) rfl (sB (qE rfl rfl) rfl rfl (fun h63 => ?_) (fun h63 => ?_))
 refine sD (nS (qT rfl (tR (sQ (qM rfl) rfl (sQ (qM rfl) rfl ?_)))))
 refine I3 rfl (A31 _) rfl rfl ?_
 (obtain ⟨g, rfl, hgc⟩ := hq.resolve_left (by omega); refine sP (A8 (j := i) rfl rfl rfl (by omega)) rfl rfl ?_)
 refine A8W rfl rfl rfl rfl rfl rfl (by repeat first | exact Sw.here | apply Sw.there) (A8X (by omega) (fun e he => (hst.each e he).1) rfl) ?_
 refine sD (P4 (nS (tR (sQ (qM rfl) rfl ?_))))
 refine sP (E8 rfl rfl (by omega) (by omega)) rfl rfl ?_
 refine sQ (qA rfl) rfl (sD ?_)
 (rw [if_pos (by omega)] at hstep; refine I4 (i + 1, es.set i [.int .i64 1, .slice none 0 0]) ?_ ?_ ?_)
 (simp only [H5]; exact C9)
 (dsimp only; exact ⟨by omega, by rw [hstep (by omega)]; first | exact hst.set i (A4l _) | exact hst⟩)
 (show L.length - (i + 1) < L.length - i; omega)
 refine D3 ?_
 refine sP (E8 rfl rfl (by omega) (by omega)) rfl rfl ?_
 refine sQ (qA rfl) rfl (sD ?_)
 (rw [if_neg (by omega)] at hstep; refine I4 (i + 1, es) ?_ ?_ ?_)
 (simp only [H5]; exact C9)
 (dsimp only; exact ⟨by omega, by rw [hstep (by omega)]; first | exact hst.set i (A4l _) | exact hst⟩)
 (show L.length - (i + 1) < L.length - i; omega)
 refine I8 ?_
 refine sL (A0 rfl rfl (A9 (by repeat first | exact mH | apply mT)) hl) rfl rfl ?_
 refine sQ (qM rfl) rfl ?_
 (obtain rfl : i = L.length := (by omega); rw [List.take_length, List.drop_length, List.append_nil] at hst; refine A1X (cs := es.flatten) (by repeat (first | exact Pk.here | apply Pk.there)) (fun G2 hle2 hsl2 hno2 => ?_); refine D2 rfl (hWt G2 cells p c es (hr.mono hle2) (C4.of hsl2 hesl hst.all (fun e he => (hst.each e he).2)) (hst.mono hle2)) rfl rfl (fun v G3 hle3 hh => ?_); obtain ⟨cu, rfl, hru⟩ := hh; have hul := hru.len; have huo := hru.one)
 refine sQ (pX rfl rfl) rfl (sQ (pX rfl rfl) rfl ?_)
 refine sS rfl rfl rfl hul huo rfl ?_ (hu := by exact D4 hul.symm)
 refine sQ (qA rfl) rfl (sD (nS (tT ?_)))
 refine E5 (rC rfl (A0 rfl rfl (A9 (by repeat first | exact mH | apply mT)) hul)) (rT rfl) ?_
 (exact ⟨rfl, cu, rfl, hru⟩)
theorem B31 (e : Tm) (fuel : Int) (G : IM) (cells : List Value) (hts : e.small) (hcnt : D1 e ≤ 4000000) (hr : A6 G e cells) :
  Fn Tryz.prog 60 [.agg ⟨cells⟩, .int .i64 fuel] [] G (J8 fun _ v => v = .bool (decide ((Q8 e).isSome = true ∧ (V8 e).length ≤ 6 ∧ 0 ≤ fuel ∧ fuel ≤ 300))) := by
 have hl := hr.len
 have hone := hr.one
 refine B4 Tryz.func60 rfl Tryz.ntmps60 Tryz.results60 rfl ?_
 intro w0
 refine tS (tR ?_)
 refine sE (C1 rfl rfl) rfl (fun b3 => ?_)
 refine sQ (qA rfl) rfl (sD (nS (tS (tR ?_))))
 refine sL (A0 rfl rfl (A9 (by repeat first | exact mH | apply mT)) hl) rfl rfl ?_
 (refine D2 rfl (A88 e G cells (by omega) hr) rfl rfl (fun v1 G1 hle1 hh => ?_); obtain ⟨mc, mt, rfl, hmr, hmu⟩ := hh; obtain ⟨qt, dt, et2, rfl, _⟩ := hmr.open; replace hr := hr.mono hle1; have hC := A9b e G1 cells hts hcnt hr; generalize (Q8 e).isSome = A1 at *; generalize (V8 e).length = n1 at *; cases A1)
 refine J2 ?_
 refine sE (A5 rfl) rfl (fun b14 => ?_)
 refine A22 ?_
 (exact ⟨rfl, by rw [decide_eq_false (fun hc => by first | exact Bool.noConfusion hc.1 | omega)]⟩)
 refine J2 ?_
 refine sE (A5 rfl) rfl (fun b44 => ?_)
 refine D3 ?_
 refine sL (A0 rfl rfl (A9 (by repeat first | exact mH | apply mT)) hl) rfl rfl ?_
 (refine D2 rfl hC rfl rfl (fun v2 G2 hle2 hh => ?_); subst hh)
 refine sB (W9 rfl rfl) rfl rfl (fun h55 => ?_) (fun h55 => ?_)
 refine sQ (L4 rfl rfl) rfl (sQ (qM rfl) rfl (sQ (qM rfl) rfl ?_))
 refine sB (A0X rfl rfl) rfl rfl (fun h59 => ?_) (fun h59 => ?_)
 refine sQ (L4 rfl rfl) rfl (sQ (qM rfl) rfl (sQ (qM rfl) rfl ?_))
 refine sB (W9 rfl rfl) rfl rfl (fun h63 => ?_) (fun h63 => ?_)
 refine E2 ?_
 (exact ⟨rfl, by rw [decide_eq_true ⟨rfl, by omega, by omega, by omega⟩]⟩)
 refine E2 ?_
 (exact ⟨rfl, by rw [decide_eq_false (fun hc => by first | exact Bool.noConfusion hc.1 | omega)]⟩)
 refine I8 ?_
 (exact ⟨rfl, by rw [decide_eq_false (fun hc => by first | exact Bool.noConfusion hc.1 | omega)]⟩)
 refine L5 ?_
 (exact ⟨rfl, by rw [decide_eq_false (fun hc => by first | exact Bool.noConfusion hc.1 | omega)]⟩)
def B45 (t : Tm) : Tm × Bool := if P0 t = true ∨ P7 t = true then (A7H t, true) else (K7, false)
def erG : Tm → Tm
 | .mk k nm num ty fr lb ks => if A06 k = true then .mk k nm num R8 fr lb ks else .mk k nm num ty fr lb ks
def B46 (t : Tm) : Tm := A1E erG t
mutual
def A2T : Tm → List Tm
 | .mk k nm num ty fr lb ks => (if k = 14 then [.mk k nm num ty fr lb ks] else []) ++ A5Q ks
def A5Q : List Tm → List Tm
 | [] => []
 | t :: ts => A2T t ++ A5Q ts
end
def A9j (label : Int) (x : Tm) : Bool := decide (x.lb = label)
def B47 (t : Tm) (label : Int) : Prop := ((A2T t).find? (A9j label) = none → (A3P t []).find? (pAt t label) = none) ∧ (∀ x, (A2T t).find? (A9j label) = some x → ∃ l, (A3P t []).find? (pAt t label) = some l ∧ tAt t l = some x)
def A9k (label : Int) : List Tm → List Ty
 | [] => []
 | c :: cs => (if c.lb = label then [c.fr, c.ty] else []) ++ A9k label cs
def B48 (t : Tm) (label : Int) : List Ty := if P7 t = true then A9k label (A2T t) else []
mutual
def A2U : GT → GT → Bool
 | _, .any => true
 | .fn a b, .fn c d => A1M c a && A2U b d
 | .pr a b, .pr c d => A2U a c && A2U b d
 | .int, .int => true
 | .bool, .bool => true
 | _, _ => false
termination_by a b => SizeOf.sizeOf a + SizeOf.sizeOf b
def A1M : GT → GT → Bool
 | .any, _ => true
 | .fn a b, .any => A2U .any a && A1M b .any
 | .pr a b, .any => A1M a .any && A1M b .any
 | .int, .any => true
 | .bool, .any => true
 | .fn a b, .fn c d => A2U c a && A1M b d
 | .pr a b, .pr c d => A1M a c && A1M b d
 | .int, .int => true
 | .bool, .bool => true
 | _, _ => false
termination_by a b => SizeOf.sizeOf a + SizeOf.sizeOf b
end
def GQ (Q : GT → GT → Int → Prop) : GE → Prop
 | .var _ => True
 | .num _ => True
 | .tru _ => True
 | .lam _ _ e => GQ Q e
 | .app f a => GQ Q f ∧ GQ Q a
 | .ar _ a b => GQ Q a ∧ GQ Q b
 | .ite c a b => GQ Q c ∧ GQ Q a ∧ GQ Q b
 | .pair a b => GQ Q a ∧ GQ Q b
 | .part _ e => GQ Q e
 | .cast A B l e => Q A B l ∧ GQ Q e
structure Clo (Q : GT → GT → Int → Prop) : Prop where
 fn : ∀ {a b c d l}, Q (.fn a b) (.fn c d) l → Q c a (-l) ∧ Q b d l
 pr : ∀ {a b c d l}, Q (.pr a b) (.pr c d) l → Q a c l ∧ Q b d l
 up : ∀ {A l}, A ≠ .any → Q A .any l → Q A.gr .any l ∧ Q A A.gr l
 down : ∀ {B l}, B ≠ .any → Q .any B l → Q B.gr B l ∧ Q .any B.gr l
def QL (m : Int) : GT → GT → Int → Prop := fun A B l => (l = m → A2U A B = true) ∧ (l = -m → A1M A B = true)
def mLb (t : Tm) : List Int := (A2T t).map Tm.lb
def B49 (ts : List Tm) : List Int := (A5Q ts).map Tm.lb
structure Lbs (ls : List Int) (l l' : Int) : Prop where
 le : l ≤ l'
 nd : ls.Nodup
 len : (ls.length : Int) = l' - l
 mem : ∀ m ∈ ls, l < m ∧ m ≤ l'
mutual
def A9l : Ty → Int
 | .mk k ks => if k = 1 then 1 else A9m ks
def A9m : List Ty → Int
 | [] => 0
 | t :: ts => A9l t + A9m ts
end
def tSt (t : Ty) : Bool := decide (A9l t = 0)
def B5a (e : Tm) : Bool := P0 e && (I5 e).all tSt
abbrev NoC (u : Tm) : Prop := A5A (fun _ => False) u
def A1N (x : Tm) (fuel : Int) : Int := A0R ((V4 x).getD (K7, B5)).1 fuel
def S0 (e : Tm) (fuel : Int) : Option (List Int) := if R4 fuel 0 300 = true then (W5 e).map (List.map fun x => A1N x fuel) else none
def mNC (x : Tm) : Int := ((A2T ((V4 x).getD (K7, B5)).1).length : Int)
def B5b (e : Tm) : Option (List Int) := (W5 e).map (List.map mNC)
theorem B32 (e : Tm) : D1 ((V4 e).getD (K7, B5)).1 ≤ 200 := by
 cases hi : V4 e with
 | none => decide
 | some r =>
  obtain ⟨u, t⟩ := r
  exact (A2H (A5D hi).1).2
def A0w (e : Tm) (fuel : Int) : Int × Bool := match S0 e fuel with
 | some l => (Lib.idxOf l (Lib.maxOf l), true)
 | none => (0, false)
theorem A5R {e : Tm} {fuel : Int} {l : List Int} (h : S0 e fuel = some l) : 0 < l.length ∧ l.length ≤ 64 := by
 unfold S0 W5 at h
 split at h
 ·split at h
  ·rename_i hc
   have : 2 ^ (I5 e).length ≤ 2 ^ 6 := Nat.pow_le_pow_right (by decide) hc.2
   have := Nat.two_pow_pos (I5 e).length
   simp only [Option.map_some, Option.some.injEq] at h
   subst h
   simp only [A3v, List.length_map, List.length_range]
   omega
  ·cases h
 ·cases h
structure B33 (l : List Int) (b : Nat) : Prop where
 lt : b < l.length
 le : ∀ j, j < l.length → l.getD j 0 ≤ l.getD b 0
 first : ∀ j, j < b → l.getD j 0 < l.getD b 0
theorem B34 : ∀ (n : Nat) (l : List Int) (b : Nat), 0 < n → n ≤ l.length → b < n → (∀ j, j < n → l.getD j 0 ≤ l.getD b 0) → Lib.maxOf (l.take n) = l.getD b 0 := by
 intro n
 induction n with
 | zero => intro l b h; omega
 | succ n ih =>
  intro l b _ hn hb hle
  by_cases h0 : n = 0
  ·subst h0
   obtain rfl : b = 0 := by omega
   exact Lib.maxOf_one l
  ·rw [Lib.maxOf_step l n (by omega) (by omega)]
   by_cases hbn : b = n
   ·subst hbn
    
    have hx : ∀ m, m ≤ b → 0 < m → Lib.maxOf (l.take m) ≤ l.getD b 0 := by
     intro m
     induction m with
     | zero => intro _ h; omega
     | succ m ihm =>
      intro hm _
      by_cases h1 : m = 0
      ·subst h1; rw [Lib.maxOf_one]; exact hle 0 (by omega)
      ·rw [Lib.maxOf_step l m (by omega) (by omega)]
       have h3 := ihm (by omega) (by omega)
       have h4 := hle m (by omega)
       omega
    have := hx b (Nat.le_refl _) (by omega)
    omega
   ·rw [ih l b (by omega) (by omega) (by omega) (fun j hj => hle j (by omega))]
    have := hle n (by omega)
    omega
theorem B35 {l : List Int} {b : Nat} (h : B33 l b) : Lib.idxOf l (Lib.maxOf l) = (b : Int) := by
 have hm := B34 l.length l b (by have := h.lt; omega) (Nat.le_refl _) h.lt h.le
 rw [List.take_length] at hm
 rw [hm]
 have := Lib.idxOf_hit l l.length b (l.getD b 0) h.lt (Nat.le_refl _) rfl (fun j hj he => by have := h.first j hj; omega)
 rwa [List.take_length] at this
end Gw
end Go.Proofs.YtfpgncjeejickaaGreat
