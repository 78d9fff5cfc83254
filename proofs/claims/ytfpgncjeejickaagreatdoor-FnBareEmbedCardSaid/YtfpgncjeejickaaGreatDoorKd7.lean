/-
  The reference's typing, exactly: meets, the types of nodes.
-/
import Derived.Test.YtfpgncjeejickaaGreatDoorKd6
import Derived.Test.YtfpgncjeejickaaGreatDoorKd4
import Derived.Test.YtfpgncjeejickaaGreatDoorKd3
import Derived.Test.YtfpgncjeejickaaGreatDoorKd2
import Derived.Test.YtfpgncjeejickaaGreatDoorKd1
import Derived.Test.YtfpgncjeejickaaGreatDoorKd5
set_option linter.unusedVariables false
set_option linter.unusedSimpArgs false
set_option maxHeartbeats 0
set_option maxRecDepth 100000
set_option synthInstance.maxSize 4000
set_option synthInstance.maxHeartbeats 0
namespace Go.Proofs.YtfpgncjeejickaaGreatDoor
open Go Go.RowKit
namespace Gw
theorem A5M : ∀ (xs ys : List Ty), xs.length = ys.length → (T2 xs ys).length = xs.length
 | [], [], _ => rfl
 | a :: xs, b :: ys, h => by simp only [T2, List.length_cons]; rw [A5M xs ys (by simpa using h)]
 | [], b :: ys, h => by simp at h
 | a :: xs, [], h => by simp at h
theorem A7J : ∀ (xs ys : List Ty) (i : Nat) (h : i < xs.length) (h' : i < ys.length) (hl : i < (T2 xs ys).length), (T2 xs ys)[i] = U1 xs[i] ys[i]
 | [], _, i, h, _, _ => by simp at h
 | a :: xs, [], i, _, h', _ => by simp at h'
 | a :: xs, b :: ys, 0, _, _, _ => by simp [T2]
 | a :: xs, b :: ys, i + 1, h, h', hl => by
  simp only [T2, List.getElem_cons_succ]
  exact A7J xs ys i (by simpa using h) (by simpa using h') _
theorem B6X {xs ys : List Ty} {i : Nat} (hl : xs.length = ys.length) (h : i < xs.length) : (T2 xs ys).take (i + 1) = (T2 xs ys).take i ++ [U1 xs[i] (ys[i]'(by omega))] := by
 rw [List.take_succ_eq_append_getElem (by rw [A5M _ _ hl]; exact h), A7J _ _ i h (by omega)]
theorem B6Y : ∀ (a b : Ty) (G : IM) (ca cb : List Value), K3 a b = true → F4 a → F4 b → C3 G a ca → C3 G b cb → Fn Tryz.prog 250 [.agg ⟨ca⟩, .agg ⟨cb⟩] [] G (M9 fun G' v => ∃ cells, v = .agg ⟨cells⟩ ∧ C3 G' (U1 a b) cells) := by
 refine Ty.ind fun ak aks ih b G ca cb hc ha hb hra hrb => ?_
 obtain ⟨bk, bks⟩ := b
 have hka := ha.kid
 have hkb := hb.kid
 have hca := W7 _ G _ ha.small hra
 have hcb := W7 _ G _ hb.small hrb
 have hcc : ak ≠ 1 → bk ≠ 1 → aks.length = bks.length ∧ ∀ i, (h : i < aks.length) → (h' : i < bks.length) → K3 aks[i] bks[i] = true := by
  intro h1 h2
  rw [S9, decide_eq_false h1, decide_eq_false h2] at hc
  simp only [Bool.false_or, Bool.and_eq_true, decide_eq_true_eq] at hc
  exact (A19 _ _).1 hc.2
 rw [A1f]
 obtain ⟨pa, cca, ea, rfl, hak, hsla, hkla⟩ := hra.open
 obtain ⟨pb, ccb, eb, rfl, hbk, hslb, hklb⟩ := hrb.open
 simp only [Ty.k, Ty.ks] at hak hsla hkla hbk hslb hklb ⊢
 have hna := hsla.le
 have hnb := hslb.le
 have hl2 := ha.two
 refine B7 Tryz.func250 rfl Tryz.ntmps250 Tryz.results250 rfl ?_
 intro w0
 refine A1 ?_
 refine sE (C7 rfl rfl) rfl (fun b3 => ?_)
 refine sE (C7 rfl rfl) rfl (fun b4 => ?_)
 refine sE (B0 rfl) rfl (fun b5 => ?_)
 refine B4 ?_
 refine sB (qE rfl rfl) rfl rfl (fun h13 => ?_) (fun h13 => ?_)
 refine A7 ?_
 (refine E7 rfl (by first | exact hcb | exact hca) rfl rfl (fun v G1 hle1 hh => ?_); obtain ⟨T8, F1, rfl, hs1, hn1⟩ := hh; obtain ⟨p1, c1, rfl, _⟩ := hs1.open; have hr1 := hs1.R.mono (C8.le G1 G))
 refine B1 ?_
 refine L3 (rC rfl (A4 rfl rfl)) ?_
 (rw [if_pos (by omega)]; exact ⟨rfl, _, rfl, hr1⟩)
 refine J2 ?_
 refine sB (qE rfl rfl) rfl rfl (fun h38 => ?_) (fun h38 => ?_)
 refine A7 ?_
 (refine E7 rfl (by first | exact hcb | exact hca) rfl rfl (fun v G1 hle1 hh => ?_); obtain ⟨T8, F1, rfl, hs1, hn1⟩ := hh; obtain ⟨p1, c1, rfl, _⟩ := hs1.open; have hr1 := hs1.R.mono (C8.le G1 G))
 refine B1 ?_
 refine L3 (rC rfl (A4 rfl rfl)) ?_
 (rw [if_neg (by omega), if_pos (by omega)]; exact ⟨rfl, _, rfl, hr1⟩)
 refine J2 ?_
 refine sE (B0 rfl) rfl (fun b63 => ?_)
 refine D8 ?_
 refine C0 ?_
 (obtain ⟨hlab, hcab⟩ := hcc (by omega) (by omega); refine V7 25 2 ?_; refine L9 (fun (x : Nat × Option Addr × Nat × List Ty × List (List Value) × IM) => ⟨[(6, .int .i64 x.1), (5, .pointer (some ⟨b63, 0, none⟩)), (4, .pointer (some ⟨b5, 0, none⟩)), (2, .pointer (some ⟨b3, 0, none⟩)), (3, .pointer (some ⟨b4, 0, none⟩))], [.blk b63 [.int .i64 ak, .slice x.2.1 x.1 x.2.2.1], .slc x.2.1 x.2.2.1 25 2 x.1 x.2.2.2.2.1.flatten, .blk b5 [.int .i64 0, .slice none 0 0], .blk b4 [.int .i64 bk, .slice pb bks.length ccb], .blk b3 [.int .i64 ak, .slice pa aks.length cca]], x.2.2.2.2.2⟩) (fun x => x.1 ≤ aks.length ∧ C2 G x.2.2.2.2.2 ∧ x.2.2.2.1.length = x.1 ∧ H0 x.2.2.2.2.2 x.2.2.2.1 x.2.2.2.2.1 ∧ x.2.2.2.1 = (T2 aks bks).take x.1) (fun x => aks.length - x.1) (0, none, 0, [], [], G) ?_ ?_ ?_)
 (simp only [I7]; exact D5)
 (exact ⟨by simp, C2.refl _, rfl, by simp [H0], rfl⟩)
 (rintro ⟨i, pn, cn, us, es', Gi⟩ ⟨hi, hle, hlu, hst, hus⟩; simp only [] at hi hle hlu hst hus ⊢; replace hsla := hsla.mono hle; replace hkla := hkla.mono hle; replace hslb := hslb.mono hle; replace hklb := hklb.mono hle)
 refine B4 ?_
 refine sB (K6 rfl rfl) rfl rfl (fun h85 => ?_) (fun h85 => ?_)
 refine A7 ?_
 refine C0 ?_
 (obtain ⟨b, o, q0, d0, hp0, hat0, hre0, hg0⟩ := hsla.kidTy hkla (i := i) (by omega) (by omega); obtain ⟨b', o', q1, d1, hp1, hat1, hre1, hg1⟩ := hslb.kidTy hklb (i := i) (by omega) (by omega); subst hp0; subst hp1; have hih := ih aks[i] (List.getElem_mem (by omega)) bks[i] Gi _ _ (hcab i (by omega) (by omega)) (hka _ (List.getElem_mem (by omega))) (hkb _ (List.getElem_mem (by omega))) hre0 hre1; refine E3 E4 rfl ?_)
 refine J5 (i := 0) (l' := [tt,ff,ff,ff,ff,ff,ff,ff,ff,ff,ff,ff,ff,ff,ff,ff,ff]) rfl D7 (B9 rfl) rfl (by kernel_rfl) rfl rfl ?_
 refine aL 1 rfl (D3 rfl rfl) rfl ?_
 refine aP 2 rfl (B9 rfl) rfl ?_
 refine aL 3 rfl (D3 rfl rfl) rfl ?_
 refine aP 4 rfl (qM rfl) rfl ?_
 refine aP 5 rfl (B8 rfl rfl rfl (by omega)) rfl ?_
 refine aL 6 rfl (A2 rfl rfl (hat0 _) rfl) rfl ?_
 refine aP 7 rfl (B9 rfl) rfl ?_
 refine aL 8 rfl (D3 rfl rfl) rfl ?_
 refine aP 9 rfl (qM rfl) rfl ?_
 refine aP 10 rfl (B8 rfl rfl rfl (by omega)) rfl ?_
 refine aL 11 rfl (A2 rfl rfl (hat1 _) rfl) rfl ?_
 refine A3 12 ?_
 (refine K4 rfl rfl hih rfl rfl rfl (fun v G1 hle1 hh => ?_); obtain ⟨cells', rfl, hru⟩ := hh; generalize hu : U1 aks[i] bks[i] = u at hru; obtain ⟨p3, c3, es3, rfl, _⟩ := hru.open)
 refine A3 13 ?_
 (refine E6 rfl (D4 rfl rfl rfl (by omega) (by unfold maxLen; omega) rfl) rfl rfl ?_; rintro _ ⟨b109, rfl⟩)
 refine A3 14 ?_
 refine R5 rfl rfl rfl rfl rfl rfl (fun _ _ => by repeat (first | exact Sw.here | apply Sw.there)) (P3 (by repeat first | exact mH | apply mT)) rfl (by simp [Value.oneCell']) (by unfold maxLen; omega) (by omega) rfl rfl (by repeat (first | exact A9.nil | apply A9.dep (by decide +kernel) | apply A9.blk (by decide +kernel) (by repeat (first | exact Pk.here | apply Pk.there)) (by repeat first | exact mH | apply mT))) (fun pn' cn' => ?_)
 refine aP 15 rfl (B9 rfl) rfl ?_
 refine A3 16 ?_
 refine R2 rfl rfl rfl rfl rfl rfl rfl rfl (by decide +kernel) (by repeat first | exact Sw.here | apply Sw.there) (by rfl) ?_
 refine B1 ?_
 refine sP (K5 rfl rfl (by omega) (by omega)) rfl rfl ?_
 refine A1 ?_
 refine L0 (i + 1, pn', cn', us ++ [u], es' ++ [[.int .i64 u.k, .slice p3 u.ks.length c3]], G1) ?_ ?_ ?_
 (simp only [I7]; exact D5)
 (dsimp only; exact ⟨by omega, hle.trans hle1, by simp [hlu], H0.snoc (hst.mono hle1) hru, by rw [B6X hlab (by omega), ← hus, hu]⟩)
 (show aks.length - (i + 1) < aks.length - i; omega)
 refine K2 ?_
 (refine I5 (by repeat (first | exact Pk.here | apply Pk.there)) (fun G2 hle2 hsl2 hno2 => ?_); obtain rfl : i = aks.length := (by omega))
 refine tT ?_
 refine L3 (rC rfl (A4 rfl rfl)) ?_
 (rw [List.take_of_length_le (by rw [A5M _ _ hlab]; omega)] at hus; rw [if_neg (by omega), if_neg (by omega), ← hus]; exact ⟨rfl, _, rfl, (hst.mono hle2).ty hlu hsl2 hak⟩)
theorem gD {ts : List Ty} {i : Nat} (h : i < ts.length) : ts.getD i A6 = ts[i] := by rw [List.getD_eq_getElem?_getD, List.getElem?_eq_getElem h, Option.getD_some]
section
variable {cx : Cx} {k : Int} {nm : ByteArray} {ty : Ty} {ts : List Ty}
theorem B1l (h : 1 < ts.length) : Y1 cx 6 nm ty ts = match S1 4 ts[0] with | some (a, b) => if K3 ts[1] a = true then some b else none | none => none := by
 unfold Y1 J8
 rw [gD (i := 0) (by omega), gD (i := 1) h]
 simp only [show ¬((6 : Int) = 1) by decide, show ¬((6 : Int) = 2) by decide, show ¬((6 : Int) = 3 ∨ (6 : Int) = 4) by decide, show ¬((6 : Int) = 5) by decide, if_false, if_true]
 cases S1 4 ts[0] with
 | none => rfl
 | some p =>
  obtain ⟨a, b⟩ := p
  by_cases hc : K3 ts[1] a = true
  ·simp [hc]
  ·simp [hc]
theorem A5N (hk : k = 7 ∨ k = 8) (h : 1 < ts.length) : Y1 cx k nm ty ts = if K3 ts[0] Q6 = true ∧ K3 ts[1] Q6 = true then some (if k = 8 then S7 else Q6) else none := by
 unfold Y1 J8
 rw [gD (i := 0) (by omega), gD (i := 1) h, if_neg (by omega), if_neg (by omega), if_neg (by omega), if_neg (by omega), if_neg (by omega), if_pos hk]
 by_cases hc : K3 ts[0] Q6 = true ∧ K3 ts[1] Q6 = true
 ·rw [if_pos hc, if_pos hc]; simp only; rw [if_neg (by omega)]
 ·rw [if_neg hc, if_neg hc]
theorem B1m (h : 2 < ts.length) : Y1 cx 9 nm ty ts = if K3 ts[0] S7 = true ∧ K3 ts[1] ts[2] = true then some (U1 ts[1] ts[2]) else none := by
 unfold Y1 J8
 rw [gD (i := 0) (by omega), gD (i := 1) (by omega), gD (i := 2) h, if_neg (by omega), if_neg (by omega), if_neg (by omega), if_neg (by omega), if_neg (by omega), if_neg (by omega), if_pos rfl]
 by_cases hc : K3 ts[0] S7 = true ∧ K3 ts[1] ts[2] = true
 ·rw [if_pos hc, if_pos hc]; simp
 ·rw [if_neg hc, if_neg hc]
theorem B6Z (h : 1 < ts.length) : Y1 cx 10 nm ty ts = if H1 (.mk 5 [ts[0], ts[1]]) = true then some (.mk 5 [ts[0], ts[1]]) else none := by
 unfold Y1 J8
 rw [gD (i := 0) (by omega), gD (i := 1) h, if_neg (by omega), if_neg (by omega), if_neg (by omega), if_neg (by omega), if_neg (by omega), if_neg (by omega), if_neg (by omega), if_pos rfl]
 cases hv : H1 (.mk 5 [ts[0], ts[1]]) <;> simp [hv]
theorem B60 (h : 0 < ts.length) : Y1 cx 13 nm ty ts = if K3 ts[0] ty = true then some ty else none := by
 unfold Y1 J8
 rw [gD (i := 0) h, if_neg (by omega), if_neg (by omega), if_neg (by omega), if_neg (by omega), if_neg (by omega), if_neg (by omega), if_neg (by omega), if_neg (by omega), if_pos rfl]
 by_cases hc : K3 ts[0] ty = true
 ·rw [if_pos hc, if_pos hc]; simp
 ·rw [if_neg hc, if_neg hc]
theorem A5O (hk : k = 11 ∨ k = 12) (h : 0 < ts.length) : Y1 cx k nm ty ts = match S1 5 ts[0] with | some (a, b) => some (if k = 12 then b else a) | none => none := by
 unfold Y1 J8
 rw [gD (i := 0) h, if_neg (by omega), if_neg (by omega), if_neg (by omega), if_neg (by omega), if_neg (by omega), if_neg (by omega), if_neg (by omega), if_neg (by omega), if_neg (by omega)]
 cases S1 5 ts[0] with
 | none => rfl
 | some p =>
  obtain ⟨a, b⟩ := p
  simp only
  rw [if_neg (by omega)]
end
theorem B61 : ∀ (a b : Ty), K3 a b = true → F4 a → F4 b → F4 (U1 a b) := by
 refine Ty.ind fun k ks ih b hc ha hb => ?_
 obtain ⟨k', ks'⟩ := b
 rw [A1f]
 split
 ·exact hb
 ·split
  ·exact ha
  ·rw [S9] at hc
   simp only [Bool.or_eq_true, Bool.and_eq_true, decide_eq_true_eq] at hc
   obtain ⟨hk, hl⟩ : k = k' ∧ O5 ks ks' = true := by
    rcases hc with (h | h) | h
    ·contradiction
    ·contradiction
    ·exact h
   obtain ⟨hll, hcc⟩ := (A19 _ _).1 hl
   have hlen := A5M ks ks' hll
   refine A9x ha hlen fun u hu => ?_
   obtain ⟨i, hi, rfl⟩ := List.mem_iff_getElem.1 hu
   rw [A7J ks ks' i (by omega) (by omega)]
   exact ih _ (List.getElem_mem _) _ (hcc i (by omega) (by omega)) (ha.kid _ (List.getElem_mem _)) (hb.kid _ (List.getElem_mem _))
theorem B62 (cx : Cx) (k : Int) (nm : ByteArray) (num : Int) (ty fr : Ty) (lb : Int) (ks : List Tm) (ts : List Ty) (G : IM) (cells : List Value) (p : Option Addr) (c : Nat) (es : List (List Value))
  (hops : C4 k = ts.length) (hk6 : 6 ≤ k ∧ k ≤ 13) (hty : F4 ty) (hr : A8 G (.mk k nm num ty fr lb ks) cells) (hsl : D6 G p ts.length c 2 es) (hkl : H0 G ts es) (har : ∀ t ∈ ts, F4 t) :
  Fn Tryz.prog 232 [.agg ⟨cells⟩, .slice p ts.length c] [] G (Q8 (Y1 cx k nm ty ts) G) := by
 have hone := hr.one
 have hop := A5c hops
 have ha0 := fun h : 0 < ts.length => har _ (List.getElem_mem h)
 have ha1 := fun h : 1 < ts.length => har _ (List.getElem_mem h)
 have ha2 := fun h : 2 < ts.length => har _ (List.getElem_mem h)
 obtain ⟨tk, tks⟩ := ty
 obtain ⟨fk, fks⟩ := fr
 obtain ⟨pt, ct, pf, cf, pk, ck, ek, rfl, hk, hnum, hlb, hrty, hrfr, _, _⟩ := hr.open9
 refine B7 Tryz.func232 rfl Tryz.ntmps232 Tryz.results232 rfl ?_
 intro w0
 refine A1 ?_
 refine sE (C7 rfl rfl) rfl (fun b3 => ?_)
 refine sE (B0 rfl) rfl (fun b4 => ?_)
 refine J2 ?_
 refine C0 (tS (tR (sB (qE rfl rfl) rfl rfl (fun h18 => ?_) (fun h18 => ?_))))
 refine B4 ?_
 (have hl2 : ts.length = 2 := hop.1 (by omega); obtain ⟨b0, o0, q0, d0, hp0, hat0, hre0, hg0⟩ := hsl.kidTy hkl (i := 0) (by omega) (by omega); obtain ⟨b1, o1, q1, d1, hp1, hat1, hre1, hg1⟩ := hsl.kidTy hkl (i := 1) (by omega) (by omega); cases hp0; cases hp1; refine sP (B8 (j := 0) rfl rfl rfl (by omega)) rfl rfl ?_)
 refine sL (A2 rfl rfl (hat0 _) rfl) rfl rfl ?_
 focus (refine E7 rfl (A7I 4 ts[0] G _ (.inl rfl) (ha0 (by omega)) hre0) rfl rfl (fun v G1 hle1 hh => ?_); obtain ⟨ma, mca, mb, mcb, rfl, hma, hmb, hma2, hmb2, hpp⟩ := hh; obtain ⟨p1, c1, e1, rfl, _⟩ := hma.open; obtain ⟨p2, c2, e2, rfl, _⟩ := hmb.open; replace hsl := hsl.mono hle1; replace hkl := hkl.mono hle1; rcases hm : S1 4 ts[0] with _ | pr; rotate_left; obtain rfl := hpp _ hm; rotate_left; all_goals simp only [Option.isSome])
 refine B3 ?_
 refine sE (B0 rfl) rfl (fun b33 => ?_)
 refine sE (B0 rfl) rfl (fun b34 => ?_)
 refine A7 ?_
 (have hl2 : ts.length = 2 := hop.1 (by omega); obtain ⟨b0, o0, q0, d0, hp0, hat0, hre0, hg0⟩ := hsl.kidTy hkl (i := 0) (by omega) (by omega); obtain ⟨b1, o1, q1, d1, hp1, hat1, hre1, hg1⟩ := hsl.kidTy hkl (i := 1) (by omega) (by omega); cases hp0; cases hp1; refine E3 E4 rfl ?_)
 refine Q9 (i := 0) (l' := [tt,ff,ff,ff,ff,ff,ff,ff,ff,ff,ff]) rfl D7 (A4 rfl rfl) rfl (by kernel_rfl) rfl rfl ?_
 refine aP 1 rfl (qM rfl) rfl ?_
 refine aP 2 rfl (qM rfl) rfl ?_
 refine C1 3 rfl rfl rfl ?_
 refine C1 4 rfl rfl rfl ?_
 refine C1 5 rfl rfl rfl ?_
 refine C1 6 rfl rfl rfl ?_
 refine C1 7 rfl rfl rfl ?_
 refine aP 8 rfl (R0 rfl rfl) rfl ?_
 refine A3 9 ?_
 refine I9 rfl ?_
 refine aP 10 rfl (qA rfl) rfl ?_
 refine B1 ?_
 refine I8 (rC rfl (A4 rfl rfl)) (rT rfl) ?_
 (obtain rfl : k = 6 := (by omega); exact Q8.no (by rw [B1l (by omega), hm]) hmb hmb2)
 refine B3 ?_
 refine sE (B0 rfl) rfl (fun b65 => ?_)
 refine sE (B0 rfl) rfl (fun b66 => ?_)
 refine A7 ?_
 (have hl2 : ts.length = 2 := hop.1 (by omega); obtain ⟨b0, o0, q0, d0, hp0, hat0, hre0, hg0⟩ := hsl.kidTy hkl (i := 0) (by omega) (by omega); obtain ⟨b1, o1, q1, d1, hp1, hat1, hre1, hg1⟩ := hsl.kidTy hkl (i := 1) (by omega) (by omega); cases hp0; cases hp1; refine E3 E4 rfl ?_)
 refine Q9 (i := 0) (l' := [tt,ff,ff,ff,ff,ff,ff,ff,ff,ff,ff]) rfl D7 (A4 rfl rfl) rfl (by kernel_rfl) rfl rfl ?_
 refine aP 1 rfl (qM rfl) rfl ?_
 refine aP 2 rfl (qM rfl) rfl ?_
 refine aP 3 rfl (qM rfl) rfl ?_
 refine aP 4 rfl (B8 (j := 1) rfl rfl rfl (by omega)) rfl ?_
 refine aL 5 rfl (A2 rfl rfl (hat1 _) rfl) rfl ?_
 refine aL 6 rfl (A4 rfl rfl) rfl ?_
 refine A3 7 ?_
 refine P4 rfl rfl ((A1V ts[1] ma _ _ _ (ha1 (by omega)) hma2 hre1 hma)) rfl rfl rfl ?_
 refine aP 8 rfl (O4 rfl rfl) rfl ?_
 refine A3 9 ?_
 refine I9 rfl ?_
 refine aP 10 rfl (qA rfl) rfl ?_
 refine B1 ?_
 refine I8 (rC rfl (A4 rfl rfl)) (rT rfl) ?_
 (obtain rfl : k = 6 := (by omega); exact Q8.mk (by rw [B1l (by omega), hm]) hmb hmb2)
 refine A7 ?_
 refine sB (qE rfl rfl) rfl rfl (fun h100 => ?_) (fun h100 => ?_)
 refine B1 ?_
 (have hl2 : ts.length = 2 := hop.1 (by omega); obtain ⟨b0, o0, q0, d0, hp0, hat0, hre0, hg0⟩ := hsl.kidTy hkl (i := 0) (by omega) (by omega); obtain ⟨b1, o1, q1, d1, hp1, hat1, hre1, hg1⟩ := hsl.kidTy hkl (i := 1) (by omega) (by omega); cases hp0; cases hp1; refine E3 E4 rfl ?_)
 refine J5 (i := 1) (l' := [ff,tt,ff,ff,ff,ff,ff,ff,ff,ff,ff,ff,ff,ff,ff]) rfl D7 (qM rfl) rfl (by kernel_rfl) rfl rfl ?_
 refine aP 2 rfl (B8 (j := 0) rfl rfl rfl (by omega)) rfl ?_
 refine aL 3 rfl (A2 rfl rfl (hat0 _) rfl) rfl ?_
 refine A3 0 ?_
 refine P4 rfl rfl ((A1y _)) rfl rfl rfl ?_
 refine A3 4 ?_
 refine P4 rfl rfl ((A1y _)) rfl rfl rfl ?_
 refine A3 5 ?_
 refine U7 rfl rfl ((A1V ts[0] (.mk 2 []) _ _ _ (ha0 (by omega)) (U3 (by decide) (by decide)) hre0 (O2 _ ⟨by omega, by omega⟩))) rfl rfl rfl (fun h115 => ?_) (fun h115 => ?_)
 refine aP 6 rfl (qM rfl) rfl ?_
 refine aP 7 rfl (qM rfl) rfl ?_
 refine aP 8 rfl (B8 (j := 1) rfl rfl rfl (by omega)) rfl ?_
 refine aL 9 rfl (A2 rfl rfl (hat1 _) rfl) rfl ?_
 refine A3 10 ?_
 refine P4 rfl rfl ((A1y _)) rfl rfl rfl ?_
 refine A3 11 ?_
 refine P4 rfl rfl ((A1V ts[1] (.mk 2 []) _ _ _ (ha1 (by omega)) (U3 (by decide) (by decide)) hre1 (O2 _ ⟨by omega, by omega⟩))) rfl rfl rfl ?_
 refine aP 12 rfl (O4 rfl rfl) rfl ?_
 refine A3 13 ?_
 refine I9 rfl ?_
 refine aP 14 rfl (qA rfl) rfl ?_
 refine B1 ?_
 refine I8 (rC rfl (A4 rfl rfl)) (rT rfl) ?_
 (have hk7 : k = 7 := (by omega); exact Q8.mk (by rw [A5N (.inl hk7) (by omega)]; simp_all [Q6]) (O2 _ ⟨by omega, by omega⟩) (U3 (by omega) (by omega)))
 refine aP 6 rfl (qM rfl) rfl ?_
 refine C1 7 rfl rfl rfl ?_
 refine C1 8 rfl rfl rfl ?_
 refine C1 9 rfl rfl rfl ?_
 refine C1 10 rfl rfl rfl ?_
 refine C1 11 rfl rfl rfl ?_
 refine aP 12 rfl (R0 rfl rfl) rfl ?_
 refine A3 13 ?_
 refine I9 rfl ?_
 refine aP 14 rfl (qA rfl) rfl ?_
 refine B1 ?_
 refine I8 (rC rfl (A4 rfl rfl)) (rT rfl) ?_
 (have hk7 : k = 7 := (by omega); exact Q8.mk (by rw [A5N (.inl hk7) (by omega)]; simp_all [Q6]) (O2 _ ⟨by omega, by omega⟩) (U3 (by omega) (by omega)))
 refine A7 ?_
 refine sB (qE rfl rfl) rfl rfl (fun h158 => ?_) (fun h158 => ?_)
 refine B1 ?_
 (have hl2 : ts.length = 2 := hop.1 (by omega); obtain ⟨b0, o0, q0, d0, hp0, hat0, hre0, hg0⟩ := hsl.kidTy hkl (i := 0) (by omega) (by omega); obtain ⟨b1, o1, q1, d1, hp1, hat1, hre1, hg1⟩ := hsl.kidTy hkl (i := 1) (by omega) (by omega); cases hp0; cases hp1; refine E3 E4 rfl ?_)
 refine J5 (i := 1) (l' := [ff,tt,ff,ff,ff,ff,ff,ff,ff,ff,ff,ff,ff,ff,ff]) rfl D7 (qM rfl) rfl (by kernel_rfl) rfl rfl ?_
 refine aP 2 rfl (B8 (j := 0) rfl rfl rfl (by omega)) rfl ?_
 refine aL 3 rfl (A2 rfl rfl (hat0 _) rfl) rfl ?_
 refine A3 0 ?_
 refine P4 rfl rfl ((A38 _)) rfl rfl rfl ?_
 refine A3 4 ?_
 refine P4 rfl rfl ((A1y _)) rfl rfl rfl ?_
 refine A3 5 ?_
 refine U7 rfl rfl ((A1V ts[0] (.mk 2 []) _ _ _ (ha0 (by omega)) (U3 (by decide) (by decide)) hre0 (O2 _ ⟨by omega, by omega⟩))) rfl rfl rfl (fun h173 => ?_) (fun h173 => ?_)
 refine aP 6 rfl (qM rfl) rfl ?_
 refine aP 7 rfl (qM rfl) rfl ?_
 refine aP 8 rfl (B8 (j := 1) rfl rfl rfl (by omega)) rfl ?_
 refine aL 9 rfl (A2 rfl rfl (hat1 _) rfl) rfl ?_
 refine A3 10 ?_
 refine P4 rfl rfl ((A1y _)) rfl rfl rfl ?_
 refine A3 11 ?_
 refine P4 rfl rfl ((A1V ts[1] (.mk 2 []) _ _ _ (ha1 (by omega)) (U3 (by decide) (by decide)) hre1 (O2 _ ⟨by omega, by omega⟩))) rfl rfl rfl ?_
 refine aP 12 rfl (O4 rfl rfl) rfl ?_
 refine A3 13 ?_
 refine I9 rfl ?_
 refine aP 14 rfl (qA rfl) rfl ?_
 refine B1 ?_
 refine I8 (rC rfl (A4 rfl rfl)) (rT rfl) ?_
 (have hk8 : k = 8 := (by omega); exact Q8.mk (by rw [A5N (.inr hk8) (by omega)]; simp_all [Q6, S7]) (O2 _ ⟨by omega, by omega⟩) (U3 (by omega) (by omega)))
 refine aP 6 rfl (qM rfl) rfl ?_
 refine C1 7 rfl rfl rfl ?_
 refine C1 8 rfl rfl rfl ?_
 refine C1 9 rfl rfl rfl ?_
 refine C1 10 rfl rfl rfl ?_
 refine C1 11 rfl rfl rfl ?_
 refine aP 12 rfl (R0 rfl rfl) rfl ?_
 refine A3 13 ?_
 refine I9 rfl ?_
 refine aP 14 rfl (qA rfl) rfl ?_
 refine B1 ?_
 refine I8 (rC rfl (A4 rfl rfl)) (rT rfl) ?_
 (have hk8 : k = 8 := (by omega); exact Q8.mk (by rw [A5N (.inr hk8) (by omega)]; simp_all [Q6, S7]) (O2 _ ⟨by omega, by omega⟩) (U3 (by omega) (by omega)))
 refine A7 ?_
 refine sB (qE rfl rfl) rfl rfl (fun h216 => ?_) (fun h216 => ?_)
 refine A7 ?_
 (have hl3 : ts.length = 3 := hop.2.1 (by omega); obtain ⟨b0, o0, q0, d0, hp0, hat0, hre0, hg0⟩ := hsl.kidTy hkl (i := 0) (by omega) (by omega); obtain ⟨b1, o1, q1, d1, hp1, hat1, hre1, hg1⟩ := hsl.kidTy hkl (i := 1) (by omega) (by omega); obtain ⟨b2, o2, q2, d2, hp2, hat2, hre2, hg2⟩ := hsl.kidTy hkl (i := 2) (by omega) (by omega); cases hp0; cases hp1; cases hp2; refine E3 E4 rfl ?_)
 refine J5 (i := 0) (l' := [tt,ff,ff,ff,ff,ff,ff,ff]) rfl D7 (qM rfl) rfl (by kernel_rfl) rfl rfl ?_
 refine aP 1 rfl (B8 (j := 1) rfl rfl rfl (by omega)) rfl ?_
 refine aL 2 rfl (A2 rfl rfl (hat1 _) rfl) rfl ?_
 refine aP 3 rfl (qM rfl) rfl ?_
 refine aP 4 rfl (B8 (j := 2) rfl rfl rfl (by omega)) rfl ?_
 refine aL 5 rfl (A2 rfl rfl (hat2 _) rfl) rfl ?_
 refine A3 6 ?_
 refine U7 rfl rfl ((A1V ts[1] ts[2] _ _ _ (ha1 (by omega)) (ha2 (by omega)) hre1 hre2)) rfl rfl rfl (fun h231 => ?_) (fun h231 => ?_)
 refine aP 7 rfl (pNt rfl) rfl ?_
 refine A7 ?_
 (have hl3 : ts.length = 3 := hop.2.1 (by omega); obtain ⟨b0, o0, q0, d0, hp0, hat0, hre0, hg0⟩ := hsl.kidTy hkl (i := 0) (by omega) (by omega); obtain ⟨b1, o1, q1, d1, hp1, hat1, hre1, hg1⟩ := hsl.kidTy hkl (i := 1) (by omega) (by omega); obtain ⟨b2, o2, q2, d2, hp2, hat2, hre2, hg2⟩ := hsl.kidTy hkl (i := 2) (by omega) (by omega); cases hp0; cases hp1; cases hp2; refine E3 E4 rfl ?_)
 refine J5 (i := 0) (l' := [tt,ff,ff,ff,ff,ff,ff,ff,ff,ff,ff,ff,ff,ff]) rfl D7 (qM rfl) rfl (by kernel_rfl) rfl rfl ?_
 refine aP 1 rfl (B8 (j := 1) rfl rfl rfl (by omega)) rfl ?_
 refine aL 2 rfl (A2 rfl rfl (hat1 _) rfl) rfl ?_
 refine aP 3 rfl (qM rfl) rfl ?_
 refine aP 4 rfl (B8 (j := 2) rfl rfl rfl (by omega)) rfl ?_
 refine aL 5 rfl (A2 rfl rfl (hat2 _) rfl) rfl ?_
 refine aP 7 rfl (qM rfl) rfl ?_
 refine aP 8 rfl (B8 (j := 0) rfl rfl rfl (by omega)) rfl ?_
 refine aL 9 rfl (A2 rfl rfl (hat0 _) rfl) rfl ?_
 refine A3 6 ?_
 (refine K4 rfl rfl (B6Y ts[1] ts[2] G _ _ (by assumption) (ha1 (by omega)) (ha2 (by omega)) hre1 hre2) rfl rfl rfl (fun v G1 hle1 hh => ?_); obtain ⟨mc, rfl, hmr⟩ := hh; obtain ⟨mt, hmt⟩ : ∃ mt, U1 ts[1] ts[2] = mt := ⟨_, rfl⟩; rw [hmt] at hmr; have hma : F4 mt := (hmt ▸ B61 ts[1] ts[2] (by assumption) (ha1 (by omega)) (ha2 (by omega))); obtain ⟨p1, c1, e1, rfl, _⟩ := hmr.open; have hre0q := hre0.mono hle1)
 refine A3 10 ?_
 refine P4 rfl rfl ((A38 _)) rfl rfl rfl ?_
 refine A3 11 ?_
 refine P4 rfl rfl ((A1V ts[0] (.mk 3 []) _ _ _ (ha0 (by omega)) (U3 (by decide) (by decide)) hre0q (O2 _ ⟨by omega, by omega⟩))) rfl rfl rfl ?_
 refine A3 12 ?_
 refine I9 rfl ?_
 refine aP 13 rfl (qA rfl) rfl ?_
 refine B1 ?_
 refine I8 (rC rfl (A4 rfl rfl)) (rT rfl) ?_
 (obtain rfl : k = 9 := (by omega); exact Q8.mk (by rw [B1m (by omega), hmt]; simp_all [S7]) hmr hma)
 refine aP 7 rfl (pNf rfl) rfl ?_
 refine K2 ?_
 refine I8 (rC rfl (A4 rfl rfl)) (rT rfl) ?_
 (obtain rfl : k = 9 := (by omega); exact Q8.no (by rw [B1m (by omega)]; simp_all) (O2 _ ⟨by omega, by omega⟩) (U3 (by omega) (by omega)))
 refine A7 ?_
 refine sB (qE rfl rfl) rfl rfl (fun h288 => ?_) (fun h288 => ?_)
 refine B1 ?_
 (have hl2 : ts.length = 2 := hop.1 (by omega); obtain ⟨b0, o0, q0, d0, hp0, hat0, hre0, hg0⟩ := hsl.kidTy hkl (i := 0) (by omega) (by omega); obtain ⟨b1, o1, q1, d1, hp1, hat1, hre1, hg1⟩ := hsl.kidTy hkl (i := 1) (by omega) (by omega); cases hp0; cases hp1; refine E3 E4 rfl ?_)
 refine J5 (i := 0) (l' := [tt,ff,ff,ff,ff,ff,ff,ff,ff,ff,ff]) rfl D7 (qM rfl) rfl (by kernel_rfl) rfl rfl ?_
 refine aP 1 rfl (B8 (j := 0) rfl rfl rfl (by omega)) rfl ?_
 refine aL 2 rfl (A2 rfl rfl (hat0 _) rfl) rfl ?_
 refine aP 3 rfl (qM rfl) rfl ?_
 refine aP 4 rfl (B8 (j := 1) rfl rfl rfl (by omega)) rfl ?_
 refine aL 5 rfl (A2 rfl rfl (hat1 _) rfl) rfl ?_
 refine A3 6 ?_
 (refine K4 rfl rfl (A5L 5 ts[0] ts[1] G _ _ (.inr rfl) (ha0 (by omega)) (ha1 (by omega)) hre0 hre1) rfl rfl rfl (fun v G1 hle1 hh => ?_); obtain ⟨mc, rfl, hmr⟩ := hh; have hma := A5b (.inr rfl) (ha0 (by omega)) (ha1 (by omega)); obtain ⟨p1, c1, e1, rfl, _⟩ := hmr.open)
 refine aP 7 rfl (pX rfl rfl) rfl ?_
 refine aP 8 rfl (pX rfl rfl) rfl ?_
 refine A3 9 ?_
 refine I9 rfl ?_
 refine aP 10 rfl (qA rfl) rfl ?_
 refine B1 ?_
 refine I8 (rC rfl (A4 rfl rfl)) (rT rfl) ?_
 (obtain rfl : k = 10 := (by omega); exact Q8.mk (by rw [B6Z (by omega)]) hmr hma)
 refine A7 ?_
 refine sB (qE rfl rfl) rfl rfl (fun h321 => ?_) (fun h321 => ?_)
 refine B4 ?_
 (have hl1 : ts.length = 1 := hop.2.2 (by omega); obtain ⟨b0, o0, q0, d0, hp0, hat0, hre0, hg0⟩ := hsl.kidTy hkl (i := 0) (by omega) (by omega); cases hp0; refine sP (B8 (j := 0) rfl rfl rfl (by omega)) rfl rfl ?_)
 refine sL (A2 rfl rfl (hat0 _) rfl) rfl rfl ?_
 focus (refine E7 rfl (A7I 5 ts[0] G _ (.inr rfl) (ha0 (by omega)) hre0) rfl rfl (fun v G1 hle1 hh => ?_); obtain ⟨ma, mca, mb, mcb, rfl, hma, hmb, hma2, hmb2, hpp⟩ := hh; obtain ⟨p1, c1, e1, rfl, _⟩ := hma.open; obtain ⟨p2, c2, e2, rfl, _⟩ := hmb.open; rcases hm : S1 5 ts[0] with _ | pr; rotate_left; obtain rfl := hpp _ hm; rotate_left; all_goals simp only [Option.isSome])
 refine B3 ?_
 refine sE (B0 rfl) rfl (fun b336 => ?_)
 refine sE (B0 rfl) rfl (fun b337 => ?_)
 refine J7 ?_
 refine I8 (rC rfl (A4 rfl rfl)) (rT rfl) ?_
 (have hk11 : k = 11 := (by omega); exact Q8.no (by rw [A5O (.inl hk11) (by omega), hm]) hma hma2)
 refine B3 ?_
 refine sE (B0 rfl) rfl (fun b360 => ?_)
 refine sE (B0 rfl) rfl (fun b361 => ?_)
 refine J7 ?_
 refine I8 (rC rfl (A4 rfl rfl)) (rT rfl) ?_
 (have hk11 : k = 11 := (by omega); exact Q8.yes (by rw [A5O (.inl hk11) (by omega), hm]; simp only; rw [if_neg (by omega)]) hma hma2)
 refine A7 ?_
 refine sB (qE rfl rfl) rfl rfl (fun h386 => ?_) (fun h386 => ?_)
 refine B4 ?_
 (have hl1 : ts.length = 1 := hop.2.2 (by omega); obtain ⟨b0, o0, q0, d0, hp0, hat0, hre0, hg0⟩ := hsl.kidTy hkl (i := 0) (by omega) (by omega); cases hp0; refine sP (B8 (j := 0) rfl rfl rfl (by omega)) rfl rfl ?_)
 refine sL (A2 rfl rfl (hat0 _) rfl) rfl rfl ?_
 focus (refine E7 rfl (A7I 5 ts[0] G _ (.inr rfl) (ha0 (by omega)) hre0) rfl rfl (fun v G1 hle1 hh => ?_); obtain ⟨ma, mca, mb, mcb, rfl, hma, hmb, hma2, hmb2, hpp⟩ := hh; obtain ⟨p1, c1, e1, rfl, _⟩ := hma.open; obtain ⟨p2, c2, e2, rfl, _⟩ := hmb.open; rcases hm : S1 5 ts[0] with _ | pr; rotate_left; obtain rfl := hpp _ hm; rotate_left; all_goals simp only [Option.isSome])
 refine B3 ?_
 refine sE (B0 rfl) rfl (fun b401 => ?_)
 refine sE (B0 rfl) rfl (fun b402 => ?_)
 refine J7 ?_
 refine I8 (rC rfl (A4 rfl rfl)) (rT rfl) ?_
 (have hk12 : k = 12 := (by omega); exact Q8.no (by rw [A5O (.inr hk12) (by omega), hm]) hmb hmb2)
 refine B3 ?_
 refine sE (B0 rfl) rfl (fun b425 => ?_)
 refine sE (B0 rfl) rfl (fun b426 => ?_)
 refine J7 ?_
 refine I8 (rC rfl (A4 rfl rfl)) (rT rfl) ?_
 (have hk12 : k = 12 := (by omega); exact Q8.yes (by rw [A5O (.inr hk12) (by omega), hm]; simp only; rw [if_pos (by omega)]) hmb hmb2)
 refine A7 ?_
 refine sP (S8 rfl rfl (by omega)) rfl rfl ?_
 refine B1 ?_
 (have hl1 : ts.length = 1 := hop.2.2 (by omega); obtain ⟨b0, o0, q0, d0, hp0, hat0, hre0, hg0⟩ := hsl.kidTy hkl (i := 0) (by omega) (by omega); cases hp0; refine E3 E4 rfl ?_)
 refine J5 (i := 0) (l' := [tt,ff,ff,ff,ff,ff,ff,ff,ff,ff,ff]) rfl D7 (B9 rfl) rfl (by kernel_rfl) rfl rfl ?_
 refine aL 1 rfl (A4 rfl rfl) rfl ?_
 refine aP 3 rfl (qM rfl) rfl ?_
 refine aP 4 rfl (B8 (j := 0) rfl rfl rfl (by omega)) rfl ?_
 refine aL 5 rfl (A2 rfl rfl (hat0 _) rfl) rfl ?_
 refine aP 6 rfl (B9 rfl) rfl ?_
 refine aL 7 rfl (A4 rfl rfl) rfl ?_
 refine A3 2 ?_
 (refine K4 rfl rfl (W7 (.mk tk tks) G _ hty.small hrty) rfl rfl rfl (fun v G1 hle1 hh => ?_); obtain ⟨T8, F1, rfl, hs1, hn1⟩ := hh; obtain ⟨p1, c1, rfl, _⟩ := hs1.open; have hmr := hs1.R.mono (C8.le G1 G); have hre0q := hre0.mono hle1; have hrtyq := hrty.mono hle1)
 refine A3 8 ?_
 refine P4 rfl rfl ((A1V ts[0] (.mk tk tks) _ _ _ (ha0 (by omega)) hty hre0q hrtyq)) rfl rfl rfl ?_
 refine A3 9 ?_
 refine I9 rfl ?_
 refine aP 10 rfl (qA rfl) rfl ?_
 refine B1 ?_
 refine I8 (rC rfl (A4 rfl rfl)) (rT rfl) ?_
 (obtain rfl : k = 13 := (by omega); exact Q8.mk (by rw [B60 (by omega)]) hmr hty)
section
variable {ak bk : Int} {aks bks : List Ty}
theorem B63 (h : ak ≠ bk) : N5 (.mk ak aks) (.mk bk bks) = false := by rw [A2D, decide_eq_false h]; rfl
theorem B64 (h : aks.length ≠ bks.length) : N5 (.mk ak aks) (.mk bk bks) = false := by
 rw [A2D]
 cases hl : A0n aks bks with
 | false => simp
 | true => exact absurd ((A31 _ _).1 hl).1 h
theorem B65 {i : Nat} (hi : i < aks.length) (hi' : i < bks.length) (h : N5 aks[i] bks[i] = false) : N5 (.mk ak aks) (.mk bk bks) = false := by
 rw [A2D]
 cases hl : A0n aks bks with
 | false => simp
 | true => have := ((A31 _ _).1 hl).2 i hi hi'; rw [h] at this; cases this
theorem B66 (hk : ak = bk) (hl : aks.length = bks.length) (h : ∀ i, (h : i < aks.length) → (h' : i < bks.length) → N5 aks[i] bks[i] = true) : N5 (.mk ak aks) (.mk bk bks) = true := by
 rw [A2D, decide_eq_true hk, (A31 _ _).2 ⟨hl, h⟩]; rfl
end
theorem B67 : ∀ (a b : Ty) (G : IM) (ca cb : List Value), C3 G a ca → C3 G b cb → Fn Tryz.prog 146 [.agg ⟨ca⟩, .agg ⟨cb⟩] [] G (H8 (.bool (N5 a b)) G) := by
 refine Ty.ind fun ak aks ih b G ca cb hra hrb => ?_
 obtain ⟨bk, bks⟩ := b
 obtain ⟨pa, cca, ea, rfl, hak, hsla, hkla⟩ := hra.open
 obtain ⟨pb, ccb, eb, rfl, hbk, hslb, hklb⟩ := hrb.open
 simp only [Ty.k, Ty.ks] at hak hsla hkla hbk hslb hklb ⊢
 have hna := hsla.le
 have hnb := hslb.le
 have e1 := @B63 ak bk aks bks
 have e2 := @B64 ak bk aks bks
 have e3 := fun i => @B65 ak bk aks bks i
 have e4 := @B66 ak bk aks bks
 generalize N5 (.mk ak aks) (.mk bk bks) = R at e1 e2 e3 e4 ⊢
 refine B7 Tryz.func146 rfl Tryz.ntmps146 Tryz.results146 rfl ?_
 intro w0
 refine A1 ?_
 refine sE (C7 rfl rfl) rfl (fun b3 => ?_)
 refine sE (C7 rfl rfl) rfl (fun b4 => ?_)
 refine J2 ?_
 refine sB (N7 rfl rfl) rfl rfl (fun h15 => ?_) (fun h15 => ?_)
 refine A0x ?_
 (exact ⟨rfl, by rw [e1 (by omega)], rfl⟩)
 refine B4 ?_
 refine sB (N7 rfl rfl) rfl rfl (fun h44 => ?_) (fun h44 => ?_)
 refine O0 ?_
 (exact ⟨rfl, by rw [e2 (by omega)], rfl⟩)
 refine O0 ?_
 refine C0 ?_
 (refine L9 (fun (i : Nat) => ⟨[(5, .int .i64 i), (2, .pointer (some ⟨b3, 0, none⟩)), (3, .pointer (some ⟨b4, 0, none⟩))], [.blk b4 [.int .i64 bk, .slice pb bks.length ccb], .blk b3 [.int .i64 ak, .slice pa aks.length cca]], G⟩) (fun i => i ≤ aks.length ∧ ∀ j, (h : j < aks.length) → (h' : j < bks.length) → j < i → N5 aks[j] bks[j] = true) (fun i => aks.length - i) 0 ?_ ?_ ?_)
 exact D5
 (exact ⟨Nat.zero_le _, fun j _ _ hj => absurd hj (Nat.not_lt_zero j)⟩)
 (rintro i ⟨hi, hall⟩)
 refine B4 ?_
 refine sB (K6 rfl rfl) rfl rfl (fun h82 => ?_) (fun h82 => ?_)
 refine A7 ?_
 refine C0 ?_
 refine tS ?_
 (obtain ⟨b, o, q0, d0, hp0, hat0, hre0, hg0⟩ := hsla.kidTy hkla (i := i) (by omega) (by omega); obtain ⟨b', o', q1, d1, hp1, hat1, hre1, hg1⟩ := hslb.kidTy hklb (i := i) (by omega) (by omega); subst hp0; subst hp1; have hih := ih aks[i] (List.getElem_mem (by omega)) bks[i] G _ _ hre0 hre1; refine E3 E4 rfl ?_)
 refine J5 (i := 0) (l' := [tt,ff,ff,ff,ff,ff,ff,ff,ff,ff,ff,ff]) rfl D7 (B9 rfl) rfl (by kernel_rfl) rfl rfl ?_
 refine aL 1 rfl (D3 rfl rfl) rfl ?_
 refine aP 2 rfl (qM rfl) rfl ?_
 refine aP 3 rfl (B8 rfl rfl rfl (by omega)) rfl ?_
 refine aL 4 rfl (A2 rfl rfl (hat0 _) rfl) rfl ?_
 refine aP 5 rfl (B9 rfl) rfl ?_
 refine aL 6 rfl (D3 rfl rfl) rfl ?_
 refine aP 7 rfl (qM rfl) rfl ?_
 refine aP 8 rfl (B8 rfl rfl rfl (by omega)) rfl ?_
 refine aL 9 rfl (A2 rfl rfl (hat1 _) rfl) rfl ?_
 refine A3 10 ?_
 refine U7 rfl rfl (hih) rfl rfl rfl (fun h103 => ?_) (fun h103 => ?_)
 refine aP 11 rfl (pNt rfl) rfl ?_
 refine D0 ?_
 refine sP (K5 rfl rfl (by omega) (by omega)) rfl rfl ?_
 refine A1 ?_
 refine L0 (i + 1) ?_ ?_ ?_
 exact D5
 (exact ⟨by omega, fun j h h' hj => by by_cases hji : j = i; (subst hji; assumption); exact hall j h h' (by omega)⟩)
 omega
 refine aP 11 rfl (pNf rfl) rfl ?_
 refine I6 ?_
 (exact ⟨rfl, by rw [e3 i (by omega) (by omega) (by assumption)], rfl⟩)
 refine I6 ?_
 (exact ⟨rfl, by rw [e4 (by omega) (by omega) (fun j h h' => hall j h h' (by omega))], rfl⟩)
theorem B68 (G : IM) (cx : Cx) (p : Option Addr) (n c : Nat) (nm : ByteArray) (t : Ty) (cells : List Value) (hx : U4 G cx p n c) (hn : n ≤ 1000) (hr : C3 G t cells) :
  Fn Tryz.prog 197 [.slice p n c, .string nm, .agg ⟨cells⟩] [] G (M9 fun G' v => ∃ p' c', v = .slice p' (n + 1) c' ∧ U4 G' (cx ++ [(nm, t)]) p' (n + 1) c') := by
 obtain ⟨k, ks⟩ := t
 obtain ⟨q, d, es0, rfl, _⟩ := hr.open
 simp only [Ty.k, Ty.ks] at hr ⊢
 obtain ⟨hx1, es, h2, h3⟩ := id hx
 have hSl : Sl G p n c 3 es.flatten := h2.1
 have h1c : ∀ u ∈ es.flatten, u.oneCell' = true := by
  intro u hu
  obtain ⟨e, he, hue⟩ := List.mem_flatten.1 hu
  exact List.all_eq_true.1 (h2.one e he) u hue
 refine B7 Tryz.func197 rfl Tryz.ntmps197 Tryz.results197 rfl ?_
 intro w0
 refine A1 ?_
 refine sE (C7 rfl rfl) rfl (fun b3 => ?_)
 refine B3 ?_
 refine E3 E4 rfl ?_
 refine J5 (i := 1) (l' := [ff,tt,ff,ff,ff,ff,ff,ff,ff]) rfl D7 (qM rfl) rfl (by kernel_rfl) rfl rfl ?_
 refine aP 3 rfl (qM rfl) rfl ?_
 refine aL 4 rfl (A4 rfl rfl) rfl ?_
 refine aP 5 rfl (pBd rfl rfl) rfl ?_
 refine U6 (j := 0) (j' := 6) (by kernel_rfl) ?_ ?_
 (refine E6 rfl (D4 rfl rfl rfl (by omega) (by unfold maxLen; omega) rfl) rfl rfl ?_; rintro _ ⟨b14, rfl⟩)
 refine U6 (j := 2) (j' := 6) (by kernel_rfl) ?_ ?_
 (refine A29 rfl rfl rfl rfl rfl rfl (fun _ _ => by repeat (first | exact Sw.here | apply Sw.there)) hSl h1c (Nat.zero_le _) (by unfold maxLen; omega) (by omega) rfl rfl (by repeat (first | exact A9.nil | apply A9.dep (by decide +kernel) | apply A9.blk (by decide +kernel) (by repeat (first | exact Pk.here | apply Pk.there)) (by repeat first | exact mH | apply mT))) (fun p4 c4 => ?_); simp only [Nat.zero_add, List.nil_append])
 refine A3 6 ?_
 (refine E6 rfl (D4 rfl rfl rfl (by omega) (by unfold maxLen; omega) rfl) rfl rfl ?_; rintro _ ⟨b18, rfl⟩)
 refine A3 7 ?_
 (refine R5 rfl rfl rfl rfl rfl rfl (fun _ _ => by repeat (first | exact Sw.here | apply Sw.there)) (P3 (by repeat first | exact mH | apply mT)) rfl (by simp [Value.oneCell']) (by unfold maxLen; omega) (by omega) rfl rfl (by repeat (first | exact A9.nil | apply A9.dep (by decide +kernel) | apply A9.blk (by decide +kernel) (by repeat (first | exact Pk.here | apply Pk.there)) (by repeat first | exact mH | apply mT))) (fun p5 c5 => ?_))
 refine aP 8 rfl (qA rfl) rfl ?_
 refine A1 ?_
 (refine I5 (cs := es.flatten ++ [.string nm, .int .i64 k, .slice q ks.length d]) (by repeat (first | exact Pk.here | apply Pk.there)) (fun G5 hle5 hsl5 hno5 => ?_))
 refine A1 ?_
 (exact ⟨rfl, _, _, rfl, U4.snoc (nm := nm) (t := .mk k ks) hx1 h2.len h2.all h2.one h3 hle5 ⟨_, _, rfl, hr.mono hle5⟩ hsl5⟩)
 (refine E6 rfl (D4 rfl rfl rfl (by omega) (by unfold maxLen; omega) rfl) rfl rfl ?_; rintro _ ⟨b28, rfl⟩)
 refine A3 2 ?_
 (refine A29 rfl rfl rfl rfl rfl rfl (fun _ _ => by repeat (first | exact Sw.here | apply Sw.there)) hSl h1c (Nat.zero_le _) (by unfold maxLen; omega) (by omega) rfl rfl (by repeat (first | exact A9.nil | apply A9.dep (by decide +kernel) | apply A9.blk (by decide +kernel) (by repeat (first | exact Pk.here | apply Pk.there)) (by repeat first | exact mH | apply mT))) (fun p4 c4 => ?_); simp only [Nat.zero_add, List.nil_append])
 refine A3 7 ?_
 (refine R5 rfl rfl rfl rfl rfl rfl (fun _ _ => by repeat (first | exact Sw.here | apply Sw.there)) (P3 (by repeat first | exact mH | apply mT)) rfl (by simp [Value.oneCell']) (by unfold maxLen; omega) (by omega) rfl rfl (by repeat (first | exact A9.nil | apply A9.dep (by decide +kernel) | apply A9.blk (by decide +kernel) (by repeat (first | exact Pk.here | apply Pk.there)) (by repeat first | exact mH | apply mT))) (fun p5 c5 => ?_))
 refine aP 8 rfl (qA rfl) rfl ?_
 refine A1 ?_
 (refine I5 (cs := es.flatten ++ [.string nm, .int .i64 k, .slice q ks.length d]) (by repeat (first | exact Pk.here | apply Pk.there)) (fun G5 hle5 hsl5 hno5 => ?_))
 refine A1 ?_
 (exact ⟨rfl, _, _, rfl, U4.snoc (nm := nm) (t := .mk k ks) hx1 h2.len h2.all h2.one h3 hle5 ⟨_, _, rfl, hr.mono hle5⟩ hsl5⟩)
 (refine E6 rfl (D4 rfl rfl rfl (by omega) (by unfold maxLen; omega) rfl) rfl rfl ?_; rintro _ ⟨b40, rfl⟩)
 refine A3 0 ?_
 (refine E6 rfl (D4 rfl rfl rfl (by omega) (by unfold maxLen; omega) rfl) rfl rfl ?_; rintro _ ⟨b42, rfl⟩)
 refine A3 2 ?_
 (refine A29 rfl rfl rfl rfl rfl rfl (fun _ _ => by repeat (first | exact Sw.here | apply Sw.there)) hSl h1c (Nat.zero_le _) (by unfold maxLen; omega) (by omega) rfl rfl (by repeat (first | exact A9.nil | apply A9.dep (by decide +kernel) | apply A9.blk (by decide +kernel) (by repeat (first | exact Pk.here | apply Pk.there)) (by repeat first | exact mH | apply mT))) (fun p4 c4 => ?_); simp only [Nat.zero_add, List.nil_append])
 refine A3 7 ?_
 (refine R5 rfl rfl rfl rfl rfl rfl (fun _ _ => by repeat (first | exact Sw.here | apply Sw.there)) (P3 (by repeat first | exact mH | apply mT)) rfl (by simp [Value.oneCell']) (by unfold maxLen; omega) (by omega) rfl rfl (by repeat (first | exact A9.nil | apply A9.dep (by decide +kernel) | apply A9.blk (by decide +kernel) (by repeat (first | exact Pk.here | apply Pk.there)) (by repeat first | exact mH | apply mT))) (fun p5 c5 => ?_))
 refine aP 8 rfl (qA rfl) rfl ?_
 refine A1 ?_
 (refine I5 (cs := es.flatten ++ [.string nm, .int .i64 k, .slice q ks.length d]) (by repeat (first | exact Pk.here | apply Pk.there)) (fun G5 hle5 hsl5 hno5 => ?_))
 refine A1 ?_
 (exact ⟨rfl, _, _, rfl, U4.snoc (nm := nm) (t := .mk k ks) hx1 h2.len h2.all h2.one h3 hle5 ⟨_, _, rfl, hr.mono hle5⟩ hsl5⟩)
theorem B1n {cx : Cx} : ∀ {ks : List Tm} {i : Nat} {us : List Ty} {u : Ty} (hi : i < ks.length), W9 cx (ks.take i) = some us → R4 cx ks[i] = some u → W9 cx (ks.take (i + 1)) = some (us ++ [u])
 | [], i, us, u, hi, _, _ => by simp at hi
 | t :: ts, 0, us, u, _, h1, h2 => by
  simp only [List.take_zero, W9, Option.some.injEq] at h1
  subst h1
  simp only [List.getElem_cons_zero] at h2
  simp [W9, h2]
 | t :: ts, i + 1, us, u, hi, h1, h2 => by
  simp only [List.take_succ_cons, W9] at h1 ⊢
  split at h1
  ·cases h1
  ·rename_i a ha
   split at h1
   ·cases h1
   ·rename_i bs has
    simp only [Option.some.injEq] at h1
    subst h1
    simp only [List.getElem_cons_succ] at h2
    have := B1n (ks := ts) (i := i) (by simpa using hi) has h2
    simp only [this, List.cons_append]
theorem B1o {cx : Cx} : ∀ {ks : List Tm} {i : Nat} (hi : i < ks.length), R4 cx ks[i] = none → W9 cx ks = none
 | [], i, hi, _ => by simp at hi
 | t :: ts, 0, _, h => by simp only [List.getElem_cons_zero] at h; rw [W9, h]
 | t :: ts, i + 1, hi, h => by
  simp only [List.getElem_cons_succ] at h
  have := B1o (ks := ts) (i := i) (by simpa using hi) h
  rw [W9, this]
  cases R4 cx t <;> rfl
section
variable {cx : Cx} {k : Int} {nm : ByteArray} {num : Int} {ty fr : Ty} {lb : Int} {ks : List Tm}
theorem B69 (hk : k = 1) (h0 : ks = []) : R4 cx (.mk k nm num ty fr lb ks) = P7 cx nm := by
 subst hk h0
 rw [R4, W9]
 simp only [Y1, mW1]
 cases P7 cx nm with
 | none => rfl
 | some t => simp
theorem B7a (hk : k = 2) (h0 : ks = []) : R4 cx (.mk k nm num ty fr lb ks) = some Q6 := by subst hk h0; rfl
theorem B7b (hk : k = 3 ∨ k = 4) (h0 : ks = []) : R4 cx (.mk k nm num ty fr lb ks) = some S7 := by subst h0; rcases hk with rfl | rfl <;> rfl
theorem B7c {b : Tm} (hk : k = 5) (h : R4 (cx ++ [(nm, ty)]) b = none) : R4 cx (.mk k nm num ty fr lb [b]) = none := by
 subst hk; rw [R4, J9, if_pos rfl, W9, h]
theorem B7d {b : Tm} {t : Ty} (hk : k = 5) (h : R4 (cx ++ [(nm, ty)]) b = some t) : R4 cx (.mk k nm num ty fr lb [b]) = if H1 (.mk 4 [ty, t]) = true then some (.mk 4 [ty, t]) else none := by
 subst hk
 rw [R4, J9, if_pos rfl, W9, h]
 simp only [W9, Y1, mW5, List.getD_cons_zero]
 cases H1 (.mk 4 [ty, t]) <;> simp
theorem B7e (hk : k ≠ 5) (h : W9 cx ks = none) : R4 cx (.mk k nm num ty fr lb ks) = none := by rw [R4, J9, if_neg hk, h]
theorem B7f {ts : List Ty} (hk : k ≠ 5) (h : W9 cx ks = some ts) : R4 cx (.mk k nm num ty fr lb ks) = Y1 cx k nm ty ts := by rw [R4, J9, if_neg hk, h]
end
theorem B7g : ∀ (e : Tm) (d : Int) (cx : Cx) (G : IM) (p : Option Addr) (n c : Nat) (cells : List Value), L7 12 14 e d = true → (n : Int) ≤ d → cxV cx → U4 G cx p n c → A8 G e cells →
  Fn Tryz.prog 196 [.slice p n c, .agg ⟨cells⟩] [] G (Q8 (R4 cx e) G) := by
 refine Tm.ind fun k nm num ty fr lb ks ih d cx G p n c cells hv hnd hcv hx hr => ?_
 have hr0 := hr
 have hone := hr.one
 obtain ⟨hv1, hv2, hv3, hv4⟩ := X8 hv
 have hvk := (A0U 12 14 ks _).1 hv4
 have har := (T0.1 hv3).1
 have hop := A5c har
 obtain ⟨hta, hts⟩ := A39 hv3
 have hkr : 1 ≤ k ∧ k ≤ 14 := A5C (by rw [har]; omega)
 have hcv5 : k = 5 → cxV (cx ++ [(nm, ty)]) := fun hk => by have := A5n (k := k) (nm := nm) (ty := ty) hcv fun hk => (T0.1 hv3).2.2.2.2.2.1 (.inl hk); rwa [J9, if_pos hk] at this
 have h0 : k ≤ 4 → ks = [] := fun h => List.length_eq_zero_iff.1 (by
  have hk : k = 1 ∨ k = 2 ∨ k = 3 ∨ k = 4 := by omega
  rcases hk with rfl | rfl | rfl | rfl
  ·have : C4 1 = 0 := rfl; omega
  ·have : C4 2 = 0 := rfl; omega
  ·have : C4 3 = 0 := rfl; omega
  ·have : C4 4 = 0 := rfl; omega)
 have f1 := fun hk => @B69 cx k nm num ty fr lb ks hk (h0 (by omega))
 have f2 := fun hk => @B7a cx k nm num ty fr lb ks hk (h0 (by omega))
 have f3 := fun hk => @B7b cx k nm num ty fr lb ks hk (h0 (by omega))
 have f4 : ∀ (hk : k = 5) (hl : 0 < ks.length), R4 (cx ++ [(nm, ty)]) ks[0] = none → R4 cx (.mk k nm num ty fr lb ks) = none := fun hk hl h => by
  obtain ⟨b, rfl⟩ := Z7 (hop.2.2 (.inl hk)); exact B7c hk h
 have f5 : ∀ (t : Ty) (hk : k = 5) (hl : 0 < ks.length), R4 (cx ++ [(nm, ty)]) ks[0] = some t → R4 cx (.mk k nm num ty fr lb ks) = if H1 (.mk 4 [ty, t]) = true then some (.mk 4 [ty, t]) else none := fun t hk hl h => by
  obtain ⟨b, rfl⟩ := Z7 (hop.2.2 (.inl hk)); exact B7d hk h
 have f6 := @B7e cx k nm num ty fr lb ks
 have f7 := fun ts => @B7f cx k nm num ty fr lb ks ts
 generalize R4 cx (.mk k nm num ty fr lb ks) = R at f1 f2 f3 f4 f5 f6 f7 ⊢
 obtain ⟨tk, tks⟩ := ty
 obtain ⟨fk, fks⟩ := fr
 obtain ⟨pt, ct, pf, cf, q, cq, es, rfl, hk, hnum, hlb, hty, hfr, hsl, hkl⟩ := hr.open9
 have hlen : ks.length ≤ 3 := by have := A1x k; omega
 refine B7 Tryz.func196 rfl Tryz.ntmps196 Tryz.results196 rfl ?_
 intro w0
 refine A1 ?_
 refine sE (C7 rfl rfl) rfl (fun b3 => ?_)
 refine sE (B0 rfl) rfl (fun b4 => ?_)
 refine J2 ?_
 refine C0 (tS (tR (sB (qE rfl rfl) rfl rfl (fun h18 => ?_) (fun h18 => ?_))))
 refine D8 ?_
 (refine E7 rfl (B6W G cx hcv p n c nm hx) rfl rfl (fun v G1 hle1 hh => ?_); obtain ⟨mt, mc, rfl, hmr, hma, hmu⟩ := hh; obtain ⟨p1, c1, e1, rfl, _⟩ := hmr.open)
 refine D8 ?_
 refine I8 (rC rfl (A4 rfl rfl)) (rT rfl) ?_
 (rw [f1 (by omega)]; exact ⟨rfl, _, _, rfl, hmr, hma, hmu⟩)
 refine A7 ?_
 refine sB (qE rfl rfl) rfl rfl (fun h46 => ?_) (fun h46 => ?_)
 refine A7 ?_
 refine I3 rfl ((A1y _)) rfl rfl ?_
 refine B4 ?_
 refine I8 (rC rfl (A4 rfl rfl)) (rT rfl) ?_
 (rw [f2 (by omega)]; exact Q8.yes rfl (M0 _) (U3 (by omega) (by omega)))
 refine B4 ?_
 refine sB (qE rfl rfl) rfl rfl (fun h70 => ?_) (fun h70 => ?_)
 refine D8 ?_
 refine I3 rfl ((A38 _)) rfl rfl ?_
 refine B4 ?_
 refine I8 (rC rfl (A4 rfl rfl)) (rT rfl) ?_
 (rw [f3 (by omega)]; exact Q8.yes rfl (A0p _) (U3 (by omega) (by omega)))
 refine B1 ?_
 refine sB (qE rfl rfl) rfl rfl (fun h95 => ?_) (fun h95 => ?_)
 refine A7 ?_
 refine I3 rfl ((A38 _)) rfl rfl ?_
 refine B4 ?_
 refine I8 (rC rfl (A4 rfl rfl)) (rT rfl) ?_
 (rw [f3 (by omega)]; exact Q8.yes rfl (A0p _) (U3 (by omega) (by omega)))
 refine A7 ?_
 refine sB (qE rfl rfl) rfl rfl (fun h118 => ?_) (fun h118 => ?_)
 refine B1 ?_
 (have hl1 : ks.length = 1 := hop.2.2 (by omega); obtain ⟨b, o, e, rfl, hl, hat, hre, hgb⟩ := hsl.kidTm hkl (i := 0) (by omega) (by omega); have hMore := B68 G cx p n c nm (.mk tk tks) _ hx (by omega) hty; refine E3 E4 rfl ?_)
 refine J5 (i := 0) (l' := [tt,ff,ff,ff,ff,ff,ff,ff,ff,ff,ff,ff,ff,ff,ff,ff,ff]) rfl D7 (qM rfl) rfl (by kernel_rfl) rfl rfl ?_
 refine aP 1 rfl (B9 rfl) rfl ?_
 refine aL 2 rfl (D3 rfl rfl) rfl ?_
 refine aP 3 rfl (B9 rfl) rfl ?_
 refine aL 4 rfl (A4 rfl rfl) rfl ?_
 refine aP 6 rfl (B9 rfl) rfl ?_
 refine aL 7 rfl (D3 rfl rfl) rfl ?_
 refine aP 8 rfl (B8 (j := 0) rfl rfl rfl (by omega)) rfl ?_
 refine aL 9 rfl (A2 rfl rfl (hat _) hl) rfl ?_
 refine U6 (j := 5) (j' := 14) (by kernel_rfl) ?_ ?_
 (refine K4 rfl rfl hMore rfl rfl rfl (fun v G1 hle1 hh => ?_); obtain ⟨pm, cm, rfl, hxm⟩ := hh; have hreM := hre.mono hle1; have hLam := ih ks[0] (List.getElem_mem (by omega)) (d + 1) _ G1 pm (n + 1) cm _ (hvk 0 (by omega)) (by omega) (hcv5 (by omega)) hxm hreM; have htyM := hty.mono hle1)
 refine U6 (j := 10) (j' := 14) (by kernel_rfl) ?_ ?_
 focus (refine K4 rfl rfl hLam rfl rfl rfl (fun v G2 hle2 hh => ?_); obtain ⟨mt, mc, rfl, hmr, hma, hmu⟩ := hh; obtain ⟨p1, c1, e1, rfl, _⟩ := hmr.open; have htyN := htyM.mono hle2; rcases hE : R4 (cx ++ [(nm, Ty.mk tk tks)]) ks[0] with _ | mt2; rotate_left; obtain rfl := hmu _ hE; rotate_left; all_goals simp only [Option.isSome])
 refine aP 11 rfl (qM rfl) rfl ?_
 refine aP 12 rfl (pX rfl rfl) rfl ?_
 refine aP 13 rfl (pX rfl rfl) rfl ?_
 refine A3 14 ?_
 (refine E6 rfl (B0 rfl) rfl rfl ?_; rintro _ ⟨b142, rfl⟩)
 refine A3 15 ?_
 refine I9 rfl ?_
 refine aP 16 rfl (qA rfl) rfl ?_
 refine A0R ?_
 refine I8 (rC rfl (A4 rfl rfl)) (rT rfl) ?_
 (rw [f4 (by omega) (by omega) (by first | exact hE | assumption)]; exact Q8.no rfl (O2 _ ⟨by omega, by omega⟩) (U3 (by omega) (by omega)))
 refine aP 11 rfl (qM rfl) rfl ?_
 refine aP 12 rfl (pX rfl rfl) rfl ?_
 refine aP 13 rfl (pX rfl rfl) rfl ?_
 refine A3 14 ?_
 (refine E6 rfl (B0 rfl) rfl rfl ?_; rintro _ ⟨b173, rfl⟩)
 refine A3 15 ?_
 refine I9 rfl ?_
 refine aP 16 rfl (qA rfl) rfl ?_
 refine V3 ?_
 (refine E7 rfl (A5L 4 (.mk tk tks) _ _ _ _ (.inl rfl) hta hma htyN hmr) rfl rfl (fun v G3 hle3 hh => ?_); obtain ⟨mc2, rfl, hmr2⟩ := hh; obtain ⟨p2, c2, e2, rfl, _⟩ := hmr2.open)
 refine D8 ?_
 refine I8 (rC rfl (A4 rfl rfl)) (rT rfl) ?_
 (rw [f5 _ (by omega) (by omega) (by first | exact hE | assumption)]; exact Q8.mk rfl hmr2 (A5b (.inl rfl) hta hma))
 (refine E6 rfl (B0 rfl) rfl rfl ?_; rintro _ ⟨b206, rfl⟩)
 refine A3 10 ?_
 focus (refine K4 rfl rfl hLam rfl rfl rfl (fun v G2 hle2 hh => ?_); obtain ⟨mt, mc, rfl, hmr, hma, hmu⟩ := hh; obtain ⟨p1, c1, e1, rfl, _⟩ := hmr.open; have htyN := htyM.mono hle2; rcases hE : R4 (cx ++ [(nm, Ty.mk tk tks)]) ks[0] with _ | mt2; rotate_left; obtain rfl := hmu _ hE; rotate_left; all_goals simp only [Option.isSome])
 refine aP 11 rfl (qM rfl) rfl ?_
 refine aP 12 rfl (pX rfl rfl) rfl ?_
 refine aP 13 rfl (pX rfl rfl) rfl ?_
 refine A3 15 ?_
 refine I9 rfl ?_
 refine aP 16 rfl (qA rfl) rfl ?_
 refine A0R ?_
 refine I8 (rC rfl (A4 rfl rfl)) (rT rfl) ?_
 (rw [f4 (by omega) (by omega) (by first | exact hE | assumption)]; exact Q8.no rfl (O2 _ ⟨by omega, by omega⟩) (U3 (by omega) (by omega)))
 refine aP 11 rfl (qM rfl) rfl ?_
 refine aP 12 rfl (pX rfl rfl) rfl ?_
 refine aP 13 rfl (pX rfl rfl) rfl ?_
 refine A3 15 ?_
 refine I9 rfl ?_
 refine aP 16 rfl (qA rfl) rfl ?_
 refine V3 ?_
 (refine E7 rfl (A5L 4 (.mk tk tks) _ _ _ _ (.inl rfl) hta hma htyN hmr) rfl rfl (fun v G3 hle3 hh => ?_); obtain ⟨mc2, rfl, hmr2⟩ := hh; obtain ⟨p2, c2, e2, rfl, _⟩ := hmr2.open)
 refine D8 ?_
 refine I8 (rC rfl (A4 rfl rfl)) (rT rfl) ?_
 (rw [f5 _ (by omega) (by omega) (by first | exact hE | assumption)]; exact Q8.mk rfl hmr2 (A5b (.inl rfl) hta hma))
 (refine E6 rfl (B0 rfl) rfl rfl ?_; rintro _ ⟨b273, rfl⟩)
 refine A3 5 ?_
 (refine K4 rfl rfl hMore rfl rfl rfl (fun v G1 hle1 hh => ?_); obtain ⟨pm, cm, rfl, hxm⟩ := hh; have hreM := hre.mono hle1; have hLam := ih ks[0] (List.getElem_mem (by omega)) (d + 1) _ G1 pm (n + 1) cm _ (hvk 0 (by omega)) (by omega) (hcv5 (by omega)) hxm hreM; have htyM := hty.mono hle1)
 refine A3 10 ?_
 focus (refine K4 rfl rfl hLam rfl rfl rfl (fun v G2 hle2 hh => ?_); obtain ⟨mt, mc, rfl, hmr, hma, hmu⟩ := hh; obtain ⟨p1, c1, e1, rfl, _⟩ := hmr.open; have htyN := htyM.mono hle2; rcases hE : R4 (cx ++ [(nm, Ty.mk tk tks)]) ks[0] with _ | mt2; rotate_left; obtain rfl := hmu _ hE; rotate_left; all_goals simp only [Option.isSome])
 refine aP 11 rfl (qM rfl) rfl ?_
 refine aP 12 rfl (pX rfl rfl) rfl ?_
 refine aP 13 rfl (pX rfl rfl) rfl ?_
 refine A3 15 ?_
 refine I9 rfl ?_
 refine aP 16 rfl (qA rfl) rfl ?_
 refine A0R ?_
 refine I8 (rC rfl (A4 rfl rfl)) (rT rfl) ?_
 (rw [f4 (by omega) (by omega) (by first | exact hE | assumption)]; exact Q8.no rfl (O2 _ ⟨by omega, by omega⟩) (U3 (by omega) (by omega)))
 refine aP 11 rfl (qM rfl) rfl ?_
 refine aP 12 rfl (pX rfl rfl) rfl ?_
 refine aP 13 rfl (pX rfl rfl) rfl ?_
 refine A3 15 ?_
 refine I9 rfl ?_
 refine aP 16 rfl (qA rfl) rfl ?_
 refine V3 ?_
 (refine E7 rfl (A5L 4 (.mk tk tks) _ _ _ _ (.inl rfl) hta hma htyN hmr) rfl rfl (fun v G3 hle3 hh => ?_); obtain ⟨mc2, rfl, hmr2⟩ := hh; obtain ⟨p2, c2, e2, rfl, _⟩ := hmr2.open)
 refine D8 ?_
 refine I8 (rC rfl (A4 rfl rfl)) (rT rfl) ?_
 (rw [f5 _ (by omega) (by omega) (by first | exact hE | assumption)]; exact Q8.mk rfl hmr2 (A5b (.inl rfl) hta hma))
 refine D8 ?_
 (refine M5 (D4 rfl rfl rfl (by omega) (by unfold maxLen; omega) rfl) rfl ?_; rintro _ ⟨b351, rfl⟩)
 refine D8 ?_
 refine C0 ?_
 (refine L9 (fun (x : Nat × Option Addr × Nat × List Ty × List (List Value) × IM) => ⟨[(9, .int .i64 x.1), (8, .slice x.2.1 x.1 x.2.2.1), (3, .pointer (some ⟨b3, 0, none⟩)), (4, .pointer (some ⟨b4, 0, none⟩)), (0, .slice p n c)], [.slc x.2.1 x.2.2.1 25 2 x.1 x.2.2.2.2.1.flatten, .blk b4 [.int .i64 0, .slice none 0 0], .blk b3 [.int .i64 k, .string nm, .int .i64 num, .int .i64 tk, .slice pt tks.length ct, .int .i64 fk, .slice pf fks.length cf, .int .i64 lb, .slice q ks.length cq]], x.2.2.2.2.2⟩) (fun x => x.1 ≤ ks.length ∧ C2 G x.2.2.2.2.2 ∧ x.2.2.2.1.length = x.1 ∧ H0 x.2.2.2.2.2 x.2.2.2.1 x.2.2.2.2.1 ∧ (∀ u ∈ x.2.2.2.1, F4 u) ∧ W9 cx (ks.take x.1) = some x.2.2.2.1) (fun x => ks.length - x.1) (0, some ⟨b351, 0, none⟩, 0, [], [], G) ?_ ?_ ?_)
 (simp only [I7]; exact D5)
 (exact ⟨by simp, C2.refl _, rfl, by simp [H0], by simp, by simp [W9]⟩)
 (rintro ⟨i, pn, cn, us, es', Gi⟩ ⟨hi, hle, hlu, hst, hau, hsu⟩; simp only [] at hi hle hlu hst hau hsu ⊢; replace hsl := hsl.mono hle; replace hkl := hkl.mono hle; replace hx := hx.mono hle; replace hr0 := hr0.mono hle)
 refine B4 ?_
 refine sB (K6 rfl rfl) rfl rfl (fun h373 => ?_) (fun h373 => ?_)
 refine A7 ?_
 refine C0 ?_
 refine A7 ?_
 (obtain ⟨b, o, e, rfl, hl, hat, hre, hgb⟩ := hsl.kidTm hkl (i := i) (by omega) (by omega); refine sP (B8 rfl rfl rfl (by omega)) rfl rfl ?_)
 refine sL (A2 rfl rfl (hat _) hl) rfl rfl ?_
 focus (refine E7 rfl (ih ks[i] (List.getElem_mem (by omega)) (d + 1) cx Gi p n c _ (hvk i (by omega)) (by omega) hcv hx hre) rfl rfl (fun v G2 hle2 hh => ?_); obtain ⟨u, uc, rfl, hru, hua, huu⟩ := hh; obtain ⟨p3, c3, e3, rfl, _⟩ := hru.open; rcases hE : R4 cx ks[i] with _ | u2; rotate_left; obtain rfl := huu _ hE; rotate_left; all_goals simp only [Option.isSome])
 refine B6 ?_
 refine sE (B0 rfl) rfl (fun b393 => ?_)
 refine A4Q ?_
 refine I8 (rC rfl (A4 rfl rfl)) (rT rfl) ?_
 (rw [f6 (by omega) (B1o (by omega) hE)]; exact Q8.no rfl (O2 _ ⟨by omega, by omega⟩) (U3 (by omega) (by omega)))
 refine B6 ?_
 refine sE (B0 rfl) rfl (fun b425 => ?_)
 refine V3 ?_
 (refine M5 (D4 rfl rfl rfl (by omega) (by unfold maxLen; omega) rfl) rfl ?_; rintro _ ⟨b443, rfl⟩)
 refine A4R rfl rfl rfl rfl rfl (fun _ _ => by repeat (first | exact Sw.here | apply Sw.there)) (P3 (by repeat first | exact mH | apply mT)) rfl (by simp [Value.oneCell']) (by unfold maxLen; omega) (by omega) rfl (fun pn' cn' => ?_)
 refine A7 ?_
 refine sP (K5 rfl rfl (by omega) (by omega)) rfl rfl ?_
 refine A1 ?_
 refine L0 (i + 1, pn', cn', us ++ [u2], es' ++ [[.int .i64 u2.k, .slice p3 u2.ks.length c3]], G2) ?_ ?_ ?_
 (simp only [I7]; exact D5)
 (dsimp only; exact ⟨by omega, hle.trans hle2, by simp [hlu], H0.snoc (hst.mono hle2) hru, A3b hau hua, B1n (by omega) hsu hE⟩)
 (show ks.length - (i + 1) < ks.length - i; omega)
 refine O0 ?_
 (obtain rfl : i = ks.length := (by omega); rw [List.take_length] at hsu; refine V8 (cs := es'.flatten) (by repeat (first | exact Pk.here | apply Pk.there)) (fun G3 hle3 hsl3 hno3 => ?_); have hst3 := hst.mono hle3; have hRes := B62 cx k nm num (.mk tk tks) (.mk fk fks) lb ks us G3 _ pn cn es' (by rw [hlu]; exact har) (by omega) hta (hr0.mono hle3) (by rw [hlu]; exact D6.of hsl3 (by rw [hst3.len, hlu]) hst3.all (fun e he => (hst3.each e he).2)) hst3 hau; rw [hlu] at hRes; refine E7 rfl hRes rfl rfl (fun v G4 hle4 hh => ?_); obtain ⟨mt, mc, rfl, hmr, hma, hmu⟩ := hh; obtain ⟨p1, c1, e1, rfl, _⟩ := hmr.open)
 refine B4 ?_
 refine I8 (rC rfl (A4 rfl rfl)) (rT rfl) ?_
 (rw [f7 us (by omega) hsu]; exact ⟨rfl, _, _, rfl, hmr, hma, hmu⟩)
theorem B7h {e : Tm} (h : M8 e = true) : A0q e = R4 [] e := by
 have hs := ((X7 e).1 h).1
 obtain ⟨h1, h2⟩ := A5o e 1 [] 0 hs A5m
 unfold A0q
 cases hE : K8 [] e 0 with
 | none => rw [B0Z h hE, h2 hE]
 | some r =>
  obtain ⟨u, a, l⟩ := r
  rw [B00 h hE, (h1 u a l hE).1]
def A7K (t : Ty) (x : Bool) (G : IM) : IM → Value → List A5 → Prop := M9 fun G' v => ∃ cells, v = .tuple ⟨[.agg ⟨cells⟩, .bool x]⟩ ∧ C3 G' (if x = true then t else A6) cells
theorem B7i (t : Ty) (G : IM) (cells : List Value) (hr : C3 G t cells) : Fn Tryz.prog 149 [.agg ⟨cells⟩, .bool true] [] G (A7K t true G) := by
 obtain ⟨p, c, e, rfl, _⟩ := hr.open
 refine B7 Tryz.func149 rfl Tryz.ntmps149 Tryz.results149 rfl ?_
 intro w0
 refine A1 ?_
 refine sE (C7 rfl rfl) rfl (fun b3 => ?_)
 refine sE (B0 rfl) rfl (fun b4 => ?_)
 refine A0R ?_
 refine I8 (rC rfl (A4 rfl rfl)) (rT rfl) ?_
 (exact ⟨rfl, _, rfl, hr⟩)
theorem B7j (t : Ty) (G : IM) (cells : List Value) (hr : C3 G t cells) : Fn Tryz.prog 149 [.agg ⟨cells⟩, .bool false] [] G (A7K t false G) := by
 obtain ⟨p, c, e, rfl, _⟩ := hr.open
 refine B7 Tryz.func149 rfl Tryz.ntmps149 Tryz.results149 rfl ?_
 intro w0
 refine A1 ?_
 refine sE (C7 rfl rfl) rfl (fun b3 => ?_)
 refine sE (B0 rfl) rfl (fun b4 => ?_)
 refine A0x ?_
 refine I8 (rC rfl (A4 rfl rfl)) (rT rfl) ?_
 (exact ⟨rfl, _, rfl, O2 _ ⟨by omega, by omega⟩⟩)
theorem B7k (t : Ty) (x : Bool) (G : IM) (cells : List Value) (hr : C3 G t cells) : Fn Tryz.prog 149 [.agg ⟨cells⟩, .bool x] [] G (A7K t x G) := by
 cases x
 ·exact B7j t G cells hr
 ·exact B7i t G cells hr
theorem A1X.sure {o : Option Ty} {t : Ty} {G G' : IM} {cells : List Value} (h : ∀ u, o = some u → u = t) (hr : C3 G' (if o.isSome = true then t else A6) cells) : A1X o G G' (.tuple ⟨[.agg ⟨cells⟩, .bool o.isSome]⟩) [] := by
 cases o with
 | none => exact ⟨rfl, cells, A6, rfl, hr, by simp⟩
 | some u => exact ⟨rfl, cells, t, rfl, hr, fun x hx => by cases hx; exact (h _ rfl).symm⟩
theorem B7l (e : Tm) (G : IM) (cells : List Value) (hcnt : D2 e ≤ 4294967296) (hr : A8 G e cells) :
  Fn Tryz.prog 184 [.slice none 0 0, .agg ⟨cells⟩] [] G (A1X (A0q e) G) := by
 have hl := hr.len
 have hone := hr.one
 have hw := A46 e G cells hcnt hr
 have hT := fun h : M8 e = true => B7g e 1 [] G none 0 0 cells ((X7 e).1 h).1 (by omega) A5m (U4.nil G) hr
 have hts := fun h => @B7h e h
 have hno := @B6m e
 refine B7 Tryz.func184 rfl Tryz.ntmps184 Tryz.results184 rfl ?_
 intro w0
 refine A1 ?_
 refine sE (C7 rfl rfl) rfl (fun b3 => ?_)
 refine sE (B0 rfl) rfl (fun b4 => ?_)
 refine B4 ?_
 refine I3 rfl ((B4r _)) rfl rfl ?_
 refine A1 ?_
 refine sL (A2 rfl rfl (B2 (by repeat first | exact mH | apply mT)) (by assumption)) rfl rfl ?_
 refine E1 rfl (hw) rfl rfl (fun h16 => ?_) (fun h16 => ?_)
 refine J2 ?_
 refine sL (A2 rfl rfl (B2 (by repeat first | exact mH | apply mT)) (by assumption)) rfl rfl ?_
 (refine E7 rfl (hT (by assumption)) rfl rfl (fun v G1 hle1 hh => ?_); obtain ⟨mt, mc, rfl, hmr, hma, hmu⟩ := hh; obtain ⟨p1, c1, e1, rfl, _⟩ := hmr.open; have hmo := hts (by assumption))
 refine A1 ?_
 (refine E7 rfl (B7k mt _ _ _ hmr) rfl rfl (fun v G2 hle2 hh => ?_); obtain ⟨mc2, rfl, hmr2⟩ := hh; obtain ⟨p2, c2, e2, rfl, _⟩ := hmr2.open)
 refine B4 ?_
 refine I8 (rC rfl (A4 rfl rfl)) (rT rfl) ?_
 (rw [hmo]; exact A1X.sure hmu hmr2)
 refine K2 ?_
 refine I8 (rC rfl (A4 rfl rfl)) (rT rfl) ?_
 (exact A1X.no (u := A6) (O2 _ ⟨by omega, by omega⟩) rfl (hno (by assumption)))
theorem B7m (e : Tm) (G : IM) (cells : List Value) (hcnt : D2 e ≤ 4294967296) (hr : A8 G e cells) :
  Fn Tryz.prog 129 [.agg ⟨cells⟩] [] G (A1X (A0q e) G) := by
 have hl := hr.len
 have hone := hr.one
 refine B7 Tryz.func129 rfl Tryz.ntmps129 Tryz.results129 rfl ?_
 intro w0
 refine A1 ?_
 refine sE (C7 rfl rfl) rfl (fun b3 => ?_)
 refine sE (B0 rfl) rfl (fun b4 => ?_)
 refine B1 ?_
 refine sL (A2 rfl rfl (B2 (by repeat first | exact mH | apply mT)) (by assumption)) rfl rfl ?_
 (refine E7 rfl (B7l e G cells hcnt hr) rfl rfl (fun v G1 hle1 hh => ?_); obtain ⟨cu, u, rfl, hru, hu⟩ := hh; obtain ⟨p1, c1, e1, rfl, _⟩ := hru.open)
 refine B4 ?_
 refine I8 (rC rfl (A4 rfl rfl)) (rT rfl) ?_
 (exact ⟨rfl, _, u, rfl, hru, hu⟩)
def B99 (e : Tm) (a b : Ty) (l : Int) : IM → Value → List A5 → Prop := M9 fun G' v => ∃ cells, v = .tuple ⟨[.agg ⟨cells⟩, .int .i64 (if N5 a b = true then l else l + 1)]⟩ ∧ A8 G' (if N5 a b = true then e else N1 e a b l) cells
def C0a (w ts : List Ty) : List Ty := if w = [] then ts else w
def C0b (ws : List Ty) (n : Nat) (G : IM) : IM → Value → List A5 → Prop := M9 fun G' v => ∃ p c es, v = .slice p n c ∧ ws.length = n ∧ D6 G' p n c 2 es ∧ H0 G' ws es
section
variable {cx : Cx} {k : Int} {nm : ByteArray} {ty : Ty} {ts w : List Ty} {t : Ty}
end
def C0c (u : Tm) (t : Ty) (l : Int) (G : IM) : IM → Value → List A5 → Prop := M9 fun G' v => ∃ cu ct, v = .tuple ⟨[.agg ⟨cu⟩, .agg ⟨ct⟩, .int .i64 (l + 1)]⟩ ∧ A8 G' u cu ∧ C3 G' t ct
def B7n (t : Tm) : List Ty := if M8 t = true then A2W t else []
def C0d (u : Tm) (n : Int) : IM → Value → List A5 → Prop := fun G' v outs => outs = [] ∧ ∃ cu, v = .tuple ⟨[.agg ⟨cu⟩, .int .i64 n]⟩ ∧ A8 G' u cu
def C0e (t : Tm) (L : List Ty) : Option Tm := if M8 t = true ∧ (B7n t).length = L.length ∧ ∀ u ∈ L, H1 u = true then some (A7G t L) else none
def TmB (o : Option Tm) : IM → Value → List A5 → Prop := M9 fun G' v => ∃ cu, v = .tuple ⟨[.agg ⟨cu⟩, .bool o.isSome]⟩ ∧ A8 G' (o.getD E2) cu
theorem B1p {e : Tm} (h : (A0q e).isSome = true) : M8 e = true := by
 unfold A0q T6 at h
 split at h
 ·rename_i u t hx
  split at hx
  ·assumption
  ·cases hx
 ·cases h
mutual
theorem B1q : ∀ (t : Tm) (d : Int), L7 12 14 t d = true → t.small
 | .mk k nm num ty fr lb ks, d, h => by
  obtain ⟨_, h2, h3, h4⟩ := X8 h
  obtain ⟨n1, n2, n3, n4, n5, n6, n7, n8, n9⟩ := T0.1 h3
  rw [Tm.small]
  refine ⟨by have := A6N h3; omega, (A39 h3).1.small, by rw [A0X (n9 h2).1]; exact A2g, ?_, B1r ks _ h4⟩
  have := A1x k; omega
theorem B1r : ∀ (ts : List Tm) (d : Int), L5 12 14 ts d = true → Tm.smallL ts
 | [], _, _ => by rw [Tm.smallL]; trivial
 | t :: ts, d, h => by
  rw [L5, Bool.and_eq_true] at h
  rw [Tm.smallL]
  exact ⟨B1q t d h.1, B1r ts d h.2⟩
end
theorem B1s {e : Tm} (h : M8 e = true) : e.fit 30 := by
 obtain ⟨h1, h2⟩ := (X7 e).1 h
 exact ⟨B1q e 1 h1, h2⟩
theorem Tm.fit.le {e : Tm} {n m : Nat} (h : e.fit n) (hm : n ≤ m) : e.fit m := ⟨h.1, Nat.le_trans h.2 hm⟩
theorem B1t (br : Nat) (pb : Option Addr) (nb cb : Nat) (bs : List UInt8) (hnb : nb ≤ 2000) (p : Nat) (G : IM) (hb : Sl G pb nb cb 1 (O9 bs)) (hp : p < 1099511627776) :
  Fn Tryz.prog 62 [.pointer (some ⟨br, 0, none⟩)] [rd br pb nb cb p] G
   (A0z br pb nb cb p 1 (fun _ v => ∃ k, v = .int .i64 k ∧ F8 k)) := by
 refine B7 Tryz.func62 rfl Tryz.ntmps62 Tryz.results62 rfl ?_
 intro w0
 refine D0 ?_
 (refine M5 (D4 rfl rfl rfl (by omega) (by unfold maxLen; omega) rfl) rfl ?_; rintro _ ⟨b9, rfl⟩)
 (refine V8 (by repeat (first | exact Pk.here | apply Pk.there)) (fun Gf hlef hslf _ => ?_); refine I0 rfl (A0e Gf br pb nb cb p bs _ _ _ _ (hb.mono hlef) hnb (by omega) hslf (by decide)) (Pk.perm (by repeat (first | exact Pk.here | apply Pk.there))) rfl rfl (fun v Gm outs hlen hh => ?_); obtain ⟨rfl, rfl, hv⟩ := hh; obtain ⟨kn, rfl, hkn⟩ : ∃ k, v = .int .i64 k ∧ F8 k := (by simp only [List.mem_cons, List.not_mem_nil, or_false] at hv; rcases hv with rfl | rfl | rfl | rfl | rfl | rfl | rfl | rfl <;> exact ⟨_, rfl, by unfold F8; omega⟩))
 refine B3 ?_
 refine H5 (outs := [rd br pb nb cb (p + 1)]) (rT rfl) (by repeat (first | exact A0.nil | refine A0.cons Pk.here ?_ | refine A0.cons (Pk.there Pk.here) ?_ | refine A0.cons (Pk.there (Pk.there Pk.here)) ?_ | apply A0.drop)) ?_
 (exact ⟨p + 1, by omega, by omega, rfl, kn, rfl, hkn⟩)
theorem B7o (br : Nat) (pb : Option Addr) (nb cb : Nat) (bs : List UInt8) (hnb : nb ≤ 2000) (p : Nat) (G : IM) (hb : Sl G pb nb cb 1 (O9 bs)) (hp : p + 9000000 < 1099511627776) :
  Fn Tryz.prog 59 [.pointer (some ⟨br, 0, none⟩)] [rd br pb nb cb p] G
   (A0z br pb nb cb p 9000000 (fun G' v => ∃ e cells, v = .agg ⟨cells⟩ ∧ A8 G' e cells ∧ e.fit 1100)) := by
 have hm8 : mB 8 = 1968200 := by decide
 refine B7 Tryz.func59 rfl Tryz.ntmps59 Tryz.results59 rfl ?_
 intro w0
 refine A1 ?_
 refine sE (B0 rfl) rfl (fun b3 => ?_)
 refine D0 ?_
 refine C0 ?_
 (refine L9 (fun (x : Nat × Nat × IM) => ⟨[(3, .int .i64 x.1), (0, .pointer (some ⟨br, 0, none⟩)), (2, .pointer (some ⟨b3, 0, none⟩))], [rd br pb nb cb x.2.1, .blk b3 [.int .i64 0, .string ⟨⟨[]⟩⟩, .int .i64 0, .int .i64 0, .slice none 0 0, .int .i64 0, .slice none 0 0, .int .i64 0, .slice none 0 0]], x.2.2⟩) (fun x => x.1 ≤ 4 ∧ C2 G x.2.2 ∧ p ≤ x.2.1 ∧ x.2.1 ≤ p + x.1 * 2000000) (fun x => 4 - x.1) (0, p, G) ?_ ?_ ?_)
 (simp only [I7]; exact D5)
 (exact ⟨by omega, C2.refl _, Nat.le_refl _, by dsimp only; omega⟩)
 (rintro ⟨(i : Nat), (p1 : Nat), G1⟩ ⟨hi, hleL, hpL, hpL2⟩; simp only [] at hi hleL hpL hpL2 ⊢; replace hb := hb.mono hleL)
 refine B3 ?_
 refine sB (K6 rfl rfl) rfl rfl (fun h21 => ?_) (fun h21 => ?_)
 refine A7 ?_
 refine C0 ?_
 refine B1 ?_
 (refine M5 (D4 rfl rfl rfl (by omega) (by unfold maxLen; omega) rfl) rfl ?_; rintro _ ⟨b34, rfl⟩)
 (refine V8 (by repeat (first | exact Pk.here | apply Pk.there)) (fun Gf hlef hslf _ => ?_); refine I0 rfl (A0e Gf br pb nb cb (p1) bs _ _ _ _ (hb.mono hlef) hnb (by omega) hslf (by decide)) (Pk.perm (by repeat (first | exact Pk.here | apply Pk.there))) rfl rfl (fun v Gm outs hlen hh => ?_); obtain ⟨rfl, rfl, hv⟩ := hh; replace hb := hb.mono hlef; obtain ⟨dd, rfl, hdd⟩ : ∃ d : Nat, v = .int .i64 ((d + 1 : Nat) : Int) ∧ d ≤ 2 := (by simp only [List.mem_cons, List.not_mem_nil, or_false] at hv; rcases hv with rfl | rfl | rfl | rfl <;> first | exact ⟨0, rfl, by decide⟩ | exact ⟨1, rfl, by decide⟩ | exact ⟨2, rfl, by decide⟩); have hdB := A6L hdd; replace hleL := hleL.trans hlef)
 (have hcall := A36 br pb nb cb bs hnb dd (p1 + 1) _ (by omega) hb (by omega); refine I0 rfl hcall (Pk.perm (by repeat (first | exact Pk.here | apply Pk.there))) rfl rfl (fun v Gn outs hleD hh => ?_); obtain ⟨pD, hpD1, hpD2, rfl, uD, cD, rfl, hrD, hsD, haD⟩ := hh; obtain ⟨qD, dD, eD, rfl, _⟩ := hrD.open; replace hb := hb.mono hleD; replace hleL := hleL.trans hleD)
 refine E8 ?_
 (refine M5 (D4 rfl rfl rfl (by omega) (by unfold maxLen; omega) rfl) rfl ?_; rintro _ ⟨b38, rfl⟩)
 (refine V8 (by repeat (first | exact Pk.here | apply Pk.there)) (fun Gf hlef hslf _ => ?_); refine I0 rfl (A0e Gf br pb nb cb (pD) bs _ _ _ _ (hb.mono hlef) hnb (by omega) hslf (by decide)) (Pk.perm (by repeat (first | exact Pk.here | apply Pk.there))) rfl rfl (fun v Gm outs hlen hh => ?_); obtain ⟨rfl, rfl, hv⟩ := hh; replace hb := hb.mono hlef; replace hleL := hleL.trans hlef; replace hrD := hrD.mono hlef; obtain ⟨dp, rfl, hdp1, hdp2⟩ : ∃ d : Int, v = .int .i64 d ∧ 3 ≤ d ∧ d ≤ 5 := (by simp only [List.mem_cons, List.not_mem_nil, or_false] at hv; rcases hv with rfl | rfl | rfl | rfl <;> exact ⟨_, rfl, by decide, by decide⟩))
 (have hcall := B6U br pb nb cb bs hnb 8 dp uD (pD + 1) _ none 0 0 _ ⟨haD.le (by omega), by omega, by omega, .inr ⟨by omega, by omega⟩⟩ (by omega) (by omega) (by omega) (X9.nil _) hrD hb (by omega); refine I0 rfl hcall (Pk.perm (by repeat (first | exact Pk.here | apply Pk.there))) rfl rfl (fun v Gn outs hleM hh => ?_); obtain ⟨pM, hpM1, hpM2, rfl, eM, cM, rfl, hrM, hsmM, hcM⟩ := hh; have hlM := hrM.len; have hoM := hrM.one; replace hb := hb.mono hleM; replace hleL := hleL.trans hleM)
 refine sE (B0 rfl) rfl (fun b41 => ?_)
 refine Y4 rfl rfl rfl hlM hoM rfl (by repeat first | exact Sw.here | apply Sw.there) (by exact C9 (by first | exact hlM.symm | omega)) ?_
 refine B3 ?_
 refine sL (A2 rfl rfl (B2 (by repeat first | exact mH | apply mT)) hlM) rfl rfl ?_
 (refine E7 rfl (B7m eM _ _ (by omega) hrM) rfl rfl (fun v G9 hle9 hh => ?_); have hmv := @B1p eM; obtain ⟨mc, mt, rfl, hmr, hmu⟩ := hh; obtain ⟨pt, ct, et, rfl, _⟩ := hmr.open; replace hb := hb.mono hle9; replace hleL := hleL.trans hle9; replace hrM := hrM.mono hle9; generalize (A0q eM).isSome = mx at *; cases mx)
 refine B6 ?_
 refine sE (B0 rfl) rfl (fun b52 => ?_)
 refine I6 ?_
 refine sP (K5 rfl rfl (by omega) (by omega)) rfl rfl ?_
 refine A1 ?_
 refine L0 (i + 1, pM, G9) ?_ ?_ ?_
 (simp only [I7]; exact D5)
 (dsimp only; exact ⟨by omega, hleL, by omega, by omega⟩)
 (show 4 - (i + 1) < 4 - i; omega)
 refine B6 ?_
 refine sE (B0 rfl) rfl (fun b78 => ?_)
 refine O0 ?_
 refine sL (A2 rfl rfl (B2 (by repeat first | exact mH | apply mT)) hlM) rfl rfl ?_
 refine Y4 rfl rfl rfl hlM hoM rfl (by repeat first | exact Sw.here | apply Sw.there) (by exact C9 (by first | exact hlM.symm | omega)) ?_
 refine D0 ?_
 refine H5 (outs := [rd br pb nb cb pM]) (rC rfl (A2 rfl rfl (B2 (by repeat first | exact mH | apply mT)) hlM)) (by repeat (first | exact A0.nil | refine A0.cons Pk.here ?_ | refine A0.cons (Pk.there Pk.here) ?_ | refine A0.cons (Pk.there (Pk.there Pk.here)) ?_ | apply A0.drop)) ?_
 (exact ⟨pM, by omega, by omega, rfl, eM, _, rfl, hrM, (B1s (hmv rfl)).le (by omega)⟩)
 refine J4 ?_
 (have hcall := A9u br pb nb cb bs hnb p1 _ hb (by omega); refine I0 rfl hcall (Pk.perm (by repeat (first | exact Pk.here | apply Pk.there))) rfl rfl (fun v Gn outs hleC hh => ?_); obtain ⟨pC, hpC1, hpC2, rfl, eC, cC, rfl, hrC, hcC⟩ := hh; have hlC := hrC.len; have hoC := hrC.one; have hcnt := A3W eC)
 refine Y4 rfl rfl rfl hlC hoC rfl (by repeat first | exact Sw.here | apply Sw.there) (by exact C9 (by first | exact hlC.symm | omega)) ?_
 refine B6 ?_
 refine H5 (outs := [rd br pb nb cb pC]) (rC rfl (A2 rfl rfl (B2 (by repeat first | exact mH | apply mT)) hlC)) (by repeat (first | exact A0.nil | refine A0.cons Pk.here ?_ | refine A0.cons (Pk.there Pk.here) ?_ | refine A0.cons (Pk.there (Pk.there Pk.here)) ?_ | apply A0.drop)) ?_
 (exact ⟨pC, by omega, by omega, rfl, eC, _, rfl, hrC, A6w _ (by omega), by omega⟩)
mutual
theorem B1u : ∀ a : Ty, A1Z a a = true
 | .mk k ks => by rw [A1B, B1v ks]; simp
theorem B1v : ∀ xs : List Ty, A0G xs xs = true
 | [] => rfl
 | a :: xs => by rw [A0G, B1u a, B1v xs]; rfl
end
def PLe (l l' : List Ty) : Prop := ∀ i, A1Z (l.getD i A6) (l'.getD i A6) = true
section masks
variable {P : Program} {Γ : L8} {env : M7} {hp : List A5} {G : IM} {ty : TypeId}
end masks
def mLb (t : Tm) : List Int := (A2V t).map Tm.lb
def C0f (ts : List Tm) : List Int := (A7F ts).map Tm.lb
structure Lbs (ls : List Int) (l l' : Int) : Prop where
 le : l ≤ l'
 nd : ls.Nodup
 len : (ls.length : Int) = l' - l
 mem : ∀ m ∈ ls, l < m ∧ m ≤ l'
theorem A7L {us : List Tm} {h w : List Ty} {l : Int} (hn : us = [] ∨ h = [] ∨ w = []) : F9 us h w l = (us, l) := by
 rcases hn with rfl | rfl | rfl
 ·simp [F9]
 ·simp [F9]
 ·simp [F9]
mutual
theorem B1w : ∀ a : Tm, A2L a a = true
 | .mk k nm num ty fr lb ks => B0f.2 ⟨rfl, rfl, rfl, fun _ => B1u ty, B1x ks⟩
theorem B1x : ∀ xs : List Tm, A2n xs xs = true
 | [] => rfl
 | a :: xs => by rw [A2n, B1w a, B1x xs]; rfl
end
theorem B7p {e u : Tm} {t : Ty} (h : T6 e = some (u, t)) : ∃ g A g' A', u = g.tm ∧ t = A.ty ∧ GP N3 g g' A A' := by
 have hv : M8 e = true := B1p (by rw [B03 h]; rfl)
 obtain ⟨g, g', A, A', h1, h2, _, h4⟩ := B5y h (b := e) (by unfold A5t; rw [hv, B1w]; rfl)
 exact ⟨g, A, g', A', h1, h2, h4⟩
theorem B7q : ∀ g : GE, H4 g.tm = g.er.tm := by
 intro g
 induction g with
 | var x => rw [GE.er, GE.tm, H4, E9]; simp
 | num n => rw [GE.er, GE.tm, H4, E9]; simp
 | tru b => rw [GE.er, GE.tm, H4, E9]; cases b <;> simp
 | lam x A e i => rw [GE.er, GE.tm, GE.tm, H4, E9, E9, i]; rfl
 | app f a i j => rw [GE.er, GE.tm, GE.tm, H4, E9, E9, E9, i, j]; rfl
 | ar s a b i j => rw [GE.er, GE.tm, GE.tm, H4, E9, E9, E9, i, j]; cases s <;> rfl
 | ite c a b i j k => rw [GE.er, GE.tm, GE.tm, H4, E9, E9, E9, E9, i, j, k]; rfl
 | pair a b i j => rw [GE.er, GE.tm, GE.tm, H4, E9, E9, E9, i, j]; rfl
 | part s e i => rw [GE.er, GE.tm, GE.tm, H4, E9, E9, i]; cases s <;> rfl
 | cast A B l e i => rw [GE.er, GE.tm, H4, E9, E9, i]; rfl
theorem B7r (u : Tm) (a b : Ty) (l : Int) : H4 (N1 u a b l) = H4 u := by rw [N1, H4, E9, E9]; rfl
theorem A5P : ∀ (us : List Tm) (h w : List Ty) (l : Int), E9 (F9 us h w l).1 = E9 us
 | [], h, w, l => by rw [A7L (by simp)]
 | u :: us, [], w, l => by rw [A7L (by simp)]
 | u :: us, a :: h, [], l => by rw [A7L (by simp)]
 | u :: us, a :: h, b :: w, l => by
  rw [F9]
  split
  ·rw [E9, E9, A5P us h w l]
  ·rw [E9, E9, B7r, A5P us h w (l + 1)]
theorem B7s : ∀ (us : List Tm), H4 (us.getD 0 E2) = (E9 us).headD (H4 E2)
 | [] => rfl
 | u :: us => by rw [E9]; rfl
theorem B7t (ks : List Tm) (ih : ∀ t ∈ ks, ∀ (d : Int) (cx : Cx) (l : Int) (u : Tm) (a : Ty) (l' : Int), L7 12 14 t d = true → K8 cx t l = some (u, a, l') → H4 u = H4 t) :
  ∀ (d : Int) (cx : Cx) (l : Int) (us : List Tm) (h : List Ty) (l' : Int), L5 12 14 ks d = true → M4 cx ks l = some (us, h, l') → E9 us = E9 ks := by
 induction ks with
 | nil =>
  intro d cx l us h l' _ hE
  rw [M4] at hE
  cases hE
  rfl
 | cons t ts ihl =>
  intro d cx l us h l' hs hE
  rw [L5, Bool.and_eq_true] at hs
  rw [M4] at hE
  split at hE
  ·cases hE
  ·rename_i u a l1 h1
   split at hE
   ·cases hE
   ·rename_i us2 h2 l2 hE2
    cases hE
    rw [E9, E9, ih t List.mem_cons_self d cx l u a l1 hs.1 h1, ihl (fun t ht => ih t (List.mem_cons_of_mem _ ht)) d cx l1 us2 h2 _ hs.2 hE2]
theorem B7u : ∀ (t : Tm) (d : Int) (cx : Cx) (l : Int) (u : Tm) (a : Ty) (l' : Int), L7 12 14 t d = true → K8 cx t l = some (u, a, l') → H4 u = H4 t := by
 refine Tm.ind fun k nm num ty fr lb ks ih d cx l u a l' hs hE => ?_
 obtain ⟨_, h2, h3, h4⟩ := X8 hs
 have hops := (T0.1 h3).1
 rw [K8] at hE
 split at hE
 ·cases hE
 ·rename_i us h l1 hL
  have g1 := B7t ks ih _ _ _ _ _ _ h4 hL
  rw [Q7] at hE
  split at hE
  ·cases hE
  ·rename_i w t' hN
   cases hE
   split
   ·rename_i hk
    subst hk
    rw [B7s, A5P, g1, H4, if_pos (.inl rfl)]
    have hl : ks.length = 1 := by rw [show C4 13 = 1 from rfl] at hops; omega
    obtain ⟨x, hx⟩ : ∃ x, ks = [x] := List.length_eq_one_iff.1 hl
    rw [hx, E9]; rfl
   ·rename_i hk
    have hE : ∀ vs, H4 (.mk k nm num ty fr lb vs) = .mk k nm num (if k = 5 then K1 else A6) A6 0 (E9 vs) := fun vs => by rw [H4, if_neg (by omega)]
    rw [hE, hE, A5P, g1]
theorem B7v {e u : Tm} {t : Ty} (h : T6 e = some (u, t)) : H4 u = H4 e := by
 unfold T6 at h
 split at h
 ·rename_i hv
  split at h
  ·rename_i u' t' l' he
   cases h
   exact B7u e 1 [] 0 u t l' ((X7 e).1 hv).1 he
  ·cases h
 ·cases h
mutual
theorem A7M : ∀ (t : Tm) (d d' : Int), d' ≤ d → L7 12 14 t d = true → L7 12 14 (H4 t) d' = true
 | .mk k nm num ty fr lb ks, d, d', hd, h => by
  obtain ⟨h1, h2, h3, h4⟩ := X8 h
  obtain ⟨n1, n2, n3, n4, n5, n6, n7, n8, n9⟩ := T0.1 h3
  rw [H4]
  by_cases hk : k = 13 ∨ k = 14
  ·rw [if_pos hk]
   have hk13 : k = 13 := by omega
   subst hk13
   have hl : ks.length = 1 := by rw [show C4 13 = 1 from rfl] at n1; omega
   match ks, hl, h4 with
   | [x], _, h4 =>
    rw [L5, Bool.and_eq_true] at h4
    rw [E9]
    exact A7M x (d + 1) d' (by omega) h4.1
  ·rw [if_neg hk, A0V (by omega) h2]
   ·exact B1y ks (d + 1) (d' + 1) (by omega) h4
   ·have hlen : (E9 ks).length = ks.length := by rw [A3a, List.length_map]
    rw [hlen]
    obtain ⟨hf, hl⟩ := n9 h2
    refine T0.2 ⟨n1, n2, n3, n4, n5, fun h5 => ?_, fun h5 => ?_, fun h14 => absurd h14 h2, fun _ => ⟨by decide, rfl⟩⟩
    ·rw [if_pos (by omega)]; decide
    ·rw [if_neg (by omega)]; decide
theorem B1y : ∀ (ts : List Tm) (d d' : Int), d' ≤ d → L5 12 14 ts d = true → L5 12 14 (E9 ts) d' = true
 | [], _, _, _, _ => by rw [E9]; rfl
 | t :: ts, d, d', hd, h => by
  rw [L5, Bool.and_eq_true] at h
  rw [E9, L5, A7M t d d' hd h.1, B1y ts d d' hd h.2]; rfl
end
theorem B7w {e : Tm} (h : M8 e = true) : J1 (H4 e) = true := by
 obtain ⟨h1, h2⟩ := (X7 e).1 h
 refine B4h ((X7 _).2 ⟨A7M e 1 1 (Int.le_refl _) h1, ?_⟩)
 have := (A49 e (B1s h).1).2
 omega
def GE.lt : GE → Prop
 | .var _ => True
 | .num _ => True
 | .tru _ => True
 | .lam _ A e => H1 A.ty = true ∧ e.lt
 | .app f a => f.lt ∧ a.lt
 | .ar _ a b => a.lt ∧ b.lt
 | .ite c a b => c.lt ∧ a.lt ∧ b.lt
 | .pair a b => a.lt ∧ b.lt
 | .part _ e => e.lt
 | .cast _ _ _ _ => False
mutual
def B1z : Ty → Int
 | .mk k ks => if k = 1 then 1 else B1A ks
def B1A : List Ty → Int
 | [] => 0
 | t :: ts => B1z t + B1A ts
end
def tSt (t : Ty) : Bool := decide (B1z t = 0)
def C0g (e : Tm) : Bool := M8 e && (A2W e).all tSt
abbrev NoC (u : Tm) : Prop := V0 (fun _ => False) u
def A0O (e : Tm) (fuel : Int) : ByteArray × Int × Int := if (M8 e || J1 e) = true then (if (U5 (H4 e) fuel).2.1 = 0 then (X3 (U5 (H4 e) fuel).1, 0, (U5 (H4 e) fuel).2.2) else (⟨⟨[]⟩⟩, (U5 (H4 e) fuel).2.1, (U5 (H4 e) fuel).2.2)) else (⟨⟨[]⟩⟩, 3, 0)
theorem B1B {e : Tm} {fuel : Int} (h : (M8 e || J1 e) = false) : A0O e fuel = (⟨⟨[]⟩⟩, 3, 0) := by unfold A0O; rw [if_neg (by rw [h]; decide)]
theorem A7N {e : Tm} {fuel : Int} (h : (M8 e || J1 e) = true) (h0 : (U5 (H4 e) fuel).2.1 = 0) : A0O e fuel = (X3 (U5 (H4 e) fuel).1, 0, (U5 (H4 e) fuel).2.2) := by unfold A0O; rw [if_pos h, if_pos h0]
theorem A4w {e : Tm} {fuel : Int} (h : (M8 e || J1 e) = true) (h0 : (U5 (H4 e) fuel).2.1 ≠ 0) : A0O e fuel = (⟨⟨[]⟩⟩, (U5 (H4 e) fuel).2.1, (U5 (H4 e) fuel).2.2) := by unfold A0O; rw [if_pos h, if_neg h0]
theorem B7x (t : Tm) (G : IM) (cells : List Value) (hl : cells.length = 9) (ho : cells.all (·.oneCell') = true) (h : Fn Tryz.prog 245 [.agg ⟨cells⟩] [] G (H8 (.bool (N4 t)) G)) :
  Fn Tryz.prog 260 [.agg ⟨cells⟩] [] G (V2 (.bool (!N4 t)) [] G) := by
 refine B7 Tryz.func260 rfl Tryz.ntmps260 Tryz.results260 rfl ?_
 intro w0
 refine A1 ?_
 refine sE (C7 rfl rfl) rfl (fun b3 => ?_)
 refine B1 ?_
 refine sL (A2 rfl rfl (B2 (by repeat first | exact mH | apply mT)) hl) rfl rfl ?_
 refine I3 rfl (h) rfl rfl ?_
 refine sQ (A1L rfl) rfl ?_
 refine B1 ?_
 (exact ⟨rfl, rfl, rfl⟩)
theorem B1C {k : Int} {nm : ByteArray} {num : Int} {ty fr : Ty} {lb : Int} {ks : List Tm} {A : Bool} (h : ks.all N4 = A) (h1 : k ≠ 14) (h2 : k ≠ 5 ∨ ty.k = 1) : N4 (.mk k nm num ty fr lb ks) = A := by
 rw [N4, decide_eq_true ⟨h1, h2⟩, A7z, h, Bool.true_and]
theorem B1D {k : Int} {nm : ByteArray} {num : Int} {ty fr : Ty} {lb : Int} {ks : List Tm} (h : ¬(k ≠ 14 ∧ (k ≠ 5 ∨ ty.k = 1))) : N4 (.mk k nm num ty fr lb ks) = false := by
 rw [N4, decide_eq_false h, Bool.false_and]
theorem B7y : ∀ (t : Tm) (G : IM) (cells : List Value), A8 G t cells → Fn Tryz.prog 245 [.agg ⟨cells⟩] [] G (H8 (.bool (N4 t)) G) := by
 refine Tm.ind fun k nm num ty fr lb ks ih G cells hr => ?_
 obtain ⟨A, hA⟩ : ∃ A, ks.all N4 = A := ⟨_, rfl⟩
 have hy := @B1C k nm num ty fr lb ks A hA
 have hn := @B1D k nm num ty fr lb ks
 generalize N4 (.mk k nm num ty fr lb ks) = R at hy hn ⊢
 obtain ⟨tk, tks⟩ := ty
 obtain ⟨fk, fks⟩ := fr
 rw [show (Ty.mk tk tks).k = tk from rfl] at hy hn
 obtain ⟨pt, ct, pf, cf, p, c, es, rfl, hk, hnum, hlb, hty, hfr, hsl, hkl⟩ := hr.open9
 have hC := B0i G p ks.length c es hsl 260 [] [] [] N4 ks rfl hA (fun i e he => by
  have hx := hkl.inv he E2
  exact B7x _ G e hx.2.len hx.2.one (ih _ hx.1 G e hx.2))
 refine B7 Tryz.func245 rfl Tryz.ntmps245 Tryz.results245 rfl ?_
 intro w0
 refine A1 ?_
 refine sE (C7 rfl rfl) rfl (fun b3 => ?_)
 refine B4 ?_
 refine sB (N7 rfl rfl) rfl rfl (fun h11 => ?_) (fun h11 => ?_)
 refine B6 ?_
 refine sB (N7 rfl rfl) rfl rfl (fun h15 => ?_) (fun h15 => ?_)
 refine J2 ?_
 refine A1R rfl hC A0i rfl rfl ?_
 refine sQ (A1L rfl) rfl ?_
 refine A7 ?_
 (exact ⟨rfl, by rw [hy (by omega) (by omega)]; cases A <;> rfl, rfl⟩)
 refine B3 ?_
 refine sB (qE rfl rfl) rfl rfl (fun h39 => ?_) (fun h39 => ?_)
 refine B1 ?_
 refine A1R rfl hC A0i rfl rfl ?_
 refine sQ (A1L rfl) rfl ?_
 refine A7 ?_
 (exact ⟨rfl, by rw [hy (by omega) (by omega)]; cases A <;> rfl, rfl⟩)
 refine J6 ?_
 (exact ⟨rfl, by rw [hn (by omega)], rfl⟩)
 refine A6b ?_
 (exact ⟨rfl, by rw [hn (by omega)], rfl⟩)
theorem B1E (t : Tm) (G : IM) (cells : List Value) (hr : A8 G t cells) : Fn Tryz.prog 226 [.agg ⟨cells⟩] [] G (H8 (.bool (P0 t)) G) := by
 have hRl := hr.len
 have hRo := hr.one
 have hV := A41 t G cells hr
 have hB := B7y t G cells hr
 unfold P0
 generalize J1 t = a at hV ⊢
 generalize N4 t = b at hB ⊢
 refine B7 Tryz.func226 rfl Tryz.ntmps226 Tryz.results226 rfl ?_
 intro w0
 refine A1 ?_
 refine sE (C7 rfl rfl) rfl (fun b3 => ?_)
 refine B1 ?_
 refine sL (A2 rfl rfl (B2 (by repeat first | exact mH | apply mT)) hRl) rfl rfl ?_
 refine E1 rfl (hV) rfl rfl (fun h10 => ?_) (fun h10 => ?_)
 refine E8 ?_
 refine sL (A2 rfl rfl (B2 (by repeat first | exact mH | apply mT)) hRl) rfl rfl ?_
 refine E1 rfl (hB) rfl rfl (fun h13 => ?_) (fun h13 => ?_)
 refine A7 ?_
 (simp_all; exact ⟨rfl, rfl, rfl⟩)
 refine A7 ?_
 (simp_all; exact ⟨rfl, rfl, rfl⟩)
 refine D8 ?_
 (simp_all; exact ⟨rfl, rfl, rfl⟩)
theorem B7z (t : Tm) (G : IM) (cells : List Value) (hr : A8 G t cells) : Fn Tryz.prog 246 [.agg ⟨cells⟩] [] G (H8 (.int .i64 (A2q t.k)) G) := by
 obtain ⟨k, nm, num, ⟨tk, tks⟩, ⟨fk, fks⟩, lb, ks⟩ := t
 obtain ⟨pt, ct, pf, cf, p, c, es, rfl, hk, hnum, hlb, hty, hfr, hsl, hkl⟩ := hr.open9
 rw [show (Tm.mk k nm num (.mk tk tks) (.mk fk fks) lb ks).k = k from rfl]
 have hw : ∀ v : Int, (k = 6 → v = 1) → (k = 7 ∨ k = 8 → v = 2) → (k = 9 → v = 3) → (k = 11 ∨ k = 12 → v = 4) → (k ≠ 6 → k ≠ 7 → k ≠ 8 → k ≠ 9 → k ≠ 11 → k ≠ 12 → v = 5) → A2q k = v := by
  intro v h1 h2 h3 h4 h5
  unfold A2q
  repeat' split
  all_goals first | exact (h1 (by assumption)).symm | exact (h2 (by assumption)).symm | exact (h3 (by assumption)).symm | exact (h4 (by assumption)).symm | exact (h5 (by omega) (by omega) (by omega) (by omega) (by omega) (by omega)).symm
 refine B7 Tryz.func246 rfl Tryz.ntmps246 Tryz.results246 rfl ?_
 intro w0
 refine A1 ?_
 refine sE (C7 rfl rfl) rfl (fun b3 => ?_)
 refine J2 ?_
 refine C0 (tS (tR (sB (qE rfl rfl) rfl rfl (fun h17 => ?_) (fun h17 => ?_))))
 refine J6 ?_
 (exact ⟨rfl, congrArg (Value.int .i64) (Eq.symm (hw _ (by omega) (by omega) (by omega) (by omega) (by omega))), rfl⟩)
 refine B4 ?_
 refine sB (qE rfl rfl) rfl rfl (fun h39 => ?_) (fun h39 => ?_)
 refine J7 ?_
 (exact ⟨rfl, congrArg (Value.int .i64) (Eq.symm (hw _ (by omega) (by omega) (by omega) (by omega) (by omega))), rfl⟩)
 refine B1 ?_
 refine sB (qE rfl rfl) rfl rfl (fun h62 => ?_) (fun h62 => ?_)
 refine J6 ?_
 (exact ⟨rfl, congrArg (Value.int .i64) (Eq.symm (hw _ (by omega) (by omega) (by omega) (by omega) (by omega))), rfl⟩)
 refine A7 ?_
 refine sB (qE rfl rfl) rfl rfl (fun h83 => ?_) (fun h83 => ?_)
 refine J6 ?_
 (exact ⟨rfl, congrArg (Value.int .i64) (Eq.symm (hw _ (by omega) (by omega) (by omega) (by omega) (by omega))), rfl⟩)
 refine B4 ?_
 refine sB (qE rfl rfl) rfl rfl (fun h105 => ?_) (fun h105 => ?_)
 refine J7 ?_
 (exact ⟨rfl, congrArg (Value.int .i64) (Eq.symm (hw _ (by omega) (by omega) (by omega) (by omega) (by omega))), rfl⟩)
 refine B1 ?_
 refine sB (qE rfl rfl) rfl rfl (fun h128 => ?_) (fun h128 => ?_)
 refine J6 ?_
 (exact ⟨rfl, congrArg (Value.int .i64) (Eq.symm (hw _ (by omega) (by omega) (by omega) (by omega) (by omega))), rfl⟩)
 refine K2 ?_
 (exact ⟨rfl, congrArg (Value.int .i64) (Eq.symm (hw _ (by omega) (by omega) (by omega) (by omega) (by omega))), rfl⟩)
theorem B7A {k : Int} {ks : List Tm} (h : P2 k ks = none) : T7 k ks = (E2, 2, A2q k) := A14 h
theorem B7B : ∀ (t : Tm) (G : IM) (cells : List Value), cv t → C5 t = false → N4 t = true → A8 G t cells → Fn Tryz.prog 227 [.agg ⟨cells⟩] [] G (R7 (H3 t)) := by
 refine Tm.ind fun k nm num ty fr lb ks ih G cells hc hv hb hr => ?_
 have hr0 := hr
 have hN := hc.node.1
 have hkk := hc.node.2
 have hkb := (X4.1 hb).2
 have hsm := A2f _ hc
 obtain ⟨_, _, _, _, hksm⟩ := A0F.1 hsm
 have hops := hN.ops
 have hle3 := A1x k
 have hkd := @A5D k nm num ty fr lb ks hc hv
 have hrd := @A7C k nm num ty fr lb ks
 have hkidS := fun (i : Nat) => @A7B k nm num ty fr lb ks i
 have hRA := fun h => @B0s k nm num ty fr lb ks G cells hc h hr
 have hW := fun (G1 : IM) (hle : C2 G G1) => B7z _ G1 cells (hr.mono hle)
 have hCt := B0v _ G _ hr
 rw [show (Tm.mk k nm num ty fr lb ks).k = k from rfl] at hW
 rw [show (Tm.mk k nm num ty fr lb ks).k = k from rfl, show (Tm.mk k nm num ty fr lb ks).ks = ks from rfl] at hCt
 obtain ⟨C, hC⟩ : ∃ C : Nat, (if k = 9 then 1 else ks.length : Nat) = C := ⟨_, rfl⟩
 rw [hC] at hCt hkd hrd
 have hkidS' := fun (i : Nat) (hi : i < ks.length) (hn : i < C) => hkidS i hi (by rw [hC]; exact hn)
 have hC9 : C ≤ ks.length := by rw [← hC]; split; (have : C4 k = 3 := by (rename_i h9; rw [h9]; rfl)); omega; omega
 obtain ⟨tk, tks⟩ := ty
 obtain ⟨fk, fks⟩ := fr
 obtain ⟨pt, ct, pf, cf, p, c, es, rfl, hk, hnum, hlb, hty, hfr, hsl, hkl⟩ := hr.open9
 have hn := hsl.le
 have hnc := hsl.sl.2.1
 refine B7 Tryz.func227 rfl Tryz.ntmps227 Tryz.results227 rfl ?_
 intro w0
 refine A1 ?_
 refine sE (C7 rfl rfl) rfl (fun b3 => ?_)
 refine sE (B0 rfl) rfl (fun b4 => ?_)
 refine A7 ?_
 refine E3 E4 rfl ?_
 refine J5 (i := 0) (l' := [tt,ff,ff,ff,ff,ff,ff]) rfl D7 (B9 rfl) rfl (by kernel_rfl) rfl rfl ?_
 refine aL 1 rfl (D3 rfl rfl) rfl ?_
 refine aL 2 rfl (A4 rfl rfl) rfl ?_
 refine aP 6 rfl (qM rfl) rfl ?_
 refine A3 3 ?_
 refine P4 rfl rfl (hCt) rfl rfl rfl ?_
 refine aP 4 rfl (A6u (l := C) rfl rfl rfl (by omega)) rfl ?_
 refine aP 5 rfl (pLn rfl rfl) rfl ?_
 refine A1 ?_
 refine C0 ?_
 (refine L9 (fun (i : Nat) => ⟨[(19, .int .i64 (i : Int)), (18, .int .i64 (C : Int)), (17, .slice p C c), (1, .pointer (some ⟨b3, 0, none⟩)), (2, .pointer (some ⟨b4, 0, none⟩))], [.blk b4 [.int .i64 0, .string ⟨⟨[]⟩⟩, .int .i64 0, .int .i64 0, .slice none 0 0, .int .i64 0, .slice none 0 0, .int .i64 0, .slice none 0 0], .blk b3 [.int .i64 k, .string nm, .int .i64 num, .int .i64 tk, .slice pt tks.length ct, .int .i64 fk, .slice pf fks.length cf, .int .i64 lb, .slice p ks.length c]], G⟩) (fun i => i ≤ C ∧ ∀ j, j < i → (h : j < ks.length) → C5 ks[j] = true) (fun i => C - i) 0 ?_ ?_ ?_)
 exact D5
 (exact ⟨Nat.zero_le _, fun j hj => absurd hj (Nat.not_lt_zero j)⟩)
 (rintro i ⟨hi, hj⟩)
 refine A1 ?_
 refine sB (K6 rfl rfl) rfl rfl (fun h29 => ?_) (fun h29 => ?_)
 refine B4 ?_
 refine C0 ?_
 refine B6 ?_
 (have hiC : i < C := (by omega); obtain ⟨bx, ox, e, rfl, hl, hat, hre, hgb⟩ := hsl.kidTm hkl (i := i) (by omega) (by omega); have heo := hre.one; have hVi := A5x ks[i] G e hre; refine sP (B8 (j := i) rfl rfl rfl hiC) rfl rfl ?_)
 refine sL (A2 rfl rfl (hat _) hl) rfl rfl ?_
 refine sE (B0 rfl) rfl (fun b43 => ?_)
 refine E8 ?_
 refine sS rfl rfl rfl hl heo rfl ?_ (hu := by exact C9 hl.symm)
 refine B1 ?_
 refine sL (A2 rfl rfl (B2 (by repeat first | exact mH | apply mT)) hl) rfl rfl ?_
 refine E1 rfl (hVi) rfl rfl (fun h52 => ?_) (fun h52 => ?_)
 refine D0 ?_
 refine sP (K5 rfl rfl (by omega) (by omega)) rfl rfl ?_
 refine A1 ?_
 refine L0 (i + 1) ?_ ?_ ?_
 exact D5
 (exact ⟨by omega, fun j hji hl2 => (by by_cases he : j = i; (subst he; assumption); exact hj j (by omega) hl2)⟩)
 (show C - (i + 1) < C - i; omega)
 refine B4 ?_
 refine sL (A2 rfl rfl (B2 (by repeat first | exact mH | apply mT)) hl) rfl rfl ?_
 (have hvF : C5 ks[i] = false := (by assumption); obtain ⟨hs1, hs2, hs3⟩ := hkidS' i (by omega) hiC (fun j hji hl2 => hj j hji hl2) hvF; refine E7 rfl (ih ks[i] (List.getElem_mem (by omega)) G e (hkk _ (List.getElem_mem (by omega))) hvF (hkb _ (List.getElem_mem (by omega))) hre) rfl rfl (fun v G1 hle1 hh => ?_); obtain ⟨u, uc, rfl, hru, hu1⟩ := hh; have hul := hru.len; have huo := hru.one; have hClo := A9T G1 _ ks.length c es (hsl.mono hle1) (by omega) (by omega))
 refine B3 ?_
 refine sE (B0 rfl) rfl (fun b81 => ?_)
 refine sS rfl rfl rfl hul huo rfl ?_ (hu := by exact C9 hul.symm)
 refine B4 ?_
 refine sE (B0 rfl) rfl (fun b90 => ?_)
 refine B4 ?_
 (refine A4N rfl hClo rfl rfl (fun v98 G98 outs98 hle98 h98 => ?_); obtain ⟨hG, p1, c1, rfl, rfl⟩ := h98; replace hG := hG.symm; subst hG; refine A4a (cs := es.flatten) (by repeat (first | exact Pk.here | apply Pk.there)) (by omega) (fun bc Cc hpe hnc1 hcm => ?_); subst hpe)
 replace hru := hru.mono hle98
 refine D8 ?_
 refine sL (A2 rfl rfl (B2 (by repeat first | exact mH | apply mT)) hul) rfl rfl ?_
 refine sP (B8 (j := i) rfl rfl rfl (by omega)) rfl rfl ?_
 refine Y4 rfl rfl rfl hul huo rfl (by repeat first | exact Sw.here | apply Sw.there) (by exact A4b (by rw [hkl.len]; omega) (fun e he => (hsl.all e he)) hul) ?_
 refine O0 ?_
 (refine A23 (bs := [(bc, (es.set i uc).flatten ++ Cc)]) (Pk.perm (by repeat (first | exact Pk.here | apply Pk.there))) (fun hn2 hd2 hle2 => ?_))
 refine A7 ?_
 refine D1 (rC rfl (A4 rfl rfl)) (rT rfl) (rT rfl) ?_
 (have hks2 := D9.set (j := i) ((hkl.mono hle1).mono hle2) (hru.mono hle2); refine A7i (r' := S3) hs1 hs2 (A8.put (us := ks.set i u) (es := es.set i uc) hk hnum hlb ((hty.mono hle1).mono hle2) ((hfr.mono hle1).mono hle2) (by rw [List.length_set]) (D6.of (Sl.of_blk (A := []) (by rw [A1q hks2.all, hks2.len, List.length_set]) (by omega) hcm (Wi.in hn2 List.mem_cons_self)) (by rw [hks2.len, List.length_set]) hks2.all (fun e he => by obtain ⟨q, hq⟩ := List.getElem?_of_mem he; exact (hks2.inv hq E2).2.one)) hks2) (fun h1 => by rw [hs3 h1, hu1 h1]))
 refine O0 ?_
 focus (have hall : ∀ i, i < C → (hl : i < ks.length) → C5 ks[i] = true := (fun j hjc hl2 => hj j (by omega) hl2); have hk8 := hkd hall; have hrd' := hrd hall; refine E7 rfl (hRA hk8) rfl rfl (fun v G1 hle1 hh => ?_); obtain ⟨u, uc, cc, rfl, hru, hy, hno⟩ := hh; have hul := hru.len; have huo := hru.one; rcases hm : P2 k ks with _ | x; rotate_left; obtain ⟨rfl, rfl⟩ := hy _ hm; rotate_left; obtain rfl := hno hm)
 refine B6 ?_
 refine sE (B0 rfl) rfl (fun b148 => ?_)
 refine sS rfl rfl rfl hul huo rfl ?_ (hu := by exact C9 hul.symm)
 refine B4 ?_
 refine sP (A0w rfl rfl (by omega)) rfl rfl ?_
 refine B4 ?_
 refine I3 rfl ((hW _ hle1)) rfl rfl ?_
 refine B4 ?_
 refine D1 (rC rfl (A4 rfl rfl)) (rT rfl) (rT rfl) ?_
 (rw [hrd', B7A hm]; exact R7.mk rfl (M1 _))
 refine B6 ?_
 refine sE (B0 rfl) rfl (fun b178 => ?_)
 refine sS rfl rfl rfl hul huo rfl ?_ (hu := by exact C9 hul.symm)
 refine B4 ?_
 refine sP (A1O rfl rfl (by omega)) rfl rfl ?_
 refine B4 ?_
 refine sL (A2 rfl rfl (B2 (by repeat first | exact mH | apply mT)) hul) rfl rfl ?_
 refine E8 ?_
 refine sS rfl rfl rfl hul huo rfl ?_ (hu := by exact C9 hul.symm)
 refine B1 ?_
 refine D1 (rC rfl (A2 rfl rfl (B2 (by repeat first | exact mH | apply mT)) hul)) (rT rfl) (rT rfl) ?_
 (rw [hrd', A1k hm]; exact R7.mk rfl hru)
theorem B7C (t : Tm) (G : IM) (cells : List Value) (hr : A8 G t cells) : Fn Tryz.prog 189 [.agg ⟨cells⟩] [] G (K9 (F0 t)) := by
 have hRl := hr.len
 have hRo := hr.one
 have hV := B1E t G cells hr
 have hI := A5x t G cells hr
 refine B7 Tryz.func189 rfl Tryz.ntmps189 Tryz.results189 rfl ?_
 intro w0
 refine A1 ?_
 refine sE (C7 rfl rfl) rfl (fun b3 => ?_)
 refine sE (B0 rfl) rfl (fun b4 => ?_)
 refine B1 ?_
 refine C0 ?_
 refine A1 ?_
 refine sL (A2 rfl rfl (B2 (by repeat first | exact mH | apply mT)) hRl) rfl rfl ?_
 refine E1 rfl (hV) rfl rfl (fun h14 => ?_) (fun h14 => ?_)
 refine B4 ?_
 refine sL (A2 rfl rfl (B2 (by repeat first | exact mH | apply mT)) hRl) rfl rfl ?_
 refine E1 rfl (hI) rfl rfl (fun h23 => ?_) (fun h23 => ?_)
 refine A7 ?_
 refine sL (A2 rfl rfl (B2 (by repeat first | exact mH | apply mT)) hRl) rfl rfl ?_
 (refine E7 rfl (A27 t G cells (A3n (A01 (by assumption)).1) hr) rfl rfl (fun v G1 hle1 hh => ?_); obtain ⟨T8, F1, rfl, hs1, hn1⟩ := hh; have hul := hs1.R.len; have huo := hs1.R.one)
 refine sS rfl rfl rfl hul huo rfl ?_ (hu := by exact C9 hul.symm)
 refine B4 ?_
 refine D1 (rC rfl (A2 rfl rfl (B2 (by repeat first | exact mH | apply mT)) hul)) (rT rfl) (rT rfl) ?_
 (exact K9.mk (A4n (by assumption) (by assumption)) (hs1.R.mono (C8.le _ _)))
 refine D8 ?_
 refine sL (A2 rfl rfl (B2 (by repeat first | exact mH | apply mT)) hRl) rfl rfl ?_
 (have hbv := A01 (e := t) (by assumption); refine E7 rfl (B7B t G cells (A0Z hbv.1).1 (by assumption) hbv.2 hr) rfl rfl (fun v G1 hle1 hh => ?_); obtain ⟨u, uc, rfl, hru, hu1⟩ := hh; have hul := hru.len; have huo := hru.one; have hVu := B1E u G1 uc hru)
 refine B3 ?_
 refine sE (B0 rfl) rfl (fun b57 => ?_)
 refine sS rfl rfl rfl hul huo rfl ?_ (hu := by exact C9 hul.symm)
 refine B1 ?_
 refine C0 ?_
 refine B6 ?_
 refine sB (N7 rfl rfl) rfl rfl (fun h68 => ?_) (fun h68 => ?_)
 refine V3 ?_
 refine D1 (rC rfl (A4 rfl rfl)) (rT rfl) (rT rfl) ?_
 (exact K9.mk (A5H (by assumption) (by assumption) (by omega)) (M1 _))
 refine A7 ?_
 refine sL (A2 rfl rfl (B2 (by repeat first | exact mH | apply mT)) hul) rfl rfl ?_
 refine E1 rfl (hVu) rfl rfl (fun h95 => ?_) (fun h95 => ?_)
 refine J2 ?_
 refine sL (A2 rfl rfl (B2 (by repeat first | exact mH | apply mT)) hul) rfl rfl ?_
 (refine E7 rfl (A27 u G1 uc (A3n (A01 (by assumption)).1) hru) rfl rfl (fun v G2 hle2 hh => ?_); obtain ⟨cs2, F2, rfl, hs2, hn2⟩ := hh; have hwl := hs2.R.len; have hwo := hs2.R.one)
 refine sS rfl rfl rfl hwl hwo rfl ?_ (hu := by exact C9 hwl.symm)
 refine B1 ?_
 refine D1 (rC rfl (A2 rfl rfl (B2 (by repeat first | exact mH | apply mT)) hwl)) (rT rfl) (rT rfl) ?_
 (have h9 := hu1 (by omega); subst h9; exact K9.mk (A4p (by assumption) (by assumption) (by omega) (by assumption)) (hs2.R.mono (C8.le _ _)))
 refine J7 ?_
 refine D1 (rC rfl (A4 rfl rfl)) (rT rfl) (rT rfl) ?_
 (have h9 := hu1 (by omega); subst h9; exact K9.mk (A4o (by assumption) (by assumption) (by omega) (by assumption)) (M1 _))
 refine J7 ?_
 refine D1 (rC rfl (A4 rfl rfl)) (rT rfl) (rT rfl) ?_
 (exact K9.mk (A5G (by assumption)) (M1 _))
theorem B7D {t : Ty} (ha : F4 t) : W8 t = .mk t.k (List.replicate t.ks.length K1) := by
 obtain ⟨k, ks⟩ := t
 rw [F4] at ha
 show (if k = 4 ∨ k = 5 then Ty.mk k [K1, K1] else .mk k []) = _
 show _ = Ty.mk k (List.replicate ks.length K1)
 split
 ·rename_i h; rw [ha.1 h]; rfl
 ·rename_i h
  rw [ha.2.1 (fun e => h (.inl e)) (fun e => h (.inr e))]; rfl
theorem B7E (t : Ty) (G : IM) (cells : List Value) (ha : F4 t) (hr : C3 G t cells) : Fn Tryz.prog 217 [.agg ⟨cells⟩] [] G (A6Y (W8 t) G) := by
 rw [B7D ha]
 obtain ⟨tk, tks⟩ := t
 have hsm := ha.small
 rw [Ty.small] at hsm
 obtain ⟨hsm1, _⟩ := hsm
 obtain ⟨p, c, es, rfl, hk, hsl, hkl⟩ := hr.open
 simp only [Ty.k, Ty.ks] at hk hsl hkl ⊢
 have hn := hsl.le
 refine B7 Tryz.func217 rfl Tryz.ntmps217 Tryz.results217 rfl ?_
 intro w0
 refine A1 ?_
 refine sE (C7 rfl rfl) rfl (fun b3 => ?_)
 refine sE (B0 rfl) rfl (fun b4 => ?_)
 refine B4 ?_
 refine sE (B0 rfl) rfl (fun b12 => ?_)
 refine D8 ?_
 refine C0 ?_
 (refine V7 25 2 ?_; refine L9 (fun (x : Nat × Option Addr × Nat × List (List Value)) => ⟨[(4, .int .i64 x.1), (3, .pointer (some ⟨b12, 0, none⟩)), (1, .pointer (some ⟨b3, 0, none⟩)), (2, .pointer (some ⟨b4, 0, none⟩))], [.blk b12 [.int .i64 tk, .slice x.2.1 x.1 x.2.2.1], .slc x.2.1 x.2.2.1 25 2 x.1 x.2.2.2.flatten, .blk b4 [.int .i64 0, .slice none 0 0], .blk b3 [.int .i64 tk, .slice p tks.length c]], G⟩) (fun x => x.1 ≤ tks.length ∧ H0 G (List.replicate x.1 K1) x.2.2.2) (fun x => tks.length - x.1) (0, none, 0, []) ?_ ?_ ?_)
 (simp only [I7]; exact D5)
 (exact ⟨Nat.zero_le _, rfl⟩)
 (rintro ⟨i, pn, cn, es'⟩ ⟨hi, hst⟩; simp only [] at hi hst ⊢; have hsl' := hst.len; rw [List.length_replicate] at hsl')
 refine B4 ?_
 refine sB (K6 rfl rfl) rfl rfl (fun h34 => ?_) (fun h34 => ?_)
 refine A7 ?_
 refine C0 ?_
 refine E3 E4 rfl ?_
 refine J5 (i := 0) (l' := [tt,ff,ff,ff,ff,ff,ff]) rfl D7 (B9 rfl) rfl (by kernel_rfl) rfl rfl ?_
 refine aL 1 rfl (D3 rfl rfl) rfl ?_
 refine A3 2 ?_
 refine P4 rfl rfl ((A1v _)) rfl rfl rfl ?_
 refine A3 3 ?_
 (refine E6 rfl (D4 rfl rfl rfl (by omega) (by unfold maxLen; omega) rfl) rfl rfl ?_; rintro _ ⟨b48, rfl⟩)
 refine A3 4 ?_
 refine R5 rfl rfl rfl rfl rfl rfl (fun _ _ => by repeat (first | exact Sw.here | apply Sw.there)) (P3 (by repeat first | exact mH | apply mT)) rfl (by simp [Value.oneCell']) (by unfold maxLen; omega) (by omega) rfl rfl (by repeat (first | exact A9.nil | apply A9.dep (by decide +kernel) | apply A9.im (by decide +kernel) (by assumption) (by repeat first | exact mH | apply mT) | apply A9.blk (by decide +kernel) (by repeat (first | exact Pk.here | apply Pk.there)) (by repeat first | exact mH | apply mT) | apply A9.slc (by decide +kernel) (by repeat (first | exact Pk.here | apply Pk.there)) (by repeat first | exact mH | apply mT))) (fun pn' cn' => ?_)
 refine aP 5 rfl (B9 rfl) rfl ?_
 refine A3 6 ?_
 refine R2 rfl rfl rfl rfl rfl rfl rfl rfl (by decide +kernel) (by repeat first | exact Sw.here | apply Sw.there) (by rfl) ?_
 refine B1 ?_
 refine sP (K5 rfl rfl (by omega) (by omega)) rfl rfl ?_
 refine A1 ?_
 refine L0 (i + 1, pn', cn', es' ++ [[.int .i64 1, .slice none 0 0]]) ?_ ?_ ?_
 (simp only [I7]; exact D5)
 (dsimp only; exact ⟨by omega, by rw [List.replicate_succ']; exact H0.snoc hst (A0N _)⟩)
 (show tks.length - (i + 1) < tks.length - i; omega)
 refine K2 ?_
 (refine I5 (cs := es'.flatten) (by repeat (first | exact Pk.here | apply Pk.there)) (fun G2 hle2 hsl2 hno2 => ?_); obtain rfl : i = tks.length := (by omega))
 refine tT ?_
 refine L3 (rC rfl (A4 rfl rfl)) ?_
 (exact ⟨rfl, _, rfl, (hst.mono hle2).ty (by simp) hsl2 hk⟩)
theorem B7F (t : Ty) (G : IM) (cells : List Value) (ha : F4 t) (hr : C3 G t cells) : Fn Tryz.prog 168 [.agg ⟨cells⟩] [] G (H8 (.bool (S2 t)) G) := by
 refine Fn.forget (post := M9 fun _ v => v = .bool (S2 t)) ?_ (fun _ _ _ h => h.2)
 have hr0 := hr
 have hG := B7E t G cells ha hr
 obtain ⟨tk, tks⟩ := t
 obtain ⟨p, c, es, rfl, hk, _⟩ := hr.open
 simp only [Ty.k, Ty.ks] at hk hr0 hG ⊢
 have hd : S2 (.mk tk tks) = (decide (tk ≠ 1) && N5 (.mk tk tks) (W8 (.mk tk tks))) := rfl
 rw [hd]
 generalize W8 (.mk tk tks) = g at hG ⊢
 refine B7 Tryz.func168 rfl Tryz.ntmps168 Tryz.results168 rfl ?_
 intro w0
 refine A1 ?_
 refine sE (C7 rfl rfl) rfl (fun b3 => ?_)
 refine B3 ?_
 refine E3 E4 rfl ?_
 refine J5 (i := 0) (l' := [tt,ff,ff,ff,ff,ff,ff,ff,ff,ff]) rfl D7 (B9 rfl) rfl (by kernel_rfl) rfl rfl ?_
 refine aL 1 rfl (D3 rfl rfl) rfl ?_
 refine A0Q (i := 2) (l' := [tt,tt,tt,ff,ff,ff,ff,ff,ff,ff]) rfl D7 (N7 rfl rfl) rfl (by kernel_rfl) rfl rfl (fun h11 => ?_) (fun h11 => ?_)
 refine aP 3 rfl (qM rfl) rfl ?_
 refine aL 4 rfl (A4 rfl rfl) rfl ?_
 refine aL 5 rfl (A4 rfl rfl) rfl ?_
 refine A3 6 ?_
 (refine K4 rfl rfl hG rfl rfl rfl (fun v G1 hle1 hh => ?_); obtain ⟨cg, rfl, hrg⟩ := hh; have hT := B67 (.mk tk tks) g G1 _ _ (hr0.mono hle1) hrg; obtain ⟨pg, cgg, eg, rfl, _⟩ := hrg.open)
 refine A3 7 ?_
 refine P4 rfl rfl (hT) rfl rfl rfl ?_
 refine aP 8 rfl (O4 rfl rfl) rfl ?_
 refine aP 9 rfl (qA rfl) rfl ?_
 refine B3 ?_
 (refine ⟨rfl, ?_⟩; show Value.bool _ = Value.bool _; rw [decide_eq_true (by omega), Bool.true_and])
 refine aP 3 rfl (qM rfl) rfl ?_
 refine C1 4 rfl rfl rfl ?_
 refine C1 5 rfl rfl rfl ?_
 refine C1 6 rfl rfl rfl ?_
 refine C1 7 rfl rfl rfl ?_
 refine aP 8 rfl (R0 rfl rfl) rfl ?_
 refine aP 9 rfl (qA rfl) rfl ?_
 refine B3 ?_
 (refine ⟨rfl, ?_⟩; show Value.bool _ = Value.bool _; rw [decide_eq_false (by omega), Bool.false_and])
theorem B1F (t : Tm) (G : IM) (cells : List Value) (hr : A8 G t cells) : Fn Tryz.prog 121 [.agg ⟨cells⟩] [] G (H8 (.bool (Q1 t)) G) := by
 obtain ⟨k, nm, num, ⟨tk, tks⟩, ⟨fk, fks⟩, lb, ks⟩ := t
 obtain ⟨pt, ct, pf, cf, p, c, es, rfl, hk, hnum, hlb, hty, hfr, hsl, hkl⟩ := hr.open9
 have hd : Q1 (.mk k nm num (.mk tk tks) (.mk fk fks) lb ks) = decide (k = 14 ∧ fk = tk ∧ (tk = 4 ∨ tk = 5)) := rfl
 rw [hd]
 refine B7 Tryz.func121 rfl Tryz.ntmps121 Tryz.results121 rfl ?_
 intro w0
 refine A1 ?_
 refine sE (C7 rfl rfl) rfl (fun b3 => ?_)
 refine B4 ?_
 refine sB (qE rfl rfl) rfl rfl (fun h11 => ?_) (fun h11 => ?_)
 refine B4 ?_
 refine sB (qE rfl rfl) rfl rfl (fun h19 => ?_) (fun h19 => ?_)
 refine B1 ?_
 refine sB (qE rfl rfl) rfl rfl (fun h25 => ?_) (fun h25 => ?_)
 refine O0 ?_
 (exact ⟨rfl, by rw [decide_eq_true (by omega)], rfl⟩)
 refine B3 ?_
 refine sB (qE rfl rfl) rfl rfl (fun h43 => ?_) (fun h43 => ?_)
 refine B4 ?_
 (exact ⟨rfl, by rw [decide_eq_true (by omega)], rfl⟩)
 refine B4 ?_
 (exact ⟨rfl, by rw [decide_eq_false (by omega)], rfl⟩)
 refine V9 ?_
 (exact ⟨rfl, by rw [decide_eq_false (by omega)], rfl⟩)
 refine A4Q ?_
 (exact ⟨rfl, by rw [decide_eq_false (by omega)], rfl⟩)
theorem B1G (t : Tm) (G : IM) (cells : List Value) (ha : F4 t.fr) (hr : A8 G t cells) : Fn Tryz.prog 122 [.agg ⟨cells⟩] [] G (H8 (.bool (inj t)) G) := by
 obtain ⟨k, nm, num, ⟨tk, tks⟩, ⟨fk, fks⟩, lb, ks⟩ := t
 obtain ⟨pt, ct, pf, cf, p, c, es, rfl, hk, hnum, hlb, hty, hfr, hsl, hkl⟩ := hr.open9
 have hd : inj (.mk k nm num (.mk tk tks) (.mk fk fks) lb ks) = (decide (k = 14 ∧ tk = 1) && S2 (.mk fk fks)) := rfl
 rw [hd]
 have hG := B7F (.mk fk fks) G _ ha hfr
 refine B7 Tryz.func122 rfl Tryz.ntmps122 Tryz.results122 rfl ?_
 intro w0
 refine A1 ?_
 refine sE (C7 rfl rfl) rfl (fun b3 => ?_)
 refine B4 ?_
 refine sB (qE rfl rfl) rfl rfl (fun h11 => ?_) (fun h11 => ?_)
 refine B3 ?_
 refine sB (qE rfl rfl) rfl rfl (fun h16 => ?_) (fun h16 => ?_)
 refine B3 ?_
 refine I3 rfl (hG) rfl rfl ?_
 refine A7 ?_
 (exact ⟨rfl, by rw [decide_eq_true (by omega), Bool.true_and], rfl⟩)
 refine J4 ?_
 (exact ⟨rfl, by rw [decide_eq_false (by omega), Bool.false_and], rfl⟩)
 refine J7 ?_
 (exact ⟨rfl, by rw [decide_eq_false (by omega), Bool.false_and], rfl⟩)
section
variable {k : Int} {nm : ByteArray} {num : Int} {ty fr : Ty} {lb : Int} {ks : List Tm}
theorem B7G (h : k = 2 ∨ k = 3 ∨ k = 4 ∨ k = 5) : C5 (.mk k nm num ty fr lb ks) = true := by
 rw [C5, if_neg (by omega)]; exact decide_eq_true h
theorem B7H (h : k = 10) (hl : ks.length = 2) : C5 (.mk k nm num ty fr lb ks) = (C5 (ks[0]'(by omega)) && C5 (ks[1]'(by omega))) := by
 rw [A3k (.inl h)]
 obtain ⟨a, b, rfl⟩ := ks2 hl
 simp
theorem B1H (h : Q1 (.mk k nm num ty fr lb ks) = true ∨ inj (.mk k nm num ty fr lb ks) = true) (hl : ks.length = 1) : C5 (.mk k nm num ty fr lb ks) = C5 (ks[0]'(by omega)) := by
 rw [A3k (.inr h)]
 obtain ⟨a, rfl⟩ := Z7 hl
 simp
theorem B7I (h : ¬(k = 2 ∨ k = 3 ∨ k = 4 ∨ k = 5)) (h10 : k ≠ 10) (h2 : Q1 (.mk k nm num ty fr lb ks) = false) (h3 : inj (.mk k nm num ty fr lb ks) = false) : C5 (.mk k nm num ty fr lb ks) = false := by
 rw [A5w h10 h2 h3]; exact decide_eq_false h
theorem B7J (h : Q1 (.mk k nm num ty fr lb ks) = true ∨ inj (.mk k nm num ty fr lb ks) = true) : k = 14 := by
 rcases h with h | h
 ·exact (prx_spec' h)
 ·exact A5A h
where
 prx_spec' {k : Int} {nm : ByteArray} {num : Int} {ty fr : Ty} {lb : Int} {ks : List Tm} (h : Q1 (.mk k nm num ty fr lb ks) = true) : k = 14 := by rw [A1j] at h; exact (of_decide_eq_true h).1
end
theorem A7O : ∀ (t : Tm) (G : IM) (cells : List Value), cv t → A8 G t cells → Fn Tryz.prog 52 [.agg ⟨cells⟩] [] G (H8 (.bool (C5 t)) G) := by
 refine Tm.ind fun k nm num ty fr lb ks ih G cells hc hr => ?_
 obtain ⟨hN, hkk⟩ := hc.node
 have hop := hN.ops
 have h10 : k = 10 → ks.length = 2 := fun h => by rw [h] at hop; have : C4 10 = 2 := rfl; omega
 have h14 : k = 14 → ks.length = 1 := fun h => by rw [h] at hop; have : C4 14 = 1 := rfl; omega
 have hP := B1F _ G _ hr
 have hI := B1G (.mk k nm num ty fr lb ks) G _ hN.frA hr
 have e1 := @B7G k nm num ty fr lb ks
 have e2 := @B7H k nm num ty fr lb ks
 have e3 := @B1H k nm num ty fr lb ks
 have e4 := @B7I k nm num ty fr lb ks
 have e5 := @B7J k nm num ty fr lb ks
 generalize hpx : Q1 (.mk k nm num ty fr lb ks) = bp at hP e3 e4 e5
 generalize hij : inj (.mk k nm num ty fr lb ks) = bi at hI e3 e4 e5
 generalize C5 (.mk k nm num ty fr lb ks) = R at e1 e2 e3 e4 ⊢
 obtain ⟨tk, tks⟩ := ty
 obtain ⟨fk, fks⟩ := fr
 obtain ⟨pt, ct, pf, cf, p, c, es, rfl, hk, hnum, hlb, hty, hfr, hsl, hkl⟩ := hr.open9
 refine B7 Tryz.func52 rfl Tryz.ntmps52 Tryz.results52 rfl ?_
 intro w0
 refine A1 ?_
 refine sE (C7 rfl rfl) rfl (fun b3 => ?_)
 refine J2 ?_
 refine C0 (tS (tS (tR (sB (qE rfl rfl) rfl rfl (fun h18 => ?_) (fun h18 => ?_)))))
 refine J7 ?_
 (exact ⟨rfl, by rw [e1 (by omega)], rfl⟩)
 refine A7 ?_
 refine sB (qE rfl rfl) rfl rfl (fun h42 => ?_) (fun h42 => ?_)
 refine J7 ?_
 (exact ⟨rfl, by rw [e1 (by omega)], rfl⟩)
 refine A7 ?_
 refine sB (qE rfl rfl) rfl rfl (fun h66 => ?_) (fun h66 => ?_)
 refine J7 ?_
 (exact ⟨rfl, by rw [e1 (by omega)], rfl⟩)
 refine B1 ?_
 refine sB (qE rfl rfl) rfl rfl (fun h89 => ?_) (fun h89 => ?_)
 refine J6 ?_
 (exact ⟨rfl, by rw [e1 (by omega)], rfl⟩)
 refine A7 ?_
 refine sB (qE rfl rfl) rfl rfl (fun h110 => ?_) (fun h110 => ?_)
 refine D0 ?_
 (have hl2 := h10 (by omega); obtain ⟨bx, ox, e, rfl, hl, hat, hre, hgb⟩ := hsl.kidTm hkl (i := 0) (by omega) (by omega); have hih := ih ks[0] (List.getElem_mem (by omega)) G e (hkk _ (List.getElem_mem (by omega))) hre; obtain ⟨_, _, e', hp', hl', hat', hre', hgb'⟩ := hsl.kidTm hkl (i := 1) (by omega) (by omega); cases hp'; have hih' := ih ks[1] (List.getElem_mem (by omega)) G e' (hkk _ (List.getElem_mem (by omega))) hre'; refine sP (B8 (j := 0) rfl rfl rfl (by omega)) rfl rfl ?_)
 refine sL (A2 rfl rfl (hat _) hl) rfl rfl ?_
 refine E1 rfl (hih) rfl rfl (fun h121 => ?_) (fun h121 => ?_)
 refine B6 ?_
 refine sP (B8 (j := 1) rfl rfl rfl (by omega)) rfl rfl ?_
 refine sL (A2 rfl rfl (hat' _) hl') rfl rfl ?_
 refine E1 rfl (hih') rfl rfl (fun h127 => ?_) (fun h127 => ?_)
 refine D0 ?_
 (exact ⟨rfl, by rw [e2 (by omega) hl2]; simp [*], rfl⟩)
 refine D0 ?_
 (exact ⟨rfl, by rw [e2 (by omega) hl2]; simp [*], rfl⟩)
 refine K2 ?_
 (exact ⟨rfl, by rw [e2 (by omega) hl2]; simp [*], rfl⟩)
 refine J2 ?_
 refine E1 rfl (hP) rfl rfl (fun h171 => ?_) (fun h171 => ?_)
 refine B4 ?_
 (have hl1 := h14 (by first | exact e5 (.inl (by assumption)) | exact e5 (.inr (by assumption))); obtain ⟨bx, ox, e, rfl, hl, hat, hre, hgb⟩ := hsl.kidTm hkl (i := 0) (by omega) (by omega); have hih := ih ks[0] (List.getElem_mem (by omega)) G e (hkk _ (List.getElem_mem (by omega))) hre; refine sP (B8 (j := 0) rfl rfl rfl (by omega)) rfl rfl ?_)
 refine sL (A2 rfl rfl (hat _) hl) rfl rfl ?_
 refine E1 rfl (hih) rfl rfl (fun h181 => ?_) (fun h181 => ?_)
 refine A7 ?_
 (exact ⟨rfl, by rw [e3 (by first | exact .inl (by assumption) | exact .inr (by assumption)) hl1]; simp [*], rfl⟩)
 refine A7 ?_
 (exact ⟨rfl, by rw [e3 (by first | exact .inl (by assumption) | exact .inr (by assumption)) hl1]; simp [*], rfl⟩)
 refine A1 ?_
 refine E1 rfl (hI) rfl rfl (fun h198 => ?_) (fun h198 => ?_)
 refine B3 ?_
 (have hl1 := h14 (by first | exact e5 (.inl (by assumption)) | exact e5 (.inr (by assumption))); obtain ⟨bx, ox, e, rfl, hl, hat, hre, hgb⟩ := hsl.kidTm hkl (i := 0) (by omega) (by omega); have hih := ih ks[0] (List.getElem_mem (by omega)) G e (hkk _ (List.getElem_mem (by omega))) hre; refine sP (B8 (j := 0) rfl rfl rfl (by omega)) rfl rfl ?_)
 refine sL (A2 rfl rfl (hat _) hl) rfl rfl ?_
 refine E1 rfl (hih) rfl rfl (fun h205 => ?_) (fun h205 => ?_)
 refine A7 ?_
 (exact ⟨rfl, by rw [e3 (by first | exact .inl (by assumption) | exact .inr (by assumption)) hl1]; simp [*], rfl⟩)
 refine A7 ?_
 (exact ⟨rfl, by rw [e3 (by first | exact .inl (by assumption) | exact .inr (by assumption)) hl1]; simp [*], rfl⟩)
 refine J6 ?_
 (exact ⟨rfl, by rw [e4 (by omega) (by omega) (by assumption) (by assumption)], rfl⟩)
theorem B7K (G : IM) : Fn Tryz.prog 267 [.bool true] [] G (P9 (W3 (true = true))) := by
 refine B7 Tryz.func267 rfl Tryz.ntmps267 Tryz.results267 rfl ?_
 intro w0
 refine A1 ?_
 refine sE (B0 rfl) rfl (fun b3 => ?_)
 refine V3 ?_
 refine L3 (rC rfl (A4 rfl rfl)) ?_
 (exact P9.mk (A5y _ ⟨by decide, by decide⟩))
theorem B7L (G : IM) : Fn Tryz.prog 267 [.bool false] [] G (P9 (W3 (false = true))) := by
 refine B7 Tryz.func267 rfl Tryz.ntmps267 Tryz.results267 rfl ?_
 intro w0
 refine A1 ?_
 refine sE (B0 rfl) rfl (fun b3 => ?_)
 refine V9 ?_
 refine L3 (rC rfl (A4 rfl rfl)) ?_
 (exact P9.mk (A5y _ ⟨by decide, by decide⟩))
theorem B1I (b : Bool) (G : IM) : Fn Tryz.prog 267 [.bool b] [] G (P9 (W3 (b = true))) := by
 cases b
 ·exact B7L G
 ·exact B7K G
theorem B7M (y : ByteArray) (v : Tm) (vc : List Value) (hvs : v.small) : ∀ (t : Tm) (G : IM) (cells : List Value), t.small → A8 G t cells → A8 G v vc → Fn Tryz.prog 262 [.agg ⟨cells⟩, .string y, .agg ⟨vc⟩] [] G (P9 (R3 y v t)) := by
 refine Tm.ind fun k nm num ty fr lb ks ih G cells hts hr hv => ?_
 have hr0 := hr
 have hts0 := hts
 obtain ⟨_, htsm, hfsm, hsm, hks⟩ := A0F.1 hts
 have hvl := hv.len
 have hvo := hv.one
 have hRl := hr.len
 have hRo := hr.one
 rw [R3]
 have hCv := A35 v G vc hvs hv
 have hCt := A35 _ G cells hts0 hr0
 obtain ⟨tk, tks⟩ := ty
 obtain ⟨fk, fks⟩ := fr
 obtain ⟨pt, ct, pf, cf, p, c, es, rfl, hk, hnum, hlb, hty, hfr, hsl, hkl⟩ := hr.open9
 have hn := hsl.le
 refine B7 Tryz.func262 rfl Tryz.ntmps262 Tryz.results262 rfl ?_
 intro w0
 refine A1 ?_
 refine sE (C7 rfl rfl) rfl (fun b3 => ?_)
 refine sE (C7 rfl rfl) rfl (fun b4 => ?_)
 refine sE (B0 rfl) rfl (fun b5 => ?_)
 refine B4 ?_
 refine sB (qE rfl rfl) rfl rfl (fun h13 => ?_) (fun h13 => ?_)
 refine B3 ?_
 refine sB (A1p rfl rfl) rfl rfl (fun h18 => ?_) (fun h18 => ?_)
 refine A7 ?_
 refine sL (A2 rfl rfl (B2 (by repeat first | exact mH | apply mT)) hvl) rfl rfl ?_
 (refine E7 rfl hCv rfl rfl (fun v9 G1 hle1 hh => ?_); obtain ⟨uc, F1, rfl, hs1, hn1⟩ := hh; have hru := hs1.R.mono (C8.le G1 G); have hul := hru.len; have huo := hru.one)
 refine sS rfl rfl rfl hul huo rfl ?_ (hu := by exact C9 hul.symm)
 refine B3 ?_
 refine L3 (rC rfl (A2 rfl rfl (B2 (by repeat first | exact mH | apply mT)) hul)) ?_
 (rw [if_pos (by refine ⟨by omega, by assumption⟩)]; exact P9.mk hru)
 refine J4 ?_
 refine sP (H7 rfl rfl (by omega)) rfl rfl ?_
 refine K2 ?_
 refine sE (B0 rfl) rfl (fun b60 => ?_)
 refine B4 ?_
 (refine E7 rfl (W7 (.mk tk tks) _ _ htsm hty) rfl rfl (fun v9 G1 hle1 hh => ?_); obtain ⟨T8, F1, rfl, hs1, hn1⟩ := hh; obtain ⟨q1, c1, rfl, _⟩ := hs1.open; have hC2 := W7 (.mk fk fks) G1 _ hfsm (hfr.mono hle1))
 refine D0 ?_
 (refine E7 rfl hC2 rfl rfl (fun v9 G2 hle2 hh => ?_); obtain ⟨cs2, F2, rfl, hs2, hn2⟩ := hh; obtain ⟨q2, c2, rfl, _⟩ := hs2.open; have hty1 := hs1.R.mono ((C8.le G1 _).trans hle2); have hfr1 := hs2.R.mono (C8.le G2 G1); have hle12 := hle1.trans hle2; replace hsl := hsl.mono hle12; replace hkl := hkl.mono hle12; replace hv := hv.mono hle12)
 refine J7 ?_
 refine C0 ?_
 (refine V7 28 9 ?_; refine L9 (fun (x : Nat × Option Addr × Nat × List (List Value) × IM) => ⟨[(8, .int .i64 x.1), (1, .string y), (3, .pointer (some ⟨b3, 0, none⟩)), (5, .pointer (some ⟨b4, 0, none⟩)), (6, .pointer (some ⟨b5, 0, none⟩)), (7, .pointer (some ⟨b60, 0, none⟩))], [.blk b60 [.int .i64 k, .string nm, .int .i64 num, .int .i64 tk, .slice q1 tks.length c1, .int .i64 fk, .slice q2 fks.length c2, .int .i64 lb, .slice x.2.1 x.1 x.2.2.1], .slc x.2.1 x.2.2.1 28 9 x.1 x.2.2.2.1.flatten, .blk b5 [.int .i64 0, .string ⟨⟨[]⟩⟩, .int .i64 0, .int .i64 0, .slice none 0 0, .int .i64 0, .slice none 0 0, .int .i64 0, .slice none 0 0], .blk b4 vc, .blk b3 [.int .i64 k, .string nm, .int .i64 num, .int .i64 tk, .slice pt tks.length ct, .int .i64 fk, .slice pf fks.length cf, .int .i64 lb, .slice p ks.length c]], x.2.2.2.2⟩) (fun x => x.1 ≤ ks.length ∧ C2 G2 x.2.2.2.2 ∧ D9 x.2.2.2.2 ((Q2 y v ks).take x.1) x.2.2.2.1) (fun x => ks.length - x.1) (0, none, 0, [], G2) ?_ ?_ ?_)
 (simp only [I7]; exact D5)
 (exact ⟨Nat.zero_le _, C2.refl _, by simp [D9]⟩)
 (rintro ⟨i, pn, cn, es', Gi⟩ ⟨hi, hle, hst⟩; simp only [] at hi hle hst ⊢; replace hsl := hsl.mono hle; replace hkl := hkl.mono hle; replace hv := hv.mono hle; replace hty1 := hty1.mono hle; replace hfr1 := hfr1.mono hle; have hsl' := hst.len; rw [List.length_take, Z5] at hsl')
 refine B4 ?_
 refine sB (K6 rfl rfl) rfl rfl (fun h106 => ?_) (fun h106 => ?_)
 refine A7 ?_
 refine C0 ?_
 (have hil : i < ks.length := (by omega); obtain ⟨bx, ox, e, rfl, hl, hat, hre, hgb⟩ := hsl.kidTm hkl (i := i) (by omega) (by omega); have hel := hre.len; have heo := hre.one; refine E3 E4 rfl ?_)
 refine Q9 (i := 8) (l' := [ff,ff,ff,ff,ff,ff,ff,ff,tt,ff,ff,ff,ff,ff]) rfl D7 (A2 rfl rfl (B2 (by repeat first | exact mH | apply mT)) hvl) rfl (by kernel_rfl) rfl rfl ?_
 refine aP 0 rfl (B9 rfl) rfl ?_
 refine aL 1 rfl (D3 rfl rfl) rfl ?_
 refine aP 2 rfl (B9 rfl) rfl ?_
 refine aL 3 rfl (D3 rfl rfl) rfl ?_
 refine aP 4 rfl (qM rfl) rfl ?_
 refine aP 5 rfl (B8 (j := i) rfl rfl rfl (by omega)) rfl ?_
 refine aL 6 rfl (A2 rfl rfl (hat _) hl) rfl ?_
 refine aP 7 rfl (qM rfl) rfl ?_
 refine A3 9 ?_
 (refine K4 rfl rfl (ih ks[i] (List.getElem_mem (by omega)) Gi _ (Tm.smallL_mem hks _ (List.getElem_mem (by omega))) hre hv) rfl rfl rfl (fun u G3 hle3 hh => ?_); obtain ⟨uc, rfl, hru⟩ := hh; have hul := hru.len; have huo := hru.one; obtain ⟨v1, v2, v3, v4, v5, v6, v7, v8, v9, rfl⟩ := nine hul)
 refine A3 10 ?_
 (refine E6 rfl (D4 rfl rfl rfl (by omega) (by unfold maxLen; omega) rfl) rfl rfl ?_; rintro _ ⟨b127, rfl⟩)
 refine A3 11 ?_
 (refine R5 rfl rfl rfl rfl rfl rfl (fun _ _ => by repeat (first | exact Sw.here | apply Sw.there)) (P3 (by repeat first | exact mH | apply mT)) rfl (fun u hu => List.all_eq_true.1 huo u hu) (by unfold maxLen; omega) (by omega) rfl rfl (by repeat (first | exact A9.nil | apply A9.dep (by decide +kernel) | apply A9.im (by decide +kernel) (by assumption) (by repeat first | exact mH | apply mT) | apply A9.blk (by decide +kernel) (by repeat (first | exact Pk.here | apply Pk.there)) (by repeat first | exact mH | apply mT) | apply A9.slc (by decide +kernel) (by repeat (first | exact Pk.here | apply Pk.there)) (by repeat first | exact mH | apply mT))) (fun p7 c7 => ?_))
 refine aP 12 rfl (B9 rfl) rfl ?_
 refine A3 13 ?_
 refine R2 rfl rfl rfl rfl rfl rfl rfl rfl (by decide +kernel) (by repeat first | exact Sw.here | apply Sw.there) (by rfl) ?_
 refine B1 ?_
 refine sP (K5 rfl rfl (by omega) (by omega)) rfl rfl ?_
 refine A1 ?_
 refine L0 (i + 1, p7, c7, es' ++ [[v1, v2, v3, v4, v5, v6, v7, v8, v9]], G3) ?_ ?_ ?_
 (simp only [I7]; exact D5)
 (dsimp only; exact ⟨by omega, hle.trans hle3, by rw [A3l (by omega)]; exact D9.snoc (hst.mono hle3) hru⟩)
 (show ks.length - (i + 1) < ks.length - i; omega)
 refine K2 ?_
 (refine I5 (cs := es'.flatten) (by repeat (first | exact Pk.here | apply Pk.there)) (fun G4 hle4 hsl4 hno4 => ?_); obtain rfl : i = ks.length := (by omega))
 refine tT ?_
 refine L3 (rC rfl (A4 rfl rfl)) ?_
 (rw [if_neg (by rintro ⟨h1, h2⟩; first | omega | contradiction), if_neg (by rintro ⟨h1, h2⟩; first | omega | contradiction)]; rw [List.take_of_length_le (by rw [Z5]; omega)] at hst; exact P9.mk (A8.put hk hnum hlb (hty1.mono hle4) (hfr1.mono hle4) (by rw [Z5]) (D6.of hsl4 (by omega) hst.all (fun e he => (hst.each e he).2)) (hst.mono hle4)))
 refine J7 ?_
 refine sB (qE rfl rfl) rfl rfl (fun h179 => ?_) (fun h179 => ?_)
 refine B3 ?_
 refine sB (A1p rfl rfl) rfl rfl (fun h184 => ?_) (fun h184 => ?_)
 refine B4 ?_
 (refine E7 rfl hCt rfl rfl (fun v9 G1 hle1 hh => ?_); obtain ⟨uc, F1, rfl, hs1, hn1⟩ := hh; have hru := hs1.R.mono (C8.le G1 G); have hul := hru.len; have huo := hru.one)
 refine sS rfl rfl rfl hul huo rfl ?_ (hu := by exact C9 hul.symm)
 refine B3 ?_
 refine L3 (rC rfl (A2 rfl rfl (B2 (by repeat first | exact mH | apply mT)) hul)) ?_
 (rw [if_neg (by rintro ⟨h1, h2⟩; first | omega | contradiction), if_pos (by refine ⟨by omega, by assumption⟩)]; exact P9.mk hru)
 refine D8 ?_
 refine sE (B0 rfl) rfl (fun b209 => ?_)
 refine B4 ?_
 (refine E7 rfl (W7 (.mk tk tks) _ _ htsm hty) rfl rfl (fun v9 G1 hle1 hh => ?_); obtain ⟨T8, F1, rfl, hs1, hn1⟩ := hh; obtain ⟨q1, c1, rfl, _⟩ := hs1.open; have hC2 := W7 (.mk fk fks) G1 _ hfsm (hfr.mono hle1))
 refine D0 ?_
 (refine E7 rfl hC2 rfl rfl (fun v9 G2 hle2 hh => ?_); obtain ⟨cs2, F2, rfl, hs2, hn2⟩ := hh; obtain ⟨q2, c2, rfl, _⟩ := hs2.open; have hty1 := hs1.R.mono ((C8.le G1 _).trans hle2); have hfr1 := hs2.R.mono (C8.le G2 G1); have hle12 := hle1.trans hle2; replace hsl := hsl.mono hle12; replace hkl := hkl.mono hle12; replace hv := hv.mono hle12)
 refine J7 ?_
 refine C0 ?_
 (refine V7 28 9 ?_; refine L9 (fun (x : Nat × Option Addr × Nat × List (List Value) × IM) => ⟨[(8, .int .i64 x.1), (1, .string y), (3, .pointer (some ⟨b3, 0, none⟩)), (5, .pointer (some ⟨b4, 0, none⟩)), (6, .pointer (some ⟨b5, 0, none⟩)), (7, .pointer (some ⟨b209, 0, none⟩))], [.blk b209 [.int .i64 k, .string nm, .int .i64 num, .int .i64 tk, .slice q1 tks.length c1, .int .i64 fk, .slice q2 fks.length c2, .int .i64 lb, .slice x.2.1 x.1 x.2.2.1], .slc x.2.1 x.2.2.1 28 9 x.1 x.2.2.2.1.flatten, .blk b5 [.int .i64 0, .string ⟨⟨[]⟩⟩, .int .i64 0, .int .i64 0, .slice none 0 0, .int .i64 0, .slice none 0 0, .int .i64 0, .slice none 0 0], .blk b4 vc, .blk b3 [.int .i64 k, .string nm, .int .i64 num, .int .i64 tk, .slice pt tks.length ct, .int .i64 fk, .slice pf fks.length cf, .int .i64 lb, .slice p ks.length c]], x.2.2.2.2⟩) (fun x => x.1 ≤ ks.length ∧ C2 G2 x.2.2.2.2 ∧ D9 x.2.2.2.2 ((Q2 y v ks).take x.1) x.2.2.2.1) (fun x => ks.length - x.1) (0, none, 0, [], G2) ?_ ?_ ?_)
 (simp only [I7]; exact D5)
 (exact ⟨Nat.zero_le _, C2.refl _, by simp [D9]⟩)
 (rintro ⟨i, pn, cn, es', Gi⟩ ⟨hi, hle, hst⟩; simp only [] at hi hle hst ⊢; replace hsl := hsl.mono hle; replace hkl := hkl.mono hle; replace hv := hv.mono hle; replace hty1 := hty1.mono hle; replace hfr1 := hfr1.mono hle; have hsl' := hst.len; rw [List.length_take, Z5] at hsl')
 refine B4 ?_
 refine sB (K6 rfl rfl) rfl rfl (fun h255 => ?_) (fun h255 => ?_)
 refine A7 ?_
 refine C0 ?_
 (have hil : i < ks.length := (by omega); obtain ⟨bx, ox, e, rfl, hl, hat, hre, hgb⟩ := hsl.kidTm hkl (i := i) (by omega) (by omega); have hel := hre.len; have heo := hre.one; refine E3 E4 rfl ?_)
 refine Q9 (i := 8) (l' := [ff,ff,ff,ff,ff,ff,ff,ff,tt,ff,ff,ff,ff,ff]) rfl D7 (A2 rfl rfl (B2 (by repeat first | exact mH | apply mT)) hvl) rfl (by kernel_rfl) rfl rfl ?_
 refine aP 0 rfl (B9 rfl) rfl ?_
 refine aL 1 rfl (D3 rfl rfl) rfl ?_
 refine aP 2 rfl (B9 rfl) rfl ?_
 refine aL 3 rfl (D3 rfl rfl) rfl ?_
 refine aP 4 rfl (qM rfl) rfl ?_
 refine aP 5 rfl (B8 (j := i) rfl rfl rfl (by omega)) rfl ?_
 refine aL 6 rfl (A2 rfl rfl (hat _) hl) rfl ?_
 refine aP 7 rfl (qM rfl) rfl ?_
 refine A3 9 ?_
 (refine K4 rfl rfl (ih ks[i] (List.getElem_mem (by omega)) Gi _ (Tm.smallL_mem hks _ (List.getElem_mem (by omega))) hre hv) rfl rfl rfl (fun u G3 hle3 hh => ?_); obtain ⟨uc, rfl, hru⟩ := hh; have hul := hru.len; have huo := hru.one; obtain ⟨v1, v2, v3, v4, v5, v6, v7, v8, v9, rfl⟩ := nine hul)
 refine A3 10 ?_
 (refine E6 rfl (D4 rfl rfl rfl (by omega) (by unfold maxLen; omega) rfl) rfl rfl ?_; rintro _ ⟨b276, rfl⟩)
 refine A3 11 ?_
 (refine R5 rfl rfl rfl rfl rfl rfl (fun _ _ => by repeat (first | exact Sw.here | apply Sw.there)) (P3 (by repeat first | exact mH | apply mT)) rfl (fun u hu => List.all_eq_true.1 huo u hu) (by unfold maxLen; omega) (by omega) rfl rfl (by repeat (first | exact A9.nil | apply A9.dep (by decide +kernel) | apply A9.im (by decide +kernel) (by assumption) (by repeat first | exact mH | apply mT) | apply A9.blk (by decide +kernel) (by repeat (first | exact Pk.here | apply Pk.there)) (by repeat first | exact mH | apply mT) | apply A9.slc (by decide +kernel) (by repeat (first | exact Pk.here | apply Pk.there)) (by repeat first | exact mH | apply mT))) (fun p7 c7 => ?_))
 refine aP 12 rfl (B9 rfl) rfl ?_
 refine A3 13 ?_
 refine R2 rfl rfl rfl rfl rfl rfl rfl rfl (by decide +kernel) (by repeat first | exact Sw.here | apply Sw.there) (by rfl) ?_
 refine B1 ?_
 refine sP (K5 rfl rfl (by omega) (by omega)) rfl rfl ?_
 refine A1 ?_
 refine L0 (i + 1, p7, c7, es' ++ [[v1, v2, v3, v4, v5, v6, v7, v8, v9]], G3) ?_ ?_ ?_
 (simp only [I7]; exact D5)
 (dsimp only; exact ⟨by omega, hle.trans hle3, by rw [A3l (by omega)]; exact D9.snoc (hst.mono hle3) hru⟩)
 (show ks.length - (i + 1) < ks.length - i; omega)
 refine K2 ?_
 (refine I5 (cs := es'.flatten) (by repeat (first | exact Pk.here | apply Pk.there)) (fun G4 hle4 hsl4 hno4 => ?_); obtain rfl : i = ks.length := (by omega))
 refine tT ?_
 refine L3 (rC rfl (A4 rfl rfl)) ?_
 (rw [if_neg (by rintro ⟨h1, h2⟩; first | omega | contradiction), if_neg (by rintro ⟨h1, h2⟩; first | omega | contradiction)]; rw [List.take_of_length_le (by rw [Z5]; omega)] at hst; exact P9.mk (A8.put hk hnum hlb (hty1.mono hle4) (hfr1.mono hle4) (by rw [Z5]) (D6.of hsl4 (by omega) hst.all (fun e he => (hst.each e he).2)) (hst.mono hle4)))
 refine K2 ?_
 refine sE (B0 rfl) rfl (fun b326 => ?_)
 refine B4 ?_
 (refine E7 rfl (W7 (.mk tk tks) _ _ htsm hty) rfl rfl (fun v9 G1 hle1 hh => ?_); obtain ⟨T8, F1, rfl, hs1, hn1⟩ := hh; obtain ⟨q1, c1, rfl, _⟩ := hs1.open; have hC2 := W7 (.mk fk fks) G1 _ hfsm (hfr.mono hle1))
 refine D0 ?_
 (refine E7 rfl hC2 rfl rfl (fun v9 G2 hle2 hh => ?_); obtain ⟨cs2, F2, rfl, hs2, hn2⟩ := hh; obtain ⟨q2, c2, rfl, _⟩ := hs2.open; have hty1 := hs1.R.mono ((C8.le G1 _).trans hle2); have hfr1 := hs2.R.mono (C8.le G2 G1); have hle12 := hle1.trans hle2; replace hsl := hsl.mono hle12; replace hkl := hkl.mono hle12; replace hv := hv.mono hle12)
 refine J7 ?_
 refine C0 ?_
 (refine V7 28 9 ?_; refine L9 (fun (x : Nat × Option Addr × Nat × List (List Value) × IM) => ⟨[(8, .int .i64 x.1), (1, .string y), (3, .pointer (some ⟨b3, 0, none⟩)), (5, .pointer (some ⟨b4, 0, none⟩)), (6, .pointer (some ⟨b5, 0, none⟩)), (7, .pointer (some ⟨b326, 0, none⟩))], [.blk b326 [.int .i64 k, .string nm, .int .i64 num, .int .i64 tk, .slice q1 tks.length c1, .int .i64 fk, .slice q2 fks.length c2, .int .i64 lb, .slice x.2.1 x.1 x.2.2.1], .slc x.2.1 x.2.2.1 28 9 x.1 x.2.2.2.1.flatten, .blk b5 [.int .i64 0, .string ⟨⟨[]⟩⟩, .int .i64 0, .int .i64 0, .slice none 0 0, .int .i64 0, .slice none 0 0, .int .i64 0, .slice none 0 0], .blk b4 vc, .blk b3 [.int .i64 k, .string nm, .int .i64 num, .int .i64 tk, .slice pt tks.length ct, .int .i64 fk, .slice pf fks.length cf, .int .i64 lb, .slice p ks.length c]], x.2.2.2.2⟩) (fun x => x.1 ≤ ks.length ∧ C2 G2 x.2.2.2.2 ∧ D9 x.2.2.2.2 ((Q2 y v ks).take x.1) x.2.2.2.1) (fun x => ks.length - x.1) (0, none, 0, [], G2) ?_ ?_ ?_)
 (simp only [I7]; exact D5)
 (exact ⟨Nat.zero_le _, C2.refl _, by simp [D9]⟩)
 (rintro ⟨i, pn, cn, es', Gi⟩ ⟨hi, hle, hst⟩; simp only [] at hi hle hst ⊢; replace hsl := hsl.mono hle; replace hkl := hkl.mono hle; replace hv := hv.mono hle; replace hty1 := hty1.mono hle; replace hfr1 := hfr1.mono hle; have hsl' := hst.len; rw [List.length_take, Z5] at hsl')
 refine B4 ?_
 refine sB (K6 rfl rfl) rfl rfl (fun h372 => ?_) (fun h372 => ?_)
 refine A7 ?_
 refine C0 ?_
 (have hil : i < ks.length := (by omega); obtain ⟨bx, ox, e, rfl, hl, hat, hre, hgb⟩ := hsl.kidTm hkl (i := i) (by omega) (by omega); have hel := hre.len; have heo := hre.one; refine E3 E4 rfl ?_)
 refine Q9 (i := 8) (l' := [ff,ff,ff,ff,ff,ff,ff,ff,tt,ff,ff,ff,ff,ff]) rfl D7 (A2 rfl rfl (B2 (by repeat first | exact mH | apply mT)) hvl) rfl (by kernel_rfl) rfl rfl ?_
 refine aP 0 rfl (B9 rfl) rfl ?_
 refine aL 1 rfl (D3 rfl rfl) rfl ?_
 refine aP 2 rfl (B9 rfl) rfl ?_
 refine aL 3 rfl (D3 rfl rfl) rfl ?_
 refine aP 4 rfl (qM rfl) rfl ?_
 refine aP 5 rfl (B8 (j := i) rfl rfl rfl (by omega)) rfl ?_
 refine aL 6 rfl (A2 rfl rfl (hat _) hl) rfl ?_
 refine aP 7 rfl (qM rfl) rfl ?_
 refine A3 9 ?_
 (refine K4 rfl rfl (ih ks[i] (List.getElem_mem (by omega)) Gi _ (Tm.smallL_mem hks _ (List.getElem_mem (by omega))) hre hv) rfl rfl rfl (fun u G3 hle3 hh => ?_); obtain ⟨uc, rfl, hru⟩ := hh; have hul := hru.len; have huo := hru.one; obtain ⟨v1, v2, v3, v4, v5, v6, v7, v8, v9, rfl⟩ := nine hul)
 refine A3 10 ?_
 (refine E6 rfl (D4 rfl rfl rfl (by omega) (by unfold maxLen; omega) rfl) rfl rfl ?_; rintro _ ⟨b393, rfl⟩)
 refine A3 11 ?_
 (refine R5 rfl rfl rfl rfl rfl rfl (fun _ _ => by repeat (first | exact Sw.here | apply Sw.there)) (P3 (by repeat first | exact mH | apply mT)) rfl (fun u hu => List.all_eq_true.1 huo u hu) (by unfold maxLen; omega) (by omega) rfl rfl (by repeat (first | exact A9.nil | apply A9.dep (by decide +kernel) | apply A9.im (by decide +kernel) (by assumption) (by repeat first | exact mH | apply mT) | apply A9.blk (by decide +kernel) (by repeat (first | exact Pk.here | apply Pk.there)) (by repeat first | exact mH | apply mT) | apply A9.slc (by decide +kernel) (by repeat (first | exact Pk.here | apply Pk.there)) (by repeat first | exact mH | apply mT))) (fun p7 c7 => ?_))
 refine aP 12 rfl (B9 rfl) rfl ?_
 refine A3 13 ?_
 refine R2 rfl rfl rfl rfl rfl rfl rfl rfl (by decide +kernel) (by repeat first | exact Sw.here | apply Sw.there) (by rfl) ?_
 refine B1 ?_
 refine sP (K5 rfl rfl (by omega) (by omega)) rfl rfl ?_
 refine A1 ?_
 refine L0 (i + 1, p7, c7, es' ++ [[v1, v2, v3, v4, v5, v6, v7, v8, v9]], G3) ?_ ?_ ?_
 (simp only [I7]; exact D5)
 (dsimp only; exact ⟨by omega, hle.trans hle3, by rw [A3l (by omega)]; exact D9.snoc (hst.mono hle3) hru⟩)
 (show ks.length - (i + 1) < ks.length - i; omega)
 refine K2 ?_
 (refine I5 (cs := es'.flatten) (by repeat (first | exact Pk.here | apply Pk.there)) (fun G4 hle4 hsl4 hno4 => ?_); obtain rfl : i = ks.length := (by omega))
 refine tT ?_
 refine L3 (rC rfl (A4 rfl rfl)) ?_
 (rw [if_neg (by rintro ⟨h1, h2⟩; first | omega | contradiction), if_neg (by rintro ⟨h1, h2⟩; first | omega | contradiction)]; rw [List.take_of_length_le (by rw [Z5]; omega)] at hst; exact P9.mk (A8.put hk hnum hlb (hty1.mono hle4) (hfr1.mono hle4) (by rw [Z5]) (D6.of hsl4 (by omega) hst.all (fun e he => (hst.each e he).2)) (hst.mono hle4)))
theorem B7N (k : Int) (a b : Tm) (G : IM) (ca cb : List Value) (hk78 : k = 7 ∨ k = 8) (hca : 0 ≤ a.num ∧ a.num ≤ 999) (hcb : 0 ≤ b.num ∧ b.num ≤ 999) (hra : A8 G a ca) (hrb : A8 G b cb) : Fn Tryz.prog 253 [.int .i64 k, .agg ⟨ca⟩, .agg ⟨cb⟩] [] G (K9 (S4 k A6 A6 0 [a, b])) := by
 obtain ⟨ak, anm, anum, ⟨atk, atks⟩, ⟨afk, afks⟩, alb, aks⟩ := a
 obtain ⟨bk, bnm, bnum, ⟨btk, btks⟩, ⟨bfk, bfks⟩, blb, bks⟩ := b
 obtain ⟨apt, act, apf, acf, ap, ac, aes, rfl, hak, hanum, halb, haty, hafr, hasl, hakl⟩ := hra.open9
 obtain ⟨bpt, bct, bpf, bcf, bp, bc, bes, rfl, hbk, hbnum, hblb, hbty, hbfr, hbsl, hbkl⟩ := hrb.open9
 simp only [Tm.num] at hca hcb
 have hR : S4 k A6 A6 0 [Tm.mk ak anm anum (.mk atk atks) (.mk afk afks) alb aks, Tm.mk bk bnm bnum (.mk btk btks) (.mk bfk bfks) blb bks] = (if ak = 2 ∧ bk = 2 then (if k = 7 then A1z ((anum + bnum) % 1000) else W3 (anum < bnum), 1, 0) else S3) := by
  unfold S4; rw [if_neg (by omega), if_pos hk78]; rfl
 rw [hR]
 have htm : (anum + bnum).tmod 1000 = (anum + bnum) % 1000 := B0l hca hcb
 have hb : F8 ((anum + bnum) % 1000) := ⟨by omega, by omega⟩
 refine B7 Tryz.func253 rfl Tryz.ntmps253 Tryz.results253 rfl ?_
 intro w0
 refine A1 ?_
 refine sE (C7 rfl rfl) rfl (fun b3 => ?_)
 refine sE (C7 rfl rfl) rfl (fun b4 => ?_)
 refine sE (B0 rfl) rfl (fun b5 => ?_)
 refine D8 ?_
 refine sB (N7 rfl rfl) rfl rfl (fun h15 => ?_) (fun h15 => ?_)
 refine V9 ?_
 refine D1 (rC rfl (A4 rfl rfl)) (rT rfl) (rT rfl) ?_
 (exact K9.mk (by rw [if_neg (by omega)]; rfl) (M1 _))
 refine B6 ?_
 refine sB (N7 rfl rfl) rfl rfl (fun h39 => ?_) (fun h39 => ?_)
 refine K2 ?_
 refine D1 (rC rfl (A4 rfl rfl)) (rT rfl) (rT rfl) ?_
 (exact K9.mk (by rw [if_neg (by omega)]; rfl) (M1 _))
 refine J2 ?_
 refine sB (qE rfl rfl) rfl rfl (fun h66 => ?_) (fun h66 => ?_)
 refine D8 ?_
 refine sP (K5 rfl rfl (by omega) (by omega)) rfl rfl ?_
 refine sP (A3E rfl rfl (by omega)) rfl rfl ?_
 (rw [htm]; refine I3 rfl (A2e _ _) rfl rfl ?_)
 refine B4 ?_
 refine D1 (rC rfl (A4 rfl rfl)) (rT rfl) (rT rfl) ?_
 (exact K9.mk (u := A1z (HMod.hMod (anum + bnum) 1000)) (by rw [if_pos ⟨by omega, by omega⟩, if_pos (by omega)]) (A8.put (us := []) ⟨by decide, by decide⟩ hb ⟨by decide, by decide⟩ (A0Y _) (A0Y _) rfl (D6.nil _ _) rfl))
 refine J4 ?_
 (refine sB (K6 rfl rfl) rfl rfl (fun h99 => ?_) (fun h99 => ?_))
 (refine E7 rfl (B1I _ _) rfl rfl (fun u G1 hle1 hh => ?_); obtain ⟨uc, rfl, hru⟩ := hh; have hul := hru.len; have huo := hru.one)
 refine sS rfl rfl rfl hul huo rfl ?_ (hu := by exact C9 hul.symm)
 refine B1 ?_
 refine D1 (rC rfl (A2 rfl rfl (B2 (by repeat first | exact mH | apply mT)) hul)) (rT rfl) (rT rfl) ?_
 (exact K9.mk (by rw [if_pos ⟨by omega, by omega⟩, if_neg (by omega)]; unfold W3; rw [if_pos (by omega), if_pos rfl]) hru)
 (refine E7 rfl (B1I _ _) rfl rfl (fun u G1 hle1 hh => ?_); obtain ⟨uc, rfl, hru⟩ := hh; have hul := hru.len; have huo := hru.one)
 refine sS rfl rfl rfl hul huo rfl ?_ (hu := by exact C9 hul.symm)
 refine B1 ?_
 refine D1 (rC rfl (A2 rfl rfl (B2 (by repeat first | exact mH | apply mT)) hul)) (rT rfl) (rT rfl) ?_
 (exact K9.mk (by rw [if_pos ⟨by omega, by omega⟩, if_neg (by omega)]; unfold W3; rw [if_neg (by omega), if_neg (by decide)]) hru)
theorem B1J {fuel : Int} (h : fuel < 0 ∨ 300 < fuel) : Q0 fuel 0 300 = false := by unfold Q0; rw [decide_eq_false (by omega)]
theorem B7O {fuel : Int} (h : 0 ≤ fuel) (h2 : fuel ≤ 300) : Q0 fuel 0 300 = true := by unfold Q0; rw [decide_eq_true ⟨h, h2⟩]
theorem B7P {k : Int} {ks : List Tm} {u : Tm} {ty fr : Ty} {lb : Int} (h : P2 k ks = some u) : S4 k ty fr lb ks = (u, 1, 0) := by
 unfold P2 at h
 unfold S4
 split at h
 ·rename_i h6
  rw [if_pos h6]
  split at h
  ·rename_i h5; cases h; rw [if_pos h5]
  ·cases h
 ·rename_i h6
  rw [if_neg h6]
  split at h
  ·rename_i h7
   rw [if_pos h7]
   split at h
   ·rename_i h5; cases h; rw [if_pos h5]
   ·cases h
  ·rename_i h7
   rw [if_neg h7]
   split at h
   ·rename_i h9
    rw [if_pos h9]
    split at h
    ·rename_i h5; cases h; rw [if_pos h5]
    ·rename_i h5
     rw [if_neg h5]
     split at h
     ·rename_i h4; cases h; rw [if_pos h4]
     ·cases h
   ·rename_i h9
    rw [if_neg h9]
    split at h
    ·rename_i h11
     rw [if_pos h11]
     split at h
     ·rename_i h5; cases h; rw [if_pos h5]
     ·cases h
    ·cases h
theorem B7Q {k : Int} {ks : List Tm} (hk : Tm.smallL ks) (hc : E0 ks ≤ 199) : (T7 k ks).1.small ∧ D2 (T7 k ks).1 ≤ 40100 := by
 cases hr : P2 k ks with
 | none => rw [A14 hr]; exact ⟨A4c, by show D2 E2 ≤ _; rw [A9P]; omega⟩
 | some u =>
  have := B4J (k := k) (ty := A6) (fr := A6) (lb := 0) hk hc A2g A2g
  rw [B7P hr] at this
  rw [A1k hr]
  exact this
theorem B7R (ks : List Tm) (ih : ∀ t ∈ ks, t.small → D2 t ≤ 200 → (H3 t).1.small ∧ D2 (H3 t).1 ≤ D2 t + 40100) : ∀ (n : Nat), Tm.smallL ks → E0 ks ≤ 199 → ∀ us c l, V5 n ks = some (us, c, l) → Tm.smallL us ∧ us.length = ks.length ∧ E0 us ≤ E0 ks + 40100 := by
 induction ks with
 | nil => intro n _ _ us c l h; cases n <;> (rw [V5] at h; cases h)
 | cons t ts ihl =>
  intro n hs hc us c l h
  simp only [Tm.smallL] at hs
  simp only [E0] at hc ⊢
  cases n with
  | zero => rw [V5] at h; cases h
  | succ n =>
   rw [A4m] at h
   split at h
   ·split at h
    ·rename_i us' c' l' hs'
     cases h
     obtain ⟨l1, l2, l3⟩ := ihl (fun u hu => ih u (List.mem_cons_of_mem _ hu)) n hs.2 (by omega) us' c l hs'
     exact ⟨by simp only [Tm.smallL]; exact ⟨hs.1, l1⟩, by simp [l2], by simp only [E0]; omega⟩
    ·cases h
   ·cases h
    obtain ⟨s1, s2⟩ := ih t List.mem_cons_self hs.1 (by omega)
    exact ⟨by simp only [Tm.smallL]; exact ⟨s1, hs.2⟩, by simp, by simp only [E0]; omega⟩
theorem B7S : ∀ (t : Tm), t.small → D2 t ≤ 200 → (H3 t).1.small ∧ D2 (H3 t).1 ≤ D2 t + 40100 := by
 refine Tm.ind fun k nm num ty fr lb ks ih h hc => ?_
 obtain ⟨h1, h2, h3, h4, h5⟩ := A0F.1 h
 rw [A0E] at hc
 have hL := B7R ks ih (if k = 9 then 1 else ks.length) h5 (by omega)
 rw [H3]
 split
 ·rename_i us c l hs
  obtain ⟨l1, l2, l3⟩ := hL us c l hs
  split
  ·refine ⟨A0F.2 ⟨h1, h2, h3, by omega, l1⟩, ?_⟩
   show D2 (.mk k nm num ty fr lb us) ≤ _
   rw [A0E, A0E]; omega
  ·exact ⟨A4c, by show D2 E2 ≤ _; rw [A9P]; omega⟩
 ·have := B7Q (k := k) h5 (by omega)
  rw [A0E]
  exact ⟨this.1, by omega⟩
theorem B7T {t : Tm} (h : P0 t = true) : (H3 t).1.small ∧ D2 (H3 t).1 ≤ 40300 := by
 obtain ⟨h1, h2⟩ := A0Z (A01 h).1
 have := B7S t (A2f t h1) h2
 exact ⟨this.1, by omega⟩
theorem B7U {k : Int} {nm : ByteArray} {num : Int} {ty fr : Ty} {lb : Int} {ks : List Tm} (j : Nat) (hj : j < ks.length) (h : N4 ks[j] = false) : N4 (.mk k nm num ty fr lb ks) = false := by
 cases hb : N4 (.mk k nm num ty fr lb ks) with
 | false => rfl
 | true =>
  have := (X4.1 hb).2 ks[j] (List.getElem_mem hj)
  rw [h] at this; cases this
theorem B7V {a b c : Tm} : T7 9 [a, b, c] = (if a.k = 3 then (b, 1, 0) else if a.k = 4 then (c, 1, 0) else (E2, 2, 3)) := by
 have hm : P2 9 [a, b, c] = if a.k = 3 then some b else if a.k = 4 then some c else none := rfl
 by_cases h3 : a.k = 3
 ·rw [if_pos h3] at hm ⊢; exact A1k hm
 ·rw [if_neg h3] at hm ⊢
  by_cases h4 : a.k = 4
  ·rw [if_pos h4] at hm ⊢; exact A1k hm
  ·rw [if_neg h4] at hm ⊢; exact A14 hm
theorem B7W {a b : Tm} : T7 6 [a, b] = (if a.k = 5 then (R3 a.nm b (kd a.ks 0), 1, 0) else (E2, 2, 1)) := by
 have hm : P2 6 [a, b] = if a.k = 5 then some (R3 a.nm b (kd a.ks 0)) else none := rfl
 by_cases h3 : a.k = 5
 ·rw [if_pos h3] at hm ⊢; exact A1k hm
 ·rw [if_neg h3] at hm ⊢; exact A14 hm
theorem B7X {k : Int} {a : Tm} (h : k = 11 ∨ k = 12) : T7 k [a] = (if a.k = 10 then (kd a.ks (k - 11).toNat, 1, 0) else (E2, 2, 4)) := by
 have hm : P2 k [a] = if a.k = 10 then some (kd a.ks (k - 11).toNat) else none := by
  unfold P2; rw [if_neg (by omega), if_neg (by omega), if_neg (by omega), if_pos h]; rfl
 by_cases h3 : a.k = 10
 ·rw [if_pos h3] at hm ⊢; exact A1k hm
 ·rw [if_neg h3] at hm ⊢
  rw [A14 hm]
  unfold A2q
  rw [if_neg (by omega), if_neg (by omega), if_neg (by omega), if_pos h]
theorem B7Y {ks : List Tm} : T7 1 ks = (E2, 2, 5) := A14 rfl
theorem B7Z {k : Int} {a b : Tm} (h : k = 7 ∨ k = 8) : T7 k [a, b] = if (S4 k A6 A6 0 [a, b]).2.1 = 1 then ((S4 k A6 A6 0 [a, b]).1, 1, 0) else (E2, 2, 2) := by
 have hr : S4 k A6 A6 0 [a, b] = if a.k = 2 ∧ b.k = 2 then (if k = 7 then A1z ((a.num + b.num) % 1000) else W3 (a.num < b.num), 1, 0) else S3 := by
  unfold S4; rw [if_neg (by omega), if_pos h]; rfl
 have hm : P2 k [a, b] = if a.k = 2 ∧ b.k = 2 then some (if k = 7 then A1z ((a.num + b.num) % 1000) else W3 (a.num < b.num)) else none := by
  unfold P2; rw [if_neg (by omega), if_pos h]; rfl
 by_cases hc : a.k = 2 ∧ b.k = 2
 ·rw [if_pos hc] at hr hm
  rw [A1k hm, hr, if_pos rfl]
 ·rw [if_neg hc] at hr hm
  rw [A14 hm, hr, if_neg (by decide)]
  unfold A2q; rw [if_neg (by omega), if_pos h]
end Gw
end Go.Proofs.YtfpgncjeejickaaGreatDoor
