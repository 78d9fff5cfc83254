/-
  The reference's typing, exactly: meets, the types of nodes. The reference's typing, exactly: types of terms. The reference's evaluator: ground types, values, casts, replacing a name. The reference's evaluator: steps of nodes whose operands are values.
-/
import Derived.Test.YthpdjmbpbdbodaaGreatDoorKl6
import Derived.Test.YthpdjmbpbdbodaaGreatDoorKl4
import Derived.Test.YthpdjmbpbdbodaaGreatDoorKl5
set_option linter.unusedVariables false
set_option linter.unusedSimpArgs false
set_option maxHeartbeats 0
set_option maxRecDepth 100000
set_option synthInstance.maxSize 4000
set_option synthInstance.maxHeartbeats 0
namespace Go.Proofs.YthpdjmbpbdbodaaGreatDoor
open Go Go.RowKit
namespace Gw
theorem A5B : ∀ (xs ys : List Ty), xs.length = ys.length → (T2 xs ys).length = xs.length
 | [], [], _ => rfl
 | a :: xs, b :: ys, h => by simp only [T2, List.length_cons]; rw [A5B xs ys (by simpa using h)]
 | [], b :: ys, h => by simp at h
 | a :: xs, [], h => by simp at h
theorem A7q : ∀ (xs ys : List Ty) (i : Nat) (h : i < xs.length) (h' : i < ys.length) (hl : i < (T2 xs ys).length), (T2 xs ys)[i] = U8 xs[i] ys[i]
 | [], _, i, h, _, _ => by simp at h
 | a :: xs, [], i, _, h', _ => by simp at h'
 | a :: xs, b :: ys, 0, _, _, _ => by simp [T2]
 | a :: xs, b :: ys, i + 1, h, h', hl => by
  simp only [T2, List.getElem_cons_succ]
  exact A7q xs ys i (by simpa using h) (by simpa using h') _
theorem B6Q {xs ys : List Ty} {i : Nat} (hl : xs.length = ys.length) (h : i < xs.length) : (T2 xs ys).take (i + 1) = (T2 xs ys).take i ++ [U8 xs[i] (ys[i]'(by omega))] := by
 rw [List.take_succ_eq_append_getElem (by rw [A5B _ _ hl]; exact h), A7q _ _ i h (by omega)]
theorem B6R : ∀ (a b : Ty) (G : IM) (ca cb : List Value), K5 a b = true → F8 a → F8 b → C1 G a ca → C1 G b cb → Fn Tryz.prog 178 [.agg ⟨ca⟩, .agg ⟨cb⟩] [] G (M3 fun G' v => ∃ cells, v = .agg ⟨cells⟩ ∧ C1 G' (U8 a b) cells) := by
 refine Ty.ind fun ak aks ih b G ca cb hc ha hb hra hrb => ?_
 obtain ⟨bk, bks⟩ := b
 have hka := ha.kid
 have hkb := hb.kid
 have hca := P7 _ G _ ha.small hra
 have hcb := P7 _ G _ hb.small hrb
 have hcc : ak ≠ 1 → bk ≠ 1 → aks.length = bks.length ∧ ∀ i, (h : i < aks.length) → (h' : i < bks.length) → K5 aks[i] bks[i] = true := by
  intro h1 h2
  rw [U6, decide_eq_false h1, decide_eq_false h2] at hc
  simp only [Bool.false_or, Bool.and_eq_true, decide_eq_true_eq] at hc
  exact (A2z _ _).1 hc.2
 rw [A1a]
 obtain ⟨pa, cca, ea, rfl, hak, hsla, hkla⟩ := hra.open
 obtain ⟨pb, ccb, eb, rfl, hbk, hslb, hklb⟩ := hrb.open
 simp only [Ty.k, Ty.ks] at hak hsla hkla hbk hslb hklb ⊢
 have hna := hsla.le
 have hnb := hslb.le
 have hl2 := ha.two
 refine C2 Tryz.func178 rfl Tryz.ntmps178 Tryz.results178 rfl ?_
 intro w0
 refine A5 ?_
 refine sE (C7 rfl rfl) rfl (fun b3 => ?_)
 refine sE (C7 rfl rfl) rfl (fun b4 => ?_)
 refine sE (A8 rfl) rfl (fun b5 => ?_)
 refine B5 ?_
 refine sB (qE rfl rfl) rfl rfl (fun h13 => ?_) (fun h13 => ?_)
 refine B0 ?_
 (refine E5 rfl (by first | exact hcb | exact hca) rfl rfl (fun v G1 hle1 hh => ?_); obtain ⟨cs1, F1, rfl, hs1, hn1⟩ := hh; obtain ⟨p1, c1, rfl, _⟩ := hs1.open; have hr1 := hs1.R.mono (C9.le G1 G))
 refine B2 ?_
 refine N4 (rC rfl (A6 rfl rfl)) ?_
 (rw [if_pos (by omega)]; exact ⟨rfl, _, rfl, hr1⟩)
 refine J0 ?_
 refine sB (qE rfl rfl) rfl rfl (fun h38 => ?_) (fun h38 => ?_)
 refine B0 ?_
 (refine E5 rfl (by first | exact hcb | exact hca) rfl rfl (fun v G1 hle1 hh => ?_); obtain ⟨cs1, F1, rfl, hs1, hn1⟩ := hh; obtain ⟨p1, c1, rfl, _⟩ := hs1.open; have hr1 := hs1.R.mono (C9.le G1 G))
 refine B2 ?_
 refine N4 (rC rfl (A6 rfl rfl)) ?_
 (rw [if_neg (by omega), if_pos (by omega)]; exact ⟨rfl, _, rfl, hr1⟩)
 refine J0 ?_
 refine sE (A8 rfl) rfl (fun b63 => ?_)
 refine E1 ?_
 refine C3 ?_
 (obtain ⟨hlab, hcab⟩ := hcc (by omega) (by omega); refine U9 25 2 ?_; refine K2 (fun (x : Nat × Option Addr × Nat × List Ty × List (List Value) × IM) => ⟨[(6, .int .i64 x.1), (5, .pointer (some ⟨b63, 0, none⟩)), (4, .pointer (some ⟨b5, 0, none⟩)), (2, .pointer (some ⟨b3, 0, none⟩)), (3, .pointer (some ⟨b4, 0, none⟩))], [.blk b63 [.int .i64 ak, .slice x.2.1 x.1 x.2.2.1], .slc x.2.1 x.2.2.1 25 2 x.1 x.2.2.2.2.1.flatten, .blk b5 [.int .i64 0, .slice none 0 0], .blk b4 [.int .i64 bk, .slice pb bks.length ccb], .blk b3 [.int .i64 ak, .slice pa aks.length cca]], x.2.2.2.2.2⟩) (fun x => x.1 ≤ aks.length ∧ C6 G x.2.2.2.2.2 ∧ x.2.2.2.1.length = x.1 ∧ D5 x.2.2.2.2.2 x.2.2.2.1 x.2.2.2.2.1 ∧ x.2.2.2.1 = (T2 aks bks).take x.1) (fun x => aks.length - x.1) (0, none, 0, [], [], G) ?_ ?_ ?_)
 (simp only [J9]; exact E2)
 (exact ⟨by simp, C6.refl _, rfl, by simp [D5], rfl⟩)
 (rintro ⟨i, pn, cn, us, es', Gi⟩ ⟨hi, hle, hlu, hst, hus⟩; simp only [] at hi hle hlu hst hus ⊢; replace hsla := hsla.mono hle; replace hkla := hkla.mono hle; replace hslb := hslb.mono hle; replace hklb := hklb.mono hle)
 refine B5 ?_
 refine sB (J8 rfl rfl) rfl rfl (fun h85 => ?_) (fun h85 => ?_)
 refine B0 ?_
 refine C3 ?_
 (obtain ⟨b, o, q0, d0, hp0, hat0, hre0, hg0⟩ := hsla.kidTy hkla (i := i) (by omega) (by omega); obtain ⟨b', o', q1, d1, hp1, hat1, hre1, hg1⟩ := hslb.kidTy hklb (i := i) (by omega) (by omega); subst hp0; subst hp1; have hih := ih aks[i] (List.getElem_mem (by omega)) bks[i] Gi _ _ (hcab i (by omega) (by omega)) (hka _ (List.getElem_mem (by omega))) (hkb _ (List.getElem_mem (by omega))) hre0 hre1; refine D8 D9 rfl ?_)
 refine I6 (i := 0) (l' := [tt,ff,ff,ff,ff,ff,ff,ff,ff,ff,ff,ff,ff,ff,ff,ff,ff]) rfl D3 (B8 rfl) rfl (by kernel_rfl) rfl rfl ?_
 refine aL 1 rfl (C4 rfl rfl) rfl ?_
 refine aP 2 rfl (B8 rfl) rfl ?_
 refine aL 3 rfl (C4 rfl rfl) rfl ?_
 refine aP 4 rfl (qM rfl) rfl ?_
 refine aP 5 rfl (B6 rfl rfl rfl (by omega)) rfl ?_
 refine aL 6 rfl (A3 rfl rfl (hat0 _) rfl) rfl ?_
 refine aP 7 rfl (B8 rfl) rfl ?_
 refine aL 8 rfl (C4 rfl rfl) rfl ?_
 refine aP 9 rfl (qM rfl) rfl ?_
 refine aP 10 rfl (B6 rfl rfl rfl (by omega)) rfl ?_
 refine aL 11 rfl (A3 rfl rfl (hat1 _) rfl) rfl ?_
 refine A4 12 ?_
 (refine H4 rfl rfl hih rfl rfl rfl (fun v G1 hle1 hh => ?_); obtain ⟨cells', rfl, hru⟩ := hh; generalize hu : U8 aks[i] bks[i] = u at hru; obtain ⟨p3, c3, es3, rfl, _⟩ := hru.open)
 refine A4 13 ?_
 (refine E6 rfl (D2 rfl rfl rfl (by omega) (by unfold maxLen; omega) rfl) rfl rfl ?_; rintro _ ⟨b109, rfl⟩)
 refine A4 14 ?_
 refine R4 rfl rfl rfl rfl rfl rfl (fun _ _ => by repeat (first | exact Sw.here | apply Sw.there)) (O2 (by repeat first | exact mH | apply mT)) rfl (by simp [Value.oneCell']) (by unfold maxLen; omega) (by omega) rfl rfl (by repeat (first | exact A9.nil | apply A9.dep (by decide +kernel) | apply A9.blk (by decide +kernel) (by repeat (first | exact Pk.here | apply Pk.there)) (by repeat first | exact mH | apply mT))) (fun pn' cn' => ?_)
 refine aP 15 rfl (B8 rfl) rfl ?_
 refine A4 16 ?_
 refine R9 rfl rfl rfl rfl rfl rfl rfl rfl (by decide +kernel) (by repeat first | exact Sw.here | apply Sw.there) (by rfl) ?_
 refine B2 ?_
 refine sP (J6 rfl rfl (by omega) (by omega)) rfl rfl ?_
 refine A5 ?_
 refine K3 (i + 1, pn', cn', us ++ [u], es' ++ [[.int .i64 u.k, .slice p3 u.ks.length c3]], G1) ?_ ?_ ?_
 (simp only [J9]; exact E2)
 (dsimp only; exact ⟨by omega, hle.trans hle1, by simp [hlu], D5.snoc (hst.mono hle1) hru, by rw [B6Q hlab (by omega), ← hus, hu]⟩)
 (show aks.length - (i + 1) < aks.length - i; omega)
 refine J1 ?_
 (refine H3 (by repeat (first | exact Pk.here | apply Pk.there)) (fun G2 hle2 hsl2 hno2 => ?_); obtain rfl : i = aks.length := (by omega))
 refine tT ?_
 refine N4 (rC rfl (A6 rfl rfl)) ?_
 (rw [List.take_of_length_le (by rw [A5B _ _ hlab]; omega)] at hus; rw [if_neg (by omega), if_neg (by omega), ← hus]; exact ⟨rfl, _, rfl, (hst.mono hle2).ty hlu hsl2 hak⟩)
theorem gD {ts : List Ty} {i : Nat} (h : i < ts.length) : ts.getD i B4 = ts[i] := by rw [List.getD_eq_getElem?_getD, List.getElem?_eq_getElem h, Option.getD_some]
section
variable {cx : Cx} {k : Int} {nm : ByteArray} {ty : Ty} {ts : List Ty}
theorem B1u (h : 1 < ts.length) : X9 cx 6 nm ty ts = match R6 4 ts[0] with | some (a, b) => if K5 ts[1] a = true then some b else none | none => none := by
 unfold X9 J7
 rw [gD (i := 0) (by omega), gD (i := 1) h]
 simp only [show ¬((6 : Int) = 1) by decide, show ¬((6 : Int) = 2) by decide, show ¬((6 : Int) = 3 ∨ (6 : Int) = 4) by decide, show ¬((6 : Int) = 5) by decide, if_false, if_true]
 cases R6 4 ts[0] with
 | none => rfl
 | some p =>
  obtain ⟨a, b⟩ := p
  by_cases hc : K5 ts[1] a = true
  ·simp [hc]
  ·simp [hc]
theorem B1v (hk : k = 7 ∨ k = 8) (h : 1 < ts.length) : X9 cx k nm ty ts = if K5 ts[0] P9 = true ∧ K5 ts[1] P9 = true then some (if k = 8 then U4 else P9) else none := by
 unfold X9 J7
 rw [gD (i := 0) (by omega), gD (i := 1) h, if_neg (by omega), if_neg (by omega), if_neg (by omega), if_neg (by omega), if_neg (by omega), if_pos hk]
 by_cases hc : K5 ts[0] P9 = true ∧ K5 ts[1] P9 = true
 ·rw [if_pos hc, if_pos hc]; simp only; rw [if_neg (by omega)]
 ·rw [if_neg hc, if_neg hc]
theorem B1w (h : 2 < ts.length) : X9 cx 9 nm ty ts = if K5 ts[0] U4 = true ∧ K5 ts[1] ts[2] = true then some (U8 ts[1] ts[2]) else none := by
 unfold X9 J7
 rw [gD (i := 0) (by omega), gD (i := 1) (by omega), gD (i := 2) h, if_neg (by omega), if_neg (by omega), if_neg (by omega), if_neg (by omega), if_neg (by omega), if_neg (by omega), if_pos rfl]
 by_cases hc : K5 ts[0] U4 = true ∧ K5 ts[1] ts[2] = true
 ·rw [if_pos hc, if_pos hc]; simp
 ·rw [if_neg hc, if_neg hc]
theorem B6S (h : 1 < ts.length) : X9 cx 10 nm ty ts = if F4 (.mk 5 [ts[0], ts[1]]) = true then some (.mk 5 [ts[0], ts[1]]) else none := by
 unfold X9 J7
 rw [gD (i := 0) (by omega), gD (i := 1) h, if_neg (by omega), if_neg (by omega), if_neg (by omega), if_neg (by omega), if_neg (by omega), if_neg (by omega), if_neg (by omega), if_pos rfl]
 cases hv : F4 (.mk 5 [ts[0], ts[1]]) <;> simp [hv]
theorem B6T (h : 0 < ts.length) : X9 cx 13 nm ty ts = if K5 ts[0] ty = true then some ty else none := by
 unfold X9 J7
 rw [gD (i := 0) h, if_neg (by omega), if_neg (by omega), if_neg (by omega), if_neg (by omega), if_neg (by omega), if_neg (by omega), if_neg (by omega), if_neg (by omega), if_pos rfl]
 by_cases hc : K5 ts[0] ty = true
 ·rw [if_pos hc, if_pos hc]; simp
 ·rw [if_neg hc, if_neg hc]
theorem A5C (hk : k = 11 ∨ k = 12) (h : 0 < ts.length) : X9 cx k nm ty ts = match R6 5 ts[0] with | some (a, b) => some (if k = 12 then b else a) | none => none := by
 unfold X9 J7
 rw [gD (i := 0) h, if_neg (by omega), if_neg (by omega), if_neg (by omega), if_neg (by omega), if_neg (by omega), if_neg (by omega), if_neg (by omega), if_neg (by omega), if_neg (by omega)]
 cases R6 5 ts[0] with
 | none => rfl
 | some p =>
  obtain ⟨a, b⟩ := p
  simp only
  rw [if_neg (by omega)]
end
theorem B6U : ∀ (a b : Ty), K5 a b = true → F8 a → F8 b → F8 (U8 a b) := by
 refine Ty.ind fun k ks ih b hc ha hb => ?_
 obtain ⟨k', ks'⟩ := b
 rw [A1a]
 split
 ·exact hb
 ·split
  ·exact ha
  ·rw [U6] at hc
   simp only [Bool.or_eq_true, Bool.and_eq_true, decide_eq_true_eq] at hc
   obtain ⟨hk, hl⟩ : k = k' ∧ N8 ks ks' = true := by
    rcases hc with (h | h) | h
    ·contradiction
    ·contradiction
    ·exact h
   obtain ⟨hll, hcc⟩ := (A2z _ _).1 hl
   have hlen := A5B ks ks' hll
   refine A9E ha hlen fun u hu => ?_
   obtain ⟨i, hi, rfl⟩ := List.mem_iff_getElem.1 hu
   rw [A7q ks ks' i (by omega) (by omega)]
   exact ih _ (List.getElem_mem _) _ (hcc i (by omega) (by omega)) (ha.kid _ (List.getElem_mem _)) (hb.kid _ (List.getElem_mem _))
theorem B1x {Q : Prop} (h : Q := by (have hk7 : k = 7 := (by omega); exact S1.mk (by rw [B1v (.inl hk7) (by omega)]; simp_all [P9]) (O3 _ ⟨by omega, by omega⟩) (X0 (by omega) (by omega)))) : Q := h
theorem B1y {Q : Prop} (h : Q := by (have hk8 : k = 8 := (by omega); exact S1.mk (by rw [B1v (.inr hk8) (by omega)]; simp_all [P9, U4]) (O3 _ ⟨by omega, by omega⟩) (X0 (by omega) (by omega)))) : Q := h
theorem B6V (cx : Cx) (k : Int) (nm : ByteArray) (num : Int) (ty fr : Ty) (lb : Int) (ks : List Tm) (ts : List Ty) (G : IM) (cells : List Value) (p : Option Addr) (c : Nat) (es : List (List Value))
  (hops : D7 k = ts.length) (hk6 : 6 ≤ k ∧ k ≤ 13) (hty : F8 ty) (hr : B3 G (.mk k nm num ty fr lb ks) cells) (hsl : E0 G p ts.length c 2 es) (hkl : D5 G ts es) (har : ∀ t ∈ ts, F8 t) :
  Fn Tryz.prog 161 [.agg ⟨cells⟩, .slice p ts.length c] [] G (S1 (X9 cx k nm ty ts) G) := by
 have hone := hr.one
 have hop := A3l hops
 have ha0 := fun h : 0 < ts.length => har _ (List.getElem_mem h)
 have ha1 := fun h : 1 < ts.length => har _ (List.getElem_mem h)
 have ha2 := fun h : 2 < ts.length => har _ (List.getElem_mem h)
 obtain ⟨tk, tks⟩ := ty
 obtain ⟨fk, fks⟩ := fr
 obtain ⟨pt, ct, pf, cf, pk, ck, ek, rfl, hk, hnum, hlb, hrty, hrfr, _, _⟩ := hr.open9
 refine C2 Tryz.func161 rfl Tryz.ntmps161 Tryz.results161 rfl ?_
 intro w0
 refine A5 ?_
 refine sE (C7 rfl rfl) rfl (fun b3 => ?_)
 refine sE (A8 rfl) rfl (fun b4 => ?_)
 refine J0 ?_
 refine C3 (tS (tR (sB (qE rfl rfl) rfl rfl (fun h18 => ?_) (fun h18 => ?_))))
 refine B5 ?_
 (have hl2 : ts.length = 2 := hop.1 (by omega); obtain ⟨b0, o0, q0, d0, hp0, hat0, hre0, hg0⟩ := hsl.kidTy hkl (i := 0) (by omega) (by omega); obtain ⟨b1, o1, q1, d1, hp1, hat1, hre1, hg1⟩ := hsl.kidTy hkl (i := 1) (by omega) (by omega); cases hp0; cases hp1; refine sP (B6 (j := 0) rfl rfl rfl (by omega)) rfl rfl ?_)
 refine sL (A3 rfl rfl (hat0 _) rfl) rfl rfl ?_
 focus (refine E5 rfl (A3E 4 ts[0] G _ (.inl rfl) (ha0 (by omega)) hre0) rfl rfl (fun v G1 hle1 hh => ?_); obtain ⟨ma, mca, mb, mcb, rfl, hma, hmb, hma2, hmb2, hpp⟩ := hh; obtain ⟨p1, c1, e1, rfl, _⟩ := hma.open; obtain ⟨p2, c2, e2, rfl, _⟩ := hmb.open; replace hsl := hsl.mono hle1; replace hkl := hkl.mono hle1; rcases hm : R6 4 ts[0] with _ | pr; rotate_left; obtain rfl := hpp _ hm; rotate_left; all_goals simp only [Option.isSome])
 refine B7 ?_
 refine sE (A8 rfl) rfl (fun b33 => ?_)
 refine sE (A8 rfl) rfl (fun b34 => ?_)
 refine B0 ?_
 (have hl2 : ts.length = 2 := hop.1 (by omega); obtain ⟨b0, o0, q0, d0, hp0, hat0, hre0, hg0⟩ := hsl.kidTy hkl (i := 0) (by omega) (by omega); obtain ⟨b1, o1, q1, d1, hp1, hat1, hre1, hg1⟩ := hsl.kidTy hkl (i := 1) (by omega) (by omega); cases hp0; cases hp1; refine D8 D9 rfl ?_)
 refine L3 (i := 0) (l' := [tt,ff,ff,ff,ff,ff,ff,ff,ff,ff,ff]) rfl D3 (A6 rfl rfl) rfl (by kernel_rfl) rfl rfl ?_
 refine aP 1 rfl (qM rfl) rfl ?_
 refine aP 2 rfl (qM rfl) rfl ?_
 refine C5 3 rfl rfl rfl ?_
 refine C5 4 rfl rfl rfl ?_
 refine C5 5 rfl rfl rfl ?_
 refine C5 6 rfl rfl rfl ?_
 refine C5 7 rfl rfl rfl ?_
 refine aP 8 rfl (P6 rfl rfl) rfl ?_
 refine A4 9 ?_
 refine H8 rfl ?_
 refine aP 10 rfl (qA rfl) rfl ?_
 refine B2 ?_
 refine I5 (rC rfl (A6 rfl rfl)) (rT rfl) ?_
 (obtain rfl : k = 6 := (by omega); exact S1.no (by rw [B1u (by omega), hm]) hmb hmb2)
 refine B7 ?_
 refine sE (A8 rfl) rfl (fun b65 => ?_)
 refine sE (A8 rfl) rfl (fun b66 => ?_)
 refine B0 ?_
 (have hl2 : ts.length = 2 := hop.1 (by omega); obtain ⟨b0, o0, q0, d0, hp0, hat0, hre0, hg0⟩ := hsl.kidTy hkl (i := 0) (by omega) (by omega); obtain ⟨b1, o1, q1, d1, hp1, hat1, hre1, hg1⟩ := hsl.kidTy hkl (i := 1) (by omega) (by omega); cases hp0; cases hp1; refine D8 D9 rfl ?_)
 refine L3 (i := 0) (l' := [tt,ff,ff,ff,ff,ff,ff,ff,ff,ff,ff]) rfl D3 (A6 rfl rfl) rfl (by kernel_rfl) rfl rfl ?_
 refine aP 1 rfl (qM rfl) rfl ?_
 refine aP 2 rfl (qM rfl) rfl ?_
 refine aP 3 rfl (qM rfl) rfl ?_
 refine aP 4 rfl (B6 (j := 1) rfl rfl rfl (by omega)) rfl ?_
 refine aL 5 rfl (A3 rfl rfl (hat1 _) rfl) rfl ?_
 refine aL 6 rfl (A6 rfl rfl) rfl ?_
 refine A4 7 ?_
 refine N6 rfl rfl ((A1T ts[1] ma _ _ _ (ha1 (by omega)) hma2 hre1 hma)) rfl rfl rfl ?_
 refine aP 8 rfl (N3 rfl rfl) rfl ?_
 refine A4 9 ?_
 refine H8 rfl ?_
 refine aP 10 rfl (qA rfl) rfl ?_
 refine B2 ?_
 refine I5 (rC rfl (A6 rfl rfl)) (rT rfl) ?_
 (obtain rfl : k = 6 := (by omega); exact S1.mk (by rw [B1u (by omega), hm]) hmb hmb2)
 refine B0 ?_
 refine sB (qE rfl rfl) rfl rfl (fun h100 => ?_) (fun h100 => ?_)
 refine B2 ?_
 (have hl2 : ts.length = 2 := hop.1 (by omega); obtain ⟨b0, o0, q0, d0, hp0, hat0, hre0, hg0⟩ := hsl.kidTy hkl (i := 0) (by omega) (by omega); obtain ⟨b1, o1, q1, d1, hp1, hat1, hre1, hg1⟩ := hsl.kidTy hkl (i := 1) (by omega) (by omega); cases hp0; cases hp1; refine D8 D9 rfl ?_)
 refine I6 (i := 1) (l' := [ff,tt,ff,ff,ff,ff,ff,ff,ff,ff,ff,ff,ff,ff,ff]) rfl D3 (qM rfl) rfl (by kernel_rfl) rfl rfl ?_
 refine aP 2 rfl (B6 (j := 0) rfl rfl rfl (by omega)) rfl ?_
 refine aL 3 rfl (A3 rfl rfl (hat0 _) rfl) rfl ?_
 refine A4 0 ?_
 refine N6 rfl rfl ((A0y _)) rfl rfl rfl ?_
 refine A4 4 ?_
 refine N6 rfl rfl ((A0y _)) rfl rfl rfl ?_
 refine A4 5 ?_
 refine S2 rfl rfl ((A1T ts[0] (.mk 2 []) _ _ _ (ha0 (by omega)) (X0 (by decide) (by decide)) hre0 (O3 _ ⟨by omega, by omega⟩))) rfl rfl rfl (fun h115 => ?_) (fun h115 => ?_)
 refine aP 6 rfl (qM rfl) rfl ?_
 refine aP 7 rfl (qM rfl) rfl ?_
 refine aP 8 rfl (B6 (j := 1) rfl rfl rfl (by omega)) rfl ?_
 refine aL 9 rfl (A3 rfl rfl (hat1 _) rfl) rfl ?_
 refine A4 10 ?_
 refine N6 rfl rfl ((A0y _)) rfl rfl rfl ?_
 refine A4 11 ?_
 refine N6 rfl rfl ((A1T ts[1] (.mk 2 []) _ _ _ (ha1 (by omega)) (X0 (by decide) (by decide)) hre1 (O3 _ ⟨by omega, by omega⟩))) rfl rfl rfl ?_
 refine aP 12 rfl (N3 rfl rfl) rfl ?_
 refine A4 13 ?_
 refine H8 rfl ?_
 refine aP 14 rfl (qA rfl) rfl ?_
 refine B2 ?_
 refine I5 (rC rfl (A6 rfl rfl)) (rT rfl) ?_
 exact B1x
 refine aP 6 rfl (qM rfl) rfl ?_
 refine C5 7 rfl rfl rfl ?_
 refine C5 8 rfl rfl rfl ?_
 refine C5 9 rfl rfl rfl ?_
 refine C5 10 rfl rfl rfl ?_
 refine C5 11 rfl rfl rfl ?_
 refine aP 12 rfl (P6 rfl rfl) rfl ?_
 refine A4 13 ?_
 refine H8 rfl ?_
 refine aP 14 rfl (qA rfl) rfl ?_
 refine B2 ?_
 refine I5 (rC rfl (A6 rfl rfl)) (rT rfl) ?_
 exact B1x
 refine B0 ?_
 refine sB (qE rfl rfl) rfl rfl (fun h158 => ?_) (fun h158 => ?_)
 refine B2 ?_
 (have hl2 : ts.length = 2 := hop.1 (by omega); obtain ⟨b0, o0, q0, d0, hp0, hat0, hre0, hg0⟩ := hsl.kidTy hkl (i := 0) (by omega) (by omega); obtain ⟨b1, o1, q1, d1, hp1, hat1, hre1, hg1⟩ := hsl.kidTy hkl (i := 1) (by omega) (by omega); cases hp0; cases hp1; refine D8 D9 rfl ?_)
 refine I6 (i := 1) (l' := [ff,tt,ff,ff,ff,ff,ff,ff,ff,ff,ff,ff,ff,ff,ff]) rfl D3 (qM rfl) rfl (by kernel_rfl) rfl rfl ?_
 refine aP 2 rfl (B6 (j := 0) rfl rfl rfl (by omega)) rfl ?_
 refine aL 3 rfl (A3 rfl rfl (hat0 _) rfl) rfl ?_
 refine A4 0 ?_
 refine N6 rfl rfl ((A3j _)) rfl rfl rfl ?_
 refine A4 4 ?_
 refine N6 rfl rfl ((A0y _)) rfl rfl rfl ?_
 refine A4 5 ?_
 refine S2 rfl rfl ((A1T ts[0] (.mk 2 []) _ _ _ (ha0 (by omega)) (X0 (by decide) (by decide)) hre0 (O3 _ ⟨by omega, by omega⟩))) rfl rfl rfl (fun h173 => ?_) (fun h173 => ?_)
 refine aP 6 rfl (qM rfl) rfl ?_
 refine aP 7 rfl (qM rfl) rfl ?_
 refine aP 8 rfl (B6 (j := 1) rfl rfl rfl (by omega)) rfl ?_
 refine aL 9 rfl (A3 rfl rfl (hat1 _) rfl) rfl ?_
 refine A4 10 ?_
 refine N6 rfl rfl ((A0y _)) rfl rfl rfl ?_
 refine A4 11 ?_
 refine N6 rfl rfl ((A1T ts[1] (.mk 2 []) _ _ _ (ha1 (by omega)) (X0 (by decide) (by decide)) hre1 (O3 _ ⟨by omega, by omega⟩))) rfl rfl rfl ?_
 refine aP 12 rfl (N3 rfl rfl) rfl ?_
 refine A4 13 ?_
 refine H8 rfl ?_
 refine aP 14 rfl (qA rfl) rfl ?_
 refine B2 ?_
 refine I5 (rC rfl (A6 rfl rfl)) (rT rfl) ?_
 exact B1y
 refine aP 6 rfl (qM rfl) rfl ?_
 refine C5 7 rfl rfl rfl ?_
 refine C5 8 rfl rfl rfl ?_
 refine C5 9 rfl rfl rfl ?_
 refine C5 10 rfl rfl rfl ?_
 refine C5 11 rfl rfl rfl ?_
 refine aP 12 rfl (P6 rfl rfl) rfl ?_
 refine A4 13 ?_
 refine H8 rfl ?_
 refine aP 14 rfl (qA rfl) rfl ?_
 refine B2 ?_
 refine I5 (rC rfl (A6 rfl rfl)) (rT rfl) ?_
 exact B1y
 refine B0 ?_
 refine sB (qE rfl rfl) rfl rfl (fun h216 => ?_) (fun h216 => ?_)
 refine B0 ?_
 (have hl3 : ts.length = 3 := hop.2.1 (by omega); obtain ⟨b0, o0, q0, d0, hp0, hat0, hre0, hg0⟩ := hsl.kidTy hkl (i := 0) (by omega) (by omega); obtain ⟨b1, o1, q1, d1, hp1, hat1, hre1, hg1⟩ := hsl.kidTy hkl (i := 1) (by omega) (by omega); obtain ⟨b2, o2, q2, d2, hp2, hat2, hre2, hg2⟩ := hsl.kidTy hkl (i := 2) (by omega) (by omega); cases hp0; cases hp1; cases hp2; refine D8 D9 rfl ?_)
 refine I6 (i := 0) (l' := [tt,ff,ff,ff,ff,ff,ff,ff]) rfl D3 (qM rfl) rfl (by kernel_rfl) rfl rfl ?_
 refine aP 1 rfl (B6 (j := 1) rfl rfl rfl (by omega)) rfl ?_
 refine aL 2 rfl (A3 rfl rfl (hat1 _) rfl) rfl ?_
 refine aP 3 rfl (qM rfl) rfl ?_
 refine aP 4 rfl (B6 (j := 2) rfl rfl rfl (by omega)) rfl ?_
 refine aL 5 rfl (A3 rfl rfl (hat2 _) rfl) rfl ?_
 refine A4 6 ?_
 refine S2 rfl rfl ((A1T ts[1] ts[2] _ _ _ (ha1 (by omega)) (ha2 (by omega)) hre1 hre2)) rfl rfl rfl (fun h231 => ?_) (fun h231 => ?_)
 refine aP 7 rfl (pNt rfl) rfl ?_
 refine B0 ?_
 (have hl3 : ts.length = 3 := hop.2.1 (by omega); obtain ⟨b0, o0, q0, d0, hp0, hat0, hre0, hg0⟩ := hsl.kidTy hkl (i := 0) (by omega) (by omega); obtain ⟨b1, o1, q1, d1, hp1, hat1, hre1, hg1⟩ := hsl.kidTy hkl (i := 1) (by omega) (by omega); obtain ⟨b2, o2, q2, d2, hp2, hat2, hre2, hg2⟩ := hsl.kidTy hkl (i := 2) (by omega) (by omega); cases hp0; cases hp1; cases hp2; refine D8 D9 rfl ?_)
 refine I6 (i := 0) (l' := [tt,ff,ff,ff,ff,ff,ff,ff,ff,ff,ff,ff,ff,ff]) rfl D3 (qM rfl) rfl (by kernel_rfl) rfl rfl ?_
 refine aP 1 rfl (B6 (j := 1) rfl rfl rfl (by omega)) rfl ?_
 refine aL 2 rfl (A3 rfl rfl (hat1 _) rfl) rfl ?_
 refine aP 3 rfl (qM rfl) rfl ?_
 refine aP 4 rfl (B6 (j := 2) rfl rfl rfl (by omega)) rfl ?_
 refine aL 5 rfl (A3 rfl rfl (hat2 _) rfl) rfl ?_
 refine aP 7 rfl (qM rfl) rfl ?_
 refine aP 8 rfl (B6 (j := 0) rfl rfl rfl (by omega)) rfl ?_
 refine aL 9 rfl (A3 rfl rfl (hat0 _) rfl) rfl ?_
 refine A4 6 ?_
 (refine H4 rfl rfl (B6R ts[1] ts[2] G _ _ (by assumption) (ha1 (by omega)) (ha2 (by omega)) hre1 hre2) rfl rfl rfl (fun v G1 hle1 hh => ?_); obtain ⟨mc, rfl, hmr⟩ := hh; obtain ⟨mt, hmt⟩ : ∃ mt, U8 ts[1] ts[2] = mt := ⟨_, rfl⟩; rw [hmt] at hmr; have hma : F8 mt := (hmt ▸ B6U ts[1] ts[2] (by assumption) (ha1 (by omega)) (ha2 (by omega))); obtain ⟨p1, c1, e1, rfl, _⟩ := hmr.open; have hre0q := hre0.mono hle1)
 refine A4 10 ?_
 refine N6 rfl rfl ((A3j _)) rfl rfl rfl ?_
 refine A4 11 ?_
 refine N6 rfl rfl ((A1T ts[0] (.mk 3 []) _ _ _ (ha0 (by omega)) (X0 (by decide) (by decide)) hre0q (O3 _ ⟨by omega, by omega⟩))) rfl rfl rfl ?_
 refine A4 12 ?_
 refine H8 rfl ?_
 refine aP 13 rfl (qA rfl) rfl ?_
 refine B2 ?_
 refine I5 (rC rfl (A6 rfl rfl)) (rT rfl) ?_
 (obtain rfl : k = 9 := (by omega); exact S1.mk (by rw [B1w (by omega), hmt]; simp_all [U4]) hmr hma)
 refine aP 7 rfl (pNf rfl) rfl ?_
 refine J1 ?_
 refine I5 (rC rfl (A6 rfl rfl)) (rT rfl) ?_
 (obtain rfl : k = 9 := (by omega); exact S1.no (by rw [B1w (by omega)]; simp_all) (O3 _ ⟨by omega, by omega⟩) (X0 (by omega) (by omega)))
 refine B0 ?_
 refine sB (qE rfl rfl) rfl rfl (fun h288 => ?_) (fun h288 => ?_)
 refine B2 ?_
 (have hl2 : ts.length = 2 := hop.1 (by omega); obtain ⟨b0, o0, q0, d0, hp0, hat0, hre0, hg0⟩ := hsl.kidTy hkl (i := 0) (by omega) (by omega); obtain ⟨b1, o1, q1, d1, hp1, hat1, hre1, hg1⟩ := hsl.kidTy hkl (i := 1) (by omega) (by omega); cases hp0; cases hp1; refine D8 D9 rfl ?_)
 refine I6 (i := 0) (l' := [tt,ff,ff,ff,ff,ff,ff,ff,ff,ff,ff]) rfl D3 (qM rfl) rfl (by kernel_rfl) rfl rfl ?_
 refine aP 1 rfl (B6 (j := 0) rfl rfl rfl (by omega)) rfl ?_
 refine aL 2 rfl (A3 rfl rfl (hat0 _) rfl) rfl ?_
 refine aP 3 rfl (qM rfl) rfl ?_
 refine aP 4 rfl (B6 (j := 1) rfl rfl rfl (by omega)) rfl ?_
 refine aL 5 rfl (A3 rfl rfl (hat1 _) rfl) rfl ?_
 refine A4 6 ?_
 (refine H4 rfl rfl (A20 5 ts[0] ts[1] G _ _ (.inr rfl) (ha0 (by omega)) (ha1 (by omega)) hre0 hre1) rfl rfl rfl (fun v G1 hle1 hh => ?_); obtain ⟨mc, rfl, hmr⟩ := hh; have hma := A9C (.inr rfl) (ha0 (by omega)) (ha1 (by omega)); obtain ⟨p1, c1, e1, rfl, _⟩ := hmr.open)
 refine aP 7 rfl (pX rfl rfl) rfl ?_
 refine aP 8 rfl (pX rfl rfl) rfl ?_
 refine A4 9 ?_
 refine H8 rfl ?_
 refine aP 10 rfl (qA rfl) rfl ?_
 refine B2 ?_
 refine I5 (rC rfl (A6 rfl rfl)) (rT rfl) ?_
 (obtain rfl : k = 10 := (by omega); exact S1.mk (by rw [B6S (by omega)]) hmr hma)
 refine B0 ?_
 refine sB (qE rfl rfl) rfl rfl (fun h321 => ?_) (fun h321 => ?_)
 refine B5 ?_
 (have hl1 : ts.length = 1 := hop.2.2 (by omega); obtain ⟨b0, o0, q0, d0, hp0, hat0, hre0, hg0⟩ := hsl.kidTy hkl (i := 0) (by omega) (by omega); cases hp0; refine sP (B6 (j := 0) rfl rfl rfl (by omega)) rfl rfl ?_)
 refine sL (A3 rfl rfl (hat0 _) rfl) rfl rfl ?_
 focus (refine E5 rfl (A3E 5 ts[0] G _ (.inr rfl) (ha0 (by omega)) hre0) rfl rfl (fun v G1 hle1 hh => ?_); obtain ⟨ma, mca, mb, mcb, rfl, hma, hmb, hma2, hmb2, hpp⟩ := hh; obtain ⟨p1, c1, e1, rfl, _⟩ := hma.open; obtain ⟨p2, c2, e2, rfl, _⟩ := hmb.open; rcases hm : R6 5 ts[0] with _ | pr; rotate_left; obtain rfl := hpp _ hm; rotate_left; all_goals simp only [Option.isSome])
 refine B7 ?_
 refine sE (A8 rfl) rfl (fun b336 => ?_)
 refine sE (A8 rfl) rfl (fun b337 => ?_)
 refine K4 ?_
 refine I5 (rC rfl (A6 rfl rfl)) (rT rfl) ?_
 (have hk11 : k = 11 := (by omega); exact S1.no (by rw [A5C (.inl hk11) (by omega), hm]) hma hma2)
 refine B7 ?_
 refine sE (A8 rfl) rfl (fun b360 => ?_)
 refine sE (A8 rfl) rfl (fun b361 => ?_)
 refine K4 ?_
 refine I5 (rC rfl (A6 rfl rfl)) (rT rfl) ?_
 (have hk11 : k = 11 := (by omega); exact S1.yes (by rw [A5C (.inl hk11) (by omega), hm]; simp only; rw [if_neg (by omega)]) hma hma2)
 refine B0 ?_
 refine sB (qE rfl rfl) rfl rfl (fun h386 => ?_) (fun h386 => ?_)
 refine B5 ?_
 (have hl1 : ts.length = 1 := hop.2.2 (by omega); obtain ⟨b0, o0, q0, d0, hp0, hat0, hre0, hg0⟩ := hsl.kidTy hkl (i := 0) (by omega) (by omega); cases hp0; refine sP (B6 (j := 0) rfl rfl rfl (by omega)) rfl rfl ?_)
 refine sL (A3 rfl rfl (hat0 _) rfl) rfl rfl ?_
 focus (refine E5 rfl (A3E 5 ts[0] G _ (.inr rfl) (ha0 (by omega)) hre0) rfl rfl (fun v G1 hle1 hh => ?_); obtain ⟨ma, mca, mb, mcb, rfl, hma, hmb, hma2, hmb2, hpp⟩ := hh; obtain ⟨p1, c1, e1, rfl, _⟩ := hma.open; obtain ⟨p2, c2, e2, rfl, _⟩ := hmb.open; rcases hm : R6 5 ts[0] with _ | pr; rotate_left; obtain rfl := hpp _ hm; rotate_left; all_goals simp only [Option.isSome])
 refine B7 ?_
 refine sE (A8 rfl) rfl (fun b401 => ?_)
 refine sE (A8 rfl) rfl (fun b402 => ?_)
 refine K4 ?_
 refine I5 (rC rfl (A6 rfl rfl)) (rT rfl) ?_
 (have hk12 : k = 12 := (by omega); exact S1.no (by rw [A5C (.inr hk12) (by omega), hm]) hmb hmb2)
 refine B7 ?_
 refine sE (A8 rfl) rfl (fun b425 => ?_)
 refine sE (A8 rfl) rfl (fun b426 => ?_)
 refine K4 ?_
 refine I5 (rC rfl (A6 rfl rfl)) (rT rfl) ?_
 (have hk12 : k = 12 := (by omega); exact S1.yes (by rw [A5C (.inr hk12) (by omega), hm]; simp only; rw [if_pos (by omega)]) hmb hmb2)
 refine B0 ?_
 refine sP (W8 rfl rfl (by omega)) rfl rfl ?_
 refine B2 ?_
 (have hl1 : ts.length = 1 := hop.2.2 (by omega); obtain ⟨b0, o0, q0, d0, hp0, hat0, hre0, hg0⟩ := hsl.kidTy hkl (i := 0) (by omega) (by omega); cases hp0; refine D8 D9 rfl ?_)
 refine I6 (i := 0) (l' := [tt,ff,ff,ff,ff,ff,ff,ff,ff,ff,ff]) rfl D3 (B8 rfl) rfl (by kernel_rfl) rfl rfl ?_
 refine aL 1 rfl (A6 rfl rfl) rfl ?_
 refine aP 3 rfl (qM rfl) rfl ?_
 refine aP 4 rfl (B6 (j := 0) rfl rfl rfl (by omega)) rfl ?_
 refine aL 5 rfl (A3 rfl rfl (hat0 _) rfl) rfl ?_
 refine aP 6 rfl (B8 rfl) rfl ?_
 refine aL 7 rfl (A6 rfl rfl) rfl ?_
 refine A4 2 ?_
 (refine H4 rfl rfl (P7 (.mk tk tks) G _ hty.small hrty) rfl rfl rfl (fun v G1 hle1 hh => ?_); obtain ⟨cs1, F1, rfl, hs1, hn1⟩ := hh; obtain ⟨p1, c1, rfl, _⟩ := hs1.open; have hmr := hs1.R.mono (C9.le G1 G); have hre0q := hre0.mono hle1; have hrtyq := hrty.mono hle1)
 refine A4 8 ?_
 refine N6 rfl rfl ((A1T ts[0] (.mk tk tks) _ _ _ (ha0 (by omega)) hty hre0q hrtyq)) rfl rfl rfl ?_
 refine A4 9 ?_
 refine H8 rfl ?_
 refine aP 10 rfl (qA rfl) rfl ?_
 refine B2 ?_
 refine I5 (rC rfl (A6 rfl rfl)) (rT rfl) ?_
 (obtain rfl : k = 13 := (by omega); exact S1.mk (by rw [B6T (by omega)]) hmr hty)
section
variable {ak bk : Int} {aks bks : List Ty}
theorem B6W (h : ak ≠ bk) : M5 (.mk ak aks) (.mk bk bks) = false := by rw [A3f, decide_eq_false h]; rfl
theorem B6X (h : aks.length ≠ bks.length) : M5 (.mk ak aks) (.mk bk bks) = false := by
 rw [A3f]
 cases hl : A0i aks bks with
 | false => simp
 | true => exact absurd ((A32 _ _).1 hl).1 h
theorem B6Y {i : Nat} (hi : i < aks.length) (hi' : i < bks.length) (h : M5 aks[i] bks[i] = false) : M5 (.mk ak aks) (.mk bk bks) = false := by
 rw [A3f]
 cases hl : A0i aks bks with
 | false => simp
 | true => have := ((A32 _ _).1 hl).2 i hi hi'; rw [h] at this; cases this
theorem B6Z (hk : ak = bk) (hl : aks.length = bks.length) (h : ∀ i, (h : i < aks.length) → (h' : i < bks.length) → M5 aks[i] bks[i] = true) : M5 (.mk ak aks) (.mk bk bks) = true := by
 rw [A3f, decide_eq_true hk, (A32 _ _).2 ⟨hl, h⟩]; rfl
end
theorem B1z : ∀ (a b : Ty) (G : IM) (ca cb : List Value), C1 G a ca → C1 G b cb → Fn Tryz.prog 98 [.agg ⟨ca⟩, .agg ⟨cb⟩] [] G (H5 (.bool (M5 a b)) G) := by
 refine Ty.ind fun ak aks ih b G ca cb hra hrb => ?_
 obtain ⟨bk, bks⟩ := b
 obtain ⟨pa, cca, ea, rfl, hak, hsla, hkla⟩ := hra.open
 obtain ⟨pb, ccb, eb, rfl, hbk, hslb, hklb⟩ := hrb.open
 simp only [Ty.k, Ty.ks] at hak hsla hkla hbk hslb hklb ⊢
 have hna := hsla.le
 have hnb := hslb.le
 have e1 := @B6W ak bk aks bks
 have e2 := @B6X ak bk aks bks
 have e3 := fun i => @B6Y ak bk aks bks i
 have e4 := @B6Z ak bk aks bks
 generalize M5 (.mk ak aks) (.mk bk bks) = R at e1 e2 e3 e4 ⊢
 refine C2 Tryz.func98 rfl Tryz.ntmps98 Tryz.results98 rfl ?_
 intro w0
 refine A5 ?_
 refine sE (C7 rfl rfl) rfl (fun b3 => ?_)
 refine sE (C7 rfl rfl) rfl (fun b4 => ?_)
 refine J0 ?_
 refine sB (M1 rfl rfl) rfl rfl (fun h15 => ?_) (fun h15 => ?_)
 refine A0o ?_
 (exact ⟨rfl, by rw [e1 (by omega)], rfl⟩)
 refine B5 ?_
 refine sB (M1 rfl rfl) rfl rfl (fun h44 => ?_) (fun h44 => ?_)
 refine N5 ?_
 (exact ⟨rfl, by rw [e2 (by omega)], rfl⟩)
 refine N5 ?_
 refine C3 ?_
 (refine K2 (fun (i : Nat) => ⟨[(5, .int .i64 i), (2, .pointer (some ⟨b3, 0, none⟩)), (3, .pointer (some ⟨b4, 0, none⟩))], [.blk b4 [.int .i64 bk, .slice pb bks.length ccb], .blk b3 [.int .i64 ak, .slice pa aks.length cca]], G⟩) (fun i => i ≤ aks.length ∧ ∀ j, (h : j < aks.length) → (h' : j < bks.length) → j < i → M5 aks[j] bks[j] = true) (fun i => aks.length - i) 0 ?_ ?_ ?_)
 exact E2
 (exact ⟨Nat.zero_le _, fun j _ _ hj => absurd hj (Nat.not_lt_zero j)⟩)
 (rintro i ⟨hi, hall⟩)
 refine B5 ?_
 refine sB (J8 rfl rfl) rfl rfl (fun h82 => ?_) (fun h82 => ?_)
 refine B0 ?_
 refine C3 ?_
 refine tS ?_
 (obtain ⟨b, o, q0, d0, hp0, hat0, hre0, hg0⟩ := hsla.kidTy hkla (i := i) (by omega) (by omega); obtain ⟨b', o', q1, d1, hp1, hat1, hre1, hg1⟩ := hslb.kidTy hklb (i := i) (by omega) (by omega); subst hp0; subst hp1; have hih := ih aks[i] (List.getElem_mem (by omega)) bks[i] G _ _ hre0 hre1; refine D8 D9 rfl ?_)
 refine I6 (i := 0) (l' := [tt,ff,ff,ff,ff,ff,ff,ff,ff,ff,ff,ff]) rfl D3 (B8 rfl) rfl (by kernel_rfl) rfl rfl ?_
 refine aL 1 rfl (C4 rfl rfl) rfl ?_
 refine aP 2 rfl (qM rfl) rfl ?_
 refine aP 3 rfl (B6 rfl rfl rfl (by omega)) rfl ?_
 refine aL 4 rfl (A3 rfl rfl (hat0 _) rfl) rfl ?_
 refine aP 5 rfl (B8 rfl) rfl ?_
 refine aL 6 rfl (C4 rfl rfl) rfl ?_
 refine aP 7 rfl (qM rfl) rfl ?_
 refine aP 8 rfl (B6 rfl rfl rfl (by omega)) rfl ?_
 refine aL 9 rfl (A3 rfl rfl (hat1 _) rfl) rfl ?_
 refine A4 10 ?_
 refine S2 rfl rfl (hih) rfl rfl rfl (fun h103 => ?_) (fun h103 => ?_)
 refine aP 11 rfl (pNt rfl) rfl ?_
 refine D0 ?_
 refine sP (J6 rfl rfl (by omega) (by omega)) rfl rfl ?_
 refine A5 ?_
 refine K3 (i + 1) ?_ ?_ ?_
 exact E2
 (exact ⟨by omega, fun j h h' hj => by by_cases hji : j = i; (subst hji; assumption); exact hall j h h' (by omega)⟩)
 omega
 refine aP 11 rfl (pNf rfl) rfl ?_
 refine H6 ?_
 (exact ⟨rfl, by rw [e3 i (by omega) (by omega) (by assumption)], rfl⟩)
 refine H6 ?_
 (exact ⟨rfl, by rw [e4 (by omega) (by omega) (fun j h h' => hall j h h' (by omega))], rfl⟩)
theorem A7r {Q : Prop} (h : Q := by (exact ⟨rfl, _, _, rfl, T4.snoc (nm := nm) (t := .mk k ks) hx1 h2.len h2.all h2.one h3 hle5 ⟨_, _, rfl, hr.mono hle5⟩ hsl5⟩)) : Q := h
theorem B1A (G : IM) (cx : Cx) (p : Option Addr) (n c : Nat) (nm : ByteArray) (t : Ty) (cells : List Value) (hx : T4 G cx p n c) (hn : n ≤ 1000) (hr : C1 G t cells) :
  Fn Tryz.prog 130 [.slice p n c, .string nm, .agg ⟨cells⟩] [] G (M3 fun G' v => ∃ p' c', v = .slice p' (n + 1) c' ∧ T4 G' (cx ++ [(nm, t)]) p' (n + 1) c') := by
 obtain ⟨k, ks⟩ := t
 obtain ⟨q, d, es0, rfl, _⟩ := hr.open
 simp only [Ty.k, Ty.ks] at hr ⊢
 obtain ⟨hx1, es, h2, h3⟩ := id hx
 have hSl : Sl G p n c 3 es.flatten := h2.1
 have h1c : ∀ u ∈ es.flatten, u.oneCell' = true := by
  intro u hu
  obtain ⟨e, he, hue⟩ := List.mem_flatten.1 hu
  exact List.all_eq_true.1 (h2.one e he) u hue
 refine C2 Tryz.func130 rfl Tryz.ntmps130 Tryz.results130 rfl ?_
 intro w0
 refine A5 ?_
 refine sE (C7 rfl rfl) rfl (fun b3 => ?_)
 refine B7 ?_
 refine D8 D9 rfl ?_
 refine I6 (i := 1) (l' := [ff,tt,ff,ff,ff,ff,ff,ff,ff]) rfl D3 (qM rfl) rfl (by kernel_rfl) rfl rfl ?_
 refine aP 3 rfl (qM rfl) rfl ?_
 refine aL 4 rfl (A6 rfl rfl) rfl ?_
 refine aP 5 rfl (X5 rfl rfl) rfl ?_
 refine Q8 (j := 0) (j' := 6) (by kernel_rfl) ?_ ?_
 (refine E6 rfl (D2 rfl rfl rfl (by omega) (by unfold maxLen; omega) rfl) rfl rfl ?_; rintro _ ⟨b14, rfl⟩)
 refine Q8 (j := 2) (j' := 6) (by kernel_rfl) ?_ ?_
 (refine A3i rfl rfl rfl rfl rfl rfl (fun _ _ => by repeat (first | exact Sw.here | apply Sw.there)) hSl h1c (Nat.zero_le _) (by unfold maxLen; omega) (by omega) rfl rfl (by repeat (first | exact A9.nil | apply A9.dep (by decide +kernel) | apply A9.blk (by decide +kernel) (by repeat (first | exact Pk.here | apply Pk.there)) (by repeat first | exact mH | apply mT))) (fun p4 c4 => ?_); simp only [Nat.zero_add, List.nil_append])
 refine A4 6 ?_
 (refine E6 rfl (D2 rfl rfl rfl (by omega) (by unfold maxLen; omega) rfl) rfl rfl ?_; rintro _ ⟨b18, rfl⟩)
 refine A4 7 ?_
 (refine R4 rfl rfl rfl rfl rfl rfl (fun _ _ => by repeat (first | exact Sw.here | apply Sw.there)) (O2 (by repeat first | exact mH | apply mT)) rfl (by simp [Value.oneCell']) (by unfold maxLen; omega) (by omega) rfl rfl (by repeat (first | exact A9.nil | apply A9.dep (by decide +kernel) | apply A9.blk (by decide +kernel) (by repeat (first | exact Pk.here | apply Pk.there)) (by repeat first | exact mH | apply mT))) (fun p5 c5 => ?_))
 refine aP 8 rfl (qA rfl) rfl ?_
 refine A5 ?_
 (refine H3 (cs := es.flatten ++ [.string nm, .int .i64 k, .slice q ks.length d]) (by repeat (first | exact Pk.here | apply Pk.there)) (fun G5 hle5 hsl5 hno5 => ?_))
 refine A5 ?_
 exact A7r
 (refine E6 rfl (D2 rfl rfl rfl (by omega) (by unfold maxLen; omega) rfl) rfl rfl ?_; rintro _ ⟨b28, rfl⟩)
 refine A4 2 ?_
 (refine A3i rfl rfl rfl rfl rfl rfl (fun _ _ => by repeat (first | exact Sw.here | apply Sw.there)) hSl h1c (Nat.zero_le _) (by unfold maxLen; omega) (by omega) rfl rfl (by repeat (first | exact A9.nil | apply A9.dep (by decide +kernel) | apply A9.blk (by decide +kernel) (by repeat (first | exact Pk.here | apply Pk.there)) (by repeat first | exact mH | apply mT))) (fun p4 c4 => ?_); simp only [Nat.zero_add, List.nil_append])
 refine A4 7 ?_
 (refine R4 rfl rfl rfl rfl rfl rfl (fun _ _ => by repeat (first | exact Sw.here | apply Sw.there)) (O2 (by repeat first | exact mH | apply mT)) rfl (by simp [Value.oneCell']) (by unfold maxLen; omega) (by omega) rfl rfl (by repeat (first | exact A9.nil | apply A9.dep (by decide +kernel) | apply A9.blk (by decide +kernel) (by repeat (first | exact Pk.here | apply Pk.there)) (by repeat first | exact mH | apply mT))) (fun p5 c5 => ?_))
 refine aP 8 rfl (qA rfl) rfl ?_
 refine A5 ?_
 (refine H3 (cs := es.flatten ++ [.string nm, .int .i64 k, .slice q ks.length d]) (by repeat (first | exact Pk.here | apply Pk.there)) (fun G5 hle5 hsl5 hno5 => ?_))
 refine A5 ?_
 exact A7r
 (refine E6 rfl (D2 rfl rfl rfl (by omega) (by unfold maxLen; omega) rfl) rfl rfl ?_; rintro _ ⟨b40, rfl⟩)
 refine A4 0 ?_
 (refine E6 rfl (D2 rfl rfl rfl (by omega) (by unfold maxLen; omega) rfl) rfl rfl ?_; rintro _ ⟨b42, rfl⟩)
 refine A4 2 ?_
 (refine A3i rfl rfl rfl rfl rfl rfl (fun _ _ => by repeat (first | exact Sw.here | apply Sw.there)) hSl h1c (Nat.zero_le _) (by unfold maxLen; omega) (by omega) rfl rfl (by repeat (first | exact A9.nil | apply A9.dep (by decide +kernel) | apply A9.blk (by decide +kernel) (by repeat (first | exact Pk.here | apply Pk.there)) (by repeat first | exact mH | apply mT))) (fun p4 c4 => ?_); simp only [Nat.zero_add, List.nil_append])
 refine A4 7 ?_
 (refine R4 rfl rfl rfl rfl rfl rfl (fun _ _ => by repeat (first | exact Sw.here | apply Sw.there)) (O2 (by repeat first | exact mH | apply mT)) rfl (by simp [Value.oneCell']) (by unfold maxLen; omega) (by omega) rfl rfl (by repeat (first | exact A9.nil | apply A9.dep (by decide +kernel) | apply A9.blk (by decide +kernel) (by repeat (first | exact Pk.here | apply Pk.there)) (by repeat first | exact mH | apply mT))) (fun p5 c5 => ?_))
 refine aP 8 rfl (qA rfl) rfl ?_
 refine A5 ?_
 (refine H3 (cs := es.flatten ++ [.string nm, .int .i64 k, .slice q ks.length d]) (by repeat (first | exact Pk.here | apply Pk.there)) (fun G5 hle5 hsl5 hno5 => ?_))
 refine A5 ?_
 exact A7r
theorem B1B {cx : Cx} : ∀ {ks : List Tm} {i : Nat} {us : List Ty} {u : Ty} (hi : i < ks.length), W6 cx (ks.take i) = some us → Q3 cx ks[i] = some u → W6 cx (ks.take (i + 1)) = some (us ++ [u])
 | [], i, us, u, hi, _, _ => by simp at hi
 | t :: ts, 0, us, u, _, h1, h2 => by
  simp only [List.take_zero, W6, Option.some.injEq] at h1
  subst h1
  simp only [List.getElem_cons_zero] at h2
  simp [W6, h2]
 | t :: ts, i + 1, us, u, hi, h1, h2 => by
  simp only [List.take_succ_cons, W6] at h1 ⊢
  split at h1
  ·cases h1
  ·rename_i a ha
   split at h1
   ·cases h1
   ·rename_i bs has
    simp only [Option.some.injEq] at h1
    subst h1
    simp only [List.getElem_cons_succ] at h2
    have := B1B (ks := ts) (i := i) (by simpa using hi) has h2
    simp only [this, List.cons_append]
theorem B1C {cx : Cx} : ∀ {ks : List Tm} {i : Nat} (hi : i < ks.length), Q3 cx ks[i] = none → W6 cx ks = none
 | [], i, hi, _ => by simp at hi
 | t :: ts, 0, _, h => by simp only [List.getElem_cons_zero] at h; rw [W6, h]
 | t :: ts, i + 1, hi, h => by
  simp only [List.getElem_cons_succ] at h
  have := B1C (ks := ts) (i := i) (by simpa using hi) h
  rw [W6, this]
  cases Q3 cx t <;> rfl
section
variable {cx : Cx} {k : Int} {nm : ByteArray} {num : Int} {ty fr : Ty} {lb : Int} {ks : List Tm}
theorem B60 (hk : k = 1) (h0 : ks = []) : Q3 cx (.mk k nm num ty fr lb ks) = P4 cx nm := by
 subst hk h0
 rw [Q3, W6]
 simp only [X9, mW1]
 cases P4 cx nm with
 | none => rfl
 | some t => simp
theorem B61 (hk : k = 2) (h0 : ks = []) : Q3 cx (.mk k nm num ty fr lb ks) = some P9 := by subst hk h0; rfl
theorem B62 (hk : k = 3 ∨ k = 4) (h0 : ks = []) : Q3 cx (.mk k nm num ty fr lb ks) = some U4 := by subst h0; rcases hk with rfl | rfl <;> rfl
theorem B63 {b : Tm} (hk : k = 5) (h : Q3 (cx ++ [(nm, ty)]) b = none) : Q3 cx (.mk k nm num ty fr lb [b]) = none := by
 subst hk; rw [Q3, K1, if_pos rfl, W6, h]
theorem B64 {b : Tm} {t : Ty} (hk : k = 5) (h : Q3 (cx ++ [(nm, ty)]) b = some t) : Q3 cx (.mk k nm num ty fr lb [b]) = if F4 (.mk 4 [ty, t]) = true then some (.mk 4 [ty, t]) else none := by
 subst hk
 rw [Q3, K1, if_pos rfl, W6, h]
 simp only [W6, X9, mW5, List.getD_cons_zero]
 cases F4 (.mk 4 [ty, t]) <;> simp
theorem B65 (hk : k ≠ 5) (h : W6 cx ks = none) : Q3 cx (.mk k nm num ty fr lb ks) = none := by rw [Q3, K1, if_neg hk, h]
theorem B66 {ts : List Ty} (hk : k ≠ 5) (h : W6 cx ks = some ts) : Q3 cx (.mk k nm num ty fr lb ks) = X9 cx k nm ty ts := by rw [Q3, K1, if_neg hk, h]
end
theorem B1D {Q : Prop} (h : Q := by (rw [f3 (by omega)]; exact S1.yes rfl (A0u _) (X0 (by omega) (by omega)))) : Q := h
theorem A7s {Q : Prop} (h : Q := by (rw [f4 (by omega) (by omega) (by first | exact hE | assumption)]; exact S1.no rfl (O3 _ ⟨by omega, by omega⟩) (X0 (by omega) (by omega)))) : Q := h
theorem A7t {Q : Prop} (h : Q := by (rw [f5 _ (by omega) (by omega) (by first | exact hE | assumption)]; exact S1.mk rfl hmr2 (A9C (.inl rfl) hta hma))) : Q := h
theorem B1E : ∀ (e : Tm) (d : Int) (cx : Cx) (G : IM) (p : Option Addr) (n c : Nat) (cells : List Value), M8 12 14 e d = true → (n : Int) ≤ d → cxV cx → T4 G cx p n c → B3 G e cells →
  Fn Tryz.prog 129 [.slice p n c, .agg ⟨cells⟩] [] G (S1 (Q3 cx e) G) := by
 refine Tm.ind fun k nm num ty fr lb ks ih d cx G p n c cells hv hnd hcv hx hr => ?_
 have hr0 := hr
 have hone := hr.one
 obtain ⟨hv1, hv2, hv3, hv4⟩ := A0s hv
 have hvk := (A0W 12 14 ks _).1 hv4
 have har := (U3.1 hv3).1
 have hop := A3l har
 obtain ⟨hta, hts⟩ := A3m hv3
 have hkr : 1 ≤ k ∧ k ≤ 14 := A4p (by rw [har]; omega)
 have hcv5 : k = 5 → cxV (cx ++ [(nm, ty)]) := fun hk => by have := A4e (k := k) (nm := nm) (ty := ty) hcv fun hk => (U3.1 hv3).2.2.2.2.2.1 (.inl hk); rwa [K1, if_pos hk] at this
 have h0 : k ≤ 4 → ks = [] := fun h => List.length_eq_zero_iff.1 (by
  have hk : k = 1 ∨ k = 2 ∨ k = 3 ∨ k = 4 := by omega
  rcases hk with rfl | rfl | rfl | rfl
  ·have : D7 1 = 0 := rfl; omega
  ·have : D7 2 = 0 := rfl; omega
  ·have : D7 3 = 0 := rfl; omega
  ·have : D7 4 = 0 := rfl; omega)
 have f1 := fun hk => @B60 cx k nm num ty fr lb ks hk (h0 (by omega))
 have f2 := fun hk => @B61 cx k nm num ty fr lb ks hk (h0 (by omega))
 have f3 := fun hk => @B62 cx k nm num ty fr lb ks hk (h0 (by omega))
 have f4 : ∀ (hk : k = 5) (hl : 0 < ks.length), Q3 (cx ++ [(nm, ty)]) ks[0] = none → Q3 cx (.mk k nm num ty fr lb ks) = none := fun hk hl h => by
  obtain ⟨b, rfl⟩ := Z6 (hop.2.2 (.inl hk)); exact B63 hk h
 have f5 : ∀ (t : Ty) (hk : k = 5) (hl : 0 < ks.length), Q3 (cx ++ [(nm, ty)]) ks[0] = some t → Q3 cx (.mk k nm num ty fr lb ks) = if F4 (.mk 4 [ty, t]) = true then some (.mk 4 [ty, t]) else none := fun t hk hl h => by
  obtain ⟨b, rfl⟩ := Z6 (hop.2.2 (.inl hk)); exact B64 hk h
 have f6 := @B65 cx k nm num ty fr lb ks
 have f7 := fun ts => @B66 cx k nm num ty fr lb ks ts
 generalize Q3 cx (.mk k nm num ty fr lb ks) = R at f1 f2 f3 f4 f5 f6 f7 ⊢
 obtain ⟨tk, tks⟩ := ty
 obtain ⟨fk, fks⟩ := fr
 obtain ⟨pt, ct, pf, cf, q, cq, es, rfl, hk, hnum, hlb, hty, hfr, hsl, hkl⟩ := hr.open9
 have hlen : ks.length ≤ 3 := by have := A1m k; omega
 refine C2 Tryz.func129 rfl Tryz.ntmps129 Tryz.results129 rfl ?_
 intro w0
 refine A5 ?_
 refine sE (C7 rfl rfl) rfl (fun b3 => ?_)
 refine sE (A8 rfl) rfl (fun b4 => ?_)
 refine J0 ?_
 refine C3 (tS (tR (sB (qE rfl rfl) rfl rfl (fun h18 => ?_) (fun h18 => ?_))))
 refine E1 ?_
 (refine E5 rfl (B6P G cx hcv p n c nm hx) rfl rfl (fun v G1 hle1 hh => ?_); obtain ⟨mt, mc, rfl, hmr, hma, hmu⟩ := hh; obtain ⟨p1, c1, e1, rfl, _⟩ := hmr.open)
 refine E1 ?_
 refine I5 (rC rfl (A6 rfl rfl)) (rT rfl) ?_
 (rw [f1 (by omega)]; exact ⟨rfl, _, _, rfl, hmr, hma, hmu⟩)
 refine B0 ?_
 refine sB (qE rfl rfl) rfl rfl (fun h46 => ?_) (fun h46 => ?_)
 refine B0 ?_
 refine H9 rfl ((A0y _)) rfl rfl ?_
 refine B5 ?_
 refine I5 (rC rfl (A6 rfl rfl)) (rT rfl) ?_
 (rw [f2 (by omega)]; exact S1.yes rfl (K8 _) (X0 (by omega) (by omega)))
 refine B5 ?_
 refine sB (qE rfl rfl) rfl rfl (fun h70 => ?_) (fun h70 => ?_)
 refine E1 ?_
 refine H9 rfl ((A3j _)) rfl rfl ?_
 refine B5 ?_
 refine I5 (rC rfl (A6 rfl rfl)) (rT rfl) ?_
 exact B1D
 refine B2 ?_
 refine sB (qE rfl rfl) rfl rfl (fun h95 => ?_) (fun h95 => ?_)
 refine B0 ?_
 refine H9 rfl ((A3j _)) rfl rfl ?_
 refine B5 ?_
 refine I5 (rC rfl (A6 rfl rfl)) (rT rfl) ?_
 exact B1D
 refine B0 ?_
 refine sB (qE rfl rfl) rfl rfl (fun h118 => ?_) (fun h118 => ?_)
 refine B2 ?_
 (have hl1 : ks.length = 1 := hop.2.2 (by omega); obtain ⟨b, o, e, rfl, hl, hat, hre, hgb⟩ := hsl.kidTm hkl (i := 0) (by omega) (by omega); have hMore := B1A G cx p n c nm (.mk tk tks) _ hx (by omega) hty; refine D8 D9 rfl ?_)
 refine I6 (i := 0) (l' := [tt,ff,ff,ff,ff,ff,ff,ff,ff,ff,ff,ff,ff,ff,ff,ff,ff]) rfl D3 (qM rfl) rfl (by kernel_rfl) rfl rfl ?_
 refine aP 1 rfl (B8 rfl) rfl ?_
 refine aL 2 rfl (C4 rfl rfl) rfl ?_
 refine aP 3 rfl (B8 rfl) rfl ?_
 refine aL 4 rfl (A6 rfl rfl) rfl ?_
 refine aP 6 rfl (B8 rfl) rfl ?_
 refine aL 7 rfl (C4 rfl rfl) rfl ?_
 refine aP 8 rfl (B6 (j := 0) rfl rfl rfl (by omega)) rfl ?_
 refine aL 9 rfl (A3 rfl rfl (hat _) hl) rfl ?_
 refine Q8 (j := 5) (j' := 14) (by kernel_rfl) ?_ ?_
 (refine H4 rfl rfl hMore rfl rfl rfl (fun v G1 hle1 hh => ?_); obtain ⟨pm, cm, rfl, hxm⟩ := hh; have hreM := hre.mono hle1; have hLam := ih ks[0] (List.getElem_mem (by omega)) (d + 1) _ G1 pm (n + 1) cm _ (hvk 0 (by omega)) (by omega) (hcv5 (by omega)) hxm hreM; have htyM := hty.mono hle1)
 refine Q8 (j := 10) (j' := 14) (by kernel_rfl) ?_ ?_
 focus (refine H4 rfl rfl hLam rfl rfl rfl (fun v G2 hle2 hh => ?_); obtain ⟨mt, mc, rfl, hmr, hma, hmu⟩ := hh; obtain ⟨p1, c1, e1, rfl, _⟩ := hmr.open; have htyN := htyM.mono hle2; rcases hE : Q3 (cx ++ [(nm, Ty.mk tk tks)]) ks[0] with _ | mt2; rotate_left; obtain rfl := hmu _ hE; rotate_left; all_goals simp only [Option.isSome])
 refine aP 11 rfl (qM rfl) rfl ?_
 refine aP 12 rfl (pX rfl rfl) rfl ?_
 refine aP 13 rfl (pX rfl rfl) rfl ?_
 refine A4 14 ?_
 (refine E6 rfl (A8 rfl) rfl rfl ?_; rintro _ ⟨b142, rfl⟩)
 refine A4 15 ?_
 refine H8 rfl ?_
 refine aP 16 rfl (qA rfl) rfl ?_
 refine X6 ?_
 refine I5 (rC rfl (A6 rfl rfl)) (rT rfl) ?_
 exact A7s
 refine aP 11 rfl (qM rfl) rfl ?_
 refine aP 12 rfl (pX rfl rfl) rfl ?_
 refine aP 13 rfl (pX rfl rfl) rfl ?_
 refine A4 14 ?_
 (refine E6 rfl (A8 rfl) rfl rfl ?_; rintro _ ⟨b173, rfl⟩)
 refine A4 15 ?_
 refine H8 rfl ?_
 refine aP 16 rfl (qA rfl) rfl ?_
 refine U5 ?_
 (refine E5 rfl (A20 4 (.mk tk tks) _ _ _ _ (.inl rfl) hta hma htyN hmr) rfl rfl (fun v G3 hle3 hh => ?_); obtain ⟨mc2, rfl, hmr2⟩ := hh; obtain ⟨p2, c2, e2, rfl, _⟩ := hmr2.open)
 refine E1 ?_
 refine I5 (rC rfl (A6 rfl rfl)) (rT rfl) ?_
 exact A7t
 (refine E6 rfl (A8 rfl) rfl rfl ?_; rintro _ ⟨b206, rfl⟩)
 refine A4 10 ?_
 focus (refine H4 rfl rfl hLam rfl rfl rfl (fun v G2 hle2 hh => ?_); obtain ⟨mt, mc, rfl, hmr, hma, hmu⟩ := hh; obtain ⟨p1, c1, e1, rfl, _⟩ := hmr.open; have htyN := htyM.mono hle2; rcases hE : Q3 (cx ++ [(nm, Ty.mk tk tks)]) ks[0] with _ | mt2; rotate_left; obtain rfl := hmu _ hE; rotate_left; all_goals simp only [Option.isSome])
 refine aP 11 rfl (qM rfl) rfl ?_
 refine aP 12 rfl (pX rfl rfl) rfl ?_
 refine aP 13 rfl (pX rfl rfl) rfl ?_
 refine A4 15 ?_
 refine H8 rfl ?_
 refine aP 16 rfl (qA rfl) rfl ?_
 refine X6 ?_
 refine I5 (rC rfl (A6 rfl rfl)) (rT rfl) ?_
 exact A7s
 refine aP 11 rfl (qM rfl) rfl ?_
 refine aP 12 rfl (pX rfl rfl) rfl ?_
 refine aP 13 rfl (pX rfl rfl) rfl ?_
 refine A4 15 ?_
 refine H8 rfl ?_
 refine aP 16 rfl (qA rfl) rfl ?_
 refine U5 ?_
 (refine E5 rfl (A20 4 (.mk tk tks) _ _ _ _ (.inl rfl) hta hma htyN hmr) rfl rfl (fun v G3 hle3 hh => ?_); obtain ⟨mc2, rfl, hmr2⟩ := hh; obtain ⟨p2, c2, e2, rfl, _⟩ := hmr2.open)
 refine E1 ?_
 refine I5 (rC rfl (A6 rfl rfl)) (rT rfl) ?_
 exact A7t
 (refine E6 rfl (A8 rfl) rfl rfl ?_; rintro _ ⟨b273, rfl⟩)
 refine A4 5 ?_
 (refine H4 rfl rfl hMore rfl rfl rfl (fun v G1 hle1 hh => ?_); obtain ⟨pm, cm, rfl, hxm⟩ := hh; have hreM := hre.mono hle1; have hLam := ih ks[0] (List.getElem_mem (by omega)) (d + 1) _ G1 pm (n + 1) cm _ (hvk 0 (by omega)) (by omega) (hcv5 (by omega)) hxm hreM; have htyM := hty.mono hle1)
 refine A4 10 ?_
 focus (refine H4 rfl rfl hLam rfl rfl rfl (fun v G2 hle2 hh => ?_); obtain ⟨mt, mc, rfl, hmr, hma, hmu⟩ := hh; obtain ⟨p1, c1, e1, rfl, _⟩ := hmr.open; have htyN := htyM.mono hle2; rcases hE : Q3 (cx ++ [(nm, Ty.mk tk tks)]) ks[0] with _ | mt2; rotate_left; obtain rfl := hmu _ hE; rotate_left; all_goals simp only [Option.isSome])
 refine aP 11 rfl (qM rfl) rfl ?_
 refine aP 12 rfl (pX rfl rfl) rfl ?_
 refine aP 13 rfl (pX rfl rfl) rfl ?_
 refine A4 15 ?_
 refine H8 rfl ?_
 refine aP 16 rfl (qA rfl) rfl ?_
 refine X6 ?_
 refine I5 (rC rfl (A6 rfl rfl)) (rT rfl) ?_
 exact A7s
 refine aP 11 rfl (qM rfl) rfl ?_
 refine aP 12 rfl (pX rfl rfl) rfl ?_
 refine aP 13 rfl (pX rfl rfl) rfl ?_
 refine A4 15 ?_
 refine H8 rfl ?_
 refine aP 16 rfl (qA rfl) rfl ?_
 refine U5 ?_
 (refine E5 rfl (A20 4 (.mk tk tks) _ _ _ _ (.inl rfl) hta hma htyN hmr) rfl rfl (fun v G3 hle3 hh => ?_); obtain ⟨mc2, rfl, hmr2⟩ := hh; obtain ⟨p2, c2, e2, rfl, _⟩ := hmr2.open)
 refine E1 ?_
 refine I5 (rC rfl (A6 rfl rfl)) (rT rfl) ?_
 exact A7t
 refine E1 ?_
 (refine J5 (D2 rfl rfl rfl (by omega) (by unfold maxLen; omega) rfl) rfl ?_; rintro _ ⟨b351, rfl⟩)
 refine E1 ?_
 refine C3 ?_
 (refine K2 (fun (x : Nat × Option Addr × Nat × List Ty × List (List Value) × IM) => ⟨[(9, .int .i64 x.1), (8, .slice x.2.1 x.1 x.2.2.1), (3, .pointer (some ⟨b3, 0, none⟩)), (4, .pointer (some ⟨b4, 0, none⟩)), (0, .slice p n c)], [.slc x.2.1 x.2.2.1 25 2 x.1 x.2.2.2.2.1.flatten, .blk b4 [.int .i64 0, .slice none 0 0], .blk b3 [.int .i64 k, .string nm, .int .i64 num, .int .i64 tk, .slice pt tks.length ct, .int .i64 fk, .slice pf fks.length cf, .int .i64 lb, .slice q ks.length cq]], x.2.2.2.2.2⟩) (fun x => x.1 ≤ ks.length ∧ C6 G x.2.2.2.2.2 ∧ x.2.2.2.1.length = x.1 ∧ D5 x.2.2.2.2.2 x.2.2.2.1 x.2.2.2.2.1 ∧ (∀ u ∈ x.2.2.2.1, F8 u) ∧ W6 cx (ks.take x.1) = some x.2.2.2.1) (fun x => ks.length - x.1) (0, some ⟨b351, 0, none⟩, 0, [], [], G) ?_ ?_ ?_)
 (simp only [J9]; exact E2)
 (exact ⟨by simp, C6.refl _, rfl, by simp [D5], by simp, by simp [W6]⟩)
 (rintro ⟨i, pn, cn, us, es', Gi⟩ ⟨hi, hle, hlu, hst, hau, hsu⟩; simp only [] at hi hle hlu hst hau hsu ⊢; replace hsl := hsl.mono hle; replace hkl := hkl.mono hle; replace hx := hx.mono hle; replace hr0 := hr0.mono hle)
 refine B5 ?_
 refine sB (J8 rfl rfl) rfl rfl (fun h373 => ?_) (fun h373 => ?_)
 refine B0 ?_
 refine C3 ?_
 refine B0 ?_
 (obtain ⟨b, o, e, rfl, hl, hat, hre, hgb⟩ := hsl.kidTm hkl (i := i) (by omega) (by omega); refine sP (B6 rfl rfl rfl (by omega)) rfl rfl ?_)
 refine sL (A3 rfl rfl (hat _) hl) rfl rfl ?_
 focus (refine E5 rfl (ih ks[i] (List.getElem_mem (by omega)) (d + 1) cx Gi p n c _ (hvk i (by omega)) (by omega) hcv hx hre) rfl rfl (fun v G2 hle2 hh => ?_); obtain ⟨u, uc, rfl, hru, hua, huu⟩ := hh; obtain ⟨p3, c3, e3, rfl, _⟩ := hru.open; rcases hE : Q3 cx ks[i] with _ | u2; rotate_left; obtain rfl := huu _ hE; rotate_left; all_goals simp only [Option.isSome])
 refine B9 ?_
 refine sE (A8 rfl) rfl (fun b393 => ?_)
 refine A4S ?_
 refine I5 (rC rfl (A6 rfl rfl)) (rT rfl) ?_
 (rw [f6 (by omega) (B1C (by omega) hE)]; exact S1.no rfl (O3 _ ⟨by omega, by omega⟩) (X0 (by omega) (by omega)))
 refine B9 ?_
 refine sE (A8 rfl) rfl (fun b425 => ?_)
 refine U5 ?_
 (refine J5 (D2 rfl rfl rfl (by omega) (by unfold maxLen; omega) rfl) rfl ?_; rintro _ ⟨b443, rfl⟩)
 refine A1h rfl rfl rfl rfl rfl (fun _ _ => by repeat (first | exact Sw.here | apply Sw.there)) (O2 (by repeat first | exact mH | apply mT)) rfl (by simp [Value.oneCell']) (by unfold maxLen; omega) (by omega) rfl (fun pn' cn' => ?_)
 refine B0 ?_
 refine sP (J6 rfl rfl (by omega) (by omega)) rfl rfl ?_
 refine A5 ?_
 refine K3 (i + 1, pn', cn', us ++ [u2], es' ++ [[.int .i64 u2.k, .slice p3 u2.ks.length c3]], G2) ?_ ?_ ?_
 (simp only [J9]; exact E2)
 (dsimp only; exact ⟨by omega, hle.trans hle2, by simp [hlu], D5.snoc (hst.mono hle2) hru, A3k hau hua, B1B (by omega) hsu hE⟩)
 exact X7
 refine N5 ?_
 (obtain rfl : i = ks.length := (by omega); rw [List.take_length] at hsu; refine V0 (cs := es'.flatten) (by repeat (first | exact Pk.here | apply Pk.there)) (fun G3 hle3 hsl3 hno3 => ?_); have hst3 := hst.mono hle3; have hRes := B6V cx k nm num (.mk tk tks) (.mk fk fks) lb ks us G3 _ pn cn es' (by rw [hlu]; exact har) (by omega) hta (hr0.mono hle3) (by rw [hlu]; exact E0.of hsl3 (by rw [hst3.len, hlu]) hst3.all (fun e he => (hst3.each e he).2)) hst3 hau; rw [hlu] at hRes; refine E5 rfl hRes rfl rfl (fun v G4 hle4 hh => ?_); obtain ⟨mt, mc, rfl, hmr, hma, hmu⟩ := hh; obtain ⟨p1, c1, e1, rfl, _⟩ := hmr.open)
 refine B5 ?_
 refine I5 (rC rfl (A6 rfl rfl)) (rT rfl) ?_
 (rw [f7 us (by omega) hsu]; exact ⟨rfl, _, _, rfl, hmr, hma, hmu⟩)
theorem B67 {t : Ty} (ha : F8 t) : T3 t = .mk t.k (List.replicate t.ks.length Q5) := by
 obtain ⟨k, ks⟩ := t
 rw [F8] at ha
 show (if k = 4 ∨ k = 5 then Ty.mk k [Q5, Q5] else .mk k []) = _
 show _ = Ty.mk k (List.replicate ks.length Q5)
 split
 ·rename_i h; rw [ha.1 h]; rfl
 ·rename_i h
  rw [ha.2.1 (fun e => h (.inl e)) (fun e => h (.inr e))]; rfl
theorem A7u (t : Ty) (G : IM) (cells : List Value) (ha : F8 t) (hr : C1 G t cells) : Fn Tryz.prog 163 [.agg ⟨cells⟩] [] G (A6L (T3 t) G) := by
 rw [B67 ha]
 obtain ⟨tk, tks⟩ := t
 have hsm := ha.small
 rw [Ty.small] at hsm
 obtain ⟨hsm1, _⟩ := hsm
 obtain ⟨p, c, es, rfl, hk, hsl, hkl⟩ := hr.open
 simp only [Ty.k, Ty.ks] at hk hsl hkl ⊢
 have hn := hsl.le
 refine C2 Tryz.func163 rfl Tryz.ntmps163 Tryz.results163 rfl ?_
 intro w0
 refine A5 ?_
 refine sE (C7 rfl rfl) rfl (fun b3 => ?_)
 refine sE (A8 rfl) rfl (fun b4 => ?_)
 refine B5 ?_
 refine sE (A8 rfl) rfl (fun b12 => ?_)
 refine E1 ?_
 refine C3 ?_
 (refine U9 25 2 ?_; refine K2 (fun (x : Nat × Option Addr × Nat × List (List Value)) => ⟨[(4, .int .i64 x.1), (3, .pointer (some ⟨b12, 0, none⟩)), (1, .pointer (some ⟨b3, 0, none⟩)), (2, .pointer (some ⟨b4, 0, none⟩))], [.blk b12 [.int .i64 tk, .slice x.2.1 x.1 x.2.2.1], .slc x.2.1 x.2.2.1 25 2 x.1 x.2.2.2.flatten, .blk b4 [.int .i64 0, .slice none 0 0], .blk b3 [.int .i64 tk, .slice p tks.length c]], G⟩) (fun x => x.1 ≤ tks.length ∧ D5 G (List.replicate x.1 Q5) x.2.2.2) (fun x => tks.length - x.1) (0, none, 0, []) ?_ ?_ ?_)
 (simp only [J9]; exact E2)
 (exact ⟨Nat.zero_le _, rfl⟩)
 (rintro ⟨i, pn, cn, es'⟩ ⟨hi, hst⟩; simp only [] at hi hst ⊢; have hsl' := hst.len; rw [List.length_replicate] at hsl')
 refine B5 ?_
 refine sB (J8 rfl rfl) rfl rfl (fun h34 => ?_) (fun h34 => ?_)
 refine B0 ?_
 refine C3 ?_
 refine D8 D9 rfl ?_
 refine I6 (i := 0) (l' := [tt,ff,ff,ff,ff,ff,ff]) rfl D3 (B8 rfl) rfl (by kernel_rfl) rfl rfl ?_
 refine aL 1 rfl (C4 rfl rfl) rfl ?_
 refine A4 2 ?_
 refine N6 rfl rfl ((A1Q _)) rfl rfl rfl ?_
 refine A4 3 ?_
 (refine E6 rfl (D2 rfl rfl rfl (by omega) (by unfold maxLen; omega) rfl) rfl rfl ?_; rintro _ ⟨b48, rfl⟩)
 refine A4 4 ?_
 refine R4 rfl rfl rfl rfl rfl rfl (fun _ _ => by repeat (first | exact Sw.here | apply Sw.there)) (O2 (by repeat first | exact mH | apply mT)) rfl (by simp [Value.oneCell']) (by unfold maxLen; omega) (by omega) rfl rfl (by repeat (first | exact A9.nil | apply A9.dep (by decide +kernel) | apply A9.im (by decide +kernel) (by assumption) (by repeat first | exact mH | apply mT) | apply A9.blk (by decide +kernel) (by repeat (first | exact Pk.here | apply Pk.there)) (by repeat first | exact mH | apply mT) | apply A9.slc (by decide +kernel) (by repeat (first | exact Pk.here | apply Pk.there)) (by repeat first | exact mH | apply mT))) (fun pn' cn' => ?_)
 refine aP 5 rfl (B8 rfl) rfl ?_
 refine A4 6 ?_
 refine R9 rfl rfl rfl rfl rfl rfl rfl rfl (by decide +kernel) (by repeat first | exact Sw.here | apply Sw.there) (by rfl) ?_
 refine B2 ?_
 refine sP (J6 rfl rfl (by omega) (by omega)) rfl rfl ?_
 refine A5 ?_
 refine K3 (i + 1, pn', cn', es' ++ [[.int .i64 1, .slice none 0 0]]) ?_ ?_ ?_
 (simp only [J9]; exact E2)
 (dsimp only; exact ⟨by omega, by rw [List.replicate_succ']; exact D5.snoc hst (A0M _)⟩)
 (show tks.length - (i + 1) < tks.length - i; omega)
 refine J1 ?_
 (refine H3 (cs := es'.flatten) (by repeat (first | exact Pk.here | apply Pk.there)) (fun G2 hle2 hsl2 hno2 => ?_); obtain rfl : i = tks.length := (by omega))
 refine tT ?_
 refine N4 (rC rfl (A6 rfl rfl)) ?_
 (exact ⟨rfl, _, rfl, (hst.mono hle2).ty (by simp) hsl2 hk⟩)
theorem B1F (t : Ty) (G : IM) (cells : List Value) (ha : F8 t) (hr : C1 G t cells) : Fn Tryz.prog 132 [.agg ⟨cells⟩] [] G (H5 (.bool (R7 t)) G) := by
 refine Fn.forget (post := M3 fun _ v => v = .bool (R7 t)) ?_ (fun _ _ _ h => h.2)
 have hr0 := hr
 have hG := A7u t G cells ha hr
 obtain ⟨tk, tks⟩ := t
 obtain ⟨p, c, es, rfl, hk, _⟩ := hr.open
 simp only [Ty.k, Ty.ks] at hk hr0 hG ⊢
 have hd : R7 (.mk tk tks) = (decide (tk ≠ 1) && M5 (.mk tk tks) (T3 (.mk tk tks))) := rfl
 rw [hd]
 generalize T3 (.mk tk tks) = g at hG ⊢
 refine C2 Tryz.func132 rfl Tryz.ntmps132 Tryz.results132 rfl ?_
 intro w0
 refine A5 ?_
 refine sE (C7 rfl rfl) rfl (fun b3 => ?_)
 refine B7 ?_
 refine D8 D9 rfl ?_
 refine I6 (i := 0) (l' := [tt,ff,ff,ff,ff,ff,ff,ff,ff,ff]) rfl D3 (B8 rfl) rfl (by kernel_rfl) rfl rfl ?_
 refine aL 1 rfl (C4 rfl rfl) rfl ?_
 refine A0R (i := 2) (l' := [tt,tt,tt,ff,ff,ff,ff,ff,ff,ff]) rfl D3 (M1 rfl rfl) rfl (by kernel_rfl) rfl rfl (fun h11 => ?_) (fun h11 => ?_)
 refine aP 3 rfl (qM rfl) rfl ?_
 refine aL 4 rfl (A6 rfl rfl) rfl ?_
 refine aL 5 rfl (A6 rfl rfl) rfl ?_
 refine A4 6 ?_
 (refine H4 rfl rfl hG rfl rfl rfl (fun v G1 hle1 hh => ?_); obtain ⟨cg, rfl, hrg⟩ := hh; have hT := B1z (.mk tk tks) g G1 _ _ (hr0.mono hle1) hrg; obtain ⟨pg, cgg, eg, rfl, _⟩ := hrg.open)
 refine A4 7 ?_
 refine N6 rfl rfl (hT) rfl rfl rfl ?_
 refine aP 8 rfl (N3 rfl rfl) rfl ?_
 refine aP 9 rfl (qA rfl) rfl ?_
 refine B7 ?_
 (refine ⟨rfl, ?_⟩; show Value.bool _ = Value.bool _; rw [decide_eq_true (by omega), Bool.true_and])
 refine aP 3 rfl (qM rfl) rfl ?_
 refine C5 4 rfl rfl rfl ?_
 refine C5 5 rfl rfl rfl ?_
 refine C5 6 rfl rfl rfl ?_
 refine C5 7 rfl rfl rfl ?_
 refine aP 8 rfl (P6 rfl rfl) rfl ?_
 refine aP 9 rfl (qA rfl) rfl ?_
 refine B7 ?_
 (refine ⟨rfl, ?_⟩; show Value.bool _ = Value.bool _; rw [decide_eq_false (by omega), Bool.false_and])
theorem A5D (t : Tm) (G : IM) (cells : List Value) (hr : B3 G t cells) : Fn Tryz.prog 87 [.agg ⟨cells⟩] [] G (H5 (.bool (O9 t)) G) := by
 obtain ⟨k, nm, num, ⟨tk, tks⟩, ⟨fk, fks⟩, lb, ks⟩ := t
 obtain ⟨pt, ct, pf, cf, p, c, es, rfl, hk, hnum, hlb, hty, hfr, hsl, hkl⟩ := hr.open9
 have hd : O9 (.mk k nm num (.mk tk tks) (.mk fk fks) lb ks) = decide (k = 14 ∧ fk = tk ∧ (tk = 4 ∨ tk = 5)) := rfl
 rw [hd]
 refine C2 Tryz.func87 rfl Tryz.ntmps87 Tryz.results87 rfl ?_
 intro w0
 refine A5 ?_
 refine sE (C7 rfl rfl) rfl (fun b3 => ?_)
 refine B5 ?_
 refine sB (qE rfl rfl) rfl rfl (fun h11 => ?_) (fun h11 => ?_)
 refine B5 ?_
 refine sB (qE rfl rfl) rfl rfl (fun h19 => ?_) (fun h19 => ?_)
 refine B2 ?_
 refine sB (qE rfl rfl) rfl rfl (fun h25 => ?_) (fun h25 => ?_)
 refine N5 ?_
 exact A2j
 refine B7 ?_
 refine sB (qE rfl rfl) rfl rfl (fun h43 => ?_) (fun h43 => ?_)
 refine B5 ?_
 exact A2j
 refine B5 ?_
 exact A2T
 refine U1 ?_
 exact A2T
 refine A4S ?_
 exact A2T
theorem A7v (t : Tm) (G : IM) (cells : List Value) (ha : F8 t.fr) (hr : B3 G t cells) : Fn Tryz.prog 88 [.agg ⟨cells⟩] [] G (H5 (.bool (inj t)) G) := by
 obtain ⟨k, nm, num, ⟨tk, tks⟩, ⟨fk, fks⟩, lb, ks⟩ := t
 obtain ⟨pt, ct, pf, cf, p, c, es, rfl, hk, hnum, hlb, hty, hfr, hsl, hkl⟩ := hr.open9
 have hd : inj (.mk k nm num (.mk tk tks) (.mk fk fks) lb ks) = (decide (k = 14 ∧ tk = 1) && R7 (.mk fk fks)) := rfl
 rw [hd]
 have hG := B1F (.mk fk fks) G _ ha hfr
 refine C2 Tryz.func88 rfl Tryz.ntmps88 Tryz.results88 rfl ?_
 intro w0
 refine A5 ?_
 refine sE (C7 rfl rfl) rfl (fun b3 => ?_)
 refine B5 ?_
 refine sB (qE rfl rfl) rfl rfl (fun h11 => ?_) (fun h11 => ?_)
 refine B7 ?_
 refine sB (qE rfl rfl) rfl rfl (fun h16 => ?_) (fun h16 => ?_)
 refine B7 ?_
 refine H9 rfl (hG) rfl rfl ?_
 refine B0 ?_
 (exact ⟨rfl, by rw [decide_eq_true (by omega), Bool.true_and], rfl⟩)
 refine I8 ?_
 exact A5r
 refine K4 ?_
 exact A5r
section
variable {k : Int} {nm : ByteArray} {num : Int} {ty fr : Ty} {lb : Int} {ks : List Tm}
theorem B68 (h : k = 2 ∨ k = 3 ∨ k = 4 ∨ k = 5) : E3 (.mk k nm num ty fr lb ks) = true := by
 rw [E3, if_neg (by omega)]; exact decide_eq_true h
theorem B69 (h : k = 10) (hl : ks.length = 2) : E3 (.mk k nm num ty fr lb ks) = (E3 (ks[0]'(by omega)) && E3 (ks[1]'(by omega))) := by
 rw [A3x (.inl h)]
 obtain ⟨a, b, rfl⟩ := ks2 hl
 simp
theorem B1G (h : O9 (.mk k nm num ty fr lb ks) = true ∨ inj (.mk k nm num ty fr lb ks) = true) (hl : ks.length = 1) : E3 (.mk k nm num ty fr lb ks) = E3 (ks[0]'(by omega)) := by
 rw [A3x (.inr h)]
 obtain ⟨a, rfl⟩ := Z6 hl
 simp
theorem B7a (h : ¬(k = 2 ∨ k = 3 ∨ k = 4 ∨ k = 5)) (h10 : k ≠ 10) (h2 : O9 (.mk k nm num ty fr lb ks) = false) (h3 : inj (.mk k nm num ty fr lb ks) = false) : E3 (.mk k nm num ty fr lb ks) = false := by
 rw [A5s h10 h2 h3]; exact decide_eq_false h
theorem B7b (h : O9 (.mk k nm num ty fr lb ks) = true ∨ inj (.mk k nm num ty fr lb ks) = true) : k = 14 := by
 rcases h with h | h
 ·exact (prx_spec' h)
 ·exact A4o h
where
 prx_spec' {k : Int} {nm : ByteArray} {num : Int} {ty fr : Ty} {lb : Int} {ks : List Tm} (h : O9 (.mk k nm num ty fr lb ks) = true) : k = 14 := by rw [A0N] at h; exact (of_decide_eq_true h).1
end
theorem A7w {Q : Prop} (h : Q := by (exact ⟨rfl, by rw [e2 (by omega) hl2]; simp [*], rfl⟩)) : Q := h
theorem A5E {Q : Prop} (h : Q := by (exact ⟨rfl, by rw [e3 (by first | exact .inl (by assumption) | exact .inr (by assumption)) hl1]; simp [*], rfl⟩)) : Q := h
theorem A7x : ∀ (t : Tm) (G : IM) (cells : List Value), cv t → B3 G t cells → Fn Tryz.prog 101 [.agg ⟨cells⟩] [] G (H5 (.bool (E3 t)) G) := by
 refine Tm.ind fun k nm num ty fr lb ks ih G cells hc hr => ?_
 obtain ⟨hN, hkk⟩ := hc.node
 have hop := hN.ops
 have h10 : k = 10 → ks.length = 2 := fun h => by rw [h] at hop; have : D7 10 = 2 := rfl; omega
 have h14 : k = 14 → ks.length = 1 := fun h => by rw [h] at hop; have : D7 14 = 1 := rfl; omega
 have hP := A5D _ G _ hr
 have hI := A7v (.mk k nm num ty fr lb ks) G _ hN.frA hr
 have e1 := @B68 k nm num ty fr lb ks
 have e2 := @B69 k nm num ty fr lb ks
 have e3 := @B1G k nm num ty fr lb ks
 have e4 := @B7a k nm num ty fr lb ks
 have e5 := @B7b k nm num ty fr lb ks
 generalize hpx : O9 (.mk k nm num ty fr lb ks) = bp at hP e3 e4 e5
 generalize hij : inj (.mk k nm num ty fr lb ks) = bi at hI e3 e4 e5
 generalize E3 (.mk k nm num ty fr lb ks) = R at e1 e2 e3 e4 ⊢
 obtain ⟨tk, tks⟩ := ty
 obtain ⟨fk, fks⟩ := fr
 obtain ⟨pt, ct, pf, cf, p, c, es, rfl, hk, hnum, hlb, hty, hfr, hsl, hkl⟩ := hr.open9
 refine C2 Tryz.func101 rfl Tryz.ntmps101 Tryz.results101 rfl ?_
 intro w0
 refine A5 ?_
 refine sE (C7 rfl rfl) rfl (fun b3 => ?_)
 refine J0 ?_
 refine C3 (tS (tS (tR (sB (qE rfl rfl) rfl rfl (fun h18 => ?_) (fun h18 => ?_)))))
 refine K4 ?_
 (exact ⟨rfl, by rw [e1 (by omega)], rfl⟩)
 refine B0 ?_
 refine sB (qE rfl rfl) rfl rfl (fun h42 => ?_) (fun h42 => ?_)
 refine K4 ?_
 (exact ⟨rfl, by rw [e1 (by omega)], rfl⟩)
 refine B0 ?_
 refine sB (qE rfl rfl) rfl rfl (fun h66 => ?_) (fun h66 => ?_)
 refine K4 ?_
 (exact ⟨rfl, by rw [e1 (by omega)], rfl⟩)
 refine B2 ?_
 refine sB (qE rfl rfl) rfl rfl (fun h89 => ?_) (fun h89 => ?_)
 refine J4 ?_
 (exact ⟨rfl, by rw [e1 (by omega)], rfl⟩)
 refine B0 ?_
 refine sB (qE rfl rfl) rfl rfl (fun h110 => ?_) (fun h110 => ?_)
 refine D0 ?_
 (have hl2 := h10 (by omega); obtain ⟨bx, ox, e, rfl, hl, hat, hre, hgb⟩ := hsl.kidTm hkl (i := 0) (by omega) (by omega); have hih := ih ks[0] (List.getElem_mem (by omega)) G e (hkk _ (List.getElem_mem (by omega))) hre; obtain ⟨_, _, e', hp', hl', hat', hre', hgb'⟩ := hsl.kidTm hkl (i := 1) (by omega) (by omega); cases hp'; have hih' := ih ks[1] (List.getElem_mem (by omega)) G e' (hkk _ (List.getElem_mem (by omega))) hre'; refine sP (B6 (j := 0) rfl rfl rfl (by omega)) rfl rfl ?_)
 refine sL (A3 rfl rfl (hat _) hl) rfl rfl ?_
 refine E8 rfl (hih) rfl rfl (fun h121 => ?_) (fun h121 => ?_)
 refine B9 ?_
 refine sP (B6 (j := 1) rfl rfl rfl (by omega)) rfl rfl ?_
 refine sL (A3 rfl rfl (hat' _) hl') rfl rfl ?_
 refine E8 rfl (hih') rfl rfl (fun h127 => ?_) (fun h127 => ?_)
 refine D0 ?_
 exact A7w
 refine D0 ?_
 exact A7w
 refine J1 ?_
 exact A7w
 refine J0 ?_
 refine E8 rfl (hP) rfl rfl (fun h171 => ?_) (fun h171 => ?_)
 refine B5 ?_
 (have hl1 := h14 (by first | exact e5 (.inl (by assumption)) | exact e5 (.inr (by assumption))); obtain ⟨bx, ox, e, rfl, hl, hat, hre, hgb⟩ := hsl.kidTm hkl (i := 0) (by omega) (by omega); have hih := ih ks[0] (List.getElem_mem (by omega)) G e (hkk _ (List.getElem_mem (by omega))) hre; refine sP (B6 (j := 0) rfl rfl rfl (by omega)) rfl rfl ?_)
 refine sL (A3 rfl rfl (hat _) hl) rfl rfl ?_
 refine E8 rfl (hih) rfl rfl (fun h181 => ?_) (fun h181 => ?_)
 refine B0 ?_
 exact A5E
 refine B0 ?_
 exact A5E
 refine A5 ?_
 refine E8 rfl (hI) rfl rfl (fun h198 => ?_) (fun h198 => ?_)
 refine B7 ?_
 (have hl1 := h14 (by first | exact e5 (.inl (by assumption)) | exact e5 (.inr (by assumption))); obtain ⟨bx, ox, e, rfl, hl, hat, hre, hgb⟩ := hsl.kidTm hkl (i := 0) (by omega) (by omega); have hih := ih ks[0] (List.getElem_mem (by omega)) G e (hkk _ (List.getElem_mem (by omega))) hre; refine sP (B6 (j := 0) rfl rfl rfl (by omega)) rfl rfl ?_)
 refine sL (A3 rfl rfl (hat _) hl) rfl rfl ?_
 refine E8 rfl (hih) rfl rfl (fun h205 => ?_) (fun h205 => ?_)
 refine B0 ?_
 exact A5E
 refine B0 ?_
 exact A5E
 refine J4 ?_
 (exact ⟨rfl, by rw [e4 (by omega) (by omega) (by assumption) (by assumption)], rfl⟩)
theorem A7y {Q : Prop} (h : Q := by (exact X3.mk (B3.of9 (ks := [e]) ⟨by omega, by omega⟩ ⟨by omega, by omega⟩ hl (hr2.mono hle5) (hr1.mono hle5) hone1 hone2))) : Q := h
theorem A0O (e : Tm) (a b : Ty) (l : Int) (G : IM) (ce ca cb : List Value) (hl : H1 l) (he : B3 G e ce) (ha : C1 G a ca) (hb : C1 G b cb) (hsa : a.small) (hsb : b.small) : Fn Tryz.prog 183 [.agg ⟨ce⟩, .agg ⟨ca⟩, .agg ⟨cb⟩, .int .i64 l] [] G (X3 (K7 e a b l)) := by
 have hel := he.len
 have heo := he.one
 obtain ⟨v1, v2, v3, v4, v5, v6, v7, v8, v9, rfl⟩ := nine hel
 obtain ⟨ak, aks⟩ := a
 obtain ⟨bk, bks⟩ := b
 obtain ⟨pa, cca, ea, rfl, _⟩ := ha.open
 obtain ⟨pb, ccb, eb, rfl, _⟩ := hb.open
 refine C2 Tryz.func183 rfl Tryz.ntmps183 Tryz.results183 rfl ?_
 intro w0
 refine A5 ?_
 refine sE (C7 rfl rfl) rfl (fun b3 => ?_)
 refine sE (C7 rfl rfl) rfl (fun b4 => ?_)
 refine sE (C7 rfl rfl) rfl (fun b5 => ?_)
 refine sE (A8 rfl) rfl (fun b6 => ?_)
 refine B9 ?_
 refine D8 D9 rfl ?_
 refine L3 (i := 0) (l' := [tt,ff,ff,ff,ff,ff,ff,ff,ff]) rfl D3 (A6 rfl rfl) rfl (by kernel_rfl) rfl rfl ?_
 refine aL 2 rfl (A6 rfl rfl) rfl ?_
 refine aP 4 rfl (qM rfl) rfl ?_
 refine aL 5 rfl (A6 rfl rfl) rfl ?_
 refine Q8 (j := 1) (j' := 6) (by kernel_rfl) ?_ ?_
 (refine H4 rfl rfl (P7 (.mk ak aks) _ _ hsa ha) rfl rfl rfl (fun v G1 hle1 hh => ?_); obtain ⟨cs1, F1, rfl, hs1, hn1⟩ := hh; obtain ⟨p1, c1, rfl, _⟩ := hs1.open; have hC2 := P7 _ G1 _ hsb (hb.mono hle1))
 refine Q8 (j := 3) (j' := 6) (by kernel_rfl) ?_ ?_
 (refine H4 rfl rfl hC2 rfl rfl rfl (fun v G2 hle2 hh => ?_); obtain ⟨cs2, F2, rfl, hs2, hn2⟩ := hh; obtain ⟨p2, c2, rfl, _⟩ := hs2.open; have hr1 := hs1.R.mono ((C9.le G1 _).trans hle2); have hr2 := hs2.R.mono (C9.le G2 G1); have hre := he.mono (hle1.trans hle2))
 refine A4 6 ?_
 (refine E6 rfl (D2 rfl rfl rfl (by omega) (by unfold maxLen; omega) rfl) rfl rfl ?_; rintro _ ⟨b20, rfl⟩)
 refine aP 7 rfl (X5 rfl rfl) rfl ?_
 refine A4 8 ?_
 refine H8 rfl ?_
 refine A5 ?_
 (refine H3 (cs := [v1, v2, v3, v4, v5, v6, v7, v8, v9]) (by repeat (first | exact Pk.here | apply Pk.there)) (fun G5 hle5 hsl5 hno5 => ?_); obtain ⟨hone1, hone2⟩ := A2K (hre.mono hle5) hsl5)
 refine tT ?_
 refine N4 (rC rfl (A6 rfl rfl)) ?_
 exact A7y
 (refine E6 rfl (D2 rfl rfl rfl (by omega) (by unfold maxLen; omega) rfl) rfl rfl ?_; rintro _ ⟨b30, rfl⟩)
 refine A4 3 ?_
 (refine H4 rfl rfl hC2 rfl rfl rfl (fun v G2 hle2 hh => ?_); obtain ⟨cs2, F2, rfl, hs2, hn2⟩ := hh; obtain ⟨p2, c2, rfl, _⟩ := hs2.open; have hr1 := hs1.R.mono ((C9.le G1 _).trans hle2); have hr2 := hs2.R.mono (C9.le G2 G1); have hre := he.mono (hle1.trans hle2))
 refine aP 7 rfl (X5 rfl rfl) rfl ?_
 refine A4 8 ?_
 refine H8 rfl ?_
 refine A5 ?_
 (refine H3 (cs := [v1, v2, v3, v4, v5, v6, v7, v8, v9]) (by repeat (first | exact Pk.here | apply Pk.there)) (fun G5 hle5 hsl5 hno5 => ?_); obtain ⟨hone1, hone2⟩ := A2K (hre.mono hle5) hsl5)
 refine tT ?_
 refine N4 (rC rfl (A6 rfl rfl)) ?_
 exact A7y
 (refine E6 rfl (D2 rfl rfl rfl (by omega) (by unfold maxLen; omega) rfl) rfl rfl ?_; rintro _ ⟨b42, rfl⟩)
 refine A4 1 ?_
 (refine H4 rfl rfl (P7 (.mk ak aks) _ _ hsa ha) rfl rfl rfl (fun v G1 hle1 hh => ?_); obtain ⟨cs1, F1, rfl, hs1, hn1⟩ := hh; obtain ⟨p1, c1, rfl, _⟩ := hs1.open; have hC2 := P7 _ G1 _ hsb (hb.mono hle1))
 refine A4 3 ?_
 (refine H4 rfl rfl hC2 rfl rfl rfl (fun v G2 hle2 hh => ?_); obtain ⟨cs2, F2, rfl, hs2, hn2⟩ := hh; obtain ⟨p2, c2, rfl, _⟩ := hs2.open; have hr1 := hs1.R.mono ((C9.le G1 _).trans hle2); have hr2 := hs2.R.mono (C9.le G2 G1); have hre := he.mono (hle1.trans hle2))
 refine aP 7 rfl (X5 rfl rfl) rfl ?_
 refine A4 8 ?_
 refine H8 rfl ?_
 refine A5 ?_
 (refine H3 (cs := [v1, v2, v3, v4, v5, v6, v7, v8, v9]) (by repeat (first | exact Pk.here | apply Pk.there)) (fun G5 hle5 hsl5 hno5 => ?_); obtain ⟨hone1, hone2⟩ := A2K (hre.mono hle5) hsl5)
 refine tT ?_
 refine N4 (rC rfl (A6 rfl rfl)) ?_
 exact A7y
theorem B7c (G : IM) : Fn Tryz.prog 184 [.bool true] [] G (X3 (Y3 (true = true))) := by
 refine C2 Tryz.func184 rfl Tryz.ntmps184 Tryz.results184 rfl ?_
 intro w0
 refine A5 ?_
 refine sE (A8 rfl) rfl (fun b3 => ?_)
 refine U5 ?_
 refine N4 (rC rfl (A6 rfl rfl)) ?_
 exact A5t
theorem B7d (G : IM) : Fn Tryz.prog 184 [.bool false] [] G (X3 (Y3 (false = true))) := by
 refine C2 Tryz.func184 rfl Tryz.ntmps184 Tryz.results184 rfl ?_
 intro w0
 refine A5 ?_
 refine sE (A8 rfl) rfl (fun b3 => ?_)
 refine U1 ?_
 refine N4 (rC rfl (A6 rfl rfl)) ?_
 exact A5t
theorem B1H (b : Bool) (G : IM) : Fn Tryz.prog 184 [.bool b] [] G (X3 (Y3 (b = true))) := by
 cases b
 ·exact B7d G
 ·exact B7c G
theorem A7z {Q : Prop} (h : Q := by (dsimp only; exact ⟨by omega, hle.trans hle3, by rw [B0C (by omega)]; exact E4.snoc (hst.mono hle3) hru⟩)) : Q := h
theorem A7A {Q : Prop} (h : Q := by (rw [if_neg (by rintro ⟨h1, h2⟩; first | omega | contradiction), if_neg (by rintro ⟨h1, h2⟩; first | omega | contradiction)]; rw [List.take_of_length_le (by rw [A1s]; omega)] at hst; exact X3.mk (B3.put hk hnum hlb (hty1.mono hle4) (hfr1.mono hle4) (by rw [A1s]) (E0.of hsl4 (by omega) hst.all (fun e he => (hst.each e he).2)) (hst.mono hle4)))) : Q := h
theorem B7e (y : ByteArray) (v : Tm) (vc : List Value) (hvs : v.small) : ∀ (t : Tm) (G : IM) (cells : List Value), t.small → B3 G t cells → B3 G v vc → Fn Tryz.prog 182 [.agg ⟨cells⟩, .string y, .agg ⟨vc⟩] [] G (X3 (R8 y v t)) := by
 refine Tm.ind fun k nm num ty fr lb ks ih G cells hts hr hv => ?_
 have hr0 := hr
 have hts0 := hts
 obtain ⟨_, htsm, hfsm, hsm, hks⟩ := A0t.1 hts
 have hvl := hv.len
 have hvo := hv.one
 have hRl := hr.len
 have hRo := hr.one
 rw [R8]
 have hCv := A3g v G vc hvs hv
 have hCt := A3g _ G cells hts0 hr0
 obtain ⟨tk, tks⟩ := ty
 obtain ⟨fk, fks⟩ := fr
 obtain ⟨pt, ct, pf, cf, p, c, es, rfl, hk, hnum, hlb, hty, hfr, hsl, hkl⟩ := hr.open9
 have hn := hsl.le
 refine C2 Tryz.func182 rfl Tryz.ntmps182 Tryz.results182 rfl ?_
 intro w0
 refine A5 ?_
 refine sE (C7 rfl rfl) rfl (fun b3 => ?_)
 refine sE (C7 rfl rfl) rfl (fun b4 => ?_)
 refine sE (A8 rfl) rfl (fun b5 => ?_)
 refine B5 ?_
 refine sB (qE rfl rfl) rfl rfl (fun h13 => ?_) (fun h13 => ?_)
 refine B7 ?_
 refine sB (A0F rfl rfl) rfl rfl (fun h18 => ?_) (fun h18 => ?_)
 refine B0 ?_
 refine sL (A3 rfl rfl (B1 (by repeat first | exact mH | apply mT)) hvl) rfl rfl ?_
 (refine E5 rfl hCv rfl rfl (fun v9 G1 hle1 hh => ?_); obtain ⟨uc, F1, rfl, hs1, hn1⟩ := hh; have hru := hs1.R.mono (C9.le G1 G); have hul := hru.len; have huo := hru.one)
 refine sS rfl rfl rfl hul huo rfl ?_ (hu := by exact D4 hul.symm)
 refine B7 ?_
 refine N4 (rC rfl (A3 rfl rfl (B1 (by repeat first | exact mH | apply mT)) hul)) ?_
 (rw [if_pos (by refine ⟨by omega, by assumption⟩)]; exact X3.mk hru)
 refine I8 ?_
 refine sP (I7 rfl rfl (by omega)) rfl rfl ?_
 refine J1 ?_
 refine sE (A8 rfl) rfl (fun b60 => ?_)
 refine B5 ?_
 (refine E5 rfl (P7 (.mk tk tks) _ _ htsm hty) rfl rfl (fun v9 G1 hle1 hh => ?_); obtain ⟨cs1, F1, rfl, hs1, hn1⟩ := hh; obtain ⟨q1, c1, rfl, _⟩ := hs1.open; have hC2 := P7 (.mk fk fks) G1 _ hfsm (hfr.mono hle1))
 refine D0 ?_
 (refine E5 rfl hC2 rfl rfl (fun v9 G2 hle2 hh => ?_); obtain ⟨cs2, F2, rfl, hs2, hn2⟩ := hh; obtain ⟨q2, c2, rfl, _⟩ := hs2.open; have hty1 := hs1.R.mono ((C9.le G1 _).trans hle2); have hfr1 := hs2.R.mono (C9.le G2 G1); have hle12 := hle1.trans hle2; replace hsl := hsl.mono hle12; replace hkl := hkl.mono hle12; replace hv := hv.mono hle12)
 refine K4 ?_
 refine C3 ?_
 (refine U9 28 9 ?_; refine K2 (fun (x : Nat × Option Addr × Nat × List (List Value) × IM) => ⟨[(8, .int .i64 x.1), (1, .string y), (3, .pointer (some ⟨b3, 0, none⟩)), (5, .pointer (some ⟨b4, 0, none⟩)), (6, .pointer (some ⟨b5, 0, none⟩)), (7, .pointer (some ⟨b60, 0, none⟩))], [.blk b60 [.int .i64 k, .string nm, .int .i64 num, .int .i64 tk, .slice q1 tks.length c1, .int .i64 fk, .slice q2 fks.length c2, .int .i64 lb, .slice x.2.1 x.1 x.2.2.1], .slc x.2.1 x.2.2.1 28 9 x.1 x.2.2.2.1.flatten, .blk b5 [.int .i64 0, .string ⟨⟨[]⟩⟩, .int .i64 0, .int .i64 0, .slice none 0 0, .int .i64 0, .slice none 0 0, .int .i64 0, .slice none 0 0], .blk b4 vc, .blk b3 [.int .i64 k, .string nm, .int .i64 num, .int .i64 tk, .slice pt tks.length ct, .int .i64 fk, .slice pf fks.length cf, .int .i64 lb, .slice p ks.length c]], x.2.2.2.2⟩) (fun x => x.1 ≤ ks.length ∧ C6 G2 x.2.2.2.2 ∧ E4 x.2.2.2.2 ((Q0 y v ks).take x.1) x.2.2.2.1) (fun x => ks.length - x.1) (0, none, 0, [], G2) ?_ ?_ ?_)
 (simp only [J9]; exact E2)
 exact A3y
 (rintro ⟨i, pn, cn, es', Gi⟩ ⟨hi, hle, hst⟩; simp only [] at hi hle hst ⊢; replace hsl := hsl.mono hle; replace hkl := hkl.mono hle; replace hv := hv.mono hle; replace hty1 := hty1.mono hle; replace hfr1 := hfr1.mono hle; have hsl' := hst.len; rw [List.length_take, A1s] at hsl')
 refine B5 ?_
 refine sB (J8 rfl rfl) rfl rfl (fun h106 => ?_) (fun h106 => ?_)
 refine B0 ?_
 refine C3 ?_
 (have hil : i < ks.length := (by omega); obtain ⟨bx, ox, e, rfl, hl, hat, hre, hgb⟩ := hsl.kidTm hkl (i := i) (by omega) (by omega); have hel := hre.len; have heo := hre.one; refine D8 D9 rfl ?_)
 refine L3 (i := 8) (l' := [ff,ff,ff,ff,ff,ff,ff,ff,tt,ff,ff,ff,ff,ff]) rfl D3 (A3 rfl rfl (B1 (by repeat first | exact mH | apply mT)) hvl) rfl (by kernel_rfl) rfl rfl ?_
 refine aP 0 rfl (B8 rfl) rfl ?_
 refine aL 1 rfl (C4 rfl rfl) rfl ?_
 refine aP 2 rfl (B8 rfl) rfl ?_
 refine aL 3 rfl (C4 rfl rfl) rfl ?_
 refine aP 4 rfl (qM rfl) rfl ?_
 refine aP 5 rfl (B6 (j := i) rfl rfl rfl (by omega)) rfl ?_
 refine aL 6 rfl (A3 rfl rfl (hat _) hl) rfl ?_
 refine aP 7 rfl (qM rfl) rfl ?_
 refine A4 9 ?_
 (refine H4 rfl rfl (ih ks[i] (List.getElem_mem (by omega)) Gi _ (Tm.smallL_mem hks _ (List.getElem_mem (by omega))) hre hv) rfl rfl rfl (fun u G3 hle3 hh => ?_); obtain ⟨uc, rfl, hru⟩ := hh; have hul := hru.len; have huo := hru.one; obtain ⟨v1, v2, v3, v4, v5, v6, v7, v8, v9, rfl⟩ := nine hul)
 refine A4 10 ?_
 (refine E6 rfl (D2 rfl rfl rfl (by omega) (by unfold maxLen; omega) rfl) rfl rfl ?_; rintro _ ⟨b127, rfl⟩)
 refine A4 11 ?_
 (refine R4 rfl rfl rfl rfl rfl rfl (fun _ _ => by repeat (first | exact Sw.here | apply Sw.there)) (O2 (by repeat first | exact mH | apply mT)) rfl (fun u hu => List.all_eq_true.1 huo u hu) (by unfold maxLen; omega) (by omega) rfl rfl (by repeat (first | exact A9.nil | apply A9.dep (by decide +kernel) | apply A9.im (by decide +kernel) (by assumption) (by repeat first | exact mH | apply mT) | apply A9.blk (by decide +kernel) (by repeat (first | exact Pk.here | apply Pk.there)) (by repeat first | exact mH | apply mT) | apply A9.slc (by decide +kernel) (by repeat (first | exact Pk.here | apply Pk.there)) (by repeat first | exact mH | apply mT))) (fun p7 c7 => ?_))
 refine aP 12 rfl (B8 rfl) rfl ?_
 refine A4 13 ?_
 refine R9 rfl rfl rfl rfl rfl rfl rfl rfl (by decide +kernel) (by repeat first | exact Sw.here | apply Sw.there) (by rfl) ?_
 refine B2 ?_
 refine sP (J6 rfl rfl (by omega) (by omega)) rfl rfl ?_
 refine A5 ?_
 refine K3 (i + 1, p7, c7, es' ++ [[v1, v2, v3, v4, v5, v6, v7, v8, v9]], G3) ?_ ?_ ?_
 (simp only [J9]; exact E2)
 exact A7z
 exact X7
 refine J1 ?_
 (refine H3 (cs := es'.flatten) (by repeat (first | exact Pk.here | apply Pk.there)) (fun G4 hle4 hsl4 hno4 => ?_); obtain rfl : i = ks.length := (by omega))
 refine tT ?_
 refine N4 (rC rfl (A6 rfl rfl)) ?_
 exact A7A
 refine K4 ?_
 refine sB (qE rfl rfl) rfl rfl (fun h179 => ?_) (fun h179 => ?_)
 refine B7 ?_
 refine sB (A0F rfl rfl) rfl rfl (fun h184 => ?_) (fun h184 => ?_)
 refine B5 ?_
 (refine E5 rfl hCt rfl rfl (fun v9 G1 hle1 hh => ?_); obtain ⟨uc, F1, rfl, hs1, hn1⟩ := hh; have hru := hs1.R.mono (C9.le G1 G); have hul := hru.len; have huo := hru.one)
 refine sS rfl rfl rfl hul huo rfl ?_ (hu := by exact D4 hul.symm)
 refine B7 ?_
 refine N4 (rC rfl (A3 rfl rfl (B1 (by repeat first | exact mH | apply mT)) hul)) ?_
 (rw [if_neg (by rintro ⟨h1, h2⟩; first | omega | contradiction), if_pos (by refine ⟨by omega, by assumption⟩)]; exact X3.mk hru)
 refine E1 ?_
 refine sE (A8 rfl) rfl (fun b209 => ?_)
 refine B5 ?_
 (refine E5 rfl (P7 (.mk tk tks) _ _ htsm hty) rfl rfl (fun v9 G1 hle1 hh => ?_); obtain ⟨cs1, F1, rfl, hs1, hn1⟩ := hh; obtain ⟨q1, c1, rfl, _⟩ := hs1.open; have hC2 := P7 (.mk fk fks) G1 _ hfsm (hfr.mono hle1))
 refine D0 ?_
 (refine E5 rfl hC2 rfl rfl (fun v9 G2 hle2 hh => ?_); obtain ⟨cs2, F2, rfl, hs2, hn2⟩ := hh; obtain ⟨q2, c2, rfl, _⟩ := hs2.open; have hty1 := hs1.R.mono ((C9.le G1 _).trans hle2); have hfr1 := hs2.R.mono (C9.le G2 G1); have hle12 := hle1.trans hle2; replace hsl := hsl.mono hle12; replace hkl := hkl.mono hle12; replace hv := hv.mono hle12)
 refine K4 ?_
 refine C3 ?_
 (refine U9 28 9 ?_; refine K2 (fun (x : Nat × Option Addr × Nat × List (List Value) × IM) => ⟨[(8, .int .i64 x.1), (1, .string y), (3, .pointer (some ⟨b3, 0, none⟩)), (5, .pointer (some ⟨b4, 0, none⟩)), (6, .pointer (some ⟨b5, 0, none⟩)), (7, .pointer (some ⟨b209, 0, none⟩))], [.blk b209 [.int .i64 k, .string nm, .int .i64 num, .int .i64 tk, .slice q1 tks.length c1, .int .i64 fk, .slice q2 fks.length c2, .int .i64 lb, .slice x.2.1 x.1 x.2.2.1], .slc x.2.1 x.2.2.1 28 9 x.1 x.2.2.2.1.flatten, .blk b5 [.int .i64 0, .string ⟨⟨[]⟩⟩, .int .i64 0, .int .i64 0, .slice none 0 0, .int .i64 0, .slice none 0 0, .int .i64 0, .slice none 0 0], .blk b4 vc, .blk b3 [.int .i64 k, .string nm, .int .i64 num, .int .i64 tk, .slice pt tks.length ct, .int .i64 fk, .slice pf fks.length cf, .int .i64 lb, .slice p ks.length c]], x.2.2.2.2⟩) (fun x => x.1 ≤ ks.length ∧ C6 G2 x.2.2.2.2 ∧ E4 x.2.2.2.2 ((Q0 y v ks).take x.1) x.2.2.2.1) (fun x => ks.length - x.1) (0, none, 0, [], G2) ?_ ?_ ?_)
 (simp only [J9]; exact E2)
 exact A3y
 (rintro ⟨i, pn, cn, es', Gi⟩ ⟨hi, hle, hst⟩; simp only [] at hi hle hst ⊢; replace hsl := hsl.mono hle; replace hkl := hkl.mono hle; replace hv := hv.mono hle; replace hty1 := hty1.mono hle; replace hfr1 := hfr1.mono hle; have hsl' := hst.len; rw [List.length_take, A1s] at hsl')
 refine B5 ?_
 refine sB (J8 rfl rfl) rfl rfl (fun h255 => ?_) (fun h255 => ?_)
 refine B0 ?_
 refine C3 ?_
 (have hil : i < ks.length := (by omega); obtain ⟨bx, ox, e, rfl, hl, hat, hre, hgb⟩ := hsl.kidTm hkl (i := i) (by omega) (by omega); have hel := hre.len; have heo := hre.one; refine D8 D9 rfl ?_)
 refine L3 (i := 8) (l' := [ff,ff,ff,ff,ff,ff,ff,ff,tt,ff,ff,ff,ff,ff]) rfl D3 (A3 rfl rfl (B1 (by repeat first | exact mH | apply mT)) hvl) rfl (by kernel_rfl) rfl rfl ?_
 refine aP 0 rfl (B8 rfl) rfl ?_
 refine aL 1 rfl (C4 rfl rfl) rfl ?_
 refine aP 2 rfl (B8 rfl) rfl ?_
 refine aL 3 rfl (C4 rfl rfl) rfl ?_
 refine aP 4 rfl (qM rfl) rfl ?_
 refine aP 5 rfl (B6 (j := i) rfl rfl rfl (by omega)) rfl ?_
 refine aL 6 rfl (A3 rfl rfl (hat _) hl) rfl ?_
 refine aP 7 rfl (qM rfl) rfl ?_
 refine A4 9 ?_
 (refine H4 rfl rfl (ih ks[i] (List.getElem_mem (by omega)) Gi _ (Tm.smallL_mem hks _ (List.getElem_mem (by omega))) hre hv) rfl rfl rfl (fun u G3 hle3 hh => ?_); obtain ⟨uc, rfl, hru⟩ := hh; have hul := hru.len; have huo := hru.one; obtain ⟨v1, v2, v3, v4, v5, v6, v7, v8, v9, rfl⟩ := nine hul)
 refine A4 10 ?_
 (refine E6 rfl (D2 rfl rfl rfl (by omega) (by unfold maxLen; omega) rfl) rfl rfl ?_; rintro _ ⟨b276, rfl⟩)
 refine A4 11 ?_
 (refine R4 rfl rfl rfl rfl rfl rfl (fun _ _ => by repeat (first | exact Sw.here | apply Sw.there)) (O2 (by repeat first | exact mH | apply mT)) rfl (fun u hu => List.all_eq_true.1 huo u hu) (by unfold maxLen; omega) (by omega) rfl rfl (by repeat (first | exact A9.nil | apply A9.dep (by decide +kernel) | apply A9.im (by decide +kernel) (by assumption) (by repeat first | exact mH | apply mT) | apply A9.blk (by decide +kernel) (by repeat (first | exact Pk.here | apply Pk.there)) (by repeat first | exact mH | apply mT) | apply A9.slc (by decide +kernel) (by repeat (first | exact Pk.here | apply Pk.there)) (by repeat first | exact mH | apply mT))) (fun p7 c7 => ?_))
 refine aP 12 rfl (B8 rfl) rfl ?_
 refine A4 13 ?_
 refine R9 rfl rfl rfl rfl rfl rfl rfl rfl (by decide +kernel) (by repeat first | exact Sw.here | apply Sw.there) (by rfl) ?_
 refine B2 ?_
 refine sP (J6 rfl rfl (by omega) (by omega)) rfl rfl ?_
 refine A5 ?_
 refine K3 (i + 1, p7, c7, es' ++ [[v1, v2, v3, v4, v5, v6, v7, v8, v9]], G3) ?_ ?_ ?_
 (simp only [J9]; exact E2)
 exact A7z
 exact X7
 refine J1 ?_
 (refine H3 (cs := es'.flatten) (by repeat (first | exact Pk.here | apply Pk.there)) (fun G4 hle4 hsl4 hno4 => ?_); obtain rfl : i = ks.length := (by omega))
 refine tT ?_
 refine N4 (rC rfl (A6 rfl rfl)) ?_
 exact A7A
 refine J1 ?_
 refine sE (A8 rfl) rfl (fun b326 => ?_)
 refine B5 ?_
 (refine E5 rfl (P7 (.mk tk tks) _ _ htsm hty) rfl rfl (fun v9 G1 hle1 hh => ?_); obtain ⟨cs1, F1, rfl, hs1, hn1⟩ := hh; obtain ⟨q1, c1, rfl, _⟩ := hs1.open; have hC2 := P7 (.mk fk fks) G1 _ hfsm (hfr.mono hle1))
 refine D0 ?_
 (refine E5 rfl hC2 rfl rfl (fun v9 G2 hle2 hh => ?_); obtain ⟨cs2, F2, rfl, hs2, hn2⟩ := hh; obtain ⟨q2, c2, rfl, _⟩ := hs2.open; have hty1 := hs1.R.mono ((C9.le G1 _).trans hle2); have hfr1 := hs2.R.mono (C9.le G2 G1); have hle12 := hle1.trans hle2; replace hsl := hsl.mono hle12; replace hkl := hkl.mono hle12; replace hv := hv.mono hle12)
 refine K4 ?_
 refine C3 ?_
 (refine U9 28 9 ?_; refine K2 (fun (x : Nat × Option Addr × Nat × List (List Value) × IM) => ⟨[(8, .int .i64 x.1), (1, .string y), (3, .pointer (some ⟨b3, 0, none⟩)), (5, .pointer (some ⟨b4, 0, none⟩)), (6, .pointer (some ⟨b5, 0, none⟩)), (7, .pointer (some ⟨b326, 0, none⟩))], [.blk b326 [.int .i64 k, .string nm, .int .i64 num, .int .i64 tk, .slice q1 tks.length c1, .int .i64 fk, .slice q2 fks.length c2, .int .i64 lb, .slice x.2.1 x.1 x.2.2.1], .slc x.2.1 x.2.2.1 28 9 x.1 x.2.2.2.1.flatten, .blk b5 [.int .i64 0, .string ⟨⟨[]⟩⟩, .int .i64 0, .int .i64 0, .slice none 0 0, .int .i64 0, .slice none 0 0, .int .i64 0, .slice none 0 0], .blk b4 vc, .blk b3 [.int .i64 k, .string nm, .int .i64 num, .int .i64 tk, .slice pt tks.length ct, .int .i64 fk, .slice pf fks.length cf, .int .i64 lb, .slice p ks.length c]], x.2.2.2.2⟩) (fun x => x.1 ≤ ks.length ∧ C6 G2 x.2.2.2.2 ∧ E4 x.2.2.2.2 ((Q0 y v ks).take x.1) x.2.2.2.1) (fun x => ks.length - x.1) (0, none, 0, [], G2) ?_ ?_ ?_)
 (simp only [J9]; exact E2)
 exact A3y
 (rintro ⟨i, pn, cn, es', Gi⟩ ⟨hi, hle, hst⟩; simp only [] at hi hle hst ⊢; replace hsl := hsl.mono hle; replace hkl := hkl.mono hle; replace hv := hv.mono hle; replace hty1 := hty1.mono hle; replace hfr1 := hfr1.mono hle; have hsl' := hst.len; rw [List.length_take, A1s] at hsl')
 refine B5 ?_
 refine sB (J8 rfl rfl) rfl rfl (fun h372 => ?_) (fun h372 => ?_)
 refine B0 ?_
 refine C3 ?_
 (have hil : i < ks.length := (by omega); obtain ⟨bx, ox, e, rfl, hl, hat, hre, hgb⟩ := hsl.kidTm hkl (i := i) (by omega) (by omega); have hel := hre.len; have heo := hre.one; refine D8 D9 rfl ?_)
 refine L3 (i := 8) (l' := [ff,ff,ff,ff,ff,ff,ff,ff,tt,ff,ff,ff,ff,ff]) rfl D3 (A3 rfl rfl (B1 (by repeat first | exact mH | apply mT)) hvl) rfl (by kernel_rfl) rfl rfl ?_
 refine aP 0 rfl (B8 rfl) rfl ?_
 refine aL 1 rfl (C4 rfl rfl) rfl ?_
 refine aP 2 rfl (B8 rfl) rfl ?_
 refine aL 3 rfl (C4 rfl rfl) rfl ?_
 refine aP 4 rfl (qM rfl) rfl ?_
 refine aP 5 rfl (B6 (j := i) rfl rfl rfl (by omega)) rfl ?_
 refine aL 6 rfl (A3 rfl rfl (hat _) hl) rfl ?_
 refine aP 7 rfl (qM rfl) rfl ?_
 refine A4 9 ?_
 (refine H4 rfl rfl (ih ks[i] (List.getElem_mem (by omega)) Gi _ (Tm.smallL_mem hks _ (List.getElem_mem (by omega))) hre hv) rfl rfl rfl (fun u G3 hle3 hh => ?_); obtain ⟨uc, rfl, hru⟩ := hh; have hul := hru.len; have huo := hru.one; obtain ⟨v1, v2, v3, v4, v5, v6, v7, v8, v9, rfl⟩ := nine hul)
 refine A4 10 ?_
 (refine E6 rfl (D2 rfl rfl rfl (by omega) (by unfold maxLen; omega) rfl) rfl rfl ?_; rintro _ ⟨b393, rfl⟩)
 refine A4 11 ?_
 (refine R4 rfl rfl rfl rfl rfl rfl (fun _ _ => by repeat (first | exact Sw.here | apply Sw.there)) (O2 (by repeat first | exact mH | apply mT)) rfl (fun u hu => List.all_eq_true.1 huo u hu) (by unfold maxLen; omega) (by omega) rfl rfl (by repeat (first | exact A9.nil | apply A9.dep (by decide +kernel) | apply A9.im (by decide +kernel) (by assumption) (by repeat first | exact mH | apply mT) | apply A9.blk (by decide +kernel) (by repeat (first | exact Pk.here | apply Pk.there)) (by repeat first | exact mH | apply mT) | apply A9.slc (by decide +kernel) (by repeat (first | exact Pk.here | apply Pk.there)) (by repeat first | exact mH | apply mT))) (fun p7 c7 => ?_))
 refine aP 12 rfl (B8 rfl) rfl ?_
 refine A4 13 ?_
 refine R9 rfl rfl rfl rfl rfl rfl rfl rfl (by decide +kernel) (by repeat first | exact Sw.here | apply Sw.there) (by rfl) ?_
 refine B2 ?_
 refine sP (J6 rfl rfl (by omega) (by omega)) rfl rfl ?_
 refine A5 ?_
 refine K3 (i + 1, p7, c7, es' ++ [[v1, v2, v3, v4, v5, v6, v7, v8, v9]], G3) ?_ ?_ ?_
 (simp only [J9]; exact E2)
 exact A7z
 exact X7
 refine J1 ?_
 (refine H3 (cs := es'.flatten) (by repeat (first | exact Pk.here | apply Pk.there)) (fun G4 hle4 hsl4 hno4 => ?_); obtain rfl : i = ks.length := (by omega))
 refine tT ?_
 refine N4 (rC rfl (A6 rfl rfl)) ?_
 exact A7A
theorem B1I (k : Int) (a b : Tm) (G : IM) (ca cb : List Value) (hk78 : k = 7 ∨ k = 8) (hca : 0 ≤ a.num ∧ a.num ≤ 999) (hcb : 0 ≤ b.num ∧ b.num ≤ 999) (hra : B3 G a ca) (hrb : B3 G b cb) : Fn Tryz.prog 174 [.int .i64 k, .agg ⟨ca⟩, .agg ⟨cb⟩] [] G (L8 (N1 k B4 B4 0 [a, b])) := by
 obtain ⟨ak, anm, anum, ⟨atk, atks⟩, ⟨afk, afks⟩, alb, aks⟩ := a
 obtain ⟨bk, bnm, bnum, ⟨btk, btks⟩, ⟨bfk, bfks⟩, blb, bks⟩ := b
 obtain ⟨apt, act, apf, acf, ap, ac, aes, rfl, hak, hanum, halb, haty, hafr, hasl, hakl⟩ := hra.open9
 obtain ⟨bpt, bct, bpf, bcf, bp, bc, bes, rfl, hbk, hbnum, hblb, hbty, hbfr, hbsl, hbkl⟩ := hrb.open9
 simp only [Tm.num] at hca hcb
 have hR : N1 k B4 B4 0 [Tm.mk ak anm anum (.mk atk atks) (.mk afk afks) alb aks, Tm.mk bk bnm bnum (.mk btk btks) (.mk bfk bfks) blb bks] = (if ak = 2 ∧ bk = 2 then (if k = 7 then A2a ((anum + bnum) % 1000) else Y3 (anum < bnum), 1, 0) else Q2) := by
  unfold N1; rw [if_neg (by omega), if_pos hk78]; rfl
 rw [hR]
 have htm : (anum + bnum).tmod 1000 = (anum + bnum) % 1000 := B0E hca hcb
 have hb : H1 ((anum + bnum) % 1000) := ⟨by omega, by omega⟩
 refine C2 Tryz.func174 rfl Tryz.ntmps174 Tryz.results174 rfl ?_
 intro w0
 refine A5 ?_
 refine sE (C7 rfl rfl) rfl (fun b3 => ?_)
 refine sE (C7 rfl rfl) rfl (fun b4 => ?_)
 refine sE (A8 rfl) rfl (fun b5 => ?_)
 refine E1 ?_
 refine sB (M1 rfl rfl) rfl rfl (fun h15 => ?_) (fun h15 => ?_)
 refine U1 ?_
 refine D1 (rC rfl (A6 rfl rfl)) (rT rfl) (rT rfl) ?_
 (exact L8.mk (by rw [if_neg (by omega)]; rfl) (P5 _))
 refine B9 ?_
 refine sB (M1 rfl rfl) rfl rfl (fun h39 => ?_) (fun h39 => ?_)
 refine J1 ?_
 refine D1 (rC rfl (A6 rfl rfl)) (rT rfl) (rT rfl) ?_
 (exact L8.mk (by rw [if_neg (by omega)]; rfl) (P5 _))
 refine J0 ?_
 refine sB (qE rfl rfl) rfl rfl (fun h66 => ?_) (fun h66 => ?_)
 refine E1 ?_
 refine sP (J6 rfl rfl (by omega) (by omega)) rfl rfl ?_
 refine sP (A3N rfl rfl (by omega)) rfl rfl ?_
 (rw [htm]; refine H9 rfl (A2I _ _) rfl rfl ?_)
 refine B5 ?_
 refine D1 (rC rfl (A6 rfl rfl)) (rT rfl) (rT rfl) ?_
 (exact L8.mk (u := A2a (HMod.hMod (anum + bnum) 1000)) (by rw [if_pos ⟨by omega, by omega⟩, if_pos (by omega)]) (B3.put (us := []) ⟨by decide, by decide⟩ hb ⟨by decide, by decide⟩ (A1R _) (A1R _) rfl (E0.nil _ _) rfl))
 refine I8 ?_
 (refine sB (J8 rfl rfl) rfl rfl (fun h99 => ?_) (fun h99 => ?_))
 (refine E5 rfl (B1H _ _) rfl rfl (fun u G1 hle1 hh => ?_); obtain ⟨uc, rfl, hru⟩ := hh; have hul := hru.len; have huo := hru.one)
 refine sS rfl rfl rfl hul huo rfl ?_ (hu := by exact D4 hul.symm)
 refine B2 ?_
 refine D1 (rC rfl (A3 rfl rfl (B1 (by repeat first | exact mH | apply mT)) hul)) (rT rfl) (rT rfl) ?_
 (exact L8.mk (by rw [if_pos ⟨by omega, by omega⟩, if_neg (by omega)]; unfold Y3; rw [if_pos (by omega), if_pos rfl]) hru)
 (refine E5 rfl (B1H _ _) rfl rfl (fun u G1 hle1 hh => ?_); obtain ⟨uc, rfl, hru⟩ := hh; have hul := hru.len; have huo := hru.one)
 refine sS rfl rfl rfl hul huo rfl ?_ (hu := by exact D4 hul.symm)
 refine B2 ?_
 refine D1 (rC rfl (A3 rfl rfl (B1 (by repeat first | exact mH | apply mT)) hul)) (rT rfl) (rT rfl) ?_
 (exact L8.mk (by rw [if_pos ⟨by omega, by omega⟩, if_neg (by omega)]; unfold Y3; rw [if_neg (by omega), if_neg (by decide)]) hru)
theorem A5F {Q : Prop} (h : Q := by (exact L8.mk (by rw [if_neg (by omega), if_neg (by omega)]; rfl) (P5 _))) : Q := h
theorem A3F {Q : Prop} (h : Q := by (exact L8.mk (by rw [if_neg hnd, if_pos hq, A2k (by omega), A00 (by omega), A00 (by omega), A00 (by omega), A00 (by omega)]) hrw)) : Q := h
theorem B7f (a b : Tm) (G : IM) (ca cb : List Value) (hca : cv a) (hbs : b.small) (hra : B3 G a ca) (hrb : B3 G b cb) : Fn Tryz.prog 173 [.agg ⟨ca⟩, .agg ⟨cb⟩] [] G (L8 (N1 6 B4 B4 0 [a, b])) := by
 have hsma := A2L a hca
 have hP := A5D a G _ hra
 obtain ⟨ak, anm, anum, ⟨atk, atks⟩, ⟨afk, afks⟩, alb, aks⟩ := a
 obtain ⟨hN, hkk⟩ := hca.node
 have hops := hN.ops
 have hbl := hN.lbB
 have htyA := hN.tyA
 have hfrA := hN.frA
 rw [F8] at htyA hfrA
 have htyS := fun t (h : t ∈ atks) => (A1N.1 htyA.2.2 t h).small
 have hfrS := fun t (h : t ∈ afks) => (A1N.1 hfrA.2.2 t h).small
 have h14 : ak = 14 → aks.length = 1 := fun h => by rw [h] at hops; have : D7 14 = 1 := rfl; omega
 have h5 : ak = 5 → aks.length = 1 := fun h => by rw [h] at hops; have : D7 5 = 1 := rfl; omega
 obtain ⟨_, _, _, _, hksm⟩ := A0t.1 hsma
 have hbL := hrb.len
 have hbO := hrb.one
 obtain ⟨apt, act, apf, acf, ap, ac, aes, rfl, hak, hanum, halb, haty, hafr, hasl, hakl⟩ := hra.open9
 obtain ⟨tes, htS, htL⟩ := haty.kids
 obtain ⟨fes, hfS, hfL⟩ := hafr.kids
 simp only [Ty.ks] at htS htL hfS hfL
 obtain ⟨y1, y2, y3, y4, y5, y6, y7, y8, y9, rfl⟩ := nine hbL
 have hR : N1 6 B4 B4 0 [Tm.mk ak anm anum (.mk atk atks) (.mk afk afks) alb aks, b] = (if ak = 5 then (R8 anm b (kd aks 0), 1, 0) else if (ak = 14 ∧ afk = atk ∧ (atk = 4 ∨ atk = 5)) ∧ atk = 4 then (K7 (Y2 6 [kd aks 0, K7 b (kt atks 0) (kt afks 0) (-alb)]) (kt afks 1) (kt atks 1) alb, 1, 0) else Q2) := by
  unfold N1
  rw [if_pos rfl, show kd [Tm.mk ak anm anum (.mk atk atks) (.mk afk afks) alb aks, b] 0 = Tm.mk ak anm anum (.mk atk atks) (.mk afk afks) alb aks from rfl, A0N]
  simp only [decide_eq_true_eq]
  rfl
 rw [hR]
 replace hP : Fn Tryz.prog 87 _ [] G (H5 (.bool (decide (ak = 14 ∧ afk = atk ∧ (atk = 4 ∨ atk = 5)))) G) := hP
 refine C2 Tryz.func173 rfl Tryz.ntmps173 Tryz.results173 rfl ?_
 intro w0
 refine A5 ?_
 refine sE (C7 rfl rfl) rfl (fun b3 => ?_)
 refine sE (C7 rfl rfl) rfl (fun b4 => ?_)
 refine sE (A8 rfl) rfl (fun b5 => ?_)
 refine E1 ?_
 refine sB (qE rfl rfl) rfl rfl (fun h15 => ?_) (fun h15 => ?_)
 refine B7 ?_
 (have hq : ak = 5 := (by assumption); have hq1 := h5 hq; obtain ⟨bq, oq, e3, rfl, hl3, hat3, hre3, hgb3⟩ := hasl.kidTm hakl (i := 0) (by omega) (by omega); have hS := B7e anm b _ hbs aks[0] G e3 (Tm.smallL_mem hksm _ (List.getElem_mem (by omega))) hre3 hrb; refine D8 D9 rfl ?_)
 refine L3 (i := 6) (l' := [ff,ff,ff,ff,ff,ff,tt,ff,ff,ff,ff]) rfl D3 (A3 rfl rfl (B1 (by repeat first | exact mH | apply mT)) rfl) rfl (by kernel_rfl) rfl rfl ?_
 refine aP 0 rfl (B8 rfl) rfl ?_
 refine aL 1 rfl (C4 rfl rfl) rfl ?_
 refine aP 2 rfl (B6 (j := 0) rfl rfl rfl (by omega)) rfl ?_
 refine aL 3 rfl (A3 rfl rfl (hat3 _) hl3) rfl ?_
 refine aP 4 rfl (B8 rfl) rfl ?_
 refine aL 5 rfl (C4 rfl rfl) rfl ?_
 refine A4 7 ?_
 (refine H4 rfl rfl hS rfl rfl rfl (fun u G1 hle1 hh => ?_); obtain ⟨uc, rfl, hru⟩ := hh; have hwl := hru.len; have hwo := hru.one)
 refine A4 8 ?_
 (refine oS rfl rfl rfl rfl hwl hwo rfl rfl ?_ (hu := by exact D4 hwl.symm))
 refine aP 9 rfl (qA rfl) rfl ?_
 refine aP 10 rfl (qA rfl) rfl ?_
 refine B7 ?_
 refine D1 (rC rfl (A3 rfl rfl (B1 (by repeat first | exact mH | apply mT)) hwl)) (rT rfl) (rT rfl) ?_
 (exact L8.mk (by rw [if_pos hq, A2k (by omega)]) hru)
 refine E1 ?_
 focus (by_cases hpx : (ak = 14 ∧ afk = atk ∧ (atk = 4 ∨ atk = 5)); rw [decide_eq_true hpx] at hP; rotate_left; rw [decide_eq_false hpx] at hP; rotate_left; all_goals (refine H9 rfl hP rfl rfl ?_))
 refine B2 ?_
 refine sB (M1 rfl rfl) rfl rfl (fun h55 => ?_) (fun h55 => ?_)
 refine J1 ?_
 refine D1 (rC rfl (A6 rfl rfl)) (rT rfl) (rT rfl) ?_
 exact A5F
 refine B5 ?_
 (have hnd : ¬ak = 5 := (by omega); have hq : (ak = 14 ∧ afk = atk ∧ (atk = 4 ∨ atk = 5)) ∧ atk = 4 := ⟨hpx, by omega⟩; have hq1 := h14 hq.1.1; have hq2 := htyA.1 (by omega); have hq3 := hfrA.1 (by omega); obtain ⟨bq, oq, e3, rfl, hl3, hat3, hre3, hgb3⟩ := hasl.kidTm hakl (i := 0) (by omega) (by omega); have ho3 := hre3.one; obtain ⟨b5, o5, q5, d5, rfl, hat5, hre5, hgb5⟩ := htS.kidTy htL (i := 0) (by omega) (by omega); obtain ⟨_, _, q6, d6, hp6, hat6, hre6, hgb6⟩ := htS.kidTy htL (i := 1) (by omega) (by omega); cases hp6; obtain ⟨b7, o7, q7, d7, rfl, hat7, hre7, hgb7⟩ := hfS.kidTy hfL (i := 0) (by omega) (by omega); obtain ⟨_, _, q8, d8, hp8, hat8, hre8, hgb8⟩ := hfS.kidTy hfL (i := 1) (by omega) (by omega); cases hp8; obtain ⟨x1, x2, x3, x4, x5, x6, x7, x8, x9, rfl⟩ := nine hl3; refine D8 D9 rfl ?_)
 refine L3 (i := 0) (l' := [tt,ff,ff,ff,ff,ff,ff,ff,ff,ff,ff,ff,ff,ff,ff,ff,ff]) rfl D3 (A3 rfl rfl (B1 (by repeat first | exact mH | apply mT)) rfl) rfl (by kernel_rfl) rfl rfl ?_
 refine aP 1 rfl (B8 rfl) rfl ?_
 refine aP 2 rfl (qF rfl) rfl ?_
 refine aL 3 rfl (C4 rfl rfl) rfl ?_
 refine aP 4 rfl (B6 (j := 0) rfl rfl rfl (by omega)) rfl ?_
 refine aL 5 rfl (A3 rfl rfl (hat5 _) rfl) rfl ?_
 refine aP 6 rfl (B8 rfl) rfl ?_
 refine aP 7 rfl (qF rfl) rfl ?_
 refine aL 8 rfl (C4 rfl rfl) rfl ?_
 refine aP 9 rfl (B6 (j := 0) rfl rfl rfl (by omega)) rfl ?_
 refine aL 10 rfl (A3 rfl rfl (hat7 _) rfl) rfl ?_
 refine aP 11 rfl (B8 rfl) rfl ?_
 refine aL 12 rfl (C4 rfl rfl) rfl ?_
 refine aP 13 rfl (A4I rfl (by omega) (by omega)) rfl ?_
 refine Q8 (j := 14) (j' := 15) (by kernel_rfl) ?_ ?_
 (have hcO := hnd; refine H4 rfl rfl (A0O b atks[0] afks[0] (-alb) G _ _ _ ⟨by omega, by omega⟩ hrb hre5 hre7 (htyS _ (List.getElem_mem (by omega))) (hfrS _ (List.getElem_mem (by omega)))) rfl rfl rfl (fun u G1 hle1 hh => ?_); obtain ⟨uc, rfl, hru⟩ := hh; have hul := hru.len; have huo := hru.one; obtain ⟨z1, z2, z3, z4, z5, z6, z7, z8, z9, rfl⟩ := nine hul; replace hre3 := hre3.mono hle1; replace hre6 := hre6.mono hle1; replace hre8 := hre8.mono hle1)
 refine A4 15 ?_
 (refine E6 rfl (A8 rfl) rfl rfl ?_; rintro _ ⟨b97, rfl⟩)
 refine A4 16 ?_
 (refine oS rfl rfl rfl rfl rfl huo rfl rfl ?_ (hu := by exact D4 rfl))
 refine B9 ?_
 refine D8 D9 rfl ?_
 refine L3 (i := 4) (l' := [ff,ff,ff,ff,tt,ff,ff,ff,ff]) rfl D3 (A3 rfl rfl (B1 (by repeat first | exact mH | apply mT)) rfl) rfl (by kernel_rfl) rfl rfl ?_
 refine aP 0 rfl (B8 rfl) rfl ?_
 refine aL 1 rfl (C4 rfl rfl) rfl ?_
 refine aP 2 rfl (B6 (j := 0) rfl rfl rfl (by omega)) rfl ?_
 refine aL 3 rfl (A3 rfl rfl (At.mono' hle1 (hat3 _)) rfl) rfl ?_
 refine Q8 (j := 5) (j' := 7) (by kernel_rfl) ?_ ?_
 (refine E6 rfl (D2 rfl rfl rfl (by omega) (by unfold maxLen; omega) rfl) rfl rfl ?_; rintro _ ⟨b110, rfl⟩)
 refine Q8 (j := 6) (j' := 7) (by kernel_rfl) ?_ ?_
 (refine A1e (cs := [x1, x2, x3, x4, x5, x6, x7, x8, x9, z1, z2, z3, z4, z5, z6, z7, z8, z9]) (by repeat (first | exact Pk.here | apply Pk.there)) (fun G2 hle2 hsl2 hno2 => ?_); have hrN := A0Z (k := 6) (ks := [aks[0], K7 b atks[0] afks[0] (-alb)]) (es := [[x1, x2, x3, x4, x5, x6, x7, x8, x9], [z1, z2, z3, z4, z5, z6, z7, z8, z9]]) ⟨by decide, by decide⟩ rfl (E0.of hsl2 rfl (by simp) (by intro x hx; rcases List.mem_cons.1 hx with rfl | hx; exact ho3; obtain rfl := List.mem_singleton.1 hx; exact huo)) (by simp only [E4]; exact ⟨_, _, rfl, hre3.mono hle2, _, _, rfl, hru.mono hle2, rfl⟩); replace hre6 := hre6.mono hle2; replace hre8 := hre8.mono hle2; refine N6 rfl rfl (A0z _ _ _ _ _) rfl rfl rfl ?_)
 refine A4 7 ?_
 (refine E6 rfl (A8 rfl) rfl rfl ?_; rintro _ ⟨b114, rfl⟩)
 refine A4 8 ?_
 refine H8 rfl ?_
 refine B9 ?_
 refine D8 D9 rfl ?_
 refine L3 (i := 0) (l' := [tt,ff,ff,ff,ff,ff,ff,ff,ff,ff,ff,ff,ff,ff,ff,ff,ff]) rfl D3 (A3 rfl rfl (B1 (by repeat first | exact mH | apply mT)) rfl) rfl (by kernel_rfl) rfl rfl ?_
 refine aP 1 rfl (B8 rfl) rfl ?_
 refine aP 2 rfl (qF rfl) rfl ?_
 refine aL 3 rfl (C4 rfl rfl) rfl ?_
 refine aP 4 rfl (B6 (j := 1) rfl rfl rfl (by omega)) rfl ?_
 refine aL 5 rfl (A3 rfl rfl (At.mono' (hle1.trans hle2) (hat8 _)) rfl) rfl ?_
 refine aP 6 rfl (B8 rfl) rfl ?_
 refine aP 7 rfl (qF rfl) rfl ?_
 refine aL 8 rfl (C4 rfl rfl) rfl ?_
 refine aP 9 rfl (B6 (j := 1) rfl rfl rfl (by omega)) rfl ?_
 refine aL 10 rfl (A3 rfl rfl (At.mono' (hle1.trans hle2) (hat6 _)) rfl) rfl ?_
 refine aP 11 rfl (B8 rfl) rfl ?_
 refine aL 12 rfl (C4 rfl rfl) rfl ?_
 refine A4 13 ?_
 (refine H4 rfl rfl (A0O _ afks[1] atks[1] alb G2 _ _ _ ⟨by omega, by omega⟩ hrN hre8 hre6 (hfrS _ (List.getElem_mem (by omega))) (htyS _ (List.getElem_mem (by omega)))) rfl rfl rfl (fun u G3 hle3 hh => ?_); obtain ⟨wc, rfl, hrw⟩ := hh; have hwl := hrw.len; have hwo := hrw.one)
 refine A4 14 ?_
 (refine oS rfl rfl rfl rfl hwl hwo rfl rfl ?_ (hu := by exact D4 hwl.symm))
 refine aP 15 rfl (qA rfl) rfl ?_
 refine aP 16 rfl (qA rfl) rfl ?_
 refine B9 ?_
 refine D1 (rC rfl (A3 rfl rfl (B1 (by repeat first | exact mH | apply mT)) hwl)) (rT rfl) (rT rfl) ?_
 exact A3F
 (refine E6 rfl (A8 rfl) rfl rfl ?_; rintro _ ⟨b145, rfl⟩)
 refine A4 6 ?_
 (refine A1e (cs := [x1, x2, x3, x4, x5, x6, x7, x8, x9, z1, z2, z3, z4, z5, z6, z7, z8, z9]) (by repeat (first | exact Pk.here | apply Pk.there)) (fun G2 hle2 hsl2 hno2 => ?_); have hrN := A0Z (k := 6) (ks := [aks[0], K7 b atks[0] afks[0] (-alb)]) (es := [[x1, x2, x3, x4, x5, x6, x7, x8, x9], [z1, z2, z3, z4, z5, z6, z7, z8, z9]]) ⟨by decide, by decide⟩ rfl (E0.of hsl2 rfl (by simp) (by intro x hx; rcases List.mem_cons.1 hx with rfl | hx; exact ho3; obtain rfl := List.mem_singleton.1 hx; exact huo)) (by simp only [E4]; exact ⟨_, _, rfl, hre3.mono hle2, _, _, rfl, hru.mono hle2, rfl⟩); replace hre6 := hre6.mono hle2; replace hre8 := hre8.mono hle2; refine N6 rfl rfl (A0z _ _ _ _ _) rfl rfl rfl ?_)
 refine A4 8 ?_
 refine H8 rfl ?_
 refine B9 ?_
 refine D8 D9 rfl ?_
 refine L3 (i := 0) (l' := [tt,ff,ff,ff,ff,ff,ff,ff,ff,ff,ff,ff,ff,ff,ff,ff,ff]) rfl D3 (A3 rfl rfl (B1 (by repeat first | exact mH | apply mT)) rfl) rfl (by kernel_rfl) rfl rfl ?_
 refine aP 1 rfl (B8 rfl) rfl ?_
 refine aP 2 rfl (qF rfl) rfl ?_
 refine aL 3 rfl (C4 rfl rfl) rfl ?_
 refine aP 4 rfl (B6 (j := 1) rfl rfl rfl (by omega)) rfl ?_
 refine aL 5 rfl (A3 rfl rfl (At.mono' (hle1.trans hle2) (hat8 _)) rfl) rfl ?_
 refine aP 6 rfl (B8 rfl) rfl ?_
 refine aP 7 rfl (qF rfl) rfl ?_
 refine aL 8 rfl (C4 rfl rfl) rfl ?_
 refine aP 9 rfl (B6 (j := 1) rfl rfl rfl (by omega)) rfl ?_
 refine aL 10 rfl (A3 rfl rfl (At.mono' (hle1.trans hle2) (hat6 _)) rfl) rfl ?_
 refine aP 11 rfl (B8 rfl) rfl ?_
 refine aL 12 rfl (C4 rfl rfl) rfl ?_
 refine A4 13 ?_
 (refine H4 rfl rfl (A0O _ afks[1] atks[1] alb G2 _ _ _ ⟨by omega, by omega⟩ hrN hre8 hre6 (hfrS _ (List.getElem_mem (by omega))) (htyS _ (List.getElem_mem (by omega)))) rfl rfl rfl (fun u G3 hle3 hh => ?_); obtain ⟨wc, rfl, hrw⟩ := hh; have hwl := hrw.len; have hwo := hrw.one)
 refine A4 14 ?_
 (refine oS rfl rfl rfl rfl hwl hwo rfl rfl ?_ (hu := by exact D4 hwl.symm))
 refine aP 15 rfl (qA rfl) rfl ?_
 refine aP 16 rfl (qA rfl) rfl ?_
 refine B9 ?_
 refine D1 (rC rfl (A3 rfl rfl (B1 (by repeat first | exact mH | apply mT)) hwl)) (rT rfl) (rT rfl) ?_
 exact A3F
 (refine E6 rfl (A8 rfl) rfl rfl ?_; rintro _ ⟨b178, rfl⟩)
 refine A4 5 ?_
 (refine E6 rfl (D2 rfl rfl rfl (by omega) (by unfold maxLen; omega) rfl) rfl rfl ?_; rintro _ ⟨b180, rfl⟩)
 refine A4 6 ?_
 (refine A1e (cs := [x1, x2, x3, x4, x5, x6, x7, x8, x9, z1, z2, z3, z4, z5, z6, z7, z8, z9]) (by repeat (first | exact Pk.here | apply Pk.there)) (fun G2 hle2 hsl2 hno2 => ?_); have hrN := A0Z (k := 6) (ks := [aks[0], K7 b atks[0] afks[0] (-alb)]) (es := [[x1, x2, x3, x4, x5, x6, x7, x8, x9], [z1, z2, z3, z4, z5, z6, z7, z8, z9]]) ⟨by decide, by decide⟩ rfl (E0.of hsl2 rfl (by simp) (by intro x hx; rcases List.mem_cons.1 hx with rfl | hx; exact ho3; obtain rfl := List.mem_singleton.1 hx; exact huo)) (by simp only [E4]; exact ⟨_, _, rfl, hre3.mono hle2, _, _, rfl, hru.mono hle2, rfl⟩); replace hre6 := hre6.mono hle2; replace hre8 := hre8.mono hle2; refine N6 rfl rfl (A0z _ _ _ _ _) rfl rfl rfl ?_)
 refine A4 8 ?_
 refine H8 rfl ?_
 refine B9 ?_
 refine D8 D9 rfl ?_
 refine L3 (i := 0) (l' := [tt,ff,ff,ff,ff,ff,ff,ff,ff,ff,ff,ff,ff,ff,ff,ff,ff]) rfl D3 (A3 rfl rfl (B1 (by repeat first | exact mH | apply mT)) rfl) rfl (by kernel_rfl) rfl rfl ?_
 refine aP 1 rfl (B8 rfl) rfl ?_
 refine aP 2 rfl (qF rfl) rfl ?_
 refine aL 3 rfl (C4 rfl rfl) rfl ?_
 refine aP 4 rfl (B6 (j := 1) rfl rfl rfl (by omega)) rfl ?_
 refine aL 5 rfl (A3 rfl rfl (At.mono' (hle1.trans hle2) (hat8 _)) rfl) rfl ?_
 refine aP 6 rfl (B8 rfl) rfl ?_
 refine aP 7 rfl (qF rfl) rfl ?_
 refine aL 8 rfl (C4 rfl rfl) rfl ?_
 refine aP 9 rfl (B6 (j := 1) rfl rfl rfl (by omega)) rfl ?_
 refine aL 10 rfl (A3 rfl rfl (At.mono' (hle1.trans hle2) (hat6 _)) rfl) rfl ?_
 refine aP 11 rfl (B8 rfl) rfl ?_
 refine aL 12 rfl (C4 rfl rfl) rfl ?_
 refine A4 13 ?_
 (refine H4 rfl rfl (A0O _ afks[1] atks[1] alb G2 _ _ _ ⟨by omega, by omega⟩ hrN hre8 hre6 (hfrS _ (List.getElem_mem (by omega))) (htyS _ (List.getElem_mem (by omega)))) rfl rfl rfl (fun u G3 hle3 hh => ?_); obtain ⟨wc, rfl, hrw⟩ := hh; have hwl := hrw.len; have hwo := hrw.one)
 refine A4 14 ?_
 (refine oS rfl rfl rfl rfl hwl hwo rfl rfl ?_ (hu := by exact D4 hwl.symm))
 refine aP 15 rfl (qA rfl) rfl ?_
 refine aP 16 rfl (qA rfl) rfl ?_
 refine B9 ?_
 refine D1 (rC rfl (A3 rfl rfl (B1 (by repeat first | exact mH | apply mT)) hwl)) (rT rfl) (rT rfl) ?_
 exact A3F
 (refine E6 rfl (A8 rfl) rfl rfl ?_; rintro _ ⟨b213, rfl⟩)
 refine A4 14 ?_
 (have hcO := hnd; refine H4 rfl rfl (A0O b atks[0] afks[0] (-alb) G _ _ _ ⟨by omega, by omega⟩ hrb hre5 hre7 (htyS _ (List.getElem_mem (by omega))) (hfrS _ (List.getElem_mem (by omega)))) rfl rfl rfl (fun u G1 hle1 hh => ?_); obtain ⟨uc, rfl, hru⟩ := hh; have hul := hru.len; have huo := hru.one; obtain ⟨z1, z2, z3, z4, z5, z6, z7, z8, z9, rfl⟩ := nine hul; replace hre3 := hre3.mono hle1; replace hre6 := hre6.mono hle1; replace hre8 := hre8.mono hle1)
 refine A4 16 ?_
 (refine oS rfl rfl rfl rfl rfl huo rfl rfl ?_ (hu := by exact D4 rfl))
 refine B9 ?_
 refine D8 D9 rfl ?_
 refine L3 (i := 4) (l' := [ff,ff,ff,ff,tt,ff,ff,ff,ff]) rfl D3 (A3 rfl rfl (B1 (by repeat first | exact mH | apply mT)) rfl) rfl (by kernel_rfl) rfl rfl ?_
 refine aP 0 rfl (B8 rfl) rfl ?_
 refine aL 1 rfl (C4 rfl rfl) rfl ?_
 refine aP 2 rfl (B6 (j := 0) rfl rfl rfl (by omega)) rfl ?_
 refine aL 3 rfl (A3 rfl rfl (At.mono' hle1 (hat3 _)) rfl) rfl ?_
 refine Q8 (j := 5) (j' := 7) (by kernel_rfl) ?_ ?_
 (refine E6 rfl (D2 rfl rfl rfl (by omega) (by unfold maxLen; omega) rfl) rfl rfl ?_; rintro _ ⟨b228, rfl⟩)
 refine Q8 (j := 6) (j' := 7) (by kernel_rfl) ?_ ?_
 (refine A1e (cs := [x1, x2, x3, x4, x5, x6, x7, x8, x9, z1, z2, z3, z4, z5, z6, z7, z8, z9]) (by repeat (first | exact Pk.here | apply Pk.there)) (fun G2 hle2 hsl2 hno2 => ?_); have hrN := A0Z (k := 6) (ks := [aks[0], K7 b atks[0] afks[0] (-alb)]) (es := [[x1, x2, x3, x4, x5, x6, x7, x8, x9], [z1, z2, z3, z4, z5, z6, z7, z8, z9]]) ⟨by decide, by decide⟩ rfl (E0.of hsl2 rfl (by simp) (by intro x hx; rcases List.mem_cons.1 hx with rfl | hx; exact ho3; obtain rfl := List.mem_singleton.1 hx; exact huo)) (by simp only [E4]; exact ⟨_, _, rfl, hre3.mono hle2, _, _, rfl, hru.mono hle2, rfl⟩); replace hre6 := hre6.mono hle2; replace hre8 := hre8.mono hle2; refine N6 rfl rfl (A0z _ _ _ _ _) rfl rfl rfl ?_)
 refine A4 7 ?_
 (refine E6 rfl (A8 rfl) rfl rfl ?_; rintro _ ⟨b232, rfl⟩)
 refine A4 8 ?_
 refine H8 rfl ?_
 refine B9 ?_
 refine D8 D9 rfl ?_
 refine L3 (i := 0) (l' := [tt,ff,ff,ff,ff,ff,ff,ff,ff,ff,ff,ff,ff,ff,ff,ff,ff]) rfl D3 (A3 rfl rfl (B1 (by repeat first | exact mH | apply mT)) rfl) rfl (by kernel_rfl) rfl rfl ?_
 refine aP 1 rfl (B8 rfl) rfl ?_
 refine aP 2 rfl (qF rfl) rfl ?_
 refine aL 3 rfl (C4 rfl rfl) rfl ?_
 refine aP 4 rfl (B6 (j := 1) rfl rfl rfl (by omega)) rfl ?_
 refine aL 5 rfl (A3 rfl rfl (At.mono' (hle1.trans hle2) (hat8 _)) rfl) rfl ?_
 refine aP 6 rfl (B8 rfl) rfl ?_
 refine aP 7 rfl (qF rfl) rfl ?_
 refine aL 8 rfl (C4 rfl rfl) rfl ?_
 refine aP 9 rfl (B6 (j := 1) rfl rfl rfl (by omega)) rfl ?_
 refine aL 10 rfl (A3 rfl rfl (At.mono' (hle1.trans hle2) (hat6 _)) rfl) rfl ?_
 refine aP 11 rfl (B8 rfl) rfl ?_
 refine aL 12 rfl (C4 rfl rfl) rfl ?_
 refine A4 13 ?_
 (refine H4 rfl rfl (A0O _ afks[1] atks[1] alb G2 _ _ _ ⟨by omega, by omega⟩ hrN hre8 hre6 (hfrS _ (List.getElem_mem (by omega))) (htyS _ (List.getElem_mem (by omega)))) rfl rfl rfl (fun u G3 hle3 hh => ?_); obtain ⟨wc, rfl, hrw⟩ := hh; have hwl := hrw.len; have hwo := hrw.one)
 refine A4 14 ?_
 (refine oS rfl rfl rfl rfl hwl hwo rfl rfl ?_ (hu := by exact D4 hwl.symm))
 refine aP 15 rfl (qA rfl) rfl ?_
 refine aP 16 rfl (qA rfl) rfl ?_
 refine B9 ?_
 refine D1 (rC rfl (A3 rfl rfl (B1 (by repeat first | exact mH | apply mT)) hwl)) (rT rfl) (rT rfl) ?_
 exact A3F
 (refine E6 rfl (A8 rfl) rfl rfl ?_; rintro _ ⟨b263, rfl⟩)
 refine A4 6 ?_
 (refine A1e (cs := [x1, x2, x3, x4, x5, x6, x7, x8, x9, z1, z2, z3, z4, z5, z6, z7, z8, z9]) (by repeat (first | exact Pk.here | apply Pk.there)) (fun G2 hle2 hsl2 hno2 => ?_); have hrN := A0Z (k := 6) (ks := [aks[0], K7 b atks[0] afks[0] (-alb)]) (es := [[x1, x2, x3, x4, x5, x6, x7, x8, x9], [z1, z2, z3, z4, z5, z6, z7, z8, z9]]) ⟨by decide, by decide⟩ rfl (E0.of hsl2 rfl (by simp) (by intro x hx; rcases List.mem_cons.1 hx with rfl | hx; exact ho3; obtain rfl := List.mem_singleton.1 hx; exact huo)) (by simp only [E4]; exact ⟨_, _, rfl, hre3.mono hle2, _, _, rfl, hru.mono hle2, rfl⟩); replace hre6 := hre6.mono hle2; replace hre8 := hre8.mono hle2; refine N6 rfl rfl (A0z _ _ _ _ _) rfl rfl rfl ?_)
 refine A4 8 ?_
 refine H8 rfl ?_
 refine B9 ?_
 refine D8 D9 rfl ?_
 refine L3 (i := 0) (l' := [tt,ff,ff,ff,ff,ff,ff,ff,ff,ff,ff,ff,ff,ff,ff,ff,ff]) rfl D3 (A3 rfl rfl (B1 (by repeat first | exact mH | apply mT)) rfl) rfl (by kernel_rfl) rfl rfl ?_
 refine aP 1 rfl (B8 rfl) rfl ?_
 refine aP 2 rfl (qF rfl) rfl ?_
 refine aL 3 rfl (C4 rfl rfl) rfl ?_
 refine aP 4 rfl (B6 (j := 1) rfl rfl rfl (by omega)) rfl ?_
 refine aL 5 rfl (A3 rfl rfl (At.mono' (hle1.trans hle2) (hat8 _)) rfl) rfl ?_
 refine aP 6 rfl (B8 rfl) rfl ?_
 refine aP 7 rfl (qF rfl) rfl ?_
 refine aL 8 rfl (C4 rfl rfl) rfl ?_
 refine aP 9 rfl (B6 (j := 1) rfl rfl rfl (by omega)) rfl ?_
 refine aL 10 rfl (A3 rfl rfl (At.mono' (hle1.trans hle2) (hat6 _)) rfl) rfl ?_
 refine aP 11 rfl (B8 rfl) rfl ?_
 refine aL 12 rfl (C4 rfl rfl) rfl ?_
 refine A4 13 ?_
 (refine H4 rfl rfl (A0O _ afks[1] atks[1] alb G2 _ _ _ ⟨by omega, by omega⟩ hrN hre8 hre6 (hfrS _ (List.getElem_mem (by omega))) (htyS _ (List.getElem_mem (by omega)))) rfl rfl rfl (fun u G3 hle3 hh => ?_); obtain ⟨wc, rfl, hrw⟩ := hh; have hwl := hrw.len; have hwo := hrw.one)
 refine A4 14 ?_
 (refine oS rfl rfl rfl rfl hwl hwo rfl rfl ?_ (hu := by exact D4 hwl.symm))
 refine aP 15 rfl (qA rfl) rfl ?_
 refine aP 16 rfl (qA rfl) rfl ?_
 refine B9 ?_
 refine D1 (rC rfl (A3 rfl rfl (B1 (by repeat first | exact mH | apply mT)) hwl)) (rT rfl) (rT rfl) ?_
 exact A3F
 (refine E6 rfl (A8 rfl) rfl rfl ?_; rintro _ ⟨b296, rfl⟩)
 refine A4 5 ?_
 (refine E6 rfl (D2 rfl rfl rfl (by omega) (by unfold maxLen; omega) rfl) rfl rfl ?_; rintro _ ⟨b298, rfl⟩)
 refine A4 6 ?_
 (refine A1e (cs := [x1, x2, x3, x4, x5, x6, x7, x8, x9, z1, z2, z3, z4, z5, z6, z7, z8, z9]) (by repeat (first | exact Pk.here | apply Pk.there)) (fun G2 hle2 hsl2 hno2 => ?_); have hrN := A0Z (k := 6) (ks := [aks[0], K7 b atks[0] afks[0] (-alb)]) (es := [[x1, x2, x3, x4, x5, x6, x7, x8, x9], [z1, z2, z3, z4, z5, z6, z7, z8, z9]]) ⟨by decide, by decide⟩ rfl (E0.of hsl2 rfl (by simp) (by intro x hx; rcases List.mem_cons.1 hx with rfl | hx; exact ho3; obtain rfl := List.mem_singleton.1 hx; exact huo)) (by simp only [E4]; exact ⟨_, _, rfl, hre3.mono hle2, _, _, rfl, hru.mono hle2, rfl⟩); replace hre6 := hre6.mono hle2; replace hre8 := hre8.mono hle2; refine N6 rfl rfl (A0z _ _ _ _ _) rfl rfl rfl ?_)
 refine A4 8 ?_
 refine H8 rfl ?_
 refine B9 ?_
 refine D8 D9 rfl ?_
 refine L3 (i := 0) (l' := [tt,ff,ff,ff,ff,ff,ff,ff,ff,ff,ff,ff,ff,ff,ff,ff,ff]) rfl D3 (A3 rfl rfl (B1 (by repeat first | exact mH | apply mT)) rfl) rfl (by kernel_rfl) rfl rfl ?_
 refine aP 1 rfl (B8 rfl) rfl ?_
 refine aP 2 rfl (qF rfl) rfl ?_
 refine aL 3 rfl (C4 rfl rfl) rfl ?_
 refine aP 4 rfl (B6 (j := 1) rfl rfl rfl (by omega)) rfl ?_
 refine aL 5 rfl (A3 rfl rfl (At.mono' (hle1.trans hle2) (hat8 _)) rfl) rfl ?_
 refine aP 6 rfl (B8 rfl) rfl ?_
 refine aP 7 rfl (qF rfl) rfl ?_
 refine aL 8 rfl (C4 rfl rfl) rfl ?_
 refine aP 9 rfl (B6 (j := 1) rfl rfl rfl (by omega)) rfl ?_
 refine aL 10 rfl (A3 rfl rfl (At.mono' (hle1.trans hle2) (hat6 _)) rfl) rfl ?_
 refine aP 11 rfl (B8 rfl) rfl ?_
 refine aL 12 rfl (C4 rfl rfl) rfl ?_
 refine A4 13 ?_
 (refine H4 rfl rfl (A0O _ afks[1] atks[1] alb G2 _ _ _ ⟨by omega, by omega⟩ hrN hre8 hre6 (hfrS _ (List.getElem_mem (by omega))) (htyS _ (List.getElem_mem (by omega)))) rfl rfl rfl (fun u G3 hle3 hh => ?_); obtain ⟨wc, rfl, hrw⟩ := hh; have hwl := hrw.len; have hwo := hrw.one)
 refine A4 14 ?_
 (refine oS rfl rfl rfl rfl hwl hwo rfl rfl ?_ (hu := by exact D4 hwl.symm))
 refine aP 15 rfl (qA rfl) rfl ?_
 refine aP 16 rfl (qA rfl) rfl ?_
 refine B9 ?_
 refine D1 (rC rfl (A3 rfl rfl (B1 (by repeat first | exact mH | apply mT)) hwl)) (rT rfl) (rT rfl) ?_
 exact A3F
 refine A0o ?_
 refine D1 (rC rfl (A6 rfl rfl)) (rT rfl) (rT rfl) ?_
 exact A5F
theorem B1J (k : Int) (a : Tm) (G : IM) (ca : List Value) (hk1 : k = 11 ∨ k = 12) (hca : cv a) (hra : B3 G a ca) : Fn Tryz.prog 175 [.int .i64 k, .agg ⟨ca⟩] [] G (L8 (N1 k B4 B4 0 [a])) := by
 have hP := A5D a G _ hra
 obtain ⟨ak, anm, anum, ⟨atk, atks⟩, ⟨afk, afks⟩, alb, aks⟩ := a
 obtain ⟨hN, hkk⟩ := hca.node
 have hops := hN.ops
 have hbl := hN.lbB
 have htyA := hN.tyA
 have hfrA := hN.frA
 rw [F8] at htyA hfrA
 have htyS := fun t (h : t ∈ atks) => (A1N.1 htyA.2.2 t h).small
 have hfrS := fun t (h : t ∈ afks) => (A1N.1 hfrA.2.2 t h).small
 have h14 : ak = 14 → aks.length = 1 := fun h => by rw [h] at hops; have : D7 14 = 1 := rfl; omega
 have h10 : ak = 10 → aks.length = 2 := fun h => by rw [h] at hops; have : D7 10 = 2 := rfl; omega
 obtain ⟨apt, act, apf, acf, ap, ac, aes, rfl, hak, hanum, halb, haty, hafr, hasl, hakl⟩ := hra.open9
 obtain ⟨tes, htS, htL⟩ := haty.kids
 obtain ⟨fes, hfS, hfL⟩ := hafr.kids
 simp only [Ty.ks] at htS htL hfS hfL
 obtain ⟨i, hi⟩ : ∃ i : Nat, (k - 11).toNat = i := ⟨_, rfl⟩
 have hR : N1 k B4 B4 0 [Tm.mk ak anm anum (.mk atk atks) (.mk afk afks) alb aks] = (if ak = 10 then (kd aks i, 1, 0) else if (ak = 14 ∧ afk = atk ∧ (atk = 4 ∨ atk = 5)) ∧ atk = 5 then (K7 (Y2 k [kd aks 0]) (kt afks i) (kt atks i) alb, 1, 0) else Q2) := by
  unfold N1
  rw [if_neg (by omega), if_neg (by omega), if_neg (by omega), if_pos hk1, hi, show kd [Tm.mk ak anm anum (.mk atk atks) (.mk afk afks) alb aks] 0 = Tm.mk ak anm anum (.mk atk atks) (.mk afk afks) alb aks from rfl, A0N]
  simp only [decide_eq_true_eq]
  rfl
 rw [hR]
 replace hP : Fn Tryz.prog 87 _ [] G (H5 (.bool (decide (ak = 14 ∧ afk = atk ∧ (atk = 4 ∨ atk = 5)))) G) := hP
 refine C2 Tryz.func175 rfl Tryz.ntmps175 Tryz.results175 rfl ?_
 intro w0
 refine A5 ?_
 refine sE (C7 rfl rfl) rfl (fun b3 => ?_)
 refine sE (A8 rfl) rfl (fun b4 => ?_)
 refine B5 ?_
 refine sP (P3 rfl rfl (by omega) (by omega)) rfl rfl ?_
 (rw [show (k - 11 : Int) = ((i : Nat) : Int) from (by omega)]; refine sQ (qA rfl) rfl ?_)
 refine B5 ?_
 refine sB (qE rfl rfl) rfl rfl (fun h21 => ?_) (fun h21 => ?_)
 refine D0 ?_
 (have hq := h10 (by omega); obtain ⟨bq, oq, e3, rfl, hl3, hat3, hre3, hgb3⟩ := hasl.kidTm hakl (i := i) (by omega) (by omega); have ho3 := hre3.one; refine sP (B6 (j := i) rfl rfl rfl (by omega)) rfl rfl ?_)
 refine sL (A3 rfl rfl (hat3 _) hl3) rfl rfl ?_
 refine sS rfl rfl rfl hl3 ho3 rfl ?_ (hu := by exact D4 hl3.symm)
 refine B0 ?_
 refine D1 (rC rfl (A3 rfl rfl (B1 (by repeat first | exact mH | apply mT)) hl3)) (rT rfl) (rT rfl) ?_
 (exact L8.mk (by rw [if_pos (by omega), A2k (by omega)]) hre3)
 refine E1 ?_
 focus (by_cases hpx : (ak = 14 ∧ afk = atk ∧ (atk = 4 ∨ atk = 5)); rw [decide_eq_true hpx] at hP; rotate_left; rw [decide_eq_false hpx] at hP; rotate_left; all_goals (refine H9 rfl hP rfl rfl ?_))
 refine B2 ?_
 refine sB (M1 rfl rfl) rfl rfl (fun h56 => ?_) (fun h56 => ?_)
 refine J1 ?_
 refine D1 (rC rfl (A6 rfl rfl)) (rT rfl) (rT rfl) ?_
 exact A5F
 refine B5 ?_
 (have hnd : ¬ak = 10 := (by omega); have hq : (ak = 14 ∧ afk = atk ∧ (atk = 4 ∨ atk = 5)) ∧ atk = 5 := ⟨hpx, by omega⟩; have hq1 := h14 hq.1.1; have hq2 := htyA.1 (by omega); have hq3 := hfrA.1 (by omega); obtain ⟨bq, oq, e3, rfl, hl3, hat3, hre3, hgb3⟩ := hasl.kidTm hakl (i := 0) (by omega) (by omega); have ho3 := hre3.one; obtain ⟨b5, o5, q5, d5, rfl, hat5, hre5, hgb5⟩ := htS.kidTy htL (i := i) (by omega) (by omega); obtain ⟨b7, o7, q7, d7, rfl, hat7, hre7, hgb7⟩ := hfS.kidTy hfL (i := i) (by omega) (by omega); obtain ⟨x1, x2, x3, x4, x5, x6, x7, x8, x9, rfl⟩ := nine hl3; refine D8 D9 rfl ?_)
 refine I6 (i := 0) (l' := [tt,ff,ff,ff,ff,ff,ff,ff,ff,ff,ff,ff,ff,ff,ff,ff,ff,ff,ff,ff,ff,ff,ff,ff,ff]) rfl D3 (qM rfl) rfl (by kernel_rfl) rfl rfl ?_
 refine aP 1 rfl (B8 rfl) rfl ?_
 refine aL 2 rfl (C4 rfl rfl) rfl ?_
 refine aP 3 rfl (B6 (j := 0) rfl rfl rfl (by omega)) rfl ?_
 refine aL 4 rfl (A3 rfl rfl (hat3 _) rfl) rfl ?_
 refine aP 7 rfl (B8 rfl) rfl ?_
 refine aP 8 rfl (qF rfl) rfl ?_
 refine aL 9 rfl (C4 rfl rfl) rfl ?_
 refine aP 10 rfl (qM rfl) rfl ?_
 refine aP 11 rfl (B6 (j := i) rfl rfl rfl (by omega)) rfl ?_
 refine aL 12 rfl (A3 rfl rfl (hat7 _) rfl) rfl ?_
 refine aP 13 rfl (B8 rfl) rfl ?_
 refine aP 14 rfl (qF rfl) rfl ?_
 refine aL 15 rfl (C4 rfl rfl) rfl ?_
 refine aP 16 rfl (qM rfl) rfl ?_
 refine aP 17 rfl (B6 (j := i) rfl rfl rfl (by omega)) rfl ?_
 refine aL 18 rfl (A3 rfl rfl (hat5 _) rfl) rfl ?_
 refine aP 19 rfl (B8 rfl) rfl ?_
 refine aL 20 rfl (C4 rfl rfl) rfl ?_
 refine A4 5 ?_
 (refine E6 rfl (D2 rfl rfl rfl (by omega) (by unfold maxLen; omega) rfl) rfl rfl ?_; rintro _ ⟨b101, rfl⟩)
 refine A4 6 ?_
 (refine A1e (cs := [x1, x2, x3, x4, x5, x6, x7, x8, x9]) (by repeat (first | exact Pk.here | apply Pk.there)) (fun G2 hle2 hsl2 hno2 => ?_); have hrN := A0Z (k := k) (ks := [aks[0]]) (es := [[x1, x2, x3, x4, x5, x6, x7, x8, x9]]) ⟨by omega, by omega⟩ rfl (E0.of hsl2 rfl (by simp) (by intro x hx; obtain rfl := List.mem_singleton.1 hx; exact ho3)) (by simp only [E4]; exact ⟨_, _, rfl, hre3.mono hle2, rfl⟩); replace hre5 := hre5.mono hle2; replace hre7 := hre7.mono hle2; refine N6 rfl rfl (A0z _ _ _ _ _) rfl rfl rfl ?_)
 refine A4 21 ?_
 (refine H4 rfl rfl (A0O _ afks[i] atks[i] alb G2 _ _ _ ⟨by omega, by omega⟩ hrN hre7 hre5 (hfrS _ (List.getElem_mem (by omega))) (htyS _ (List.getElem_mem (by omega)))) rfl rfl rfl (fun u G3 hle3 hh => ?_); obtain ⟨wc, rfl, hrw⟩ := hh; have hwl := hrw.len; have hwo := hrw.one)
 refine A4 22 ?_
 (refine oS rfl rfl rfl rfl hwl hwo rfl rfl ?_ (hu := by exact D4 hwl.symm))
 refine aP 23 rfl (qA rfl) rfl ?_
 refine aP 24 rfl (qA rfl) rfl ?_
 refine B9 ?_
 refine D1 (rC rfl (A3 rfl rfl (B1 (by repeat first | exact mH | apply mT)) hwl)) (rT rfl) (rT rfl) ?_
 (exact L8.mk (by rw [if_neg hnd, if_pos hq, A2k (by omega), A00 (by omega), A00 (by omega)]) hrw)
 refine A0o ?_
 refine D1 (rC rfl (A6 rfl rfl)) (rT rfl) (rT rfl) ?_
 exact A5F
theorem B7g (a : Tm) (nm : ByteArray) (num : Int) (ty fr : Ty) (lb : Int) (G : IM) (cells : List Value) (hc : cv (.mk 14 nm num ty fr lb [a])) (hr : B3 G (.mk 14 nm num ty fr lb [a]) cells) : Fn Tryz.prog 176 [.agg ⟨cells⟩] [] G (L8 (N1 14 ty fr lb [a])) := by
 obtain ⟨hNe, hkk0⟩ := hc.node
 have hca := hkk0 a (by simp)
 have hlb9 := hNe.lbB
 obtain ⟨hcons, htv, hfv⟩ := hNe.c14 rfl
 have hji := @A61 a
 have hjk := @A4o a
 obtain ⟨ak, anm, anum, ⟨atk, atks⟩, ⟨afk, afks⟩, alb, aks⟩ := a
 obtain ⟨hN, hkk⟩ := hca.node
 have hops := hN.ops
 have h14 : ak = 14 → aks.length = 1 := fun h => by rw [h] at hops; have : D7 14 = 1 := rfl; omega
 obtain ⟨tk, tks⟩ := ty
 obtain ⟨fk, fks⟩ := fr
 rw [U6] at hcons
 simp only [Bool.or_eq_true, Bool.and_eq_true, decide_eq_true_eq] at hcons
 have hcc : fk ≠ tk → tk ≠ 1 → fk = 1 := fun h1 h2 => by rcases hcons with (h | h) | h; exact h; exact absurd h h2; exact absurd h.1 h1
 have hta := A7p htv
 have hfa := A7p hfv
 obtain ⟨pt, ct, pf, cf, p, c, es, rfl, hk, hnum, hlb, hty, hfr, hsl, hkl⟩ := hr.open9
 obtain ⟨bx, ox, e0, rfl, hl0, hat0, hre0, hgb0⟩ := hsl.kidTm hkl (i := 0) (by simp) (by simp)
 replace hre0 : B3 G (Tm.mk ak anm anum (.mk atk atks) (.mk afk afks) alb aks) e0 := hre0
 have hI := A7v (Tm.mk ak anm anum (.mk atk atks) (.mk afk afks) alb aks) G _ hN.frA hre0
 have ho0 := hre0.one
 obtain ⟨apt, act, apf, acf, ap, ac, aes, rfl, hak, hanum, halb, haty, hafr, hasl, hakl⟩ := hre0.open9
 obtain ⟨J, hJ⟩ : ∃ J, inj (Tm.mk ak anm anum (.mk atk atks) (.mk afk afks) alb aks) = J := ⟨_, rfl⟩
 obtain ⟨D, hD⟩ : ∃ D, R7 (.mk tk tks) = D := ⟨_, rfl⟩
 have hGr := B1F (.mk tk tks) G _ hta hty
 rw [hD] at hGr
 rw [hJ] at hI hji hjk
 have hR : N1 14 (.mk tk tks) (.mk fk fks) lb [Tm.mk ak anm anum (.mk atk atks) (.mk afk afks) alb aks] = (if fk = tk then (Tm.mk ak anm anum (.mk atk atks) (.mk afk afks) alb aks, 1, 0)
   else if tk = 1 then (K7 (K7 (Tm.mk ak anm anum (.mk atk atks) (.mk afk afks) alb aks) (.mk fk fks) (T3 (.mk fk fks)) lb) (T3 (.mk fk fks)) (.mk tk tks) lb, 1, 0)
   else if D = false then (K7 (K7 (Tm.mk ak anm anum (.mk atk atks) (.mk afk afks) alb aks) (.mk fk fks) (T3 (.mk tk tks)) lb) (T3 (.mk tk tks)) (.mk tk tks) lb, 1, 0)
   else if J = false then Q2
   else if afk = tk then (kd aks 0, 1, 0)
   else (I3, 2, lb)) := by
  rw [← hJ, ← hD]; rfl
 rw [hR]
 refine C2 Tryz.func176 rfl Tryz.ntmps176 Tryz.results176 rfl ?_
 intro w0
 refine A5 ?_
 refine sE (C7 rfl rfl) rfl (fun b3 => ?_)
 refine sE (A8 rfl) rfl (fun b4 => ?_)
 refine D0 ?_
 refine sP (B6 (j := 0) rfl rfl rfl (by simp)) rfl rfl ?_
 refine sL (A3 rfl rfl (hat0 _) rfl) rfl rfl ?_
 refine sE (A8 rfl) rfl (fun b15 => ?_)
 refine B7 ?_
 refine C3 ?_
 refine D0 ?_
 refine sB (qE rfl rfl) rfl rfl (fun h29 => ?_) (fun h29 => ?_)
 refine H6 ?_
 refine D1 (rC rfl (A6 rfl rfl)) (rT rfl) (rT rfl) ?_
 (exact L8.mk (by rw [if_pos (by omega)]) hre0)
 refine E1 ?_
 refine sB (qE rfl rfl) rfl rfl (fun h56 => ?_) (fun h56 => ?_)
 refine D0 ?_
 (have hgk : tk = 1 := (by omega); refine E5 rfl (A7u (.mk fk fks) G _ hfa hfr) rfl rfl (fun u G1 hle1 hh => ?_); obtain ⟨gc, rfl, hrg⟩ := hh; have hgs := A3p (.mk fk fks); generalize T3 (.mk fk fks) = g at hrg hgs ⊢; obtain ⟨pg, cg, eg, rfl, _⟩ := hrg.open; replace hre0 := hre0.mono hle1; replace hfr := hfr.mono hle1; replace hty := hty.mono hle1)
 refine sE (A8 rfl) rfl (fun b66 => ?_)
 refine B7 ?_
 refine D8 D9 rfl ?_
 refine L3 (i := 0) (l' := [tt,ff,ff,ff,ff,ff,ff,ff,ff,ff,ff,ff,ff,ff,ff,ff]) rfl D3 (A3 rfl rfl (B1 (by repeat first | exact mH | apply mT)) rfl) rfl (by kernel_rfl) rfl rfl ?_
 refine aL 3 rfl (A3 rfl rfl (B1 (by repeat first | exact mH | apply mT)) rfl) rfl ?_
 refine aL 7 rfl (A3 rfl rfl (B1 (by repeat first | exact mH | apply mT)) rfl) rfl ?_
 refine aP 1 rfl (B8 rfl) rfl ?_
 refine aL 2 rfl (A6 rfl rfl) rfl ?_
 refine aP 4 rfl (B8 rfl) rfl ?_
 refine aL 5 rfl (C4 rfl rfl) rfl ?_
 refine aP 8 rfl (B8 rfl) rfl ?_
 refine aL 9 rfl (A6 rfl rfl) rfl ?_
 refine aP 10 rfl (B8 rfl) rfl ?_
 refine aL 11 rfl (C4 rfl rfl) rfl ?_
 refine A4 6 ?_
 (refine H4 rfl rfl (A0O _ (.mk fk fks) _ lb G1 _ _ _ ⟨by omega, by omega⟩ hre0 hfr hrg hfa.small hgs) rfl rfl rfl (fun u G3 hle3 hh => ?_); obtain ⟨wc, rfl, hrw⟩ := hh; have hwl := hrw.len; have hwo := hrw.one; replace hrg := hrg.mono hle3; replace hty := hty.mono hle3)
 refine A4 12 ?_
 (refine H4 rfl rfl (A0O _ _ (.mk tk tks) lb G3 _ _ _ ⟨by omega, by omega⟩ hrw hrg hty hgs hta.small) rfl rfl rfl (fun u G4 hle4 hh => ?_); obtain ⟨xc, rfl, hrx⟩ := hh; have hxl := hrx.len; have hxo := hrx.one)
 refine A4 13 ?_
 (refine oS rfl rfl rfl rfl hxl hxo rfl rfl ?_ (hu := by exact D4 hxl.symm))
 refine aP 14 rfl (qA rfl) rfl ?_
 refine aP 15 rfl (qA rfl) rfl ?_
 refine B2 ?_
 refine D1 (rC rfl (A3 rfl rfl (B1 (by repeat first | exact mH | apply mT)) hxl)) (rT rfl) (rT rfl) ?_
 (exact L8.mk (by rw [if_neg (by omega), if_pos (by omega)]) hrx)
 refine E1 ?_
 refine sP (A28 rfl rfl (by omega)) rfl rfl ?_
 refine D0 ?_
 focus (cases hDD : D; all_goals (rw [hDD] at hGr; refine H9 rfl hGr rfl rfl ?_))
 refine E1 ?_
 (refine E5 rfl (A7u (.mk tk tks) G _ hta hty) rfl rfl (fun u G1 hle1 hh => ?_); obtain ⟨gc, rfl, hrg⟩ := hh; have hgs := A3p (.mk tk tks); generalize T3 (.mk tk tks) = g at hrg hgs ⊢; obtain ⟨pg, cg, eg, rfl, _⟩ := hrg.open; replace hre0 := hre0.mono hle1; replace hfr := hfr.mono hle1; replace hty := hty.mono hle1)
 refine sE (A8 rfl) rfl (fun b127 => ?_)
 refine B7 ?_
 refine D8 D9 rfl ?_
 refine L3 (i := 0) (l' := [tt,ff,ff,ff,ff,ff,ff,ff,ff,ff,ff,ff,ff,ff,ff,ff]) rfl D3 (A3 rfl rfl (B1 (by repeat first | exact mH | apply mT)) rfl) rfl (by kernel_rfl) rfl rfl ?_
 refine aL 3 rfl (A3 rfl rfl (B1 (by repeat first | exact mH | apply mT)) rfl) rfl ?_
 refine aL 7 rfl (A3 rfl rfl (B1 (by repeat first | exact mH | apply mT)) rfl) rfl ?_
 refine aP 1 rfl (B8 rfl) rfl ?_
 refine aL 2 rfl (A6 rfl rfl) rfl ?_
 refine aP 4 rfl (B8 rfl) rfl ?_
 refine aL 5 rfl (C4 rfl rfl) rfl ?_
 refine aP 8 rfl (B8 rfl) rfl ?_
 refine aL 9 rfl (A6 rfl rfl) rfl ?_
 refine aP 10 rfl (B8 rfl) rfl ?_
 refine aL 11 rfl (C4 rfl rfl) rfl ?_
 refine A4 6 ?_
 (refine H4 rfl rfl (A0O _ (.mk fk fks) _ lb G1 _ _ _ ⟨by omega, by omega⟩ hre0 hfr hrg hfa.small hgs) rfl rfl rfl (fun u G3 hle3 hh => ?_); obtain ⟨wc, rfl, hrw⟩ := hh; have hwl := hrw.len; have hwo := hrw.one; replace hrg := hrg.mono hle3; replace hty := hty.mono hle3)
 refine A4 12 ?_
 (refine H4 rfl rfl (A0O _ _ (.mk tk tks) lb G3 _ _ _ ⟨by omega, by omega⟩ hrw hrg hty hgs hta.small) rfl rfl rfl (fun u G4 hle4 hh => ?_); obtain ⟨xc, rfl, hrx⟩ := hh; have hxl := hrx.len; have hxo := hrx.one)
 refine A4 13 ?_
 (refine oS rfl rfl rfl rfl hxl hxo rfl rfl ?_ (hu := by exact D4 hxl.symm))
 refine aP 14 rfl (qA rfl) rfl ?_
 refine aP 15 rfl (qA rfl) rfl ?_
 refine B2 ?_
 refine D1 (rC rfl (A3 rfl rfl (B1 (by repeat first | exact mH | apply mT)) hxl)) (rT rfl) (rT rfl) ?_
 (exact L8.mk (by rw [if_neg (by omega), if_neg (by omega), if_pos rfl]) hrx)
 refine D0 ?_
 focus (cases hJJ : J; all_goals (rw [hJJ] at hI; refine H9 rfl hI rfl rfl ?_))
 refine K4 ?_
 refine D1 (rC rfl (A6 rfl rfl)) (rT rfl) (rT rfl) ?_
 (exact L8.mk (by rw [if_neg (by omega), if_neg (by omega), if_neg (by decide), if_pos rfl]; rfl) (P5 _))
 refine J4 ?_
 refine sB (qE rfl rfl) rfl rfl (fun h199 => ?_) (fun h199 => ?_)
 refine D0 ?_
 (have hq1 := h14 (hjk (by assumption)); obtain ⟨bq, oq, e3, rfl, hl3, hat3, hre3, hgb3⟩ := hasl.kidTm hakl (i := 0) (by omega) (by omega); have ho3 := hre3.one; refine sP (B6 (j := 0) rfl rfl rfl (by omega)) rfl rfl ?_)
 refine sL (A3 rfl rfl (hat3 _) hl3) rfl rfl ?_
 refine sS rfl rfl rfl hl3 ho3 rfl ?_ (hu := by exact D4 hl3.symm)
 refine B5 ?_
 refine D1 (rC rfl (A3 rfl rfl (B1 (by repeat first | exact mH | apply mT)) hl3)) (rT rfl) (rT rfl) ?_
 (exact L8.mk (by rw [if_neg (by omega), if_neg (by omega), if_neg (by decide), if_neg (by decide), if_pos (by assumption), A2k (by omega)]) hre3)
 refine D0 ?_
 refine D8 D9 rfl ?_
 refine I6 (i := 0) (l' := [tt,ff,ff,ff,ff,ff]) rfl D3 (X5 rfl rfl) rfl (by kernel_rfl) rfl rfl ?_
 refine aP 1 rfl (B8 rfl) rfl ?_
 refine aL 2 rfl (C4 rfl rfl) rfl ?_
 refine A4 3 ?_
 refine H8 rfl ?_
 refine aP 4 rfl (qA rfl) rfl ?_
 refine aP 5 rfl (qA rfl) rfl ?_
 refine B9 ?_
 refine D1 (rC rfl (A6 rfl rfl)) (rT rfl) (rT rfl) ?_
 (exact L8.mk (by rw [if_neg (by omega), if_neg (by omega), if_neg (by decide), if_neg (by decide), if_neg (by assumption)]) (P5 _))
end Gw
end Go.Proofs.YthpdjmbpbdbodaaGreatDoor
