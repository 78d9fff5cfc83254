/-
  The reference's typing, exactly: meets, the types of nodes.
-/
import Derived.Test.YtbdacdnffkhgeaaGreatDoorKz526
import Derived.Test.YtbdacdnffkhgeaaGreatDoorKz524
import Derived.Test.YtbdacdnffkhgeaaGreatDoorKz523
import Derived.Test.YtbdacdnffkhgeaaGreatDoorKz522
import Derived.Test.YtbdacdnffkhgeaaGreatDoorKz521
import Derived.Test.YtbdacdnffkhgeaaGreatDoorKz525
import Derived.Test.YtbdacdnffkhgeaaGreatDoorKz520
set_option linter.unusedVariables false
set_option linter.unusedSimpArgs false
set_option maxHeartbeats 0
set_option maxRecDepth 100000
set_option synthInstance.maxSize 4000
set_option synthInstance.maxHeartbeats 0
namespace Go.Proofs.YtbdacdnffkhgeaaGreatDoor
open Go Go.RowKit
namespace Gw
theorem A5V : ∀ (xs ys : List Ty), xs.length = ys.length → (V4 xs ys).length = xs.length
 | [], [], _ => rfl
 | a :: xs, b :: ys, h => by simp only [V4, List.length_cons]; rw [A5V xs ys (by simpa using h)]
 | [], b :: ys, h => by simp at h
 | a :: xs, [], h => by simp at h
theorem A7H : ∀ (xs ys : List Ty) (i : Nat) (h : i < xs.length) (h' : i < ys.length) (hl : i < (V4 xs ys).length), (V4 xs ys)[i] = X3 xs[i] ys[i]
 | [], _, i, h, _, _ => by simp at h
 | a :: xs, [], i, _, h', _ => by simp at h'
 | a :: xs, b :: ys, 0, _, _, _ => by simp [V4]
 | a :: xs, b :: ys, i + 1, h, h', hl => by
  simp only [V4, List.getElem_cons_succ]
  exact A7H xs ys i (by simpa using h) (by simpa using h') _
theorem B6z {xs ys : List Ty} {i : Nat} (hl : xs.length = ys.length) (h : i < xs.length) : (V4 xs ys).take (i + 1) = (V4 xs ys).take i ++ [X3 xs[i] (ys[i]'zZ)] := by
 rw [List.take_succ_eq_append_getElem (by rw [A5V _ _ hl]; exact h), A7H _ _ i h zZ]
theorem B6A : ∀ (a b : Ty) (G : IM) (ca cb : List Value), N3 a b = true → I0 a → I0 b → C6 G a ca → C6 G b cb → Fn Tryz.prog 142 [.agg ⟨ca⟩, .agg ⟨cb⟩] [] G (M5 fun G' v => ∃ cells, v = .agg ⟨cells⟩ ∧ C6 G' (X3 a b) cells) := by
 refine Ty.ind fun ak aks ih b G ca cb hc ha hb hra hrb => ?_
 obtain ⟨bk, bks⟩ := b
 have hka := ha.kid
 have hkb := hb.kid
 have hca := Y8 _ G _ ha.small hra
 have hcb := Y8 _ G _ hb.small hrb
 have hcc : ak ≠ 1 → bk ≠ 1 → aks.length = bks.length ∧ ∀ i, (h : i < aks.length) → (h' : i < bks.length) → N3 aks[i] bks[i] = true := by
  intro h1 h2
  rw [V9, decide_eq_false h1, decide_eq_false h2] at hc
  simp only [Bool.false_or, Bool.and_eq_true, decide_eq_true_eq] at hc
  exact (A3f _ _).1 hc.2
 rw [A1Q]
 obtain ⟨pa, cca, ea, rfl, hak, hsla, hkla⟩ := hra.open
 obtain ⟨pb, ccb, eb, rfl, hbk, hslb, hklb⟩ := hrb.open
 simp only [Ty.k, Ty.ks] at hak hsla hkla hbk hslb hklb ⊢
 have hna := hsla.le
 have hnb := hslb.le
 have hl2 := ha.two
 refine C0 Tryz.func142 rfl Tryz.ntmps142 Tryz.results142 rfl ?_
 intro w0
 refine A4 ?_
 refine sE (B5 rfl rfl) rfl (fun b3 => ?_)
 refine sE (B5 rfl rfl) rfl (fun b4 => ?_)
 refine sE (A6 rfl) rfl (fun b5 => ?_)
 refine B0 ?_
 refine sB (qE rfl rfl) rfl rfl (fun h13 => ?_) (fun h13 => ?_)
 refine A9 ?_
 (refine F4 rfl (by first | exact hcb | exact hca) rfl rfl (fun v G1 hle1 hh => ?_); obtain ⟨cs1, F1, rfl, hs1, hn1⟩ := hh; obtain ⟨p1, c1, rfl, _⟩ := hs1.open; have hr1 := hs1.R.mono (D9.le G1 G))
 refine A8 ?_
 refine O7 (rC rfl (A3 rfl rfl)) ?_
 (rw [if_pos zZ]; exact ⟨rfl, _, rfl, hr1⟩)
 refine J4 ?_
 refine sB (qE rfl rfl) rfl rfl (fun h38 => ?_) (fun h38 => ?_)
 refine A9 ?_
 (refine F4 rfl (by first | exact hcb | exact hca) rfl rfl (fun v G1 hle1 hh => ?_); obtain ⟨cs1, F1, rfl, hs1, hn1⟩ := hh; obtain ⟨p1, c1, rfl, _⟩ := hs1.open; have hr1 := hs1.R.mono (D9.le G1 G))
 refine A8 ?_
 refine O7 (rC rfl (A3 rfl rfl)) ?_
 (rw [if_neg zZ, if_pos zZ]; exact ⟨rfl, _, rfl, hr1⟩)
 refine J4 ?_
 refine sE (A6 rfl) rfl (fun b63 => ?_)
 refine E8 ?_
 refine C2 ?_
 (obtain ⟨hlab, hcab⟩ := hcc zZ zZ; refine W4 25 2 ?_; refine L4 (fun (x : Nat × Option Addr × Nat × List Ty × List (List Value) × IM) => ⟨[(6, .int .i64 x.1), (5, .pointer (some ⟨b63, 0, none⟩)), (4, .pointer (some ⟨b5, 0, none⟩)), (2, .pointer (some ⟨b3, 0, none⟩)), (3, .pointer (some ⟨b4, 0, none⟩))], [.blk b63 [.int .i64 ak, .slice x.2.1 x.1 x.2.2.1], .slc x.2.1 x.2.2.1 25 2 x.1 x.2.2.2.2.1.flatten, .blk b5 [.int .i64 0, .slice none 0 0], .blk b4 [.int .i64 bk, .slice pb bks.length ccb], .blk b3 [.int .i64 ak, .slice pa aks.length cca]], x.2.2.2.2.2⟩) (fun x => x.1 ≤ aks.length ∧ B9 G x.2.2.2.2.2 ∧ x.2.2.2.1.length = x.1 ∧ D8 x.2.2.2.2.2 x.2.2.2.1 x.2.2.2.2.1 ∧ x.2.2.2.1 = (V4 aks bks).take x.1) (fun x => aks.length - x.1) (0, none, 0, [], [], G) ?_ ?_ ?_)
 (simp only [I6]; exact F9)
 (exact ⟨by simp, B9.refl _, rfl, by simp [D8], rfl⟩)
 (rintro ⟨i, pn, cn, us, es', Gi⟩ ⟨hi, hle, hlu, hst, hus⟩; simp only [] at hi hle hlu hst hus ⊢; replace hsla := hsla.mono hle; replace hkla := hkla.mono hle; replace hslb := hslb.mono hle; replace hklb := hklb.mono hle)
 refine B0 ?_
 refine sB (N0 rfl rfl) rfl rfl (fun h85 => ?_) (fun h85 => ?_)
 refine A9 ?_
 refine C2 ?_
 (obtain ⟨b, o, q0, d0, hp0, hat0, hre0, hg0⟩ := hsla.kidTy hkla (i := i) zZ zZ; obtain ⟨b', o', q1, d1, hp1, hat1, hre1, hg1⟩ := hslb.kidTy hklb (i := i) zZ zZ; subst hp0; subst hp1; have hih := ih aks[i] (List.getElem_mem zZ) bks[i] Gi _ _ (hcab i zZ zZ) (hka _ (List.getElem_mem zZ)) (hkb _ (List.getElem_mem zZ)) hre0 hre1; refine D3 D4 rfl ?_)
 refine I9 (i := 0) (l' := [tt,ff,ff,ff,ff,ff,ff,ff,ff,ff,ff,ff,ff,ff,ff,ff,ff]) rfl C8 (C3 rfl) rfl zX rfl rfl ?_
 refine aL 1 rfl (E9 rfl rfl) rfl ?_
 refine aP 2 rfl (C3 rfl) rfl ?_
 refine aL 3 rfl (E9 rfl rfl) rfl ?_
 refine aP 4 rfl (qM rfl) rfl ?_
 refine aP 5 rfl (B6 rfl rfl rfl zZ) rfl ?_
 refine aL 6 rfl (A5 rfl rfl (hat0 _) rfl) rfl ?_
 refine aP 7 rfl (C3 rfl) rfl ?_
 refine aL 8 rfl (E9 rfl rfl) rfl ?_
 refine aP 9 rfl (qM rfl) rfl ?_
 refine aP 10 rfl (B6 rfl rfl rfl zZ) rfl ?_
 refine aL 11 rfl (A5 rfl rfl (hat1 _) rfl) rfl ?_
 refine A2 12 ?_
 (refine H0 rfl rfl hih rfl rfl rfl (fun v G1 hle1 hh => ?_); obtain ⟨cells', rfl, hru⟩ := hh; generalize hu : X3 aks[i] bks[i] = u at hru; obtain ⟨p3, c3, es3, rfl, _⟩ := hru.open)
 refine A2 13 ?_
 (refine D2 rfl (D1 rfl rfl rfl zZ zU rfl) rfl rfl ?_; rintro _ ⟨b109, rfl⟩)
 refine A2 14 ?_
 refine O8 rfl rfl rfl rfl rfl rfl (fun _ _ => by repeat (first | exact Sw.here | apply Sw.there)) (J7 zS) rfl zT zU zZ rfl rfl zH (fun pn' cn' => ?_)
 refine aP 15 rfl (C3 rfl) rfl ?_
 refine A2 16 ?_
 refine T3 rfl rfl rfl rfl rfl rfl rfl rfl zV zR (by rfl) ?_
 refine A8 ?_
 refine sP (J9 rfl rfl zZ zZ) rfl rfl ?_
 refine A4 ?_
 refine J6 (i + 1, pn', cn', us ++ [u], es' ++ [[.int .i64 u.k, .slice p3 u.ks.length c3]], G1) ?_ ?_ ?_
 (simp only [I6]; exact F9)
 (dsimp only; exact ⟨by omega, hle.trans hle1, by simp [hlu], D8.snoc (hst.mono hle1) hru, by rw [B6z hlab zZ, ← hus, hu]⟩)
 (show aks.length - (i + 1) < aks.length - i; omega)
 refine M8 ?_
 (refine J0 zP (fun G2 hle2 hsl2 hno2 => ?_); obtain rfl : i = aks.length := zZ)
 refine tT ?_
 refine O7 (rC rfl (A3 rfl rfl)) ?_
 (rw [List.take_of_length_le (by rw [A5V _ _ hlab]; omega)] at hus; rw [if_neg zZ, if_neg zZ, ← hus]; exact ⟨rfl, _, rfl, (hst.mono hle2).ty hlu hsl2 hak⟩)
theorem gD {ts : List Ty} {i : Nat} (h : i < ts.length) : ts.getD i B3 = ts[i] := by rw [List.getD_eq_getElem?_getD, List.getElem?_eq_getElem h, Option.getD_some]
section
variable {cx : Cx} {k : Int} {nm : ByteArray} {ty : Ty} {ts : List Ty}
theorem B00 (h : 1 < ts.length) : A0d cx 6 nm ty ts = match U8 4 ts[0] with | some (a, b) => if N3 ts[1] a = true then some b else none | none => none := by
 unfold A0d P9
 rw [gD (i := 0) zZ, gD (i := 1) h]
 simp only [show ¬((6 : Int) = 1) by decide, show ¬((6 : Int) = 2) by decide, show ¬((6 : Int) = 3 ∨ (6 : Int) = 4) by decide, show ¬((6 : Int) = 5) by decide, if_false, if_true]
 cases U8 4 ts[0] with
 | none => rfl
 | some p =>
  obtain ⟨a, b⟩ := p
  by_cases hc : N3 ts[1] a = true
  ·simp [hc]
  ·simp [hc]
theorem A5W (hk : k = 7 ∨ k = 8) (h : 1 < ts.length) : A0d cx k nm ty ts = if N3 ts[0] W0 = true ∧ N3 ts[1] W0 = true then some (if k = 8 then A0i else W0) else none := by
 unfold A0d P9
 rw [gD (i := 0) zZ, gD (i := 1) h, if_neg zZ, if_neg zZ, if_neg zZ, if_neg zZ, if_neg zZ, if_pos hk]
 by_cases hc : N3 ts[0] W0 = true ∧ N3 ts[1] W0 = true
 ·rw [if_pos hc, if_pos hc]; simp only; rw [if_neg zZ]
 ·rw [if_neg hc, if_neg hc]
theorem B01 (h : 2 < ts.length) : A0d cx 9 nm ty ts = if N3 ts[0] A0i = true ∧ N3 ts[1] ts[2] = true then some (X3 ts[1] ts[2]) else none := by
 unfold A0d P9
 rw [gD (i := 0) zZ, gD (i := 1) zZ, gD (i := 2) h, if_neg zZ, if_neg zZ, if_neg zZ, if_neg zZ, if_neg zZ, if_neg zZ, if_pos rfl]
 by_cases hc : N3 ts[0] A0i = true ∧ N3 ts[1] ts[2] = true
 ·rw [if_pos hc, if_pos hc]; simp
 ·rw [if_neg hc, if_neg hc]
theorem B6B (h : 1 < ts.length) : A0d cx 10 nm ty ts = if H7 (.mk 5 [ts[0], ts[1]]) = true then some (.mk 5 [ts[0], ts[1]]) else none := by
 unfold A0d P9
 rw [gD (i := 0) zZ, gD (i := 1) h, if_neg zZ, if_neg zZ, if_neg zZ, if_neg zZ, if_neg zZ, if_neg zZ, if_neg zZ, if_pos rfl]
 cases hv : H7 (.mk 5 [ts[0], ts[1]]) <;> simp [hv]
theorem B6C (h : 0 < ts.length) : A0d cx 13 nm ty ts = if N3 ts[0] ty = true then some ty else none := by
 unfold A0d P9
 rw [gD (i := 0) h, if_neg zZ, if_neg zZ, if_neg zZ, if_neg zZ, if_neg zZ, if_neg zZ, if_neg zZ, if_neg zZ, if_pos rfl]
 by_cases hc : N3 ts[0] ty = true
 ·rw [if_pos hc, if_pos hc]; simp
 ·rw [if_neg hc, if_neg hc]
theorem A5X (hk : k = 11 ∨ k = 12) (h : 0 < ts.length) : A0d cx k nm ty ts = match U8 5 ts[0] with | some (a, b) => some (if k = 12 then b else a) | none => none := by
 unfold A0d P9
 rw [gD (i := 0) h, if_neg zZ, if_neg zZ, if_neg zZ, if_neg zZ, if_neg zZ, if_neg zZ, if_neg zZ, if_neg zZ, if_neg zZ]
 cases U8 5 ts[0] with
 | none => rfl
 | some p =>
  obtain ⟨a, b⟩ := p
  simp only
  rw [if_neg zZ]
end
theorem B6D : ∀ (a b : Ty), N3 a b = true → I0 a → I0 b → I0 (X3 a b) := by
 refine Ty.ind fun k ks ih b hc ha hb => ?_
 obtain ⟨k', ks'⟩ := b
 rw [A1Q]
 split
 ·exact hb
 ·split
  ·exact ha
  ·rw [V9] at hc
   simp only [Bool.or_eq_true, Bool.and_eq_true, decide_eq_true_eq] at hc
   obtain ⟨hk, hl⟩ : k = k' ∧ Q4 ks ks' = true := by
    rcases hc with (h | h) | h
    ·contradiction
    ·contradiction
    ·exact h
   obtain ⟨hll, hcc⟩ := (A3f _ _).1 hl
   have hlen := A5V ks ks' hll
   refine A9x ha hlen fun u hu => ?_
   obtain ⟨i, hi, rfl⟩ := List.mem_iff_getElem.1 hu
   rw [A7H ks ks' i zZ zZ]
   exact ih _ (List.getElem_mem _) _ (hcc i zZ zZ) (ha.kid _ (List.getElem_mem _)) (hb.kid _ (List.getElem_mem _))
theorem B6E (cx : Cx) (k : Int) (nm : ByteArray) (num : Int) (ty fr : Ty) (lb : Int) (ks : List Tm) (ts : List Ty) (G : IM) (cells : List Value) (p : Option Addr) (c : Nat) (es : List (List Value))
  (hops : E7 k = ts.length) (hk6 : 6 ≤ k ∧ k ≤ 13) (hty : I0 ty) (hr : B8 G (.mk k nm num ty fr lb ks) cells) (hsl : D6 G p ts.length c 2 es) (hkl : D8 G ts es) (har : ∀ t ∈ ts, I0 t) :
  Fn Tryz.prog 125 [.agg ⟨cells⟩, .slice p ts.length c] [] G (R9 (A0d cx k nm ty ts) G) := by
 have hone := hr.one
 have hop := A5z hops
 have ha0 := fun h : 0 < ts.length => har _ (List.getElem_mem h)
 have ha1 := fun h : 1 < ts.length => har _ (List.getElem_mem h)
 have ha2 := fun h : 2 < ts.length => har _ (List.getElem_mem h)
 obtain ⟨tk, tks⟩ := ty
 obtain ⟨fk, fks⟩ := fr
 obtain ⟨pt, ct, pf, cf, pk, ck, ek, rfl, hk, hnum, hlb, hrty, hrfr, _, _⟩ := hr.open9
 refine C0 Tryz.func125 rfl Tryz.ntmps125 Tryz.results125 rfl ?_
 intro w0
 refine A4 ?_
 refine sE (B5 rfl rfl) rfl (fun b3 => ?_)
 refine sE (A6 rfl) rfl (fun b4 => ?_)
 refine J4 ?_
 refine C2 (tS (tR (sB (qE rfl rfl) rfl rfl (fun h18 => ?_) (fun h18 => ?_))))
 refine B0 ?_
 (have hl2 : ts.length = 2 := hop.1 zZ; obtain ⟨b0, o0, q0, d0, hp0, hat0, hre0, hg0⟩ := hsl.kidTy hkl (i := 0) zZ zZ; obtain ⟨b1, o1, q1, d1, hp1, hat1, hre1, hg1⟩ := hsl.kidTy hkl (i := 1) zZ zZ; cases hp0; cases hp1; refine sP (B6 (j := 0) rfl rfl rfl zZ) rfl rfl ?_)
 refine sL (A5 rfl rfl (hat0 _) rfl) rfl rfl ?_
 focus (refine F4 rfl (A7G 4 ts[0] G _ (.inl rfl) (ha0 zZ) hre0) rfl rfl (fun v G1 hle1 hh => ?_); obtain ⟨ma, mca, mb, mcb, rfl, hma, hmb, hma2, hmb2, hpp⟩ := hh; obtain ⟨p1, c1, e1, rfl, _⟩ := hma.open; obtain ⟨p2, c2, e2, rfl, _⟩ := hmb.open; replace hsl := hsl.mono hle1; replace hkl := hkl.mono hle1; rcases hm : U8 4 ts[0] with _ | pr; rotate_left; obtain rfl := hpp _ hm; rotate_left; all_goals simp only [Option.isSome])
 refine B4 ?_
 refine sE (A6 rfl) rfl (fun b33 => ?_)
 refine sE (A6 rfl) rfl (fun b34 => ?_)
 refine A9 ?_
 (have hl2 : ts.length = 2 := hop.1 zZ; obtain ⟨b0, o0, q0, d0, hp0, hat0, hre0, hg0⟩ := hsl.kidTy hkl (i := 0) zZ zZ; obtain ⟨b1, o1, q1, d1, hp1, hat1, hre1, hg1⟩ := hsl.kidTy hkl (i := 1) zZ zZ; cases hp0; cases hp1; refine D3 D4 rfl ?_)
 refine I7 (i := 0) (l' := [tt,ff,ff,ff,ff,ff,ff,ff,ff,ff,ff]) rfl C8 (A3 rfl rfl) rfl zX rfl rfl ?_
 refine aP 1 rfl (qM rfl) rfl ?_
 refine aP 2 rfl (qM rfl) rfl ?_
 refine D5 3 rfl rfl rfl ?_
 refine D5 4 rfl rfl rfl ?_
 refine D5 5 rfl rfl rfl ?_
 refine D5 6 rfl rfl rfl ?_
 refine D5 7 rfl rfl rfl ?_
 refine aP 8 rfl (T1 rfl rfl) rfl ?_
 refine A2 9 ?_
 refine C9 rfl ?_
 refine aP 10 rfl (qA rfl) rfl ?_
 refine A8 ?_
 refine H2 (rC rfl (A3 rfl rfl)) (rT rfl) ?_
 (obtain rfl : k = 6 := zZ; exact R9.no (by rw [B00 zZ, hm]) hmb hmb2)
 refine B4 ?_
 refine sE (A6 rfl) rfl (fun b65 => ?_)
 refine sE (A6 rfl) rfl (fun b66 => ?_)
 refine A9 ?_
 (have hl2 : ts.length = 2 := hop.1 zZ; obtain ⟨b0, o0, q0, d0, hp0, hat0, hre0, hg0⟩ := hsl.kidTy hkl (i := 0) zZ zZ; obtain ⟨b1, o1, q1, d1, hp1, hat1, hre1, hg1⟩ := hsl.kidTy hkl (i := 1) zZ zZ; cases hp0; cases hp1; refine D3 D4 rfl ?_)
 refine I7 (i := 0) (l' := [tt,ff,ff,ff,ff,ff,ff,ff,ff,ff,ff]) rfl C8 (A3 rfl rfl) rfl zX rfl rfl ?_
 refine aP 1 rfl (qM rfl) rfl ?_
 refine aP 2 rfl (qM rfl) rfl ?_
 refine aP 3 rfl (qM rfl) rfl ?_
 refine aP 4 rfl (B6 (j := 1) rfl rfl rfl zZ) rfl ?_
 refine aL 5 rfl (A5 rfl rfl (hat1 _) rfl) rfl ?_
 refine aL 6 rfl (A3 rfl rfl) rfl ?_
 refine A2 7 ?_
 refine T2 rfl rfl ((A2C ts[1] ma _ _ _ (ha1 zZ) hma2 hre1 hma)) rfl rfl rfl ?_
 refine aP 8 rfl (R3 rfl rfl) rfl ?_
 refine A2 9 ?_
 refine C9 rfl ?_
 refine aP 10 rfl (qA rfl) rfl ?_
 refine A8 ?_
 refine H2 (rC rfl (A3 rfl rfl)) (rT rfl) ?_
 (obtain rfl : k = 6 := zZ; exact R9.mk (by rw [B00 zZ, hm]) hmb hmb2)
 refine A9 ?_
 refine sB (qE rfl rfl) rfl rfl (fun h100 => ?_) (fun h100 => ?_)
 refine A8 ?_
 (have hl2 : ts.length = 2 := hop.1 zZ; obtain ⟨b0, o0, q0, d0, hp0, hat0, hre0, hg0⟩ := hsl.kidTy hkl (i := 0) zZ zZ; obtain ⟨b1, o1, q1, d1, hp1, hat1, hre1, hg1⟩ := hsl.kidTy hkl (i := 1) zZ zZ; cases hp0; cases hp1; refine D3 D4 rfl ?_)
 refine I9 (i := 1) (l' := [ff,tt,ff,ff,ff,ff,ff,ff,ff,ff,ff,ff,ff,ff,ff]) rfl C8 (qM rfl) rfl zX rfl rfl ?_
 refine aP 2 rfl (B6 (j := 0) rfl rfl rfl zZ) rfl ?_
 refine aL 3 rfl (A5 rfl rfl (hat0 _) rfl) rfl ?_
 refine A2 0 ?_
 refine T2 rfl rfl ((A1v _)) rfl rfl rfl ?_
 refine A2 4 ?_
 refine T2 rfl rfl ((A1v _)) rfl rfl rfl ?_
 refine A2 5 ?_
 refine Z2 rfl rfl ((A2C ts[0] (.mk 2 []) _ _ _ (ha0 zZ) (W8 zY zY) hre0 (L5 _ ⟨by omega, by omega⟩))) rfl rfl rfl (fun h115 => ?_) (fun h115 => ?_)
 refine aP 6 rfl (qM rfl) rfl ?_
 refine aP 7 rfl (qM rfl) rfl ?_
 refine aP 8 rfl (B6 (j := 1) rfl rfl rfl zZ) rfl ?_
 refine aL 9 rfl (A5 rfl rfl (hat1 _) rfl) rfl ?_
 refine A2 10 ?_
 refine T2 rfl rfl ((A1v _)) rfl rfl rfl ?_
 refine A2 11 ?_
 refine T2 rfl rfl ((A2C ts[1] (.mk 2 []) _ _ _ (ha1 zZ) (W8 zY zY) hre1 (L5 _ ⟨by omega, by omega⟩))) rfl rfl rfl ?_
 refine aP 12 rfl (R3 rfl rfl) rfl ?_
 refine A2 13 ?_
 refine C9 rfl ?_
 refine aP 14 rfl (qA rfl) rfl ?_
 refine A8 ?_
 refine H2 (rC rfl (A3 rfl rfl)) (rT rfl) ?_
 (have hk7 : k = 7 := zZ; exact R9.mk (by rw [A5W (.inl hk7) zZ]; simp_all [W0]) (L5 _ ⟨by omega, by omega⟩) (W8 zZ zZ))
 refine aP 6 rfl (qM rfl) rfl ?_
 refine D5 7 rfl rfl rfl ?_
 refine D5 8 rfl rfl rfl ?_
 refine D5 9 rfl rfl rfl ?_
 refine D5 10 rfl rfl rfl ?_
 refine D5 11 rfl rfl rfl ?_
 refine aP 12 rfl (T1 rfl rfl) rfl ?_
 refine A2 13 ?_
 refine C9 rfl ?_
 refine aP 14 rfl (qA rfl) rfl ?_
 refine A8 ?_
 refine H2 (rC rfl (A3 rfl rfl)) (rT rfl) ?_
 (have hk7 : k = 7 := zZ; exact R9.mk (by rw [A5W (.inl hk7) zZ]; simp_all [W0]) (L5 _ ⟨by omega, by omega⟩) (W8 zZ zZ))
 refine A9 ?_
 refine sB (qE rfl rfl) rfl rfl (fun h158 => ?_) (fun h158 => ?_)
 refine A8 ?_
 (have hl2 : ts.length = 2 := hop.1 zZ; obtain ⟨b0, o0, q0, d0, hp0, hat0, hre0, hg0⟩ := hsl.kidTy hkl (i := 0) zZ zZ; obtain ⟨b1, o1, q1, d1, hp1, hat1, hre1, hg1⟩ := hsl.kidTy hkl (i := 1) zZ zZ; cases hp0; cases hp1; refine D3 D4 rfl ?_)
 refine I9 (i := 1) (l' := [ff,tt,ff,ff,ff,ff,ff,ff,ff,ff,ff,ff,ff,ff,ff]) rfl C8 (qM rfl) rfl zX rfl rfl ?_
 refine aP 2 rfl (B6 (j := 0) rfl rfl rfl zZ) rfl ?_
 refine aL 3 rfl (A5 rfl rfl (hat0 _) rfl) rfl ?_
 refine A2 0 ?_
 refine T2 rfl rfl ((A4y _)) rfl rfl rfl ?_
 refine A2 4 ?_
 refine T2 rfl rfl ((A1v _)) rfl rfl rfl ?_
 refine A2 5 ?_
 refine Z2 rfl rfl ((A2C ts[0] (.mk 2 []) _ _ _ (ha0 zZ) (W8 zY zY) hre0 (L5 _ ⟨by omega, by omega⟩))) rfl rfl rfl (fun h173 => ?_) (fun h173 => ?_)
 refine aP 6 rfl (qM rfl) rfl ?_
 refine aP 7 rfl (qM rfl) rfl ?_
 refine aP 8 rfl (B6 (j := 1) rfl rfl rfl zZ) rfl ?_
 refine aL 9 rfl (A5 rfl rfl (hat1 _) rfl) rfl ?_
 refine A2 10 ?_
 refine T2 rfl rfl ((A1v _)) rfl rfl rfl ?_
 refine A2 11 ?_
 refine T2 rfl rfl ((A2C ts[1] (.mk 2 []) _ _ _ (ha1 zZ) (W8 zY zY) hre1 (L5 _ ⟨by omega, by omega⟩))) rfl rfl rfl ?_
 refine aP 12 rfl (R3 rfl rfl) rfl ?_
 refine A2 13 ?_
 refine C9 rfl ?_
 refine aP 14 rfl (qA rfl) rfl ?_
 refine A8 ?_
 refine H2 (rC rfl (A3 rfl rfl)) (rT rfl) ?_
 (have hk8 : k = 8 := zZ; exact R9.mk (by rw [A5W (.inr hk8) zZ]; simp_all [W0, A0i]) (L5 _ ⟨by omega, by omega⟩) (W8 zZ zZ))
 refine aP 6 rfl (qM rfl) rfl ?_
 refine D5 7 rfl rfl rfl ?_
 refine D5 8 rfl rfl rfl ?_
 refine D5 9 rfl rfl rfl ?_
 refine D5 10 rfl rfl rfl ?_
 refine D5 11 rfl rfl rfl ?_
 refine aP 12 rfl (T1 rfl rfl) rfl ?_
 refine A2 13 ?_
 refine C9 rfl ?_
 refine aP 14 rfl (qA rfl) rfl ?_
 refine A8 ?_
 refine H2 (rC rfl (A3 rfl rfl)) (rT rfl) ?_
 (have hk8 : k = 8 := zZ; exact R9.mk (by rw [A5W (.inr hk8) zZ]; simp_all [W0, A0i]) (L5 _ ⟨by omega, by omega⟩) (W8 zZ zZ))
 refine A9 ?_
 refine sB (qE rfl rfl) rfl rfl (fun h216 => ?_) (fun h216 => ?_)
 refine A9 ?_
 (have hl3 : ts.length = 3 := hop.2.1 zZ; obtain ⟨b0, o0, q0, d0, hp0, hat0, hre0, hg0⟩ := hsl.kidTy hkl (i := 0) zZ zZ; obtain ⟨b1, o1, q1, d1, hp1, hat1, hre1, hg1⟩ := hsl.kidTy hkl (i := 1) zZ zZ; obtain ⟨b2, o2, q2, d2, hp2, hat2, hre2, hg2⟩ := hsl.kidTy hkl (i := 2) zZ zZ; cases hp0; cases hp1; cases hp2; refine D3 D4 rfl ?_)
 refine I9 (i := 0) (l' := [tt,ff,ff,ff,ff,ff,ff,ff]) rfl C8 (qM rfl) rfl zX rfl rfl ?_
 refine aP 1 rfl (B6 (j := 1) rfl rfl rfl zZ) rfl ?_
 refine aL 2 rfl (A5 rfl rfl (hat1 _) rfl) rfl ?_
 refine aP 3 rfl (qM rfl) rfl ?_
 refine aP 4 rfl (B6 (j := 2) rfl rfl rfl zZ) rfl ?_
 refine aL 5 rfl (A5 rfl rfl (hat2 _) rfl) rfl ?_
 refine A2 6 ?_
 refine Z2 rfl rfl ((A2C ts[1] ts[2] _ _ _ (ha1 zZ) (ha2 zZ) hre1 hre2)) rfl rfl rfl (fun h231 => ?_) (fun h231 => ?_)
 refine aP 7 rfl (pNt rfl) rfl ?_
 refine A9 ?_
 (have hl3 : ts.length = 3 := hop.2.1 zZ; obtain ⟨b0, o0, q0, d0, hp0, hat0, hre0, hg0⟩ := hsl.kidTy hkl (i := 0) zZ zZ; obtain ⟨b1, o1, q1, d1, hp1, hat1, hre1, hg1⟩ := hsl.kidTy hkl (i := 1) zZ zZ; obtain ⟨b2, o2, q2, d2, hp2, hat2, hre2, hg2⟩ := hsl.kidTy hkl (i := 2) zZ zZ; cases hp0; cases hp1; cases hp2; refine D3 D4 rfl ?_)
 refine I9 (i := 0) (l' := [tt,ff,ff,ff,ff,ff,ff,ff,ff,ff,ff,ff,ff,ff]) rfl C8 (qM rfl) rfl zX rfl rfl ?_
 refine aP 1 rfl (B6 (j := 1) rfl rfl rfl zZ) rfl ?_
 refine aL 2 rfl (A5 rfl rfl (hat1 _) rfl) rfl ?_
 refine aP 3 rfl (qM rfl) rfl ?_
 refine aP 4 rfl (B6 (j := 2) rfl rfl rfl zZ) rfl ?_
 refine aL 5 rfl (A5 rfl rfl (hat2 _) rfl) rfl ?_
 refine aP 7 rfl (qM rfl) rfl ?_
 refine aP 8 rfl (B6 (j := 0) rfl rfl rfl zZ) rfl ?_
 refine aL 9 rfl (A5 rfl rfl (hat0 _) rfl) rfl ?_
 refine A2 6 ?_
 (refine H0 rfl rfl (B6A ts[1] ts[2] G _ _ zW (ha1 zZ) (ha2 zZ) hre1 hre2) rfl rfl rfl (fun v G1 hle1 hh => ?_); obtain ⟨mc, rfl, hmr⟩ := hh; obtain ⟨mt, hmt⟩ : ∃ mt, X3 ts[1] ts[2] = mt := ⟨_, rfl⟩; rw [hmt] at hmr; have hma : I0 mt := (hmt ▸ B6D ts[1] ts[2] zW (ha1 zZ) (ha2 zZ)); obtain ⟨p1, c1, e1, rfl, _⟩ := hmr.open; have hre0q := hre0.mono hle1)
 refine A2 10 ?_
 refine T2 rfl rfl ((A4y _)) rfl rfl rfl ?_
 refine A2 11 ?_
 refine T2 rfl rfl ((A2C ts[0] (.mk 3 []) _ _ _ (ha0 zZ) (W8 zY zY) hre0q (L5 _ ⟨by omega, by omega⟩))) rfl rfl rfl ?_
 refine A2 12 ?_
 refine C9 rfl ?_
 refine aP 13 rfl (qA rfl) rfl ?_
 refine A8 ?_
 refine H2 (rC rfl (A3 rfl rfl)) (rT rfl) ?_
 (obtain rfl : k = 9 := zZ; exact R9.mk (by rw [B01 zZ, hmt]; simp_all [A0i]) hmr hma)
 refine aP 7 rfl (pNf rfl) rfl ?_
 refine M8 ?_
 refine H2 (rC rfl (A3 rfl rfl)) (rT rfl) ?_
 (obtain rfl : k = 9 := zZ; exact R9.no (by rw [B01 zZ]; simp_all) (L5 _ ⟨by omega, by omega⟩) (W8 zZ zZ))
 refine A9 ?_
 refine sB (qE rfl rfl) rfl rfl (fun h288 => ?_) (fun h288 => ?_)
 refine A8 ?_
 (have hl2 : ts.length = 2 := hop.1 zZ; obtain ⟨b0, o0, q0, d0, hp0, hat0, hre0, hg0⟩ := hsl.kidTy hkl (i := 0) zZ zZ; obtain ⟨b1, o1, q1, d1, hp1, hat1, hre1, hg1⟩ := hsl.kidTy hkl (i := 1) zZ zZ; cases hp0; cases hp1; refine D3 D4 rfl ?_)
 refine I9 (i := 0) (l' := [tt,ff,ff,ff,ff,ff,ff,ff,ff,ff,ff]) rfl C8 (qM rfl) rfl zX rfl rfl ?_
 refine aP 1 rfl (B6 (j := 0) rfl rfl rfl zZ) rfl ?_
 refine aL 2 rfl (A5 rfl rfl (hat0 _) rfl) rfl ?_
 refine aP 3 rfl (qM rfl) rfl ?_
 refine aP 4 rfl (B6 (j := 1) rfl rfl rfl zZ) rfl ?_
 refine aL 5 rfl (A5 rfl rfl (hat1 _) rfl) rfl ?_
 refine A2 6 ?_
 (refine H0 rfl rfl (A5U 5 ts[0] ts[1] G _ _ (.inr rfl) (ha0 zZ) (ha1 zZ) hre0 hre1) rfl rfl rfl (fun v G1 hle1 hh => ?_); obtain ⟨mc, rfl, hmr⟩ := hh; have hma := A5y (.inr rfl) (ha0 zZ) (ha1 zZ); obtain ⟨p1, c1, e1, rfl, _⟩ := hmr.open)
 refine aP 7 rfl (pX rfl rfl) rfl ?_
 refine aP 8 rfl (pX rfl rfl) rfl ?_
 refine A2 9 ?_
 refine C9 rfl ?_
 refine aP 10 rfl (qA rfl) rfl ?_
 refine A8 ?_
 refine H2 (rC rfl (A3 rfl rfl)) (rT rfl) ?_
 (obtain rfl : k = 10 := zZ; exact R9.mk (by rw [B6B zZ]) hmr hma)
 refine A9 ?_
 refine sB (qE rfl rfl) rfl rfl (fun h321 => ?_) (fun h321 => ?_)
 refine B0 ?_
 (have hl1 : ts.length = 1 := hop.2.2 zZ; obtain ⟨b0, o0, q0, d0, hp0, hat0, hre0, hg0⟩ := hsl.kidTy hkl (i := 0) zZ zZ; cases hp0; refine sP (B6 (j := 0) rfl rfl rfl zZ) rfl rfl ?_)
 refine sL (A5 rfl rfl (hat0 _) rfl) rfl rfl ?_
 focus (refine F4 rfl (A7G 5 ts[0] G _ (.inr rfl) (ha0 zZ) hre0) rfl rfl (fun v G1 hle1 hh => ?_); obtain ⟨ma, mca, mb, mcb, rfl, hma, hmb, hma2, hmb2, hpp⟩ := hh; obtain ⟨p1, c1, e1, rfl, _⟩ := hma.open; obtain ⟨p2, c2, e2, rfl, _⟩ := hmb.open; rcases hm : U8 5 ts[0] with _ | pr; rotate_left; obtain rfl := hpp _ hm; rotate_left; all_goals simp only [Option.isSome])
 refine B4 ?_
 refine sE (A6 rfl) rfl (fun b336 => ?_)
 refine sE (A6 rfl) rfl (fun b337 => ?_)
 refine N7 ?_
 refine H2 (rC rfl (A3 rfl rfl)) (rT rfl) ?_
 (have hk11 : k = 11 := zZ; exact R9.no (by rw [A5X (.inl hk11) zZ, hm]) hma hma2)
 refine B4 ?_
 refine sE (A6 rfl) rfl (fun b360 => ?_)
 refine sE (A6 rfl) rfl (fun b361 => ?_)
 refine N7 ?_
 refine H2 (rC rfl (A3 rfl rfl)) (rT rfl) ?_
 (have hk11 : k = 11 := zZ; exact R9.yes (by rw [A5X (.inl hk11) zZ, hm]; simp only; rw [if_neg zZ]) hma hma2)
 refine A9 ?_
 refine sB (qE rfl rfl) rfl rfl (fun h386 => ?_) (fun h386 => ?_)
 refine B0 ?_
 (have hl1 : ts.length = 1 := hop.2.2 zZ; obtain ⟨b0, o0, q0, d0, hp0, hat0, hre0, hg0⟩ := hsl.kidTy hkl (i := 0) zZ zZ; cases hp0; refine sP (B6 (j := 0) rfl rfl rfl zZ) rfl rfl ?_)
 refine sL (A5 rfl rfl (hat0 _) rfl) rfl rfl ?_
 focus (refine F4 rfl (A7G 5 ts[0] G _ (.inr rfl) (ha0 zZ) hre0) rfl rfl (fun v G1 hle1 hh => ?_); obtain ⟨ma, mca, mb, mcb, rfl, hma, hmb, hma2, hmb2, hpp⟩ := hh; obtain ⟨p1, c1, e1, rfl, _⟩ := hma.open; obtain ⟨p2, c2, e2, rfl, _⟩ := hmb.open; rcases hm : U8 5 ts[0] with _ | pr; rotate_left; obtain rfl := hpp _ hm; rotate_left; all_goals simp only [Option.isSome])
 refine B4 ?_
 refine sE (A6 rfl) rfl (fun b401 => ?_)
 refine sE (A6 rfl) rfl (fun b402 => ?_)
 refine N7 ?_
 refine H2 (rC rfl (A3 rfl rfl)) (rT rfl) ?_
 (have hk12 : k = 12 := zZ; exact R9.no (by rw [A5X (.inr hk12) zZ, hm]) hmb hmb2)
 refine B4 ?_
 refine sE (A6 rfl) rfl (fun b425 => ?_)
 refine sE (A6 rfl) rfl (fun b426 => ?_)
 refine N7 ?_
 refine H2 (rC rfl (A3 rfl rfl)) (rT rfl) ?_
 (have hk12 : k = 12 := zZ; exact R9.yes (by rw [A5X (.inr hk12) zZ, hm]; simp only; rw [if_pos zZ]) hmb hmb2)
 refine A9 ?_
 refine sP (N6 rfl rfl zZ) rfl rfl ?_
 refine A8 ?_
 (have hl1 : ts.length = 1 := hop.2.2 zZ; obtain ⟨b0, o0, q0, d0, hp0, hat0, hre0, hg0⟩ := hsl.kidTy hkl (i := 0) zZ zZ; cases hp0; refine D3 D4 rfl ?_)
 refine I9 (i := 0) (l' := [tt,ff,ff,ff,ff,ff,ff,ff,ff,ff,ff]) rfl C8 (C3 rfl) rfl zX rfl rfl ?_
 refine aL 1 rfl (A3 rfl rfl) rfl ?_
 refine aP 3 rfl (qM rfl) rfl ?_
 refine aP 4 rfl (B6 (j := 0) rfl rfl rfl zZ) rfl ?_
 refine aL 5 rfl (A5 rfl rfl (hat0 _) rfl) rfl ?_
 refine aP 6 rfl (C3 rfl) rfl ?_
 refine aL 7 rfl (A3 rfl rfl) rfl ?_
 refine A2 2 ?_
 (refine H0 rfl rfl (Y8 (.mk tk tks) G _ hty.small hrty) rfl rfl rfl (fun v G1 hle1 hh => ?_); obtain ⟨cs1, F1, rfl, hs1, hn1⟩ := hh; obtain ⟨p1, c1, rfl, _⟩ := hs1.open; have hmr := hs1.R.mono (D9.le G1 G); have hre0q := hre0.mono hle1; have hrtyq := hrty.mono hle1)
 refine A2 8 ?_
 refine T2 rfl rfl ((A2C ts[0] (.mk tk tks) _ _ _ (ha0 zZ) hty hre0q hrtyq)) rfl rfl rfl ?_
 refine A2 9 ?_
 refine C9 rfl ?_
 refine aP 10 rfl (qA rfl) rfl ?_
 refine A8 ?_
 refine H2 (rC rfl (A3 rfl rfl)) (rT rfl) ?_
 (obtain rfl : k = 13 := zZ; exact R9.mk (by rw [B6C zZ]) hmr hty)
section
variable {ak bk : Int} {aks bks : List Ty}
end
theorem B6F (G : IM) (cx : Cx) (p : Option Addr) (n c : Nat) (nm : ByteArray) (t : Ty) (cells : List Value) (hx : W1 G cx p n c) (hn : n ≤ 1000) (hr : C6 G t cells) :
  Fn Tryz.prog 123 [.slice p n c, .string nm, .agg ⟨cells⟩] [] G (M5 fun G' v => ∃ p' c', v = .slice p' (n + 1) c' ∧ W1 G' (cx ++ [(nm, t)]) p' (n + 1) c') := by
 obtain ⟨k, ks⟩ := t
 obtain ⟨q, d, es0, rfl, _⟩ := hr.open
 simp only [Ty.k, Ty.ks] at hr ⊢
 obtain ⟨hx1, es, h2, h3⟩ := id hx
 have hSl : Sl G p n c 3 es.flatten := h2.1
 have h1c : ∀ u ∈ es.flatten, u.oneCell' = true := by
  intro u hu
  obtain ⟨e, he, hue⟩ := List.mem_flatten.1 hu
  exact List.all_eq_true.1 (h2.one e he) u hue
 refine C0 Tryz.func123 rfl Tryz.ntmps123 Tryz.results123 rfl ?_
 intro w0
 refine A4 ?_
 refine sE (B5 rfl rfl) rfl (fun b3 => ?_)
 refine B4 ?_
 refine D3 D4 rfl ?_
 refine I9 (i := 1) (l' := [ff,tt,ff,ff,ff,ff,ff,ff,ff]) rfl C8 (qM rfl) rfl zX rfl rfl ?_
 refine aP 3 rfl (qM rfl) rfl ?_
 refine aL 4 rfl (A3 rfl rfl) rfl ?_
 refine aP 5 rfl (pBd rfl rfl) rfl ?_
 refine P2 (j := 0) (j' := 6) zX ?_ ?_
 (refine D2 rfl (D1 rfl rfl rfl zZ zU rfl) rfl rfl ?_; rintro _ ⟨b14, rfl⟩)
 refine P2 (j := 2) (j' := 6) zX ?_ ?_
 (refine Y3 rfl rfl rfl rfl rfl rfl (fun _ _ => by repeat (first | exact Sw.here | apply Sw.there)) hSl h1c (Nat.zero_le _) zU zZ rfl rfl zH (fun p4 c4 => ?_); simp only [Nat.zero_add, List.nil_append])
 refine A2 6 ?_
 (refine D2 rfl (D1 rfl rfl rfl zZ zU rfl) rfl rfl ?_; rintro _ ⟨b18, rfl⟩)
 refine A2 7 ?_
 (refine O8 rfl rfl rfl rfl rfl rfl (fun _ _ => by repeat (first | exact Sw.here | apply Sw.there)) (J7 zS) rfl zT zU zZ rfl rfl zH (fun p5 c5 => ?_))
 refine aP 8 rfl (qA rfl) rfl ?_
 refine A4 ?_
 (refine J0 (cs := es.flatten ++ [.string nm, .int .i64 k, .slice q ks.length d]) zP (fun G5 hle5 hsl5 hno5 => ?_))
 refine A4 ?_
 (exact ⟨rfl, _, _, rfl, W1.snoc (nm := nm) (t := .mk k ks) hx1 h2.len h2.all h2.one h3 hle5 ⟨_, _, rfl, hr.mono hle5⟩ hsl5⟩)
 (refine D2 rfl (D1 rfl rfl rfl zZ zU rfl) rfl rfl ?_; rintro _ ⟨b28, rfl⟩)
 refine A2 2 ?_
 (refine Y3 rfl rfl rfl rfl rfl rfl (fun _ _ => by repeat (first | exact Sw.here | apply Sw.there)) hSl h1c (Nat.zero_le _) zU zZ rfl rfl zH (fun p4 c4 => ?_); simp only [Nat.zero_add, List.nil_append])
 refine A2 7 ?_
 (refine O8 rfl rfl rfl rfl rfl rfl (fun _ _ => by repeat (first | exact Sw.here | apply Sw.there)) (J7 zS) rfl zT zU zZ rfl rfl zH (fun p5 c5 => ?_))
 refine aP 8 rfl (qA rfl) rfl ?_
 refine A4 ?_
 (refine J0 (cs := es.flatten ++ [.string nm, .int .i64 k, .slice q ks.length d]) zP (fun G5 hle5 hsl5 hno5 => ?_))
 refine A4 ?_
 (exact ⟨rfl, _, _, rfl, W1.snoc (nm := nm) (t := .mk k ks) hx1 h2.len h2.all h2.one h3 hle5 ⟨_, _, rfl, hr.mono hle5⟩ hsl5⟩)
 (refine D2 rfl (D1 rfl rfl rfl zZ zU rfl) rfl rfl ?_; rintro _ ⟨b40, rfl⟩)
 refine A2 0 ?_
 (refine D2 rfl (D1 rfl rfl rfl zZ zU rfl) rfl rfl ?_; rintro _ ⟨b42, rfl⟩)
 refine A2 2 ?_
 (refine Y3 rfl rfl rfl rfl rfl rfl (fun _ _ => by repeat (first | exact Sw.here | apply Sw.there)) hSl h1c (Nat.zero_le _) zU zZ rfl rfl zH (fun p4 c4 => ?_); simp only [Nat.zero_add, List.nil_append])
 refine A2 7 ?_
 (refine O8 rfl rfl rfl rfl rfl rfl (fun _ _ => by repeat (first | exact Sw.here | apply Sw.there)) (J7 zS) rfl zT zU zZ rfl rfl zH (fun p5 c5 => ?_))
 refine aP 8 rfl (qA rfl) rfl ?_
 refine A4 ?_
 (refine J0 (cs := es.flatten ++ [.string nm, .int .i64 k, .slice q ks.length d]) zP (fun G5 hle5 hsl5 hno5 => ?_))
 refine A4 ?_
 (exact ⟨rfl, _, _, rfl, W1.snoc (nm := nm) (t := .mk k ks) hx1 h2.len h2.all h2.one h3 hle5 ⟨_, _, rfl, hr.mono hle5⟩ hsl5⟩)
theorem B02 {cx : Cx} : ∀ {ks : List Tm} {i : Nat} {us : List Ty} {u : Ty} (hi : i < ks.length), Z0 cx (ks.take i) = some us → S8 cx ks[i] = some u → Z0 cx (ks.take (i + 1)) = some (us ++ [u])
 | [], i, us, u, hi, _, _ => by simp at hi
 | t :: ts, 0, us, u, _, h1, h2 => by
  simp only [List.take_zero, Z0, Option.some.injEq] at h1
  subst h1
  simp only [List.getElem_cons_zero] at h2
  simp [Z0, h2]
 | t :: ts, i + 1, us, u, hi, h1, h2 => by
  simp only [List.take_succ_cons, Z0] at h1 ⊢
  split at h1
  ·cases h1
  ·rename_i a ha
   split at h1
   ·cases h1
   ·rename_i bs has
    simp only [Option.some.injEq] at h1
    subst h1
    simp only [List.getElem_cons_succ] at h2
    have := B02 (ks := ts) (i := i) (by simpa using hi) has h2
    simp only [this, List.cons_append]
theorem B03 {cx : Cx} : ∀ {ks : List Tm} {i : Nat} (hi : i < ks.length), S8 cx ks[i] = none → Z0 cx ks = none
 | [], i, hi, _ => by simp at hi
 | t :: ts, 0, _, h => by simp only [List.getElem_cons_zero] at h; rw [Z0, h]
 | t :: ts, i + 1, hi, h => by
  simp only [List.getElem_cons_succ] at h
  have := B03 (ks := ts) (i := i) (by simpa using hi) h
  rw [Z0, this]
  cases S8 cx t <;> rfl
section
variable {cx : Cx} {k : Int} {nm : ByteArray} {num : Int} {ty fr : Ty} {lb : Int} {ks : List Tm}
theorem B6G (hk : k = 1) (h0 : ks = []) : S8 cx (.mk k nm num ty fr lb ks) = A0J cx nm := by
 subst hk h0
 rw [S8, Z0]
 simp only [A0d, mW1]
 cases A0J cx nm with
 | none => rfl
 | some t => simp
theorem B6H (hk : k = 2) (h0 : ks = []) : S8 cx (.mk k nm num ty fr lb ks) = some W0 := by subst hk h0; rfl
theorem B6I (hk : k = 3 ∨ k = 4) (h0 : ks = []) : S8 cx (.mk k nm num ty fr lb ks) = some A0i := by subst h0; rcases hk with rfl | rfl <;> rfl
theorem B6J {b : Tm} (hk : k = 5) (h : S8 (cx ++ [(nm, ty)]) b = none) : S8 cx (.mk k nm num ty fr lb [b]) = none := by
 subst hk; rw [S8, S4, if_pos rfl, Z0, h]
theorem B6K {b : Tm} {t : Ty} (hk : k = 5) (h : S8 (cx ++ [(nm, ty)]) b = some t) : S8 cx (.mk k nm num ty fr lb [b]) = if H7 (.mk 4 [ty, t]) = true then some (.mk 4 [ty, t]) else none := by
 subst hk
 rw [S8, S4, if_pos rfl, Z0, h]
 simp only [Z0, A0d, mW5, List.getD_cons_zero]
 cases H7 (.mk 4 [ty, t]) <;> simp
theorem B6L (hk : k ≠ 5) (h : Z0 cx ks = none) : S8 cx (.mk k nm num ty fr lb ks) = none := by rw [S8, S4, if_neg hk, h]
theorem B6M {ts : List Ty} (hk : k ≠ 5) (h : Z0 cx ks = some ts) : S8 cx (.mk k nm num ty fr lb ks) = A0d cx k nm ty ts := by rw [S8, S4, if_neg hk, h]
end
theorem B6N : ∀ (e : Tm) (d : Int) (cx : Cx) (G : IM) (p : Option Addr) (n c : Nat) (cells : List Value), P4 12 14 e d = true → (n : Int) ≤ d → cxV cx → W1 G cx p n c → B8 G e cells →
  Fn Tryz.prog 92 [.slice p n c, .agg ⟨cells⟩] [] G (R9 (S8 cx e) G) := by
 refine Tm.ind fun k nm num ty fr lb ks ih d cx G p n c cells hv hnd hcv hx hr => ?_
 have hr0 := hr
 have hone := hr.one
 obtain ⟨hv1, hv2, hv3, hv4⟩ := A0O hv
 have hvk := (A2z 12 14 ks _).1 hv4
 have har := (X7.1 hv3).1
 have hop := A5z har
 obtain ⟨hta, hts⟩ := A5A hv3
 have hkr : 1 ≤ k ∧ k ≤ 14 := A5T (by rw [har]; omega)
 have hcv5 : k = 5 → cxV (cx ++ [(nm, ty)]) := fun hk => by have := A5K (k := k) (nm := nm) (ty := ty) hcv fun hk => (X7.1 hv3).2.2.2.2.2.1 (.inl hk); rwa [S4, if_pos hk] at this
 have h0 : k ≤ 4 → ks = [] := fun h => List.length_eq_zero_iff.1 (by
  have hk : k = 1 ∨ k = 2 ∨ k = 3 ∨ k = 4 := by omega
  rcases hk with rfl | rfl | rfl | rfl
  ·have : E7 1 = 0 := rfl; omega
  ·have : E7 2 = 0 := rfl; omega
  ·have : E7 3 = 0 := rfl; omega
  ·have : E7 4 = 0 := rfl; omega)
 have f1 := fun hk => @B6G cx k nm num ty fr lb ks hk (h0 zZ)
 have f2 := fun hk => @B6H cx k nm num ty fr lb ks hk (h0 zZ)
 have f3 := fun hk => @B6I cx k nm num ty fr lb ks hk (h0 zZ)
 have f4 : ∀ (hk : k = 5) (hl : 0 < ks.length), S8 (cx ++ [(nm, ty)]) ks[0] = none → S8 cx (.mk k nm num ty fr lb ks) = none := fun hk hl h => by
  obtain ⟨b, rfl⟩ := ks1 (hop.2.2 (.inl hk)); exact B6J hk h
 have f5 : ∀ (t : Ty) (hk : k = 5) (hl : 0 < ks.length), S8 (cx ++ [(nm, ty)]) ks[0] = some t → S8 cx (.mk k nm num ty fr lb ks) = if H7 (.mk 4 [ty, t]) = true then some (.mk 4 [ty, t]) else none := fun t hk hl h => by
  obtain ⟨b, rfl⟩ := ks1 (hop.2.2 (.inl hk)); exact B6K hk h
 have f6 := @B6L cx k nm num ty fr lb ks
 have f7 := fun ts => @B6M cx k nm num ty fr lb ks ts
 generalize S8 cx (.mk k nm num ty fr lb ks) = R at f1 f2 f3 f4 f5 f6 f7 ⊢
 obtain ⟨tk, tks⟩ := ty
 obtain ⟨fk, fks⟩ := fr
 obtain ⟨pt, ct, pf, cf, q, cq, es, rfl, hk, hnum, hlb, hty, hfr, hsl, hkl⟩ := hr.open9
 have hlen : ks.length ≤ 3 := by have := A3m k; omega
 refine C0 Tryz.func92 rfl Tryz.ntmps92 Tryz.results92 rfl ?_
 intro w0
 refine A4 ?_
 refine sE (B5 rfl rfl) rfl (fun b3 => ?_)
 refine sE (A6 rfl) rfl (fun b4 => ?_)
 refine J4 ?_
 refine C2 (tS (tR (sB (qE rfl rfl) rfl rfl (fun h18 => ?_) (fun h18 => ?_))))
 refine E8 ?_
 (refine F4 rfl (B6y G cx hcv p n c nm hx) rfl rfl (fun v G1 hle1 hh => ?_); obtain ⟨mt, mc, rfl, hmr, hma, hmu⟩ := hh; obtain ⟨p1, c1, e1, rfl, _⟩ := hmr.open)
 refine E8 ?_
 refine H2 (rC rfl (A3 rfl rfl)) (rT rfl) ?_
 (rw [f1 zZ]; exact ⟨rfl, _, _, rfl, hmr, hma, hmu⟩)
 refine A9 ?_
 refine sB (qE rfl rfl) rfl rfl (fun h46 => ?_) (fun h46 => ?_)
 refine A9 ?_
 refine H1 rfl ((A1v _)) rfl rfl ?_
 refine B0 ?_
 refine H2 (rC rfl (A3 rfl rfl)) (rT rfl) ?_
 (rw [f2 zZ]; exact R9.yes rfl (N4 _) (W8 zZ zZ))
 refine B0 ?_
 refine sB (qE rfl rfl) rfl rfl (fun h70 => ?_) (fun h70 => ?_)
 refine E8 ?_
 refine H1 rfl ((A4y _)) rfl rfl ?_
 refine B0 ?_
 refine H2 (rC rfl (A3 rfl rfl)) (rT rfl) ?_
 (rw [f3 zZ]; exact R9.yes rfl (A0L _) (W8 zZ zZ))
 refine A8 ?_
 refine sB (qE rfl rfl) rfl rfl (fun h95 => ?_) (fun h95 => ?_)
 refine A9 ?_
 refine H1 rfl ((A4y _)) rfl rfl ?_
 refine B0 ?_
 refine H2 (rC rfl (A3 rfl rfl)) (rT rfl) ?_
 (rw [f3 zZ]; exact R9.yes rfl (A0L _) (W8 zZ zZ))
 refine A9 ?_
 refine sB (qE rfl rfl) rfl rfl (fun h118 => ?_) (fun h118 => ?_)
 refine A8 ?_
 (have hl1 : ks.length = 1 := hop.2.2 zZ; obtain ⟨b, o, e, rfl, hl, hat, hre, hgb⟩ := hsl.kidTm hkl (i := 0) zZ zZ; have hMore := B6F G cx p n c nm (.mk tk tks) _ hx zZ hty; refine D3 D4 rfl ?_)
 refine I9 (i := 0) (l' := [tt,ff,ff,ff,ff,ff,ff,ff,ff,ff,ff,ff,ff,ff,ff,ff,ff]) rfl C8 (qM rfl) rfl zX rfl rfl ?_
 refine aP 1 rfl (C3 rfl) rfl ?_
 refine aL 2 rfl (E9 rfl rfl) rfl ?_
 refine aP 3 rfl (C3 rfl) rfl ?_
 refine aL 4 rfl (A3 rfl rfl) rfl ?_
 refine aP 6 rfl (C3 rfl) rfl ?_
 refine aL 7 rfl (E9 rfl rfl) rfl ?_
 refine aP 8 rfl (B6 (j := 0) rfl rfl rfl zZ) rfl ?_
 refine aL 9 rfl (A5 rfl rfl (hat _) hl) rfl ?_
 refine P2 (j := 5) (j' := 14) zX ?_ ?_
 (refine H0 rfl rfl hMore rfl rfl rfl (fun v G1 hle1 hh => ?_); obtain ⟨pm, cm, rfl, hxm⟩ := hh; have hreM := hre.mono hle1; have hLam := ih ks[0] (List.getElem_mem zZ) (d + 1) _ G1 pm (n + 1) cm _ (hvk 0 zZ) zZ (hcv5 zZ) hxm hreM; have htyM := hty.mono hle1)
 refine P2 (j := 10) (j' := 14) zX ?_ ?_
 focus (refine H0 rfl rfl hLam rfl rfl rfl (fun v G2 hle2 hh => ?_); obtain ⟨mt, mc, rfl, hmr, hma, hmu⟩ := hh; obtain ⟨p1, c1, e1, rfl, _⟩ := hmr.open; have htyN := htyM.mono hle2; rcases hE : S8 (cx ++ [(nm, Ty.mk tk tks)]) ks[0] with _ | mt2; rotate_left; obtain rfl := hmu _ hE; rotate_left; all_goals simp only [Option.isSome])
 refine aP 11 rfl (qM rfl) rfl ?_
 refine aP 12 rfl (pX rfl rfl) rfl ?_
 refine aP 13 rfl (pX rfl rfl) rfl ?_
 refine A2 14 ?_
 (refine D2 rfl (A6 rfl) rfl rfl ?_; rintro _ ⟨b142, rfl⟩)
 refine A2 15 ?_
 refine C9 rfl ?_
 refine aP 16 rfl (qA rfl) rfl ?_
 refine Y1 ?_
 refine H2 (rC rfl (A3 rfl rfl)) (rT rfl) ?_
 (rw [f4 zZ zZ (by first | exact hE | assumption)]; exact R9.no rfl (L5 _ ⟨by omega, by omega⟩) (W8 zZ zZ))
 refine aP 11 rfl (qM rfl) rfl ?_
 refine aP 12 rfl (pX rfl rfl) rfl ?_
 refine aP 13 rfl (pX rfl rfl) rfl ?_
 refine A2 14 ?_
 (refine D2 rfl (A6 rfl) rfl rfl ?_; rintro _ ⟨b173, rfl⟩)
 refine A2 15 ?_
 refine C9 rfl ?_
 refine aP 16 rfl (qA rfl) rfl ?_
 refine U7 ?_
 (refine F4 rfl (A5U 4 (.mk tk tks) _ _ _ _ (.inl rfl) hta hma htyN hmr) rfl rfl (fun v G3 hle3 hh => ?_); obtain ⟨mc2, rfl, hmr2⟩ := hh; obtain ⟨p2, c2, e2, rfl, _⟩ := hmr2.open)
 refine E8 ?_
 refine H2 (rC rfl (A3 rfl rfl)) (rT rfl) ?_
 (rw [f5 _ zZ zZ (by first | exact hE | assumption)]; exact R9.mk rfl hmr2 (A5y (.inl rfl) hta hma))
 (refine D2 rfl (A6 rfl) rfl rfl ?_; rintro _ ⟨b206, rfl⟩)
 refine A2 10 ?_
 focus (refine H0 rfl rfl hLam rfl rfl rfl (fun v G2 hle2 hh => ?_); obtain ⟨mt, mc, rfl, hmr, hma, hmu⟩ := hh; obtain ⟨p1, c1, e1, rfl, _⟩ := hmr.open; have htyN := htyM.mono hle2; rcases hE : S8 (cx ++ [(nm, Ty.mk tk tks)]) ks[0] with _ | mt2; rotate_left; obtain rfl := hmu _ hE; rotate_left; all_goals simp only [Option.isSome])
 refine aP 11 rfl (qM rfl) rfl ?_
 refine aP 12 rfl (pX rfl rfl) rfl ?_
 refine aP 13 rfl (pX rfl rfl) rfl ?_
 refine A2 15 ?_
 refine C9 rfl ?_
 refine aP 16 rfl (qA rfl) rfl ?_
 refine Y1 ?_
 refine H2 (rC rfl (A3 rfl rfl)) (rT rfl) ?_
 (rw [f4 zZ zZ (by first | exact hE | assumption)]; exact R9.no rfl (L5 _ ⟨by omega, by omega⟩) (W8 zZ zZ))
 refine aP 11 rfl (qM rfl) rfl ?_
 refine aP 12 rfl (pX rfl rfl) rfl ?_
 refine aP 13 rfl (pX rfl rfl) rfl ?_
 refine A2 15 ?_
 refine C9 rfl ?_
 refine aP 16 rfl (qA rfl) rfl ?_
 refine U7 ?_
 (refine F4 rfl (A5U 4 (.mk tk tks) _ _ _ _ (.inl rfl) hta hma htyN hmr) rfl rfl (fun v G3 hle3 hh => ?_); obtain ⟨mc2, rfl, hmr2⟩ := hh; obtain ⟨p2, c2, e2, rfl, _⟩ := hmr2.open)
 refine E8 ?_
 refine H2 (rC rfl (A3 rfl rfl)) (rT rfl) ?_
 (rw [f5 _ zZ zZ (by first | exact hE | assumption)]; exact R9.mk rfl hmr2 (A5y (.inl rfl) hta hma))
 (refine D2 rfl (A6 rfl) rfl rfl ?_; rintro _ ⟨b273, rfl⟩)
 refine A2 5 ?_
 (refine H0 rfl rfl hMore rfl rfl rfl (fun v G1 hle1 hh => ?_); obtain ⟨pm, cm, rfl, hxm⟩ := hh; have hreM := hre.mono hle1; have hLam := ih ks[0] (List.getElem_mem zZ) (d + 1) _ G1 pm (n + 1) cm _ (hvk 0 zZ) zZ (hcv5 zZ) hxm hreM; have htyM := hty.mono hle1)
 refine A2 10 ?_
 focus (refine H0 rfl rfl hLam rfl rfl rfl (fun v G2 hle2 hh => ?_); obtain ⟨mt, mc, rfl, hmr, hma, hmu⟩ := hh; obtain ⟨p1, c1, e1, rfl, _⟩ := hmr.open; have htyN := htyM.mono hle2; rcases hE : S8 (cx ++ [(nm, Ty.mk tk tks)]) ks[0] with _ | mt2; rotate_left; obtain rfl := hmu _ hE; rotate_left; all_goals simp only [Option.isSome])
 refine aP 11 rfl (qM rfl) rfl ?_
 refine aP 12 rfl (pX rfl rfl) rfl ?_
 refine aP 13 rfl (pX rfl rfl) rfl ?_
 refine A2 15 ?_
 refine C9 rfl ?_
 refine aP 16 rfl (qA rfl) rfl ?_
 refine Y1 ?_
 refine H2 (rC rfl (A3 rfl rfl)) (rT rfl) ?_
 (rw [f4 zZ zZ (by first | exact hE | assumption)]; exact R9.no rfl (L5 _ ⟨by omega, by omega⟩) (W8 zZ zZ))
 refine aP 11 rfl (qM rfl) rfl ?_
 refine aP 12 rfl (pX rfl rfl) rfl ?_
 refine aP 13 rfl (pX rfl rfl) rfl ?_
 refine A2 15 ?_
 refine C9 rfl ?_
 refine aP 16 rfl (qA rfl) rfl ?_
 refine U7 ?_
 (refine F4 rfl (A5U 4 (.mk tk tks) _ _ _ _ (.inl rfl) hta hma htyN hmr) rfl rfl (fun v G3 hle3 hh => ?_); obtain ⟨mc2, rfl, hmr2⟩ := hh; obtain ⟨p2, c2, e2, rfl, _⟩ := hmr2.open)
 refine E8 ?_
 refine H2 (rC rfl (A3 rfl rfl)) (rT rfl) ?_
 (rw [f5 _ zZ zZ (by first | exact hE | assumption)]; exact R9.mk rfl hmr2 (A5y (.inl rfl) hta hma))
 refine E8 ?_
 (refine J2 (D1 rfl rfl rfl zZ zU rfl) rfl ?_; rintro _ ⟨b351, rfl⟩)
 refine E8 ?_
 refine C2 ?_
 (refine L4 (fun (x : Nat × Option Addr × Nat × List Ty × List (List Value) × IM) => ⟨[(9, .int .i64 x.1), (8, .slice x.2.1 x.1 x.2.2.1), (3, .pointer (some ⟨b3, 0, none⟩)), (4, .pointer (some ⟨b4, 0, none⟩)), (0, .slice p n c)], [.slc x.2.1 x.2.2.1 25 2 x.1 x.2.2.2.2.1.flatten, .blk b4 [.int .i64 0, .slice none 0 0], .blk b3 [.int .i64 k, .string nm, .int .i64 num, .int .i64 tk, .slice pt tks.length ct, .int .i64 fk, .slice pf fks.length cf, .int .i64 lb, .slice q ks.length cq]], x.2.2.2.2.2⟩) (fun x => x.1 ≤ ks.length ∧ B9 G x.2.2.2.2.2 ∧ x.2.2.2.1.length = x.1 ∧ D8 x.2.2.2.2.2 x.2.2.2.1 x.2.2.2.2.1 ∧ (∀ u ∈ x.2.2.2.1, I0 u) ∧ Z0 cx (ks.take x.1) = some x.2.2.2.1) (fun x => ks.length - x.1) (0, some ⟨b351, 0, none⟩, 0, [], [], G) ?_ ?_ ?_)
 (simp only [I6]; exact F9)
 (exact ⟨by simp, B9.refl _, rfl, by simp [D8], by simp, by simp [Z0]⟩)
 (rintro ⟨i, pn, cn, us, es', Gi⟩ ⟨hi, hle, hlu, hst, hau, hsu⟩; simp only [] at hi hle hlu hst hau hsu ⊢; replace hsl := hsl.mono hle; replace hkl := hkl.mono hle; replace hx := hx.mono hle; replace hr0 := hr0.mono hle)
 refine B0 ?_
 refine sB (N0 rfl rfl) rfl rfl (fun h373 => ?_) (fun h373 => ?_)
 refine A9 ?_
 refine C2 ?_
 refine A9 ?_
 (obtain ⟨b, o, e, rfl, hl, hat, hre, hgb⟩ := hsl.kidTm hkl (i := i) zZ zZ; refine sP (B6 rfl rfl rfl zZ) rfl rfl ?_)
 refine sL (A5 rfl rfl (hat _) hl) rfl rfl ?_
 focus (refine F4 rfl (ih ks[i] (List.getElem_mem zZ) (d + 1) cx Gi p n c _ (hvk i zZ) zZ hcv hx hre) rfl rfl (fun v G2 hle2 hh => ?_); obtain ⟨u, uc, rfl, hru, hua, huu⟩ := hh; obtain ⟨p3, c3, e3, rfl, _⟩ := hru.open; rcases hE : S8 cx ks[i] with _ | u2; rotate_left; obtain rfl := huu _ hE; rotate_left; all_goals simp only [Option.isSome])
 refine C1 ?_
 refine sE (A6 rfl) rfl (fun b393 => ?_)
 refine A4h ?_
 refine H2 (rC rfl (A3 rfl rfl)) (rT rfl) ?_
 (rw [f6 zZ (B03 zZ hE)]; exact R9.no rfl (L5 _ ⟨by omega, by omega⟩) (W8 zZ zZ))
 refine C1 ?_
 refine sE (A6 rfl) rfl (fun b425 => ?_)
 refine U7 ?_
 (refine J2 (D1 rfl rfl rfl zZ zU rfl) rfl ?_; rintro _ ⟨b443, rfl⟩)
 refine X1 rfl rfl rfl rfl rfl (fun _ _ => by repeat (first | exact Sw.here | apply Sw.there)) (J7 zS) rfl zT zU zZ rfl (fun pn' cn' => ?_)
 refine A9 ?_
 refine sP (J9 rfl rfl zZ zZ) rfl rfl ?_
 refine A4 ?_
 refine J6 (i + 1, pn', cn', us ++ [u2], es' ++ [[.int .i64 u2.k, .slice p3 u2.ks.length c3]], G2) ?_ ?_ ?_
 (simp only [I6]; exact F9)
 (dsimp only; exact ⟨by omega, hle.trans hle2, by simp [hlu], D8.snoc (hst.mono hle2) hru, A3P hau hua, B02 zZ hsu hE⟩)
 (show ks.length - (i + 1) < ks.length - i; omega)
 refine O3 ?_
 (obtain rfl : i = ks.length := zZ; rw [List.take_length] at hsu; refine W9 (cs := es'.flatten) zP (fun G3 hle3 hsl3 hno3 => ?_); have hst3 := hst.mono hle3; have hRes := B6E cx k nm num (.mk tk tks) (.mk fk fks) lb ks us G3 _ pn cn es' (by rw [hlu]; exact har) zZ hta (hr0.mono hle3) (by rw [hlu]; exact D6.of hsl3 (by rw [hst3.len, hlu]) hst3.all (fun e he => (hst3.each e he).2)) hst3 hau; rw [hlu] at hRes; refine F4 rfl hRes rfl rfl (fun v G4 hle4 hh => ?_); obtain ⟨mt, mc, rfl, hmr, hma, hmu⟩ := hh; obtain ⟨p1, c1, e1, rfl, _⟩ := hmr.open)
 refine B0 ?_
 refine H2 (rC rfl (A3 rfl rfl)) (rT rfl) ?_
 (rw [f7 us zZ hsu]; exact ⟨rfl, _, _, rfl, hmr, hma, hmu⟩)
theorem B6O {e : Tm} (h : N8 e = true) : W2 e = S8 [] e := by
 have hs := ((U1 e).1 h).1
 obtain ⟨h1, h2⟩ := A5L e 1 [] 0 hs A4H
 unfold W2
 cases hE : Q5 [] e 0 with
 | none => rw [A7C h hE, h2 hE]
 | some r =>
  obtain ⟨u, a, l⟩ := r
  rw [A7D h hE, (h1 u a l hE).1]
def A7I (t : Ty) (x : Bool) (G : IM) : IM → Value → List A7 → Prop := M5 fun G' v => ∃ cells, v = .tuple ⟨[.agg ⟨cells⟩, .bool x]⟩ ∧ C6 G' (if x = true then t else B3) cells
theorem B6P (t : Ty) (G : IM) (cells : List Value) (hr : C6 G t cells) : Fn Tryz.prog 91 [.agg ⟨cells⟩, .bool true] [] G (A7I t true G) := by
 obtain ⟨p, c, e, rfl, _⟩ := hr.open
 refine C0 Tryz.func91 rfl Tryz.ntmps91 Tryz.results91 rfl ?_
 intro w0
 refine A4 ?_
 refine sE (B5 rfl rfl) rfl (fun b3 => ?_)
 refine sE (A6 rfl) rfl (fun b4 => ?_)
 refine Y1 ?_
 refine H2 (rC rfl (A3 rfl rfl)) (rT rfl) ?_
 (exact ⟨rfl, _, rfl, hr⟩)
theorem B6Q (t : Ty) (G : IM) (cells : List Value) (hr : C6 G t cells) : Fn Tryz.prog 91 [.agg ⟨cells⟩, .bool false] [] G (A7I t false G) := by
 obtain ⟨p, c, e, rfl, _⟩ := hr.open
 refine C0 Tryz.func91 rfl Tryz.ntmps91 Tryz.results91 rfl ?_
 intro w0
 refine A4 ?_
 refine sE (B5 rfl rfl) rfl (fun b3 => ?_)
 refine sE (A6 rfl) rfl (fun b4 => ?_)
 refine W5 ?_
 refine H2 (rC rfl (A3 rfl rfl)) (rT rfl) ?_
 (exact ⟨rfl, _, rfl, L5 _ ⟨by omega, by omega⟩⟩)
theorem B6R (t : Ty) (x : Bool) (G : IM) (cells : List Value) (hr : C6 G t cells) : Fn Tryz.prog 91 [.agg ⟨cells⟩, .bool x] [] G (A7I t x G) := by
 cases x
 ·exact B6Q t G cells hr
 ·exact B6P t G cells hr
theorem A0k.sure {o : Option Ty} {t : Ty} {G G' : IM} {cells : List Value} (h : ∀ u, o = some u → u = t) (hr : C6 G' (if o.isSome = true then t else B3) cells) : A0k o G G' (.tuple ⟨[.agg ⟨cells⟩, .bool o.isSome]⟩) [] := by
 cases o with
 | none => exact ⟨rfl, cells, B3, rfl, hr, by simp⟩
 | some u => exact ⟨rfl, cells, t, rfl, hr, fun x hx => by cases hx; exact (h _ rfl).symm⟩
theorem B6S (e : Tm) (G : IM) (cells : List Value) (hcnt : E1 e ≤ 4294967296) (hr : B8 G e cells) :
  Fn Tryz.prog 60 [.slice none 0 0, .agg ⟨cells⟩] [] G (A0k (W2 e) G) := by
 have hl := hr.len
 have hone := hr.one
 have hw := A4v e G cells hcnt hr
 have hT := fun h : N8 e = true => B6N e 1 [] G none 0 0 cells ((U1 e).1 h).1 zZ A4H (W1.nil G) hr
 have hts := fun h => @B6O e h
 have hno := @B0T e
 refine C0 Tryz.func60 rfl Tryz.ntmps60 Tryz.results60 rfl ?_
 intro w0
 refine A4 ?_
 refine sE (B5 rfl rfl) rfl (fun b3 => ?_)
 refine sE (A6 rfl) rfl (fun b4 => ?_)
 refine B0 ?_
 refine H1 rfl ((B37 _)) rfl rfl ?_
 refine A4 ?_
 refine sL (A5 rfl rfl (B7 zS) zW) rfl rfl ?_
 refine K3 rfl (hw) rfl rfl (fun h16 => ?_) (fun h16 => ?_)
 refine J4 ?_
 refine sL (A5 rfl rfl (B7 zS) zW) rfl rfl ?_
 (refine F4 rfl (hT zW) rfl rfl (fun v G1 hle1 hh => ?_); obtain ⟨mt, mc, rfl, hmr, hma, hmu⟩ := hh; obtain ⟨p1, c1, e1, rfl, _⟩ := hmr.open; have hmo := hts zW)
 refine A4 ?_
 (refine F4 rfl (B6R mt _ _ _ hmr) rfl rfl (fun v G2 hle2 hh => ?_); obtain ⟨mc2, rfl, hmr2⟩ := hh; obtain ⟨p2, c2, e2, rfl, _⟩ := hmr2.open)
 refine B0 ?_
 refine H2 (rC rfl (A3 rfl rfl)) (rT rfl) ?_
 (rw [hmo]; exact A0k.sure hmu hmr2)
 refine M8 ?_
 refine H2 (rC rfl (A3 rfl rfl)) (rT rfl) ?_
 (exact A0k.no (u := B3) (L5 _ ⟨by omega, by omega⟩) rfl (hno zW))
theorem B6T (e : Tm) (G : IM) (cells : List Value) (hcnt : E1 e ≤ 4294967296) (hr : B8 G e cells) :
  Fn Tryz.prog 25 [.agg ⟨cells⟩] [] G (A0k (W2 e) G) := by
 have hl := hr.len
 have hone := hr.one
 refine C0 Tryz.func25 rfl Tryz.ntmps25 Tryz.results25 rfl ?_
 intro w0
 refine A4 ?_
 refine sE (B5 rfl rfl) rfl (fun b3 => ?_)
 refine sE (A6 rfl) rfl (fun b4 => ?_)
 refine A8 ?_
 refine sL (A5 rfl rfl (B7 zS) zW) rfl rfl ?_
 (refine F4 rfl (B6S e G cells hcnt hr) rfl rfl (fun v G1 hle1 hh => ?_); obtain ⟨cu, u, rfl, hru, hu⟩ := hh; obtain ⟨p1, c1, e1, rfl, _⟩ := hru.open)
 refine B0 ?_
 refine H2 (rC rfl (A3 rfl rfl)) (rT rfl) ?_
 (exact ⟨rfl, _, u, rfl, hru, hu⟩)
def B8u (e : Tm) (a b : Ty) (l : Int) : IM → Value → List A7 → Prop := M5 fun G' v => ∃ cells, v = .tuple ⟨[.agg ⟨cells⟩, .int .i64 (if S7 a b = true then l else l + 1)]⟩ ∧ B8 G' (if S7 a b = true then e else S5 e a b l) cells
def B8v (w ts : List Ty) : List Ty := if w = [] then ts else w
def B8w (ws : List Ty) (n : Nat) (G : IM) : IM → Value → List A7 → Prop := M5 fun G' v => ∃ p c es, v = .slice p n c ∧ ws.length = n ∧ D6 G' p n c 2 es ∧ D8 G' ws es
section
variable {cx : Cx} {k : Int} {nm : ByteArray} {ty : Ty} {ts w : List Ty} {t : Ty}
end
def B8x (u : Tm) (t : Ty) (l : Int) (G : IM) : IM → Value → List A7 → Prop := M5 fun G' v => ∃ cu ct, v = .tuple ⟨[.agg ⟨cu⟩, .agg ⟨ct⟩, .int .i64 (l + 1)]⟩ ∧ B8 G' u cu ∧ C6 G' t ct
theorem A0Q.openA {a b : List Ty} {G' : IM} {v : Value} {outs : List A7} {m : Nat} (h : A0Q (a ++ b) G' v outs) (hm : a.length = m) :
  ∃ p c es, v = .slice p (m + b.length) c ∧ outs = [.slc p c 25 2 (m + b.length) es.flatten] ∧ D8 G' (a ++ b) es := by
 subst hm
 rw [← List.length_append]
 exact h
theorem B6U : ∀ (t : Tm) (l : List Ty) (G : IM) (cells : List Value) (p : Option Addr) (c : Nat) (es : List (List Value)), t.small → l.length + E1 t ≤ 4000000 → B8 G t cells → D8 G l es →
  Fn Tryz.prog 87 [.slice p l.length c, .agg ⟨cells⟩] [.slc p c 25 2 l.length es.flatten] G (A0Q (l ++ I8 t)) := by
 refine Tm.ind fun k nm num ty fr lb ks ih l G cells p c es0 hts hcnt hr hl0 => ?_
 have hone := hr.one
 simp only [Tm.small] at hts
 obtain ⟨_, hty', _, hsm, hks⟩ := hts
 have hcy : k = 5 ∨ k = 13 → I8 (.mk k nm num ty fr lb ks) = [ty] ++ I4 ks := fun h => by rw [I8, if_pos h]
 have hcn : ¬ (k = 5 ∨ k = 13) → I8 (.mk k nm num ty fr lb ks) = I4 ks := fun h => by rw [I8, if_neg h, List.nil_append]
 rw [E1] at hcnt
 obtain ⟨tk, tks⟩ := ty
 obtain ⟨fk, fks⟩ := fr
 obtain ⟨pt, ct, pf, cf, q, cq, ek, rfl, hk, hnum, hlb, hty, hfr, hsl, hkl⟩ := hr.open9
 have hn := hsl.le
 refine C0 Tryz.func87 rfl Tryz.ntmps87 Tryz.results87 rfl ?_
 intro w0
 refine A4 ?_
 refine sE (B5 rfl rfl) rfl (fun b3 => ?_)
 refine E4 ?_
 refine sB (qE rfl rfl) rfl rfl (fun h12 => ?_) (fun h12 => ?_)
 refine O3 ?_
 (refine F4 rfl (Y8 (.mk tk tks) G _ hty' hty) rfl rfl (fun v G1 hle1 hh => ?_); obtain ⟨cs1, F1, rfl, hs1, hn1⟩ := hh; have hr1 := hs1.R.mono (D9.le _ _); obtain ⟨p1, c1, rfl, _⟩ := hs1.open)
 (refine J2 (D1 rfl rfl rfl zZ zU rfl) rfl ?_; rintro _ ⟨b26, rfl⟩)
 (refine X1 rfl rfl rfl rfl rfl (fun _ _ => by repeat (first | exact Sw.here | apply Sw.there)) (J7 zS) rfl zT zU zZ rfl (fun pn0 cn0 => ?_))
 refine E8 ?_
 refine C2 ?_
 (have h14 := hcy zZ; have hinit := D8.append (hl0.mono hle1) (D8.one1 hr1); refine L4 (fun (x : Nat × Nat × Option Addr × Nat × List (List Value) × IM) => ⟨[(5, .int .i64 x.1), (3, .pointer (some ⟨b3, 0, none⟩)), (0, .slice x.2.2.1 x.2.1 x.2.2.2.1)], [.slc x.2.2.1 x.2.2.2.1 25 2 x.2.1 x.2.2.2.2.1.flatten, .blk b3 [.int .i64 k, .string nm, .int .i64 num, .int .i64 tk, .slice pt tks.length ct, .int .i64 fk, .slice pf fks.length cf, .int .i64 lb, .slice q ks.length cq]], x.2.2.2.2.2⟩) (fun x => x.1 ≤ ks.length ∧ B9 G x.2.2.2.2.2 ∧ D8 x.2.2.2.2.2 ((l ++ [Ty.mk tk tks]) ++ I4 (ks.take x.1)) x.2.2.2.2.1 ∧ ((l ++ [Ty.mk tk tks]) ++ I4 (ks.take x.1)).length = x.2.1) (fun x => ks.length - x.1) (0, l.length + 1, pn0, cn0, es0 ++ [[.int .i64 tk, .slice p1 tks.length c1]], G1) (by simp only [List.flatten_append, List.flatten_cons, List.flatten_nil, List.append_nil]; exact (I1 zO zJ)) ?_ ?_)
 (exact ⟨Nat.zero_le _, hle1, (by show D8 G1 ((l ++ [Ty.mk tk tks]) ++ I4 (ks.take 0)) _; rw [List.take_zero, I4, List.append_nil]; exact hinit), by simp [I4]⟩)
 (rintro ⟨(i : Nat), (m : Nat), pn, cn, es, Gi⟩ ⟨hi, hle, hst, hlen⟩; simp only [] at hi hle hst hlen ⊢; replace hsl := hsl.mono hle; replace hkl := hkl.mono hle; have hb1 := A2T (ks.take i); have hb2 := A2T ks; have hlen0 := hlen; simp only [List.length_append, List.length_singleton, List.length_nil] at hlen)
 refine B0 ?_
 refine sB (N0 rfl rfl) rfl rfl (fun h48 => ?_) (fun h48 => ?_)
 refine A9 ?_
 refine C2 ?_
 refine A8 ?_
 (obtain ⟨b, o, e, rfl, hl, hat, hre, hgb⟩ := hsl.kidTm hkl (i := i) zZ zZ; have hone9 := hre.one; have hsc := A1n (ks := ks) (i := i) zZ; have hsk := A1m (ks := ks) (i := i) zZ; refine sP (B6 rfl rfl rfl zZ) rfl rfl ?_)
 refine sL (A5 rfl rfl (hat _) hl) rfl rfl ?_
 (have hih := ih ks[i] (List.getElem_mem zZ) _ Gi e pn cn es (Tm.smallL_mem hks _ (List.getElem_mem zZ)) (by simp only [List.length_append, List.length_singleton]; omega) hre hst; rw [hlen0] at hih; refine K9 rfl hih (Pk.perm zP) rfl rfl (fun v3 G3 outs hle3 hh => ?_); obtain ⟨p3, c3, e3, rfl, rfl, hr3⟩ := A0Q.openA hh hlen0)
 refine A9 ?_
 refine sP (J9 rfl rfl zZ zZ) rfl rfl ?_
 refine A4 ?_
 (refine J6 (i + 1, m + (I8 ks[i]).length, p3, c3, e3, G3) ?_ ?_ ?_)
 (simp only [I6]; exact F9)
 (dsimp only; exact ⟨by omega, hle.trans hle3, by rw [A0K zZ, ← List.append_assoc]; exact hr3, by rw [A0K zZ, ← List.append_assoc, List.length_append, hlen0]⟩)
 (show ks.length - (i + 1) < ks.length - i; omega)
 refine M8 ?_
 (obtain rfl : i = ks.length := zZ)
 refine tT ?_
 refine H6 (outs := [.slc pn cn 25 2 m es.flatten]) (rT rfl) (A0.cons zP A0.nil) ?_
 (rw [h14]; rw [List.take_length] at hst hlen; first | exact A0Q.mk (by simp only [List.length_append, List.length_singleton, List.length_nil]; omega) hst | (rw [← List.append_assoc]; exact A0Q.mk (by simp only [List.length_append, List.length_singleton, List.length_nil]; omega) hst))
 refine C1 ?_
 refine sB (qE rfl rfl) rfl rfl (fun h98 => ?_) (fun h98 => ?_)
 refine E4 ?_
 (refine F4 rfl (Y8 (.mk tk tks) G _ hty' hty) rfl rfl (fun v G1 hle1 hh => ?_); obtain ⟨cs1, F1, rfl, hs1, hn1⟩ := hh; have hr1 := hs1.R.mono (D9.le _ _); obtain ⟨p1, c1, rfl, _⟩ := hs1.open)
 (refine J2 (D1 rfl rfl rfl zZ zU rfl) rfl ?_; rintro _ ⟨b108, rfl⟩)
 (refine X1 rfl rfl rfl rfl rfl (fun _ _ => by repeat (first | exact Sw.here | apply Sw.there)) (J7 zS) rfl zT zU zZ rfl (fun pn0 cn0 => ?_))
 refine E8 ?_
 refine C2 ?_
 (have h14 := hcy zZ; have hinit := D8.append (hl0.mono hle1) (D8.one1 hr1); refine L4 (fun (x : Nat × Nat × Option Addr × Nat × List (List Value) × IM) => ⟨[(5, .int .i64 x.1), (3, .pointer (some ⟨b3, 0, none⟩)), (0, .slice x.2.2.1 x.2.1 x.2.2.2.1)], [.slc x.2.2.1 x.2.2.2.1 25 2 x.2.1 x.2.2.2.2.1.flatten, .blk b3 [.int .i64 k, .string nm, .int .i64 num, .int .i64 tk, .slice pt tks.length ct, .int .i64 fk, .slice pf fks.length cf, .int .i64 lb, .slice q ks.length cq]], x.2.2.2.2.2⟩) (fun x => x.1 ≤ ks.length ∧ B9 G x.2.2.2.2.2 ∧ D8 x.2.2.2.2.2 ((l ++ [Ty.mk tk tks]) ++ I4 (ks.take x.1)) x.2.2.2.2.1 ∧ ((l ++ [Ty.mk tk tks]) ++ I4 (ks.take x.1)).length = x.2.1) (fun x => ks.length - x.1) (0, l.length + 1, pn0, cn0, es0 ++ [[.int .i64 tk, .slice p1 tks.length c1]], G1) (by simp only [List.flatten_append, List.flatten_cons, List.flatten_nil, List.append_nil]; exact (I1 zO zJ)) ?_ ?_)
 (exact ⟨Nat.zero_le _, hle1, (by show D8 G1 ((l ++ [Ty.mk tk tks]) ++ I4 (ks.take 0)) _; rw [List.take_zero, I4, List.append_nil]; exact hinit), by simp [I4]⟩)
 (rintro ⟨(i : Nat), (m : Nat), pn, cn, es, Gi⟩ ⟨hi, hle, hst, hlen⟩; simp only [] at hi hle hst hlen ⊢; replace hsl := hsl.mono hle; replace hkl := hkl.mono hle; have hb1 := A2T (ks.take i); have hb2 := A2T ks; have hlen0 := hlen; simp only [List.length_append, List.length_singleton, List.length_nil] at hlen)
 refine B0 ?_
 refine sB (N0 rfl rfl) rfl rfl (fun h130 => ?_) (fun h130 => ?_)
 refine A9 ?_
 refine C2 ?_
 refine A8 ?_
 (obtain ⟨b, o, e, rfl, hl, hat, hre, hgb⟩ := hsl.kidTm hkl (i := i) zZ zZ; have hone9 := hre.one; have hsc := A1n (ks := ks) (i := i) zZ; have hsk := A1m (ks := ks) (i := i) zZ; refine sP (B6 rfl rfl rfl zZ) rfl rfl ?_)
 refine sL (A5 rfl rfl (hat _) hl) rfl rfl ?_
 (have hih := ih ks[i] (List.getElem_mem zZ) _ Gi e pn cn es (Tm.smallL_mem hks _ (List.getElem_mem zZ)) (by simp only [List.length_append, List.length_singleton]; omega) hre hst; rw [hlen0] at hih; refine K9 rfl hih (Pk.perm zP) rfl rfl (fun v3 G3 outs hle3 hh => ?_); obtain ⟨p3, c3, e3, rfl, rfl, hr3⟩ := A0Q.openA hh hlen0)
 refine A9 ?_
 refine sP (J9 rfl rfl zZ zZ) rfl rfl ?_
 refine A4 ?_
 (refine J6 (i + 1, m + (I8 ks[i]).length, p3, c3, e3, G3) ?_ ?_ ?_)
 (simp only [I6]; exact F9)
 (dsimp only; exact ⟨by omega, hle.trans hle3, by rw [A0K zZ, ← List.append_assoc]; exact hr3, by rw [A0K zZ, ← List.append_assoc, List.length_append, hlen0]⟩)
 (show ks.length - (i + 1) < ks.length - i; omega)
 refine M8 ?_
 (obtain rfl : i = ks.length := zZ)
 refine tT ?_
 refine H6 (outs := [.slc pn cn 25 2 m es.flatten]) (rT rfl) (A0.cons zP A0.nil) ?_
 (rw [h14]; rw [List.take_length] at hst hlen; first | exact A0Q.mk (by simp only [List.length_append, List.length_singleton, List.length_nil]; omega) hst | (rw [← List.append_assoc]; exact A0Q.mk (by simp only [List.length_append, List.length_singleton, List.length_nil]; omega) hst))
 refine O3 ?_
 refine C2 ?_
 (have h14 := hcn zZ; refine L4 (fun (x : Nat × Nat × Option Addr × Nat × List (List Value) × IM) => ⟨[(5, .int .i64 x.1), (3, .pointer (some ⟨b3, 0, none⟩)), (0, .slice x.2.2.1 x.2.1 x.2.2.2.1)], [.slc x.2.2.1 x.2.2.2.1 25 2 x.2.1 x.2.2.2.2.1.flatten, .blk b3 [.int .i64 k, .string nm, .int .i64 num, .int .i64 tk, .slice pt tks.length ct, .int .i64 fk, .slice pf fks.length cf, .int .i64 lb, .slice q ks.length cq]], x.2.2.2.2.2⟩) (fun x => x.1 ≤ ks.length ∧ B9 G x.2.2.2.2.2 ∧ D8 x.2.2.2.2.2 (l ++ I4 (ks.take x.1)) x.2.2.2.2.1 ∧ (l ++ I4 (ks.take x.1)).length = x.2.1) (fun x => ks.length - x.1) (0, l.length, p, c, es0, G) ?_ ?_ ?_)
 (simp only [I6]; exact F9)
 (exact ⟨Nat.zero_le _, B9.refl _, by simpa [I4] using hl0, by simp [I4]⟩)
 (rintro ⟨(i : Nat), (m : Nat), pn, cn, es, Gi⟩ ⟨hi, hle, hst, hlen⟩; simp only [] at hi hle hst hlen ⊢; replace hsl := hsl.mono hle; replace hkl := hkl.mono hle; have hb1 := A2T (ks.take i); have hb2 := A2T ks; have hlen0 := hlen; simp only [List.length_append, List.length_singleton, List.length_nil] at hlen)
 refine B0 ?_
 refine sB (N0 rfl rfl) rfl rfl (fun h201 => ?_) (fun h201 => ?_)
 refine A9 ?_
 refine C2 ?_
 refine A8 ?_
 (obtain ⟨b, o, e, rfl, hl, hat, hre, hgb⟩ := hsl.kidTm hkl (i := i) zZ zZ; have hone9 := hre.one; have hsc := A1n (ks := ks) (i := i) zZ; have hsk := A1m (ks := ks) (i := i) zZ; refine sP (B6 rfl rfl rfl zZ) rfl rfl ?_)
 refine sL (A5 rfl rfl (hat _) hl) rfl rfl ?_
 (have hih := ih ks[i] (List.getElem_mem zZ) _ Gi e pn cn es (Tm.smallL_mem hks _ (List.getElem_mem zZ)) (by simp only [List.length_append, List.length_singleton]; omega) hre hst; rw [hlen0] at hih; refine K9 rfl hih (Pk.perm zP) rfl rfl (fun v3 G3 outs hle3 hh => ?_); obtain ⟨p3, c3, e3, rfl, rfl, hr3⟩ := A0Q.openA hh hlen0)
 refine A9 ?_
 refine sP (J9 rfl rfl zZ zZ) rfl rfl ?_
 refine A4 ?_
 (refine J6 (i + 1, m + (I8 ks[i]).length, p3, c3, e3, G3) ?_ ?_ ?_)
 (simp only [I6]; exact F9)
 (dsimp only; exact ⟨by omega, hle.trans hle3, by rw [A0K zZ, ← List.append_assoc]; exact hr3, by rw [A0K zZ, ← List.append_assoc, List.length_append, hlen0]⟩)
 (show ks.length - (i + 1) < ks.length - i; omega)
 refine M8 ?_
 (obtain rfl : i = ks.length := zZ)
 refine tT ?_
 refine H6 (outs := [.slc pn cn 25 2 m es.flatten]) (rT rfl) (A0.cons zP A0.nil) ?_
 (rw [h14]; rw [List.take_length] at hst hlen; first | exact A0Q.mk (by simp only [List.length_append, List.length_singleton, List.length_nil]; omega) hst | (rw [← List.append_assoc]; exact A0Q.mk (by simp only [List.length_append, List.length_singleton, List.length_nil]; omega) hst))
def A0R (t : Tm) : List Ty := if N8 t = true then I8 t else []
theorem B04 (t : Tm) (G : IM) (cells : List Value) (hts : t.small) (hcnt : E1 t ≤ 4000000) (hr : B8 G t cells) : Fn Tryz.prog 57 [.agg ⟨cells⟩] [] G (A0Q (A0R t)) := by
 have hl := hr.len
 have hone := hr.one
 have hv := A4v t G cells zZ hr
 have hno : N8 t = false → A0R t = [] := fun h => by unfold A0R; rw [h]; rfl
 have hyes : N8 t = true → A0R t = I8 t := fun h => by unfold A0R; rw [h]; rfl
 refine C0 Tryz.func57 rfl Tryz.ntmps57 Tryz.results57 rfl ?_
 intro w0
 refine A4 ?_
 refine sE (B5 rfl rfl) rfl (fun b3 => ?_)
 refine A9 ?_
 refine sL (A5 rfl rfl (B7 zS) zW) rfl rfl ?_
 refine K3 rfl (hv) rfl rfl (fun h11 => ?_) (fun h11 => ?_)
 refine E4 ?_
 (refine J2 (D1 rfl rfl rfl zZ zU rfl) rfl ?_; rintro _ ⟨b20, rfl⟩)
 refine sL (A5 rfl rfl (B7 zS) zW) rfl rfl ?_
 (refine K9 rfl (B6U t [] G cells _ 0 [] hts (by simp; omega) hr (by simp [D8])) (Pk.perm zP) rfl rfl (fun v3 G3 outs hle3 hh => ?_); obtain ⟨p3, c3, e3, rfl, rfl, hr3⟩ := hh)
 refine B4 ?_
 refine H6 (outs := [.slc p3 c3 25 2 ([] ++ I8 t).length e3.flatten]) (rT rfl) (A0.cons zP A0.nil) ?_
 (rw [hyes zW]; exact ⟨p3, c3, e3, rfl, rfl, hr3⟩)
 refine A9 ?_
 (refine J2 (D1 rfl rfl rfl zZ zU rfl) rfl ?_; rintro _ ⟨b35, rfl⟩)
 refine A8 ?_
 refine H6 (rT rfl) (A0.cons Pk.here A0.nil) ?_
 (rw [hno zW]; exact ⟨_, _, [], rfl, rfl, by simp [D8]⟩)
def A31 (u : Tm) (n : Int) : IM → Value → List A7 → Prop := fun G' v outs => outs = [] ∧ ∃ cu, v = .tuple ⟨[.agg ⟨cu⟩, .int .i64 n]⟩ ∧ B8 G' u cu
theorem A31.mk {G' : IM} {k : Int} {nm : ByteArray} {num : Int} {ty fr : Ty} {lb : Int} {ks : List Tm} {tk fk : Int} {pt pf : Option Addr} {nt ct nf cf : Nat} {p : Option Addr} {m c : Nat} {es : List (List Value)} {a n : Int}
  (hk : H5 k) (hnum : H5 num) (hlb : H5 lb) (hty : C6 G' ty [.int .i64 tk, .slice pt nt ct]) (hfr : C6 G' fr [.int .i64 fk, .slice pf nf cf]) (hm : m = ks.length) (hs : Sl G' p m c 9 es.flatten) (hr : F8 G' ks es) (ha : a = n) :
  A31 (.mk k nm num ty fr lb ks) n G' (.tuple ⟨[.agg ⟨[.int .i64 k, .string nm, .int .i64 num, .int .i64 tk, .slice pt nt ct, .int .i64 fk, .slice pf nf cf, .int .i64 lb, .slice p m c]⟩, .int .i64 a]⟩) [] := by
 subst hm ha
 refine ⟨rfl, _, rfl, ?_⟩
 simp only [B8]
 exact ⟨_, _, p, c, es, rfl, hk, hnum, hlb, hty, hfr, D6.of hs hr.len hr.all (fun e he => by obtain ⟨j, hj⟩ := List.getElem?_of_mem he; exact (hr.inv hj K4).2.one), hr⟩
theorem B6V (L : List Ty) (p : Option Addr) (c : Nat) (hsmL : ∀ u ∈ L, u.small) : ∀ (t : Tm) (a : Nat) (G : IM) (cells : List Value) (el : List (List Value)), a + (I8 t).length ≤ L.length → L.length ≤ 4000000 → t.small → E1 t ≤ 4000000 → B8 G t cells → D6 G p L.length c 2 el → D8 G L el →
  Fn Tryz.prog 59 [.agg ⟨cells⟩, .slice p L.length c, .int .i64 (a : Int)] [] G (A31 (Q0 t (L.drop a)) ((a + (I8 t).length : Nat) : Int)) := by
 refine Tm.ind fun k nm num ty fr lb ks ih a G cells el hlen hLb hts hcnt hr hse hel => ?_
 have hone := hr.one
 have hlen9 := hr.len
 simp only [Tm.small] at hts
 obtain ⟨_, hty', hfr', hsm, hks⟩ := hts
 have hcy : k = 5 ∨ k = 13 → I8 (.mk k nm num ty fr lb ks) = [ty] ++ I4 ks := fun h => by rw [I8, if_pos h]
 have hcn : ¬ (k = 5 ∨ k = 13) → I8 (.mk k nm num ty fr lb ks) = I4 ks := fun h => by rw [I8, if_neg h, List.nil_append]
 have hwy : k = 5 ∨ k = 13 → Q0 (.mk k nm num ty fr lb ks) (L.drop a) = .mk k nm num ((L.drop a).getD 0 B3) fr lb (O6 ks (L.drop (a + 1))) := fun h => by rw [Q0, if_pos h, if_pos h, List.drop_drop]
 have hwn : ¬ (k = 5 ∨ k = 13) → Q0 (.mk k nm num ty fr lb ks) (L.drop a) = .mk k nm num ty fr lb (O6 ks (L.drop a)) := fun h => by rw [Q0, if_neg h, if_neg h]
 rw [E1] at hcnt
 obtain ⟨tk, tks⟩ := ty
 obtain ⟨fk, fks⟩ := fr
 obtain ⟨pt, ct, pf, cf, q, cq, ek, rfl, hk, hnum, hlb, hty, hfr, hsl, hkl⟩ := hr.open9
 have hn := hsl.le
 have hkn := A3L ks
 have hT := Y8 (.mk tk tks) G _ hty' hty
 refine C0 Tryz.func59 rfl Tryz.ntmps59 Tryz.results59 rfl ?_
 intro w0
 refine A4 ?_
 refine sE (B5 rfl rfl) rfl (fun b3 => ?_)
 refine sE (A6 rfl) rfl (fun b4 => ?_)
 refine A9 ?_
 refine sE (A6 rfl) rfl (fun b11 => ?_)
 refine B0 ?_
 (refine F4 rfl hT rfl rfl (fun v G1 hle1 hh => ?_); obtain ⟨cs1, F1, rfl, hs1, hn1⟩ := hh; have hr1 := hs1.R.mono (D9.le _ _); obtain ⟨p1, c1, rfl, _⟩ := hs1.open; have hF := Y8 (.mk fk fks) G1 _ hfr' (hfr.mono hle1))
 refine E4 ?_
 (refine F4 rfl hF rfl rfl (fun v G2 hle2 hh => ?_); obtain ⟨cs2, F2, rfl, hs2, hn2⟩ := hh; have hr2 := hs2.R.mono (D9.le _ _); obtain ⟨p2, c2, rfl, _⟩ := hs2.open; have hle12 := hle1.trans hle2; replace hsl := hsl.mono hle12; replace hkl := hkl.mono hle12; replace hse := hse.mono hle12; replace hel := hel.mono hle12)
 refine I5 ?_
 refine sB (qE rfl rfl) rfl rfl (fun h44 => ?_) (fun h44 => ?_)
 refine O3 ?_
 (have hL1 := hcy zZ; have h1 : a + (1 + (I4 ks).length) ≤ L.length := (by rw [hL1] at hlen; simp only [List.length_append, List.length_singleton] at hlen; omega); obtain ⟨b0, o0, p20, c20, rfl, hat0, hre0, hgb0⟩ := hse.kidTy hel (i := a) zZ zZ; obtain ⟨T0, hT0⟩ : ∃ T, T = L[a]'zZ := ⟨_, rfl⟩; have hs0 := hsmL _ (List.getElem_mem (show a < L.length by omega)); rw [← hT0] at hre0 hat0 hs0; have hO := Y8 T0 G2 _ hs0 hre0; refine sP (B6 rfl rfl rfl zZ) rfl rfl ?_)
 refine sL (A5 rfl rfl (hat0 _) rfl) rfl rfl ?_
 (refine F4 rfl hO rfl rfl (fun v G3 hle3 hh => ?_); obtain ⟨cs3, F3, rfl, hs3, hn3⟩ := hh; have hr3 := hs3.R.mono (D9.le _ _); obtain ⟨p3, c3, rfl, _⟩ := hs3.open)
 refine A9 ?_
 refine sP (J9 rfl rfl zZ zZ) rfl rfl ?_
 refine E8 ?_
 refine C2 ?_
 (have hL2 := hcy zZ; have hW2 := hwy zZ; refine W4 28 9 ?_; refine L4 (fun (x : Nat × Option Addr × Nat × List (List Value) × IM) => ⟨[(9, .int .i64 x.1), (2, .int .i64 ((a + 1 + (I4 (ks.take x.1)).length : Nat) : Int)), (1, .slice (some ⟨b0, o0, none⟩) L.length c), (3, .pointer (some ⟨b3, 0, none⟩)), (8, .pointer (some ⟨b11, 0, none⟩)), (6, .pointer (some ⟨b4, 0, none⟩))], [.blk b11 [.int .i64 k, .string nm, .int .i64 num, .int .i64 T0.k, .slice p3 T0.ks.length c3, .int .i64 fk, .slice p2 fks.length c2, .int .i64 lb, .slice x.2.1 x.1 x.2.2.1], .slc x.2.1 x.2.2.1 28 9 x.1 x.2.2.2.1.flatten, .blk b4 [.int .i64 0, .string ⟨⟨[]⟩⟩, .int .i64 0, .int .i64 0, .slice none 0 0, .int .i64 0, .slice none 0 0, .int .i64 0, .slice none 0 0], .blk b3 [.int .i64 k, .string nm, .int .i64 num, .int .i64 tk, .slice pt tks.length ct, .int .i64 fk, .slice pf fks.length cf, .int .i64 lb, .slice q ks.length cq]], x.2.2.2.2⟩) (fun x => x.1 ≤ ks.length ∧ B9 G3 x.2.2.2.2 ∧ F8 x.2.2.2.2 (O6 (ks.take x.1) (L.drop (a + 1))) x.2.2.2.1) (fun x => ks.length - x.1) (0, none, 0, [], G3) ?_ ?_ ?_)
 (simp only [I6]; exact F9)
 (exact ⟨Nat.zero_le _, B9.refl _, by simp [O6, F8]⟩)
 (rintro ⟨(i : Nat), pn, cn, es, Gi⟩ ⟨hi, hle, hst⟩; simp only [] at hi hle hst ⊢)
 refine B0 ?_
 refine sB (N0 rfl rfl) rfl rfl (fun h88 => ?_) (fun h88 => ?_)
 refine A9 ?_
 refine C2 ?_
 refine C1 ?_
 refine sE (A6 rfl) rfl (fun b99 => ?_)
 refine E4 ?_
 (obtain ⟨b, o, e, rfl, hl, hat, hre, hgb⟩ := (hsl.mono (by first | exact hle | exact hle3.trans hle)).kidTm (hkl.mono (by first | exact hle | exact hle3.trans hle)) (i := i) zZ zZ; have hone9 := hre.one; have hsc := A1n (ks := ks) (i := i) zZ; have hsk := A1m (ks := ks) (i := i) zZ; have hts1 := A4B (ks := ks) (i := i) zZ; have e9 : (I4 (ks.take (i + 1))).length = (I4 (ks.take i)).length + (I8 ks[i]).length := (by rw [A0K zZ, List.length_append]); refine sP (B6 rfl rfl rfl zZ) rfl rfl ?_)
 refine sL (A5 rfl rfl (hat _) hl) rfl rfl ?_
 refine A4 ?_
 (have hih := ih ks[i] (List.getElem_mem zZ) _ Gi e el (by rw [hL2] at hlen; (try simp only [List.length_append, List.length_singleton] at hlen); first | exact (show a + 1 + (I4 (ks.take i)).length + (I8 ks[i]).length ≤ L.length by omega) | exact (show a + (I4 (ks.take i)).length + (I8 ks[i]).length ≤ L.length by omega)) hLb (Tm.smallL_mem hks _ (List.getElem_mem zZ)) zZ hre (hse.mono (by first | exact hle | exact hle3.trans hle)) (hel.mono (by first | exact hle | exact hle3.trans hle)); refine A1l rfl hih rfl rfl (fun v G7 outs hle7 hh => ?_); obtain ⟨rfl, cu, rfl, hru⟩ := hh; rw [← List.drop_drop] at hru; have hsn := F8.snoc (hst.mono hle7) hru; obtain ⟨u1, u2, u3, u4, u5, u6, u7, u8, u9, rfl⟩ : ∃ u1 u2 u3 u4 u5 u6 u7 u8 u9, cu = [u1, u2, u3, u4, u5, u6, u7, u8, u9] := (by obtain ⟨_, _, _, _, _, _, _, _, _, rfl, _⟩ := hru.open; exact ⟨_, _, _, _, _, _, _, _, _, rfl⟩); have huo := hru.one)
 refine C1 ?_
 refine sS rfl rfl rfl rfl huo rfl ?_
 refine B0 ?_
 (refine J2 (D1 rfl rfl rfl zZ zU rfl) rfl ?_; rintro _ ⟨b124, rfl⟩)
 (refine X1 rfl rfl rfl rfl rfl (fun _ _ => by repeat (first | exact Sw.here | apply Sw.there)) (J7 zS) rfl (fun u hu => List.all_eq_true.1 huo u hu) zU zZ rfl (fun p4 c4 => ?_))
 refine B0 ?_
 refine sP (J9 rfl rfl zZ zZ) rfl rfl ?_
 refine A4 ?_
 (rw [← A4A zZ] at hsn; refine J6 (i + 1, p4, c4, es ++ [[u1, u2, u3, u4, u5, u6, u7, u8, u9]], G7) (by simp only [List.flatten_append, List.flatten_cons, List.flatten_nil, List.append_nil, e9, ← Nat.add_assoc]; exact (I1 zO zJ)) ?_ ?_)
 (dsimp only; exact ⟨by omega, hle.trans hle7, hsn⟩)
 (show ks.length - (i + 1) < ks.length - i; omega)
 refine N7 ?_
 (refine J0 (cs := es.flatten) zP (fun G9 hle9 hsl9 hno9 => ?_); obtain rfl : i = ks.length := zZ; rw [List.take_length] at hst)
 refine tT ?_
 refine H2 (rC rfl (A3 rfl rfl)) (rT rfl) ?_
 (rw [hW2, hL2]; exact A31.mk hk hnum hlb (by first | (rw [List.getD_eq_getElem?_getD, List.getElem?_drop, Nat.add_zero, List.getElem?_eq_getElem zZ, Option.getD_some, ← hT0]; exact hr3.mono (hle.trans hle9)) | exact hr1.mono (hle2.trans (hle.trans hle9))) (by first | exact hr2.mono (hle3.trans (hle.trans hle9)) | exact hr2.mono (hle.trans hle9)) (by rw [A2U]) hsl9 (hst.mono hle9) (by (simp only [List.take_length, List.length_append, List.length_singleton]) <;> omega))
 refine C1 ?_
 refine sB (qE rfl rfl) rfl rfl (fun h162 => ?_) (fun h162 => ?_)
 refine E4 ?_
 (have hL1 := hcy zZ; have h1 : a + (1 + (I4 ks).length) ≤ L.length := (by rw [hL1] at hlen; simp only [List.length_append, List.length_singleton] at hlen; omega); obtain ⟨b0, o0, p20, c20, rfl, hat0, hre0, hgb0⟩ := hse.kidTy hel (i := a) zZ zZ; obtain ⟨T0, hT0⟩ : ∃ T, T = L[a]'zZ := ⟨_, rfl⟩; have hs0 := hsmL _ (List.getElem_mem (show a < L.length by omega)); rw [← hT0] at hre0 hat0 hs0; have hO := Y8 T0 G2 _ hs0 hre0; refine sP (B6 rfl rfl rfl zZ) rfl rfl ?_)
 refine sL (A5 rfl rfl (hat0 _) rfl) rfl rfl ?_
 (refine F4 rfl hO rfl rfl (fun v G3 hle3 hh => ?_); obtain ⟨cs3, F3, rfl, hs3, hn3⟩ := hh; have hr3 := hs3.R.mono (D9.le _ _); obtain ⟨p3, c3, rfl, _⟩ := hs3.open)
 refine A9 ?_
 refine sP (J9 rfl rfl zZ zZ) rfl rfl ?_
 refine E8 ?_
 refine C2 ?_
 (have hL2 := hcy zZ; have hW2 := hwy zZ; refine W4 28 9 ?_; refine L4 (fun (x : Nat × Option Addr × Nat × List (List Value) × IM) => ⟨[(9, .int .i64 x.1), (2, .int .i64 ((a + 1 + (I4 (ks.take x.1)).length : Nat) : Int)), (1, .slice (some ⟨b0, o0, none⟩) L.length c), (3, .pointer (some ⟨b3, 0, none⟩)), (8, .pointer (some ⟨b11, 0, none⟩)), (6, .pointer (some ⟨b4, 0, none⟩))], [.blk b11 [.int .i64 k, .string nm, .int .i64 num, .int .i64 T0.k, .slice p3 T0.ks.length c3, .int .i64 fk, .slice p2 fks.length c2, .int .i64 lb, .slice x.2.1 x.1 x.2.2.1], .slc x.2.1 x.2.2.1 28 9 x.1 x.2.2.2.1.flatten, .blk b4 [.int .i64 0, .string ⟨⟨[]⟩⟩, .int .i64 0, .int .i64 0, .slice none 0 0, .int .i64 0, .slice none 0 0, .int .i64 0, .slice none 0 0], .blk b3 [.int .i64 k, .string nm, .int .i64 num, .int .i64 tk, .slice pt tks.length ct, .int .i64 fk, .slice pf fks.length cf, .int .i64 lb, .slice q ks.length cq]], x.2.2.2.2⟩) (fun x => x.1 ≤ ks.length ∧ B9 G3 x.2.2.2.2 ∧ F8 x.2.2.2.2 (O6 (ks.take x.1) (L.drop (a + 1))) x.2.2.2.1) (fun x => ks.length - x.1) (0, none, 0, [], G3) ?_ ?_ ?_)
 (simp only [I6]; exact F9)
 (exact ⟨Nat.zero_le _, B9.refl _, by simp [O6, F8]⟩)
 (rintro ⟨(i : Nat), pn, cn, es, Gi⟩ ⟨hi, hle, hst⟩; simp only [] at hi hle hst ⊢)
 refine B0 ?_
 refine sB (N0 rfl rfl) rfl rfl (fun h202 => ?_) (fun h202 => ?_)
 refine A9 ?_
 refine C2 ?_
 refine C1 ?_
 refine sE (A6 rfl) rfl (fun b213 => ?_)
 refine E4 ?_
 (obtain ⟨b, o, e, rfl, hl, hat, hre, hgb⟩ := (hsl.mono (by first | exact hle | exact hle3.trans hle)).kidTm (hkl.mono (by first | exact hle | exact hle3.trans hle)) (i := i) zZ zZ; have hone9 := hre.one; have hsc := A1n (ks := ks) (i := i) zZ; have hsk := A1m (ks := ks) (i := i) zZ; have hts1 := A4B (ks := ks) (i := i) zZ; have e9 : (I4 (ks.take (i + 1))).length = (I4 (ks.take i)).length + (I8 ks[i]).length := (by rw [A0K zZ, List.length_append]); refine sP (B6 rfl rfl rfl zZ) rfl rfl ?_)
 refine sL (A5 rfl rfl (hat _) hl) rfl rfl ?_
 refine A4 ?_
 (have hih := ih ks[i] (List.getElem_mem zZ) _ Gi e el (by rw [hL2] at hlen; (try simp only [List.length_append, List.length_singleton] at hlen); first | exact (show a + 1 + (I4 (ks.take i)).length + (I8 ks[i]).length ≤ L.length by omega) | exact (show a + (I4 (ks.take i)).length + (I8 ks[i]).length ≤ L.length by omega)) hLb (Tm.smallL_mem hks _ (List.getElem_mem zZ)) zZ hre (hse.mono (by first | exact hle | exact hle3.trans hle)) (hel.mono (by first | exact hle | exact hle3.trans hle)); refine A1l rfl hih rfl rfl (fun v G7 outs hle7 hh => ?_); obtain ⟨rfl, cu, rfl, hru⟩ := hh; rw [← List.drop_drop] at hru; have hsn := F8.snoc (hst.mono hle7) hru; obtain ⟨u1, u2, u3, u4, u5, u6, u7, u8, u9, rfl⟩ : ∃ u1 u2 u3 u4 u5 u6 u7 u8 u9, cu = [u1, u2, u3, u4, u5, u6, u7, u8, u9] := (by obtain ⟨_, _, _, _, _, _, _, _, _, rfl, _⟩ := hru.open; exact ⟨_, _, _, _, _, _, _, _, _, rfl⟩); have huo := hru.one)
 refine C1 ?_
 refine sS rfl rfl rfl rfl huo rfl ?_
 refine B0 ?_
 (refine J2 (D1 rfl rfl rfl zZ zU rfl) rfl ?_; rintro _ ⟨b238, rfl⟩)
 (refine X1 rfl rfl rfl rfl rfl (fun _ _ => by repeat (first | exact Sw.here | apply Sw.there)) (J7 zS) rfl (fun u hu => List.all_eq_true.1 huo u hu) zU zZ rfl (fun p4 c4 => ?_))
 refine B0 ?_
 refine sP (J9 rfl rfl zZ zZ) rfl rfl ?_
 refine A4 ?_
 (rw [← A4A zZ] at hsn; refine J6 (i + 1, p4, c4, es ++ [[u1, u2, u3, u4, u5, u6, u7, u8, u9]], G7) (by simp only [List.flatten_append, List.flatten_cons, List.flatten_nil, List.append_nil, e9, ← Nat.add_assoc]; exact (I1 zO zJ)) ?_ ?_)
 (dsimp only; exact ⟨by omega, hle.trans hle7, hsn⟩)
 (show ks.length - (i + 1) < ks.length - i; omega)
 refine N7 ?_
 (refine J0 (cs := es.flatten) zP (fun G9 hle9 hsl9 hno9 => ?_); obtain rfl : i = ks.length := zZ; rw [List.take_length] at hst)
 refine tT ?_
 refine H2 (rC rfl (A3 rfl rfl)) (rT rfl) ?_
 (rw [hW2, hL2]; exact A31.mk hk hnum hlb (by first | (rw [List.getD_eq_getElem?_getD, List.getElem?_drop, Nat.add_zero, List.getElem?_eq_getElem zZ, Option.getD_some, ← hT0]; exact hr3.mono (hle.trans hle9)) | exact hr1.mono (hle2.trans (hle.trans hle9))) (by first | exact hr2.mono (hle3.trans (hle.trans hle9)) | exact hr2.mono (hle.trans hle9)) (by rw [A2U]) hsl9 (hst.mono hle9) (by (simp only [List.take_length, List.length_append, List.length_singleton]) <;> omega))
 refine O3 ?_
 refine C2 ?_
 (have hL2 := hcn zZ; have hW2 := hwn zZ; refine W4 28 9 ?_; refine L4 (fun (x : Nat × Option Addr × Nat × List (List Value) × IM) => ⟨[(9, .int .i64 x.1), (2, .int .i64 ((a + (I4 (ks.take x.1)).length : Nat) : Int)), (1, .slice p L.length c), (3, .pointer (some ⟨b3, 0, none⟩)), (8, .pointer (some ⟨b11, 0, none⟩)), (6, .pointer (some ⟨b4, 0, none⟩))], [.blk b11 [.int .i64 k, .string nm, .int .i64 num, .int .i64 tk, .slice p1 tks.length c1, .int .i64 fk, .slice p2 fks.length c2, .int .i64 lb, .slice x.2.1 x.1 x.2.2.1], .slc x.2.1 x.2.2.1 28 9 x.1 x.2.2.2.1.flatten, .blk b4 [.int .i64 0, .string ⟨⟨[]⟩⟩, .int .i64 0, .int .i64 0, .slice none 0 0, .int .i64 0, .slice none 0 0, .int .i64 0, .slice none 0 0], .blk b3 [.int .i64 k, .string nm, .int .i64 num, .int .i64 tk, .slice pt tks.length ct, .int .i64 fk, .slice pf fks.length cf, .int .i64 lb, .slice q ks.length cq]], x.2.2.2.2⟩) (fun x => x.1 ≤ ks.length ∧ B9 G2 x.2.2.2.2 ∧ F8 x.2.2.2.2 (O6 (ks.take x.1) (L.drop a)) x.2.2.2.1) (fun x => ks.length - x.1) (0, none, 0, [], G2) ?_ ?_ ?_)
 (simp only [I6]; exact F9)
 (exact ⟨Nat.zero_le _, B9.refl _, by simp [O6, F8]⟩)
 (rintro ⟨(i : Nat), pn, cn, es, Gi⟩ ⟨hi, hle, hst⟩; simp only [] at hi hle hst ⊢)
 refine B0 ?_
 refine sB (N0 rfl rfl) rfl rfl (fun h297 => ?_) (fun h297 => ?_)
 refine A9 ?_
 refine C2 ?_
 refine C1 ?_
 refine sE (A6 rfl) rfl (fun b308 => ?_)
 refine E4 ?_
 (obtain ⟨b, o, e, rfl, hl, hat, hre, hgb⟩ := (hsl.mono (by first | exact hle | exact hle3.trans hle)).kidTm (hkl.mono (by first | exact hle | exact hle3.trans hle)) (i := i) zZ zZ; have hone9 := hre.one; have hsc := A1n (ks := ks) (i := i) zZ; have hsk := A1m (ks := ks) (i := i) zZ; have hts1 := A4B (ks := ks) (i := i) zZ; have e9 : (I4 (ks.take (i + 1))).length = (I4 (ks.take i)).length + (I8 ks[i]).length := (by rw [A0K zZ, List.length_append]); refine sP (B6 rfl rfl rfl zZ) rfl rfl ?_)
 refine sL (A5 rfl rfl (hat _) hl) rfl rfl ?_
 refine A4 ?_
 (have hih := ih ks[i] (List.getElem_mem zZ) _ Gi e el (by rw [hL2] at hlen; (try simp only [List.length_append, List.length_singleton] at hlen); first | exact (show a + 1 + (I4 (ks.take i)).length + (I8 ks[i]).length ≤ L.length by omega) | exact (show a + (I4 (ks.take i)).length + (I8 ks[i]).length ≤ L.length by omega)) hLb (Tm.smallL_mem hks _ (List.getElem_mem zZ)) zZ hre (hse.mono (by first | exact hle | exact hle3.trans hle)) (hel.mono (by first | exact hle | exact hle3.trans hle)); refine A1l rfl hih rfl rfl (fun v G7 outs hle7 hh => ?_); obtain ⟨rfl, cu, rfl, hru⟩ := hh; rw [← List.drop_drop] at hru; have hsn := F8.snoc (hst.mono hle7) hru; obtain ⟨u1, u2, u3, u4, u5, u6, u7, u8, u9, rfl⟩ : ∃ u1 u2 u3 u4 u5 u6 u7 u8 u9, cu = [u1, u2, u3, u4, u5, u6, u7, u8, u9] := (by obtain ⟨_, _, _, _, _, _, _, _, _, rfl, _⟩ := hru.open; exact ⟨_, _, _, _, _, _, _, _, _, rfl⟩); have huo := hru.one)
 refine C1 ?_
 refine sS rfl rfl rfl rfl huo rfl ?_
 refine B0 ?_
 (refine J2 (D1 rfl rfl rfl zZ zU rfl) rfl ?_; rintro _ ⟨b333, rfl⟩)
 (refine X1 rfl rfl rfl rfl rfl (fun _ _ => by repeat (first | exact Sw.here | apply Sw.there)) (J7 zS) rfl (fun u hu => List.all_eq_true.1 huo u hu) zU zZ rfl (fun p4 c4 => ?_))
 refine B0 ?_
 refine sP (J9 rfl rfl zZ zZ) rfl rfl ?_
 refine A4 ?_
 (rw [← A4A zZ] at hsn; refine J6 (i + 1, p4, c4, es ++ [[u1, u2, u3, u4, u5, u6, u7, u8, u9]], G7) (by simp only [List.flatten_append, List.flatten_cons, List.flatten_nil, List.append_nil, e9, ← Nat.add_assoc]; exact (I1 zO zJ)) ?_ ?_)
 (dsimp only; exact ⟨by omega, hle.trans hle7, hsn⟩)
 (show ks.length - (i + 1) < ks.length - i; omega)
 refine N7 ?_
 (refine J0 (cs := es.flatten) zP (fun G9 hle9 hsl9 hno9 => ?_); obtain rfl : i = ks.length := zZ; rw [List.take_length] at hst)
 refine tT ?_
 refine H2 (rC rfl (A3 rfl rfl)) (rT rfl) ?_
 (rw [hW2, hL2]; exact A31.mk hk hnum hlb (by first | (rw [List.getD_eq_getElem?_getD, List.getElem?_drop, Nat.add_zero, List.getElem?_eq_getElem zZ, Option.getD_some, ← hT0]; exact hr3.mono (hle.trans hle9)) | exact hr1.mono (hle2.trans (hle.trans hle9))) (by first | exact hr2.mono (hle3.trans (hle.trans hle9)) | exact hr2.mono (hle.trans hle9)) (by rw [A2U]) hsl9 (hst.mono hle9) (by (simp only [List.take_length, List.length_append, List.length_singleton]) <;> omega))
def A1U (t : Tm) (L : List Ty) : Option Tm := if N8 t = true ∧ (A0R t).length = L.length ∧ ∀ u ∈ L, H7 u = true then some (Q0 t L) else none
theorem B05 {t : Tm} {L : List Ty} (h : N8 t = true) (hl : (A0R t).length = L.length) (ha : ∀ j, j < L.length → (h : j < L.length) → H7 L[j] = true) : A1U t L = some (Q0 t L) := by
 unfold A1U
 rw [if_pos ⟨h, hl, fun u hu => by obtain ⟨i, hi, rfl⟩ := List.mem_iff_getElem.1 hu; exact ha i hi hi⟩]
theorem B6W {t : Tm} {L : List Ty} (h : ¬(N8 t = true ∧ (A0R t).length = L.length ∧ ∀ u ∈ L, H7 u = true)) : A1U t L = none := by
 unfold A1U; rw [if_neg h]
def TmB (o : Option Tm) : IM → Value → List A7 → Prop := M5 fun G' v => ∃ cu, v = .tuple ⟨[.agg ⟨cu⟩, .bool o.isSome]⟩ ∧ B8 G' (o.getD K4) cu
theorem B06 {t : Tm} (h : N8 t = true) : A0R t = I8 t := by unfold A0R; rw [if_pos h]
theorem B07 (t : Tm) (L : List Ty) (G : IM) (cells : List Value) (p : Option Addr) (c : Nat) (es : List (List Value)) (hts : t.small) (hcnt : E1 t ≤ 4000000) (hLb : L.length ≤ 4000000) (hsm : ∀ u ∈ L, u.small) (hr : B8 G t cells) (hse : D6 G p L.length c 2 es) (hel : D8 G L es) :
  Fn Tryz.prog 24 [.agg ⟨cells⟩, .slice p L.length c] [] G (TmB (A1U t L)) := by
 have hl := hr.len
 have hone := hr.one
 have hyes := @B05 t L
 have hno := @B6W t L
 have htv := @B06 t
 have hT := B04 t G cells hts hcnt hr
 generalize A1U t L = R at hyes hno ⊢
 obtain ⟨TT, hTT⟩ : ∃ TT, A0R t = TT := ⟨_, rfl⟩
 rw [hTT] at hyes hno htv hT
 refine C0 Tryz.func24 rfl Tryz.ntmps24 Tryz.results24 rfl ?_
 intro w0
 refine A4 ?_
 refine sE (B5 rfl rfl) rfl (fun b3 => ?_)
 refine sE (A6 rfl) rfl (fun b4 => ?_)
 refine A9 ?_
 refine sL (A5 rfl rfl (B7 zS) hl) rfl rfl ?_
 (refine A1l rfl hT rfl rfl (fun v G1 outs hle1 hh => ?_); obtain ⟨p1, c1, e1, rfl, rfl, hr1⟩ := hh; replace hr := hr.mono hle1; replace hse := hse.mono hle1; replace hel := hel.mono hle1; have hv := A4v t G1 cells zZ hr)
 refine C1 ?_
 refine sB (V0 rfl rfl) rfl rfl (fun h16 => ?_) (fun h16 => ?_)
 refine U7 ?_
 refine H2 (rC rfl (A3 rfl rfl)) (rT rfl) ?_
 (rw [hno (fun hc => by first | omega | exact Bool.noConfusion (hc.1.symm.trans (show N8 t = false by assumption)) | exact Bool.noConfusion ((hc.2.2 _ (List.getElem_mem (show i < L.length by omega))).symm.trans zW))]; exact ⟨rfl, _, rfl, (P3.zero _).R⟩)
 refine E0 ?_
 refine sL (A5 rfl rfl (B7 zS) hl) rfl rfl ?_
 refine K3 rfl (hv) rfl rfl (fun h38 => ?_) (fun h38 => ?_)
 refine O5 ?_
 refine C2 ?_
 (refine L4 (fun (x : Nat) => ⟨[(6, .int .i64 x), (1, .slice p L.length c), (2, .pointer (some ⟨b3, 0, none⟩)), (4, .pointer (some ⟨b4, 0, none⟩))], [.blk b4 [.int .i64 0, .string ⟨⟨[]⟩⟩, .int .i64 0, .int .i64 0, .slice none 0 0, .int .i64 0, .slice none 0 0, .int .i64 0, .slice none 0 0], .blk b3 cells], G1⟩) (fun x => x ≤ L.length ∧ ∀ j, j < x → (h : j < L.length) → H7 L[j] = true) (fun x => L.length - x) 0 ?_ ?_ ?_)
 exact F9
 (exact ⟨Nat.zero_le _, fun j hj => absurd hj zZ⟩)
 (rintro (i : Nat) ⟨hi, hval⟩)
 refine A9 ?_
 refine sB (N0 rfl rfl) rfl rfl (fun h63 => ?_) (fun h63 => ?_)
 refine A9 ?_
 refine C2 ?_
 refine B4 ?_
 (obtain ⟨b0, o0, p20, c20, rfl, hat0, hre0, hgb0⟩ := hse.kidTy hel (i := i) zZ zZ; have hV := A3i _ G1 _ hre0; refine sP (B6 rfl rfl rfl zZ) rfl rfl ?_)
 refine sL (A5 rfl rfl (hat0 _) rfl) rfl rfl ?_
 refine K3 rfl (hV) rfl rfl (fun h77 => ?_) (fun h77 => ?_)
 refine E8 ?_
 refine sP (J9 rfl rfl zZ zZ) rfl rfl ?_
 refine A4 ?_
 refine J6 (i + 1) ?_ ?_ ?_
 exact F9
 (exact ⟨by omega, fun j hj hl => by rcases Nat.lt_succ_iff_lt_or_eq.1 hj with h | h; exact hval j h hl; subst h; assumption⟩)
 (show L.length - (i + 1) < L.length - i; omega)
 refine U7 ?_
 refine H2 (rC rfl (A3 rfl rfl)) (rT rfl) ?_
 (rw [hno (fun hc => by first | omega | exact Bool.noConfusion (hc.1.symm.trans (show N8 t = false by assumption)) | exact Bool.noConfusion ((hc.2.2 _ (List.getElem_mem (show i < L.length by omega))).symm.trans zW))]; exact ⟨rfl, _, rfl, (P3.zero _).R⟩)
 refine J4 ?_
 refine sL (A5 rfl rfl (B7 zS) hl) rfl rfl ?_
 refine E0 ?_
 (have hTv := htv zW; refine A1l rfl (B6V L p c hsm t 0 G1 cells es (by rw [← hTv]; omega) hLb hts hcnt hr hse hel) rfl rfl (fun v G3 outs hle3 hh => ?_); obtain ⟨rfl, cu, rfl, hru⟩ := hh; rw [List.drop_zero] at hru; have hul := hru.len; have huo := hru.one)
 refine C1 ?_
 refine sE (A6 rfl) rfl (fun b129 => ?_)
 refine sS rfl rfl rfl hul huo rfl ?_ (hu := by exact C7 hul.symm)
 refine A8 ?_
 refine sL (A5 rfl rfl (B7 zS) hul) rfl rfl ?_
 refine sS rfl rfl rfl hul huo rfl ?_ (hu := by exact C7 hul.symm)
 refine B4 ?_
 refine H2 (rC rfl (A5 rfl rfl (B7 zS) hul)) (rT rfl) ?_
 (rw [hyes zW zZ (fun j hj => hval j zZ)]; exact ⟨rfl, _, rfl, hru⟩)
 refine M8 ?_
 refine H2 (rC rfl (A3 rfl rfl)) (rT rfl) ?_
 (rw [hno (fun hc => by first | omega | exact Bool.noConfusion (hc.1.symm.trans (show N8 t = false by assumption)) | exact Bool.noConfusion ((hc.2.2 _ (List.getElem_mem (show i < L.length by omega))).symm.trans zW))]; exact ⟨rfl, _, rfl, (P3.zero _).R⟩)
theorem A5Y {e : Tm} (h : (W2 e).isSome = true) : N8 e = true := by
 unfold W2 Z6 at h
 split at h
 ·rename_i u t hx
  split at hx
  ·assumption
  ·cases hx
 ·cases h
mutual
theorem B08 : ∀ (t : Tm) (d : Int), P4 12 14 t d = true → t.small
 | .mk k nm num ty fr lb ks, d, h => by
  obtain ⟨_, h2, h3, h4⟩ := A0O h
  obtain ⟨n1, n2, n3, n4, n5, n6, n7, n8, n9⟩ := X7.1 h3
  rw [Tm.small]
  refine ⟨by have := A9y h3; omega, (A5A h3).1.small, by rw [A2A (n9 h2).1]; exact A9B, ?_, B09 ks _ h4⟩
  have := A3m k; omega
theorem B09 : ∀ (ts : List Tm) (d : Int), O0 12 14 ts d = true → Tm.smallL ts
 | [], _, _ => by rw [Tm.smallL]; trivial
 | t :: ts, d, h => by
  rw [O0, Bool.and_eq_true] at h
  rw [Tm.smallL]
  exact ⟨B08 t d h.1, B09 ts d h.2⟩
end
theorem A2m {e : Tm} (h : N8 e = true) : e.fit 30 := by
 obtain ⟨h1, h2⟩ := (U1 e).1 h
 exact ⟨B08 e 1 h1, h2⟩
mutual
theorem A7J : ∀ (t : Tm) (d : Int), P4 12 14 t d = true → ∀ u ∈ I8 t, H7 u = true
 | .mk k nm num ty fr lb ks, d, h => by
  obtain ⟨_, h2, h3, h4⟩ := A0O h
  obtain ⟨n1, n2, n3, n4, n5, n6, n7, n8, n9⟩ := X7.1 h3
  intro u hu
  rw [I8, List.mem_append] at hu
  rcases hu with hu | hu
  ·split at hu
   ·rename_i hk
    obtain rfl := List.mem_singleton.1 hu
    exact n6 zZ
   ·simp at hu
  ·exact B1a ks _ h4 u hu
theorem B1a : ∀ (ts : List Tm) (d : Int), O0 12 14 ts d = true → ∀ u ∈ I4 ts, H7 u = true
 | [], _, _ => by simp [I4]
 | t :: ts, d, h => by
  rw [O0, Bool.and_eq_true] at h
  intro u hu
  rw [I4, List.mem_append] at hu
  rcases hu with hu | hu
  ·exact A7J t d h.1 u hu
  ·exact B1a ts d h.2 u hu
end
theorem B6X (e : Tm) : (A0R e).length ≤ 30 ∧ ∀ u ∈ A0R e, H7 u = true := by
 unfold A0R
 split
 ·rename_i h
  obtain ⟨h1, h2⟩ := (U1 e).1 h
  exact ⟨by have := A67 e; omega, A7J e 1 h1⟩
 ·simp
mutual
theorem A5Z : ∀ (t : Tm) (l : List Ty), t.small → (∀ u ∈ l, u.small) → (Q0 t l).small ∧ E1 (Q0 t l) = E1 t
 | .mk k nm num ty fr lb ks, l, h, hl => by
  obtain ⟨h1, h2, h3, h4, h5⟩ := A4z.1 h
  rw [Q0]
  have hd : ∀ u ∈ (if k = 5 ∨ k = 13 then l.drop 1 else l), u.small := by
   intro u hu
   split at hu
   ·exact hl u (List.mem_of_mem_drop hu)
   ·exact hl u hu
  obtain ⟨g1, g2⟩ := B1b ks _ h5 hd
  refine ⟨A4z.2 ⟨h1, ?_, h3, by rw [A2U]; exact h4, g1⟩, by rw [A2S, A2S, g2]⟩
  split
  ·rw [List.getD_eq_getElem?_getD]
   cases hx : l[0]? with
   | none => exact A9B
   | some t => exact hl t (List.mem_of_getElem? hx)
  ·exact h2
theorem B1b : ∀ (ts : List Tm) (l : List Ty), Tm.smallL ts → (∀ u ∈ l, u.small) → Tm.smallL (O6 ts l) ∧ H3 (O6 ts l) = H3 ts
 | [], l, _, _ => by simp [O6, Tm.smallL, H3]
 | t :: ts, l, h, hl => by
  simp only [Tm.smallL] at h
  obtain ⟨a1, a2⟩ := A5Z t l h.1 hl
  obtain ⟨b1, b2⟩ := B1b ts (l.drop (I8 t).length) h.2 (fun u hu => hl u (List.mem_of_mem_drop hu))
  simp only [O6, Tm.smallL, H3, a2, b2]
  exact ⟨⟨a1, b1⟩, trivial⟩
end
theorem B6Y {t : Tm} {l : List Ty} {N : Nat} (h : t.fit N) (hl : ∀ u ∈ l, u.small) : ((A1U t l).getD K4).fit N := by
 unfold A1U
 split
 ·obtain ⟨h1, h2⟩ := A5Z t l h.1 hl
  exact ⟨h1, by rw [Option.getD_some, h2]; exact h.2⟩
 ·refine ⟨B4d, ?_⟩
  have h2 := h.2
  have : 1 ≤ E1 t := by cases t; rw [A2S]; omega
  show E1 K4 ≤ N
  rw [B4l]; omega
theorem B6Z {es : List (List Value)} {i sz : Nat} (hi : i < es.length) (ha : ∀ e ∈ es, e.length = sz) : ∀ j v, es[i][j]? = some v → es.flatten[0 + i * sz + j]? = some v := by
 intro j v hj
 have h1 : es.flatten = (es.take i).flatten ++ (es[i] ++ (es.drop (i + 1)).flatten) := by
  conv => lhs; rw [← List.take_append_drop i es, List.drop_eq_getElem_cons hi]
  rw [List.flatten_append, List.flatten_cons]
 have hA : ((es.take i).flatten).length = 0 + i * sz := by rw [A1L (fun e he => ha e (List.mem_of_mem_take he)), List.length_take, Nat.min_eq_left zZ]; omega
 have hjl : j < es[i].length := by
  apply Classical.byContradiction
  intro hn
  rw [List.getElem?_eq_none zZ] at hj
  cases hj
 rw [h1, List.getElem?_append_right zZ, hA, show 0 + i * sz + j - (0 + i * sz) = j by omega, List.getElem?_append_left hjl, hj]
mutual
theorem A50 : ∀ a : Ty, A2g a a = true
 | .mk k ks => by rw [A1T, B1c ks]; simp
theorem B1c : ∀ xs : List Ty, A04 xs xs = true
 | [] => rfl
 | a :: xs => by rw [A04, A50 a, B1c xs]; rfl
end
theorem B60 (a : Ty) : A2g a (.mk 1 []) = true := by obtain ⟨k, ks⟩ := a; rw [A1T]; simp
def PLe (l l' : List Ty) : Prop := ∀ i, A2g (l.getD i B3) (l'.getD i B3) = true
theorem PLe.drop {l l' : List Ty} (h : PLe l l') (n : Nat) : PLe (l.drop n) (l'.drop n) := by
 intro i
 have := h (n + i)
 simpa [List.getD_eq_getElem?_getD, List.getElem?_drop] using this
mutual
theorem B1d : ∀ (t : Tm) (l l' : List Ty), PLe l l' → A3t (Q0 t l) (Q0 t l') = true
 | .mk k nm num ty fr lb ks, l, l', h => by
  rw [Q0, Q0, B0b]
  refine ⟨rfl, rfl, rfl, fun hk => ?_, ?_⟩
  ·rw [if_pos hk, if_pos hk]; exact h 0
  ·split
   ·exact A7K ks _ _ (h.drop 1)
   ·exact A7K ks _ _ h
theorem A7K : ∀ (ts : List Tm) (l l' : List Ty), PLe l l' → A2Y (O6 ts l) (O6 ts l') = true
 | [], _, _, _ => by rw [O6, O6]; rfl
 | t :: ts, l, l', h => by
  rw [O6, O6, A2Y, B1d t l l' h, A7K ts _ _ (h.drop _)]; rfl
end
theorem A51 (m : Nat) : ∀ (L : List Ty) (j i : Nat), (A0B m j L).getD i B3 = if i < L.length then (if (m / 2 ^ (j + i)) % 2 = 1 then .mk 1 [] else L.getD i B3) else B3
 | [], j, i => by simp [A0B]
 | t :: ts, j, 0 => by simp [A0B]
 | t :: ts, j, i + 1 => by
  rw [A0B, List.getD_cons_succ, A51 m ts (j + 1) i, List.getD_cons_succ, show j + 1 + i = j + (i + 1) by omega]
  simp
theorem B61 {m m' : Nat} (L : List Ty) (h : ∀ i, (m / 2 ^ i) % 2 = 1 → (m' / 2 ^ i) % 2 = 1) : PLe (A0B m 0 L) (A0B m' 0 L) := by
 intro i
 rw [A51, A51]
 by_cases hi : i < L.length
 ·rw [if_pos hi, if_pos hi, Nat.zero_add]
  by_cases h1 : (m / 2 ^ i) % 2 = 1
  ·rw [if_pos h1, if_pos (h i h1)]; exact A50 _
  ·rw [if_neg h1]
   split
   ·exact B60 _
   ·exact A50 _
 ·rw [if_neg hi, if_neg hi]; exact A50 _
mutual
theorem A7L : ∀ (t : Tm) (l : List Ty) (d : Int), P4 12 14 t d = true → (I8 t).length ≤ l.length → (∀ u ∈ l, H7 u = true) → P4 12 14 (Q0 t l) d = true
 | .mk k nm num ty fr lb ks, l, d, h, hl, hv => by
  obtain ⟨h1, h2, h3, h4⟩ := A0O h
  obtain ⟨n1, n2, n3, n4, n5, n6, n7, n8, n9⟩ := X7.1 h3
  rw [I8, List.length_append] at hl
  rw [Q0, A2O h1 h2]
  ·refine B1e ks _ _ h4 ?_ ?_
   ·split
    ·rename_i hk
     rw [if_pos hk] at hl
     simp only [List.length_singleton] at hl
     rw [List.length_drop]; omega
    ·rename_i hk
     rw [if_neg hk] at hl
     simpa using hl
   ·intro u hu
    split at hu
    ·exact hv u (List.mem_of_mem_drop hu)
    ·exact hv u hu
  ·rw [A2U]
   by_cases hk : k = 5 ∨ k = 13
   ·rw [if_pos hk] at hl ⊢
    simp only [List.length_singleton] at hl
    refine X7.2 ⟨n1, n2, n3, n4, n5, fun _ => ?_, fun hn => absurd hk zZ, fun h14 => absurd h14 h2, n9⟩
    rw [List.getD_eq_getElem?_getD, List.getElem?_eq_getElem zZ, Option.getD_some]
    exact hv _ (List.getElem_mem _)
   ·rw [if_neg hk]; exact h3
theorem B1e : ∀ (ts : List Tm) (l : List Ty) (d : Int), O0 12 14 ts d = true → (I4 ts).length ≤ l.length → (∀ u ∈ l, H7 u = true) → O0 12 14 (O6 ts l) d = true
 | [], _, _, _, _, _ => by rw [O6]; rfl
 | t :: ts, l, d, h, hl, hv => by
  rw [O0, Bool.and_eq_true] at h
  rw [I4, List.length_append] at hl
  rw [O6, O0, A7L t l d h.1 zZ hv, B1e ts _ d h.2 (by rw [List.length_drop]; omega) (fun u hu => hv u (List.mem_of_mem_drop hu))]; rfl
end
theorem B1f {e : Tm} (h : N8 e = true) (m : Nat) : ∀ u ∈ A0B m 0 (I8 e), H7 u = true := by
 intro u hu
 rcases A9E m (I8 e) 0 u hu with h1 | h1
 ·rw [h1]; decide
 ·exact A7J e 1 ((U1 e).1 h).1 u h1
theorem B1g {e : Tm} (h : N8 e = true) (m : Nat) : N8 (A1S e m) = true := by
 obtain ⟨h1, h2⟩ := (U1 e).1 h
 have hf := (A5Z e (A0B m 0 (I8 e)) (A2m h).1 (fun u hu => (A2a (B1f h m u hu)).1.small)).2
 refine (U1 _).2 ⟨?_, ?_⟩
 ·unfold A1S
  exact A7L e _ 1 h1 (by rw [A9D]; omega) (B1f h m)
 ·unfold A1S; omega
theorem B62 {e : Tm} {m m' : Nat} (h : N8 e = true) (hb : ∀ i, (m / 2 ^ i) % 2 = 1 → (m' / 2 ^ i) % 2 = 1) : A3u (A1S e m) (A1S e m') = true := by
 unfold A3u
 rw [B1g h m, B1g h m']
 unfold A1S
 rw [B1d e _ _ (B61 _ hb)]; rfl
mutual
theorem B1h : ∀ (t : Tm) (l : List Ty), Q0 t (I8 t ++ l) = t
 | .mk k nm num ty fr lb ks, l => by
  rw [Q0, I8]
  by_cases hk : k = 5 ∨ k = 13
  ·rw [if_pos hk, if_pos hk, if_pos hk]
   simp only [List.cons_append, List.nil_append, List.getD_cons_zero, List.drop_succ_cons, List.drop_zero]
   rw [A7M ks l]
  ·rw [if_neg hk, if_neg hk, if_neg hk, List.nil_append, A7M ks l]
theorem A7M : ∀ (ts : List Tm) (l : List Ty), O6 ts (I4 ts ++ l) = ts
 | [], _ => by rw [O6]
 | t :: ts, l => by
  rw [I4, O6, List.append_assoc, B1h t]
  rw [List.drop_left, A7M ts l]
end
theorem B1i : ∀ (L : List Ty) (j : Nat), A0B 0 j L = L
 | [], _ => rfl
 | t :: ts, j => by rw [A0B, B1i ts]; simp
theorem B63 (e : Tm) : A1S e 0 = e := by
 unfold A1S
 rw [B1i]
 have := B1h e []
 rwa [List.append_nil] at this
theorem B64 (m i : Nat) : (m / 2 ^ i) % 2 = 1 ↔ m.testBit i = true := by
 rw [Nat.testBit_eq_decide_div_mod_eq, decide_eq_true_eq]
section masks
variable {P : Program} {Γ : M9} {env : O2} {hp : List A7} {G : IM} {ty : TypeId}
end masks
mutual
def wtT : Ty → Nat
 | .mk k ks => if k = 1 then 0 else wtL ks + 1
def wtL : List Ty → Nat
 | [] => 0
 | t :: ts => wtT t + wtL ts
end
def B65 (e : Tm) (i : Nat) : List Tm := (A7a 4 ((I8 e).getD i B3)).map fun x => Q0 e ((I8 e).set i x)
def B66 (e : Tm) (n : Nat) : List Tm := (List.range n).flatMap (B65 e)
def A7N (e : Tm) : Bool := (W2 e).isSome
def B67 (e : Tm) : Option Tm := (B66 e (I8 e).length).find? A7N
mutual
theorem B1j : ∀ (t : Tm) (l m : List Ty), l.length = (I8 t).length → I8 (Q0 t (l ++ m)) = l
 | .mk k nm num ty fr lb ks, l, m, h => by
  rw [I8] at h
  rw [Q0, I8]
  by_cases hk : k = 5 ∨ k = 13
  ·rw [if_pos hk] at h
   rw [if_pos hk, if_pos hk, if_pos hk]
   obtain ⟨x, xs, rfl⟩ : ∃ x xs, l = x :: xs := by
    cases l with
    | nil => simp at h
    | cons x xs => exact ⟨x, xs, rfl⟩
   simp only [List.cons_append, List.nil_append, List.getD_cons_zero, List.drop_succ_cons, List.drop_zero, List.length_cons] at h ⊢
   rw [A7O ks xs m zZ]
  ·rw [if_neg hk] at h
   rw [if_neg hk, if_neg hk, List.nil_append]
   exact A7O ks l m (by simpa using h)
theorem A7O : ∀ (ts : List Tm) (l m : List Ty), l.length = (I4 ts).length → I4 (O6 ts (l ++ m)) = l
 | [], l, m, h => by
  rw [I4] at h
  rw [O6, I4, List.length_eq_zero_iff.1 h]
 | t :: ts, l, m, h => by
  rw [I4, List.length_append] at h
  have e : l = l.take (I8 t).length ++ l.drop (I8 t).length := (List.take_append_drop _ _).symm
  have hl : (l.take (I8 t).length).length = (I8 t).length := by rw [List.length_take]; omega
  rw [O6, I4]
  rw [e, List.append_assoc, B1j t _ _ hl]
  rw [List.drop_append_of_le_length zZ, List.drop_of_length_le zZ, List.nil_append, A7O ts _ m (by rw [List.length_drop]; omega)]
end
theorem B68 {t : Tm} {l : List Ty} (h : l.length = (I8 t).length) : I8 (Q0 t l) = l := by
 have := B1j t l [] h
 rwa [List.append_nil] at this
theorem B69 {e : Tm} (h : N8 e = true) {l : List Ty} (hl : l.length = (I8 e).length) (hv : ∀ u ∈ l, H7 u = true) : N8 (Q0 e l) = true := by
 obtain ⟨h1, h2⟩ := (U1 e).1 h
 have hf := (A5Z e l (A2m h).1 (fun u hu => (A2a (hv u hu)).1.small)).2
 exact (U1 _).2 ⟨A7L e _ 1 h1 zZ hv, by omega⟩
def B1k : Nat → Tm → Tm
 | 0, e => e
 | n + 1, e => match B67 e with
  | none => e
  | some x => B1k n x
def wtB (e : Tm) : Nat := 32 * (I8 e).length + 1 - wtL (I8 e)
def B7a (e : Tm) : Tm := B1k (wtB e) e
def B8y (e : Tm) : Option Tm := if A7N e = true then some (B7a e) else none
theorem B1l : ∀ (n k : Nat) (e : Tm), (L9 n e).2.1 ≠ 5 → (L9 (n + k) e).1 = (L9 n e).1 ∧ (L9 (n + k) e).2.1 = (L9 n e).2.1 ∧ (L9 (n + k) e).2.2.1 = (L9 n e).2.2.1
 | 0, k, e, h => by
  rw [L9] at h
  by_cases hs : (I3 e).2.1 = 1
  ·rw [if_pos hs] at h; exact absurd rfl h
  ·cases k with
   | zero => exact ⟨rfl, rfl, rfl⟩
   | succ k =>
    rw [Nat.zero_add, L9, L9, if_neg hs, if_neg hs]
    exact ⟨rfl, rfl, rfl⟩
 | n + 1, k, e, h => by
  rw [show n + 1 + k = (n + k) + 1 from by omega]
  rw [L9] at h
  rw [L9, L9]
  by_cases hs : (I3 e).2.1 = 1
  ·rw [if_pos hs] at h
   rw [if_pos hs, if_pos hs]
   exact B1l n k _ h
  ·rw [if_neg hs, if_neg hs]
   exact ⟨rfl, rfl, rfl⟩
theorem B7b {e : Tm} {f g : Int} (hf : 0 ≤ f) (hfg : f ≤ g) (hg : g ≤ 300) (h0 : (T6 e f).2.1 = 0) : T6 e g = T6 e f := by
 cases hu : Z6 e with
 | none => rw [A7E hu] at h0; cases h0
 | some p =>
  obtain ⟨u, t⟩ := p
  by_cases he : (U3 u f).2.1 = 0
  ·have h1 : (U3 u g).1 = (U3 u f).1 ∧ (U3 u g).2.1 = (U3 u f).2.1 := by
    unfold U3 at he ⊢
    rw [if_pos ⟨hf, by omega⟩] at he
    rw [if_pos (⟨by omega, hg⟩ : 0 ≤ g ∧ g ≤ 300), if_pos (⟨hf, by omega⟩ : 0 ≤ f ∧ f ≤ 300)]
    have he' : (L9 f.toNat u).2.1 = 0 := he
    obtain ⟨g1, g2, _⟩ := B1l f.toNat (g.toNat - f.toNat) u zZ
    rw [show f.toNat + (g.toNat - f.toNat) = g.toNat from by omega] at g1 g2
    exact ⟨g1, g2⟩
   rw [A4M hu he, A4M hu (by rw [h1.2]; exact he), h1.1]
  ·rw [A4N hu he] at h0; exact absurd h0 he
mutual
def A52 : Ty → Int
 | .mk k ks => if k = 1 then 1 else A4S ks
def A4S : List Ty → Int
 | [] => 0
 | t :: ts => A52 t + A4S ts
end
def tSt (t : Ty) : Bool := decide (A52 t = 0)
def B1m (e : Tm) : Bool := N8 e && (I8 e).all tSt
def GE.er : GE → GE
 | .var x => .var x
 | .num n => .num n
 | .tru b => .tru b
 | .lam x _ e => .lam x .any e.er
 | .app f a => .app f.er a.er
 | .ar s a b => .ar s a.er b.er
 | .ite c a b => .ite c.er a.er b.er
 | .pair a b => .pair a.er b.er
 | .part s e => .part s e.er
 | .cast _ _ _ e => e.er
def GE.nt : GE → Prop
 | .var _ => True
 | .num _ => True
 | .tru _ => True
 | .lam _ A e => A = .any ∧ e.nt
 | .app f a => f.nt ∧ a.nt
 | .ar _ a b => a.nt ∧ b.nt
 | .ite c a b => c.nt ∧ a.nt ∧ b.nt
 | .pair a b => a.nt ∧ b.nt
 | .part _ e => e.nt
 | .cast _ _ _ _ => False
inductive Sn : Nat → GE → GE → Prop
 | refl {e} : Sn 0 e e
 | step {n a b c} : GS a b → Sn n b c → Sn (n + 1) a c
def B7c (k : Int) : Int := if k = 6 then 1 else if k = 7 ∨ k = 8 then 2 else if k = 9 then 3 else if k = 11 ∨ k = 12 then 4 else 5
def B7d (k : Int) (ks : List Tm) : Stp := match A0e k ks with
 | some u => (u, 1, 0)
 | none => (K4, 2, B7c k)
mutual
def A23 : Tm → Stp
 | .mk k nm num ty fr lb ks => match B1n (if k = 9 then 1 else ks.length) ks with
  | some (ks', c, l) => if c = 1 then (.mk k nm num ty fr lb ks', 1, 0) else (K4, c, l)
  | none => B7d k ks
def B1n : Nat → List Tm → Option (List Tm × Int × Int)
 | _, [] => none
 | n, t :: ts => match n with
  | 0 => none
  | n + 1 => if J8 t = true then (match B1n n ts with
    | some (us, c, l) => some (t :: us, c, l)
    | none => none)
   else some ((A23 t).1 :: ts, (A23 t).2.1, (A23 t).2.2)
end
mutual
def B1o : Tm → Bool
 | .mk k _ _ ty _ _ ks => decide (k ≠ 14 ∧ (k ≠ 5 ∨ ty.k = 1)) && B1p ks
def B1p : List Tm → Bool
 | [] => true
 | t :: ts => B1o t && B1p ts
end
def B1q (e : Tm) : Bool := S0 e && B1o e
def Y5 (e : Tm) : Stp :=
 if B1q e = false then (K4, 3, 0) else if J8 e = true then (e, 0, 0)
 else if (A23 e).2.1 ≠ 1 then (K4, (A23 e).2.1, (A23 e).2.2)
 else if B1q (A23 e).1 = false then (K4, 4, 0) else ((A23 e).1, 1, 0)
def A53 : Nat → Tm → Tm × Int × Int × Nat
 | 0, e => ((Y5 e).1, (Y5 e).2.1, (Y5 e).2.2, 0)
 | n + 1, e => if (Y5 e).2.1 = 1 then ((A53 n (Y5 e).1).1, (A53 n (Y5 e).1).2.1, (A53 n (Y5 e).1).2.2.1, (A53 n (Y5 e).1).2.2.2 + 1)
  else ((Y5 e).1, (Y5 e).2.1, (Y5 e).2.2, 0)
def A24 : Nat → Tm → Tm × Int × Int × Nat
 | 0, e => if (Y5 e).2.1 = 1 then (K4, 5, 0, 0) else ((Y5 e).1, (Y5 e).2.1, (Y5 e).2.2, 0)
 | n + 1, e => if (Y5 e).2.1 = 1 then ((A24 n (Y5 e).1).1, (A24 n (Y5 e).1).2.1, (A24 n (Y5 e).1).2.2.1, (A24 n (Y5 e).1).2.2.2 + 1)
  else ((Y5 e).1, (Y5 e).2.1, (Y5 e).2.2, 0)
def A4T (e : Tm) (fuel : Int) : Stp := if 0 ≤ fuel ∧ fuel ≤ 300 then ((A24 fuel.toNat e).1, (A24 fuel.toNat e).2.1, (A24 fuel.toNat e).2.2.1) else (K4, 3, 0)
def B8z (e : Tm) (fuel : Int) : Int := if 0 ≤ fuel ∧ fuel ≤ 300 then ((A24 fuel.toNat e).2.2.2 : Int) else 0
section
variable {k : Int} {nm : ByteArray} {num : Int} {ty fr : Ty} {lb : Int} {a b c : Tm} {t : Tm} {l : Int}
end
mutual
def A4U : Tm → List Tm
 | .mk k nm num ty fr lb ks => (if k = 14 then [.mk k nm num ty fr lb ks] else []) ++ A7P ks
def A7P : List Tm → List Tm
 | [] => []
 | t :: ts => A4U t ++ A7P ts
end
def B1r (label : Int) (x : Tm) : Bool := decide (x.lb = label)
def B8A (t : Tm) (label : Int) : Prop := ((A4U t).find? (B1r label) = none → (A5f t []).find? (pAt t label) = none) ∧ (∀ x, (A4U t).find? (B1r label) = some x → ∃ l, (A5f t []).find? (pAt t label) = some l ∧ tAt t l = some x)
def B1s (label : Int) : List Tm → List Ty
 | [] => []
 | c :: cs => (if c.lb = label then [c.fr, c.ty] else []) ++ B1s label cs
def B8B (t : Tm) (label : Int) : List Ty := if S0 t = true then B1s label (A4U t) else []
mutual
def A32 : GT → GT → Bool
 | _, .any => true
 | .fn a b, .fn c d => A25 c a && A32 b d
 | .pr a b, .pr c d => A32 a c && A32 b d
 | .int, .int => true
 | .bool, .bool => true
 | _, _ => false
termination_by a b => SizeOf.sizeOf a + SizeOf.sizeOf b
def A25 : GT → GT → Bool
 | .any, _ => true
 | .fn a b, .any => A32 .any a && A25 b .any
 | .pr a b, .any => A25 a .any && A25 b .any
 | .int, .any => true
 | .bool, .any => true
 | .fn a b, .fn c d => A32 c a && A25 b d
 | .pr a b, .pr c d => A25 a c && A25 b d
 | .int, .int => true
 | .bool, .bool => true
 | _, _ => false
termination_by a b => SizeOf.sizeOf a + SizeOf.sizeOf b
end
def GQ (Q : GT → GT → Int → Prop) : GE → Prop
 | .var _ => True
 | .num _ => True
 | .tru _ => True
 | .lam _ _ e => GQ Q e
 | .app f a => GQ Q f ∧ GQ Q a
 | .ar _ a b => GQ Q a ∧ GQ Q b
 | .ite c a b => GQ Q c ∧ GQ Q a ∧ GQ Q b
 | .pair a b => GQ Q a ∧ GQ Q b
 | .part _ e => GQ Q e
 | .cast A B l e => Q A B l ∧ GQ Q e
structure Clo (Q : GT → GT → Int → Prop) : Prop where
 fn : ∀ {a b c d l}, Q (.fn a b) (.fn c d) l → Q c a (-l) ∧ Q b d l
 pr : ∀ {a b c d l}, Q (.pr a b) (.pr c d) l → Q a c l ∧ Q b d l
 up : ∀ {A l}, A ≠ .any → Q A .any l → Q A.gr .any l ∧ Q A A.gr l
 down : ∀ {B l}, B ≠ .any → Q .any B l → Q B.gr B l ∧ Q .any B.gr l
def QL (m : Int) : GT → GT → Int → Prop := fun A B l => (l = m → A32 A B = true) ∧ (l = -m → A25 A B = true)
def mLb (t : Tm) : List Int := (A4U t).map Tm.lb
def B8C (ts : List Tm) : List Int := (A7P ts).map Tm.lb
structure Lbs (ls : List Int) (l l' : Int) : Prop where
 le : l ≤ l'
 nd : ls.Nodup
 len : (ls.length : Int) = l' - l
 mem : ∀ m ∈ ls, l < m ∧ m ≤ l'
mutual
theorem A7Q : ∀ (t : Tm) (d d' : Int), d' ≤ d → P4 12 14 t d = true → P4 12 14 (K8 t) d' = true
 | .mk k nm num ty fr lb ks, d, d', hd, h => by
  obtain ⟨h1, h2, h3, h4⟩ := A0O h
  obtain ⟨n1, n2, n3, n4, n5, n6, n7, n8, n9⟩ := X7.1 h3
  rw [K8]
  by_cases hk : k = 13 ∨ k = 14
  ·rw [if_pos hk]
   have hk13 : k = 13 := by omega
   subst hk13
   have hl : ks.length = 1 := by rw [show E7 13 = 1 from rfl] at n1; omega
   match ks, hl, h4 with
   | [x], _, h4 =>
    rw [O0, Bool.and_eq_true] at h4
    rw [M6]
    exact A7Q x (d + 1) d' zZ h4.1
  ·rw [if_neg hk, A2O zZ h2]
   ·exact B1t ks (d + 1) (d' + 1) zZ h4
   ·have hlen : (M6 ks).length = ks.length := by rw [A3k, List.length_map]
    rw [hlen]
    obtain ⟨hf, hl⟩ := n9 h2
    refine X7.2 ⟨n1, n2, n3, n4, n5, fun h5 => ?_, fun h5 => ?_, fun h14 => absurd h14 h2, fun _ => ⟨by decide, rfl⟩⟩
    ·rw [if_pos zZ]; decide
    ·rw [if_neg zZ]; decide
theorem B1t : ∀ (ts : List Tm) (d d' : Int), d' ≤ d → O0 12 14 ts d = true → O0 12 14 (M6 ts) d' = true
 | [], _, _, _, _ => by rw [M6]; rfl
 | t :: ts, d, d', hd, h => by
  rw [O0, Bool.and_eq_true] at h
  rw [M6, O0, A7Q t d d' hd h.1, B1t ts d d' hd h.2]; rfl
end
def GE.lt : GE → Prop
 | .var _ => True
 | .num _ => True
 | .tru _ => True
 | .lam _ A e => H7 A.ty = true ∧ e.lt
 | .app f a => f.lt ∧ a.lt
 | .ar _ a b => a.lt ∧ b.lt
 | .ite c a b => c.lt ∧ a.lt ∧ b.lt
 | .pair a b => a.lt ∧ b.lt
 | .part _ e => e.lt
 | .cast _ _ _ _ => False
abbrev NoC (u : Tm) : Prop := A7w (fun _ => False) u
def B8D (e : Tm) (fuel : Int) : ByteArray × Int × Int := if (N8 e || S0 e) = true then (if (A4T (K8 e) fuel).2.1 = 0 then (A0D (A4T (K8 e) fuel).1, 0, (A4T (K8 e) fuel).2.2) else (⟨⟨[]⟩⟩, (A4T (K8 e) fuel).2.1, (A4T (K8 e) fuel).2.2)) else (⟨⟨[]⟩⟩, 3, 0)
theorem B1u (G : IM) : R4 G R6 [.int .i64 1, .slice none 0 0] [] := by
 simp only [R6, R4, P8]
 exact ⟨none, 0, [], [], rfl, ⟨by omega, by omega⟩, D6.nil _ _, ⟨rfl, rfl⟩, rfl, by simp [J5]⟩
theorem B7e (G : IM) : R4 G B3 [.int .i64 0, .slice none 0 0] [] := by
 simp only [B3, R4, P8]
 exact ⟨none, 0, [], [], rfl, ⟨by omega, by omega⟩, D6.nil _ _, ⟨rfl, rfl⟩, rfl, by simp [J5]⟩
theorem B7f (t : Tm) (G0 G1 : IM) (cells : List Value) (F : List Nat) (hQ : A3l t) (hle : B9 G0 G1) (hs : P3 (D9 G1 G0) t cells F) (hn : F.Nodup) :
  Fn Tryz.prog 45 [.agg ⟨cells⟩] [] G1 (M5 fun G2 v => G2 = G1 ∧ ∃ cells' F', v = .agg ⟨cells'⟩ ∧ P3 (D9 G1 G0) (A0Z t) cells' F' ∧ F'.Nodup) := by
 obtain ⟨k, nm, num, ty, fr, lb, ks⟩ := t
 have hs0 := hs
 rw [A3l] at hQ
 have hbA : k = 13 ∨ k = 14 → A0Z (.mk k nm num ty fr lb ks) = ks.headD K4 := fun h => by rw [A0Z, if_pos h]
 have hbB : k = 5 → A0Z (.mk k nm num ty fr lb ks) = .mk k nm num R6 fr lb ks := fun h => by rw [A0Z, if_neg zZ, if_pos h]
 have hbC : ¬(k = 13 ∨ k = 14) → k ≠ 5 → A0Z (.mk k nm num ty fr lb ks) = .mk k nm num ty fr lb ks := fun h h' => by rw [A0Z, if_neg h, if_neg h']
 simp only [P3] at hs
 obtain ⟨tc, fc, p, c, es, F1, F2, Fs, rfl, hk, hnum, hlb, hty, hfr, hsl, hkl, rfl, hin⟩ := hs
 obtain ⟨pt, ct, rfl, htk, hts⟩ := hty.open
 obtain ⟨pf, cf, rfl, hfk, hfs⟩ := hfr.open
 have hslG := hsl.mono (D9.le G1 G0)
 have hnd := hn
 rw [List.nodup_append, List.nodup_append] at hnd
 obtain ⟨n1, ⟨n2, n3, n4⟩, n5⟩ := hnd
 have hB : P3 (D9 G1 G0) (.mk k nm num R6 fr lb ks) [.int .i64 k, .string nm, .int .i64 num, .int .i64 1, .slice none 0 0, .int .i64 fr.k, .slice pf fr.ks.length cf, .int .i64 lb, .slice p ks.length c] ([] ++ (F2 ++ (J5 p ++ Fs))) := by
  simp only [P3]
  exact ⟨[.int .i64 1, .slice none 0 0], [.int .i64 fr.k, .slice pf fr.ks.length cf], p, c, es, [], F2, Fs, rfl, hk, hnum, hlb, B1u _, hfr, hsl, hkl, rfl, hin⟩
 have hBn : ([] ++ (F2 ++ (J5 p ++ Fs))).Nodup := by
  rw [List.nil_append, List.nodup_append]; exact ⟨n2, n3, n4⟩
 refine C0 Tryz.func45 rfl Tryz.ntmps45 Tryz.results45 rfl ?_
 intro w0
 refine A4 ?_
 refine sE (B5 rfl rfl) rfl (fun b3 => ?_)
 refine sE (A6 rfl) rfl (fun b4 => ?_)
 refine E8 ?_
 refine C2 (tS (tS (tR (sB (qE rfl rfl) rfl rfl (fun h18 => ?_) (fun h18 => ?_)))))
 refine M3 ?_
 (obtain ⟨x, xs, rfl⟩ : ∃ x xs, ks = x :: xs := List.exists_cons_of_ne_nil (hQ zZ); simp only [O9] at hkl; obtain ⟨e0, es0, Fa, Fb, rfl, hx, hxs, rfl⟩ := hkl; obtain ⟨e', b, o, he', rfl, hl, _, hat, _⟩ := hslG.get (i := 0) zA0; simp only [List.getElem?_cons_zero, Option.some.injEq] at he'; subst he'; refine sP (B6 (j := 0) rfl rfl rfl zA0) rfl rfl ?_)
 refine sL (A5 rfl rfl (hat _) hl) rfl rfl ?_
 refine sS rfl rfl rfl hl hx.R.one rfl ?_ (hu := by exact C7 hl.symm)
 refine A8 ?_
 refine O7 (rC rfl (A5 rfl rfl (B7 zS) hl)) ?_
 (rw [hbA zZ]; exact ⟨rfl, rfl, _, _, rfl, hx, by rw [List.nodup_append, List.nodup_append] at n3; exact n3.2.1.1⟩)
 refine A8 ?_
 refine sB (qE rfl rfl) rfl rfl (fun h45 => ?_) (fun h45 => ?_)
 refine E4 ?_
 (obtain ⟨x, xs, rfl⟩ : ∃ x xs, ks = x :: xs := List.exists_cons_of_ne_nil (hQ zZ); simp only [O9] at hkl; obtain ⟨e0, es0, Fa, Fb, rfl, hx, hxs, rfl⟩ := hkl; obtain ⟨e', b, o, he', rfl, hl, _, hat, _⟩ := hslG.get (i := 0) zA0; simp only [List.getElem?_cons_zero, Option.some.injEq] at he'; subst he'; refine sP (B6 (j := 0) rfl rfl rfl zA0) rfl rfl ?_)
 refine sL (A5 rfl rfl (hat _) hl) rfl rfl ?_
 refine sS rfl rfl rfl hl hx.R.one rfl ?_ (hu := by exact C7 hl.symm)
 refine A8 ?_
 refine O7 (rC rfl (A5 rfl rfl (B7 zS) hl)) ?_
 (rw [hbA zZ]; exact ⟨rfl, rfl, _, _, rfl, hx, by rw [List.nodup_append, List.nodup_append] at n3; exact n3.2.1.1⟩)
 refine A9 ?_
 refine sB (qE rfl rfl) rfl rfl (fun h70 => ?_) (fun h70 => ?_)
 refine A8 ?_
 refine H1 rfl (A1c _ _) rfl rfl ?_
 refine O3 ?_
 refine O7 (rC rfl (A3 rfl rfl)) ?_
 (rw [hbB zZ]; exact ⟨rfl, rfl, _, _, rfl, hB, hBn⟩)
 refine M8 ?_
 refine O7 (rC rfl (A3 rfl rfl)) ?_
 (rw [hbC zZ zZ]; exact ⟨rfl, rfl, _, _, rfl, hs0, hn⟩)
theorem B7g : A5r A0Z A3l 45 [] [] := fun t G0 G1 cells F hQ hle hs hn =>
 (B7f t G0 G1 cells F hQ hle hs hn).mono fun G' v outs _ ⟨h1, h2, c', F', h3, h4, h5⟩ => ⟨h1, c', F', h3, by rw [h2]; exact h4, h5⟩
theorem B1v (t : Tm) (G : IM) (cells : List Value) (D N : Int) (hv : P4 D N t 1 = true) (hts : t.small) (hr : B8 G t cells) : Fn Tryz.prog 17 [.agg ⟨cells⟩] [] G (A4n (K8 t) G) := by
 have hl := hr.len
 have hone := hr.one
 obtain ⟨e1, e2⟩ := A9h D N t 1 hv
 have hM := A6P A0Z A3l 45 [] [] B7g t G cells e2 hts hr
 rw [e1] at hM
 refine C0 Tryz.func17 rfl Tryz.ntmps17 Tryz.results17 rfl ?_
 intro w0
 refine A4 ?_
 refine sE (B5 rfl rfl) rfl (fun b3 => ?_)
 refine sE (A6 rfl) rfl (fun b4 => ?_)
 refine B4 ?_
 refine sL (A5 rfl rfl (B7 zS) zW) rfl rfl ?_
 (refine F4 rfl hM rfl rfl (fun v G3 hle3 hh => ?_); obtain ⟨cells', F', rfl, hs', hnd'⟩ := hh; have hl' := hs'.R.len; have ho' := hs'.R.one)
 refine sS rfl rfl rfl hl' ho' rfl ?_ (hu := by exact C7 hl'.symm)
 refine C1 ?_
 refine O7 (rC rfl (A5 rfl rfl (B7 zS) hl')) ?_
 exact ⟨rfl, cells', F', rfl, hs', hnd'⟩
def B8E (t : Tm) : Tm × Bool := if N8 t = true ∨ S0 t = true then (K8 t, true) else (K4, false)
def erG : Tm → Tm
 | .mk k nm num ty fr lb ks => if A1x k = true then .mk k nm num R6 fr lb ks else .mk k nm num ty fr lb ks
def A07 (t : Tm) : Tm := A1s erG t
mutual
theorem B1w : ∀ (t : Tm) (l : List Ty), (∀ i, i < (I8 t).length → l.getD i B3 = R6) → Q0 t l = A1s erG t
 | .mk k nm num ty fr lb ks, l, h => by
  rw [I8] at h
  rw [Q0, A1s, erG]
  by_cases hk : k = 5 ∨ k = 13
  ·rw [if_pos hk] at h
   rw [if_pos hk, if_pos hk, if_pos (show A1x k = true from decide_eq_true hk), h 0 zA0, A7R ks]
   intro i hi
   rw [← h (i + 1) (by simp; omega)]
   simp [List.getD_eq_getElem?_getD, List.getElem?_drop]
  ·rw [if_neg hk] at h
   rw [if_neg hk, if_neg hk, if_neg (show ¬ A1x k = true from fun hc => hk (of_decide_eq_true hc)), A7R ks l]
   intro i hi
   exact h i (by simpa using hi)
theorem A7R : ∀ (ts : List Tm) (l : List Ty), (∀ i, i < (I4 ts).length → l.getD i B3 = R6) → O6 ts l = A0z erG ts
 | [], _, _ => by rw [O6, A0z]
 | t :: ts, l, h => by
  rw [I4] at h
  rw [O6, A0z, B1w t l (fun i hi => h i (by rw [List.length_append]; omega)), A7R ts]
  intro i hi
  rw [← h ((I8 t).length + i) (by rw [List.length_append]; omega)]
  simp [List.getD_eq_getElem?_getD, List.getElem?_drop]
end
theorem B7h (e : Tm) : A1S e (2 ^ (I8 e).length - 1) = A07 e := by
 unfold A1S A07
 refine B1w e _ fun i hi => ?_
 rw [A51, if_pos hi, Nat.zero_add, if_pos ((B64 _ _).2 (by rw [Nat.testBit_two_pow_sub_one]; exact decide_eq_true hi))]
 rfl
theorem B7i (t : Tm) (G0 G1 : IM) (cells : List Value) (F : List Nat) (hle : B9 G0 G1) (hs : P3 (D9 G1 G0) t cells F) (hn : F.Nodup) :
  Fn Tryz.prog 29 [.agg ⟨cells⟩] [] G1 (M5 fun G2 v => G2 = G1 ∧ ∃ cells' F', v = .agg ⟨cells'⟩ ∧ P3 (D9 G1 G0) (erG t) cells' F' ∧ F'.Nodup) := by
 have hH := A9F t G1 cells (hs.R.mono (D9.le _ _))
 obtain ⟨k, nm, num, ty, fr, lb, ks⟩ := t
 have hs0 := hs
 have hbA : A1x k = true → erG (.mk k nm num ty fr lb ks) = .mk k nm num R6 fr lb ks := fun h => by rw [erG, if_pos h]
 have hbC : A1x k = false → erG (.mk k nm num ty fr lb ks) = .mk k nm num ty fr lb ks := fun h => by rw [erG, if_neg (by rw [h]; decide)]
 simp only [P3] at hs
 obtain ⟨tc, fc, p, c, es, F1, F2, Fs, rfl, hk, hnum, hlb, hty, hfr, hsl, hkl, rfl, hin⟩ := hs
 obtain ⟨pt, ct, rfl, htk, hts⟩ := hty.open
 obtain ⟨pf, cf, rfl, hfk, hfs⟩ := hfr.open
 have hH' : Fn Tryz.prog 30 [.agg ⟨[.int .i64 k, .string nm, .int .i64 num, .int .i64 ty.k, .slice pt ty.ks.length ct, .int .i64 fr.k, .slice pf fr.ks.length cf, .int .i64 lb, .slice p ks.length c]⟩] [] G1 (K5 (.bool (A1x k)) G1) := hH
 have hnd := hn
 rw [List.nodup_append, List.nodup_append] at hnd
 obtain ⟨n1, ⟨n2, n3, n4⟩, n5⟩ := hnd
 have hB : P3 (D9 G1 G0) (.mk k nm num R6 fr lb ks) [.int .i64 k, .string nm, .int .i64 num, .int .i64 1, .slice none 0 0, .int .i64 fr.k, .slice pf fr.ks.length cf, .int .i64 lb, .slice p ks.length c] ([] ++ (F2 ++ (J5 p ++ Fs))) := by
  simp only [P3]
  exact ⟨[.int .i64 1, .slice none 0 0], [.int .i64 fr.k, .slice pf fr.ks.length cf], p, c, es, [], F2, Fs, rfl, hk, hnum, hlb, B1u _, hfr, hsl, hkl, rfl, hin⟩
 have hBn : ([] ++ (F2 ++ (J5 p ++ Fs))).Nodup := by
  rw [List.nil_append, List.nodup_append]; exact ⟨n2, n3, n4⟩
 refine C0 Tryz.func29 rfl Tryz.ntmps29 Tryz.results29 rfl ?_
 intro w0
 refine A4 ?_
 refine sE (B5 rfl rfl) rfl (fun b3 => ?_)
 refine sE (A6 rfl) rfl (fun b4 => ?_)
 refine A9 ?_
 refine K3 rfl (hH') rfl rfl (fun h11 => ?_) (fun h11 => ?_)
 refine B4 ?_
 refine H1 rfl (A1c _ _) rfl rfl ?_
 refine M3 ?_
 refine O7 (rC rfl (A3 rfl rfl)) ?_
 (rw [hbA zW]; exact ⟨rfl, rfl, _, _, rfl, hB, hBn⟩)
 refine O3 ?_
 refine O7 (rC rfl (A3 rfl rfl)) ?_
 (rw [hbC zW]; exact ⟨rfl, rfl, _, _, rfl, hs0, hn⟩)
theorem B7j : A5r erG (fun _ => True) 29 [] [] := fun t G0 G1 cells F _ hle hs hn =>
 (B7i t G0 G1 cells F hle hs hn).mono fun G' v outs _ ⟨h1, h2, c', F', h3, h4, h5⟩ => ⟨h1, c', F', h3, by rw [h2]; exact h4, h5⟩
theorem B7k (t : Tm) (G : IM) (cells : List Value) (hv : N8 t = true) (hr : B8 G t cells) :
  Fn Tryz.prog 9 [.agg ⟨cells⟩] [] G (M5 fun G' v => ∃ cu, v = .tuple ⟨[.agg ⟨cu⟩, .bool true]⟩ ∧ B8 G' (A07 t) cu) := by
 have hl := hr.len
 have hone := hr.one
 have hV := A5m t G cells hr
 rw [hv] at hV
 have hM := A6P erG (fun _ => True) 29 [] [] B7j t G cells (A6O _ t) (A2m hv).1 hr
 refine C0 Tryz.func9 rfl Tryz.ntmps9 Tryz.results9 rfl ?_
 intro w0
 refine A4 ?_
 refine sE (B5 rfl rfl) rfl (fun b3 => ?_)
 refine sE (A6 rfl) rfl (fun b4 => ?_)
 refine A9 ?_
 refine sL (A5 rfl rfl (B7 zS) hl) rfl rfl ?_
 refine H1 rfl (hV) rfl rfl ?_
 refine E4 ?_
 refine sL (A5 rfl rfl (B7 zS) hl) rfl rfl ?_
 (refine F4 rfl hM rfl rfl (fun v G3 hle3 hh => ?_); obtain ⟨cells', F', rfl, hs', hnd'⟩ := hh; have hl' := hs'.R.len; have ho' := hs'.R.one)
 refine sS rfl rfl rfl hl' ho' rfl ?_ (hu := by exact C7 hl'.symm)
 refine B4 ?_
 refine H2 (rC rfl (A5 rfl rfl (B7 zS) hl')) (rT rfl) ?_
 exact ⟨rfl, cells', rfl, hs'.R.mono (D9.le _ _)⟩
inductive A1V (B : BV) : List SV → List SV → Prop
 | nil : A1V B [] []
 | cons {s ss t ts} : Q8 B s t → A1V B ss ts → A1V B (s :: ss) (t :: ts)
theorem A1V.len {B : BV} {ss ts : List SV} (h : A1V B ss ts) : ss.length = ts.length := by
 induction h with
 | nil => rfl
 | cons _ _ i => simp [i]
theorem B1x {B : BV} {c : Nat} (h : WB B c) : ∀ ss, ∃ ts, A1V B ss ts
 | [] => ⟨[], .nil⟩
 | s :: ss => by
  obtain ⟨t, ht⟩ := h.den s
  obtain ⟨ts, hts⟩ := B1x h ss
  exact ⟨t :: ts, .cons ht hts⟩
abbrev IS0 : IS := ⟨fun _ => none, 0, []⟩
theorem B1y : IS0.ok := ⟨⟨fun _ _ => rfl, fun _ => 0, fun n s h => (by cases h)⟩, fun s h => (by cases h)⟩
inductive A1g (e : Tm) : Option (Tm × Ty) → Prop
 | bad : N8 e = false → A1g e none
 | fail {S} : N8 e = true → U2 [] (K8 e) IS0 S none → A1g e none
 | deep {S s ts} : N8 e = true → U2 [] (K8 e) IS0 S (some s) → S.ok → A5t IS0 S (E1 (K8 e)) (A0P (K8 e)) → A1V S.B S.L ts → Z9 ts = none → A1g e none
 | fine {S s ts l} : N8 e = true → U2 [] (K8 e) IS0 S (some s) → S.ok → A5t IS0 S (E1 (K8 e)) (A0P (K8 e)) → A1V S.B S.L ts → Z9 ts = some l → l.length = (I8 (K8 e)).length → (∀ u ∈ l, H7 u = true) → A1g e ((W2 (Q0 (K8 e) l)).map fun t => (Q0 (K8 e) l, t))
mutual
theorem A3x : ∀ (e : Tm) (d : Int), P4 12 14 e d = true → mBr (K8 e)
 | .mk k nm num ty fr lb ks, d, h => by
  obtain ⟨h1, h2, h3, h4⟩ := A0O h
  have hn := X7.1 h3
  rw [K8]
  by_cases hk : k = 13 ∨ k = 14
  ·rw [if_pos hk]
   match ks, hn.1, h4 with
   | [], ha, _ => exact absurd ha (by rcases hk with rfl | rfl <;> decide)
   | t :: ts, _, h4 =>
    rw [O0, Bool.and_eq_true] at h4
    exact A3x t _ h4.1
  ·rw [if_neg hk]
   simp only [mBr]
   have hk1 : 1 ≤ k ∧ k ≤ 14 := by
    have ha := hn.1
    unfold E7 at ha
    by_cases hh : 1 ≤ k ∧ k ≤ 14
    ·exact hh
    ·repeat rw [if_neg zZ] at ha
     omega
   refine ⟨by rw [A3k, List.length_map]; exact hn.1, hk1.1, by omega, fun hh => ?_, B1z ks _ h4⟩
   have h9 := hn.2.1 hh
   simp only [A0o, Bool.and_eq_true, decide_eq_true_eq] at h9
   first | exact h9.1 | exact h9.1.1 | omega
theorem B1z : ∀ (es : List Tm) (d : Int), O0 12 14 es d = true → A1e (M6 es)
 | [], _, _ => by rw [M6]; trivial
 | t :: ts, d, h => by
  rw [O0, Bool.and_eq_true] at h
  rw [M6]
  exact ⟨A3x t d h.1, B1z ts d h.2⟩
end
mutual
theorem A7S : ∀ (e : Tm), mBr e → A0P e = (I8 e).length
 | .mk k nm num ty fr lb ks, h => by
  simp only [mBr] at h
  have := B1A ks h.2.2.2.2
  rw [A0P, I8]
  by_cases h5 : k = 5
  ·rw [if_pos h5, if_pos (.inl h5)]; simp [this]; try omega
  ·rw [if_neg h5, if_neg zZ]; simp [this]
theorem B1A : ∀ (es : List Tm), A1e es → A01 es = (I4 es).length
 | [], _ => by rw [A01, I4]; rfl
 | e :: es, h => by
  simp only [A1e] at h
  rw [A01, I4, List.length_append, A7S e h.1, B1A es h.2]
end
mutual
theorem B1B : ∀ e : Tm, K8 (K8 e) = K8 e
 | .mk k nm num ty fr lb ks => by
  have hL := B1C ks
  rw [K8]
  by_cases hk : k = 13 ∨ k = 14
  ·rw [if_pos hk]
   match ks, hL with
   | [], _ => rfl
   | t :: ts, hL =>
    rw [M6, M6] at hL
    exact (List.cons.inj hL).1
  ·rw [if_neg hk, K8, if_neg hk, hL]
theorem B1C : ∀ es : List Tm, M6 (M6 es) = M6 es
 | [] => rfl
 | e :: es => by rw [M6, M6, B1B e, B1C es]
end
mutual
theorem B1D : ∀ (t : Tm) (l : List Ty), K8 (Q0 t l) = K8 t
 | .mk k nm num ty fr lb ks, l => by
  have hL := B1E ks (if k = 5 ∨ k = 13 then l.drop 1 else l)
  rw [Q0]
  rw [K8, K8, hL]
theorem B1E : ∀ (ts : List Tm) (l : List Ty), M6 (O6 ts l) = M6 ts
 | [], l => by rw [O6]
 | t :: ts, l => by rw [O6, M6, M6, B1D t, B1E ts]
end
theorem A7T : ∀ (d : Nat) (s : SV) (t : Ty), S3 d s = some t → ∀ k : Int, k + d = 5 → 1 ≤ k → M4 t k = true ∧ A52 t = 0
 | 0, _, _, h, _, _, _ => by cases h
 | d + 1, .v _, t, h, k, hk, h1 => by
  cases h
  refine ⟨?_, rfl⟩
  rw [M4, T7, decide_eq_true (show k ≤ 4 by omega)]; rfl
 | d + 1, .b c, t, h, k, hk, h1 => by
  cases h
  refine ⟨?_, by cases c <;> rfl⟩
  rw [M4, T7, decide_eq_true (show k ≤ 4 by omega)]
  cases c <;> rfl
 | d + 1, .t c x y, t, h, k, hk, h1 => by
  rw [S3] at h
  cases ha : S3 d x with
  | none => rw [ha] at h; cases h
  | some a =>
   rw [ha] at h
   cases hb : S3 d y with
   | none => rw [hb] at h; cases h
   | some b =>
    rw [hb] at h
    cases h
    obtain ⟨p1, p2⟩ := A7T d x a ha (k + 1) zZ zZ
    obtain ⟨q1, q2⟩ := A7T d y b hb (k + 1) zZ zZ
    refine ⟨?_, ?_⟩
    ·rw [M4, T7, T7, T7, p1, q1, decide_eq_true (show k ≤ 4 by omega)]
     cases c <;> rfl
    ·rw [A52, if_neg (by cases c <;> decide), A4S, A4S, A4S, p2, q2]; rfl
theorem A7U : ∀ (ss : List SV) (l : List Ty), Z9 ss = some l → l.length = ss.length ∧ (∀ u ∈ l, H7 u = true) ∧ l.all tSt = true
 | [], l, h => by cases h; exact ⟨rfl, by simp, rfl⟩
 | s :: ss, l, h => by
  rw [Z9] at h
  cases ha : S3 4 s with
  | none => rw [ha] at h; cases h
  | some t =>
   rw [ha] at h
   cases hb : Z9 ss with
   | none => rw [hb] at h; cases h
   | some ts =>
    rw [hb] at h
    cases h
    obtain ⟨h1, h2, h3⟩ := A7U ss ts hb
    obtain ⟨p1, p2⟩ := A7T 4 s t ha 1 zY zY
    refine ⟨by simp [h1], fun u hu => ?_, ?_⟩
    ·rcases List.mem_cons.1 hu with rfl | hu
     ·exact p1
     ·exact h2 u hu
    ·rw [List.all_cons, h3, Bool.and_true]; exact decide_eq_true p2
theorem B7l (e : Tm) : ∃ r, A1g e r := by
 cases hv : N8 e with
 | false => exact ⟨none, .bad hv⟩
 | true =>
  have hbr := A3x e 1 ((U1 e).1 hv).1
  obtain ⟨S, o, h1, h2, h3, h4⟩ := A6V (K8 e) [] IS0 hbr B1y (fun p hp => by cases hp)
  cases o with
  | none => exact ⟨none, .fail hv h1⟩
  | some s =>
   obtain ⟨ts, hts⟩ := B1x h2.ok.wb S.L
   cases hl : Z9 ts with
   | none => exact ⟨none, .deep hv h1 h2.ok h2 hts hl⟩
   | some l =>
    obtain ⟨g1, g2, g3⟩ := A7U ts l hl
    have := h4 rfl
    have hL := hts.len
    refine ⟨_, .fine hv h1 h2.ok h2 hts hl ?_ g2⟩
    rw [g1, ← hL, this, ← A7S _ hbr]
    simp
theorem B7m {e x : Tm} {t : Ty} (h : A1g e (some (x, t))) : N8 e = true ∧ (W2 x).isSome = true ∧ B1m x = true ∧ K8 x = K8 e := by
 generalize hr : some (x, t) = r at h
 cases h with
 | bad _ => cases hr
 | fail _ _ => cases hr
 | deep _ _ _ _ _ _ => cases hr
 | @fine S s ts l hv _ _ _ hts hl hn hval =>
  cases ht : W2 (Q0 (K8 e) l) with
  | none => rw [ht] at hr; cases hr
  | some u =>
   rw [ht] at hr
   cases hr
   have h1 : (W2 (Q0 (K8 e) l)).isSome = true := by rw [ht]; rfl
   refine ⟨hv, h1, ?_, ?_⟩
   ·unfold B1m
    rw [A5Y h1, B68 hn, (A7U ts l hl).2.2]; rfl
   ·rw [B1D, B1B]
theorem B7n {x : Tm} (h : N8 x = true) : A3u x (A07 x) = true := by
 have := B62 (m := 0) (m' := 2 ^ (I8 x).length - 1) h fun i hi => by
  rw [Nat.zero_div] at hi; cases hi
 rwa [B63, B7h] at this
theorem B7o {x : Tm} (h : (W2 x).isSome = true) (h0 : (T6 x 100).2.1 = 0) :
  (T6 (A07 x) 300).2.1 = 4 ∨ (T6 (A07 x) 300).2.1 = 5 ∨ ((T6 (A07 x) 300).2.1 = 0 ∧ (T6 x 100).1 = (T6 (A07 x) 300).1) := by
 have h1 := B7b (f := 100) (g := 300) zY zY zY h0
 rw [← h1] at h0 ⊢
 rcases B6t (B7n (A5Y h)) zY h0 with ⟨g, g2⟩ | g | g
 ·exact .inr (.inr ⟨g, g2.symm⟩)
 ·exact .inl g
 ·exact .inr (.inl g)
def Q6 (G : IM) : SV → List Value → Prop
 | .v n, cs => cs = [.int .i64 0, .int .i64 n, .slice none 0 0]
 | .b c, cs => cs = [.int .i64 (SV.b c).kd, .int .i64 0, .slice none 0 0]
 | .t c x y, cs => ∃ p cp ex ez, cs = [.int .i64 (if c = true then 5 else 4), .int .i64 0, .slice p 2 cp] ∧ Sl G p 2 cp 3 (ex ++ ez) ∧ ex.length = 3 ∧ Q6 G x ex ∧ Q6 G y ez
theorem Q6.mono {G G' : IM} (hG : B9 G G') : ∀ {s : SV} {cs : List Value}, Q6 G s cs → Q6 G' s cs
 | .v _, _, h => h
 | .b _, _, h => h
 | .t _ _ _, _, h => by
  obtain ⟨p, cp, ex, ez, h1, h2, h3, h4, h5⟩ := h
  exact ⟨p, cp, ex, ez, h1, h2.mono hG, h3, Q6.mono hG h4, Q6.mono hG h5⟩
theorem Q6.len {G : IM} : ∀ {s : SV} {cs : List Value}, Q6 G s cs → cs.length = 3
 | .v _, _, h => by rw [show _ = _ from h]; rfl
 | .b _, _, h => by rw [show _ = _ from h]; rfl
 | .t _ _ _, _, h => by obtain ⟨p, cp, ex, ez, h1, _⟩ := h; rw [h1]; rfl
theorem Q6.one {G : IM} : ∀ {s : SV} {cs : List Value}, Q6 G s cs → (cs.all (·.oneCell')) = true
 | .v _, _, h => by rw [show _ = _ from h]; rfl
 | .b _, _, h => by rw [show _ = _ from h]; rfl
 | .t _ _ _, _, h => by obtain ⟨p, cp, ex, ez, h1, _⟩ := h; rw [h1]; rfl
theorem Q6.op {G : IM} {s : SV} {cs : List Value} (h : Q6 G s cs) : ∃ nm p n c, cs = [.int .i64 s.kd, .int .i64 nm, .slice p n c] ∧
  ((∃ m, s = .v m ∧ nm = m ∧ p = none ∧ n = 0 ∧ c = 0) ∨ (∃ d, s = .b d ∧ nm = 0 ∧ p = none ∧ n = 0 ∧ c = 0) ∨ ∃ d x y ex ez, s = .t d x y ∧ nm = 0 ∧ n = 2 ∧ Sl G p 2 c 3 (ex ++ ez) ∧ ex.length = 3 ∧ Q6 G x ex ∧ Q6 G y ez) := by
 cases s with
 | v m => exact ⟨m, none, 0, 0, h, .inl ⟨m, rfl, rfl, rfl, rfl, rfl⟩⟩
 | b d => exact ⟨0, none, 0, 0, h, .inr (.inl ⟨d, rfl, rfl, rfl, rfl, rfl⟩)⟩
 | t d x y =>
  obtain ⟨p, cp, ex, ez, h1, h2, h3, h4, h5⟩ := h
  exact ⟨0, p, 2, cp, h1, .inr (.inr ⟨d, x, y, ex, ez, rfl, rfl, rfl, h2, h3, h4, h5⟩)⟩
inductive P5 (G : IM) : List SV → List (List Value) → Prop
 | nil : P5 G [] []
 | cons {s ss e es} : Q6 G s e → P5 G ss es → P5 G (s :: ss) (e :: es)
theorem P5.mono {G G' : IM} (hG : B9 G G') {ss : List SV} {es : List (List Value)} (h : P5 G ss es) : P5 G' ss es := by
 induction h with
 | nil => exact .nil
 | cons h1 _ i => exact .cons (h1.mono hG) i
theorem P5.snoc {G : IM} {ss : List SV} {es : List (List Value)} {s : SV} {e : List Value} (h : P5 G ss es) (hs : Q6 G s e) : P5 G (ss ++ [s]) (es ++ [e]) := by
 induction h with
 | nil => exact .cons hs .nil
 | cons h1 _ i => exact .cons h1 i
theorem P5.len {G : IM} {ss : List SV} {es : List (List Value)} (h : P5 G ss es) : es.length = ss.length := by
 induction h with
 | nil => rfl
 | cons _ _ i => simp [i]
theorem P5.get {G : IM} {ss : List SV} {es : List (List Value)} (h : P5 G ss es) : ∀ {i : Nat} {s : SV}, ss[i]? = some s → ∃ e, es[i]? = some e ∧ Q6 G s e := by
 induction h with
 | nil => intro i s h; simp at h
 | cons h1 _ ih =>
  intro i s hi
  cases i with
  | zero => simp only [List.getElem?_cons_zero, Option.some.injEq] at hi; subst hi; exact ⟨_, rfl, h1⟩
  | succ i => obtain ⟨e, h2, h3⟩ := ih (by simpa using hi); exact ⟨e, by simpa using h2, h3⟩
theorem P5.each {G : IM} {ss : List SV} {es : List (List Value)} (h : P5 G ss es) : ∀ e ∈ es, e.length = 3 ∧ (e.all (·.oneCell')) = true := by
 induction h with
 | nil => intro e he; cases he
 | cons h1 _ ih =>
  intro e he
  rcases List.mem_cons.1 he with rfl | he
  ·exact ⟨h1.len, h1.one⟩
  ·exact ih e he
theorem P5.ones {G : IM} {ss : List SV} {es : List (List Value)} (h : P5 G ss es) : ∀ u ∈ es.flatten, u.oneCell' = true := by
 intro u hu
 obtain ⟨e, he, hue⟩ := List.mem_flatten.1 hu
 exact List.all_eq_true.1 (h.each e he).2 u hue
theorem P5.set {G : IM} {ss : List SV} {es : List (List Value)} {s : SV} {e : List Value} (h : P5 G ss es) (hs : Q6 G s e) : ∀ i, P5 G (ss.set i s) (es.set i e) := by
 induction h with
 | nil => intro i; simp; exact .nil
 | cons h1 h2 ih =>
  intro i
  cases i with
  | zero => exact .cons hs h2
  | succ i => exact .cons h1 (ih i)
def bnd (B : BV) (c : Nat) : List SV := (List.range c).map fun i => (B i).getD (.v i)
theorem A3y (B : BV) (c : Nat) : (bnd B c).length = c := by simp [bnd]
theorem A7V {B : BV} {c n : Nat} (h : n < c) : (bnd B c)[n]? = some ((B n).getD (.v n)) := by
 unfold bnd
 rw [List.getElem?_map, List.getElem?_range h]; rfl
theorem B7p {B : BV} {c : Nat} (h : B c = none) : bnd B (c + 1) = bnd B c ++ [.v c] := by
 unfold bnd
 rw [List.range_succ, List.map_append, List.map_singleton, h]; rfl
theorem B1F {B : BV} {c n : Nat} {s : SV} (h : n < c) : bnd (A0N B n s) c = (bnd B c).set n s := by
 apply List.ext_getElem?
 intro i
 by_cases hi : i < c
 ·rw [A7V hi]
  by_cases hin : i = n
  ·subst hin
   rw [List.getElem?_set_self (by rw [A3y]; exact hi)]
   simp [A0N]
  ·rw [List.getElem?_set_ne (fun e => hin e.symm), A7V hi]
   simp [A0N, hin]
 ·rw [List.getElem?_eq_none (by rw [A3y]; omega), List.getElem?_eq_none (by rw [List.length_set, A3y]; omega)]
def R1 (G : IM) (S : IS) (cs : List Value) : Prop := ∃ pb cb eb pl cl el, cs = [.slice pb S.c cb, .slice pl S.L.length cl] ∧ D6 G pb S.c cb 3 eb ∧ P5 G (bnd S.B S.c) eb ∧ D6 G pl S.L.length cl 3 el ∧ P5 G S.L el
theorem R1.mono {G G' : IM} (hG : B9 G G') {S : IS} {cs : List Value} (h : R1 G S cs) : R1 G' S cs := by
 obtain ⟨pb, cb, eb, pl, cl, el, h1, h2, h3, h4, h5⟩ := h
 exact ⟨pb, cb, eb, pl, cl, el, h1, h2.mono hG, h3.mono hG, h4.mono hG, h5.mono hG⟩
theorem A1W {B B' : BV} {a b : SV} {ok : Bool} (h : Q2 B a b B' ok) : ∀ {c : Nat}, WB B c → a.lt c → b.lt c → WB B' c := by
 induction h with
 | self _ _ => intro c h _ _; exact h
 | occ _ _ _ _ _ => intro c h _ _; exact h
 | bind h1 h2 h3 h4 h5 => intro c h ha hb; exact h.put h1.fr (h1.lt h ha _ rfl) (h2.lt h hb) h4 h5
 | occ' _ _ _ _ _ => intro c h _ _; exact h
 | bind' h1 h2 h3 h4 h5 => intro c h ha hb; exact h.put h3.fr (h3.lt h hb _ rfl) (h1.lt h ha) h4 h5
 | clash _ _ _ _ _ => intro c h _ _; exact h
 | base _ _ => intro c h _ _; exact h
 | two0 h1 h2 _ i =>
  intro c h ha hb
  exact i h (fun m hm => h1.lt h ha m (.inl hm)) (fun m hm => h2.lt h hb m (.inl hm))
 | two h1 h2 _ _ i j =>
  intro c h ha hb
  exact j (i h (fun m hm => h1.lt h ha m (.inl hm)) (fun m hm => h2.lt h hb m (.inl hm))) (fun m hm => h1.lt h ha m (.inr hm)) (fun m hm => h2.lt h hb m (.inr hm))
theorem B7q {k : Int} {ss : List SV} {S S' : IS} {o : Option SV} (h : Nod k ss S S' o) (hS : S.ok) (hs : ∀ s ∈ ss, s.lt S.c) : S'.ok ∧ S.c ≤ S'.c ∧ S'.L = S.L ∧ S'.c ≤ S.c + 2 ∧ ∀ s, o = some s → s.lt S'.c := by
 have hW2 : WB S.B (S.c + 2) := hS.wb.mono zZ
 have hL2 : ∀ s ∈ S.L, s.lt (S.c + 2) := fun s h => (hS.ls s h).mono zZ
 have hs2 : ∀ s ∈ ss, s.lt (S.c + 2) := fun s h => (hs s h).mono zZ
 cases h with
 | num => exact ⟨hS, Nat.le_refl _, rfl, by omega, fun s h => by cases h; exact X8 _ _⟩
 | tru _ => exact ⟨hS, Nat.le_refl _, rfl, by omega, fun s h => by cases h; exact X8 _ _⟩
 | pair => exact ⟨hS, Nat.le_refl _, rfl, by omega, fun s h => by cases h; exact A18 (hs _ zA0) (hs _ zA0)⟩
 | app _ hu => exact ⟨⟨A1W hu hW2 (hs2 _ zA0) (A18 (hs2 _ zA0) (Y4 zA0)), hL2⟩, by simp, rfl, by simp, fun s h => by split at h <;> cases h; exact Y4 zA0⟩
 | ar0 _ hu => exact ⟨⟨A1W hu hS.wb (hs _ zA0) (X8 _ _), hS.ls⟩, Nat.le_refl _, rfl, by simp, fun s h => by cases h⟩
 | ar _ hu hu2 => exact ⟨⟨A1W hu2 (A1W hu hS.wb (hs _ zA0) (X8 _ _)) (hs _ zA0) (X8 _ _), hS.ls⟩, Nat.le_refl _, rfl, by simp, fun s h => by split at h <;> cases h; exact X8 _ _⟩
 | ite0 hu => exact ⟨⟨A1W hu hS.wb (hs _ zA0) (X8 _ _), hS.ls⟩, Nat.le_refl _, rfl, by simp, fun s h => by cases h⟩
 | ite hu hu2 => exact ⟨⟨A1W hu2 (A1W hu hS.wb (hs _ zA0) (X8 _ _)) (hs _ zA0) (hs _ zA0), hS.ls⟩, Nat.le_refl _, rfl, by simp, fun s h => by split at h <;> cases h; exact hs _ zA0⟩
 | part _ _ _ hu => exact ⟨⟨A1W hu hW2 (hs2 _ zA0) (A18 (Y4 zA0) (Y4 zA0)), hL2⟩, by simp, rfl, by simp, fun s h => by split at h <;> cases h; exact Y4 (by dsimp only; split <;> omega)⟩
structure B1G (S S' : IS) (n : Nat) : Prop where
 ok : S'.ok
 le : S.c ≤ S'.c
 ub : S'.c ≤ S.c + 2 * n
 ln : S'.L.length ≤ S.L.length + n
mutual
theorem A26 : ∀ (e : Tm) {Γ : List (ByteArray × SV)} {S S' : IS} {o : Option SV}, U2 Γ e S S' o → S.ok → A1f Γ S.c → B1G S S' (E1 e) ∧ ∀ s, o = some s → s.lt S'.c
 | .mk k nm num ty fr lb ks, Γ, S, S', o, h, hS, hΓ => by
  have ht : E1 (.mk k nm num ty fr lb ks) = 1 + H3 ks := by simp [E1]; try omega
  by_cases h1 : k = 1
  ·obtain ⟨rfl, rfl⟩ := h.v1 h1
   exact ⟨⟨hS, Nat.le_refl _, by omega, by omega⟩, fun s hs => A6U hΓ hs⟩
  ·by_cases h5 : k = 5
   ·obtain ⟨e, o', rfl, hB, hI, rfl⟩ := h.v5 h5
    have hS1 : IS.ok ⟨S.B, S.c + 1, S.L ++ [.v S.c]⟩ := ⟨hS.wb.mono zA0, fun s hs => by
     rcases List.mem_append.1 hs with hs | hs
     ·exact (hS.ls s hs).mono zA0
     ·simp only [List.mem_singleton] at hs; subst hs; exact Y4 zA0⟩
    have hΓ1 : A1f ((nm, .v S.c) :: Γ) (S.c + 1) := fun p hp => by
     rcases List.mem_cons.1 hp with rfl | hp
     ·exact Y4 zA0
     ·exact (hΓ p hp).mono zZ
    obtain ⟨g1, g2⟩ := A26 e hI hS1 hΓ1
    have q1 := g1.le
    have q2 := g1.ub
    have q3 := g1.ln
    simp only [List.length_append, List.length_singleton] at q1 q2 q3
    have hl : H3 [e] = E1 e := by simp [H3]
    refine ⟨⟨g1.ok, by omega, by omega, by omega⟩, fun s hs => ?_⟩
    cases o' with
    | none => cases hs
    | some t => cases hs; exact A18 (Y4 zZ) (g2 t rfl)
   ·obtain ⟨S1, os, hL, hor⟩ := h.vn h1 h5
    obtain ⟨g1, g2⟩ := B1H ks hL hS hΓ
    have q1 := g1.le
    have q2 := g1.ub
    have q3 := g1.ln
    rcases hor with ⟨rfl, rfl, rfl⟩ | ⟨ss, rfl, hN⟩
    ·exact ⟨⟨g1.ok, q1, by omega, by omega⟩, fun s hs => (by cases hs)⟩
    ·obtain ⟨n1, n2, n3, n4, n5⟩ := B7q hN g1.ok (g2 ss rfl)
     exact ⟨⟨n1, by omega, by omega, by rw [n3]; omega⟩, n5⟩
theorem B1H : ∀ (es : List Tm) {Γ : List (ByteArray × SV)} {S S' : IS} {os : Option (List SV)}, A0I Γ es S S' os → S.ok → A1f Γ S.c → B1G S S' (H3 es) ∧ ∀ ss, os = some ss → ∀ s ∈ ss, s.lt S'.c
 | [], Γ, S, S', os, h, hS, hΓ => by
  cases h
  exact ⟨⟨hS, Nat.le_refl _, by omega, by omega⟩, fun ss hs => by cases hs; simp⟩
 | e :: es, Γ, S, S', os, h, hS, hΓ => by
  have ht : H3 (e :: es) = E1 e + H3 es := by simp [H3]; try omega
  cases h with
  | no h =>
   obtain ⟨g1, _⟩ := A26 e h hS hΓ
   have q1 := g1.le
   have q2 := g1.ub
   have q3 := g1.ln
   exact ⟨⟨g1.ok, q1, by omega, by omega⟩, fun ss hs => (by cases hs)⟩
  | @cons _ _ _ _ S1 _ s os h1 h2 =>
   obtain ⟨g1, g2⟩ := A26 e h1 hS hΓ
   have q1 := g1.le
   have q2 := g1.ub
   have q3 := g1.ln
   obtain ⟨g3, g4⟩ := B1H es h2 g1.ok (hΓ.mono q1)
   have p1 := g3.le
   have p2 := g3.ub
   have p3 := g3.ln
   refine ⟨⟨g3.ok, by omega, by omega, by omega⟩, fun ss hs => ?_⟩
   cases os with
   | none => cases hs
   | some r =>
    cases hs
    intro t ht
    rcases List.mem_cons.1 ht with rfl | ht
    ·exact (g2 _ rfl).mono p1
    ·exact g4 r rfl t ht
end
theorem HdN.kk {B : BV} {k k' : Nat} {s r r' : SV} (h : HdN B k s r) (h' : HdN B k' s r') : k = k' := by
 induction h generalizing k' with
 | free h1 => cases h' with
  | free _ => rfl
  | link h2 _ => rw [h1] at h2; cases h2
  | nv h2 => cases h2
 | link h1 _ i => cases h' with
  | free h2 => rw [h1] at h2; cases h2
  | link h2 h3 => rw [h1] at h2; cases h2; rw [i h3]
  | nv h2 => cases h2
 | nv h1 => cases h' with
  | free _ => cases h1
  | link _ _ => cases h1
  | nv _ => rfl
theorem HdN.ne {B : BV} {k n : Nat} {s r : SV} (h : HdN B k s r) (hb : B n = some s) : s ≠ .v n := by
 rintro rfl
 have := h.kk (.link hb h)
 omega
section clr
variable {P : Program} {Γ : M9} {env : O2} {hp : List A7} {G : IM} {ty : TypeId}
end clr
end Gw
end Go.Proofs.YtbdacdnffkhgeaaGreatDoor
