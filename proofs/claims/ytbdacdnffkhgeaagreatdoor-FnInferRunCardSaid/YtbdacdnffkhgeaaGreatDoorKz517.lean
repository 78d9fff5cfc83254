/-
  The reference's typing, exactly: meets, the types of nodes.
-/
import Derived.Test.YtbdacdnffkhgeaaGreatDoorKz516
import Derived.Test.YtbdacdnffkhgeaaGreatDoorKz514
import Derived.Test.YtbdacdnffkhgeaaGreatDoorKz513
import Derived.Test.YtbdacdnffkhgeaaGreatDoorKz512
import Derived.Test.YtbdacdnffkhgeaaGreatDoorKz511
import Derived.Test.YtbdacdnffkhgeaaGreatDoorKz515
set_option linter.unusedVariables false
set_option linter.unusedSimpArgs false
set_option maxHeartbeats 0
set_option maxRecDepth 100000
set_option synthInstance.maxSize 4000
set_option synthInstance.maxHeartbeats 0
namespace Go.Proofs.YtbdacdnffkhgeaaGreatDoor
open Go Go.RowKit
namespace Gw
theorem y116 {p : Prop} (h : p := by
  refine A2 7 ?_
  (refine P0 rfl rfl rfl rfl rfl rfl (fun _ _ => by repeat (first | exact Sw.here | apply Sw.there)) (K4 zI0) rfl zK0 zL0 zR0 rfl rfl zR (fun p5 c5 => ?_))
  refine aP 8 rfl (qA rfl) rfl ?_
  refine A4 ?_
  (refine J6 (cs := es.flatten ++ [.string nm, .int .i64 k, .slice q ks.length d]) zD0 (fun G5 hle5 hsl5 hno5 => ?_))
  refine A4 ?_
  (exact ⟨rfl, _, _, rfl, W8.snoc (nm := nm) (t := .mk k ks) hx1 h2.len h2.all h2.one h3 hle5 ⟨_, _, rfl, hr.mono hle5⟩ hsl5⟩)
) : p := h
theorem y117 {p : Prop} (h : p := by
  refine A2 15 ?_
  refine C9 rfl ?_
  refine aP 16 rfl (qA rfl) rfl ?_
  refine V0 ?_
  (refine F4 rfl (A6p 4 (.mk tk tks) _ _ _ _ (.inl rfl) hta hma htyN hmr) rfl rfl (fun v G3 hle3 hh => ?_); obtain ⟨mc2, rfl, hmr2⟩ := hh; obtain ⟨p2, c2, e2, rfl, _⟩ := hmr2.open)
  refine E7 ?_
  refine H3 (rC rfl (A3 rfl rfl)) (rT rfl) ?_
  (rw [f5 _ zR0 zR0 (by first | exact hE | assumption)]; exact S8.mk rfl hmr2 (A5Z (.inl rfl) hta hma))
) : p := h
theorem y118 {p : Prop} (h : p := by
  (obtain ⟨x, xs, rfl⟩ : ∃ x xs, ks = x :: xs := List.exists_cons_of_ne_nil (hQ zR0); simp only [P1] at hkl; obtain ⟨e0, es0, Fa, Fb, rfl, hx, hxs, rfl⟩ := hkl; obtain ⟨e', b, o, he', rfl, hl, _, hat, _⟩ := hslG.get (i := 0) zS0; simp only [List.getElem?_cons_zero, Option.some.injEq] at he'; subst he'; refine sP (B8 (j := 0) rfl rfl rfl zS0) rfl rfl ?_)
  refine sL (A5 rfl rfl (hat _) hl) rfl rfl ?_
  refine sS rfl rfl rfl hl hx.R.one rfl ?_ (hu := by exact C6 hl.symm)
  refine A8 ?_
  refine P5 (rC rfl (A5 rfl rfl (B3 zI0) hl)) ?_
  (rw [hbA zR0]; exact ⟨rfl, rfl, _, _, rfl, hx, by rw [List.nodup_append, List.nodup_append] at n3; exact n3.2.1.1⟩)
) : p := h
theorem y119 {p : Prop} (h : p := by
  refine H3 (rC rfl (A3 rfl rfl)) (rT rfl) ?_
  (rw [hno (fun hc => by first | omega | exact Bool.noConfusion (hc.1.symm.trans (show M3 t = false by assumption)) | exact Bool.noConfusion ((hc.2.2 _ (List.getElem_mem (show i < L.length by omega))).symm.trans zO0))]; exact ⟨rfl, _, rfl, (Q3.zero _).R⟩)
) : p := h
theorem y120 {p : Prop} (h : p := by
  refine A2 15 ?_
  refine C9 rfl ?_
  refine aP 16 rfl (qA rfl) rfl ?_
  refine Z0 ?_
  refine H3 (rC rfl (A3 rfl rfl)) (rT rfl) ?_
  (rw [f4 zR0 zR0 (by first | exact hE | assumption)]; exact S8.no rfl (L9 _ ⟨by omega, by omega⟩) (X6 zR0 zR0))
) : p := h
theorem y121 {p : Prop} (h : p := by
  refine sL (A5 rfl rfl (B3 zI0) zO0) rfl rfl ?_
  (refine F4 rfl (by first | exact hA1 zO0 | exact hA2 zO0) rfl rfl (fun v G3 hle3 hh => ?_); obtain ⟨cells', F', rfl, hs', hnd'⟩ := hh; have hl' := hs'.R.len; have ho' := hs'.R.one)
  refine sS rfl rfl rfl hl' ho' rfl ?_ (hu := by exact C6 hl'.symm)
  refine B5 ?_
  refine H3 (rC rfl (A5 rfl rfl (B3 zI0) hl')) (rT rfl) ?_
  exact TbP.mk (if_pos (by simp [*])) hs' hnd'
) : p := h
theorem y122 {p : Prop} (h : p := by
  refine A2 13 ?_
  refine C9 rfl ?_
  refine aP 14 rfl (qA rfl) rfl ?_
  refine A8 ?_
  refine H3 (rC rfl (A3 rfl rfl)) (rT rfl) ?_
  (have hk8 : k = 8 := zR0; exact S8.mk (by rw [A6r (.inr hk8) zR0]; simp_all [W7, A0v]) (L9 _ ⟨by omega, by omega⟩) (X6 zR0 zR0))
) : p := h
theorem y123 {p : Prop} (h : p := by
  refine A2 13 ?_
  refine C9 rfl ?_
  refine aP 14 rfl (qA rfl) rfl ?_
  refine A8 ?_
  refine H3 (rC rfl (A3 rfl rfl)) (rT rfl) ?_
  (have hk7 : k = 7 := zR0; exact S8.mk (by rw [A6r (.inl hk7) zR0]; simp_all [W7]) (L9 _ ⟨by omega, by omega⟩) (X6 zR0 zR0))
) : p := h
theorem A6q : ∀ (xs ys : List Ty), xs.length = ys.length → (W2 xs ys).length = xs.length
 | [], [], _ => rfl
 | a :: xs, b :: ys, h => by simp only [W2, List.length_cons]; rw [A6q xs ys (by simpa using h)]
 | [], b :: ys, h => by simp at h
 | a :: xs, [], h => by simp at h
theorem A79 : ∀ (xs ys : List Ty) (i : Nat) (h : i < xs.length) (h' : i < ys.length) (hl : i < (W2 xs ys).length), (W2 xs ys)[i] = Y2 xs[i] ys[i]
 | [], _, i, h, _, _ => by simp at h
 | a :: xs, [], i, _, h', _ => by simp at h'
 | a :: xs, b :: ys, 0, _, _, _ => by simp [W2]
 | a :: xs, b :: ys, i + 1, h, h', hl => by
  simp only [W2, List.getElem_cons_succ]
  exact A79 xs ys i (by simpa using h) (by simpa using h') _
theorem B66 {xs ys : List Ty} {i : Nat} (hl : xs.length = ys.length) (h : i < xs.length) : (W2 xs ys).take (i + 1) = (W2 xs ys).take i ++ [Y2 xs[i] (ys[i]'zR0)] := by
 rw [List.take_succ_eq_append_getElem (by rw [A6q _ _ hl]; exact h), A79 _ _ i h zR0]
theorem B67 : ∀ (a b : Ty) (G : IM) (ca cb : List Value), N6 a b = true → I4 a → I4 b → C7 G a ca → C7 G b cb → Fn Tryz.prog 142 [.agg ⟨ca⟩, .agg ⟨cb⟩] [] G (N8 fun G' v => ∃ cells, v = .agg ⟨cells⟩ ∧ C7 G' (Y2 a b) cells) := by
 refine Ty.ind fun ak aks ih b G ca cb hc ha hb hra hrb => ?_
 obtain ⟨bk, bks⟩ := b
 have hka := ha.kid
 have hkb := hb.kid
 have hca := Z9 _ G _ ha.small hra
 have hcb := Z9 _ G _ hb.small hrb
 have hcc : ak ≠ 1 → bk ≠ 1 → aks.length = bks.length ∧ ∀ i, (h : i < aks.length) → (h' : i < bks.length) → N6 aks[i] bks[i] = true := by
  intro h1 h2
  rw [V9, decide_eq_false h1, decide_eq_false h2] at hc
  simp only [Bool.false_or, Bool.and_eq_true, decide_eq_true_eq] at hc
  exact (A3v _ _).1 hc.2
 rw [A10]
 obtain ⟨pa, cca, ea, rfl, hak, hsla, hkla⟩ := hra.open
 obtain ⟨pb, ccb, eb, rfl, hbk, hslb, hklb⟩ := hrb.open
 simp only [Ty.k, Ty.ks] at hak hsla hkla hbk hslb hklb ⊢
 have hna := hsla.le
 have hnb := hslb.le
 have hl2 := ha.two
 refine C0 Tryz.func142 rfl Tryz.ntmps142 Tryz.results142 rfl ?_
 intro w0
 refine A4 ?_
 refine sE (B6 rfl rfl) rfl (fun b3 => ?_)
 refine sE (B6 rfl rfl) rfl (fun b4 => ?_)
 refine sE (A6 rfl) rfl (fun b5 => ?_)
 refine B0 ?_
 refine sB (qE rfl rfl) rfl rfl (fun h13 => ?_) (fun h13 => ?_)
 refine A9 ?_
 (refine F4 rfl (by first | exact hcb | exact hca) rfl rfl (fun v G1 hle1 hh => ?_); obtain ⟨cs1, F1, rfl, hs1, hn1⟩ := hh; obtain ⟨p1, c1, rfl, _⟩ := hs1.open; have hr1 := hs1.R.mono (E0.le G1 G))
 refine A8 ?_
 refine P5 (rC rfl (A3 rfl rfl)) ?_
 (rw [if_pos zR0]; exact ⟨rfl, _, rfl, hr1⟩)
 refine J2 ?_
 refine sB (qE rfl rfl) rfl rfl (fun h38 => ?_) (fun h38 => ?_)
 refine A9 ?_
 (refine F4 rfl (by first | exact hcb | exact hca) rfl rfl (fun v G1 hle1 hh => ?_); obtain ⟨cs1, F1, rfl, hs1, hn1⟩ := hh; obtain ⟨p1, c1, rfl, _⟩ := hs1.open; have hr1 := hs1.R.mono (E0.le G1 G))
 refine A8 ?_
 refine P5 (rC rfl (A3 rfl rfl)) ?_
 (rw [if_neg zR0, if_pos zR0]; exact ⟨rfl, _, rfl, hr1⟩)
 refine J2 ?_
 refine sE (A6 rfl) rfl (fun b63 => ?_)
 refine E7 ?_
 refine C2 ?_
 (obtain ⟨hlab, hcab⟩ := hcc zR0 zR0; refine X1 25 2 ?_; refine L8 (fun (x : Nat × Option Addr × Nat × List Ty × List (List Value) × IM) => ⟨[(6, .int .i64 x.1), (5, .pointer (some ⟨b63, 0, none⟩)), (4, .pointer (some ⟨b5, 0, none⟩)), (2, .pointer (some ⟨b3, 0, none⟩)), (3, .pointer (some ⟨b4, 0, none⟩))], [.blk b63 [.int .i64 ak, .slice x.2.1 x.1 x.2.2.1], .slc x.2.1 x.2.2.1 25 2 x.1 x.2.2.2.2.1.flatten, .blk b5 [.int .i64 0, .slice none 0 0], .blk b4 [.int .i64 bk, .slice pb bks.length ccb], .blk b3 [.int .i64 ak, .slice pa aks.length cca]], x.2.2.2.2.2⟩) (fun x => x.1 ≤ aks.length ∧ B9 G x.2.2.2.2.2 ∧ x.2.2.2.1.length = x.1 ∧ D9 x.2.2.2.2.2 x.2.2.2.1 x.2.2.2.2.1 ∧ x.2.2.2.1 = (W2 aks bks).take x.1) (fun x => aks.length - x.1) (0, none, 0, [], [], G) ?_ ?_ ?_)
 (simp only [I9]; exact F8)
 (exact ⟨by simp, B9.refl _, rfl, by simp [D9], rfl⟩)
 (rintro ⟨i, pn, cn, us, es', Gi⟩ ⟨hi, hle, hlu, hst, hus⟩; simp only [] at hi hle hlu hst hus ⊢; replace hsla := hsla.mono hle; replace hkla := hkla.mono hle; replace hslb := hslb.mono hle; replace hklb := hklb.mono hle)
 refine B0 ?_
 refine sB (N5 rfl rfl) rfl rfl (fun h85 => ?_) (fun h85 => ?_)
 refine A9 ?_
 refine C2 ?_
 (obtain ⟨b, o, q0, d0, hp0, hat0, hre0, hg0⟩ := hsla.kidTy hkla (i := i) zR0 zR0; obtain ⟨b', o', q1, d1, hp1, hat1, hre1, hg1⟩ := hslb.kidTy hklb (i := i) zR0 zR0; subst hp0; subst hp1; have hih := ih aks[i] (List.getElem_mem zR0) bks[i] Gi _ _ (hcab i zR0 zR0) (hka _ (List.getElem_mem zR0)) (hkb _ (List.getElem_mem zR0)) hre0 hre1; refine D3 D4 rfl ?_)
 refine J4 (i := 0) (l' := [tt,ff,ff,ff,ff,ff,ff,ff,ff,ff,ff,ff,ff,ff,ff,ff,ff]) rfl C8 (C3 rfl) rfl zP0 rfl rfl ?_
 refine aL 1 rfl (F0 rfl rfl) rfl ?_
 refine aP 2 rfl (C3 rfl) rfl ?_
 refine aL 3 rfl (F0 rfl rfl) rfl ?_
 refine aP 4 rfl (qM rfl) rfl ?_
 refine aP 5 rfl (B8 rfl rfl rfl zR0) rfl ?_
 refine aL 6 rfl (A5 rfl rfl (hat0 _) rfl) rfl ?_
 refine aP 7 rfl (C3 rfl) rfl ?_
 refine aL 8 rfl (F0 rfl rfl) rfl ?_
 refine aP 9 rfl (qM rfl) rfl ?_
 refine aP 10 rfl (B8 rfl rfl rfl zR0) rfl ?_
 refine aL 11 rfl (A5 rfl rfl (hat1 _) rfl) rfl ?_
 refine A2 12 ?_
 (refine H1 rfl rfl hih rfl rfl rfl (fun v G1 hle1 hh => ?_); obtain ⟨cells', rfl, hru⟩ := hh; generalize hu : Y2 aks[i] bks[i] = u at hru; obtain ⟨p3, c3, es3, rfl, _⟩ := hru.open)
 refine A2 13 ?_
 (refine D2 rfl (D1 rfl rfl rfl zR0 zL0 rfl) rfl rfl ?_; rintro _ ⟨b109, rfl⟩)
 refine A2 14 ?_
 refine P0 rfl rfl rfl rfl rfl rfl (fun _ _ => by repeat (first | exact Sw.here | apply Sw.there)) (K4 zI0) rfl zK0 zL0 zR0 rfl rfl zR (fun pn' cn' => ?_)
 refine aP 15 rfl (C3 rfl) rfl ?_
 refine A2 16 ?_
 refine T7 rfl rfl rfl rfl rfl rfl rfl rfl zM0 zF0 (by rfl) ?_
 refine A8 ?_
 refine sP (K0 rfl rfl zR0 zR0) rfl rfl ?_
 refine A4 ?_
 refine J7 (i + 1, pn', cn', us ++ [u], es' ++ [[.int .i64 u.k, .slice p3 u.ks.length c3]], G1) ?_ ?_ ?_
 (simp only [I9]; exact F8)
 (dsimp only; exact ⟨by omega, hle.trans hle1, by simp [hlu], D9.snoc (hst.mono hle1) hru, by rw [B66 hlab zR0, ← hus, hu]⟩)
 (show aks.length - (i + 1) < aks.length - i; omega)
 refine M8 ?_
 (refine J6 zD0 (fun G2 hle2 hsl2 hno2 => ?_); obtain rfl : i = aks.length := zR0)
 refine tT ?_
 refine P5 (rC rfl (A3 rfl rfl)) ?_
 (rw [List.take_of_length_le (by rw [A6q _ _ hlab]; omega)] at hus; rw [if_neg zR0, if_neg zR0, ← hus]; exact ⟨rfl, _, rfl, (hst.mono hle2).ty hlu hsl2 hak⟩)
theorem gD {ts : List Ty} {i : Nat} (h : i < ts.length) : ts.getD i B4 = ts[i] := by rw [List.getD_eq_getElem?_getD, List.getElem?_eq_getElem h, Option.getD_some]
section
variable {cx : Cx} {k : Int} {nm : ByteArray} {ty : Ty} {ts : List Ty}
theorem B1s (h : 1 < ts.length) : A0q cx 6 nm ty ts = match U5 4 ts[0] with | some (a, b) => if N6 ts[1] a = true then some b else none | none => none := by
 unfold A0q P8
 rw [gD (i := 0) zR0, gD (i := 1) h]
 simp only [show ¬((6 : Int) = 1) by decide, show ¬((6 : Int) = 2) by decide, show ¬((6 : Int) = 3 ∨ (6 : Int) = 4) by decide, show ¬((6 : Int) = 5) by decide, if_false, if_true]
 cases U5 4 ts[0] with
 | none => rfl
 | some p =>
  obtain ⟨a, b⟩ := p
  by_cases hc : N6 ts[1] a = true
  ·simp [hc]
  ·simp [hc]
theorem A6r (hk : k = 7 ∨ k = 8) (h : 1 < ts.length) : A0q cx k nm ty ts = if N6 ts[0] W7 = true ∧ N6 ts[1] W7 = true then some (if k = 8 then A0v else W7) else none := by
 unfold A0q P8
 rw [gD (i := 0) zR0, gD (i := 1) h, if_neg zR0, if_neg zR0, if_neg zR0, if_neg zR0, if_neg zR0, if_pos hk]
 by_cases hc : N6 ts[0] W7 = true ∧ N6 ts[1] W7 = true
 ·rw [if_pos hc, if_pos hc]; simp only; rw [if_neg zR0]
 ·rw [if_neg hc, if_neg hc]
theorem B1t (h : 2 < ts.length) : A0q cx 9 nm ty ts = if N6 ts[0] A0v = true ∧ N6 ts[1] ts[2] = true then some (Y2 ts[1] ts[2]) else none := by
 unfold A0q P8
 rw [gD (i := 0) zR0, gD (i := 1) zR0, gD (i := 2) h, if_neg zR0, if_neg zR0, if_neg zR0, if_neg zR0, if_neg zR0, if_neg zR0, if_pos rfl]
 by_cases hc : N6 ts[0] A0v = true ∧ N6 ts[1] ts[2] = true
 ·rw [if_pos hc, if_pos hc]; simp
 ·rw [if_neg hc, if_neg hc]
theorem B68 (h : 1 < ts.length) : A0q cx 10 nm ty ts = if H9 (.mk 5 [ts[0], ts[1]]) = true then some (.mk 5 [ts[0], ts[1]]) else none := by
 unfold A0q P8
 rw [gD (i := 0) zR0, gD (i := 1) h, if_neg zR0, if_neg zR0, if_neg zR0, if_neg zR0, if_neg zR0, if_neg zR0, if_neg zR0, if_pos rfl]
 cases hv : H9 (.mk 5 [ts[0], ts[1]]) <;> simp [hv]
theorem B69 (h : 0 < ts.length) : A0q cx 13 nm ty ts = if N6 ts[0] ty = true then some ty else none := by
 unfold A0q P8
 rw [gD (i := 0) h, if_neg zR0, if_neg zR0, if_neg zR0, if_neg zR0, if_neg zR0, if_neg zR0, if_neg zR0, if_neg zR0, if_pos rfl]
 by_cases hc : N6 ts[0] ty = true
 ·rw [if_pos hc, if_pos hc]; simp
 ·rw [if_neg hc, if_neg hc]
theorem A6s (hk : k = 11 ∨ k = 12) (h : 0 < ts.length) : A0q cx k nm ty ts = match U5 5 ts[0] with | some (a, b) => some (if k = 12 then b else a) | none => none := by
 unfold A0q P8
 rw [gD (i := 0) h, if_neg zR0, if_neg zR0, if_neg zR0, if_neg zR0, if_neg zR0, if_neg zR0, if_neg zR0, if_neg zR0, if_neg zR0]
 cases U5 5 ts[0] with
 | none => rfl
 | some p =>
  obtain ⟨a, b⟩ := p
  simp only
  rw [if_neg zR0]
end
theorem B7a : ∀ (a b : Ty), N6 a b = true → I4 a → I4 b → I4 (Y2 a b) := by
 refine Ty.ind fun k ks ih b hc ha hb => ?_
 obtain ⟨k', ks'⟩ := b
 rw [A10]
 split
 ·exact hb
 ·split
  ·exact ha
  ·rw [V9] at hc
   simp only [Bool.or_eq_true, Bool.and_eq_true, decide_eq_true_eq] at hc
   obtain ⟨hk, hl⟩ : k = k' ∧ P7 ks ks' = true := by
    rcases hc with (h | h) | h
    ·contradiction
    ·contradiction
    ·exact h
   obtain ⟨hll, hcc⟩ := (A3v _ _).1 hl
   have hlen := A6q ks ks' hll
   refine A93 ha hlen fun u hu => ?_
   obtain ⟨i, hi, rfl⟩ := List.mem_iff_getElem.1 hu
   rw [A79 ks ks' i zR0 zR0]
   exact ih _ (List.getElem_mem _) _ (hcc i zR0 zR0) (ha.kid _ (List.getElem_mem _)) (hb.kid _ (List.getElem_mem _))
theorem B7b (cx : Cx) (k : Int) (nm : ByteArray) (num : Int) (ty fr : Ty) (lb : Int) (ks : List Tm) (ts : List Ty) (G : IM) (cells : List Value) (p : Option Addr) (c : Nat) (es : List (List Value))
  (hops : E8 k = ts.length) (hk6 : 6 ≤ k ∧ k ≤ 13) (hty : I4 ty) (hr : B7 G (.mk k nm num ty fr lb ks) cells) (hsl : D7 G p ts.length c 2 es) (hkl : D9 G ts es) (har : ∀ t ∈ ts, I4 t) :
  Fn Tryz.prog 125 [.agg ⟨cells⟩, .slice p ts.length c] [] G (S8 (A0q cx k nm ty ts) G) := by
 have hone := hr.one
 have hop := A50 hops
 have ha0 := fun h : 0 < ts.length => har _ (List.getElem_mem h)
 have ha1 := fun h : 1 < ts.length => har _ (List.getElem_mem h)
 have ha2 := fun h : 2 < ts.length => har _ (List.getElem_mem h)
 obtain ⟨tk, tks⟩ := ty
 obtain ⟨fk, fks⟩ := fr
 obtain ⟨pt, ct, pf, cf, pk, ck, ek, rfl, hk, hnum, hlb, hrty, hrfr, _, _⟩ := hr.open9
 refine C0 Tryz.func125 rfl Tryz.ntmps125 Tryz.results125 rfl ?_
 intro w0
 refine A4 ?_
 refine sE (B6 rfl rfl) rfl (fun b3 => ?_)
 refine sE (A6 rfl) rfl (fun b4 => ?_)
 refine J2 ?_
 refine C2 (tS (tR (sB (qE rfl rfl) rfl rfl (fun h18 => ?_) (fun h18 => ?_))))
 refine B0 ?_
 (have hl2 : ts.length = 2 := hop.1 zR0; obtain ⟨b0, o0, q0, d0, hp0, hat0, hre0, hg0⟩ := hsl.kidTy hkl (i := 0) zR0 zR0; obtain ⟨b1, o1, q1, d1, hp1, hat1, hre1, hg1⟩ := hsl.kidTy hkl (i := 1) zR0 zR0; cases hp0; cases hp1; refine sP (B8 (j := 0) rfl rfl rfl zR0) rfl rfl ?_)
 refine sL (A5 rfl rfl (hat0 _) rfl) rfl rfl ?_
 focus (refine F4 rfl (A78 4 ts[0] G _ (.inl rfl) (ha0 zR0) hre0) rfl rfl (fun v G1 hle1 hh => ?_); obtain ⟨ma, mca, mb, mcb, rfl, hma, hmb, hma2, hmb2, hpp⟩ := hh; obtain ⟨p1, c1, e1, rfl, _⟩ := hma.open; obtain ⟨p2, c2, e2, rfl, _⟩ := hmb.open; replace hsl := hsl.mono hle1; replace hkl := hkl.mono hle1; rcases hm : U5 4 ts[0] with _ | pr; rotate_left; obtain rfl := hpp _ hm; rotate_left; all_goals simp only [Option.isSome])
 refine B5 ?_
 refine sE (A6 rfl) rfl (fun b33 => ?_)
 refine sE (A6 rfl) rfl (fun b34 => ?_)
 refine A9 ?_
 (have hl2 : ts.length = 2 := hop.1 zR0; obtain ⟨b0, o0, q0, d0, hp0, hat0, hre0, hg0⟩ := hsl.kidTy hkl (i := 0) zR0 zR0; obtain ⟨b1, o1, q1, d1, hp1, hat1, hre1, hg1⟩ := hsl.kidTy hkl (i := 1) zR0 zR0; cases hp0; cases hp1; refine D3 D4 rfl ?_)
 refine J3 (i := 0) (l' := [tt,ff,ff,ff,ff,ff,ff,ff,ff,ff,ff]) rfl C8 (A3 rfl rfl) rfl zP0 rfl rfl ?_
 refine aP 1 rfl (qM rfl) rfl ?_
 refine aP 2 rfl (qM rfl) rfl ?_
 refine D6 3 rfl rfl rfl ?_
 refine D6 4 rfl rfl rfl ?_
 refine D6 5 rfl rfl rfl ?_
 refine D6 6 rfl rfl rfl ?_
 refine D6 7 rfl rfl rfl ?_
 refine aP 8 rfl (T6 rfl rfl) rfl ?_
 refine A2 9 ?_
 refine C9 rfl ?_
 refine aP 10 rfl (qA rfl) rfl ?_
 refine A8 ?_
 refine H3 (rC rfl (A3 rfl rfl)) (rT rfl) ?_
 (obtain rfl : k = 6 := zR0; exact S8.no (by rw [B1s zR0, hm]) hmb hmb2)
 refine B5 ?_
 refine sE (A6 rfl) rfl (fun b65 => ?_)
 refine sE (A6 rfl) rfl (fun b66 => ?_)
 refine A9 ?_
 (have hl2 : ts.length = 2 := hop.1 zR0; obtain ⟨b0, o0, q0, d0, hp0, hat0, hre0, hg0⟩ := hsl.kidTy hkl (i := 0) zR0 zR0; obtain ⟨b1, o1, q1, d1, hp1, hat1, hre1, hg1⟩ := hsl.kidTy hkl (i := 1) zR0 zR0; cases hp0; cases hp1; refine D3 D4 rfl ?_)
 refine J3 (i := 0) (l' := [tt,ff,ff,ff,ff,ff,ff,ff,ff,ff,ff]) rfl C8 (A3 rfl rfl) rfl zP0 rfl rfl ?_
 refine aP 1 rfl (qM rfl) rfl ?_
 refine aP 2 rfl (qM rfl) rfl ?_
 refine aP 3 rfl (qM rfl) rfl ?_
 refine aP 4 rfl (B8 (j := 1) rfl rfl rfl zR0) rfl ?_
 refine aL 5 rfl (A5 rfl rfl (hat1 _) rfl) rfl ?_
 refine aL 6 rfl (A3 rfl rfl) rfl ?_
 refine A2 7 ?_
 refine T2 rfl rfl ((A2Q ts[1] ma _ _ _ (ha1 zR0) hma2 hre1 hma)) rfl rfl rfl ?_
 refine aP 8 rfl (R8 rfl rfl) rfl ?_
 refine A2 9 ?_
 refine C9 rfl ?_
 refine aP 10 rfl (qA rfl) rfl ?_
 refine A8 ?_
 refine H3 (rC rfl (A3 rfl rfl)) (rT rfl) ?_
 (obtain rfl : k = 6 := zR0; exact S8.mk (by rw [B1s zR0, hm]) hmb hmb2)
 refine A9 ?_
 refine sB (qE rfl rfl) rfl rfl (fun h100 => ?_) (fun h100 => ?_)
 refine A8 ?_
 (have hl2 : ts.length = 2 := hop.1 zR0; obtain ⟨b0, o0, q0, d0, hp0, hat0, hre0, hg0⟩ := hsl.kidTy hkl (i := 0) zR0 zR0; obtain ⟨b1, o1, q1, d1, hp1, hat1, hre1, hg1⟩ := hsl.kidTy hkl (i := 1) zR0 zR0; cases hp0; cases hp1; refine D3 D4 rfl ?_)
 refine J4 (i := 1) (l' := [ff,tt,ff,ff,ff,ff,ff,ff,ff,ff,ff,ff,ff,ff,ff]) rfl C8 (qM rfl) rfl zP0 rfl rfl ?_
 refine aP 2 rfl (B8 (j := 0) rfl rfl rfl zR0) rfl ?_
 refine aL 3 rfl (A5 rfl rfl (hat0 _) rfl) rfl ?_
 refine A2 0 ?_
 refine T2 rfl rfl ((A1I _)) rfl rfl rfl ?_
 refine A2 4 ?_
 refine T2 rfl rfl ((A1I _)) rfl rfl rfl ?_
 refine A2 5 ?_
 refine A0g rfl rfl ((A2Q ts[0] (.mk 2 []) _ _ _ (ha0 zR0) (X6 zQ0 zQ0) hre0 (L9 _ ⟨by omega, by omega⟩))) rfl rfl rfl (fun h115 => ?_) (fun h115 => ?_)
 refine aP 6 rfl (qM rfl) rfl ?_
 refine aP 7 rfl (qM rfl) rfl ?_
 refine aP 8 rfl (B8 (j := 1) rfl rfl rfl zR0) rfl ?_
 refine aL 9 rfl (A5 rfl rfl (hat1 _) rfl) rfl ?_
 refine A2 10 ?_
 refine T2 rfl rfl ((A1I _)) rfl rfl rfl ?_
 refine A2 11 ?_
 refine T2 rfl rfl ((A2Q ts[1] (.mk 2 []) _ _ _ (ha1 zR0) (X6 zQ0 zQ0) hre1 (L9 _ ⟨by omega, by omega⟩))) rfl rfl rfl ?_
 refine aP 12 rfl (R8 rfl rfl) rfl ?_
 exact y123
 refine aP 6 rfl (qM rfl) rfl ?_
 refine D6 7 rfl rfl rfl ?_
 refine D6 8 rfl rfl rfl ?_
 refine D6 9 rfl rfl rfl ?_
 refine D6 10 rfl rfl rfl ?_
 refine D6 11 rfl rfl rfl ?_
 refine aP 12 rfl (T6 rfl rfl) rfl ?_
 exact y123
 refine A9 ?_
 refine sB (qE rfl rfl) rfl rfl (fun h158 => ?_) (fun h158 => ?_)
 refine A8 ?_
 (have hl2 : ts.length = 2 := hop.1 zR0; obtain ⟨b0, o0, q0, d0, hp0, hat0, hre0, hg0⟩ := hsl.kidTy hkl (i := 0) zR0 zR0; obtain ⟨b1, o1, q1, d1, hp1, hat1, hre1, hg1⟩ := hsl.kidTy hkl (i := 1) zR0 zR0; cases hp0; cases hp1; refine D3 D4 rfl ?_)
 refine J4 (i := 1) (l' := [ff,tt,ff,ff,ff,ff,ff,ff,ff,ff,ff,ff,ff,ff,ff]) rfl C8 (qM rfl) rfl zP0 rfl rfl ?_
 refine aP 2 rfl (B8 (j := 0) rfl rfl rfl zR0) rfl ?_
 refine aL 3 rfl (A5 rfl rfl (hat0 _) rfl) rfl ?_
 refine A2 0 ?_
 refine T2 rfl rfl ((A4X _)) rfl rfl rfl ?_
 refine A2 4 ?_
 refine T2 rfl rfl ((A1I _)) rfl rfl rfl ?_
 refine A2 5 ?_
 refine A0g rfl rfl ((A2Q ts[0] (.mk 2 []) _ _ _ (ha0 zR0) (X6 zQ0 zQ0) hre0 (L9 _ ⟨by omega, by omega⟩))) rfl rfl rfl (fun h173 => ?_) (fun h173 => ?_)
 refine aP 6 rfl (qM rfl) rfl ?_
 refine aP 7 rfl (qM rfl) rfl ?_
 refine aP 8 rfl (B8 (j := 1) rfl rfl rfl zR0) rfl ?_
 refine aL 9 rfl (A5 rfl rfl (hat1 _) rfl) rfl ?_
 refine A2 10 ?_
 refine T2 rfl rfl ((A1I _)) rfl rfl rfl ?_
 refine A2 11 ?_
 refine T2 rfl rfl ((A2Q ts[1] (.mk 2 []) _ _ _ (ha1 zR0) (X6 zQ0 zQ0) hre1 (L9 _ ⟨by omega, by omega⟩))) rfl rfl rfl ?_
 refine aP 12 rfl (R8 rfl rfl) rfl ?_
 exact y122
 refine aP 6 rfl (qM rfl) rfl ?_
 refine D6 7 rfl rfl rfl ?_
 refine D6 8 rfl rfl rfl ?_
 refine D6 9 rfl rfl rfl ?_
 refine D6 10 rfl rfl rfl ?_
 refine D6 11 rfl rfl rfl ?_
 refine aP 12 rfl (T6 rfl rfl) rfl ?_
 exact y122
 refine A9 ?_
 refine sB (qE rfl rfl) rfl rfl (fun h216 => ?_) (fun h216 => ?_)
 refine A9 ?_
 (have hl3 : ts.length = 3 := hop.2.1 zR0; obtain ⟨b0, o0, q0, d0, hp0, hat0, hre0, hg0⟩ := hsl.kidTy hkl (i := 0) zR0 zR0; obtain ⟨b1, o1, q1, d1, hp1, hat1, hre1, hg1⟩ := hsl.kidTy hkl (i := 1) zR0 zR0; obtain ⟨b2, o2, q2, d2, hp2, hat2, hre2, hg2⟩ := hsl.kidTy hkl (i := 2) zR0 zR0; cases hp0; cases hp1; cases hp2; refine D3 D4 rfl ?_)
 refine J4 (i := 0) (l' := [tt,ff,ff,ff,ff,ff,ff,ff]) rfl C8 (qM rfl) rfl zP0 rfl rfl ?_
 refine aP 1 rfl (B8 (j := 1) rfl rfl rfl zR0) rfl ?_
 refine aL 2 rfl (A5 rfl rfl (hat1 _) rfl) rfl ?_
 refine aP 3 rfl (qM rfl) rfl ?_
 refine aP 4 rfl (B8 (j := 2) rfl rfl rfl zR0) rfl ?_
 refine aL 5 rfl (A5 rfl rfl (hat2 _) rfl) rfl ?_
 refine A2 6 ?_
 refine A0g rfl rfl ((A2Q ts[1] ts[2] _ _ _ (ha1 zR0) (ha2 zR0) hre1 hre2)) rfl rfl rfl (fun h231 => ?_) (fun h231 => ?_)
 refine aP 7 rfl (pNt rfl) rfl ?_
 refine A9 ?_
 (have hl3 : ts.length = 3 := hop.2.1 zR0; obtain ⟨b0, o0, q0, d0, hp0, hat0, hre0, hg0⟩ := hsl.kidTy hkl (i := 0) zR0 zR0; obtain ⟨b1, o1, q1, d1, hp1, hat1, hre1, hg1⟩ := hsl.kidTy hkl (i := 1) zR0 zR0; obtain ⟨b2, o2, q2, d2, hp2, hat2, hre2, hg2⟩ := hsl.kidTy hkl (i := 2) zR0 zR0; cases hp0; cases hp1; cases hp2; refine D3 D4 rfl ?_)
 refine J4 (i := 0) (l' := [tt,ff,ff,ff,ff,ff,ff,ff,ff,ff,ff,ff,ff,ff]) rfl C8 (qM rfl) rfl zP0 rfl rfl ?_
 refine aP 1 rfl (B8 (j := 1) rfl rfl rfl zR0) rfl ?_
 refine aL 2 rfl (A5 rfl rfl (hat1 _) rfl) rfl ?_
 refine aP 3 rfl (qM rfl) rfl ?_
 refine aP 4 rfl (B8 (j := 2) rfl rfl rfl zR0) rfl ?_
 refine aL 5 rfl (A5 rfl rfl (hat2 _) rfl) rfl ?_
 refine aP 7 rfl (qM rfl) rfl ?_
 refine aP 8 rfl (B8 (j := 0) rfl rfl rfl zR0) rfl ?_
 refine aL 9 rfl (A5 rfl rfl (hat0 _) rfl) rfl ?_
 refine A2 6 ?_
 (refine H1 rfl rfl (B67 ts[1] ts[2] G _ _ zO0 (ha1 zR0) (ha2 zR0) hre1 hre2) rfl rfl rfl (fun v G1 hle1 hh => ?_); obtain ⟨mc, rfl, hmr⟩ := hh; obtain ⟨mt, hmt⟩ : ∃ mt, Y2 ts[1] ts[2] = mt := ⟨_, rfl⟩; rw [hmt] at hmr; have hma : I4 mt := (hmt ▸ B7a ts[1] ts[2] zO0 (ha1 zR0) (ha2 zR0)); obtain ⟨p1, c1, e1, rfl, _⟩ := hmr.open; have hre0q := hre0.mono hle1)
 refine A2 10 ?_
 refine T2 rfl rfl ((A4X _)) rfl rfl rfl ?_
 refine A2 11 ?_
 refine T2 rfl rfl ((A2Q ts[0] (.mk 3 []) _ _ _ (ha0 zR0) (X6 zQ0 zQ0) hre0q (L9 _ ⟨by omega, by omega⟩))) rfl rfl rfl ?_
 refine A2 12 ?_
 refine C9 rfl ?_
 refine aP 13 rfl (qA rfl) rfl ?_
 refine A8 ?_
 refine H3 (rC rfl (A3 rfl rfl)) (rT rfl) ?_
 (obtain rfl : k = 9 := zR0; exact S8.mk (by rw [B1t zR0, hmt]; simp_all [A0v]) hmr hma)
 refine aP 7 rfl (pNf rfl) rfl ?_
 refine M8 ?_
 refine H3 (rC rfl (A3 rfl rfl)) (rT rfl) ?_
 (obtain rfl : k = 9 := zR0; exact S8.no (by rw [B1t zR0]; simp_all) (L9 _ ⟨by omega, by omega⟩) (X6 zR0 zR0))
 refine A9 ?_
 refine sB (qE rfl rfl) rfl rfl (fun h288 => ?_) (fun h288 => ?_)
 refine A8 ?_
 (have hl2 : ts.length = 2 := hop.1 zR0; obtain ⟨b0, o0, q0, d0, hp0, hat0, hre0, hg0⟩ := hsl.kidTy hkl (i := 0) zR0 zR0; obtain ⟨b1, o1, q1, d1, hp1, hat1, hre1, hg1⟩ := hsl.kidTy hkl (i := 1) zR0 zR0; cases hp0; cases hp1; refine D3 D4 rfl ?_)
 refine J4 (i := 0) (l' := [tt,ff,ff,ff,ff,ff,ff,ff,ff,ff,ff]) rfl C8 (qM rfl) rfl zP0 rfl rfl ?_
 refine aP 1 rfl (B8 (j := 0) rfl rfl rfl zR0) rfl ?_
 refine aL 2 rfl (A5 rfl rfl (hat0 _) rfl) rfl ?_
 refine aP 3 rfl (qM rfl) rfl ?_
 refine aP 4 rfl (B8 (j := 1) rfl rfl rfl zR0) rfl ?_
 refine aL 5 rfl (A5 rfl rfl (hat1 _) rfl) rfl ?_
 refine A2 6 ?_
 (refine H1 rfl rfl (A6p 5 ts[0] ts[1] G _ _ (.inr rfl) (ha0 zR0) (ha1 zR0) hre0 hre1) rfl rfl rfl (fun v G1 hle1 hh => ?_); obtain ⟨mc, rfl, hmr⟩ := hh; have hma := A5Z (.inr rfl) (ha0 zR0) (ha1 zR0); obtain ⟨p1, c1, e1, rfl, _⟩ := hmr.open)
 refine aP 7 rfl (pX rfl rfl) rfl ?_
 refine aP 8 rfl (pX rfl rfl) rfl ?_
 refine A2 9 ?_
 refine C9 rfl ?_
 refine aP 10 rfl (qA rfl) rfl ?_
 refine A8 ?_
 refine H3 (rC rfl (A3 rfl rfl)) (rT rfl) ?_
 (obtain rfl : k = 10 := zR0; exact S8.mk (by rw [B68 zR0]) hmr hma)
 refine A9 ?_
 refine sB (qE rfl rfl) rfl rfl (fun h321 => ?_) (fun h321 => ?_)
 refine B0 ?_
 (have hl1 : ts.length = 1 := hop.2.2 zR0; obtain ⟨b0, o0, q0, d0, hp0, hat0, hre0, hg0⟩ := hsl.kidTy hkl (i := 0) zR0 zR0; cases hp0; refine sP (B8 (j := 0) rfl rfl rfl zR0) rfl rfl ?_)
 refine sL (A5 rfl rfl (hat0 _) rfl) rfl rfl ?_
 focus (refine F4 rfl (A78 5 ts[0] G _ (.inr rfl) (ha0 zR0) hre0) rfl rfl (fun v G1 hle1 hh => ?_); obtain ⟨ma, mca, mb, mcb, rfl, hma, hmb, hma2, hmb2, hpp⟩ := hh; obtain ⟨p1, c1, e1, rfl, _⟩ := hma.open; obtain ⟨p2, c2, e2, rfl, _⟩ := hmb.open; rcases hm : U5 5 ts[0] with _ | pr; rotate_left; obtain rfl := hpp _ hm; rotate_left; all_goals simp only [Option.isSome])
 refine B5 ?_
 refine sE (A6 rfl) rfl (fun b336 => ?_)
 refine sE (A6 rfl) rfl (fun b337 => ?_)
 refine N3 ?_
 refine H3 (rC rfl (A3 rfl rfl)) (rT rfl) ?_
 (have hk11 : k = 11 := zR0; exact S8.no (by rw [A6s (.inl hk11) zR0, hm]) hma hma2)
 refine B5 ?_
 refine sE (A6 rfl) rfl (fun b360 => ?_)
 refine sE (A6 rfl) rfl (fun b361 => ?_)
 refine N3 ?_
 refine H3 (rC rfl (A3 rfl rfl)) (rT rfl) ?_
 (have hk11 : k = 11 := zR0; exact S8.yes (by rw [A6s (.inl hk11) zR0, hm]; simp only; rw [if_neg zR0]) hma hma2)
 refine A9 ?_
 refine sB (qE rfl rfl) rfl rfl (fun h386 => ?_) (fun h386 => ?_)
 refine B0 ?_
 (have hl1 : ts.length = 1 := hop.2.2 zR0; obtain ⟨b0, o0, q0, d0, hp0, hat0, hre0, hg0⟩ := hsl.kidTy hkl (i := 0) zR0 zR0; cases hp0; refine sP (B8 (j := 0) rfl rfl rfl zR0) rfl rfl ?_)
 refine sL (A5 rfl rfl (hat0 _) rfl) rfl rfl ?_
 focus (refine F4 rfl (A78 5 ts[0] G _ (.inr rfl) (ha0 zR0) hre0) rfl rfl (fun v G1 hle1 hh => ?_); obtain ⟨ma, mca, mb, mcb, rfl, hma, hmb, hma2, hmb2, hpp⟩ := hh; obtain ⟨p1, c1, e1, rfl, _⟩ := hma.open; obtain ⟨p2, c2, e2, rfl, _⟩ := hmb.open; rcases hm : U5 5 ts[0] with _ | pr; rotate_left; obtain rfl := hpp _ hm; rotate_left; all_goals simp only [Option.isSome])
 refine B5 ?_
 refine sE (A6 rfl) rfl (fun b401 => ?_)
 refine sE (A6 rfl) rfl (fun b402 => ?_)
 refine N3 ?_
 refine H3 (rC rfl (A3 rfl rfl)) (rT rfl) ?_
 (have hk12 : k = 12 := zR0; exact S8.no (by rw [A6s (.inr hk12) zR0, hm]) hmb hmb2)
 refine B5 ?_
 refine sE (A6 rfl) rfl (fun b425 => ?_)
 refine sE (A6 rfl) rfl (fun b426 => ?_)
 refine N3 ?_
 refine H3 (rC rfl (A3 rfl rfl)) (rT rfl) ?_
 (have hk12 : k = 12 := zR0; exact S8.yes (by rw [A6s (.inr hk12) zR0, hm]; simp only; rw [if_pos zR0]) hmb hmb2)
 refine A9 ?_
 refine sP (O1 rfl rfl zR0) rfl rfl ?_
 refine A8 ?_
 (have hl1 : ts.length = 1 := hop.2.2 zR0; obtain ⟨b0, o0, q0, d0, hp0, hat0, hre0, hg0⟩ := hsl.kidTy hkl (i := 0) zR0 zR0; cases hp0; refine D3 D4 rfl ?_)
 refine J4 (i := 0) (l' := [tt,ff,ff,ff,ff,ff,ff,ff,ff,ff,ff]) rfl C8 (C3 rfl) rfl zP0 rfl rfl ?_
 refine aL 1 rfl (A3 rfl rfl) rfl ?_
 refine aP 3 rfl (qM rfl) rfl ?_
 refine aP 4 rfl (B8 (j := 0) rfl rfl rfl zR0) rfl ?_
 refine aL 5 rfl (A5 rfl rfl (hat0 _) rfl) rfl ?_
 refine aP 6 rfl (C3 rfl) rfl ?_
 refine aL 7 rfl (A3 rfl rfl) rfl ?_
 refine A2 2 ?_
 (refine H1 rfl rfl (Z9 (.mk tk tks) G _ hty.small hrty) rfl rfl rfl (fun v G1 hle1 hh => ?_); obtain ⟨cs1, F1, rfl, hs1, hn1⟩ := hh; obtain ⟨p1, c1, rfl, _⟩ := hs1.open; have hmr := hs1.R.mono (E0.le G1 G); have hre0q := hre0.mono hle1; have hrtyq := hrty.mono hle1)
 refine A2 8 ?_
 refine T2 rfl rfl ((A2Q ts[0] (.mk tk tks) _ _ _ (ha0 zR0) hty hre0q hrtyq)) rfl rfl rfl ?_
 refine A2 9 ?_
 refine C9 rfl ?_
 refine aP 10 rfl (qA rfl) rfl ?_
 refine A8 ?_
 refine H3 (rC rfl (A3 rfl rfl)) (rT rfl) ?_
 (obtain rfl : k = 13 := zR0; exact S8.mk (by rw [B69 zR0]) hmr hty)
section
variable {ak bk : Int} {aks bks : List Ty}
end
theorem B7c (G : IM) (cx : Cx) (p : Option Addr) (n c : Nat) (nm : ByteArray) (t : Ty) (cells : List Value) (hx : W8 G cx p n c) (hn : n ≤ 1000) (hr : C7 G t cells) :
  Fn Tryz.prog 123 [.slice p n c, .string nm, .agg ⟨cells⟩] [] G (N8 fun G' v => ∃ p' c', v = .slice p' (n + 1) c' ∧ W8 G' (cx ++ [(nm, t)]) p' (n + 1) c') := by
 obtain ⟨k, ks⟩ := t
 obtain ⟨q, d, es0, rfl, _⟩ := hr.open
 simp only [Ty.k, Ty.ks] at hr ⊢
 obtain ⟨hx1, es, h2, h3⟩ := id hx
 have hSl : Sl G p n c 3 es.flatten := h2.1
 have h1c : ∀ u ∈ es.flatten, u.oneCell' = true := by
  intro u hu
  obtain ⟨e, he, hue⟩ := List.mem_flatten.1 hu
  exact List.all_eq_true.1 (h2.one e he) u hue
 refine C0 Tryz.func123 rfl Tryz.ntmps123 Tryz.results123 rfl ?_
 intro w0
 refine A4 ?_
 refine sE (B6 rfl rfl) rfl (fun b3 => ?_)
 refine B5 ?_
 refine D3 D4 rfl ?_
 refine J4 (i := 1) (l' := [ff,tt,ff,ff,ff,ff,ff,ff,ff]) rfl C8 (qM rfl) rfl zP0 rfl rfl ?_
 refine aP 3 rfl (qM rfl) rfl ?_
 refine aL 4 rfl (A3 rfl rfl) rfl ?_
 refine aP 5 rfl (pBd rfl rfl) rfl ?_
 refine P6 (j := 0) (j' := 6) zP0 ?_ ?_
 (refine D2 rfl (D1 rfl rfl rfl zR0 zL0 rfl) rfl rfl ?_; rintro _ ⟨b14, rfl⟩)
 refine P6 (j := 2) (j' := 6) zP0 ?_ ?_
 (refine Z3 rfl rfl rfl rfl rfl rfl (fun _ _ => by repeat (first | exact Sw.here | apply Sw.there)) hSl h1c (Nat.zero_le _) zL0 zR0 rfl rfl zR (fun p4 c4 => ?_); simp only [Nat.zero_add, List.nil_append])
 refine A2 6 ?_
 (refine D2 rfl (D1 rfl rfl rfl zR0 zL0 rfl) rfl rfl ?_; rintro _ ⟨b18, rfl⟩)
 exact y116
 (refine D2 rfl (D1 rfl rfl rfl zR0 zL0 rfl) rfl rfl ?_; rintro _ ⟨b28, rfl⟩)
 refine A2 2 ?_
 (refine Z3 rfl rfl rfl rfl rfl rfl (fun _ _ => by repeat (first | exact Sw.here | apply Sw.there)) hSl h1c (Nat.zero_le _) zL0 zR0 rfl rfl zR (fun p4 c4 => ?_); simp only [Nat.zero_add, List.nil_append])
 exact y116
 (refine D2 rfl (D1 rfl rfl rfl zR0 zL0 rfl) rfl rfl ?_; rintro _ ⟨b40, rfl⟩)
 refine A2 0 ?_
 (refine D2 rfl (D1 rfl rfl rfl zR0 zL0 rfl) rfl rfl ?_; rintro _ ⟨b42, rfl⟩)
 refine A2 2 ?_
 (refine Z3 rfl rfl rfl rfl rfl rfl (fun _ _ => by repeat (first | exact Sw.here | apply Sw.there)) hSl h1c (Nat.zero_le _) zL0 zR0 rfl rfl zR (fun p4 c4 => ?_); simp only [Nat.zero_add, List.nil_append])
 exact y116
theorem B1u {cx : Cx} : ∀ {ks : List Tm} {i : Nat} {us : List Ty} {u : Ty} (hi : i < ks.length), A0c cx (ks.take i) = some us → T5 cx ks[i] = some u → A0c cx (ks.take (i + 1)) = some (us ++ [u])
 | [], i, us, u, hi, _, _ => by simp at hi
 | t :: ts, 0, us, u, _, h1, h2 => by
  simp only [List.take_zero, A0c, Option.some.injEq] at h1
  subst h1
  simp only [List.getElem_cons_zero] at h2
  simp [A0c, h2]
 | t :: ts, i + 1, us, u, hi, h1, h2 => by
  simp only [List.take_succ_cons, A0c] at h1 ⊢
  split at h1
  ·cases h1
  ·rename_i a ha
   split at h1
   ·cases h1
   ·rename_i bs has
    simp only [Option.some.injEq] at h1
    subst h1
    simp only [List.getElem_cons_succ] at h2
    have := B1u (ks := ts) (i := i) (by simpa using hi) has h2
    simp only [this, List.cons_append]
theorem B1v {cx : Cx} : ∀ {ks : List Tm} {i : Nat} (hi : i < ks.length), T5 cx ks[i] = none → A0c cx ks = none
 | [], i, hi, _ => by simp at hi
 | t :: ts, 0, _, h => by simp only [List.getElem_cons_zero] at h; rw [A0c, h]
 | t :: ts, i + 1, hi, h => by
  simp only [List.getElem_cons_succ] at h
  have := B1v (ks := ts) (i := i) (by simpa using hi) h
  rw [A0c, this]
  cases T5 cx t <;> rfl
section
variable {cx : Cx} {k : Int} {nm : ByteArray} {num : Int} {ty fr : Ty} {lb : Int} {ks : List Tm}
theorem B7d (hk : k = 1) (h0 : ks = []) : T5 cx (.mk k nm num ty fr lb ks) = Z5 cx nm := by
 subst hk h0
 rw [T5, A0c]
 simp only [A0q, mW1]
 cases Z5 cx nm with
 | none => rfl
 | some t => simp
theorem B7e (hk : k = 2) (h0 : ks = []) : T5 cx (.mk k nm num ty fr lb ks) = some W7 := by subst hk h0; rfl
theorem B7f (hk : k = 3 ∨ k = 4) (h0 : ks = []) : T5 cx (.mk k nm num ty fr lb ks) = some A0v := by subst h0; rcases hk with rfl | rfl <;> rfl
theorem B7g {b : Tm} (hk : k = 5) (h : T5 (cx ++ [(nm, ty)]) b = none) : T5 cx (.mk k nm num ty fr lb [b]) = none := by
 subst hk; rw [T5, R5, if_pos rfl, A0c, h]
theorem B7h {b : Tm} {t : Ty} (hk : k = 5) (h : T5 (cx ++ [(nm, ty)]) b = some t) : T5 cx (.mk k nm num ty fr lb [b]) = if H9 (.mk 4 [ty, t]) = true then some (.mk 4 [ty, t]) else none := by
 subst hk
 rw [T5, R5, if_pos rfl, A0c, h]
 simp only [A0c, A0q, mW5, List.getD_cons_zero]
 cases H9 (.mk 4 [ty, t]) <;> simp
theorem B7i (hk : k ≠ 5) (h : A0c cx ks = none) : T5 cx (.mk k nm num ty fr lb ks) = none := by rw [T5, R5, if_neg hk, h]
theorem B7j {ts : List Ty} (hk : k ≠ 5) (h : A0c cx ks = some ts) : T5 cx (.mk k nm num ty fr lb ks) = A0q cx k nm ty ts := by rw [T5, R5, if_neg hk, h]
end
theorem B7k : ∀ (e : Tm) (d : Int) (cx : Cx) (G : IM) (p : Option Addr) (n c : Nat) (cells : List Value), L6 12 14 e d = true → (n : Int) ≤ d → cxV cx → W8 G cx p n c → B7 G e cells →
  Fn Tryz.prog 92 [.slice p n c, .agg ⟨cells⟩] [] G (S8 (T5 cx e) G) := by
 refine Tm.ind fun k nm num ty fr lb ks ih d cx G p n c cells hv hnd hcv hx hr => ?_
 have hr0 := hr
 have hone := hr.one
 obtain ⟨hv1, hv2, hv3, hv4⟩ := A0b hv
 have hvk := (A2N 12 14 ks _).1 hv4
 have har := (X5.1 hv3).1
 have hop := A50 har
 obtain ⟨hta, hts⟩ := A51 hv3
 have hkr : 1 ≤ k ∧ k ≤ 14 := A6j (by rw [har]; omega)
 have hcv5 : k = 5 → cxV (cx ++ [(nm, ty)]) := fun hk => by have := A47 (k := k) (nm := nm) (ty := ty) hcv fun hk => (X5.1 hv3).2.2.2.2.2.1 (.inl hk); rwa [R5, if_pos hk] at this
 have h0 : k ≤ 4 → ks = [] := fun h => List.length_eq_zero_iff.1 (by
  have hk : k = 1 ∨ k = 2 ∨ k = 3 ∨ k = 4 := by omega
  rcases hk with rfl | rfl | rfl | rfl
  ·have : E8 1 = 0 := rfl; omega
  ·have : E8 2 = 0 := rfl; omega
  ·have : E8 3 = 0 := rfl; omega
  ·have : E8 4 = 0 := rfl; omega)
 have f1 := fun hk => @B7d cx k nm num ty fr lb ks hk (h0 zR0)
 have f2 := fun hk => @B7e cx k nm num ty fr lb ks hk (h0 zR0)
 have f3 := fun hk => @B7f cx k nm num ty fr lb ks hk (h0 zR0)
 have f4 : ∀ (hk : k = 5) (hl : 0 < ks.length), T5 (cx ++ [(nm, ty)]) ks[0] = none → T5 cx (.mk k nm num ty fr lb ks) = none := fun hk hl h => by
  obtain ⟨b, rfl⟩ := ks1 (hop.2.2 (.inl hk)); exact B7g hk h
 have f5 : ∀ (t : Ty) (hk : k = 5) (hl : 0 < ks.length), T5 (cx ++ [(nm, ty)]) ks[0] = some t → T5 cx (.mk k nm num ty fr lb ks) = if H9 (.mk 4 [ty, t]) = true then some (.mk 4 [ty, t]) else none := fun t hk hl h => by
  obtain ⟨b, rfl⟩ := ks1 (hop.2.2 (.inl hk)); exact B7h hk h
 have f6 := @B7i cx k nm num ty fr lb ks
 have f7 := fun ts => @B7j cx k nm num ty fr lb ks ts
 generalize T5 cx (.mk k nm num ty fr lb ks) = R at f1 f2 f3 f4 f5 f6 f7 ⊢
 obtain ⟨tk, tks⟩ := ty
 obtain ⟨fk, fks⟩ := fr
 obtain ⟨pt, ct, pf, cf, q, cq, es, rfl, hk, hnum, hlb, hty, hfr, hsl, hkl⟩ := hr.open9
 have hlen : ks.length ≤ 3 := by have := A27 k; omega
 refine C0 Tryz.func92 rfl Tryz.ntmps92 Tryz.results92 rfl ?_
 intro w0
 refine A4 ?_
 refine sE (B6 rfl rfl) rfl (fun b3 => ?_)
 refine sE (A6 rfl) rfl (fun b4 => ?_)
 refine J2 ?_
 refine C2 (tS (tR (sB (qE rfl rfl) rfl rfl (fun h18 => ?_) (fun h18 => ?_))))
 refine E7 ?_
 (refine F4 rfl (B65 G cx hcv p n c nm hx) rfl rfl (fun v G1 hle1 hh => ?_); obtain ⟨mt, mc, rfl, hmr, hma, hmu⟩ := hh; obtain ⟨p1, c1, e1, rfl, _⟩ := hmr.open)
 refine E7 ?_
 refine H3 (rC rfl (A3 rfl rfl)) (rT rfl) ?_
 (rw [f1 zR0]; exact ⟨rfl, _, _, rfl, hmr, hma, hmu⟩)
 refine A9 ?_
 refine sB (qE rfl rfl) rfl rfl (fun h46 => ?_) (fun h46 => ?_)
 refine A9 ?_
 refine H4 rfl ((A1I _)) rfl rfl ?_
 refine B0 ?_
 refine H3 (rC rfl (A3 rfl rfl)) (rT rfl) ?_
 (rw [f2 zR0]; exact S8.yes rfl (N9 _) (X6 zR0 zR0))
 refine B0 ?_
 refine sB (qE rfl rfl) rfl rfl (fun h70 => ?_) (fun h70 => ?_)
 refine E7 ?_
 refine H4 rfl ((A4X _)) rfl rfl ?_
 refine B0 ?_
 refine H3 (rC rfl (A3 rfl rfl)) (rT rfl) ?_
 (rw [f3 zR0]; exact S8.yes rfl (A0Y _) (X6 zR0 zR0))
 refine A8 ?_
 refine sB (qE rfl rfl) rfl rfl (fun h95 => ?_) (fun h95 => ?_)
 refine A9 ?_
 refine H4 rfl ((A4X _)) rfl rfl ?_
 refine B0 ?_
 refine H3 (rC rfl (A3 rfl rfl)) (rT rfl) ?_
 (rw [f3 zR0]; exact S8.yes rfl (A0Y _) (X6 zR0 zR0))
 refine A9 ?_
 refine sB (qE rfl rfl) rfl rfl (fun h118 => ?_) (fun h118 => ?_)
 refine A8 ?_
 (have hl1 : ks.length = 1 := hop.2.2 zR0; obtain ⟨b, o, e, rfl, hl, hat, hre, hgb⟩ := hsl.kidTm hkl (i := 0) zR0 zR0; have hMore := B7c G cx p n c nm (.mk tk tks) _ hx zR0 hty; refine D3 D4 rfl ?_)
 refine J4 (i := 0) (l' := [tt,ff,ff,ff,ff,ff,ff,ff,ff,ff,ff,ff,ff,ff,ff,ff,ff]) rfl C8 (qM rfl) rfl zP0 rfl rfl ?_
 refine aP 1 rfl (C3 rfl) rfl ?_
 refine aL 2 rfl (F0 rfl rfl) rfl ?_
 refine aP 3 rfl (C3 rfl) rfl ?_
 refine aL 4 rfl (A3 rfl rfl) rfl ?_
 refine aP 6 rfl (C3 rfl) rfl ?_
 refine aL 7 rfl (F0 rfl rfl) rfl ?_
 refine aP 8 rfl (B8 (j := 0) rfl rfl rfl zR0) rfl ?_
 refine aL 9 rfl (A5 rfl rfl (hat _) hl) rfl ?_
 refine P6 (j := 5) (j' := 14) zP0 ?_ ?_
 (refine H1 rfl rfl hMore rfl rfl rfl (fun v G1 hle1 hh => ?_); obtain ⟨pm, cm, rfl, hxm⟩ := hh; have hreM := hre.mono hle1; have hLam := ih ks[0] (List.getElem_mem zR0) (d + 1) _ G1 pm (n + 1) cm _ (hvk 0 zR0) zR0 (hcv5 zR0) hxm hreM; have htyM := hty.mono hle1)
 refine P6 (j := 10) (j' := 14) zP0 ?_ ?_
 focus (refine H1 rfl rfl hLam rfl rfl rfl (fun v G2 hle2 hh => ?_); obtain ⟨mt, mc, rfl, hmr, hma, hmu⟩ := hh; obtain ⟨p1, c1, e1, rfl, _⟩ := hmr.open; have htyN := htyM.mono hle2; rcases hE : T5 (cx ++ [(nm, Ty.mk tk tks)]) ks[0] with _ | mt2; rotate_left; obtain rfl := hmu _ hE; rotate_left; all_goals simp only [Option.isSome])
 refine aP 11 rfl (qM rfl) rfl ?_
 refine aP 12 rfl (pX rfl rfl) rfl ?_
 refine aP 13 rfl (pX rfl rfl) rfl ?_
 refine A2 14 ?_
 (refine D2 rfl (A6 rfl) rfl rfl ?_; rintro _ ⟨b142, rfl⟩)
 exact y120
 refine aP 11 rfl (qM rfl) rfl ?_
 refine aP 12 rfl (pX rfl rfl) rfl ?_
 refine aP 13 rfl (pX rfl rfl) rfl ?_
 refine A2 14 ?_
 (refine D2 rfl (A6 rfl) rfl rfl ?_; rintro _ ⟨b173, rfl⟩)
 exact y117
 (refine D2 rfl (A6 rfl) rfl rfl ?_; rintro _ ⟨b206, rfl⟩)
 refine A2 10 ?_
 focus (refine H1 rfl rfl hLam rfl rfl rfl (fun v G2 hle2 hh => ?_); obtain ⟨mt, mc, rfl, hmr, hma, hmu⟩ := hh; obtain ⟨p1, c1, e1, rfl, _⟩ := hmr.open; have htyN := htyM.mono hle2; rcases hE : T5 (cx ++ [(nm, Ty.mk tk tks)]) ks[0] with _ | mt2; rotate_left; obtain rfl := hmu _ hE; rotate_left; all_goals simp only [Option.isSome])
 refine aP 11 rfl (qM rfl) rfl ?_
 refine aP 12 rfl (pX rfl rfl) rfl ?_
 refine aP 13 rfl (pX rfl rfl) rfl ?_
 exact y120
 refine aP 11 rfl (qM rfl) rfl ?_
 refine aP 12 rfl (pX rfl rfl) rfl ?_
 refine aP 13 rfl (pX rfl rfl) rfl ?_
 exact y117
 (refine D2 rfl (A6 rfl) rfl rfl ?_; rintro _ ⟨b273, rfl⟩)
 refine A2 5 ?_
 (refine H1 rfl rfl hMore rfl rfl rfl (fun v G1 hle1 hh => ?_); obtain ⟨pm, cm, rfl, hxm⟩ := hh; have hreM := hre.mono hle1; have hLam := ih ks[0] (List.getElem_mem zR0) (d + 1) _ G1 pm (n + 1) cm _ (hvk 0 zR0) zR0 (hcv5 zR0) hxm hreM; have htyM := hty.mono hle1)
 refine A2 10 ?_
 focus (refine H1 rfl rfl hLam rfl rfl rfl (fun v G2 hle2 hh => ?_); obtain ⟨mt, mc, rfl, hmr, hma, hmu⟩ := hh; obtain ⟨p1, c1, e1, rfl, _⟩ := hmr.open; have htyN := htyM.mono hle2; rcases hE : T5 (cx ++ [(nm, Ty.mk tk tks)]) ks[0] with _ | mt2; rotate_left; obtain rfl := hmu _ hE; rotate_left; all_goals simp only [Option.isSome])
 refine aP 11 rfl (qM rfl) rfl ?_
 refine aP 12 rfl (pX rfl rfl) rfl ?_
 refine aP 13 rfl (pX rfl rfl) rfl ?_
 exact y120
 refine aP 11 rfl (qM rfl) rfl ?_
 refine aP 12 rfl (pX rfl rfl) rfl ?_
 refine aP 13 rfl (pX rfl rfl) rfl ?_
 exact y117
 refine E7 ?_
 (refine J8 (D1 rfl rfl rfl zR0 zL0 rfl) rfl ?_; rintro _ ⟨b351, rfl⟩)
 refine E7 ?_
 refine C2 ?_
 (refine L8 (fun (x : Nat × Option Addr × Nat × List Ty × List (List Value) × IM) => ⟨[(9, .int .i64 x.1), (8, .slice x.2.1 x.1 x.2.2.1), (3, .pointer (some ⟨b3, 0, none⟩)), (4, .pointer (some ⟨b4, 0, none⟩)), (0, .slice p n c)], [.slc x.2.1 x.2.2.1 25 2 x.1 x.2.2.2.2.1.flatten, .blk b4 [.int .i64 0, .slice none 0 0], .blk b3 [.int .i64 k, .string nm, .int .i64 num, .int .i64 tk, .slice pt tks.length ct, .int .i64 fk, .slice pf fks.length cf, .int .i64 lb, .slice q ks.length cq]], x.2.2.2.2.2⟩) (fun x => x.1 ≤ ks.length ∧ B9 G x.2.2.2.2.2 ∧ x.2.2.2.1.length = x.1 ∧ D9 x.2.2.2.2.2 x.2.2.2.1 x.2.2.2.2.1 ∧ (∀ u ∈ x.2.2.2.1, I4 u) ∧ A0c cx (ks.take x.1) = some x.2.2.2.1) (fun x => ks.length - x.1) (0, some ⟨b351, 0, none⟩, 0, [], [], G) ?_ ?_ ?_)
 (simp only [I9]; exact F8)
 (exact ⟨by simp, B9.refl _, rfl, by simp [D9], by simp, by simp [A0c]⟩)
 (rintro ⟨i, pn, cn, us, es', Gi⟩ ⟨hi, hle, hlu, hst, hau, hsu⟩; simp only [] at hi hle hlu hst hau hsu ⊢; replace hsl := hsl.mono hle; replace hkl := hkl.mono hle; replace hx := hx.mono hle; replace hr0 := hr0.mono hle)
 refine B0 ?_
 refine sB (N5 rfl rfl) rfl rfl (fun h373 => ?_) (fun h373 => ?_)
 refine A9 ?_
 refine C2 ?_
 refine A9 ?_
 (obtain ⟨b, o, e, rfl, hl, hat, hre, hgb⟩ := hsl.kidTm hkl (i := i) zR0 zR0; refine sP (B8 rfl rfl rfl zR0) rfl rfl ?_)
 refine sL (A5 rfl rfl (hat _) hl) rfl rfl ?_
 focus (refine F4 rfl (ih ks[i] (List.getElem_mem zR0) (d + 1) cx Gi p n c _ (hvk i zR0) zR0 hcv hx hre) rfl rfl (fun v G2 hle2 hh => ?_); obtain ⟨u, uc, rfl, hru, hua, huu⟩ := hh; obtain ⟨p3, c3, e3, rfl, _⟩ := hru.open; rcases hE : T5 cx ks[i] with _ | u2; rotate_left; obtain rfl := huu _ hE; rotate_left; all_goals simp only [Option.isSome])
 refine C1 ?_
 refine sE (A6 rfl) rfl (fun b393 => ?_)
 refine A4E ?_
 refine H3 (rC rfl (A3 rfl rfl)) (rT rfl) ?_
 (rw [f6 zR0 (B1v zR0 hE)]; exact S8.no rfl (L9 _ ⟨by omega, by omega⟩) (X6 zR0 zR0))
 refine C1 ?_
 refine sE (A6 rfl) rfl (fun b425 => ?_)
 refine V0 ?_
 (refine J8 (D1 rfl rfl rfl zR0 zL0 rfl) rfl ?_; rintro _ ⟨b443, rfl⟩)
 refine Y0 rfl rfl rfl rfl rfl (fun _ _ => by repeat (first | exact Sw.here | apply Sw.there)) (K4 zI0) rfl zK0 zL0 zR0 rfl (fun pn' cn' => ?_)
 refine A9 ?_
 refine sP (K0 rfl rfl zR0 zR0) rfl rfl ?_
 refine A4 ?_
 refine J7 (i + 1, pn', cn', us ++ [u2], es' ++ [[.int .i64 u2.k, .slice p3 u2.ks.length c3]], G2) ?_ ?_ ?_
 (simp only [I9]; exact F8)
 (dsimp only; exact ⟨by omega, hle.trans hle2, by simp [hlu], D9.snoc (hst.mono hle2) hru, A36 hau hua, B1u zR0 hsu hE⟩)
 (show ks.length - (i + 1) < ks.length - i; omega)
 refine O3 ?_
 (obtain rfl : i = ks.length := zR0; rw [List.take_length] at hsu; refine X9 (cs := es'.flatten) zD0 (fun G3 hle3 hsl3 hno3 => ?_); have hst3 := hst.mono hle3; have hRes := B7b cx k nm num (.mk tk tks) (.mk fk fks) lb ks us G3 _ pn cn es' (by rw [hlu]; exact har) zR0 hta (hr0.mono hle3) (by rw [hlu]; exact D7.of hsl3 (by rw [hst3.len, hlu]) hst3.all (fun e he => (hst3.each e he).2)) hst3 hau; rw [hlu] at hRes; refine F4 rfl hRes rfl rfl (fun v G4 hle4 hh => ?_); obtain ⟨mt, mc, rfl, hmr, hma, hmu⟩ := hh; obtain ⟨p1, c1, e1, rfl, _⟩ := hmr.open)
 refine B0 ?_
 refine H3 (rC rfl (A3 rfl rfl)) (rT rfl) ?_
 (rw [f7 us zR0 hsu]; exact ⟨rfl, _, _, rfl, hmr, hma, hmu⟩)
theorem B7l {e : Tm} (h : M3 e = true) : U7 e = T5 [] e := by
 have hs := ((V2 e).1 h).1
 obtain ⟨h1, h2⟩ := A48 e 1 [] 0 hs A4d
 unfold U7
 cases hE : P4 [] e 0 with
 | none => rw [A74 h hE, h2 hE]
 | some r =>
  obtain ⟨u, a, l⟩ := r
  rw [A75 h hE, (h1 u a l hE).1]
def A8a (t : Ty) (x : Bool) (G : IM) : IM → Value → List A7 → Prop := N8 fun G' v => ∃ cells, v = .tuple ⟨[.agg ⟨cells⟩, .bool x]⟩ ∧ C7 G' (if x = true then t else B4) cells
theorem B7m (t : Ty) (G : IM) (cells : List Value) (hr : C7 G t cells) : Fn Tryz.prog 91 [.agg ⟨cells⟩, .bool true] [] G (A8a t true G) := by
 obtain ⟨p, c, e, rfl, _⟩ := hr.open
 refine C0 Tryz.func91 rfl Tryz.ntmps91 Tryz.results91 rfl ?_
 intro w0
 refine A4 ?_
 refine sE (B6 rfl rfl) rfl (fun b3 => ?_)
 refine sE (A6 rfl) rfl (fun b4 => ?_)
 refine Z0 ?_
 refine H3 (rC rfl (A3 rfl rfl)) (rT rfl) ?_
 (exact ⟨rfl, _, rfl, hr⟩)
theorem B7n (t : Ty) (G : IM) (cells : List Value) (hr : C7 G t cells) : Fn Tryz.prog 91 [.agg ⟨cells⟩, .bool false] [] G (A8a t false G) := by
 obtain ⟨p, c, e, rfl, _⟩ := hr.open
 refine C0 Tryz.func91 rfl Tryz.ntmps91 Tryz.results91 rfl ?_
 intro w0
 refine A4 ?_
 refine sE (B6 rfl rfl) rfl (fun b3 => ?_)
 refine sE (A6 rfl) rfl (fun b4 => ?_)
 refine X3 ?_
 refine H3 (rC rfl (A3 rfl rfl)) (rT rfl) ?_
 (exact ⟨rfl, _, rfl, L9 _ ⟨by omega, by omega⟩⟩)
theorem B7o (t : Ty) (x : Bool) (G : IM) (cells : List Value) (hr : C7 G t cells) : Fn Tryz.prog 91 [.agg ⟨cells⟩, .bool x] [] G (A8a t x G) := by
 cases x
 ·exact B7n t G cells hr
 ·exact B7m t G cells hr
theorem A0x.sure {o : Option Ty} {t : Ty} {G G' : IM} {cells : List Value} (h : ∀ u, o = some u → u = t) (hr : C7 G' (if o.isSome = true then t else B4) cells) : A0x o G G' (.tuple ⟨[.agg ⟨cells⟩, .bool o.isSome]⟩) [] := by
 cases o with
 | none => exact ⟨rfl, cells, B4, rfl, hr, by simp⟩
 | some u => exact ⟨rfl, cells, t, rfl, hr, fun x hx => by cases hx; exact (h _ rfl).symm⟩
theorem B7p (e : Tm) (G : IM) (cells : List Value) (hcnt : E4 e ≤ 4294967296) (hr : B7 G e cells) :
  Fn Tryz.prog 60 [.slice none 0 0, .agg ⟨cells⟩] [] G (A0x (U7 e) G) := by
 have hl := hr.len
 have hone := hr.one
 have hw := A4S e G cells hcnt hr
 have hT := fun h : M3 e = true => B7k e 1 [] G none 0 0 cells ((V2 e).1 h).1 zR0 A4d (W8.nil G) hr
 have hts := fun h => @B7l e h
 have hno := @B1l e
 refine C0 Tryz.func60 rfl Tryz.ntmps60 Tryz.results60 rfl ?_
 intro w0
 refine A4 ?_
 refine sE (B6 rfl rfl) rfl (fun b3 => ?_)
 refine sE (A6 rfl) rfl (fun b4 => ?_)
 refine B0 ?_
 refine H4 rfl ((B4Q _)) rfl rfl ?_
 refine A4 ?_
 refine sL (A5 rfl rfl (B3 zI0) zO0) rfl rfl ?_
 refine J5 rfl (hw) rfl rfl (fun h16 => ?_) (fun h16 => ?_)
 refine J2 ?_
 refine sL (A5 rfl rfl (B3 zI0) zO0) rfl rfl ?_
 (refine F4 rfl (hT zO0) rfl rfl (fun v G1 hle1 hh => ?_); obtain ⟨mt, mc, rfl, hmr, hma, hmu⟩ := hh; obtain ⟨p1, c1, e1, rfl, _⟩ := hmr.open; have hmo := hts zO0)
 refine A4 ?_
 (refine F4 rfl (B7o mt _ _ _ hmr) rfl rfl (fun v G2 hle2 hh => ?_); obtain ⟨mc2, rfl, hmr2⟩ := hh; obtain ⟨p2, c2, e2, rfl, _⟩ := hmr2.open)
 refine B0 ?_
 refine H3 (rC rfl (A3 rfl rfl)) (rT rfl) ?_
 (rw [hmo]; exact A0x.sure hmu hmr2)
 refine M8 ?_
 refine H3 (rC rfl (A3 rfl rfl)) (rT rfl) ?_
 (exact A0x.no (u := B4) (L9 _ ⟨by omega, by omega⟩) rfl (hno zO0))
theorem B7q (e : Tm) (G : IM) (cells : List Value) (hcnt : E4 e ≤ 4294967296) (hr : B7 G e cells) :
  Fn Tryz.prog 25 [.agg ⟨cells⟩] [] G (A0x (U7 e) G) := by
 have hl := hr.len
 have hone := hr.one
 refine C0 Tryz.func25 rfl Tryz.ntmps25 Tryz.results25 rfl ?_
 intro w0
 refine A4 ?_
 refine sE (B6 rfl rfl) rfl (fun b3 => ?_)
 refine sE (A6 rfl) rfl (fun b4 => ?_)
 refine A8 ?_
 refine sL (A5 rfl rfl (B3 zI0) zO0) rfl rfl ?_
 (refine F4 rfl (B7p e G cells hcnt hr) rfl rfl (fun v G1 hle1 hh => ?_); obtain ⟨cu, u, rfl, hru, hu⟩ := hh; obtain ⟨p1, c1, e1, rfl, _⟩ := hru.open)
 refine B0 ?_
 refine H3 (rC rfl (A3 rfl rfl)) (rT rfl) ?_
 (exact ⟨rfl, _, u, rfl, hru, hu⟩)
def B9G (e : Tm) (a b : Ty) (l : Int) : IM → Value → List A7 → Prop := N8 fun G' v => ∃ cells, v = .tuple ⟨[.agg ⟨cells⟩, .int .i64 (if T3 a b = true then l else l + 1)]⟩ ∧ B7 G' (if T3 a b = true then e else S5 e a b l) cells
def B9H (w ts : List Ty) : List Ty := if w = [] then ts else w
def B9I (ws : List Ty) (n : Nat) (G : IM) : IM → Value → List A7 → Prop := N8 fun G' v => ∃ p c es, v = .slice p n c ∧ ws.length = n ∧ D7 G' p n c 2 es ∧ D9 G' ws es
section
variable {cx : Cx} {k : Int} {nm : ByteArray} {ty : Ty} {ts w : List Ty} {t : Ty}
end
def B9J (u : Tm) (t : Ty) (l : Int) (G : IM) : IM → Value → List A7 → Prop := N8 fun G' v => ∃ cu ct, v = .tuple ⟨[.agg ⟨cu⟩, .agg ⟨ct⟩, .int .i64 (l + 1)]⟩ ∧ B7 G' u cu ∧ C7 G' t ct
theorem A03.openA {a b : List Ty} {G' : IM} {v : Value} {outs : List A7} {m : Nat} (h : A03 (a ++ b) G' v outs) (hm : a.length = m) :
  ∃ p c es, v = .slice p (m + b.length) c ∧ outs = [.slc p c 25 2 (m + b.length) es.flatten] ∧ D9 G' (a ++ b) es := by
 subst hm
 rw [← List.length_append]
 exact h
theorem B7r : ∀ (t : Tm) (l : List Ty) (G : IM) (cells : List Value) (p : Option Addr) (c : Nat) (es : List (List Value)), t.small → l.length + E4 t ≤ 4000000 → B7 G t cells → D9 G l es →
  Fn Tryz.prog 87 [.slice p l.length c, .agg ⟨cells⟩] [.slc p c 25 2 l.length es.flatten] G (A03 (l ++ K8 t)) := by
 refine Tm.ind fun k nm num ty fr lb ks ih l G cells p c es0 hts hcnt hr hl0 => ?_
 have hone := hr.one
 simp only [Tm.small] at hts
 obtain ⟨_, hty', _, hsm, hks⟩ := hts
 have hcy : k = 5 ∨ k = 13 → K8 (.mk k nm num ty fr lb ks) = [ty] ++ J1 ks := fun h => by rw [K8, if_pos h]
 have hcn : ¬ (k = 5 ∨ k = 13) → K8 (.mk k nm num ty fr lb ks) = J1 ks := fun h => by rw [K8, if_neg h, List.nil_append]
 rw [E4] at hcnt
 obtain ⟨tk, tks⟩ := ty
 obtain ⟨fk, fks⟩ := fr
 obtain ⟨pt, ct, pf, cf, q, cq, ek, rfl, hk, hnum, hlb, hty, hfr, hsl, hkl⟩ := hr.open9
 have hn := hsl.le
 refine C0 Tryz.func87 rfl Tryz.ntmps87 Tryz.results87 rfl ?_
 intro w0
 refine A4 ?_
 refine sE (B6 rfl rfl) rfl (fun b3 => ?_)
 refine E1 ?_
 refine sB (qE rfl rfl) rfl rfl (fun h12 => ?_) (fun h12 => ?_)
 refine O3 ?_
 (refine F4 rfl (Z9 (.mk tk tks) G _ hty' hty) rfl rfl (fun v G1 hle1 hh => ?_); obtain ⟨cs1, F1, rfl, hs1, hn1⟩ := hh; have hr1 := hs1.R.mono (E0.le _ _); obtain ⟨p1, c1, rfl, _⟩ := hs1.open)
 (refine J8 (D1 rfl rfl rfl zR0 zL0 rfl) rfl ?_; rintro _ ⟨b26, rfl⟩)
 (refine Y0 rfl rfl rfl rfl rfl (fun _ _ => by repeat (first | exact Sw.here | apply Sw.there)) (K4 zI0) rfl zK0 zL0 zR0 rfl (fun pn0 cn0 => ?_))
 refine E7 ?_
 refine C2 ?_
 (have h14 := hcy zR0; have hinit := D9.append (hl0.mono hle1) (D9.one1 hr1); refine L8 (fun (x : Nat × Nat × Option Addr × Nat × List (List Value) × IM) => ⟨[(5, .int .i64 x.1), (3, .pointer (some ⟨b3, 0, none⟩)), (0, .slice x.2.2.1 x.2.1 x.2.2.2.1)], [.slc x.2.2.1 x.2.2.2.1 25 2 x.2.1 x.2.2.2.2.1.flatten, .blk b3 [.int .i64 k, .string nm, .int .i64 num, .int .i64 tk, .slice pt tks.length ct, .int .i64 fk, .slice pf fks.length cf, .int .i64 lb, .slice q ks.length cq]], x.2.2.2.2.2⟩) (fun x => x.1 ≤ ks.length ∧ B9 G x.2.2.2.2.2 ∧ D9 x.2.2.2.2.2 ((l ++ [Ty.mk tk tks]) ++ J1 (ks.take x.1)) x.2.2.2.2.1 ∧ ((l ++ [Ty.mk tk tks]) ++ J1 (ks.take x.1)).length = x.2.1) (fun x => ks.length - x.1) (0, l.length + 1, pn0, cn0, es0 ++ [[.int .i64 tk, .slice p1 tks.length c1]], G1) zJ ?_ ?_)
 (exact ⟨Nat.zero_le _, hle1, (by show D9 G1 ((l ++ [Ty.mk tk tks]) ++ J1 (ks.take 0)) _; rw [List.take_zero, J1, List.append_nil]; exact hinit), by simp [J1]⟩)
 (rintro ⟨(i : Nat), (m : Nat), pn, cn, es, Gi⟩ ⟨hi, hle, hst, hlen⟩; simp only [] at hi hle hst hlen ⊢; replace hsl := hsl.mono hle; replace hkl := hkl.mono hle; have hb1 := A28 (ks.take i); have hb2 := A28 ks; have hlen0 := hlen; simp only [List.length_append, List.length_singleton, List.length_nil] at hlen)
 refine B0 ?_
 refine sB (N5 rfl rfl) rfl rfl (fun h48 => ?_) (fun h48 => ?_)
 refine A9 ?_
 refine C2 ?_
 refine A8 ?_
 (obtain ⟨b, o, e, rfl, hl, hat, hre, hgb⟩ := hsl.kidTm hkl (i := i) zR0 zR0; have hone9 := hre.one; have hsc := A1A (ks := ks) (i := i) zR0; have hsk := A1z (ks := ks) (i := i) zR0; refine sP (B8 rfl rfl rfl zR0) rfl rfl ?_)
 refine sL (A5 rfl rfl (hat _) hl) rfl rfl ?_
 (have hih := ih ks[i] (List.getElem_mem zR0) _ Gi e pn cn es (Tm.smallL_mem hks _ (List.getElem_mem zR0)) (by simp only [List.length_append, List.length_singleton]; omega) hre hst; rw [hlen0] at hih; refine L5 rfl hih (Pk.perm zD0) rfl rfl (fun v3 G3 outs hle3 hh => ?_); obtain ⟨p3, c3, e3, rfl, rfl, hr3⟩ := A03.openA hh hlen0)
 refine A9 ?_
 refine sP (K0 rfl rfl zR0 zR0) rfl rfl ?_
 refine A4 ?_
 (refine J7 (i + 1, m + (K8 ks[i]).length, p3, c3, e3, G3) ?_ ?_ ?_)
 (simp only [I9]; exact F8)
 (dsimp only; exact ⟨by omega, hle.trans hle3, by rw [A0X zR0, ← List.append_assoc]; exact hr3, by rw [A0X zR0, ← List.append_assoc, List.length_append, hlen0]⟩)
 (show ks.length - (i + 1) < ks.length - i; omega)
 refine M8 ?_
 (obtain rfl : i = ks.length := zR0)
 refine tT ?_
 refine H8 (outs := [.slc pn cn 25 2 m es.flatten]) (rT rfl) (A0.cons zD0 A0.nil) ?_
 (rw [h14]; rw [List.take_length] at hst hlen; first | exact A03.mk (by simp only [List.length_append, List.length_singleton, List.length_nil]; omega) hst | (rw [← List.append_assoc]; exact A03.mk (by simp only [List.length_append, List.length_singleton, List.length_nil]; omega) hst))
 refine C1 ?_
 refine sB (qE rfl rfl) rfl rfl (fun h98 => ?_) (fun h98 => ?_)
 refine E1 ?_
 (refine F4 rfl (Z9 (.mk tk tks) G _ hty' hty) rfl rfl (fun v G1 hle1 hh => ?_); obtain ⟨cs1, F1, rfl, hs1, hn1⟩ := hh; have hr1 := hs1.R.mono (E0.le _ _); obtain ⟨p1, c1, rfl, _⟩ := hs1.open)
 (refine J8 (D1 rfl rfl rfl zR0 zL0 rfl) rfl ?_; rintro _ ⟨b108, rfl⟩)
 (refine Y0 rfl rfl rfl rfl rfl (fun _ _ => by repeat (first | exact Sw.here | apply Sw.there)) (K4 zI0) rfl zK0 zL0 zR0 rfl (fun pn0 cn0 => ?_))
 refine E7 ?_
 refine C2 ?_
 (have h14 := hcy zR0; have hinit := D9.append (hl0.mono hle1) (D9.one1 hr1); refine L8 (fun (x : Nat × Nat × Option Addr × Nat × List (List Value) × IM) => ⟨[(5, .int .i64 x.1), (3, .pointer (some ⟨b3, 0, none⟩)), (0, .slice x.2.2.1 x.2.1 x.2.2.2.1)], [.slc x.2.2.1 x.2.2.2.1 25 2 x.2.1 x.2.2.2.2.1.flatten, .blk b3 [.int .i64 k, .string nm, .int .i64 num, .int .i64 tk, .slice pt tks.length ct, .int .i64 fk, .slice pf fks.length cf, .int .i64 lb, .slice q ks.length cq]], x.2.2.2.2.2⟩) (fun x => x.1 ≤ ks.length ∧ B9 G x.2.2.2.2.2 ∧ D9 x.2.2.2.2.2 ((l ++ [Ty.mk tk tks]) ++ J1 (ks.take x.1)) x.2.2.2.2.1 ∧ ((l ++ [Ty.mk tk tks]) ++ J1 (ks.take x.1)).length = x.2.1) (fun x => ks.length - x.1) (0, l.length + 1, pn0, cn0, es0 ++ [[.int .i64 tk, .slice p1 tks.length c1]], G1) zJ ?_ ?_)
 (exact ⟨Nat.zero_le _, hle1, (by show D9 G1 ((l ++ [Ty.mk tk tks]) ++ J1 (ks.take 0)) _; rw [List.take_zero, J1, List.append_nil]; exact hinit), by simp [J1]⟩)
 (rintro ⟨(i : Nat), (m : Nat), pn, cn, es, Gi⟩ ⟨hi, hle, hst, hlen⟩; simp only [] at hi hle hst hlen ⊢; replace hsl := hsl.mono hle; replace hkl := hkl.mono hle; have hb1 := A28 (ks.take i); have hb2 := A28 ks; have hlen0 := hlen; simp only [List.length_append, List.length_singleton, List.length_nil] at hlen)
 refine B0 ?_
 refine sB (N5 rfl rfl) rfl rfl (fun h130 => ?_) (fun h130 => ?_)
 refine A9 ?_
 refine C2 ?_
 refine A8 ?_
 (obtain ⟨b, o, e, rfl, hl, hat, hre, hgb⟩ := hsl.kidTm hkl (i := i) zR0 zR0; have hone9 := hre.one; have hsc := A1A (ks := ks) (i := i) zR0; have hsk := A1z (ks := ks) (i := i) zR0; refine sP (B8 rfl rfl rfl zR0) rfl rfl ?_)
 refine sL (A5 rfl rfl (hat _) hl) rfl rfl ?_
 (have hih := ih ks[i] (List.getElem_mem zR0) _ Gi e pn cn es (Tm.smallL_mem hks _ (List.getElem_mem zR0)) (by simp only [List.length_append, List.length_singleton]; omega) hre hst; rw [hlen0] at hih; refine L5 rfl hih (Pk.perm zD0) rfl rfl (fun v3 G3 outs hle3 hh => ?_); obtain ⟨p3, c3, e3, rfl, rfl, hr3⟩ := A03.openA hh hlen0)
 refine A9 ?_
 refine sP (K0 rfl rfl zR0 zR0) rfl rfl ?_
 refine A4 ?_
 (refine J7 (i + 1, m + (K8 ks[i]).length, p3, c3, e3, G3) ?_ ?_ ?_)
 (simp only [I9]; exact F8)
 (dsimp only; exact ⟨by omega, hle.trans hle3, by rw [A0X zR0, ← List.append_assoc]; exact hr3, by rw [A0X zR0, ← List.append_assoc, List.length_append, hlen0]⟩)
 (show ks.length - (i + 1) < ks.length - i; omega)
 refine M8 ?_
 (obtain rfl : i = ks.length := zR0)
 refine tT ?_
 refine H8 (outs := [.slc pn cn 25 2 m es.flatten]) (rT rfl) (A0.cons zD0 A0.nil) ?_
 (rw [h14]; rw [List.take_length] at hst hlen; first | exact A03.mk (by simp only [List.length_append, List.length_singleton, List.length_nil]; omega) hst | (rw [← List.append_assoc]; exact A03.mk (by simp only [List.length_append, List.length_singleton, List.length_nil]; omega) hst))
 refine O3 ?_
 refine C2 ?_
 (have h14 := hcn zR0; refine L8 (fun (x : Nat × Nat × Option Addr × Nat × List (List Value) × IM) => ⟨[(5, .int .i64 x.1), (3, .pointer (some ⟨b3, 0, none⟩)), (0, .slice x.2.2.1 x.2.1 x.2.2.2.1)], [.slc x.2.2.1 x.2.2.2.1 25 2 x.2.1 x.2.2.2.2.1.flatten, .blk b3 [.int .i64 k, .string nm, .int .i64 num, .int .i64 tk, .slice pt tks.length ct, .int .i64 fk, .slice pf fks.length cf, .int .i64 lb, .slice q ks.length cq]], x.2.2.2.2.2⟩) (fun x => x.1 ≤ ks.length ∧ B9 G x.2.2.2.2.2 ∧ D9 x.2.2.2.2.2 (l ++ J1 (ks.take x.1)) x.2.2.2.2.1 ∧ (l ++ J1 (ks.take x.1)).length = x.2.1) (fun x => ks.length - x.1) (0, l.length, p, c, es0, G) ?_ ?_ ?_)
 (simp only [I9]; exact F8)
 (exact ⟨Nat.zero_le _, B9.refl _, by simpa [J1] using hl0, by simp [J1]⟩)
 (rintro ⟨(i : Nat), (m : Nat), pn, cn, es, Gi⟩ ⟨hi, hle, hst, hlen⟩; simp only [] at hi hle hst hlen ⊢; replace hsl := hsl.mono hle; replace hkl := hkl.mono hle; have hb1 := A28 (ks.take i); have hb2 := A28 ks; have hlen0 := hlen; simp only [List.length_append, List.length_singleton, List.length_nil] at hlen)
 refine B0 ?_
 refine sB (N5 rfl rfl) rfl rfl (fun h201 => ?_) (fun h201 => ?_)
 refine A9 ?_
 refine C2 ?_
 refine A8 ?_
 (obtain ⟨b, o, e, rfl, hl, hat, hre, hgb⟩ := hsl.kidTm hkl (i := i) zR0 zR0; have hone9 := hre.one; have hsc := A1A (ks := ks) (i := i) zR0; have hsk := A1z (ks := ks) (i := i) zR0; refine sP (B8 rfl rfl rfl zR0) rfl rfl ?_)
 refine sL (A5 rfl rfl (hat _) hl) rfl rfl ?_
 (have hih := ih ks[i] (List.getElem_mem zR0) _ Gi e pn cn es (Tm.smallL_mem hks _ (List.getElem_mem zR0)) (by simp only [List.length_append, List.length_singleton]; omega) hre hst; rw [hlen0] at hih; refine L5 rfl hih (Pk.perm zD0) rfl rfl (fun v3 G3 outs hle3 hh => ?_); obtain ⟨p3, c3, e3, rfl, rfl, hr3⟩ := A03.openA hh hlen0)
 refine A9 ?_
 refine sP (K0 rfl rfl zR0 zR0) rfl rfl ?_
 refine A4 ?_
 (refine J7 (i + 1, m + (K8 ks[i]).length, p3, c3, e3, G3) ?_ ?_ ?_)
 (simp only [I9]; exact F8)
 (dsimp only; exact ⟨by omega, hle.trans hle3, by rw [A0X zR0, ← List.append_assoc]; exact hr3, by rw [A0X zR0, ← List.append_assoc, List.length_append, hlen0]⟩)
 (show ks.length - (i + 1) < ks.length - i; omega)
 refine M8 ?_
 (obtain rfl : i = ks.length := zR0)
 refine tT ?_
 refine H8 (outs := [.slc pn cn 25 2 m es.flatten]) (rT rfl) (A0.cons zD0 A0.nil) ?_
 (rw [h14]; rw [List.take_length] at hst hlen; first | exact A03.mk (by simp only [List.length_append, List.length_singleton, List.length_nil]; omega) hst | (rw [← List.append_assoc]; exact A03.mk (by simp only [List.length_append, List.length_singleton, List.length_nil]; omega) hst))
def A04 (t : Tm) : List Ty := if M3 t = true then K8 t else []
theorem B1w (t : Tm) (G : IM) (cells : List Value) (hts : t.small) (hcnt : E4 t ≤ 4000000) (hr : B7 G t cells) : Fn Tryz.prog 57 [.agg ⟨cells⟩] [] G (A03 (A04 t)) := by
 have hl := hr.len
 have hone := hr.one
 have hv := A4S t G cells zR0 hr
 have hno : M3 t = false → A04 t = [] := fun h => by unfold A04; rw [h]; rfl
 have hyes : M3 t = true → A04 t = K8 t := fun h => by unfold A04; rw [h]; rfl
 refine C0 Tryz.func57 rfl Tryz.ntmps57 Tryz.results57 rfl ?_
 intro w0
 refine A4 ?_
 refine sE (B6 rfl rfl) rfl (fun b3 => ?_)
 refine A9 ?_
 refine sL (A5 rfl rfl (B3 zI0) zO0) rfl rfl ?_
 refine J5 rfl (hv) rfl rfl (fun h11 => ?_) (fun h11 => ?_)
 refine E1 ?_
 (refine J8 (D1 rfl rfl rfl zR0 zL0 rfl) rfl ?_; rintro _ ⟨b20, rfl⟩)
 refine sL (A5 rfl rfl (B3 zI0) zO0) rfl rfl ?_
 (refine L5 rfl (B7r t [] G cells _ 0 [] hts (by simp; omega) hr (by simp [D9])) (Pk.perm zD0) rfl rfl (fun v3 G3 outs hle3 hh => ?_); obtain ⟨p3, c3, e3, rfl, rfl, hr3⟩ := hh)
 refine B5 ?_
 refine H8 (outs := [.slc p3 c3 25 2 ([] ++ K8 t).length e3.flatten]) (rT rfl) (A0.cons zD0 A0.nil) ?_
 (rw [hyes zO0]; exact ⟨p3, c3, e3, rfl, rfl, hr3⟩)
 refine A9 ?_
 (refine J8 (D1 rfl rfl rfl zR0 zL0 rfl) rfl ?_; rintro _ ⟨b35, rfl⟩)
 refine A8 ?_
 refine H8 (rT rfl) (A0.cons Pk.here A0.nil) ?_
 (rw [hno zO0]; exact ⟨_, _, [], rfl, rfl, by simp [D9]⟩)
def A4l (u : Tm) (n : Int) : IM → Value → List A7 → Prop := fun G' v outs => outs = [] ∧ ∃ cu, v = .tuple ⟨[.agg ⟨cu⟩, .int .i64 n]⟩ ∧ B7 G' u cu
theorem A4l.mk {G' : IM} {k : Int} {nm : ByteArray} {num : Int} {ty fr : Ty} {lb : Int} {ks : List Tm} {tk fk : Int} {pt pf : Option Addr} {nt ct nf cf : Nat} {p : Option Addr} {m c : Nat} {es : List (List Value)} {a n : Int}
  (hk : H6 k) (hnum : H6 num) (hlb : H6 lb) (hty : C7 G' ty [.int .i64 tk, .slice pt nt ct]) (hfr : C7 G' fr [.int .i64 fk, .slice pf nf cf]) (hm : m = ks.length) (hs : Sl G' p m c 9 es.flatten) (hr : F9 G' ks es) (ha : a = n) :
  A4l (.mk k nm num ty fr lb ks) n G' (.tuple ⟨[.agg ⟨[.int .i64 k, .string nm, .int .i64 num, .int .i64 tk, .slice pt nt ct, .int .i64 fk, .slice pf nf cf, .int .i64 lb, .slice p m c]⟩, .int .i64 a]⟩) [] := by
 subst hm ha
 refine ⟨rfl, _, rfl, ?_⟩
 simp only [B7]
 exact ⟨_, _, p, c, es, rfl, hk, hnum, hlb, hty, hfr, D7.of hs hr.len hr.all (fun e he => by obtain ⟨j, hj⟩ := List.getElem?_of_mem he; exact (hr.inv hj I8).2.one), hr⟩
theorem B7s (L : List Ty) (p : Option Addr) (c : Nat) (hsmL : ∀ u ∈ L, u.small) : ∀ (t : Tm) (a : Nat) (G : IM) (cells : List Value) (el : List (List Value)), a + (K8 t).length ≤ L.length → L.length ≤ 4000000 → t.small → E4 t ≤ 4000000 → B7 G t cells → D7 G p L.length c 2 el → D9 G L el →
  Fn Tryz.prog 59 [.agg ⟨cells⟩, .slice p L.length c, .int .i64 (a : Int)] [] G (A4l (S6 t (L.drop a)) ((a + (K8 t).length : Nat) : Int)) := by
 refine Tm.ind fun k nm num ty fr lb ks ih a G cells el hlen hLb hts hcnt hr hse hel => ?_
 have hone := hr.one
 have hlen9 := hr.len
 simp only [Tm.small] at hts
 obtain ⟨_, hty', hfr', hsm, hks⟩ := hts
 have hcy : k = 5 ∨ k = 13 → K8 (.mk k nm num ty fr lb ks) = [ty] ++ J1 ks := fun h => by rw [K8, if_pos h]
 have hcn : ¬ (k = 5 ∨ k = 13) → K8 (.mk k nm num ty fr lb ks) = J1 ks := fun h => by rw [K8, if_neg h, List.nil_append]
 have hwy : k = 5 ∨ k = 13 → S6 (.mk k nm num ty fr lb ks) (L.drop a) = .mk k nm num ((L.drop a).getD 0 B4) fr lb (R6 ks (L.drop (a + 1))) := fun h => by rw [S6, if_pos h, if_pos h, List.drop_drop]
 have hwn : ¬ (k = 5 ∨ k = 13) → S6 (.mk k nm num ty fr lb ks) (L.drop a) = .mk k nm num ty fr lb (R6 ks (L.drop a)) := fun h => by rw [S6, if_neg h, if_neg h]
 rw [E4] at hcnt
 obtain ⟨tk, tks⟩ := ty
 obtain ⟨fk, fks⟩ := fr
 obtain ⟨pt, ct, pf, cf, q, cq, ek, rfl, hk, hnum, hlb, hty, hfr, hsl, hkl⟩ := hr.open9
 have hn := hsl.le
 have hkn := A30 ks
 have hT := Z9 (.mk tk tks) G _ hty' hty
 refine C0 Tryz.func59 rfl Tryz.ntmps59 Tryz.results59 rfl ?_
 intro w0
 refine A4 ?_
 refine sE (B6 rfl rfl) rfl (fun b3 => ?_)
 refine sE (A6 rfl) rfl (fun b4 => ?_)
 refine A9 ?_
 refine sE (A6 rfl) rfl (fun b11 => ?_)
 refine B0 ?_
 (refine F4 rfl hT rfl rfl (fun v G1 hle1 hh => ?_); obtain ⟨cs1, F1, rfl, hs1, hn1⟩ := hh; have hr1 := hs1.R.mono (E0.le _ _); obtain ⟨p1, c1, rfl, _⟩ := hs1.open; have hF := Z9 (.mk fk fks) G1 _ hfr' (hfr.mono hle1))
 refine E1 ?_
 (refine F4 rfl hF rfl rfl (fun v G2 hle2 hh => ?_); obtain ⟨cs2, F2, rfl, hs2, hn2⟩ := hh; have hr2 := hs2.R.mono (E0.le _ _); obtain ⟨p2, c2, rfl, _⟩ := hs2.open; have hle12 := hle1.trans hle2; replace hsl := hsl.mono hle12; replace hkl := hkl.mono hle12; replace hse := hse.mono hle12; replace hel := hel.mono hle12)
 refine J0 ?_
 refine sB (qE rfl rfl) rfl rfl (fun h44 => ?_) (fun h44 => ?_)
 refine O3 ?_
 (have hL1 := hcy zR0; have h1 : a + (1 + (J1 ks).length) ≤ L.length := (by rw [hL1] at hlen; simp only [List.length_append, List.length_singleton] at hlen; omega); obtain ⟨b0, o0, p20, c20, rfl, hat0, hre0, hgb0⟩ := hse.kidTy hel (i := a) zR0 zR0; obtain ⟨T0, hT0⟩ : ∃ T, T = L[a]'zR0 := ⟨_, rfl⟩; have hs0 := hsmL _ (List.getElem_mem (show a < L.length by omega)); rw [← hT0] at hre0 hat0 hs0; have hO := Z9 T0 G2 _ hs0 hre0; refine sP (B8 rfl rfl rfl zR0) rfl rfl ?_)
 refine sL (A5 rfl rfl (hat0 _) rfl) rfl rfl ?_
 (refine F4 rfl hO rfl rfl (fun v G3 hle3 hh => ?_); obtain ⟨cs3, F3, rfl, hs3, hn3⟩ := hh; have hr3 := hs3.R.mono (E0.le _ _); obtain ⟨p3, c3, rfl, _⟩ := hs3.open)
 refine A9 ?_
 refine sP (K0 rfl rfl zR0 zR0) rfl rfl ?_
 refine E7 ?_
 refine C2 ?_
 (have hL2 := hcy zR0; have hW2 := hwy zR0; refine X1 28 9 ?_; refine L8 (fun (x : Nat × Option Addr × Nat × List (List Value) × IM) => ⟨[(9, .int .i64 x.1), (2, .int .i64 ((a + 1 + (J1 (ks.take x.1)).length : Nat) : Int)), (1, .slice (some ⟨b0, o0, none⟩) L.length c), (3, .pointer (some ⟨b3, 0, none⟩)), (8, .pointer (some ⟨b11, 0, none⟩)), (6, .pointer (some ⟨b4, 0, none⟩))], [.blk b11 [.int .i64 k, .string nm, .int .i64 num, .int .i64 T0.k, .slice p3 T0.ks.length c3, .int .i64 fk, .slice p2 fks.length c2, .int .i64 lb, .slice x.2.1 x.1 x.2.2.1], .slc x.2.1 x.2.2.1 28 9 x.1 x.2.2.2.1.flatten, .blk b4 [.int .i64 0, .string ⟨⟨[]⟩⟩, .int .i64 0, .int .i64 0, .slice none 0 0, .int .i64 0, .slice none 0 0, .int .i64 0, .slice none 0 0], .blk b3 [.int .i64 k, .string nm, .int .i64 num, .int .i64 tk, .slice pt tks.length ct, .int .i64 fk, .slice pf fks.length cf, .int .i64 lb, .slice q ks.length cq]], x.2.2.2.2⟩) (fun x => x.1 ≤ ks.length ∧ B9 G3 x.2.2.2.2 ∧ F9 x.2.2.2.2 (R6 (ks.take x.1) (L.drop (a + 1))) x.2.2.2.1) (fun x => ks.length - x.1) (0, none, 0, [], G3) ?_ ?_ ?_)
 (simp only [I9]; exact F8)
 (exact ⟨Nat.zero_le _, B9.refl _, by simp [R6, F9]⟩)
 (rintro ⟨(i : Nat), pn, cn, es, Gi⟩ ⟨hi, hle, hst⟩; simp only [] at hi hle hst ⊢)
 refine B0 ?_
 refine sB (N5 rfl rfl) rfl rfl (fun h88 => ?_) (fun h88 => ?_)
 refine A9 ?_
 refine C2 ?_
 refine C1 ?_
 refine sE (A6 rfl) rfl (fun b99 => ?_)
 refine E1 ?_
 (obtain ⟨b, o, e, rfl, hl, hat, hre, hgb⟩ := (hsl.mono zG0).kidTm (hkl.mono zG0) (i := i) zR0 zR0; have hone9 := hre.one; have hsc := A1A (ks := ks) (i := i) zR0; have hsk := A1z (ks := ks) (i := i) zR0; have hts1 := A41 (ks := ks) (i := i) zR0; have e9 : (J1 (ks.take (i + 1))).length = (J1 (ks.take i)).length + (K8 ks[i]).length := (by rw [A0X zR0, List.length_append]); refine sP (B8 rfl rfl rfl zR0) rfl rfl ?_)
 refine sL (A5 rfl rfl (hat _) hl) rfl rfl ?_
 refine A4 ?_
 (have hih := ih ks[i] (List.getElem_mem zR0) _ Gi e el zO hLb (Tm.smallL_mem hks _ (List.getElem_mem zR0)) zR0 hre (hse.mono zG0) (hel.mono zG0); refine A1l rfl hih rfl rfl (fun v G7 outs hle7 hh => ?_); obtain ⟨rfl, cu, rfl, hru⟩ := hh; rw [← List.drop_drop] at hru; have hsn := F9.snoc (hst.mono hle7) hru; obtain ⟨u1, u2, u3, u4, u5, u6, u7, u8, u9, rfl⟩ : ∃ u1 u2 u3 u4 u5 u6 u7 u8 u9, cu = [u1, u2, u3, u4, u5, u6, u7, u8, u9] := (by obtain ⟨_, _, _, _, _, _, _, _, _, rfl, _⟩ := hru.open; exact ⟨_, _, _, _, _, _, _, _, _, rfl⟩); have huo := hru.one)
 refine C1 ?_
 refine sS rfl rfl rfl rfl huo rfl ?_
 refine B0 ?_
 (refine J8 (D1 rfl rfl rfl zR0 zL0 rfl) rfl ?_; rintro _ ⟨b124, rfl⟩)
 (refine Y0 rfl rfl rfl rfl rfl (fun _ _ => by repeat (first | exact Sw.here | apply Sw.there)) (K4 zI0) rfl (fun u hu => List.all_eq_true.1 huo u hu) zL0 zR0 rfl (fun p4 c4 => ?_))
 refine B0 ?_
 refine sP (K0 rfl rfl zR0 zR0) rfl rfl ?_
 refine A4 ?_
 (rw [← A40 zR0] at hsn; refine J7 (i + 1, p4, c4, es ++ [[u1, u2, u3, u4, u5, u6, u7, u8, u9]], G7) zF ?_ ?_)
 (dsimp only; exact ⟨by omega, hle.trans hle7, hsn⟩)
 (show ks.length - (i + 1) < ks.length - i; omega)
 refine N3 ?_
 (refine J6 (cs := es.flatten) zD0 (fun G9 hle9 hsl9 hno9 => ?_); obtain rfl : i = ks.length := zR0; rw [List.take_length] at hst)
 refine tT ?_
 refine H3 (rC rfl (A3 rfl rfl)) (rT rfl) ?_
 (rw [hW2, hL2]; exact A4l.mk hk hnum hlb zQ (by first | exact hr2.mono (hle3.trans (hle.trans hle9)) | exact hr2.mono (hle.trans hle9)) (by rw [A29]) hsl9 (hst.mono hle9) (by (simp only [List.take_length, List.length_append, List.length_singleton]) <;> omega))
 refine C1 ?_
 refine sB (qE rfl rfl) rfl rfl (fun h162 => ?_) (fun h162 => ?_)
 refine E1 ?_
 (have hL1 := hcy zR0; have h1 : a + (1 + (J1 ks).length) ≤ L.length := (by rw [hL1] at hlen; simp only [List.length_append, List.length_singleton] at hlen; omega); obtain ⟨b0, o0, p20, c20, rfl, hat0, hre0, hgb0⟩ := hse.kidTy hel (i := a) zR0 zR0; obtain ⟨T0, hT0⟩ : ∃ T, T = L[a]'zR0 := ⟨_, rfl⟩; have hs0 := hsmL _ (List.getElem_mem (show a < L.length by omega)); rw [← hT0] at hre0 hat0 hs0; have hO := Z9 T0 G2 _ hs0 hre0; refine sP (B8 rfl rfl rfl zR0) rfl rfl ?_)
 refine sL (A5 rfl rfl (hat0 _) rfl) rfl rfl ?_
 (refine F4 rfl hO rfl rfl (fun v G3 hle3 hh => ?_); obtain ⟨cs3, F3, rfl, hs3, hn3⟩ := hh; have hr3 := hs3.R.mono (E0.le _ _); obtain ⟨p3, c3, rfl, _⟩ := hs3.open)
 refine A9 ?_
 refine sP (K0 rfl rfl zR0 zR0) rfl rfl ?_
 refine E7 ?_
 refine C2 ?_
 (have hL2 := hcy zR0; have hW2 := hwy zR0; refine X1 28 9 ?_; refine L8 (fun (x : Nat × Option Addr × Nat × List (List Value) × IM) => ⟨[(9, .int .i64 x.1), (2, .int .i64 ((a + 1 + (J1 (ks.take x.1)).length : Nat) : Int)), (1, .slice (some ⟨b0, o0, none⟩) L.length c), (3, .pointer (some ⟨b3, 0, none⟩)), (8, .pointer (some ⟨b11, 0, none⟩)), (6, .pointer (some ⟨b4, 0, none⟩))], [.blk b11 [.int .i64 k, .string nm, .int .i64 num, .int .i64 T0.k, .slice p3 T0.ks.length c3, .int .i64 fk, .slice p2 fks.length c2, .int .i64 lb, .slice x.2.1 x.1 x.2.2.1], .slc x.2.1 x.2.2.1 28 9 x.1 x.2.2.2.1.flatten, .blk b4 [.int .i64 0, .string ⟨⟨[]⟩⟩, .int .i64 0, .int .i64 0, .slice none 0 0, .int .i64 0, .slice none 0 0, .int .i64 0, .slice none 0 0], .blk b3 [.int .i64 k, .string nm, .int .i64 num, .int .i64 tk, .slice pt tks.length ct, .int .i64 fk, .slice pf fks.length cf, .int .i64 lb, .slice q ks.length cq]], x.2.2.2.2⟩) (fun x => x.1 ≤ ks.length ∧ B9 G3 x.2.2.2.2 ∧ F9 x.2.2.2.2 (R6 (ks.take x.1) (L.drop (a + 1))) x.2.2.2.1) (fun x => ks.length - x.1) (0, none, 0, [], G3) ?_ ?_ ?_)
 (simp only [I9]; exact F8)
 (exact ⟨Nat.zero_le _, B9.refl _, by simp [R6, F9]⟩)
 (rintro ⟨(i : Nat), pn, cn, es, Gi⟩ ⟨hi, hle, hst⟩; simp only [] at hi hle hst ⊢)
 refine B0 ?_
 refine sB (N5 rfl rfl) rfl rfl (fun h202 => ?_) (fun h202 => ?_)
 refine A9 ?_
 refine C2 ?_
 refine C1 ?_
 refine sE (A6 rfl) rfl (fun b213 => ?_)
 refine E1 ?_
 (obtain ⟨b, o, e, rfl, hl, hat, hre, hgb⟩ := (hsl.mono zG0).kidTm (hkl.mono zG0) (i := i) zR0 zR0; have hone9 := hre.one; have hsc := A1A (ks := ks) (i := i) zR0; have hsk := A1z (ks := ks) (i := i) zR0; have hts1 := A41 (ks := ks) (i := i) zR0; have e9 : (J1 (ks.take (i + 1))).length = (J1 (ks.take i)).length + (K8 ks[i]).length := (by rw [A0X zR0, List.length_append]); refine sP (B8 rfl rfl rfl zR0) rfl rfl ?_)
 refine sL (A5 rfl rfl (hat _) hl) rfl rfl ?_
 refine A4 ?_
 (have hih := ih ks[i] (List.getElem_mem zR0) _ Gi e el zO hLb (Tm.smallL_mem hks _ (List.getElem_mem zR0)) zR0 hre (hse.mono zG0) (hel.mono zG0); refine A1l rfl hih rfl rfl (fun v G7 outs hle7 hh => ?_); obtain ⟨rfl, cu, rfl, hru⟩ := hh; rw [← List.drop_drop] at hru; have hsn := F9.snoc (hst.mono hle7) hru; obtain ⟨u1, u2, u3, u4, u5, u6, u7, u8, u9, rfl⟩ : ∃ u1 u2 u3 u4 u5 u6 u7 u8 u9, cu = [u1, u2, u3, u4, u5, u6, u7, u8, u9] := (by obtain ⟨_, _, _, _, _, _, _, _, _, rfl, _⟩ := hru.open; exact ⟨_, _, _, _, _, _, _, _, _, rfl⟩); have huo := hru.one)
 refine C1 ?_
 refine sS rfl rfl rfl rfl huo rfl ?_
 refine B0 ?_
 (refine J8 (D1 rfl rfl rfl zR0 zL0 rfl) rfl ?_; rintro _ ⟨b238, rfl⟩)
 (refine Y0 rfl rfl rfl rfl rfl (fun _ _ => by repeat (first | exact Sw.here | apply Sw.there)) (K4 zI0) rfl (fun u hu => List.all_eq_true.1 huo u hu) zL0 zR0 rfl (fun p4 c4 => ?_))
 refine B0 ?_
 refine sP (K0 rfl rfl zR0 zR0) rfl rfl ?_
 refine A4 ?_
 (rw [← A40 zR0] at hsn; refine J7 (i + 1, p4, c4, es ++ [[u1, u2, u3, u4, u5, u6, u7, u8, u9]], G7) zF ?_ ?_)
 (dsimp only; exact ⟨by omega, hle.trans hle7, hsn⟩)
 (show ks.length - (i + 1) < ks.length - i; omega)
 refine N3 ?_
 (refine J6 (cs := es.flatten) zD0 (fun G9 hle9 hsl9 hno9 => ?_); obtain rfl : i = ks.length := zR0; rw [List.take_length] at hst)
 refine tT ?_
 refine H3 (rC rfl (A3 rfl rfl)) (rT rfl) ?_
 (rw [hW2, hL2]; exact A4l.mk hk hnum hlb zQ (by first | exact hr2.mono (hle3.trans (hle.trans hle9)) | exact hr2.mono (hle.trans hle9)) (by rw [A29]) hsl9 (hst.mono hle9) (by (simp only [List.take_length, List.length_append, List.length_singleton]) <;> omega))
 refine O3 ?_
 refine C2 ?_
 (have hL2 := hcn zR0; have hW2 := hwn zR0; refine X1 28 9 ?_; refine L8 (fun (x : Nat × Option Addr × Nat × List (List Value) × IM) => ⟨[(9, .int .i64 x.1), (2, .int .i64 ((a + (J1 (ks.take x.1)).length : Nat) : Int)), (1, .slice p L.length c), (3, .pointer (some ⟨b3, 0, none⟩)), (8, .pointer (some ⟨b11, 0, none⟩)), (6, .pointer (some ⟨b4, 0, none⟩))], [.blk b11 [.int .i64 k, .string nm, .int .i64 num, .int .i64 tk, .slice p1 tks.length c1, .int .i64 fk, .slice p2 fks.length c2, .int .i64 lb, .slice x.2.1 x.1 x.2.2.1], .slc x.2.1 x.2.2.1 28 9 x.1 x.2.2.2.1.flatten, .blk b4 [.int .i64 0, .string ⟨⟨[]⟩⟩, .int .i64 0, .int .i64 0, .slice none 0 0, .int .i64 0, .slice none 0 0, .int .i64 0, .slice none 0 0], .blk b3 [.int .i64 k, .string nm, .int .i64 num, .int .i64 tk, .slice pt tks.length ct, .int .i64 fk, .slice pf fks.length cf, .int .i64 lb, .slice q ks.length cq]], x.2.2.2.2⟩) (fun x => x.1 ≤ ks.length ∧ B9 G2 x.2.2.2.2 ∧ F9 x.2.2.2.2 (R6 (ks.take x.1) (L.drop a)) x.2.2.2.1) (fun x => ks.length - x.1) (0, none, 0, [], G2) ?_ ?_ ?_)
 (simp only [I9]; exact F8)
 (exact ⟨Nat.zero_le _, B9.refl _, by simp [R6, F9]⟩)
 (rintro ⟨(i : Nat), pn, cn, es, Gi⟩ ⟨hi, hle, hst⟩; simp only [] at hi hle hst ⊢)
 refine B0 ?_
 refine sB (N5 rfl rfl) rfl rfl (fun h297 => ?_) (fun h297 => ?_)
 refine A9 ?_
 refine C2 ?_
 refine C1 ?_
 refine sE (A6 rfl) rfl (fun b308 => ?_)
 refine E1 ?_
 (obtain ⟨b, o, e, rfl, hl, hat, hre, hgb⟩ := (hsl.mono zG0).kidTm (hkl.mono zG0) (i := i) zR0 zR0; have hone9 := hre.one; have hsc := A1A (ks := ks) (i := i) zR0; have hsk := A1z (ks := ks) (i := i) zR0; have hts1 := A41 (ks := ks) (i := i) zR0; have e9 : (J1 (ks.take (i + 1))).length = (J1 (ks.take i)).length + (K8 ks[i]).length := (by rw [A0X zR0, List.length_append]); refine sP (B8 rfl rfl rfl zR0) rfl rfl ?_)
 refine sL (A5 rfl rfl (hat _) hl) rfl rfl ?_
 refine A4 ?_
 (have hih := ih ks[i] (List.getElem_mem zR0) _ Gi e el zO hLb (Tm.smallL_mem hks _ (List.getElem_mem zR0)) zR0 hre (hse.mono zG0) (hel.mono zG0); refine A1l rfl hih rfl rfl (fun v G7 outs hle7 hh => ?_); obtain ⟨rfl, cu, rfl, hru⟩ := hh; rw [← List.drop_drop] at hru; have hsn := F9.snoc (hst.mono hle7) hru; obtain ⟨u1, u2, u3, u4, u5, u6, u7, u8, u9, rfl⟩ : ∃ u1 u2 u3 u4 u5 u6 u7 u8 u9, cu = [u1, u2, u3, u4, u5, u6, u7, u8, u9] := (by obtain ⟨_, _, _, _, _, _, _, _, _, rfl, _⟩ := hru.open; exact ⟨_, _, _, _, _, _, _, _, _, rfl⟩); have huo := hru.one)
 refine C1 ?_
 refine sS rfl rfl rfl rfl huo rfl ?_
 refine B0 ?_
 (refine J8 (D1 rfl rfl rfl zR0 zL0 rfl) rfl ?_; rintro _ ⟨b333, rfl⟩)
 (refine Y0 rfl rfl rfl rfl rfl (fun _ _ => by repeat (first | exact Sw.here | apply Sw.there)) (K4 zI0) rfl (fun u hu => List.all_eq_true.1 huo u hu) zL0 zR0 rfl (fun p4 c4 => ?_))
 refine B0 ?_
 refine sP (K0 rfl rfl zR0 zR0) rfl rfl ?_
 refine A4 ?_
 (rw [← A40 zR0] at hsn; refine J7 (i + 1, p4, c4, es ++ [[u1, u2, u3, u4, u5, u6, u7, u8, u9]], G7) zF ?_ ?_)
 (dsimp only; exact ⟨by omega, hle.trans hle7, hsn⟩)
 (show ks.length - (i + 1) < ks.length - i; omega)
 refine N3 ?_
 (refine J6 (cs := es.flatten) zD0 (fun G9 hle9 hsl9 hno9 => ?_); obtain rfl : i = ks.length := zR0; rw [List.take_length] at hst)
 refine tT ?_
 refine H3 (rC rfl (A3 rfl rfl)) (rT rfl) ?_
 (rw [hW2, hL2]; exact A4l.mk hk hnum hlb zQ (by first | exact hr2.mono (hle3.trans (hle.trans hle9)) | exact hr2.mono (hle.trans hle9)) (by rw [A29]) hsl9 (hst.mono hle9) (by (simp only [List.take_length, List.length_append, List.length_singleton]) <;> omega))
def A14 (t : Tm) (L : List Ty) : Option Tm := if M3 t = true ∧ (A04 t).length = L.length ∧ ∀ u ∈ L, H9 u = true then some (S6 t L) else none
theorem B1x {t : Tm} {L : List Ty} (h : M3 t = true) (hl : (A04 t).length = L.length) (ha : ∀ j, j < L.length → (h : j < L.length) → H9 L[j] = true) : A14 t L = some (S6 t L) := by
 unfold A14
 rw [if_pos ⟨h, hl, fun u hu => by obtain ⟨i, hi, rfl⟩ := List.mem_iff_getElem.1 hu; exact ha i hi hi⟩]
theorem B7t {t : Tm} {L : List Ty} (h : ¬(M3 t = true ∧ (A04 t).length = L.length ∧ ∀ u ∈ L, H9 u = true)) : A14 t L = none := by
 unfold A14; rw [if_neg h]
def TmB (o : Option Tm) : IM → Value → List A7 → Prop := N8 fun G' v => ∃ cu, v = .tuple ⟨[.agg ⟨cu⟩, .bool o.isSome]⟩ ∧ B7 G' (o.getD I8) cu
theorem B1y {t : Tm} (h : M3 t = true) : A04 t = K8 t := by unfold A04; rw [if_pos h]
theorem B1z (t : Tm) (L : List Ty) (G : IM) (cells : List Value) (p : Option Addr) (c : Nat) (es : List (List Value)) (hts : t.small) (hcnt : E4 t ≤ 4000000) (hLb : L.length ≤ 4000000) (hsm : ∀ u ∈ L, u.small) (hr : B7 G t cells) (hse : D7 G p L.length c 2 es) (hel : D9 G L es) :
  Fn Tryz.prog 24 [.agg ⟨cells⟩, .slice p L.length c] [] G (TmB (A14 t L)) := by
 have hl := hr.len
 have hone := hr.one
 have hyes := @B1x t L
 have hno := @B7t t L
 have htv := @B1y t
 have hT := B1w t G cells hts hcnt hr
 generalize A14 t L = R at hyes hno ⊢
 obtain ⟨TT, hTT⟩ : ∃ TT, A04 t = TT := ⟨_, rfl⟩
 rw [hTT] at hyes hno htv hT
 refine C0 Tryz.func24 rfl Tryz.ntmps24 Tryz.results24 rfl ?_
 intro w0
 refine A4 ?_
 refine sE (B6 rfl rfl) rfl (fun b3 => ?_)
 refine sE (A6 rfl) rfl (fun b4 => ?_)
 refine A9 ?_
 refine sL (A5 rfl rfl (B3 zI0) hl) rfl rfl ?_
 (refine A1l rfl hT rfl rfl (fun v G1 outs hle1 hh => ?_); obtain ⟨p1, c1, e1, rfl, rfl, hr1⟩ := hh; replace hr := hr.mono hle1; replace hse := hse.mono hle1; replace hel := hel.mono hle1; have hv := A4S t G1 cells zR0 hr)
 refine C1 ?_
 refine sB (U3 rfl rfl) rfl rfl (fun h16 => ?_) (fun h16 => ?_)
 refine V0 ?_
 exact y119
 refine D8 ?_
 refine sL (A5 rfl rfl (B3 zI0) hl) rfl rfl ?_
 refine J5 rfl (hv) rfl rfl (fun h38 => ?_) (fun h38 => ?_)
 refine N0 ?_
 refine C2 ?_
 (refine L8 (fun (x : Nat) => ⟨[(6, .int .i64 x), (1, .slice p L.length c), (2, .pointer (some ⟨b3, 0, none⟩)), (4, .pointer (some ⟨b4, 0, none⟩))], [.blk b4 [.int .i64 0, .string ⟨⟨[]⟩⟩, .int .i64 0, .int .i64 0, .slice none 0 0, .int .i64 0, .slice none 0 0, .int .i64 0, .slice none 0 0], .blk b3 cells], G1⟩) (fun x => x ≤ L.length ∧ ∀ j, j < x → (h : j < L.length) → H9 L[j] = true) (fun x => L.length - x) 0 ?_ ?_ ?_)
 exact F8
 (exact ⟨Nat.zero_le _, fun j hj => absurd hj zR0⟩)
 (rintro (i : Nat) ⟨hi, hval⟩)
 refine A9 ?_
 refine sB (N5 rfl rfl) rfl rfl (fun h63 => ?_) (fun h63 => ?_)
 refine A9 ?_
 refine C2 ?_
 refine B5 ?_
 (obtain ⟨b0, o0, p20, c20, rfl, hat0, hre0, hgb0⟩ := hse.kidTy hel (i := i) zR0 zR0; have hV := A3y _ G1 _ hre0; refine sP (B8 rfl rfl rfl zR0) rfl rfl ?_)
 refine sL (A5 rfl rfl (hat0 _) rfl) rfl rfl ?_
 refine J5 rfl (hV) rfl rfl (fun h77 => ?_) (fun h77 => ?_)
 refine E7 ?_
 refine sP (K0 rfl rfl zR0 zR0) rfl rfl ?_
 refine A4 ?_
 refine J7 (i + 1) ?_ ?_ ?_
 exact F8
 (exact ⟨by omega, fun j hj hl => by rcases Nat.lt_succ_iff_lt_or_eq.1 hj with h | h; exact hval j h hl; subst h; assumption⟩)
 (show L.length - (i + 1) < L.length - i; omega)
 refine V0 ?_
 exact y119
 refine J2 ?_
 refine sL (A5 rfl rfl (B3 zI0) hl) rfl rfl ?_
 refine D8 ?_
 (have hTv := htv zO0; refine A1l rfl (B7s L p c hsm t 0 G1 cells es (by rw [← hTv]; omega) hLb hts hcnt hr hse hel) rfl rfl (fun v G3 outs hle3 hh => ?_); obtain ⟨rfl, cu, rfl, hru⟩ := hh; rw [List.drop_zero] at hru; have hul := hru.len; have huo := hru.one)
 refine C1 ?_
 refine sE (A6 rfl) rfl (fun b129 => ?_)
 refine sS rfl rfl rfl hul huo rfl ?_ (hu := by exact C6 hul.symm)
 refine A8 ?_
 refine sL (A5 rfl rfl (B3 zI0) hul) rfl rfl ?_
 refine sS rfl rfl rfl hul huo rfl ?_ (hu := by exact C6 hul.symm)
 refine B5 ?_
 refine H3 (rC rfl (A5 rfl rfl (B3 zI0) hul)) (rT rfl) ?_
 (rw [hyes zO0 zR0 (fun j hj => hval j zR0)]; exact ⟨rfl, _, rfl, hru⟩)
 refine M8 ?_
 exact y119
theorem A5i {e : Tm} (h : (U7 e).isSome = true) : M3 e = true := by
 unfold U7 X7 at h
 split at h
 ·rename_i u t hx
  split at hx
  ·assumption
  ·cases hx
 ·cases h
mutual
theorem B1A : ∀ (t : Tm) (d : Int), L6 12 14 t d = true → t.small
 | .mk k nm num ty fr lb ks, d, h => by
  obtain ⟨_, h2, h3, h4⟩ := A0b h
  obtain ⟨n1, n2, n3, n4, n5, n6, n7, n8, n9⟩ := X5.1 h3
  rw [Tm.small]
  refine ⟨by have := A94 h3; omega, (A51 h3).1.small, by rw [A2O (n9 h2).1]; exact A97, ?_, B1B ks _ h4⟩
  have := A27 k; omega
theorem B1B : ∀ (ts : List Tm) (d : Int), I2 12 14 ts d = true → Tm.smallL ts
 | [], _, _ => by rw [Tm.smallL]; trivial
 | t :: ts, d, h => by
  rw [I2, Bool.and_eq_true] at h
  rw [Tm.smallL]
  exact ⟨B1A t d h.1, B1B ts d h.2⟩
end
theorem A3i {e : Tm} (h : M3 e = true) : e.fit 30 := by
 obtain ⟨h1, h2⟩ := (V2 e).1 h
 exact ⟨B1A e 1 h1, h2⟩
mutual
theorem B1C : ∀ (t : Tm) (d : Int), L6 12 14 t d = true → ∀ u ∈ K8 t, H9 u = true
 | .mk k nm num ty fr lb ks, d, h => by
  obtain ⟨_, h2, h3, h4⟩ := A0b h
  obtain ⟨n1, n2, n3, n4, n5, n6, n7, n8, n9⟩ := X5.1 h3
  intro u hu
  rw [K8, List.mem_append] at hu
  rcases hu with hu | hu
  ·split at hu
   ·rename_i hk
    obtain rfl := List.mem_singleton.1 hu
    exact n6 zR0
   ·simp at hu
  ·exact B1D ks _ h4 u hu
theorem B1D : ∀ (ts : List Tm) (d : Int), I2 12 14 ts d = true → ∀ u ∈ J1 ts, H9 u = true
 | [], _, _ => by simp [J1]
 | t :: ts, d, h => by
  rw [I2, Bool.and_eq_true] at h
  intro u hu
  rw [J1, List.mem_append] at hu
  rcases hu with hu | hu
  ·exact B1C t d h.1 u hu
  ·exact B1D ts d h.2 u hu
end
theorem B7u (e : Tm) : (A04 e).length ≤ 30 ∧ ∀ u ∈ A04 e, H9 u = true := by
 unfold A04
 split
 ·rename_i h
  obtain ⟨h1, h2⟩ := (V2 e).1 h
  exact ⟨by have := A7C e; omega, B1C e 1 h1⟩
 ·simp
mutual
theorem A8b : ∀ (t : Tm) (l : List Ty), t.small → (∀ u ∈ l, u.small) → (S6 t l).small ∧ E4 (S6 t l) = E4 t
 | .mk k nm num ty fr lb ks, l, h, hl => by
  obtain ⟨h1, h2, h3, h4, h5⟩ := A37.1 h
  rw [S6]
  have hd : ∀ u ∈ (if k = 5 ∨ k = 13 then l.drop 1 else l), u.small := by
   intro u hu
   split at hu
   ·exact hl u (List.mem_of_mem_drop hu)
   ·exact hl u hu
  obtain ⟨g1, g2⟩ := B1E ks _ h5 hd
  refine ⟨A37.2 ⟨h1, ?_, h3, by rw [A29]; exact h4, g1⟩, by rw [A0p, A0p, g2]⟩
  split
  ·rw [List.getD_eq_getElem?_getD]
   cases hx : l[0]? with
   | none => exact A97
   | some t => exact hl t (List.mem_of_getElem? hx)
  ·exact h2
theorem B1E : ∀ (ts : List Tm) (l : List Ty), Tm.smallL ts → (∀ u ∈ l, u.small) → Tm.smallL (R6 ts l) ∧ H0 (R6 ts l) = H0 ts
 | [], l, _, _ => by simp [R6, Tm.smallL, H0]
 | t :: ts, l, h, hl => by
  simp only [Tm.smallL] at h
  obtain ⟨a1, a2⟩ := A8b t l h.1 hl
  obtain ⟨b1, b2⟩ := B1E ts (l.drop (K8 t).length) h.2 (fun u hu => hl u (List.mem_of_mem_drop hu))
  simp only [R6, Tm.smallL, H0, a2, b2]
  exact ⟨⟨a1, b1⟩, trivial⟩
end
theorem B7v {t : Tm} {l : List Ty} {N : Nat} (h : t.fit N) (hl : ∀ u ∈ l, u.small) : ((A14 t l).getD I8).fit N := by
 unfold A14
 split
 ·obtain ⟨h1, h2⟩ := A8b t l h.1 hl
  exact ⟨h1, by rw [Option.getD_some, h2]; exact h.2⟩
 ·refine ⟨B4W, ?_⟩
  have h2 := h.2
  have : 1 ≤ E4 t := by cases t; rw [A0p]; omega
  show E4 I8 ≤ N
  rw [B46]; omega
theorem B7w {es : List (List Value)} {i sz : Nat} (hi : i < es.length) (ha : ∀ e ∈ es, e.length = sz) : ∀ j v, es[i][j]? = some v → es.flatten[0 + i * sz + j]? = some v := by
 intro j v hj
 have h1 : es.flatten = (es.take i).flatten ++ (es[i] ++ (es.drop (i + 1)).flatten) := by
  conv => lhs; rw [← List.take_append_drop i es, List.drop_eq_getElem_cons hi]
  rw [List.flatten_append, List.flatten_cons]
 have hA : ((es.take i).flatten).length = 0 + i * sz := by rw [A1y (fun e he => ha e (List.mem_of_mem_take he)), List.length_take, Nat.min_eq_left zR0]; omega
 have hjl : j < es[i].length := by
  apply Classical.byContradiction
  intro hn
  rw [List.getElem?_eq_none zR0] at hj
  cases hj
 rw [h1, List.getElem?_append_right zR0, hA, show 0 + i * sz + j - (0 + i * sz) = j by omega, List.getElem?_append_left hjl, hj]
mutual
theorem B1F : ∀ a : Ty, A2U a a = true
 | .mk k ks => by rw [A2r, B1G ks]; simp
theorem B1G : ∀ xs : List Ty, A1f xs xs = true
 | [] => rfl
 | a :: xs => by rw [A1f, B1F a, B1G xs]; rfl
end
def PLe (l l' : List Ty) : Prop := ∀ i, A2U (l.getD i B4) (l'.getD i B4) = true
mutual
theorem B1H : ∀ (t : Tm) (l : List Ty) (d : Int), L6 12 14 t d = true → (K8 t).length ≤ l.length → (∀ u ∈ l, H9 u = true) → L6 12 14 (S6 t l) d = true
 | .mk k nm num ty fr lb ks, l, d, h, hl, hv => by
  obtain ⟨h1, h2, h3, h4⟩ := A0b h
  obtain ⟨n1, n2, n3, n4, n5, n6, n7, n8, n9⟩ := X5.1 h3
  rw [K8, List.length_append] at hl
  rw [S6, A23 h1 h2]
  ·refine B1I ks _ _ h4 ?_ ?_
   ·split
    ·rename_i hk
     rw [if_pos hk] at hl
     simp only [List.length_singleton] at hl
     rw [List.length_drop]; omega
    ·rename_i hk
     rw [if_neg hk] at hl
     simpa using hl
   ·intro u hu
    split at hu
    ·exact hv u (List.mem_of_mem_drop hu)
    ·exact hv u hu
  ·rw [A29]
   by_cases hk : k = 5 ∨ k = 13
   ·rw [if_pos hk] at hl ⊢
    simp only [List.length_singleton] at hl
    refine X5.2 ⟨n1, n2, n3, n4, n5, fun _ => ?_, fun hn => absurd hk zR0, fun h14 => absurd h14 h2, n9⟩
    rw [List.getD_eq_getElem?_getD, List.getElem?_eq_getElem zR0, Option.getD_some]
    exact hv _ (List.getElem_mem _)
   ·rw [if_neg hk]; exact h3
theorem B1I : ∀ (ts : List Tm) (l : List Ty) (d : Int), I2 12 14 ts d = true → (J1 ts).length ≤ l.length → (∀ u ∈ l, H9 u = true) → I2 12 14 (R6 ts l) d = true
 | [], _, _, _, _, _ => by rw [R6]; rfl
 | t :: ts, l, d, h, hl, hv => by
  rw [I2, Bool.and_eq_true] at h
  rw [J1, List.length_append] at hl
  rw [R6, I2, B1H t l d h.1 zR0 hv, B1I ts _ d h.2 (by rw [List.length_drop]; omega) (fun u hu => hv u (List.mem_of_mem_drop hu))]; rfl
end
section masks
variable {P : Program} {Γ : N7} {env : O6} {hp : List A7} {G : IM} {ty : TypeId}
end masks
mutual
def wtT : Ty → Nat
 | .mk k ks => if k = 1 then 0 else wtL ks + 1
def wtL : List Ty → Nat
 | [] => 0
 | t :: ts => wtT t + wtL ts
end
def B7x (e : Tm) (i : Nat) : List Tm := (A7F 4 ((K8 e).getD i B4)).map fun x => S6 e ((K8 e).set i x)
def B7y (e : Tm) (n : Nat) : List Tm := (List.range n).flatMap (B7x e)
def A8c (e : Tm) : Bool := (U7 e).isSome
def B7z (e : Tm) : Option Tm := (B7y e (K8 e).length).find? A8c
mutual
theorem B1J : ∀ (t : Tm) (l m : List Ty), l.length = (K8 t).length → K8 (S6 t (l ++ m)) = l
 | .mk k nm num ty fr lb ks, l, m, h => by
  rw [K8] at h
  rw [S6, K8]
  by_cases hk : k = 5 ∨ k = 13
  ·rw [if_pos hk] at h
   rw [if_pos hk, if_pos hk, if_pos hk]
   obtain ⟨x, xs, rfl⟩ : ∃ x xs, l = x :: xs := by
    cases l with
    | nil => simp at h
    | cons x xs => exact ⟨x, xs, rfl⟩
   simp only [List.cons_append, List.nil_append, List.getD_cons_zero, List.drop_succ_cons, List.drop_zero, List.length_cons] at h ⊢
   rw [A8d ks xs m zR0]
  ·rw [if_neg hk] at h
   rw [if_neg hk, if_neg hk, List.nil_append]
   exact A8d ks l m (by simpa using h)
theorem A8d : ∀ (ts : List Tm) (l m : List Ty), l.length = (J1 ts).length → J1 (R6 ts (l ++ m)) = l
 | [], l, m, h => by
  rw [J1] at h
  rw [R6, J1, List.length_eq_zero_iff.1 h]
 | t :: ts, l, m, h => by
  rw [J1, List.length_append] at h
  have e : l = l.take (K8 t).length ++ l.drop (K8 t).length := (List.take_append_drop _ _).symm
  have hl : (l.take (K8 t).length).length = (K8 t).length := by rw [List.length_take]; omega
  rw [R6, J1]
  rw [e, List.append_assoc, B1J t _ _ hl]
  rw [List.drop_append_of_le_length zR0, List.drop_of_length_le zR0, List.nil_append, A8d ts _ m (by rw [List.length_drop]; omega)]
end
theorem B7A {t : Tm} {l : List Ty} (h : l.length = (K8 t).length) : K8 (S6 t l) = l := by
 have := B1J t l [] h
 rwa [List.append_nil] at this
theorem B7B {e : Tm} (h : M3 e = true) {l : List Ty} (hl : l.length = (K8 e).length) (hv : ∀ u ∈ l, H9 u = true) : M3 (S6 e l) = true := by
 obtain ⟨h1, h2⟩ := (V2 e).1 h
 have hf := (A8b e l (A3i h).1 (fun u hu => (A2R (hv u hu)).1.small)).2
 exact (V2 _).2 ⟨B1H e _ 1 h1 zR0 hv, by omega⟩
def B1K : Nat → Tm → Tm
 | 0, e => e
 | n + 1, e => match B7z e with
  | none => e
  | some x => B1K n x
def wtB (e : Tm) : Nat := 32 * (K8 e).length + 1 - wtL (K8 e)
def B7C (e : Tm) : Tm := B1K (wtB e) e
def B9K (e : Tm) : Option Tm := if A8c e = true then some (B7C e) else none
mutual
def Q5 : Ty → Int
 | .mk k ks => if k = 1 then 1 else A0P ks
def A0P : List Ty → Int
 | [] => 0
 | t :: ts => Q5 t + A0P ts
end
theorem B7D {k : Int} {ks : List Ty} (h : k = 1) : Q5 (.mk k ks) = 1 := by rw [Q5, if_pos h]
mutual
theorem A6t : ∀ t : Ty, 0 ≤ Q5 t ∧ Q5 t ≤ M4 t + 1
 | .mk k ks => by
  have h := A5j ks
  rw [Q5, M4]
  split
  ·have := A2L ks
   omega
  ·omega
theorem A5j : ∀ ts : List Ty, 0 ≤ A0P ts ∧ A0P ts ≤ Q8 ts + ts.length
 | [] => by simp [A0P, Q8]
 | t :: ts => by
  have h1 := A6t t
  have h2 := A5j ts
  rw [A0P, Q8, List.length_cons]; omega
end
def tSt (t : Ty) : Bool := decide (Q5 t = 0)
def A5k (e : Tm) : Bool := M3 e && (K8 e).all tSt
def GE.er : GE → GE
 | .var x => .var x
 | .num n => .num n
 | .tru b => .tru b
 | .lam x _ e => .lam x .any e.er
 | .app f a => .app f.er a.er
 | .ar s a b => .ar s a.er b.er
 | .ite c a b => .ite c.er a.er b.er
 | .pair a b => .pair a.er b.er
 | .part s e => .part s e.er
 | .cast _ _ _ e => e.er
def GE.nt : GE → Prop
 | .var _ => True
 | .num _ => True
 | .tru _ => True
 | .lam _ A e => A = .any ∧ e.nt
 | .app f a => f.nt ∧ a.nt
 | .ar _ a b => a.nt ∧ b.nt
 | .ite c a b => c.nt ∧ a.nt ∧ b.nt
 | .pair a b => a.nt ∧ b.nt
 | .part _ e => e.nt
 | .cast _ _ _ _ => False
theorem A3j : ∀ e : GE, e.er.nt := by
 intro e
 induction e with
 | var x => trivial
 | num n => trivial
 | tru b => trivial
 | lam x A e i => exact ⟨rfl, i⟩
 | app f a i j => exact ⟨i, j⟩
 | ar s a b i j => exact ⟨i, j⟩
 | ite c a b i j k => exact ⟨i, j, k⟩
 | pair a b i j => exact ⟨i, j⟩
 | part s e i => exact i
 | cast A B l e i => exact i
theorem B7E (x : ByteArray) (v : GE) : ∀ e : GE, (e.sub x v).er = e.er.sub x v.er := by
 intro e
 induction e with
 | var y => simp only [GE.er, GE.sub]; split <;> rfl
 | num n => rfl
 | tru b => rfl
 | lam y A e i =>
  simp only [GE.er, GE.sub]
  split
  ·rfl
  ·rw [GE.er, i]
 | app f a i j => simp only [GE.er, GE.sub, i, j]
 | ar s a b i j => simp only [GE.er, GE.sub, i, j]
 | ite c a b i j k => simp only [GE.er, GE.sub, i, j, k]
 | pair a b i j => simp only [GE.er, GE.sub, i, j]
 | part s e i => simp only [GE.er, GE.sub, i]
 | cast A B l e i => simp only [GE.er, GE.sub, i]
theorem A2w {e : GE} (h : GV e) : GV e.er := by
 induction h with
 | num => exact .num
 | tru => exact .tru
 | lam => exact .lam
 | pair _ _ i j => exact .pair i j
 | pf _ i => exact i
 | pp _ i => exact i
 | inj _ _ i => exact i
inductive Sn : Nat → GE → GE → Prop
 | refl {e} : Sn 0 e e
 | step {n a b c} : GS a b → Sn n b c → Sn (n + 1) a c
def A4m (k : Int) : Int := if k = 6 then 1 else if k = 7 ∨ k = 8 then 2 else if k = 9 then 3 else if k = 11 ∨ k = 12 then 4 else 5
def A1t (k : Int) (ks : List Tm) : Stp := match W9 k ks with
 | some u => (u, 1, 0)
 | none => (I8, 2, A4m k)
mutual
def O5 : Tm → Stp
 | .mk k nm num ty fr lb ks => match A0F (if k = 9 then 1 else ks.length) ks with
  | some (ks', c, l) => if c = 1 then (.mk k nm num ty fr lb ks', 1, 0) else (I8, c, l)
  | none => A1t k ks
def A0F : Nat → List Tm → Option (List Tm × Int × Int)
 | _, [] => none
 | n, t :: ts => match n with
  | 0 => none
  | n + 1 => if H7 t = true then (match A0F n ts with
    | some (us, c, l) => some (t :: us, c, l)
    | none => none)
   else some ((O5 t).1 :: ts, (O5 t).2.1, (O5 t).2.2)
end
mutual
def A0k : Tm → Bool
 | .mk k _ _ ty _ _ ks => decide (k ≠ 14 ∧ (k ≠ 5 ∨ ty.k = 1)) && A6u ks
def A6u : List Tm → Bool
 | [] => true
 | t :: ts => A0k t && A6u ts
end
theorem A8e : ∀ ks, A6u ks = ks.all A0k
 | [] => rfl
 | t :: ts => by rw [A6u, A8e ts, List.all_cons]
theorem A15 {k : Int} {nm : ByteArray} {num : Int} {ty fr : Ty} {lb : Int} {ks : List Tm} : A0k (.mk k nm num ty fr lb ks) = true ↔ (k ≠ 14 ∧ (k ≠ 5 ∨ ty.k = 1)) ∧ ∀ t ∈ ks, A0k t = true := by
 rw [A0k, Bool.and_eq_true, decide_eq_true_eq, A8e, List.all_eq_true]
def V6 (e : Tm) : Bool := O9 e && A0k e
def L4 (e : Tm) : Stp :=
 if V6 e = false then (I8, 3, 0) else if H7 e = true then (e, 0, 0)
 else if (O5 e).2.1 ≠ 1 then (I8, (O5 e).2.1, (O5 e).2.2)
 else if V6 (O5 e).1 = false then (I8, 4, 0) else ((O5 e).1, 1, 0)
def U2 : Nat → Tm → Tm × Int × Int × Nat
 | 0, e => ((L4 e).1, (L4 e).2.1, (L4 e).2.2, 0)
 | n + 1, e => if (L4 e).2.1 = 1 then ((U2 n (L4 e).1).1, (U2 n (L4 e).1).2.1, (U2 n (L4 e).1).2.2.1, (U2 n (L4 e).1).2.2.2 + 1)
  else ((L4 e).1, (L4 e).2.1, (L4 e).2.2, 0)
def R3 : Nat → Tm → Tm × Int × Int × Nat
 | 0, e => if (L4 e).2.1 = 1 then (I8, 5, 0, 0) else ((L4 e).1, (L4 e).2.1, (L4 e).2.2, 0)
 | n + 1, e => if (L4 e).2.1 = 1 then ((R3 n (L4 e).1).1, (R3 n (L4 e).1).2.1, (R3 n (L4 e).1).2.2.1, (R3 n (L4 e).1).2.2.2 + 1)
  else ((L4 e).1, (L4 e).2.1, (L4 e).2.2, 0)
theorem B1L (e : Tm) : U2 0 e = ((L4 e).1, (L4 e).2.1, (L4 e).2.2, 0) := by rw [U2]
theorem B1M {n : Nat} {e : Tm} (h : (L4 e).2.1 = 1) : U2 (n + 1) e = ((U2 n (L4 e).1).1, (U2 n (L4 e).1).2.1, (U2 n (L4 e).1).2.2.1, (U2 n (L4 e).1).2.2.2 + 1) := by rw [U2, if_pos h]
theorem B1N {n : Nat} {e : Tm} (h : (L4 e).2.1 ≠ 1) : U2 (n + 1) e = ((L4 e).1, (L4 e).2.1, (L4 e).2.2, 0) := by rw [U2, if_neg h]
theorem B1O : ∀ (n : Nat) (e : Tm), (U2 n e).2.1 = 1 → R3 n e = (I8, 5, 0, (U2 n e).2.2.2)
 | 0, e, h => by rw [B1L] at h ⊢; rw [R3, if_pos h]
 | n + 1, e, h => by
  by_cases h1 : (L4 e).2.1 = 1
  ·rw [B1M h1] at h ⊢
   rw [R3, if_pos h1, B1O n _ h]
  ·rw [B1N h1] at h; exact absurd h h1
theorem B1P : ∀ (n : Nat) (e : Tm), (U2 n e).2.1 ≠ 1 → R3 n e = U2 n e
 | 0, e, h => by rw [B1L] at h ⊢; rw [R3, if_neg h]
 | n + 1, e, h => by
  by_cases h1 : (L4 e).2.1 = 1
  ·rw [B1M h1] at h ⊢
   rw [R3, if_pos h1, B1P n _ h]
  ·rw [B1N h1]; rw [R3, if_neg h1]
theorem B7F {m i : Nat} {e : Tm} (h : (L4 e).2.1 ≠ 1 ∨ m = 0) : A1g i (U2 m e) = ((L4 e).1, (L4 e).2.1, (L4 e).2.2, i) := by
 cases m with
 | zero => simp [A1g, U2]
 | succ m =>
  rcases h with h | h
  ·simp only [A1g, U2]; rw [if_neg h]; simp
  ·cases h
theorem B7G {m i : Nat} {e : Tm} (h : (L4 e).2.1 = 1) (hm : 0 < m) : A1g i (U2 m e) = A1g (i + 1) (U2 (m - 1) (L4 e).1) := by
 obtain ⟨k, rfl⟩ : ∃ k, m = k + 1 := ⟨m - 1, by omega⟩
 simp only [A1g, U2]; rw [if_pos h]; simp only [Nat.add_sub_cancel, Nat.add_assoc, Nat.add_comm 1 i]
def X8 (e : Tm) (fuel : Int) : Stp := if 0 ≤ fuel ∧ fuel ≤ 300 then ((R3 fuel.toNat e).1, (R3 fuel.toNat e).2.1, (R3 fuel.toNat e).2.2.1) else (I8, 3, 0)
def B9L (e : Tm) (fuel : Int) : Int := if 0 ≤ fuel ∧ fuel ≤ 300 then ((R3 fuel.toNat e).2.2.2 : Int) else 0
theorem A8f (n : Nat) (t : Tm) (ts : List Tm) : A0F (n + 1) (t :: ts) = if H7 t = true then (match A0F n ts with | some (us, c, l) => some (t :: us, c, l) | none => none) else some ((O5 t).1 :: ts, (O5 t).2.1, (O5 t).2.2) := by
 rw [A0F]
theorem B1Q : ∀ (n : Nat) (ks : List Tm), (∀ i, i < n → (h : i < ks.length) → H7 ks[i] = true) → A0F n ks = none
 | n, [], _ => by cases n <;> rfl
 | 0, t :: ts, _ => rfl
 | n + 1, t :: ts, h => by
  rw [A8f, if_pos (show H7 t = true from h 0 zR0 zS0), B1Q n ts (fun i hi hl => h (i + 1) zR0 (by simpa using hl))]
theorem B1R : ∀ (n : Nat) (ks : List Tm) (i : Nat) (hi : i < ks.length), i < n → (∀ j, j < i → (h : j < ks.length) → H7 ks[j] = true) → H7 ks[i] = false → A0F n ks = some (ks.set i (O5 ks[i]).1, (O5 ks[i]).2.1, (O5 ks[i]).2.2)
 | n, [], i, hi, _, _, _ => by simp at hi
 | 0, t :: ts, i, _, hn, _, _ => by omega
 | n + 1, t :: ts, 0, _, _, _, hv => by
  rw [A8f, if_neg (by rw [show H7 t = false from hv]; decide)]; rfl
 | n + 1, t :: ts, i + 1, hi, hn, hj, hv => by
  rw [A8f, if_pos (show H7 t = true from hj 0 zR0 zS0), B1R n ts i (by simpa using hi) zR0 (fun j hji hl => hj (j + 1) zR0 (by simpa using hl)) hv]
  rfl
theorem B7H {k : Int} {nm : ByteArray} {num : Int} {ty fr : Ty} {lb : Int} {ks : List Tm} (h : (O5 (.mk k nm num ty fr lb ks)).2.1 = 1) : (O5 (.mk k nm num ty fr lb ks)).2.2 = 0 := by
 rw [O5] at h ⊢
 cases hL : A0F (if k = 9 then 1 else ks.length) ks with
 | none =>
  rw [hL] at h
  simp only [A1t] at h ⊢
  cases hr : W9 k ks with
  | none => rw [hr] at h; cases h
  | some u => rfl
 | some p =>
  obtain ⟨us, c, l⟩ := p
  rw [hL] at h
  simp only at h ⊢
  by_cases hc : c = 1
  ·rw [if_pos hc]
  ·rw [if_neg hc] at h; exact absurd h hc
theorem B7I {t : Tm} (h : (O5 t).2.1 = 1) : (O5 t).2.2 = 0 := by cases t; exact B7H h
theorem B7J {k : Int} {nm : ByteArray} {num : Int} {ty fr : Ty} {lb : Int} {ks : List Tm} {i : Nat} (hi : i < ks.length) (hn : i < (if k = 9 then 1 else ks.length)) (hj : ∀ j, j < i → (h : j < ks.length) → H7 ks[j] = true) (hv : H7 ks[i] = false) :
  (O5 (.mk k nm num ty fr lb ks)).2.1 = (O5 ks[i]).2.1 ∧ (O5 (.mk k nm num ty fr lb ks)).2.2 = (O5 ks[i]).2.2 ∧ ((O5 ks[i]).2.1 = 1 → (O5 (.mk k nm num ty fr lb ks)).1 = .mk k nm num ty fr lb (ks.set i (O5 ks[i]).1)) := by
 rw [O5, B1R _ ks i hi hn hj hv]
 simp only
 by_cases hc : (O5 ks[i]).2.1 = 1
 ·rw [if_pos hc]
  exact ⟨hc.symm, (B7I hc).symm, fun _ => rfl⟩
 ·rw [if_neg hc]
  exact ⟨rfl, rfl, fun h => absurd h hc⟩
theorem B7K {k : Int} {nm : ByteArray} {num : Int} {ty fr : Ty} {lb : Int} {ks : List Tm} (h : ∀ i, i < (if k = 9 then 1 else ks.length) → (hl : i < ks.length) → H7 ks[i] = true) : O5 (.mk k nm num ty fr lb ks) = A1t k ks := by
 rw [O5, B1Q _ _ h]
theorem A6v {k : Int} {ks : List Tm} {u : Tm} (h : W9 k ks = some u) : A1t k ks = (u, 1, 0) := by unfold A1t; rw [h]
theorem B7L {k : Int} {ks : List Tm} (h : W9 k ks = none) : A1t k ks = (I8, 2, A4m k) := by unfold A1t; rw [h]
theorem B7M {e : Tm} (h : V6 e = false) : L4 e = (I8, 3, 0) := by unfold L4; rw [if_pos h]
theorem A8g {e : Tm} (h : V6 e = true) (h2 : H7 e = true) : L4 e = (e, 0, 0) := by unfold L4; rw [if_neg (by rw [h]; decide), if_pos h2]
theorem B7N {e : Tm} (h : V6 e = true) (h2 : H7 e = false) (h3 : (O5 e).2.1 ≠ 1) : L4 e = (I8, (O5 e).2.1, (O5 e).2.2) := by
 unfold L4; rw [if_neg (by rw [h]; decide), if_neg (by rw [h2]; decide), if_pos h3]
theorem A8h {e : Tm} (h : V6 e = true) (h2 : H7 e = false) (h3 : (O5 e).2.1 = 1) (h4 : V6 (O5 e).1 = false) : L4 e = (I8, 4, 0) := by
 unfold L4; rw [if_neg (by rw [h]; decide), if_neg (by rw [h2]; decide), if_neg zR0, if_pos h4]
theorem A8i {e : Tm} (h : V6 e = true) (h2 : H7 e = false) (h3 : (O5 e).2.1 = 1) (h4 : V6 (O5 e).1 = true) : L4 e = ((O5 e).1, 1, 0) := by
 unfold L4; rw [if_neg (by rw [h]; decide), if_neg (by rw [h2]; decide), if_neg zR0, if_neg (by rw [h4]; decide)]
theorem A6w {e : Tm} (h : V6 e = true) : O9 e = true ∧ A0k e = true := by
 unfold V6 at h; rwa [Bool.and_eq_true] at h
section
variable {k : Int} {nm : ByteArray} {num : Int} {ty fr : Ty} {lb : Int} {a b c : Tm} {t : Tm} {l : Int}
theorem A5l (h : H7 a = false) (ks : List Tm) (r : Tm) (hs : O5 a = (r, 1, 0)) : O5 (.mk k nm num ty fr lb (a :: ks)) = (.mk k nm num ty fr lb (r :: ks), 1, 0) := by
 have : ∃ n, (if k = 9 then 1 else (a :: ks).length) = n + 1 := ⟨if k = 9 then 0 else ks.length, by split <;> simp⟩
 obtain ⟨n, hn⟩ := this
 rw [O5, hn, A0F, if_neg (by rw [h]; decide), hs]
 simp
theorem A8j (h0 : H7 a = true) (h : H7 b = false) (hk : k ≠ 9) (r : Tm) (hs : O5 b = (r, 1, 0)) : O5 (.mk k nm num ty fr lb [a, b]) = (.mk k nm num ty fr lb [a, r], 1, 0) := by
 rw [O5, if_neg hk]
 simp only [List.length_cons, List.length_nil, A0F, h0, h, if_true, hs]
 simp
theorem B7O (h : H7 a = true) : O5 (.mk k nm num ty fr lb [a]) = A1t k [a] := by
 rw [O5, show (if k = 9 then 1 else [a].length) = 1 by split <;> rfl, A0F, h]
 simp [A0F]
theorem B1S (h : H7 a = true) (h2 : H7 b = true) (hk : k ≠ 9) : O5 (.mk k nm num ty fr lb [a, b]) = A1t k [a, b] := by
 rw [O5, if_neg hk]
 simp [A0F, h, h2]
theorem B7P (h : H7 a = true) : O5 (.mk 9 nm num ty fr lb [a, b, c]) = A1t 9 [a, b, c] := by
 rw [O5, if_pos rfl]
 simp [A0F, h]
end
theorem B7Q {x : ByteArray} {v : GE} (hv : v.nt) : ∀ e : GE, e.nt → (e.sub x v).nt := by
 intro e
 induction e with
 | var y => intro _; rw [GE.sub]; split; exact hv; trivial
 | num n => intro h; exact h
 | tru b => intro h; exact h
 | lam y A e i => intro h; rw [GE.sub]; split; exact h; exact ⟨h.1, i h.2⟩
 | app f a i j => intro h; exact ⟨i h.1, j h.2⟩
 | ar s a b i j => intro h; exact ⟨i h.1, j h.2⟩
 | ite c a b i j k => intro h; exact ⟨i h.1, j h.2.1, k h.2.2⟩
 | pair a b i j => intro h; exact ⟨i h.1, j h.2⟩
 | part s e i => intro h; exact i h
 | cast A B l e i => intro h; exact h.elim
theorem B1T {e r : GE} (h : GS e r) : e.nt → O5 e.tm = (r.tm, 1, 0) ∧ r.nt := by
 induction h with
 | app1 s i => exact fun h => ⟨by rw [GE.tm, A5l (nv s) _ _ (i h.1).1, GE.tm], (i h.1).2, h.2⟩
 | app2 v s i => exact fun h => ⟨by rw [GE.tm, A8j ((U6 _).2 v) (nv s) zQ0 _ (i h.2).1, GE.tm], h.1, (i h.2).2⟩
 | ar1 s i => exact fun h => ⟨by rw [GE.tm, A5l (nv s) _ _ (i h.1).1, GE.tm], (i h.1).2, h.2⟩
 | @ar2 t _ _ _ v s i => exact fun h => ⟨by rw [GE.tm, A8j ((U6 _).2 v) (nv s) (by cases t <;> decide) _ (i h.2).1, GE.tm], h.1, (i h.2).2⟩
 | ite1 s i => exact fun h => ⟨by rw [GE.tm, A5l (nv s) _ _ (i h.1).1, GE.tm], (i h.1).2, h.2⟩
 | pair1 s i => exact fun h => ⟨by rw [GE.tm, A5l (nv s) _ _ (i h.1).1, GE.tm], (i h.1).2, h.2⟩
 | pair2 v s i => exact fun h => ⟨by rw [GE.tm, A8j ((U6 _).2 v) (nv s) zQ0 _ (i h.2).1, GE.tm], h.1, (i h.2).2⟩
 | part1 s i => exact fun h => ⟨by rw [GE.tm, A5l (nv s) _ _ (i h).1, GE.tm], (i h).2⟩
 | cast1 s i => exact fun h => h.elim
 | @beta x A b v hv =>
  intro h
  refine ⟨?_, B7Q h.2 _ h.1.2⟩
  rw [GE.tm, B1S ((U6 _).2 .lam) ((U6 _).2 hv) zQ0, A6v (u := (b.sub x v).tm) (by rw [B0p]; rfl)]
 | appx _ _ => exact fun h => h.1.elim
 | @ar s m n =>
  intro h
  refine ⟨?_, by unfold A2o; split <;> trivial⟩
  rw [GE.tm, B1S rfl rfl (by cases s <;> decide)]
  cases s
  ·rfl
  ·by_cases hmn : m < n
   ·simp only [A2o, if_true, decide_eq_true hmn, GE.tm]
    refine A6v ?_
    simp only [W9, kd, List.getD_cons_zero, List.getD_cons_succ, Tm.k, Tm.num]
    simp [A1L, A1K, hmn]
   ·simp only [A2o, if_true, decide_eq_false hmn, GE.tm]
    refine A6v ?_
    simp only [W9, kd, List.getD_cons_zero, List.getD_cons_succ, Tm.k, Tm.num]
    simp [A1L, A1K, hmn]
 | @ite b x y =>
  intro h
  refine ⟨?_, by cases b; exact h.2.2; exact h.2.1⟩
  rw [GE.tm, B7P ((U6 _).2 .tru)]
  cases b <;> rfl
 | @part s a b v v2 =>
  intro h
  refine ⟨?_, by cases s; exact h.1; exact h.2⟩
  rw [GE.tm, B7O ((U6 _).2 (.pair v v2))]
  cases s <;> rfl
 | partx _ => exact fun h => h.elim
 | cid _ _ => exact fun h => h.elim
 | up _ _ _ => exact fun h => h.elim
 | down _ _ _ => exact fun h => h.elim
 | hit _ _ => exact fun h => h.elim
theorem A4n : ∀ e : GE, A0k e.tm = true ↔ e.nt := by
 intro e
 induction e with
 | var x => rw [GE.tm, A15]; simp [GE.nt]
 | num n => rw [GE.tm, A15]; simp [GE.nt]
 | tru b => rw [GE.tm, A15]; cases b <;> simp [GE.nt]
 | lam x A e i => rw [GE.tm, A15, A2q]; simp [GE.nt, i]
 | app f a i j => rw [GE.tm, A15]; simp [GE.nt, i, j]
 | ar s a b i j => rw [GE.tm, A15]; cases s <;> simp [GE.nt, i, j]
 | ite c a b i j k => rw [GE.tm, A15]; simp [GE.nt, i, j, k]
 | pair a b i j => rw [GE.tm, A15]; simp [GE.nt, i, j]
 | part s e i => rw [GE.tm, A15]; cases s <;> simp [GE.nt, i]
 | cast A B l e i => rw [GE.tm, A15]; simp [GE.nt]
theorem B7R {n : Nat} {e : Tm} (h : (L4 e).2.1 = 1) : R3 (n + 1) e = ((R3 n (L4 e).1).1, (R3 n (L4 e).1).2.1, (R3 n (L4 e).1).2.2.1, (R3 n (L4 e).1).2.2.2 + 1) := by rw [R3, if_pos h]
mutual
def A5m : Tm → List Tm
 | .mk k nm num ty fr lb ks => (if k = 14 then [.mk k nm num ty fr lb ks] else []) ++ A8k ks
def A8k : List Tm → List Tm
 | [] => []
 | t :: ts => A5m t ++ A8k ts
end
def B1U (label : Int) (x : Tm) : Bool := decide (x.lb = label)
def B9M (t : Tm) (label : Int) : Prop := ((A5m t).find? (B1U label) = none → (A5J t []).find? (pAt t label) = none) ∧ (∀ x, (A5m t).find? (B1U label) = some x → ∃ l, (A5J t []).find? (pAt t label) = some l ∧ tAt t l = some x)
def B1V (label : Int) : List Tm → List Ty
 | [] => []
 | c :: cs => (if c.lb = label then [c.fr, c.ty] else []) ++ B1V label cs
def B9N (t : Tm) (label : Int) : List Ty := if O9 t = true then B1V label (A5m t) else []
mutual
def A4o : GT → GT → Bool
 | _, .any => true
 | .fn a b, .fn c d => A3k c a && A4o b d
 | .pr a b, .pr c d => A4o a c && A4o b d
 | .int, .int => true
 | .bool, .bool => true
 | _, _ => false
termination_by a b => SizeOf.sizeOf a + SizeOf.sizeOf b
def A3k : GT → GT → Bool
 | .any, _ => true
 | .fn a b, .any => A4o .any a && A3k b .any
 | .pr a b, .any => A3k a .any && A3k b .any
 | .int, .any => true
 | .bool, .any => true
 | .fn a b, .fn c d => A4o c a && A3k b d
 | .pr a b, .pr c d => A3k a c && A3k b d
 | .int, .int => true
 | .bool, .bool => true
 | _, _ => false
termination_by a b => SizeOf.sizeOf a + SizeOf.sizeOf b
end
def GQ (Q : GT → GT → Int → Prop) : GE → Prop
 | .var _ => True
 | .num _ => True
 | .tru _ => True
 | .lam _ _ e => GQ Q e
 | .app f a => GQ Q f ∧ GQ Q a
 | .ar _ a b => GQ Q a ∧ GQ Q b
 | .ite c a b => GQ Q c ∧ GQ Q a ∧ GQ Q b
 | .pair a b => GQ Q a ∧ GQ Q b
 | .part _ e => GQ Q e
 | .cast A B l e => Q A B l ∧ GQ Q e
structure Clo (Q : GT → GT → Int → Prop) : Prop where
 fn : ∀ {a b c d l}, Q (.fn a b) (.fn c d) l → Q c a (-l) ∧ Q b d l
 pr : ∀ {a b c d l}, Q (.pr a b) (.pr c d) l → Q a c l ∧ Q b d l
 up : ∀ {A l}, A ≠ .any → Q A .any l → Q A.gr .any l ∧ Q A A.gr l
 down : ∀ {B l}, B ≠ .any → Q .any B l → Q B.gr B l ∧ Q .any B.gr l
theorem A3l {k : Int} {ty fr : Ty} {lb : Int} {ks : List Tm} (h : (A0w k ty fr lb ks).2.1 = 2) : k = 14 ∧ (A0w k ty fr lb ks).2.2 = lb ∧ fr.k ≠ ty.k ∧ ty.k ≠ 1 := by
 unfold A0w at h ⊢
 by_cases h6 : k = 6
 ·rw [if_pos h6] at h; (repeat' split at h) <;> cases h
 rw [if_neg h6] at h ⊢
 by_cases h7 : k = 7 ∨ k = 8
 ·rw [if_pos h7] at h; split at h <;> cases h
 rw [if_neg h7] at h ⊢
 by_cases h9 : k = 9
 ·rw [if_pos h9] at h; (repeat' split at h) <;> cases h
 rw [if_neg h9] at h ⊢
 by_cases h11 : k = 11 ∨ k = 12
 ·rw [if_pos h11] at h; (repeat' split at h) <;> cases h
 rw [if_neg h11] at h ⊢
 by_cases h14 : k = 14
 ·rw [if_pos h14] at h ⊢
  by_cases e1 : fr.k = ty.k
  ·rw [if_pos e1] at h; cases h
  rw [if_neg e1] at h ⊢
  by_cases e2 : ty.k = 1
  ·rw [if_pos e2] at h; cases h
  rw [if_neg e2] at h ⊢
  by_cases e3 : A0h ty = false
  ·rw [if_pos e3] at h; cases h
  rw [if_neg e3] at h ⊢
  by_cases e4 : inj (kd ks 0) = false
  ·rw [if_pos e4] at h; cases h
  rw [if_neg e4] at h ⊢
  by_cases e5 : (kd ks 0).fr.k = ty.k
  ·rw [if_pos e5] at h; cases h
  rw [if_neg e5] at h ⊢
  exact ⟨h14, rfl, e1, e2⟩
 ·rw [if_neg h14] at h; cases h
theorem B1W : ∀ (n : Nat) (ks us : List Tm) (c l : Int), Y8 n ks = some (us, c, l) → ∃ t ∈ ks, (K3 t).2.1 = c ∧ (K3 t).2.2 = l
 | n, [], us, c, l, h => by rw [Y8] at h; cases h
 | 0, t :: ts, us, c, l, h => by rw [Y8] at h; cases h
 | n + 1, t :: ts, us, c, l, h => by
  rw [Y8] at h
  split at h
  ·split at h
   ·rename_i us' c' l' h'
    obtain ⟨t', h1, h2, h3⟩ := B1W n ts us' c' l' h'
    cases h
    exact ⟨t', List.mem_cons_of_mem _ h1, h2, h3⟩
   ·cases h
  ·cases h
   exact ⟨t, List.mem_cons_self, rfl, rfl⟩
theorem A3m {k : Int} {nm : ByteArray} {num : Int} {ty fr : Ty} {lb : Int} {ks : List Tm} (h : (K3 (.mk k nm num ty fr lb ks)).2.1 = 2) :
  (∃ t ∈ ks, (K3 t).2.1 = 2 ∧ (K3 t).2.2 = (K3 (.mk k nm num ty fr lb ks)).2.2) ∨ ((A0w k ty fr lb ks).2.1 = 2 ∧ (A0w k ty fr lb ks).2.2 = (K3 (.mk k nm num ty fr lb ks)).2.2) := by
 rw [K3] at h ⊢
 split at h
 ·rename_i ks' c l hs
  obtain ⟨t, h1, h2, h3⟩ := B1W _ _ _ _ _ hs
  by_cases hc : c = 1
  ·rw [if_pos hc] at h; cases h
  ·rw [if_neg hc] at h ⊢
   exact .inl ⟨t, h1, h2.trans h, h3⟩
 ·exact .inr ⟨h, rfl⟩
theorem B1X {Q : GT → GT → Int → Prop} : ∀ (e : GE), cv e.tm → GQ Q e → (K3 e.tm).2.1 = 2 → ∃ B, B ≠ .any ∧ Q .any B (K3 e.tm).2.2 := by
 have leaf : ∀ {k : Int} {nm : ByteArray} {num : Int} {ty fr : Ty} {lb : Int}, k ≠ 14 → (K3 (.mk k nm num ty fr lb [])).2.1 ≠ 2 := by
  intro k nm num ty fr lb hk h
  rcases A3m h with ⟨t, ht, _⟩ | ⟨h2, _⟩
  ·cases ht
  ·exact hk (A3l h2).1
 intro e
 induction e with
 | var x => intro _ _ h; exact absurd h (leaf zQ0)
 | num n => intro _ _ h; exact absurd h (leaf zQ0)
 | tru b => intro _ _ h; exact absurd h (leaf (by cases b <;> decide))
 | lam x A e i =>
  intro hc hq h
  rw [GE.tm] at hc h ⊢
  rcases A3m h with ⟨t, ht, h1, h2⟩ | ⟨h2, _⟩
  ·obtain rfl := List.mem_singleton.1 ht
   rw [← h2]; exact i (hc.node.2 _ ht) hq h1
  ·exact absurd (A3l h2).1 zQ0
 | app f a i j =>
  intro hc hq h
  rw [GE.tm] at hc h ⊢
  rcases A3m h with ⟨t, ht, h1, h2⟩ | ⟨h2, _⟩
  ·have hm := hc.node.2 t ht
   rw [← h2]
   simp only [List.mem_cons, List.not_mem_nil, or_false] at ht
   rcases ht with rfl | rfl
   ·exact i hm hq.1 h1
   ·exact j hm hq.2 h1
  ·exact absurd (A3l h2).1 zQ0
 | ar s a b i j =>
  intro hc hq h
  rw [GE.tm] at hc h ⊢
  rcases A3m h with ⟨t, ht, h1, h2⟩ | ⟨h2, _⟩
  ·have hm := hc.node.2 t ht
   rw [← h2]
   simp only [List.mem_cons, List.not_mem_nil, or_false] at ht
   rcases ht with rfl | rfl
   ·exact i hm hq.1 h1
   ·exact j hm hq.2 h1
  ·exact absurd (A3l h2).1 (by cases s <;> decide)
 | ite c a b i j k =>
  intro hc hq h
  rw [GE.tm] at hc h ⊢
  rcases A3m h with ⟨t, ht, h1, h2⟩ | ⟨h2, _⟩
  ·have hm := hc.node.2 t ht
   rw [← h2]
   simp only [List.mem_cons, List.not_mem_nil, or_false] at ht
   rcases ht with rfl | rfl | rfl
   ·exact i hm hq.1 h1
   ·exact j hm hq.2.1 h1
   ·exact k hm hq.2.2 h1
  ·exact absurd (A3l h2).1 zQ0
 | pair a b i j =>
  intro hc hq h
  rw [GE.tm] at hc h ⊢
  rcases A3m h with ⟨t, ht, h1, h2⟩ | ⟨h2, _⟩
  ·have hm := hc.node.2 t ht
   rw [← h2]
   simp only [List.mem_cons, List.not_mem_nil, or_false] at ht
   rcases ht with rfl | rfl
   ·exact i hm hq.1 h1
   ·exact j hm hq.2 h1
  ·exact absurd (A3l h2).1 zQ0
 | part s e i =>
  intro hc hq h
  rw [GE.tm] at hc h ⊢
  rcases A3m h with ⟨t, ht, h1, h2⟩ | ⟨h2, _⟩
  ·obtain rfl := List.mem_singleton.1 ht
   rw [← h2]; exact i (hc.node.2 _ ht) hq h1
  ·exact absurd (A3l h2).1 (by cases s <;> decide)
 | cast A B l e i =>
  intro hc hq h
  rw [GE.tm] at hc h ⊢
  rcases A3m h with ⟨t, ht, h1, h2⟩ | ⟨h2, hl⟩
  ·obtain rfl := List.mem_singleton.1 ht
   rw [← h2]; exact i (hc.node.2 _ ht) hq.2 h1
  ·obtain ⟨_, e1, e2, e3⟩ := A3l h2
   have hB : B ≠ .any := fun hb => e3 (A2q.2 hb)
   rw [← hl, e1]
   have hco := (A1s A B).1 (hc.node.1.c14 rfl).1
   have : A = .any := by
    cases hco with
    | l => rfl
    | r => exact absurd rfl hB
    | int => exact absurd rfl e2
    | bool => exact absurd rfl e2
    | fn _ _ => exact absurd rfl e2
    | pr _ _ => exact absurd rfl e2
   subst this
   exact ⟨B, hB, hq.1⟩
def QL (m : Int) : GT → GT → Int → Prop := fun A B l => (l = m → A4o A B = true) ∧ (l = -m → A3k A B = true)
def mLb (t : Tm) : List Int := (A5m t).map Tm.lb
def B9O (ts : List Tm) : List Int := (A8k ts).map Tm.lb
structure Lbs (ls : List Int) (l l' : Int) : Prop where
 le : l ≤ l'
 nd : ls.Nodup
 len : (ls.length : Int) = l' - l
 mem : ∀ m ∈ ls, l < m ∧ m ≤ l'
theorem A8l {us : List Tm} {h w : List Ty} {l : Int} (hn : us = [] ∨ h = [] ∨ w = []) : I5 us h w l = (us, l) := by
 rcases hn with rfl | rfl | rfl
 ·simp [I5]
 ·simp [I5]
 ·simp [I5]
mutual
theorem B1Y : ∀ a : Tm, A3K a a = true
 | .mk k nm num ty fr lb ks => B0F.2 ⟨rfl, rfl, rfl, fun _ => B1F ty, B1Z ks⟩
theorem B1Z : ∀ xs : List Tm, A3c xs xs = true
 | [] => rfl
 | a :: xs => by rw [A3c, B1Y a, B1Z xs]; rfl
end
theorem B7S {e u : Tm} {t : Ty} (h : X7 e = some (u, t)) : ∃ g A g' A', u = g.tm ∧ t = A.ty ∧ GP S7 g g' A A' := by
 have hv : M3 e = true := A5i (by rw [B60 h]; rfl)
 obtain ⟨g, g', A, A', h1, h2, _, h4⟩ := B52 h (b := e) (by unfold A6d; rw [hv, B1Y]; rfl)
 exact ⟨g, A, g', A', h1, h2, h4⟩
theorem B7T : ∀ g : GE, H2 g.tm = g.er.tm := by
 intro g
 induction g with
 | var x => rw [GE.er, GE.tm, H2, I0]; simp
 | num n => rw [GE.er, GE.tm, H2, I0]; simp
 | tru b => rw [GE.er, GE.tm, H2, I0]; cases b <;> simp
 | lam x A e i => rw [GE.er, GE.tm, GE.tm, H2, I0, I0, i]; rfl
 | app f a i j => rw [GE.er, GE.tm, GE.tm, H2, I0, I0, I0, i, j]; rfl
 | ar s a b i j => rw [GE.er, GE.tm, GE.tm, H2, I0, I0, I0, i, j]; cases s <;> rfl
 | ite c a b i j k => rw [GE.er, GE.tm, GE.tm, H2, I0, I0, I0, I0, i, j, k]; rfl
 | pair a b i j => rw [GE.er, GE.tm, GE.tm, H2, I0, I0, I0, i, j]; rfl
 | part s e i => rw [GE.er, GE.tm, GE.tm, H2, I0, I0, i]; cases s <;> rfl
 | cast A B l e i => rw [GE.er, GE.tm, H2, I0, I0, i]; rfl
theorem B7U (u : Tm) (a b : Ty) (l : Int) : H2 (S5 u a b l) = H2 u := by rw [S5, H2, I0, I0]; rfl
theorem A6x : ∀ (us : List Tm) (h w : List Ty) (l : Int), I0 (I5 us h w l).1 = I0 us
 | [], h, w, l => by rw [A8l zS0]
 | u :: us, [], w, l => by rw [A8l zS0]
 | u :: us, a :: h, [], l => by rw [A8l zS0]
 | u :: us, a :: h, b :: w, l => by
  rw [I5]
  split
  ·rw [I0, I0, A6x us h w l]
  ·rw [I0, I0, B7U, A6x us h w (l + 1)]
theorem B7V : ∀ (us : List Tm), H2 (us.getD 0 I8) = (I0 us).headD (H2 I8)
 | [] => rfl
 | u :: us => by rw [I0]; rfl
theorem B7W (ks : List Tm) (ih : ∀ t ∈ ks, ∀ (d : Int) (cx : Cx) (l : Int) (u : Tm) (a : Ty) (l' : Int), L6 12 14 t d = true → P4 cx t l = some (u, a, l') → H2 u = H2 t) :
  ∀ (d : Int) (cx : Cx) (l : Int) (us : List Tm) (h : List Ty) (l' : Int), I2 12 14 ks d = true → O8 cx ks l = some (us, h, l') → I0 us = I0 ks := by
 induction ks with
 | nil =>
  intro d cx l us h l' _ hE
  rw [O8] at hE
  cases hE
  rfl
 | cons t ts ihl =>
  intro d cx l us h l' hs hE
  rw [I2, Bool.and_eq_true] at hs
  rw [O8] at hE
  split at hE
  ·cases hE
  ·rename_i u a l1 h1
   split at hE
   ·cases hE
   ·rename_i us2 h2 l2 hE2
    cases hE
    rw [I0, I0, ih t List.mem_cons_self d cx l u a l1 hs.1 h1, ihl (fun t ht => ih t (List.mem_cons_of_mem _ ht)) d cx l1 us2 h2 _ hs.2 hE2]
theorem B7X : ∀ (t : Tm) (d : Int) (cx : Cx) (l : Int) (u : Tm) (a : Ty) (l' : Int), L6 12 14 t d = true → P4 cx t l = some (u, a, l') → H2 u = H2 t := by
 refine Tm.ind fun k nm num ty fr lb ks ih d cx l u a l' hs hE => ?_
 obtain ⟨_, h2, h3, h4⟩ := A0b hs
 have hops := (X5.1 h3).1
 rw [P4] at hE
 split at hE
 ·cases hE
 ·rename_i us h l1 hL
  have g1 := B7W ks ih _ _ _ _ _ _ h4 hL
  rw [T9] at hE
  split at hE
  ·cases hE
  ·rename_i w t' hN
   cases hE
   split
   ·rename_i hk
    subst hk
    rw [B7V, A6x, g1, H2, if_pos (.inl rfl)]
    have hl : ks.length = 1 := by rw [show E8 13 = 1 from rfl] at hops; omega
    obtain ⟨x, hx⟩ : ∃ x, ks = [x] := List.length_eq_one_iff.1 hl
    rw [hx, I0]; rfl
   ·rename_i hk
    have hE : ∀ vs, H2 (.mk k nm num ty fr lb vs) = .mk k nm num (if k = 5 then S0 else B4) B4 0 (I0 vs) := fun vs => by rw [H2, if_neg zR0]
    rw [hE, hE, A6x, g1]
theorem B7Y {e u : Tm} {t : Ty} (h : X7 e = some (u, t)) : H2 u = H2 e := by
 unfold X7 at h
 split at h
 ·rename_i hv
  split at h
  ·rename_i u' t' l' he
   cases h
   exact B7X e 1 [] 0 u t l' ((V2 e).1 hv).1 he
  ·cases h
 ·cases h
mutual
theorem A8m : ∀ (t : Tm) (d d' : Int), d' ≤ d → L6 12 14 t d = true → L6 12 14 (H2 t) d' = true
 | .mk k nm num ty fr lb ks, d, d', hd, h => by
  obtain ⟨h1, h2, h3, h4⟩ := A0b h
  obtain ⟨n1, n2, n3, n4, n5, n6, n7, n8, n9⟩ := X5.1 h3
  rw [H2]
  by_cases hk : k = 13 ∨ k = 14
  ·rw [if_pos hk]
   have hk13 : k = 13 := by omega
   subst hk13
   have hl : ks.length = 1 := by rw [show E8 13 = 1 from rfl] at n1; omega
   match ks, hl, h4 with
   | [x], _, h4 =>
    rw [I2, Bool.and_eq_true] at h4
    rw [I0]
    exact A8m x (d + 1) d' zR0 h4.1
  ·rw [if_neg hk, A23 zR0 h2]
   ·exact B10 ks (d + 1) (d' + 1) zR0 h4
   ·have hlen : (I0 ks).length = ks.length := by rw [A3A, List.length_map]
    rw [hlen]
    obtain ⟨hf, hl⟩ := n9 h2
    refine X5.2 ⟨n1, n2, n3, n4, n5, fun h5 => ?_, fun h5 => ?_, fun h14 => absurd h14 h2, fun _ => ⟨by decide, rfl⟩⟩
    ·rw [if_pos zR0]; decide
    ·rw [if_neg zR0]; decide
theorem B10 : ∀ (ts : List Tm) (d d' : Int), d' ≤ d → I2 12 14 ts d = true → I2 12 14 (I0 ts) d' = true
 | [], _, _, _, _ => by rw [I0]; rfl
 | t :: ts, d, d', hd, h => by
  rw [I2, Bool.and_eq_true] at h
  rw [I0, I2, A8m t d d' hd h.1, B10 ts d d' hd h.2]; rfl
end
def GE.lt : GE → Prop
 | .var _ => True
 | .num _ => True
 | .tru _ => True
 | .lam _ A e => H9 A.ty = true ∧ e.lt
 | .app f a => f.lt ∧ a.lt
 | .ar _ a b => a.lt ∧ b.lt
 | .ite c a b => c.lt ∧ a.lt ∧ b.lt
 | .pair a b => a.lt ∧ b.lt
 | .part _ e => e.lt
 | .cast _ _ _ _ => False
theorem B7Z {x : ByteArray} {v : GE} (hv : v.lt) : ∀ e : GE, e.lt → (e.sub x v).lt := by
 intro e
 induction e with
 | var y => intro _; rw [GE.sub]; split; exact hv; trivial
 | num n => intro h; exact h
 | tru b => intro h; exact h
 | lam y A e i => intro h; rw [GE.sub]; split; exact h; exact ⟨h.1, i h.2⟩
 | app f a i j => intro h; exact ⟨i h.1, j h.2⟩
 | ar s a b i j => intro h; exact ⟨i h.1, j h.2⟩
 | ite c a b i j k => intro h; exact ⟨i h.1, j h.2.1, k h.2.2⟩
 | pair a b i j => intro h; exact ⟨i h.1, j h.2⟩
 | part s e i => intro h; exact i h
 | cast A B l e i => intro h; exact h.elim
theorem B11 {e r : GE} (h : GS e r) : e.lt → GS e.er r.er ∧ r.lt := by
 induction h with
 | app1 _ i => exact fun h => ⟨.app1 (i h.1).1, (i h.1).2, h.2⟩
 | app2 v _ i => exact fun h => ⟨.app2 (A2w v) (i h.2).1, h.1, (i h.2).2⟩
 | ar1 _ i => exact fun h => ⟨.ar1 (i h.1).1, (i h.1).2, h.2⟩
 | ar2 v _ i => exact fun h => ⟨.ar2 (A2w v) (i h.2).1, h.1, (i h.2).2⟩
 | ite1 _ i => exact fun h => ⟨.ite1 (i h.1).1, (i h.1).2, h.2⟩
 | pair1 _ i => exact fun h => ⟨.pair1 (i h.1).1, (i h.1).2, h.2⟩
 | pair2 v _ i => exact fun h => ⟨.pair2 (A2w v) (i h.2).1, h.1, (i h.2).2⟩
 | part1 _ i => exact fun h => ⟨.part1 (i h).1, (i h).2⟩
 | cast1 _ _ => exact fun h => h.elim
 | beta v => exact fun h => ⟨by rw [B7E]; exact .beta (A2w v), B7Z h.2 _ h.1.2⟩
 | appx _ _ => exact fun h => h.1.elim
 | @ar s m n => exact fun _ => ⟨by rw [show (A2o s m n).er = A2o s m n by unfold A2o; split <;> rfl]; exact .ar, by unfold A2o; split <;> trivial⟩
 | @ite b x y => exact fun h => ⟨by rw [show (if b = true then x else y).er = if b = true then x.er else y.er by split <;> rfl]; exact .ite, by cases b; exact h.2.2; exact h.2.1⟩
 | @part s a b v v2 => exact fun h => ⟨by rw [show (if s = true then b else a).er = if s = true then b.er else a.er by split <;> rfl]; exact .part (A2w v) (A2w v2), by cases s; exact h.1; exact h.2⟩
 | partx _ => exact fun h => h.elim
 | cid _ _ => exact fun h => h.elim
 | up _ _ _ => exact fun h => h.elim
 | down _ _ _ => exact fun h => h.elim
 | hit _ _ => exact fun h => h.elim
theorem B12 : ∀ {e : GE}, e.lt → e.er.tx = e.tx := by
 intro e
 cases e with
 | cast A B l e => intro h; exact h.elim
 | _ => intro _; rfl
theorem B70 : ∀ (e : GE) (d : Int), e.lt → L6 40 13 e.er.tm d = L6 40 13 e.tm d := by
 intro e
 induction e with
 | var x => intro d _; rfl
 | num n => intro d _; rfl
 | tru b => intro d _; rfl
 | lam x A e i =>
  intro d h
  rw [GE.er, GE.tm, GE.tm, L6, L6, I2, I2, i _ h.2]
  have : Z2 5 x 0 GT.any.ty B4 0 1 = Z2 5 x 0 A.ty B4 0 1 := by
   unfold Z2
   rw [show H9 GT.any.ty = H9 A.ty by rw [h.1]; rfl]
   rfl
  exact congrArg (fun z => decide (d ≤ 40) && decide ((5 : Int) ≠ 13) && z && (L6 40 13 e.tm (d + 1) && true)) this
 | app f a i j => intro d h; rw [GE.er, GE.tm, GE.tm, L6, L6, I2, I2, I2, I2, i _ h.1, j _ h.2]; rfl
 | ar s a b i j => intro d h; rw [GE.er, GE.tm, GE.tm, L6, L6, I2, I2, I2, I2, i _ h.1, j _ h.2]; rfl
 | ite c a b i j k => intro d h; rw [GE.er, GE.tm, GE.tm, L6, L6, I2, I2, I2, I2, I2, I2, i _ h.1, j _ h.2.1, k _ h.2.2]; rfl
 | pair a b i j => intro d h; rw [GE.er, GE.tm, GE.tm, L6, L6, I2, I2, I2, I2, i _ h.1, j _ h.2]; rfl
 | part s e i => intro d h; rw [GE.er, GE.tm, GE.tm, L6, L6, I2, I2, i _ h]; rfl
 | cast A B l e i => intro d h; exact h.elim
theorem B71 : ∀ (e : GE), e.lt → E4 e.er.tm = E4 e.tm := by
 intro e
 induction e with
 | var x => intro _; rfl
 | num n => intro _; rfl
 | tru b => intro _; rfl
 | lam x A e i => intro h; rw [GE.er, GE.tm, GE.tm, A0p, A0p]; simp only [H0, i h.2]
 | app f a i j => intro h; rw [GE.er, GE.tm, GE.tm, A0p, A0p]; simp only [H0, i h.1, j h.2]
 | ar s a b i j => intro h; rw [GE.er, GE.tm, GE.tm, A0p, A0p]; simp only [H0, i h.1, j h.2]
 | ite c a b i j k => intro h; rw [GE.er, GE.tm, GE.tm, A0p, A0p]; simp only [H0, i h.1, j h.2.1, k h.2.2]
 | pair a b i j => intro h; rw [GE.er, GE.tm, GE.tm, A0p, A0p]; simp only [H0, i h.1, j h.2]
 | part s e i => intro h; rw [GE.er, GE.tm, GE.tm, A0p, A0p]; simp only [H0, i h]
 | cast A B l e i => intro h; exact h.elim
theorem A4p {e : GE} (h : e.lt) : O9 e.er.tm = O9 e.tm := by
 have := A33 e.er.tm
 have h2 := A33 e.tm
 rw [B70 e 1 h, B71 e h] at this
 cases h3 : O9 e.tm with
 | true => exact this.2 (h2.1 h3)
 | false =>
  cases h4 : O9 e.er.tm with
  | false => rfl
  | true => rw [h2.2 (this.1 h4)] at h3; cases h3
theorem B13 : ∀ (e : GE), e.lt → GQ (fun _ _ _ => False) e := by
 intro e
 induction e with
 | var x => intro _; trivial
 | num n => intro _; trivial
 | tru b => intro _; trivial
 | lam x A e i => intro h; exact i h.2
 | app f a i j => intro h; exact ⟨i h.1, j h.2⟩
 | ar s a b i j => intro h; exact ⟨i h.1, j h.2⟩
 | ite c a b i j k => intro h; exact ⟨i h.1, j h.2.1, k h.2.2⟩
 | pair a b i j => intro h; exact ⟨i h.1, j h.2⟩
 | part s e i => intro h; exact i h
 | cast A B l e i => intro h; exact h.elim
theorem B72 : ∀ (n : Nat) {e e' : GE} {A A' : GT}, GP S7 e e' A A' → e.lt → O9 e.tm = true →
  (R3 n e.er.tm).2.1 = (T4 n e.tm).2.1 ∧ (T4 n e.tm).2.1 ≠ 2 ∧ ((T4 n e.tm).2.1 = 0 → A0e (R3 n e.er.tm).1 = A0e (T4 n e.tm).1) ∧ (R3 n e.er.tm).2.2.1 = 0 := by
 intro n
 induction n with
 | zero =>
  intro e e' A A' hp hl hc
  rcases B0t hp rfl with hv | ⟨r, s⟩ | b
  ·have h1 : L7 e.tm = (e.tm, 0, 0) := A6k hc ((U6 _).2 hv)
   have h2 : L4 e.er.tm = (e.er.tm, 0, 0) := A8g (by unfold V6; rw [A4p hl, hc, (A4n _).2 (A3j e)]; rfl) ((U6 _).2 (A2w hv))
   rw [T4, R3, h1, h2]
   exact ⟨rfl, by show (0 : Int) ≠ 2; decide, fun _ => by show A0e e.er.tm = A0e e.tm; rw [A6o (A2w hv), A6o hv, B12 hl], rfl⟩
  ·obtain ⟨s2, hlr⟩ := B11 s hl
   obtain ⟨hb, hnb⟩ := B1T s2 (A3j e)
   have hs := B0q s
   have hbv : V6 e.er.tm = true := by unfold V6; rw [A4p hl, hc, (A4n _).2 (A3j e)]; rfl
   have hbr : V6 r.er.tm = O9 r.tm := by unfold V6; rw [A4p hlr, (A4n _).2 (A3j r), Bool.and_true]
   cases hcr : O9 r.tm with
   | false =>
    rw [T4, R3, A6l hc (nv s) (by rw [hs]) (by rw [hs]; exact hcr), A8h hbv (nv s2) (by rw [hb]) (by rw [hb]; show V6 r.er.tm = false; rw [hbr, hcr])]
    exact ⟨rfl, by show (4 : Int) ≠ 2; decide, fun h => absurd h (by show ¬ (4 : Int) = 0; decide), rfl⟩
   | true =>
    rw [T4, R3, A6m hc (nv s) (by rw [hs]) (by rw [hs]; exact hcr), A8i hbv (nv s2) (by rw [hb]) (by rw [hb]; show V6 r.er.tm = true; rw [hbr, hcr])]
    exact ⟨rfl, by show (5 : Int) ≠ 2; decide, fun h => absurd h (by show ¬ (5 : Int) = 0; decide), rfl⟩
  ·obtain ⟨B, _, hq⟩ := B1X (Q := fun _ _ _ => False) e (A3E hc).1 (B13 e hl) b.2
   exact hq.elim
 | succ n ih =>
  intro e e' A A' hp hl hc
  rcases B0t hp rfl with hv | ⟨r, s⟩ | b
  ·have h1 : L7 e.tm = (e.tm, 0, 0) := A6k hc ((U6 _).2 hv)
   have h2 : L4 e.er.tm = (e.er.tm, 0, 0) := A8g (by unfold V6; rw [A4p hl, hc, (A4n _).2 (A3j e)]; rfl) ((U6 _).2 (A2w hv))
   rw [T4, R3, h1, h2]
   exact ⟨rfl, by show (0 : Int) ≠ 2; decide, fun _ => by show A0e e.er.tm = A0e e.tm; rw [A6o (A2w hv), A6o hv, B12 hl], rfl⟩
  ·obtain ⟨s2, hlr⟩ := B11 s hl
   obtain ⟨hb, hnb⟩ := B1T s2 (A3j e)
   have hs := B0q s
   have hbv : V6 e.er.tm = true := by unfold V6; rw [A4p hl, hc, (A4n _).2 (A3j e)]; rfl
   have hbr : V6 r.er.tm = O9 r.tm := by unfold V6; rw [A4p hlr, (A4n _).2 (A3j r), Bool.and_true]
   obtain ⟨r', _, hp'⟩ := sim hp rfl s
   cases hcr : O9 r.tm with
   | false =>
    rw [T4, R3, A6l hc (nv s) (by rw [hs]) (by rw [hs]; exact hcr), A8h hbv (nv s2) (by rw [hb]) (by rw [hb]; show V6 r.er.tm = false; rw [hbr, hcr])]
    exact ⟨rfl, by show (4 : Int) ≠ 2; decide, fun h => absurd h (by show ¬ (4 : Int) = 0; decide), rfl⟩
   | true =>
    have e1 := A6m hc (nv s) (by rw [hs]) (by rw [hs]; exact hcr)
    have e2 := A8i hbv (nv s2) (by rw [hb]) (by rw [hb]; show V6 r.er.tm = true; rw [hbr, hcr])
    rw [hs] at e1
    rw [hb] at e2
    rw [B5v (by rw [e1]), B7R (by rw [e2]), e1, e2]
    exact ih hp' hlr hcr
  ·obtain ⟨B, _, hq⟩ := B1X (Q := fun _ _ _ => False) e (A3E hc).1 (B13 e hl) b.2
   exact hq.elim
mutual
theorem A8n : ∀ (a b : Ty), N6 a b = true → Q5 a = 0 → Q5 b = 0 → a = b
 | .mk k ks, .mk k' ks', h, h1, h2 => by
  rw [V9] at h
  simp only [Bool.or_eq_true, Bool.and_eq_true, decide_eq_true_eq] at h
  rw [Q5] at h1 h2
  have hk : k ≠ 1 := by intro hk; rw [if_pos hk] at h1; cases h1
  have hk' : k' ≠ 1 := by intro hk; rw [if_pos hk] at h2; cases h2
  rw [if_neg hk] at h1
  rw [if_neg hk'] at h2
  rcases h with (h | h) | ⟨rfl, h⟩
  ·exact absurd h hk
  ·exact absurd h hk'
  ·rw [B14 ks ks' h h1 h2]
theorem B14 : ∀ (xs ys : List Ty), P7 xs ys = true → A0P xs = 0 → A0P ys = 0 → xs = ys
 | [], [], _, _, _ => rfl
 | [], _ :: _, h, _, _ => by simp [P7] at h
 | _ :: _, [], h, _, _ => by simp [P7] at h
 | a :: xs, b :: ys, h, h1, h2 => by
  rw [P7, Bool.and_eq_true] at h
  rw [A0P] at h1 h2
  have p1 := (A6t a).1
  have p2 := (A5j xs).1
  have p3 := (A6t b).1
  have p4 := (A5j ys).1
  rw [A8n a b h.1 zR0 zR0, B14 xs ys h.2 zR0 zR0]
end
theorem A8o {h : List Ty} (hh : ∀ a ∈ h, Q5 a = 0) (i : Nat) : Q5 (h.getD i B4) = 0 := by
 rw [List.getD_eq_getElem?_getD]
 cases hx : h[i]? with
 | none => rfl
 | some t => exact hh t (List.mem_of_getElem? hx)
theorem B15 : ∀ {ks : List Ty}, A0P ks = 0 → ∀ u ∈ ks, Q5 u = 0
 | [], _, u, hu => by simp at hu
 | a :: ks, h, u, hu => by
  rw [A0P] at h
  have p1 := (A6t a).1
  have p2 := (A5j ks).1
  rcases List.mem_cons.1 hu with h1 | h1
  ·rw [h1]; omega
  ·exact B15 zR0 u h1
theorem B16 {k : Int} {ks : List Ty} (h : Q5 (.mk k ks) = 0) : ∀ u ∈ ks, Q5 u = 0 := by
 rw [Q5] at h
 split at h
 ·cases h
 ·exact B15 h
theorem A6y {k : Int} {a b : Ty} (hk : k ≠ 1) (ha : Q5 a = 0) (hb : Q5 b = 0) : Q5 (.mk k [a, b]) = 0 := by
 rw [Q5, if_neg hk, A0P, A0P, A0P]; omega
theorem B17 {k : Int} {t a b : Ty} (ht : Q5 t = 0) (h : U5 k t = some (a, b)) : Q5 a = 0 ∧ Q5 b = 0 := by
 obtain ⟨tk, ks⟩ := t
 rw [show U5 k (.mk tk ks) = (if tk = k then some (ks.getD 0 B4, ks.getD 1 B4) else if tk = 1 then some (S0, S0) else none) from rfl] at h
 split at h
 ·cases h; exact ⟨A8o (B16 ht) 0, A8o (B16 ht) 1⟩
 ·split at h
  ·rename_i h1; rw [B7D h1] at ht; cases ht
  ·cases h
theorem B73 {cx : Cx} {k : Int} {nm : ByteArray} {ty : Ty} {h w : List Ty} {t : Ty} (hcx : ∀ x u, Z5 cx x = some u → Q5 u = 0) (hh : ∀ a ∈ h, Q5 a = 0) (hty : k = 5 ∨ k = 13 → Q5 ty = 0) (hw : P8 cx k nm ty h = some (w, t)) :
  (∀ a ∈ w, Q5 a = 0) ∧ Q5 t = 0 := by
 have g := A8o hh
 unfold P8 at hw
 split at hw
 ·split at hw
  ·rename_i u hu; cases hw; exact ⟨by simp, hcx _ _ hu⟩
  ·cases hw
 split at hw
 ·cases hw; exact ⟨by simp, rfl⟩
 split at hw
 ·cases hw; exact ⟨by simp, rfl⟩
 split at hw
 ·rename_i hk; cases hw; exact ⟨by simp, A6y zQ0 (hty (.inl hk)) (g 0)⟩
 split at hw
 ·split at hw
  ·rename_i a b hm
   obtain ⟨h1, h2⟩ := B17 (g 0) hm
   split at hw
   ·cases hw
    exact ⟨by intro x hx; simp only [List.mem_cons, List.not_mem_nil, or_false] at hx; rcases hx with rfl | rfl; exact A6y zQ0 h1 h2; exact h1, h2⟩
   ·cases hw
  ·cases hw
 split at hw
 ·split at hw
  ·cases hw
   refine ⟨by intro x hx; simp only [List.mem_cons, List.not_mem_nil, or_false] at hx; rcases hx with rfl | rfl <;> rfl, ?_⟩
   split <;> rfl
  ·cases hw
 split at hw
 ·split at hw
  ·rename_i hc
   have he := A8n _ _ hc.2 (g 1) (g 2)
   rw [he, A7O] at hw
   cases hw
   exact ⟨by intro x hx; simp only [List.mem_cons, List.not_mem_nil, or_false] at hx; rcases hx with rfl | rfl | rfl; rfl; exact g 2; exact g 2, g 2⟩
  ·cases hw
 split at hw
 ·cases hw; exact ⟨by simp, A6y zQ0 (g 0) (g 1)⟩
 split at hw
 ·rename_i hk
  split at hw
  ·cases hw; exact ⟨by intro x hx; simp only [List.mem_cons, List.not_mem_nil, or_false] at hx; rw [hx]; exact hty (.inr hk), hty (.inr hk)⟩
  ·cases hw
 ·split at hw
  ·rename_i a b hm
   obtain ⟨h1, h2⟩ := B17 (g 0) hm
   cases hw
   refine ⟨by intro x hx; simp only [List.mem_cons, List.not_mem_nil, or_false] at hx; rw [hx]; exact A6y zQ0 h1 h2, ?_⟩
   split
   ·exact h2
   ·exact h1
  ·cases hw
theorem B18 : ∀ (us : List Tm) (h w : List Ty) (l : Int), (∀ i, (hi : i < w.length) → (hh : i < h.length) → h[i] = w[i]) → I5 us h w l = (us, l)
 | [], h, w, l, _ => by simp [I5]
 | u :: us, [], w, l, _ => by simp [I5]
 | u :: us, a :: h, [], l, _ => by simp [I5]
 | u :: us, a :: h, b :: w, l, hs => by
  have h0 : a = b := hs 0 zS0 zS0
  rw [I5, if_pos (by rw [h0]; exact A7s b), B18 us h w l (fun i hi hh => hs (i + 1) (by simpa using hi) (by simpa using hh))]
theorem B74 {cx : Cx} {k : Int} {nm : ByteArray} {ty : Ty} (hcx : ∀ x u, Z5 cx x = some u → Q5 u = 0) (hty : k = 5 → Q5 ty = 0) : ∀ x u, Z5 (R5 cx k nm ty) x = some u → Q5 u = 0 := by
 intro x u hu
 unfold R5 at hu
 split at hu
 ·rw [B0D] at hu
  split at hu
  ·cases hu; exact hty zO0
  ·exact hcx x u hu
 ·exact hcx x u hu
abbrev NoC (u : Tm) : Prop := A4i (fun _ => False) u
theorem B75 (ks : List Tm) (ih : ∀ t ∈ ks, ∀ (d : Int) (cx : Cx) (l : Int) (u : Tm) (a : Ty) (l' : Int), L6 12 14 t d = true → cxV cx → (∀ x u, Z5 cx x = some u → Q5 u = 0) → (∀ u ∈ K8 t, Q5 u = 0) → P4 cx t l = some (u, a, l') → NoC u ∧ Q5 a = 0) :
  ∀ (d : Int) (cx : Cx) (l : Int) (us : List Tm) (h : List Ty) (l' : Int), I2 12 14 ks d = true → cxV cx → (∀ x u, Z5 cx x = some u → Q5 u = 0) → (∀ u ∈ J1 ks, Q5 u = 0) → O8 cx ks l = some (us, h, l') → (∀ u ∈ us, NoC u) ∧ (∀ a ∈ h, Q5 a = 0) := by
 induction ks with
 | nil => intro d cx l us h l' _ _ _ _ he; rw [O8] at he; cases he; exact ⟨by simp, by simp⟩
 | cons t ts ihl =>
  intro d cx l us h l' hs hv hcx hts he
  rw [I2, Bool.and_eq_true] at hs
  rw [J1] at hts
  rw [O8] at he
  split at he
  ·cases he
  ·rename_i u a l1 h1
   split at he
   ·cases he
   ·rename_i us' h' l2 h2
    cases he
    obtain ⟨a1, a2⟩ := ih t List.mem_cons_self d cx l u a l1 hs.1 hv hcx (fun u hu => hts u (List.mem_append_left _ hu)) h1
    obtain ⟨b1, b2⟩ := ihl (fun x hx => ih x (List.mem_cons_of_mem _ hx)) d cx l1 us' h' _ hs.2 hv hcx (fun u hu => hts u (List.mem_append_right _ hu)) h2
    exact ⟨fun x hx => by rcases List.mem_cons.1 hx with e | e; rw [e]; exact a1; exact b1 x e, fun x hx => by rcases List.mem_cons.1 hx with e | e; rw [e]; exact a2; exact b2 x e⟩
theorem B76 : ∀ (t : Tm) (d : Int) (cx : Cx) (l : Int) (u : Tm) (a : Ty) (l' : Int), L6 12 14 t d = true → cxV cx → (∀ x u, Z5 cx x = some u → Q5 u = 0) → (∀ u ∈ K8 t, Q5 u = 0) → P4 cx t l = some (u, a, l') → NoC u ∧ Q5 a = 0 := by
 refine Tm.ind fun k nm num ty fr lb ks ih d cx l u a l' hs hv hcx hts he => ?_
 obtain ⟨n1, n2, n3, n4, n5, n6, n7, n8, n9⟩ := A7Q hs
 rw [K8] at hts
 have hty : k = 5 ∨ k = 13 → Q5 ty = 0 := fun hk => hts ty (by rw [if_pos hk]; simp)
 have hcv : cxV (R5 cx k nm ty) := A47 hv fun hk => n5 (.inl hk)
 rw [P4] at he
 split at he
 ·cases he
 ·rename_i us h l1 hL
  obtain ⟨e1, e2, e3, e4⟩ := (B0z ks (fun t _ d cx l => A48 t d cx l) (d + 1) (R5 cx k nm ty) l n9 hcv).1 us h l1 hL
  obtain ⟨g1, g2⟩ := B75 ks ih (d + 1) (R5 cx k nm ty) l us h l1 n9 hcv (B74 hcx fun hk => hty (.inl hk)) (fun u hu => hts u (List.mem_append_right _ hu)) hL
  obtain ⟨w, hw, _, hu⟩ := A13 he
  obtain ⟨w1, w2⟩ := B73 hcx g2 hty hw
  have hwt := B1d e2 (fun hk => n5 (.inr hk)) (by rw [e3]; exact n1) n2 hw
  have hsm : I5 us h w l1 = (us, l1) := B18 us h w l1 fun i hi hh => A8n _ _ (hwt.ok i hi hh).1 (g2 _ (List.getElem_mem hh)) (w1 _ (List.getElem_mem hi))
  refine ⟨?_, w2⟩
  rw [hu, hsm]
  split
  ·show NoC (us.getD 0 I8)
   rw [List.getD_eq_getElem?_getD]
   cases hx : us[0]? with
   | none => exact A2X.2 ⟨fun e => absurd e zQ0, trivial⟩
   | some t => exact g1 t (List.mem_of_getElem? hx)
  ·exact A2X.2 ⟨fun e => absurd e n2, A3e.2 g1⟩
theorem B77 : ∀ (g : GE) (d : Int), L6 40 13 g.tm d = true → NoC g.tm → g.lt := by
 intro g
 induction g with
 | var x => intro _ _ _; trivial
 | num n => intro _ _ _; trivial
 | tru b => intro _ _ _; trivial
 | lam x A e i =>
  intro d h hn
  rw [GE.tm] at h hn
  obtain ⟨_, _, h3, h4⟩ := A0b h
  rw [I2, Bool.and_eq_true] at h4
  exact ⟨(X5.1 h3).2.2.2.2.2.1 (.inl rfl), i _ h4.1 (A3e.1 (A2X.1 hn).2 _ zS0)⟩
 | app f a i j =>
  intro d h hn
  rw [GE.tm] at h hn
  obtain ⟨_, _, _, h4⟩ := A0b h
  rw [I2, I2, Bool.and_eq_true, Bool.and_eq_true] at h4
  have hm := A3e.1 (A2X.1 hn).2
  exact ⟨i _ h4.1 (hm _ zS0), j _ h4.2.1 (hm _ zS0)⟩
 | ar s f a i j =>
  intro d h hn
  rw [GE.tm] at h hn
  obtain ⟨_, _, _, h4⟩ := A0b h
  rw [I2, I2, Bool.and_eq_true, Bool.and_eq_true] at h4
  have hm := A3e.1 (A2X.1 hn).2
  exact ⟨i _ h4.1 (hm _ zS0), j _ h4.2.1 (hm _ zS0)⟩
 | ite c f a i j k =>
  intro d h hn
  rw [GE.tm] at h hn
  obtain ⟨_, _, _, h4⟩ := A0b h
  rw [I2, I2, I2, Bool.and_eq_true, Bool.and_eq_true, Bool.and_eq_true] at h4
  have hm := A3e.1 (A2X.1 hn).2
  exact ⟨i _ h4.1 (hm _ zS0), j _ h4.2.1 (hm _ zS0), k _ h4.2.2.1 (hm _ zS0)⟩
 | pair f a i j =>
  intro d h hn
  rw [GE.tm] at h hn
  obtain ⟨_, _, _, h4⟩ := A0b h
  rw [I2, I2, Bool.and_eq_true, Bool.and_eq_true] at h4
  have hm := A3e.1 (A2X.1 hn).2
  exact ⟨i _ h4.1 (hm _ zS0), j _ h4.2.1 (hm _ zS0)⟩
 | part s e i =>
  intro d h hn
  rw [GE.tm] at h hn
  obtain ⟨_, _, _, h4⟩ := A0b h
  rw [I2, Bool.and_eq_true] at h4
  exact i _ h4.1 (A3e.1 (A2X.1 hn).2 _ zS0)
 | cast A B l e i =>
  intro d h hn
  rw [GE.tm] at hn
  exact ((A2X.1 hn).1 rfl).elim
theorem B78 {e u : Tm} {t : Ty} (h : A5k e = true) (hu : X7 e = some (u, t)) : NoC u := by
 unfold A5k at h
 rw [Bool.and_eq_true, List.all_eq_true] at h
 unfold X7 at hu
 rw [if_pos h.1] at hu
 split at hu
 ·rename_i u' t' l' he
  cases hu
  exact (B76 e 1 [] 0 u t l' ((V2 e).1 h.1).1 A4d (fun x u hx => by simp [Z5, A0n] at hx) (fun u hu => of_decide_eq_true (h.2 u hu)) he).1
 ·cases hu
def A0r (e : Tm) (fuel : Int) : ByteArray × Int × Int := if (M3 e || O9 e) = true then (if (X8 (H2 e) fuel).2.1 = 0 then (A0e (X8 (H2 e) fuel).1, 0, (X8 (H2 e) fuel).2.2) else (⟨⟨[]⟩⟩, (X8 (H2 e) fuel).2.1, (X8 (H2 e) fuel).2.2)) else (⟨⟨[]⟩⟩, 3, 0)
theorem B79 {e : Tm} {fuel : Int} (h : (M3 e || O9 e) = false) : A0r e fuel = (⟨⟨[]⟩⟩, 3, 0) := by unfold A0r; rw [if_neg (by rw [h]; decide)]
theorem B19 {e : Tm} {fuel : Int} (h : (M3 e || O9 e) = true) (h0 : (X8 (H2 e) fuel).2.1 = 0) : A0r e fuel = (A0e (X8 (H2 e) fuel).1, 0, (X8 (H2 e) fuel).2.2) := by unfold A0r; rw [if_pos h, if_pos h0]
theorem A8p {e : Tm} {fuel : Int} (h : (M3 e || O9 e) = true) (h0 : (X8 (H2 e) fuel).2.1 ≠ 0) : A0r e fuel = (⟨⟨[]⟩⟩, (X8 (H2 e) fuel).2.1, (X8 (H2 e) fuel).2.2) := by unfold A0r; rw [if_pos h, if_neg h0]
theorem B8a {e : Tm} (h : A5k e = true) (ht : (U7 e).isSome = true) (fuel : Int) : (A0r e fuel).2.1 ≠ 2 ∧ (A0r e fuel).2.1 = (A0Z e fuel).2.1 ∧ (A0r e fuel).1 = (A0Z e fuel).1 := by
 have hv : M3 e = true := A5i ht
 have hok : (M3 e || O9 e) = true := by rw [hv]; rfl
 obtain ⟨u, t, hu⟩ := B6Z ht
 have hn := B78 h hu
 obtain ⟨g, A, g', A', rfl, rfl, hP⟩ := B7S hu
 have hc := (A70 hu).1
 have hl := B77 g 1 ((A33 _).1 hc).1 hn
 have hb : H2 e = g.er.tm := by rw [← B7Y hu, B7T]
 by_cases hf : 0 ≤ fuel ∧ fuel ≤ 300
 ·have hE : Y3 g.tm fuel = ((T4 fuel.toNat g.tm).1, (T4 fuel.toNat g.tm).2.1, (T4 fuel.toNat g.tm).2.2.1) := by unfold Y3; rw [if_pos hf]
  have hB : X8 (H2 e) fuel = ((R3 fuel.toNat g.er.tm).1, (R3 fuel.toNat g.er.tm).2.1, (R3 fuel.toNat g.er.tm).2.2.1) := by unfold X8; rw [if_pos hf, hb]
  obtain ⟨l1, l2, l3, l4⟩ := B72 fuel.toNat hP hl hc
  by_cases h0 : (T4 fuel.toNat g.tm).2.1 = 0
  ·rw [B1n hu (by rw [hE]; exact h0), B19 hok (by rw [hB]; exact l1.trans h0), hE, hB]
   exact ⟨by show (0 : Int) ≠ 2; decide, rfl, l3 h0⟩
  ·rw [A76 hu (by rw [hE]; exact h0), A8p hok (by rw [hB]; exact fun hc => h0 (l1.symm.trans hc)), hE, hB]
   exact ⟨by show (R3 fuel.toNat g.er.tm).2.1 ≠ 2; rw [l1]; exact l2, l1, rfl⟩
 ·have hE : Y3 g.tm fuel = Z6 := by unfold Y3; rw [if_neg hf]
  have hB : X8 (H2 e) fuel = (I8, 3, 0) := by unfold X8; rw [if_neg hf]
  rw [A76 hu (by rw [hE]; show (3 : Int) ≠ 0; decide), A8p hok (by rw [hB]; show (3 : Int) ≠ 0; decide), hE, hB]
  exact ⟨by show (3 : Int) ≠ 2; decide, rfl, rfl⟩
theorem B8b (G : IM) : R9 G S0 [.int .i64 1, .slice none 0 0] [] := by
 simp only [S0, R9, Q2]
 exact ⟨none, 0, [], [], rfl, ⟨by omega, by omega⟩, D7.nil _ _, ⟨rfl, rfl⟩, rfl, by simp [K5]⟩
theorem B8c (G : IM) : R9 G B4 [.int .i64 0, .slice none 0 0] [] := by
 simp only [B4, R9, Q2]
 exact ⟨none, 0, [], [], rfl, ⟨by omega, by omega⟩, D7.nil _ _, ⟨rfl, rfl⟩, rfl, by simp [K5]⟩
theorem B8d (t : Tm) (G0 G1 : IM) (cells : List Value) (F : List Nat) (hQ : A3B t) (hle : B9 G0 G1) (hs : Q3 (E0 G1 G0) t cells F) (hn : F.Nodup) :
  Fn Tryz.prog 45 [.agg ⟨cells⟩] [] G1 (N8 fun G2 v => G2 = G1 ∧ ∃ cells' F', v = .agg ⟨cells'⟩ ∧ Q3 (E0 G1 G0) (A1b t) cells' F' ∧ F'.Nodup) := by
 obtain ⟨k, nm, num, ty, fr, lb, ks⟩ := t
 have hs0 := hs
 rw [A3B] at hQ
 have hbA : k = 13 ∨ k = 14 → A1b (.mk k nm num ty fr lb ks) = ks.headD I8 := fun h => by rw [A1b, if_pos h]
 have hbB : k = 5 → A1b (.mk k nm num ty fr lb ks) = .mk k nm num S0 fr lb ks := fun h => by rw [A1b, if_neg zR0, if_pos h]
 have hbC : ¬(k = 13 ∨ k = 14) → k ≠ 5 → A1b (.mk k nm num ty fr lb ks) = .mk k nm num ty fr lb ks := fun h h' => by rw [A1b, if_neg h, if_neg h']
 simp only [Q3] at hs
 obtain ⟨tc, fc, p, c, es, F1, F2, Fs, rfl, hk, hnum, hlb, hty, hfr, hsl, hkl, rfl, hin⟩ := hs
 obtain ⟨pt, ct, rfl, htk, hts⟩ := hty.open
 obtain ⟨pf, cf, rfl, hfk, hfs⟩ := hfr.open
 have hslG := hsl.mono (E0.le G1 G0)
 have hnd := hn
 rw [List.nodup_append, List.nodup_append] at hnd
 obtain ⟨n1, ⟨n2, n3, n4⟩, n5⟩ := hnd
 have hB : Q3 (E0 G1 G0) (.mk k nm num S0 fr lb ks) [.int .i64 k, .string nm, .int .i64 num, .int .i64 1, .slice none 0 0, .int .i64 fr.k, .slice pf fr.ks.length cf, .int .i64 lb, .slice p ks.length c] ([] ++ (F2 ++ (K5 p ++ Fs))) := by
  simp only [Q3]
  exact ⟨[.int .i64 1, .slice none 0 0], [.int .i64 fr.k, .slice pf fr.ks.length cf], p, c, es, [], F2, Fs, rfl, hk, hnum, hlb, B8b _, hfr, hsl, hkl, rfl, hin⟩
 have hBn : ([] ++ (F2 ++ (K5 p ++ Fs))).Nodup := by
  rw [List.nil_append, List.nodup_append]; exact ⟨n2, n3, n4⟩
 refine C0 Tryz.func45 rfl Tryz.ntmps45 Tryz.results45 rfl ?_
 intro w0
 refine A4 ?_
 refine sE (B6 rfl rfl) rfl (fun b3 => ?_)
 refine sE (A6 rfl) rfl (fun b4 => ?_)
 refine E7 ?_
 refine C2 (tS (tS (tR (sB (qE rfl rfl) rfl rfl (fun h18 => ?_) (fun h18 => ?_)))))
 refine M7 ?_
 exact y118
 refine A8 ?_
 refine sB (qE rfl rfl) rfl rfl (fun h45 => ?_) (fun h45 => ?_)
 refine E1 ?_
 exact y118
 refine A9 ?_
 refine sB (qE rfl rfl) rfl rfl (fun h70 => ?_) (fun h70 => ?_)
 refine A8 ?_
 refine H4 rfl (A1B _ _) rfl rfl ?_
 refine O3 ?_
 refine P5 (rC rfl (A3 rfl rfl)) ?_
 (rw [hbB zR0]; exact ⟨rfl, rfl, _, _, rfl, hB, hBn⟩)
 refine M8 ?_
 refine P5 (rC rfl (A3 rfl rfl)) ?_
 (rw [hbC zR0 zR0]; exact ⟨rfl, rfl, _, _, rfl, hs0, hn⟩)
theorem B8e : A7k A1b A3B 45 [] [] := fun t G0 G1 cells F hQ hle hs hn =>
 (B8d t G0 G1 cells F hQ hle hs hn).mono fun G' v outs _ ⟨h1, h2, c', F', h3, h4, h5⟩ => ⟨h1, c', F', h3, by rw [h2]; exact h4, h5⟩
theorem A6z (t : Tm) (G : IM) (cells : List Value) (D N : Int) (hv : L6 D N t 1 = true) (hts : t.small) (hr : B7 G t cells) : Fn Tryz.prog 17 [.agg ⟨cells⟩] [] G (A4K (H2 t) G) := by
 have hl := hr.len
 have hone := hr.one
 obtain ⟨e1, e2⟩ := A9O D N t 1 hv
 have hM := A9H A1b A3B 45 [] [] B8e t G cells e2 hts hr
 rw [e1] at hM
 refine C0 Tryz.func17 rfl Tryz.ntmps17 Tryz.results17 rfl ?_
 intro w0
 refine A4 ?_
 refine sE (B6 rfl rfl) rfl (fun b3 => ?_)
 refine sE (A6 rfl) rfl (fun b4 => ?_)
 refine B5 ?_
 refine sL (A5 rfl rfl (B3 zI0) zO0) rfl rfl ?_
 (refine F4 rfl hM rfl rfl (fun v G3 hle3 hh => ?_); obtain ⟨cells', F', rfl, hs', hnd'⟩ := hh; have hl' := hs'.R.len; have ho' := hs'.R.one)
 refine sS rfl rfl rfl hl' ho' rfl ?_ (hu := by exact C6 hl'.symm)
 refine C1 ?_
 refine P5 (rC rfl (A5 rfl rfl (B3 zI0) hl')) ?_
 exact ⟨rfl, cells', F', rfl, hs', hnd'⟩
def A5n (t : Tm) : Tm × Bool := if M3 t = true ∨ O9 t = true then (H2 t, true) else (I8, false)
theorem B8f (t : Tm) (G : IM) (cells : List Value) (hts : t.small) (hr : B7 G t cells) : Fn Tryz.prog 35 [.agg ⟨cells⟩] [] G (TbP (A5n t) G) := by
 have hl := hr.len
 have hone := hr.one
 have hv := A5Q t G cells hr
 have hw := A5R t G cells hr
 have hA1 := fun h : M3 t = true => A6z t G cells 12 14 ((V2 t).1 h).1 hts hr
 have hA2 := fun h : O9 t = true => A6z t G cells 40 13 ((A33 t).1 h).1 hts hr
 refine C0 Tryz.func35 rfl Tryz.ntmps35 Tryz.results35 rfl ?_
 intro w0
 refine A4 ?_
 refine sE (B6 rfl rfl) rfl (fun b3 => ?_)
 refine sE (A6 rfl) rfl (fun b4 => ?_)
 refine A9 ?_
 refine sL (A5 rfl rfl (B3 zI0) zO0) rfl rfl ?_
 refine J5 rfl (hw) rfl rfl (fun h12 => ?_) (fun h12 => ?_)
 refine N0 ?_
 exact y121
 refine A4 ?_
 refine sL (A5 rfl rfl (B3 zI0) zO0) rfl rfl ?_
 refine J5 rfl (hv) rfl rfl (fun h38 => ?_) (fun h38 => ?_)
 refine E7 ?_
 exact y121
 refine M8 ?_
 refine H3 (rC rfl (A3 rfl rfl)) (rT rfl) ?_
 exact TbP.mk (if_neg (by simp [*])) (Q3.zero _) zS0
def erG : Tm → Tm
 | .mk k nm num ty fr lb ks => if A3F k = true then .mk k nm num S0 fr lb ks else .mk k nm num ty fr lb ks
def B9P (t : Tm) : Tm := A2i erG t
end Gw
end Go.Proofs.YtbdacdnffkhgeaaGreatDoor
