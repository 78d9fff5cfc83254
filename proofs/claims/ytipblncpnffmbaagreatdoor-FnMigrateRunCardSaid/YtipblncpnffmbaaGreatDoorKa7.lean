/-
  Drawn terms that are small, terms with blurred types, fuel.
-/
import Derived.Test.YtipblncpnffmbaaGreatDoorKa6
import Derived.Test.YtipblncpnffmbaaGreatDoorKa2
import Derived.Test.YtipblncpnffmbaaGreatDoorKa3
import Derived.Test.YtipblncpnffmbaaGreatDoorKa5
import Derived.Test.YtipblncpnffmbaaGreatDoorKa1
import Derived.Lib.ItoaNum
set_option linter.unusedVariables false
set_option linter.unusedSimpArgs false
set_option maxHeartbeats 0
set_option maxRecDepth 100000
set_option synthInstance.maxSize 4000
set_option synthInstance.maxHeartbeats 0
namespace Go.Proofs.YtipblncpnffmbaaGreatDoor
open Go Go.RowKit
namespace Gw
theorem A5X {e : Tm} (h : (P3 e).isSome = true) : M3 e = true := by
 unfold P3 V4 at h
 split at h
 ·rename_i u t hx
  split at hx
  ·assumption
  ·cases hx
 ·cases h
mutual
theorem A9r : ∀ (t : Tm) (d : Int), N7 12 14 t d = true → t.small
 | .mk k nm num ty fr lb ks, d, h => by
  obtain ⟨_, h2, h3, h4⟩ := A0X h
  obtain ⟨n1, n2, n3, n4, n5, n6, n7, n8, n9⟩ := W8.1 h3
  rw [Tm.small]
  refine ⟨by have := A7G h3; omega, (A36 h3).1.small, by rw [A18 (n9 h2).1]; exact A7K, ?_, A9s ks _ h4⟩
  have := A29 k; omega
theorem A9s : ∀ (ts : List Tm) (d : Int), M4 12 14 ts d = true → Tm.smallL ts
 | [], _, _ => by rw [Tm.smallL]; trivial
 | t :: ts, d, h => by
  rw [M4, Bool.and_eq_true] at h
  rw [Tm.smallL]
  exact ⟨A9r t d h.1, A9s ts d h.2⟩
end
theorem A2J {e : Tm} (h : M3 e = true) : e.fit 30 := by
 obtain ⟨h1, h2⟩ := (Y9 e).1 h
 exact ⟨A9r e 1 h1, h2⟩
theorem Tm.fit.le {e : Tm} {n m : Nat} (h : e.fit n) (hm : n ≤ m) : e.fit m := ⟨h.1, Nat.le_trans h.2 hm⟩
mutual
theorem A5Y : ∀ (t : Tm) (d : Int), N7 12 14 t d = true → ∀ u ∈ C6 t, C9 u = true
 | .mk k nm num ty fr lb ks, d, h => by
  obtain ⟨_, h2, h3, h4⟩ := A0X h
  obtain ⟨n1, n2, n3, n4, n5, n6, n7, n8, n9⟩ := W8.1 h3
  intro u hu
  rw [C6, List.mem_append] at hu
  rcases hu with hu | hu
  ·split at hu
   ·rename_i hk
    obtain rfl := List.mem_singleton.1 hu
    exact n6 (by omega)
   ·simp at hu
  ·exact A9t ks _ h4 u hu
theorem A9t : ∀ (ts : List Tm) (d : Int), M4 12 14 ts d = true → ∀ u ∈ D3 ts, C9 u = true
 | [], _, _ => by simp [D3]
 | t :: ts, d, h => by
  rw [M4, Bool.and_eq_true] at h
  intro u hu
  rw [D3, List.mem_append] at hu
  rcases hu with hu | hu
  ·exact A5Y t d h.1 u hu
  ·exact A9t ts d h.2 u hu
end
theorem B4O (e : Tm) : (Z7 e).length ≤ 30 ∧ ∀ u ∈ Z7 e, C9 u = true := by
 unfold Z7
 split
 ·rename_i h
  obtain ⟨h1, h2⟩ := (Y9 e).1 h
  exact ⟨by have := A2w e; omega, A5Y e 1 h1⟩
 ·simp
mutual
theorem A5Z : ∀ (t : Tm) (l : List Ty), t.small → (∀ u ∈ l, u.small) → (M6 t l).small ∧ E0 (M6 t l) = E0 t
 | .mk k nm num ty fr lb ks, l, h, hl => by
  obtain ⟨h1, h2, h3, h4, h5⟩ := A3b.1 h
  rw [M6]
  have hd : ∀ u ∈ (if k = 5 ∨ k = 13 then l.drop 1 else l), u.small := by
   intro u hu
   split at hu
   ·exact hl u (List.mem_of_mem_drop hu)
   ·exact hl u hu
  obtain ⟨g1, g2⟩ := A9u ks _ h5 hd
  refine ⟨A3b.2 ⟨h1, ?_, h3, by rw [A1G]; exact h4, g1⟩, by rw [A1s, A1s, g2]⟩
  split
  ·rw [List.getD_eq_getElem?_getD]
   cases hx : l[0]? with
   | none => exact A7K
   | some t => exact hl t (List.mem_of_getElem? hx)
  ·exact h2
theorem A9u : ∀ (ts : List Tm) (l : List Ty), Tm.smallL ts → (∀ u ∈ l, u.small) → Tm.smallL (L9 ts l) ∧ H1 (L9 ts l) = H1 ts
 | [], l, _, _ => by simp [L9, Tm.smallL, H1]
 | t :: ts, l, h, hl => by
  simp only [Tm.smallL] at h
  obtain ⟨a1, a2⟩ := A5Z t l h.1 hl
  obtain ⟨b1, b2⟩ := A9u ts (l.drop (C6 t).length) h.2 (fun u hu => hl u (List.mem_of_mem_drop hu))
  simp only [L9, Tm.smallL, H1, a2, b2]
  exact ⟨⟨a1, b1⟩, trivial⟩
end
theorem B4P {t : Tm} {l : List Ty} {N : Nat} (h : t.fit N) (hl : ∀ u ∈ l, u.small) : ((A1j t l).getD J4).fit N := by
 unfold A1j
 split
 ·obtain ⟨h1, h2⟩ := A5Z t l h.1 hl
  exact ⟨h1, by rw [Option.getD_some, h2]; exact h.2⟩
 ·refine ⟨B1U, ?_⟩
  have h2 := h.2
  have : 1 ≤ E0 t := by cases t; rw [A1s]; omega
  show E0 J4 ≤ N
  rw [B14]; omega
theorem B4Q {es : List (List Value)} {i sz : Nat} (hi : i < es.length) (ha : ∀ e ∈ es, e.length = sz) : ∀ j v, es[i][j]? = some v → es.flatten[0 + i * sz + j]? = some v := by
 intro j v hj
 have h1 : es.flatten = (es.take i).flatten ++ (es[i] ++ (es.drop (i + 1)).flatten) := by
  conv => lhs; rw [← List.take_append_drop i es, List.drop_eq_getElem_cons hi]
  rw [List.flatten_append, List.flatten_cons]
 have hA : ((es.take i).flatten).length = 0 + i * sz := by rw [X6 (fun e he => ha e (List.mem_of_mem_take he)), List.length_take, Nat.min_eq_left (by omega)]; omega
 have hjl : j < es[i].length := by
  apply Classical.byContradiction
  intro hn
  rw [List.getElem?_eq_none (by omega)] at hj
  cases hj
 rw [h1, List.getElem?_append_right (by omega), hA, show 0 + i * sz + j - (0 + i * sz) = j by omega, List.getElem?_append_left hjl, hj]
theorem B4R (br : Nat) (pb : Option Addr) (nb cb : Nat) (bs : List UInt8) (hnb : nb ≤ 2000) (p : Nat) (G : IM) (hb : Sl G pb nb cb 1 (O0 bs)) (hp : p + 1000 < 1099511627776) (e : Tm) (ce : List Value) (N : Nat) (hfit : e.fit N) (hN : N ≤ 4000000) (hr : A9 G e ce) :
  Fn Tryz.prog 23 [.pointer (some ⟨br, 0, none⟩), .agg ⟨ce⟩] [rd br pb nb cb p] G
   (A05 br pb nb cb p 1000 (fun G' v => ∃ u cu, v = .agg ⟨cu⟩ ∧ A9 G' u cu ∧ u.fit N)) := by
 have hl := hr.len
 have hone := hr.one
 have hcnt := hfit.2
 obtain ⟨hTl, hTv⟩ := B4O e
 have hT := A4t e G ce hfit.1 (by omega) hr
 generalize Z7 e = L0 at hTl hTv hT
 refine B7 Tryz.func23 rfl Tryz.ntmps23 Tryz.results23 rfl ?_
 intro w0
 refine tS (tR ?_)
 refine sE (C2 rfl rfl) rfl (fun b3 => ?_)
 refine sE (A6 rfl) rfl (fun b4 => ?_)
 refine sD (nS (tS (tR ?_)))
 refine sL (A5 rfl rfl (B5 (by repeat first | exact mH | apply mT)) hl) rfl rfl ?_
 (refine T9 rfl hT rfl rfl (fun v G1 outs hle1 hh => ?_); obtain ⟨q, c, es0, rfl, rfl, hr1⟩ := hh; replace hb := hb.mono hle1; replace hr := hr.mono hle1)
 refine D2 ?_
 refine B6 ?_
 (refine B0u (fun a w hs => hs.slc_ptT (p := q) (c := c) (el := 25) (sz := 2) (n := L0.length) (cs := es0.flatten) (by repeat first | exact mH | apply mT)) (fun hq => ?_); refine J3 (fun (x : Nat × Nat × List (List Value) × IM) => ⟨[(6, .int .i64 x.1), (5, .slice q L0.length c), (0, .pointer (some ⟨br, 0, none⟩)), (3, .pointer (some ⟨b3, 0, none⟩)), (4, .pointer (some ⟨b4, 0, none⟩))], [.slc q c 25 2 L0.length x.2.2.1.flatten, rd br pb nb cb x.2.1, .blk b4 [.int .i64 0, .string ⟨⟨[]⟩⟩, .int .i64 0, .int .i64 0, .slice none 0 0, .int .i64 0, .slice none 0 0, .int .i64 0, .slice none 0 0], .blk b3 ce], x.2.2.2⟩) (fun x => x.1 ≤ L0.length ∧ B1 G1 x.2.2.2 ∧ p ≤ x.2.1 ∧ x.2.1 ≤ p + x.1 * 31 ∧ ∃ L, L.length = L0.length ∧ B0 x.2.2.2 L x.2.2.1 ∧ ∀ u ∈ L, D8 u ∧ H4 u ≤ 30) (fun x => L0.length - x.1) (0, p, es0, G1) ?_ ?_ ?_)
 (simp only [E2]; exact C5)
 (exact ⟨Nat.zero_le _, B1.refl _, Nat.le_refl _, by dsimp only; omega, L0, rfl, hr1, fun u hu => A0d (hTv u hu)⟩)
 (rintro ⟨(i : Nat), (p1 : Nat), es, Gi⟩ ⟨hi, hle, hp1, hp2, L, hL, hst, hal⟩; simp only [] at hi hle hp1 hp2 hst ⊢; replace hb := hb.mono hle; have hesl : es.length = L0.length := (by have h0 := hst.len; omega))
 refine I0 ?_
 refine sB (J6 rfl rfl) rfl rfl (fun h31 => ?_) (fun h31 => ?_)
 refine sD (nS (qT rfl (tK (nS (tS ?_)))))
 refine B6 ?_
 refine I0 ?_
 (obtain ⟨g, rfl, hgc⟩ := hq.resolve_left (by omega); obtain ⟨hai, hsi⟩ := hal L[i] (List.getElem_mem (by omega)); have hri : B3 Gi L[i] (es[i]'(by omega)) := (by have h0 := (hst.inv (i := i) (List.getElem?_eq_getElem (by omega)) A7).2; rw [List.getD_eq_getElem?_getD, List.getElem?_eq_getElem (by omega), Option.getD_some] at h0; exact h0); have hei := hri.len; refine sP (B4 (j := i) rfl rfl rfl (by omega)) rfl rfl ?_)
 refine sL (A5 rfl rfl (A6l (by repeat first | exact mH | apply mT) (B4Q (by omega) (fun e he => (hst.each e he).1))) hei) rfl rfl ?_
 (have hcall := A34 br pb nb cb bs hnb _ p1 _ _ hai hri hb (by omega); refine L3 rfl hcall (Pk.perm (by repeat (first | exact Pk.here | apply Pk.there))) rfl rfl (fun v Gn outs hleu hh => ?_); obtain ⟨p2, hp21, hp22, rfl, u, cu, rfl, hru, hua, hus, huh⟩ := hh; have hul := hru.len; have huo := hru.one; replace hb := hb.mono hleu; replace hle := hle.trans hleu; replace hst := hst.mono hleu)
 refine sP (B4 (j := i) rfl rfl rfl (by omega)) rfl rfl ?_
 refine B11 rfl rfl rfl hul huo rfl (by repeat first | exact Sw.here | apply Sw.there) (B12 (by omega) (fun e he => (hst.each e he).1) hul) ?_
 refine sD (M9 (nS (tR (sQ (qM rfl) rfl ?_))))
 refine sP (I2 rfl rfl (by omega) (by omega)) rfl rfl ?_
 refine sQ (qA rfl) rfl (sD ?_)
 (refine I9 (i + 1, p2, es.set i cu, Gn) ?_ ?_ ?_)
 (simp only [E2]; exact C5)
 (dsimp only; exact ⟨by omega, hle, by omega, by omega, L.set i u, by rw [List.length_set]; exact hL, hst.set i hru, fun w hw => by rcases List.mem_or_eq_of_mem_set hw with h | h; exact hal w h; rw [h]; exact ⟨hua, by omega⟩⟩)
 (show L0.length - (i + 1) < L0.length - i; omega)
 refine L6 ?_
 refine sL (A5 rfl rfl (B5 (by repeat first | exact mH | apply mT)) hl) rfl rfl ?_
 refine sQ (qM rfl) rfl ?_
 (refine T8 (cs := es.flatten) (by repeat (first | exact Pk.here | apply Pk.there)) (fun G2 hle2 hsl2 hno2 => ?_); have hw := A9q e L G2 ce q c es hfit.1 (by omega) (by omega) (fun u hu => (hal u hu).1.small) ((hr.mono hle).mono hle2) (B9.of (by rw [hL]; exact hsl2) (by omega) hst.all (fun e he => (hst.each e he).2)) (hst.mono hle2); rw [hL] at hw; refine F4 rfl hw rfl rfl (fun v G3 hle3 hh => ?_); obtain ⟨cu, rfl, hru⟩ := hh; have hfu := B4P hfit (fun u hu => (hal u hu).1.small); generalize (A1j e L).isSome = bx; generalize (A1j e L).getD J4 = ux at *; have hul := hru.len; have huo := hru.one)
 refine J0 ?_
 refine sE (A6 rfl) rfl (fun b78 => ?_)
 refine sS rfl rfl rfl hul huo rfl ?_ (hu := by exact D5 hul.symm)
 refine sQ (qA rfl) rfl (sD (nS (tS (tR ?_))))
 refine sL (A5 rfl rfl (B5 (by repeat first | exact mH | apply mT)) hul) rfl rfl ?_
 refine sS rfl rfl rfl hul huo rfl ?_ (hu := by exact D5 hul.symm)
 refine sD (nS (tT ?_))
 refine H0 (outs := [rd br pb nb cb p1]) (rC rfl (A5 rfl rfl (B5 (by repeat first | exact mH | apply mT)) hul)) (by repeat (first | exact A0.nil | refine A0.cons Pk.here ?_ | refine A0.cons (Pk.there Pk.here) ?_ | refine A0.cons (Pk.there (Pk.there Pk.here)) ?_ | apply A0.drop)) ?_
 (exact ⟨p1, by omega, by omega, rfl, ux, cu, rfl, hru, hfu⟩)
mutual
theorem A50 : ∀ a : Ty, A0n a a = true
 | .mk k ks => by rw [A0s, A4u ks]; simp
theorem A4u : ∀ xs : List Ty, Q7 xs xs = true
 | [] => rfl
 | a :: xs => by rw [Q7, A50 a, A4u xs]; rfl
end
def PLe (l l' : List Ty) : Prop := ∀ i, A0n (l.getD i A7) (l'.getD i A7) = true
theorem PLe.drop {l l' : List Ty} (h : PLe l l') (n : Nat) : PLe (l.drop n) (l'.drop n) := by
 intro i
 have := h (n + i)
 simpa [List.getD_eq_getElem?_getD, List.getElem?_drop] using this
mutual
theorem A51 : ∀ (t : Tm) (l l' : List Ty), PLe l l' → A1d (M6 t l) (M6 t l') = true
 | .mk k nm num ty fr lb ks, l, l', h => by
  rw [M6, M6, A3n]
  refine ⟨rfl, rfl, rfl, fun hk => ?_, ?_⟩
  ·rw [if_pos hk, if_pos hk]; exact h 0
  ·split
   ·exact A52 ks _ _ (h.drop 1)
   ·exact A52 ks _ _ h
theorem A52 : ∀ (ts : List Tm) (l l' : List Ty), PLe l l' → Z5 (L9 ts l) (L9 ts l') = true
 | [], _, _, _ => by rw [L9, L9]; rfl
 | t :: ts, l, l', h => by
  rw [L9, L9, Z5, A51 t l l' h, A52 ts _ _ (h.drop _)]; rfl
end
mutual
theorem A9v : ∀ (t : Tm) (l : List Ty) (d : Int), N7 12 14 t d = true → (C6 t).length ≤ l.length → (∀ u ∈ l, C9 u = true) → N7 12 14 (M6 t l) d = true
 | .mk k nm num ty fr lb ks, l, d, h, hl, hv => by
  obtain ⟨h1, h2, h3, h4⟩ := A0X h
  obtain ⟨n1, n2, n3, n4, n5, n6, n7, n8, n9⟩ := W8.1 h3
  rw [C6, List.length_append] at hl
  rw [M6, A17 h1 h2]
  ·refine A9w ks _ _ h4 ?_ ?_
   ·split
    ·rename_i hk
     rw [if_pos hk] at hl
     simp only [List.length_singleton] at hl
     rw [List.length_drop]; omega
    ·rename_i hk
     rw [if_neg hk] at hl
     simpa using hl
   ·intro u hu
    split at hu
    ·exact hv u (List.mem_of_mem_drop hu)
    ·exact hv u hu
  ·rw [A1G]
   by_cases hk : k = 5 ∨ k = 13
   ·rw [if_pos hk] at hl ⊢
    simp only [List.length_singleton] at hl
    refine W8.2 ⟨n1, n2, n3, n4, n5, fun _ => ?_, fun hn => absurd hk (by omega), fun h14 => absurd h14 h2, n9⟩
    rw [List.getD_eq_getElem?_getD, List.getElem?_eq_getElem (by omega), Option.getD_some]
    exact hv _ (List.getElem_mem _)
   ·rw [if_neg hk]; exact h3
theorem A9w : ∀ (ts : List Tm) (l : List Ty) (d : Int), M4 12 14 ts d = true → (D3 ts).length ≤ l.length → (∀ u ∈ l, C9 u = true) → M4 12 14 (L9 ts l) d = true
 | [], _, _, _, _, _ => by rw [L9]; rfl
 | t :: ts, l, d, h, hl, hv => by
  rw [M4, Bool.and_eq_true] at h
  rw [D3, List.length_append] at hl
  rw [L9, M4, A9v t l d h.1 (by omega) hv, A9w ts _ d h.2 (by rw [List.length_drop]; omega) (fun u hu => hv u (List.mem_of_mem_drop hu))]; rfl
end
mutual
theorem A53 : ∀ (t : Tm) (l : List Ty), M6 t (C6 t ++ l) = t
 | .mk k nm num ty fr lb ks, l => by
  rw [M6, C6]
  by_cases hk : k = 5 ∨ k = 13
  ·rw [if_pos hk, if_pos hk, if_pos hk]
   simp only [List.cons_append, List.nil_append, List.getD_cons_zero, List.drop_succ_cons, List.drop_zero]
   rw [A54 ks l]
  ·rw [if_neg hk, if_neg hk, if_neg hk, List.nil_append, A54 ks l]
theorem A54 : ∀ (ts : List Tm) (l : List Ty), L9 ts (D3 ts ++ l) = ts
 | [], _ => by rw [L9]
 | t :: ts, l => by
  rw [D3, L9, List.append_assoc, A53 t]
  rw [List.drop_left, A54 ts l]
end
section masks
variable {P : Program} {Γ : K1} {env : K7} {hp : List A4} {G : IM} {ty : TypeId}
end masks
mutual
def wtT : Ty → Nat
 | .mk k ks => if k = 1 then 0 else Q2 ks + 1
def Q2 : List Ty → Nat
 | [] => 0
 | t :: ts => wtT t + Q2 ts
end
theorem A55 : ∀ a b : List Ty, Q2 (a ++ b) = Q2 a + Q2 b
 | [], b => by simp [Q2]
 | t :: a, b => by rw [List.cons_append, Q2, Q2, A55 a b]; omega
mutual
theorem A9x : ∀ t : Ty, (wtT t : Int) ≤ H4 t + 1
 | .mk k ks => by
  have := A9y ks
  rw [wtT, H4]
  split <;> push_cast <;> omega
theorem A9y : ∀ ts : List Ty, (Q2 ts : Int) ≤ ts.length + K9 ts
 | [] => by simp [Q2, K9]
 | t :: ts => by
  have := A9x t
  have := A9y ts
  rw [Q2, K9, List.length_cons]; push_cast; omega
end
theorem A9z : ∀ {a b c d : List Ty}, a.length = c.length → Q7 (a ++ b) (c ++ d) = (Q7 a c && Q7 b d)
 | [], b, [], d, _ => by simp [Q7]
 | x :: a, b, y :: c, d, h => by
  rw [List.cons_append, List.cons_append, Q7, Q7, A9z (by simpa using h), Bool.and_assoc]
 | [], _, _ :: _, _, h => by cases h
 | _ :: _, _, [], _, h => by cases h
mutual
theorem A9A : ∀ (t x : Ty), x ∈ Q3 t → A0n x t = true ∧ wtT x = wtT t + 1
 | .mk k ks, x, h => by
  rw [Q3] at h
  by_cases hk : k = 1
  ·rw [if_pos hk] at h
   refine ⟨by obtain ⟨kx, xs⟩ := x; rw [A0s, hk]; simp, ?_⟩
   rw [wtT, if_pos hk]
   simp only [List.mem_cons, List.not_mem_nil, or_false] at h
   rcases h with rfl | rfl | rfl | rfl <;> decide
  ·rw [if_neg hk] at h
   obtain ⟨ys, e, h1, h2⟩ := A9B k hk [] ks x h
   rw [List.nil_append] at h1
   rw [e]
   refine ⟨by rw [A0s]; simp [h1], ?_⟩
   rw [wtT, wtT, if_neg hk, if_neg hk, h2]
   simp [Q2]
theorem A9B (k : Int) (hk : k ≠ 1) : ∀ (pre ks : List Ty) (x : Ty), x ∈ X8 k pre ks → ∃ ys, x = .mk k ys ∧ Q7 ys (pre ++ ks) = true ∧ Q2 ys = Q2 pre + Q2 ks + 1
 | pre, [], x, h => by rw [X8] at h; cases h
 | pre, t :: ts, x, h => by
  rw [X8, List.mem_append] at h
  rcases h with h | h
  ·obtain ⟨u, hu, rfl⟩ := List.mem_map.1 h
   obtain ⟨h1, h2⟩ := A9A t u hu
   refine ⟨_, rfl, ?_, ?_⟩
   ·rw [A9z rfl, A4u, Q7, h1, A4u]; rfl
   ·rw [A55, Q2, Q2, h2]; omega
  ·obtain ⟨ys, e, h1, h2⟩ := A9B k hk (pre ++ [t]) ts x h
   refine ⟨ys, e, ?_, ?_⟩
   ·rwa [List.append_assoc] at h1
   ·rw [h2, A55, Q2, Q2, Q2]; omega
end
theorem A4v {t x : Ty} (h : C9 t = true) (hx : x ∈ O8 4 t) : C9 x = true ∧ A0n x t = true ∧ wtT x = wtT t + 1 := by
 rw [← A39 h, List.mem_filter] at hx
 exact ⟨hx.2, A9A t x hx.1⟩
def A1x (e : Tm) (i : Nat) : List Tm := (O8 4 ((C6 e).getD i A7)).map fun x => M6 e ((C6 e).set i x)
def U5 (e : Tm) (n : Nat) : List Tm := (List.range n).flatMap (A1x e)
def Y0 (e : Tm) : Bool := (P3 e).isSome
def A0f (e : Tm) : Option Tm := (U5 e (C6 e).length).find? Y0
theorem A56 (e : Tm) (n : Nat) : U5 e (n + 1) = U5 e n ++ A1x e n := by
 unfold U5
 rw [List.range_succ, List.flatMap_append]; simp
mutual
theorem A9C : ∀ (t : Tm) (l m : List Ty), l.length = (C6 t).length → C6 (M6 t (l ++ m)) = l
 | .mk k nm num ty fr lb ks, l, m, h => by
  rw [C6] at h
  rw [M6, C6]
  by_cases hk : k = 5 ∨ k = 13
  ·rw [if_pos hk] at h
   rw [if_pos hk, if_pos hk, if_pos hk]
   obtain ⟨x, xs, rfl⟩ : ∃ x xs, l = x :: xs := by
    cases l with
    | nil => simp at h
    | cons x xs => exact ⟨x, xs, rfl⟩
   simp only [List.cons_append, List.nil_append, List.getD_cons_zero, List.drop_succ_cons, List.drop_zero, List.length_cons] at h ⊢
   rw [A57 ks xs m (by omega)]
  ·rw [if_neg hk] at h
   rw [if_neg hk, if_neg hk, List.nil_append]
   exact A57 ks l m (by simpa using h)
theorem A57 : ∀ (ts : List Tm) (l m : List Ty), l.length = (D3 ts).length → D3 (L9 ts (l ++ m)) = l
 | [], l, m, h => by
  rw [D3] at h
  rw [L9, D3, List.length_eq_zero_iff.1 h]
 | t :: ts, l, m, h => by
  rw [D3, List.length_append] at h
  have e : l = l.take (C6 t).length ++ l.drop (C6 t).length := (List.take_append_drop _ _).symm
  have hl : (l.take (C6 t).length).length = (C6 t).length := by rw [List.length_take]; omega
  rw [L9, D3]
  rw [e, List.append_assoc, A9C t _ _ hl]
  rw [List.drop_append_of_le_length (by omega), List.drop_of_length_le (by omega), List.nil_append, A57 ts _ m (by rw [List.length_drop]; omega)]
end
theorem A9D {t : Tm} {l : List Ty} (h : l.length = (C6 t).length) : C6 (M6 t l) = l := by
 have := A9C t l [] h
 rwa [List.append_nil] at this
theorem A3y {e : Tm} (h : M3 e = true) {u : Ty} (hu : u ∈ C6 e) : C9 u = true := A5Y e 1 ((Y9 e).1 h).1 u hu
theorem A58 {e : Tm} (h : M3 e = true) {l : List Ty} (hl : l.length = (C6 e).length) (hv : ∀ u ∈ l, C9 u = true) : M3 (M6 e l) = true := by
 obtain ⟨h1, h2⟩ := (Y9 e).1 h
 have hf := (A5Z e l (A2J h).1 (fun u hu => (A0d (hv u hu)).1.small)).2
 exact (Y9 _).2 ⟨A9v e _ 1 h1 (by omega) hv, by omega⟩
theorem A9E : ∀ (l : List Ty) (i : Nat) (x : Ty), i < l.length → Q2 (l.set i x) + wtT (l.getD i A7) = Q2 l + wtT x
 | [], _, _, h => by cases h
 | t :: ts, 0, x, _ => by simp [Q2]; omega
 | t :: ts, i + 1, x, h => by
  have := A9E ts i x (by simpa using h)
  simp only [List.set_cons_succ, Q2, List.getD_cons_succ]; omega
theorem B4S {e x : Tm} (h : M3 e = true) {i : Nat} (hi : i < (C6 e).length) (hx : x ∈ A1x e i) :
  M3 x = true ∧ A0t x e = true ∧ (C6 x).length = (C6 e).length ∧ Q2 (C6 x) = Q2 (C6 e) + 1 := by
 obtain ⟨u, hu, rfl⟩ := List.mem_map.1 hx
 have hg : (C6 e).getD i A7 ∈ C6 e := by
  rw [List.getD_eq_getElem?_getD, List.getElem?_eq_getElem hi]; exact List.getElem_mem hi
 obtain ⟨h1, h2, h3⟩ := A4v (A3y h hg) hu
 have hl : ((C6 e).set i u).length = (C6 e).length := List.length_set
 have hv : M3 (M6 e ((C6 e).set i u)) = true := A58 h hl fun y hy => by
  rcases List.mem_or_eq_of_mem_set hy with hy | hy
  ·exact A3y h hy
  ·rw [hy]; exact h1
 refine ⟨hv, ?_, ?_, ?_⟩
 ·unfold A0t
  rw [hv, h]
  have := A51 e ((C6 e).set i u) (C6 e) fun j => by
   by_cases hj : j = i
   ·subst hj
    rw [List.getD_eq_getElem?_getD, List.getElem?_set_self hi]
    exact h2
   ·rw [List.getD_eq_getElem?_getD, List.getElem?_set_ne (fun hh => hj hh.symm), ← List.getD_eq_getElem?_getD]
    exact A50 _
  have e2 := A53 e []
  rw [List.append_nil] at e2
  rw [e2] at this
  rw [this]; rfl
 ·rw [A9D hl, hl]
 ·rw [A9D hl]
  have := A9E (C6 e) i u hi
  omega
theorem B4T {e x : Tm} : ∀ {n : Nat}, x ∈ U5 e n → ∃ i, i < n ∧ x ∈ A1x e i := by
 intro n h
 unfold U5 at h
 obtain ⟨i, hi, hx⟩ := List.mem_flatMap.1 h
 exact ⟨i, List.mem_range.1 hi, hx⟩
theorem A4w {e x : Tm} (h : M3 e = true) (hx : A0f e = some x) : M3 x = true ∧ (P3 x).isSome = true ∧ A0t x e = true ∧ (C6 x).length = (C6 e).length ∧ Q2 (C6 x) = Q2 (C6 e) + 1 := by
 obtain ⟨i, hi, hm⟩ := B4T (List.mem_of_find?_eq_some hx)
 obtain ⟨h1, h2, h3, h4⟩ := B4S h hi hm
 have ht : Y0 x = true := List.find?_some (p := Y0) hx
 exact ⟨h1, ht, h2, h3, h4⟩
def A00 : Nat → Tm → Tm
 | 0, e => e
 | n + 1, e => match A0f e with
  | none => e
  | some x => A00 n x
def wtB (e : Tm) : Nat := 32 * (C6 e).length + 1 - Q2 (C6 e)
def A0u (e : Tm) : Tm := A00 (wtB e) e
def A01 (e : Tm) : Option Tm := if Y0 e = true then some (A0u e) else none
theorem A9F : ∀ (l : List Ty), (∀ u ∈ l, C9 u = true) → Q2 l ≤ 31 * l.length
 | [], _ => by simp [Q2]
 | t :: ts, h => by
  have h1 := (A0d (h t (List.mem_cons_self ..))).2
  have h2 := A9x t
  have h3 := A9F ts fun u hu => h u (List.mem_cons_of_mem _ hu)
  rw [Q2, List.length_cons]; omega
theorem A9G {e : Tm} (h : M3 e = true) : 0 < wtB e := by
 have := A9F (C6 e) fun u hu => A3y h hu
 unfold wtB; omega
theorem A9H {e : Tm} (h : A0f e = none) : A0u e = e := by
 unfold A0u
 cases wtB e with
 | zero => rw [A00]
 | succ n => rw [A00, h]
theorem A9I {e x : Tm} (hv : M3 e = true) (h : A0f e = some x) : A0u e = A0u x ∧ wtB x < wtB e := by
 obtain ⟨h1, _, _, h4, h5⟩ := A4w hv h
 have hp := A9G hv
 have e1 : wtB e = wtB x + 1 := by
  have := A9G h1
  unfold wtB at *
  rw [h4, h5] at *
  omega
 refine ⟨?_, by omega⟩
 show A00 (wtB e) e = A00 (wtB x) x
 rw [e1, A00, h]
theorem A59 : ∀ (n : Nat) (e : Tm), M3 e = true → (P3 e).isSome = true → (P3 (A00 n e)).isSome = true ∧ A0t (A00 n e) e = true
 | 0, e, h, ht => by
  refine ⟨ht, ?_⟩
  unfold A0t
  have := A51 e (C6 e) (C6 e) fun _ => A50 _
  have e2 := A53 e []
  rw [List.append_nil] at e2
  rw [e2] at this
  rw [A00, h, this]; rfl
 | n + 1, e, h, ht => by
  rw [A00]
  cases hf : A0f e with
  | none => exact A59 0 e h ht
  | some x =>
   obtain ⟨h1, h2, h3, _, _⟩ := A4w h hf
   obtain ⟨g1, g2⟩ := A59 n x h1 h2
   exact ⟨g1, B4k g2 h3⟩
theorem B4U (ts : List Ty) (G : IM) (p : Option Addr) (n c : Nat) (es : List (List Value)) (hn : n = ts.length) (hkl : B0 G ts es) (hlen : ts.length ≤ 100000) (fid : FuncId) [B2 Tryz.prog fid] (d : Ty → Bool)
  (hd : ∀ (t : Ty) (G' : IM) (cells : List Value), B3 G' t cells → Fn Tryz.prog fid [.agg ⟨cells⟩] [] G' (H9 (.bool (d t)) G')) :
  Fn Tryz.prog 62 [.slice p n c, .func (.func fid) ⟨[]⟩ ⟨[]⟩] [.slc p c 25 2 n es.flatten] G (A3i (ts.filter fun t => !d t)) := by
 rcases Nat.eq_zero_or_pos n with h0 | h0
 ·have ht : ts = [] := List.length_eq_zero_iff.1 (by omega)
  have he : es = [] := List.length_eq_zero_iff.1 (by have := hkl.len; omega)
  rw [ht, he, h0]
  exact B2m G p c fid
 ·exact B2l ts G p n c es hn h0 hkl hlen fid d hd
theorem B4V (t : Ty) (G : IM) (cells : List Value) (hr : B3 G t cells) : Fn Tryz.prog 64 [.agg ⟨cells⟩] [] G (H9 (.bool (!C9 t)) G) := by
 have hl := hr.len
 have hv := A15 t G cells hr
 refine B7 Tryz.func64 rfl Tryz.ntmps64 Tryz.results64 rfl ?_
 intro w0
 refine tS (tR ?_)
 refine sE (C2 rfl rfl) rfl (fun b3 => ?_)
 refine sQ (qA rfl) rfl (sD (nS (tS (tR ?_))))
 refine sL (A5 rfl rfl (B5 (by repeat first | exact mH | apply mT)) hl) rfl rfl ?_
 refine H3 rfl (hv) rfl rfl (fun h10 => ?_) (fun h10 => ?_)
 refine I0 ?_
 (exact ⟨rfl, by simp_all, rfl⟩)
 refine I0 ?_
 (exact ⟨rfl, by simp_all, rfl⟩)
def A0q (t : Ty) : List Ty := if C9 t = true then O8 4 t else []
theorem B4W (t : Ty) (G : IM) (cells : List Value) (hr : B3 G t cells) : Fn Tryz.prog 29 [.agg ⟨cells⟩] [] G (A3i (A0q t)) := by
 have hl := hr.len
 have hv := A15 t G cells hr
 have hm1 := fun h : C9 t = true => (show A0q t = O8 4 t by unfold A0q; rw [if_pos h])
 have hm0 := fun h : C9 t = false => (show A0q t = [] by unfold A0q; rw [if_neg (by rw [h]; decide)])
 have hlen := A2y t
 refine B7 Tryz.func29 rfl Tryz.ntmps29 Tryz.results29 rfl ?_
 intro w0
 refine tS (tR ?_)
 refine sE (C2 rfl rfl) rfl (fun b3 => ?_)
 refine sQ (qA rfl) rfl (sD (nS (tS (tS (tR ?_)))))
 refine sL (A5 rfl rfl (B5 (by repeat first | exact mH | apply mT)) hl) rfl rfl ?_
 refine H3 rfl (hv) rfl rfl (fun h11 => ?_) (fun h11 => ?_)
 refine sQ (pNt rfl) rfl (sD (nS (cF rfl (tK (nS (tS (tR ?_)))))))
 refine sL (A5 rfl rfl (B5 (by repeat first | exact mH | apply mT)) hl) rfl rfl ?_
 (have htv : C9 t = true := (by assumption); obtain ⟨han, hsz⟩ := A0d htv; refine T9 rfl (B2a t _ cells hsz hr) rfl rfl (fun v G1 outs hle1 hh => ?_); obtain ⟨p1, c1, es1, rfl, rfl, hr1⟩ := hh; rw [hm1 htv]; have hrv := A39 htv)
 (refine L3 rfl (B4U (Q3 t) _ p1 _ c1 es1 rfl hr1 (by omega) 64 (fun u => !C9 u) B4V) (Pk.perm (by repeat (first | exact Pk.here | apply Pk.there))) rfl rfl (fun v G2 outs hle2 hh => ?_); obtain ⟨rfl, p2, c2, es2, rfl, hsl2, hr2⟩ := hh; simp only [Bool.not_not] at hsl2 hr2 ⊢; rw [hrv] at hsl2 hr2 ⊢)
 (refine F4 rfl (B2b (O8 4 t) _ p2 c2 es2 hsl2 hr2 (fun u hu => (A0d (A4v htv hu).1).1.small) (by have := hr2.len; have : (O8 4 t).length ≤ (Q3 t).length := (by rw [← hrv]; exact List.length_filter_le ..); omega)) rfl rfl (fun v G3 hle3 hh => ?_); obtain ⟨p3, c3, es3, rfl, hsl3, hr3⟩ := hh)
 refine sQ (qA rfl) rfl (sD (nS (tT (F0 (rT rfl) ?_))))
 (exact ⟨rfl, p3, c3, es3, rfl, hsl3, hr3⟩)
 refine N8 ?_
 (rw [hm0 (by assumption)]; exact ⟨rfl, none, 0, [], rfl, B9.nil _ 2, by simp [B0]⟩)
def P4 (l : List Tm) : List Tm := (l.find? Y0).toList
theorem A9J (l : List Tm) : (P4 l).length ≤ 1 := by
 unfold P4
 cases l.find? Y0 <;> simp
theorem B4X {l : List Tm} {x : Tm} (h : (P3 x).isSome = false) : P4 (l ++ [x]) = P4 l := by
 unfold P4
 have hx : Y0 x = false := h
 rw [List.find?_append, List.find?_cons, hx]
 simp
theorem B4Y {l : List Tm} {x : Tm} (h : (P3 x).isSome = true) (h0 : P4 l = []) : P4 (l ++ [x]) = P4 l ++ [x] := by
 have h1 : l.find? Y0 = none := by
  unfold P4 at h0
  cases hf : l.find? Y0 with
  | none => rfl
  | some y => rw [hf] at h0; cases h0
 have hx : Y0 x = true := h
 unfold P4
 rw [List.find?_append, List.find?_cons, hx, h1]
 rfl
theorem B4Z {l : List Tm} {x : Tm} (h0 : 1 ≤ (P4 l).length) : P4 (l ++ [x]) = P4 l := by
 unfold P4 at h0 ⊢
 rw [List.find?_append]
 cases hf : l.find? Y0 with
 | none => rw [hf] at h0; simp at h0
 | some y => rfl
theorem A6a {C M M' vs : List Tm} {x : Tm} (hm : M' = M ++ [x]) (hv : vs = P4 (C ++ M)) (h : (P3 x).isSome = false ∨ 1 ≤ vs.length) : vs = P4 (C ++ M') := by
 rw [hm, ← List.append_assoc]
 rcases h with h | h
 ·rw [B4X h]; exact hv
 ·rw [hv] at h
  rw [B4Z h]; exact hv
theorem B40 {C M M' vs : List Tm} {x : Tm} (hm : M' = M ++ [x]) (hv : vs = P4 (C ++ M)) (h : (P3 x).isSome = true) (h0 : vs.length < 1) : vs ++ [x] = P4 (C ++ M') := by
 have h1 : P4 (C ++ M) = [] := by rw [← hv]; exact List.length_eq_zero_iff.1 (by omega)
 rw [hm, ← List.append_assoc, B4Y h h1, ← hv]
def B41 (ts : List Tm) : IM → Value → List A4 → Prop := L5 fun G' v => ∃ p c es, v = .slice p ts.length c ∧ B9 G' p ts.length c 9 es ∧ C8 G' ts es
theorem B42 (e : Tm) (G : IM) (cells : List Value) (hv : M3 e = true) (hr : A9 G e cells) : Fn Tryz.prog 12 [.agg ⟨cells⟩, .int .i64 1] [] G (B41 (P4 (U5 e (C6 e).length))) := by
 have hlen9 := hr.len
 have hone9 := hr.one
 have hsm := (A2J hv).1
 have hcnt : E0 e ≤ 4000000 := by have := ((Y9 e).1 hv).2; omega
 have hts0 := fun u hu => A3y hv (u := u) hu
 have hst0 := A7Q e hsm
 have hTy := B1X e G cells hsm hcnt hr
 have hLb := A2w e
 obtain ⟨L, hL⟩ : ∃ L, C6 e = L := ⟨_, rfl⟩
 rw [hL] at hTy hLb hts0 hst0 ⊢
 have hvw := fun (l : List Ty) => A58 (e := e) hv (l := l)
 have hRt := fun l G cells p c el h1 => B1Y e l G cells p c el h1
 rw [hL] at hvw
 simp only [hL] at hRt
 refine B7 Tryz.func12 rfl Tryz.ntmps12 Tryz.results12 rfl ?_
 intro w0
 refine tS (tR ?_)
 refine sE (C2 rfl rfl) rfl (fun b3 => ?_)
 refine L6 ?_
 refine sL (A5 rfl rfl (B5 (by repeat first | exact mH | apply mT)) hlen9) rfl rfl ?_
 (refine T9 rfl hTy rfl rfl (fun v G1 outs hle1 hh => ?_); obtain ⟨pl, cl, el, rfl, rfl, hr1⟩ := hh; have hell := hr1.len; refine T8 (cs := el.flatten) (by repeat (first | exact Pk.here | apply Pk.there)) (fun G2 hle2 hsl2 hno2 => ?_); have hls := B9.of hsl2 hr1.len hr1.all (fun e he => (hr1.each e he).2); replace hr1 := hr1.mono hle2; have hr2 := hr.mono (hle1.trans hle2); clear hno2)
 refine K6 ?_
 refine B6 ?_
 (refine T7 28 9 ?_; refine J3 (fun (x : Nat × Option Addr × Nat × List Tm × List (List Value) × IM) => ⟨[(20, .int .i64 x.1), (19, .int .i64 (L.length : Int)), (18, .slice pl L.length cl), (6, .slice pl L.length cl), (5, .slice x.2.1 x.2.2.2.1.length x.2.2.1), (2, .pointer (some ⟨b3, 0, none⟩)), (1, .int .i64 1)], [.slc x.2.1 x.2.2.1 28 9 x.2.2.2.1.length x.2.2.2.2.1.flatten, .blk b3 cells], x.2.2.2.2.2⟩) (fun x => x.1 ≤ L.length ∧ B1 G2 x.2.2.2.2.2 ∧ C8 x.2.2.2.2.2 x.2.2.2.1 x.2.2.2.2.1 ∧ x.2.2.2.1 = P4 (U5 e x.1)) (fun x => L.length - x.1) (0, none, 0, [], [], G2) ?_ ?_ ?_)
 (simp only [E2]; exact C5)
 (exact ⟨Nat.zero_le _, B1.refl _, by simp [C8], rfl⟩)
 (rintro ⟨(i : Nat), pn, cn, os, es', Gi⟩ ⟨hi, hle, hst, hos⟩; simp only [] at hi hle hst hos ⊢; have hlsi := hls.mono hle; have hr1i := hr1.mono hle; have hr2i := hr2.mono hle)
 refine tS (tR ?_)
 refine sB (J6 rfl rfl) rfl rfl (fun h34 => ?_) (fun h34 => ?_)
 refine sD (nS (tS (qT rfl (tK (nS (tS ?_))))))
 refine B6 ?_
 refine tS (tR (sQ (qM rfl) rfl ?_))
 (have hil : i < L.length := (by omega); obtain ⟨b0, o0, q0, d0, hp0, hat0, hre0, hg0⟩ := hlsi.kidTy hr1i (i := i) (by omega) (by omega); subst hp0; refine sP (B4 rfl rfl rfl (by omega)) rfl rfl ?_)
 refine sL (A5 rfl rfl (hat0 _) rfl) rfl rfl ?_
 refine sE (A6 rfl) rfl (fun b48 => ?_)
 refine D0 ?_
 (have htv := hts0 L[i] (List.getElem_mem (by omega)); refine F4 rfl (B4W L[i] Gi _ hre0) rfl rfl (fun v G3 hle3 hh => ?_); obtain ⟨pr, cr, er, rfl, hrs, hrr⟩ := hh; have hmr : A0q L[i] = O8 4 L[i] := (by unfold A0q; rw [if_pos htv]); rw [hmr] at hrs hrr ⊢; have hcd := A56 e i; have hct : A1x e i = (O8 4 L[i]).map (fun x => M6 e (L.set i x)) := (by unfold A1x; rw [hL, List.getD_eq_getElem?_getD, List.getElem?_eq_getElem hil]; rfl); rw [hct] at hcd; have hrok := fun x (hx : x ∈ O8 4 L[i]) => (A4v htv hx).1; have hrl : (O8 4 L[i]).length ≤ 1000 := (by have h1 := A2y L[i]; have h2 := (A0d htv).2; have h3 : (O8 4 L[i]).length ≤ (Q3 L[i]).length := (by rw [← A39 htv]; exact List.length_filter_le ..); omega); obtain ⟨RS, hRS⟩ : ∃ R, O8 4 L[i] = R := ⟨_, rfl⟩; rw [hRS] at hrs hrr hcd hrok hrl ⊢; have hle23 := hle.trans hle3)
 refine sQ (pLn rfl rfl) rfl (sQ (qM rfl) rfl (sD (nS ?_)))
 refine B6 ?_
 (refine J3 (fun (x : Nat × Option Addr × Nat × List Tm × List (List Value) × IM) => ⟨[(28, .int .i64 x.1), (27, .int .i64 (RS.length : Int)), (26, .slice pr RS.length cr), (7, .int .i64 (i : Int)), (20, .int .i64 (i : Int)), (19, .int .i64 (L.length : Int)), (18, .slice (some ⟨b0, o0, none⟩) L.length cl), (6, .slice (some ⟨b0, o0, none⟩) L.length cl), (5, .slice x.2.1 x.2.2.2.1.length x.2.2.1), (2, .pointer (some ⟨b3, 0, none⟩)), (1, .int .i64 1)], [.slc x.2.1 x.2.2.1 28 9 x.2.2.2.1.length x.2.2.2.2.1.flatten, .blk b3 cells], x.2.2.2.2.2⟩) (fun x => x.1 ≤ RS.length ∧ B1 G3 x.2.2.2.2.2 ∧ C8 x.2.2.2.2.2 x.2.2.2.1 x.2.2.2.2.1 ∧ x.2.2.2.1 = P4 (U5 e i ++ (RS.take x.1).map (fun x => M6 e (L.set i x)))) (fun x => RS.length - x.1) (0, pn, cn, os, es', G3) ?_ ?_ ?_)
 (simp only [E2]; exact C5)
 (exact ⟨Nat.zero_le _, B1.refl _, hst.mono hle3, by simpa using hos⟩)
 (rintro ⟨(j : Nat), pm, cm, vs, fs, Gj⟩ ⟨hj, hlj, hstj, hosj⟩; simp only [] at hj hlj hstj hosj ⊢; have hle2j := hle23.trans hlj; have hvl : vs.length ≤ 1 := (by rw [hosj]; exact A9J _); have hlsj := hls.mono hle2j; have hr1j := hr1.mono hle2j; have hr2j := hr2.mono hle2j; have hrsj := hrs.mono hlj; have hrrj := hrr.mono hlj)
 refine tS (tR ?_)
 refine sB (J6 rfl rfl) rfl rfl (fun h68 => ?_) (fun h68 => ?_)
 refine sD (nS (tS (qT rfl (tK (nS (tS ?_))))))
 refine B6 ?_
 refine tS (tR ?_)
 (have hjl : j < RS.length := (by omega); obtain ⟨b1, o1, q1, d1, hp1, hat1, hre1, hg1⟩ := hrsj.kidTy hrrj (i := j) (by omega) (by omega); subst hp1; have hyv := hrok _ (List.getElem_mem hjl); have htk := List.take_succ_eq_append_getElem hjl; generalize RS[j] = y at htk hat1 hre1 hyv; refine sP (B4 rfl rfl rfl (by omega)) rfl rfl ?_)
 refine sL (A5 rfl rfl (hat1 _) rfl) rfl rfl ?_
 refine sE (A6 rfl) rfl (fun b81 => ?_)
 refine F9 ?_
 refine sD (nS (tS (tR (sQ (qM rfl) rfl ?_))))
 (refine T9 rfl (A5o Gj _ L.length cl el hlsj (by omega) (by omega)) rfl rfl (fun v Gc outs hlec hh => ?_); obtain ⟨hG, p1, c1, rfl, rfl⟩ := hh; replace hG := hG.symm; subst hG)
 refine D7 ?_
 (refine A1E (p := p1) (cs := el.flatten) (by repeat (first | exact Pk.here | apply Pk.there)) (by omega) (fun bc Cc hpc hnc hmc => ?_); subst hpc; refine sP (B4 (j := i) rfl rfl rfl (by omega)) rfl rfl ?_)
 refine S6 rfl rfl rfl rfl hre1.one rfl (by repeat first | exact Sw.here | apply Sw.there) (by exact A1F (by omega) (fun e he => (hlsj.all e he)) rfl) ?_
 refine sD (nS (tS (tR ?_)))
 refine sL (A5 rfl rfl (B5 (by repeat first | exact mH | apply mT)) hlen9) rfl rfl ?_
 refine sQ (qM rfl) rfl ?_
 (refine A3h (b := bc) (Pk.perm (by repeat (first | exact Pk.here | apply Pk.there))) (fun G7 hle7 hin7 => ?_); have hset := (hr1j.mono hle7).set i (hre1.mono hle7); have hfl := X6 (sz := 2) (fun e he => (hset.each e he).1); rw [List.length_set, hell] at hfl; have hS7 := B9.of (Sl.of_blk (A := []) hfl hnc hmc hin7) (by rw [List.length_set, hell]) (fun e he => (hset.each e he).1) (fun e he => (hset.each e he).2); have hvs : ∀ u ∈ L.set i y, C9 u = true := (fun u hu => (by rcases List.mem_or_eq_of_mem_set hu with hu | hu; exact hts0 u hu; rw [hu]; exact hyv)); have hxv := hvw (L.set i y) List.length_set hvs; have hRy := hRt (L.set i y) G7 cells (some ⟨bc, 0, none⟩) c1 _ (Nat.le_of_eq List.length_set.symm) (fun u hu => (A0d (hvs u hu)).1.small) hcnt (hr2j.mono hle7) (by rw [List.length_set]; exact hS7) hset; rw [List.length_set] at hRy; refine T9 rfl hRy rfl rfl (fun v G8 outs hle8 hh => ?_); obtain ⟨rfl, cu, p8, c8, e8, rfl, hru, _, _⟩ := hh; obtain ⟨x, hx⟩ : ∃ x, M6 e (L.set i y) = x := ⟨_, rfl⟩; have hmap : (RS.take (j + 1)).map (fun x => M6 e (L.set i x)) = (RS.take j).map (fun x => M6 e (L.set i x)) ++ [x] := (by rw [htk, List.map_append, List.map_singleton, hx]); rw [hx] at hru hxv; have hul := hru.len; have huo := hru.one; clear hRy hset hS7; replace hstj := hstj.mono (hle7.trans hle8); replace hle2j := hlj.trans (hle7.trans hle8))
 refine J0 ?_
 refine sE (A6 rfl) rfl (fun b109 => ?_)
 refine sS rfl rfl rfl hul huo rfl ?_ (hu := by exact D5 hul.symm)
 refine sQ (qA rfl) rfl (sD (nS (tS (tR ?_))))
 refine sL (A5 rfl rfl (B5 (by repeat first | exact mH | apply mT)) hul) rfl rfl ?_
 (refine F4 rfl (A88 x _ cu hxv hru) rfl rfl (fun v9 G9 hle9 hh => ?_); obtain ⟨ct, u, rfl, hrt, _⟩ := hh; obtain ⟨qt, dt, et2, rfl, _⟩ := hrt.open; have hru9 := hru.mono hle9; replace hstj := hstj.mono hle9; replace hle2j := hle2j.trans hle9; obtain ⟨A1, hA1⟩ : ∃ A, (P3 x).isSome = A := ⟨_, rfl⟩; rw [hA1]; cases A1)
 refine J0 ?_
 refine sE (A6 rfl) rfl (fun b121 => ?_)
 refine A0y ?_
 refine sP (I2 rfl rfl (by omega) (by omega)) rfl rfl ?_
 refine sQ (qM rfl) rfl (sD ?_)
 (have hy0 := A6a hmap hosj (by first | exact .inl hA1 | exact .inr (by omega)); refine I9 (j + 1, pm, cm, vs, fs, G9) ?_ ?_ ?_)
 (simp only [E2]; exact C5)
 (dsimp only; exact ⟨by omega, hle2j, hstj, hy0⟩)
 (show RS.length - (j + 1) < RS.length - j; omega)
 refine J0 ?_
 refine sE (A6 rfl) rfl (fun b152 => ?_)
 refine K6 ?_
 refine sB (J6 rfl rfl) rfl rfl (fun h164 => ?_) (fun h164 => ?_)
 refine I0 ?_
 refine sL (A5 rfl rfl (B5 (by repeat first | exact mH | apply mT)) hul) rfl rfl ?_
 (refine F4 rfl (A22 x _ cu (A2J hxv).1 hru9) rfl rfl (fun v G10 hle10 hh => ?_); obtain ⟨cs1, F1, rfl, hs1, hn1⟩ := hh; have hr10 := hs1.R.mono (C1.le _ _); have huo := hr10.one; replace hstj := hstj.mono hle10; replace hle2j := hle2j.trans hle10; obtain ⟨u1, u2, u3, u4, u5, u6, u7, u8, u9, rfl⟩ : ∃ u1 u2 u3 u4 u5 u6 u7 u8 u9, cs1 = [u1, u2, u3, u4, u5, u6, u7, u8, u9] := (by obtain ⟨_, _, _, _, _, _, _, _, _, rfl, _⟩ := hr10.open; exact ⟨_, _, _, _, _, _, _, _, _, rfl⟩))
 (refine I8 (C3 rfl rfl rfl (by omega) (by unfold maxLen; omega) rfl) rfl ?_; rintro _ ⟨b173, rfl⟩)
 (refine W7 rfl rfl rfl rfl rfl (fun _ _ => by repeat (first | exact Sw.here | apply Sw.there)) (N2 (by repeat first | exact mH | apply mT)) rfl (fun u hu => List.all_eq_true.1 huo u hu) (by unfold maxLen; omega) (by omega) rfl (fun pn' cn' => ?_))
 refine sQ (qA rfl) rfl (sD (M9 (nS (tR ?_))))
 refine sP (I2 rfl rfl (by omega) (by omega)) rfl rfl ?_
 refine sQ (qM rfl) rfl (sD ?_)
 (have hy1 := B40 hmap hosj hA1 (by omega); refine I9 (j + 1, pn', cn', vs ++ [x], fs ++ [[u1, u2, u3, u4, u5, u6, u7, u8, u9]], _) (by simp only [List.length_append, List.length_cons, List.length_nil, E2]; exact (N3 (by repeat (first | exact D4.nil | refine D4.cons rfl ?_)) (by repeat (first | exact A0.refl | exact A0.nil | refine A0.cons (by repeat (first | exact Pk.here | apply Pk.there)) ?_ | apply A0.drop)))) ?_ ?_)
 (dsimp only; exact ⟨by omega, hle2j, hstj.snoc hr10, hy1⟩)
 (show RS.length - (j + 1) < RS.length - j; omega)
 refine D7 ?_
 refine sP (I2 rfl rfl (by omega) (by omega)) rfl rfl ?_
 refine sQ (qM rfl) rfl (sD ?_)
 (have hy0 := A6a hmap hosj (by first | exact .inl hA1 | exact .inr (by omega)); refine I9 (j + 1, pm, cm, vs, fs, G9) ?_ ?_ ?_)
 (simp only [E2]; exact C5)
 (dsimp only; exact ⟨by omega, hle2j, hstj, hy0⟩)
 (show RS.length - (j + 1) < RS.length - j; omega)
 refine K6 ?_
 refine sP (I2 rfl rfl (by omega) (by omega)) rfl rfl ?_
 refine sQ (qM rfl) rfl (sD ?_)
 (obtain rfl : j = RS.length := (by omega); rw [List.take_length, ← hcd] at hosj; refine I9 (i + 1, pm, cm, vs, fs, Gj) ?_ ?_ ?_)
 (simp only [E2]; exact C5)
 (dsimp only; exact ⟨by omega, hle2j, hstj, hosj⟩)
 (show L.length - (i + 1) < L.length - i; omega)
 refine I4 ?_
 (obtain rfl : i = L.length := (by omega); rw [← hos]; refine H8 (by repeat (first | exact Pk.here | apply Pk.there)) (fun G5 hle5 hsl5 hno5 => ?_))
 refine tT (F0 (rT rfl) ?_)
 (exact ⟨rfl, pn, cn, es', rfl, B9.of hsl5 hst.len hst.all (fun e he => by obtain ⟨j, hj⟩ := List.getElem?_of_mem he; exact (hst.inv hj J4).2.one), hst.mono hle5⟩)
theorem B43 {x : Tm} (h : (P4 (U5 x (C6 x).length)).length = 0) : A0f x = none := by
 unfold P4 at h
 unfold A0f
 cases hf : (U5 x (C6 x).length).find? Y0 with
 | none => rfl
 | some y => rw [hf] at h; cases h
theorem B44 {x : Tm} (h : (P4 (U5 x (C6 x).length)).length ≠ 0) : ∃ y, A0f x = some y ∧ P4 (U5 x (C6 x).length) = [y] := by
 unfold P4 at h ⊢
 unfold A0f
 cases hf : (U5 x (C6 x).length).find? Y0 with
 | none => rw [hf] at h; exact absurd rfl h
 | some y => exact ⟨y, rfl, rfl⟩
theorem A9K {e : Tm} (h : (P3 e).isSome = false) : A01 e = none := by
 unfold A01
 rw [if_neg (show ¬ Y0 e = true from fun hh => Bool.noConfusion (h.symm.trans hh))]
theorem A9L {e : Tm} (h : (P3 e).isSome = true) : A01 e = some (A0u e) := by
 unfold A01
 rw [if_pos (show Y0 e = true from h)]
theorem B45 (e : Tm) (G : IM) (cells : List Value) (hr : A9 G e cells) : Fn Tryz.prog 5 [.agg ⟨cells⟩] [] G (TmB (A01 e)) := by
 have hlen9 := hr.len
 have hone9 := hr.one
 have hno := @A9K e
 have hyes := @A9L e
 have htv := @A5X e
 generalize A01 e = R at hno hyes ⊢
 refine B7 Tryz.func5 rfl Tryz.ntmps5 Tryz.results5 rfl ?_
 intro w0
 refine tS (tR ?_)
 refine sE (C2 rfl rfl) rfl (fun b3 => ?_)
 refine sE (A6 rfl) rfl (fun b4 => ?_)
 refine sQ (qA rfl) rfl (sD (nS (tS (tS (tR ?_)))))
 refine sL (A5 rfl rfl (B5 (by repeat first | exact mH | apply mT)) hlen9) rfl rfl ?_
 (refine F4 rfl (B4f e G cells hr) rfl rfl (fun v1 G1 hle1 hh => ?_); obtain ⟨ct, u, rfl, hru, _⟩ := hh; obtain ⟨qt, dt, et2, rfl, _⟩ := hru.open; have hr1 := hr.mono hle1; obtain ⟨A1, hA1⟩ : ∃ A, (P3 e).isSome = A := ⟨_, rfl⟩; rw [hA1] at hno hyes htv; rw [hA1]; cases A1)
 refine J0 ?_
 refine sE (A6 rfl) rfl (fun b16 => ?_)
 refine A0y ?_
 refine E9 (rC rfl (A2 rfl rfl)) (rT rfl) ?_
 (rw [hno rfl]; exact ⟨rfl, _, rfl, O3 _⟩)
 refine J0 ?_
 refine sE (A6 rfl) rfl (fun b42 => ?_)
 refine I4 ?_
 refine sL (A5 rfl rfl (B5 (by repeat first | exact mH | apply mT)) hlen9) rfl rfl ?_
 (have hev := htv rfl; refine F4 rfl (A22 e G1 cells (A2J hev).1 hr1) rfl rfl (fun v G2 hle2 hh => ?_); obtain ⟨cs1, F1, rfl, hs1, hn1⟩ := hh; have hr2 := hs1.R.mono (C1.le _ _); have hl2 := hr2.len; have huo := hr2.one)
 refine sE (A6 rfl) rfl (fun b60 => ?_)
 refine S6 rfl rfl rfl (by assumption) (by assumption) rfl (by repeat first | exact Sw.here | apply Sw.there) (by exact D5 (by symm; assumption)) ?_
 refine sD (nS ?_)
 refine B6 ?_
 (refine J3 (fun (x : Tm × List Value × IM) => ⟨[(6, .pointer (some ⟨b60, 0, none⟩)), (2, .pointer (some ⟨b4, 0, none⟩))], [.blk b60 x.2.1, .blk b4 [.int .i64 0, .string ⟨⟨[]⟩⟩, .int .i64 0, .int .i64 0, .slice none 0 0, .int .i64 0, .slice none 0 0, .int .i64 0, .slice none 0 0]], x.2.2⟩) (fun x => M3 x.1 = true ∧ A0u x.1 = A0u e ∧ A9 x.2.2 x.1 x.2.1) (fun x => wtB x.1) (e, cs1, G2) ?_ ?_ ?_)
 (simp only [E2]; exact C5)
 (exact ⟨hev, rfl, hr2⟩)
 (rintro ⟨x, cx, Gx⟩ ⟨hxv, hxm, hrx⟩; simp only [] at hxv hxm hrx ⊢; have hlx := hrx.len; have hox := hrx.one)
 refine B6 ?_
 refine tS (tR ?_)
 refine sL (A5 rfl rfl (B5 (by repeat first | exact mH | apply mT)) hlx) rfl rfl ?_
 (refine F4 rfl (B42 x Gx cx hxv hrx) rfl rfl (fun v G3 hle3 hh => ?_); obtain ⟨pr, cr, er, rfl, hrs, hrr⟩ := hh; have hfn := @B43 x; have hfs := @B44 x; obtain ⟨RS, hRS⟩ : ∃ R, P4 (U5 x (C6 x).length) = R := ⟨_, rfl⟩; rw [hRS] at hfn hfs hrs hrr ⊢; have hrl : RS.length ≤ 1 := (by rw [← hRS]; exact A9J _); have hrx3 := hrx.mono hle3)
 refine D7 ?_
 refine sB (qE rfl rfl) rfl rfl (fun h82 => ?_) (fun h82 => ?_)
 refine sD (nS (qT rfl (tS (tR ?_))))
 refine sL (A5 rfl rfl (B5 (by repeat first | exact mH | apply mT)) hlx) rfl rfl ?_
 refine sS rfl rfl rfl hlx hox rfl ?_ (hu := by exact D5 hlx.symm)
 refine sQ (qA rfl) rfl (sD (nS (tT (rS (rB (A2N (rB ?_)))))))
 refine E9 (rC rfl (A5 rfl rfl (B5 (by repeat first | exact mH | apply mT)) hlx)) (rT rfl) ?_
 (rw [hyes rfl, ← hxm, A9H (hfn (by omega))]; exact ⟨rfl, _, rfl, hrx3⟩)
 refine sD (nS (cF rfl (tK (nS (tR (sQ (qM rfl) rfl ?_))))))
 (obtain ⟨y, hfy, rfl⟩ := hfs (by omega); obtain ⟨hmy, hwy⟩ := A9I hxv hfy; have hyv := (A4w hxv hfy).1; obtain ⟨b, o, ey, rfl, hl, hat, hre, hgb⟩ := hrs.kidTm hrr (i := 0) (by simp) (by simp); replace hre : A9 G3 y ey := hre; have hoy := hre.one; refine sP (B4 (j := 0) rfl rfl rfl (by simp)) rfl rfl ?_)
 refine sL (A5 rfl rfl (hat _) hl) rfl rfl ?_
 refine S6 rfl rfl rfl hl hoy rfl (by repeat first | exact Sw.here | apply Sw.there) (by exact D5 (hl.trans hlx.symm).symm) ?_
 refine sD (M9 ?_)
 refine I9 (y, ey, G3) ?_ ?_ ?_
 (simp only [E2]; exact C5)
 (dsimp only; exact ⟨hyv, hmy.symm.trans hxm, hre⟩)
 (exact hwy)
def kl (j : Nat) : List Ty := [.mk 2 [], .mk 3 []] ++ [A1I 4, A1I 5].take j
theorem B46 {j : Nat} (h : j < 2) : kl (j + 1) = kl j ++ [.mk ((4 + j : Nat) : Int) [P0, P0]] := by
 have : j = 0 ∨ j = 1 := by omega
 rcases this with rfl | rfl <;> rfl
theorem B47 {j : Nat} (h : j ≤ 2) : (kl j).length = 2 + j := by
 have : j = 0 ∨ j = 1 ∨ j = 2 := by omega
 rcases this with rfl | rfl | rfl <;> rfl
theorem B48 {d : Int} {ks : List Ty} {j : Nat} (h : (j = 2 ∧ 1 < d) ∨ (j = 0 ∧ ¬ 1 < d)) : O8 d (.mk 1 ks) = kl j := by
 rw [O8, if_pos rfl]
 rcases h with ⟨rfl, h⟩ | ⟨rfl, h⟩
 ·rw [if_pos h]; rfl
 ·rw [if_neg h]; rfl
theorem B49 {d k : Int} {ks : List Ty} {i : Nat} (hi : i < ks.length) : A0e d k (ks.take i) (ks.drop i) = (O8 (d - 1) ks[i]).map (fun x => .mk k (ks.set i x)) ++ A0e d k (ks.take (i + 1)) (ks.drop (i + 1)) := by
 rw [List.drop_eq_getElem_cons hi, A0e, List.take_succ_eq_append_getElem hi]
 congr 1
 apply List.map_congr_left
 intro x _
 rw [List.set_eq_take_append_cons_drop, if_pos hi]
mutual
theorem A6b (d : Int) : ∀ t : Ty, ((O8 d t).length : Int) ≤ 4 * (H4 t + 1)
 | .mk k ks => by
  have h1 := A9M d k [] ks
  have h2 := A0B ks
  rw [O8, H4]
  split
  ·split <;> simp only [List.length_append, List.length_cons, List.length_nil] <;> omega
  ·omega
theorem A9M (d k : Int) : ∀ (pre ks : List Ty), ((A0e d k pre ks).length : Int) ≤ 4 * (ks.length + K9 ks)
 | pre, [] => by simp [A0e, K9]
 | pre, t :: ts => by
  have h1 := A6b (d - 1) t
  have h2 := A9M d k (pre ++ [t]) ts
  rw [A0e, K9, List.length_append, List.length_map, List.length_cons]
  push_cast
  omega
end
theorem B5a : ∀ (t : Ty) (d : Int) (G : IM) (cells : List Value), H4 t ≤ 30 → H4 t - 31 ≤ d → d ≤ 4 → B3 G t cells → Fn Tryz.prog 71 [.agg ⟨cells⟩, .int .i64 d] [] G (S9 (O8 d t)) := by
 refine Ty.ind fun k ks ih d G cells hsz hd0 hd4 hr => ?_
 have hnn := A0B ks
 have hz : H4 (.mk k ks) = ks.length + K9 ks := by rw [H4]
 have hlen := A6b d (.mk k ks)
 have hts := A3W (.mk k ks) (by omega)
 obtain ⟨q, c, es, rfl, hk, hsl, hkl⟩ := hr.open
 simp only [Ty.k, Ty.ks] at hk hsl hkl hr ⊢
 have hn := hsl.le
 have hesl := hkl.len
 have hI : k ≠ 1 → O8 d (.mk k ks) = A0e d k [] ks := fun h => by rw [O8, if_neg h]
 have hI1 : k = 1 → ∀ j : Nat, (j = 2 ∧ 1 < d) ∨ (j = 0 ∧ ¬ 1 < d) → O8 d (.mk k ks) = kl j := fun h j hj => by rw [h]; exact B48 hj
 obtain ⟨R, hR⟩ : ∃ R, O8 d (.mk k ks) = R := ⟨_, rfl⟩
 rw [hR] at hlen hI hI1 ⊢
 refine B7 Tryz.func71 rfl Tryz.ntmps71 Tryz.results71 rfl ?_
 intro w0
 refine tS (tR ?_)
 refine sE (C2 rfl rfl) rfl (fun b3 => ?_)
 refine sQ (qA rfl) rfl (sD (nS (tS (tR ?_))))
 (refine I8 (C3 rfl rfl rfl (by omega) (by unfold maxLen; omega) rfl) rfl ?_; rintro _ ⟨b9, rfl⟩)
 refine D7 ?_
 refine sB (qE rfl rfl) rfl rfl (fun h18 => ?_) (fun h18 => ?_)
 refine sD (nS (qT rfl (tS (tR (sQ (qM rfl) rfl ?_)))))
 refine H2 rfl (A0Y _) rfl rfl ?_
 refine H2 rfl (A2t _) rfl rfl ?_
 (refine I8 (C3 rfl rfl rfl (by omega) (by unfold maxLen; omega) rfl) rfl ?_; rintro _ ⟨b27, rfl⟩)
 (refine W7 rfl rfl rfl rfl rfl (fun _ _ => by repeat (first | exact Sw.here | apply Sw.there)) (N2 (by repeat first | exact mH | apply mT)) rfl (by simp [Value.oneCell']) (by unfold maxLen; omega) (by omega) rfl (fun pz cz => ?_))
 refine D2 ?_
 refine B6 ?_
 (have hk1 : k = 1 := (by assumption); refine J3 (fun (x : Nat × Option Addr × Nat × List Ty × List (List Value) × IM) => ⟨[(6, .int .i64 ((4 + x.1 : Nat) : Int)), (5, .slice x.2.1 x.2.2.2.1.length x.2.2.1), (1, .int .i64 d), (2, .pointer (some ⟨b3, 0, none⟩))], [.slc x.2.1 x.2.2.1 25 2 x.2.2.2.1.length x.2.2.2.2.1.flatten, .blk b3 [.int .i64 k, .slice q ks.length c]], x.2.2.2.2.2⟩) (fun x => x.1 ≤ 2 ∧ (x.1 = 0 ∨ 1 < d) ∧ B1 G x.2.2.2.2.2 ∧ B0 x.2.2.2.2.2 x.2.2.2.1 x.2.2.2.2.1 ∧ x.2.2.2.1 = kl x.1) (fun x => 2 - x.1) (0, pz, cz, [.mk 2 [], .mk 3 []], [[.int .i64 2, .slice none 0 0], [.int .i64 3, .slice none 0 0]], G) ?_ ?_ ?_)
 (simp only [E2]; exact C5)
 (exact ⟨Nat.zero_le _, .inl rfl, B1.refl _, (B0.one1 (L4 _ ⟨by decide, by decide⟩)).snoc (L4 _ ⟨by decide, by decide⟩), rfl⟩)
 (rintro ⟨(j : Nat), pn, cn, us, es', Gi⟩ ⟨hj, hjd, hle, hst, hus⟩; simp only [] at hj hjd hle hst hus ⊢; have hkl := B47 hj; have hul : us.length = 2 + j := (by rw [hus]; exact hkl))
 refine tS (tS (tR (sQ (qM rfl) rfl ?_)))
 refine sB (Z9 rfl rfl) rfl rfl (fun h47 => ?_) (fun h47 => ?_)
 refine sQ (qM rfl) rfl (sQ (qM rfl) rfl ?_)
 refine sB (A0v rfl rfl) rfl rfl (fun h50 => ?_) (fun h50 => ?_)
 refine sQ (O2 rfl rfl) rfl (sD (nS (qT rfl (tK (nS (tS ?_))))))
 refine B6 ?_
 refine tR (sQ (qM rfl) rfl (sQ (qM rfl) rfl ?_))
 refine H2 rfl (A09 _) rfl rfl ?_
 refine H2 rfl (A09 _) rfl rfl ?_
 (refine I8 (C3 rfl rfl rfl (by omega) (by unfold maxLen; omega) rfl) rfl ?_; rintro _ ⟨b64, rfl⟩)
 refine sQ (S0 rfl rfl) rfl ?_
 (refine I8 (C3 rfl rfl rfl (by omega) (by unfold maxLen; omega) rfl) rfl ?_; rintro _ ⟨b66, rfl⟩)
 (refine T8 (cs := [.int .i64 1, .slice none 0 0, .int .i64 1, .slice none 0 0]) (by repeat (first | exact Pk.here | apply Pk.there)) (fun G2 hle2 hsl2 hno2 => ?_); refine W7 rfl rfl rfl rfl rfl (fun _ _ => by repeat (first | exact Sw.here | apply Sw.there)) (N2 (by repeat first | exact mH | apply mT)) rfl (by simp [Value.oneCell']) (by unfold maxLen; omega) (by omega) rfl (fun pz cz => ?_))
 refine I0 ?_
 refine sP (I2 rfl rfl (by omega) (by omega)) rfl rfl ?_
 refine sQ (qA rfl) rfl (sD ?_)
 (have hty := A7T (k := ((4 + j : Nat) : Int)) ⟨by omega, by omega⟩ (A0l _) (A0l _) hsl2; refine I9 (j + 1, pz, cz, us ++ [.mk ((4 + j : Nat) : Int) [P0, P0]], es' ++ [[.int .i64 ((4 + j : Nat) : Int), .slice (some ⟨b64, 0, none⟩) 2 2]], G2) (by simp only [List.length_append, List.length_cons, List.length_nil, E2]; exact (N3 (by repeat (first | exact D4.nil | refine D4.cons rfl ?_)) (by repeat (first | exact A0.refl | exact A0.nil | refine A0.cons (by repeat (first | exact Pk.here | apply Pk.there)) ?_ | apply A0.drop)))) ?_ ?_)
 (dsimp only; exact ⟨by omega, by omega, hle.trans hle2, (hst.mono hle2).snoc hty, by rw [hus]; exact (B46 (by omega)).symm⟩)
 (show 2 - (j + 1) < 2 - j; omega)
 refine T2 ?_
 refine H0 (outs := [.slc pn cn 25 2 us.length es'.flatten]) (rT rfl) (by repeat (first | exact A0.nil | refine A0.cons Pk.here ?_ | refine A0.cons (Pk.there Pk.here) ?_ | refine A0.cons (Pk.there (Pk.there Pk.here)) ?_ | apply A0.drop)) ?_
 (have hRj := hI1 hk1 j (by omega); rw [hRj, ← hus]; exact S9.mk rfl hst)
 refine A0y ?_
 refine H0 (outs := [.slc pn cn 25 2 us.length es'.flatten]) (rT rfl) (by repeat (first | exact A0.nil | refine A0.cons Pk.here ?_ | refine A0.cons (Pk.there Pk.here) ?_ | refine A0.cons (Pk.there (Pk.there Pk.here)) ?_ | apply A0.drop)) ?_
 (have hRj := hI1 hk1 j (by omega); rw [hRj, ← hus]; exact S9.mk rfl hst)
 refine K6 ?_
 refine B6 ?_
 (have hk1 : k ≠ 1 := (by assumption); replace hI := hI hk1; clear hI1; refine J3 (fun (x : Nat × Option Addr × Nat × List Ty × List (List Value) × IM) => ⟨[(7, .int .i64 x.1), (5, .slice x.2.1 x.2.2.2.1.length x.2.2.1), (1, .int .i64 d), (2, .pointer (some ⟨b3, 0, none⟩))], [.slc x.2.1 x.2.2.1 25 2 x.2.2.2.1.length x.2.2.2.2.1.flatten, .blk b3 [.int .i64 k, .slice q ks.length c]], x.2.2.2.2.2⟩) (fun x => x.1 ≤ ks.length ∧ B1 G x.2.2.2.2.2 ∧ B0 x.2.2.2.2.2 x.2.2.2.1 x.2.2.2.2.1 ∧ x.2.2.2.1 ++ A0e d k (ks.take x.1) (ks.drop x.1) = R) (fun x => ks.length - x.1) (0, some ⟨b9, 0, none⟩, 0, [], [], G) ?_ ?_ ?_)
 (simp only [E2]; exact C5)
 (exact ⟨Nat.zero_le _, B1.refl _, by simp [B0], hI.symm⟩)
 (rintro ⟨(i : Nat), pn, cn, us, es', Gi⟩ ⟨hi, hle, hst, hpre⟩; simp only [] at hi hle hst hpre ⊢; replace hsl := hsl.mono hle; replace hkl := hkl.mono hle; have hri := hr.mono hle)
 refine D0 ?_
 refine sB (J6 rfl rfl) rfl rfl (fun h144 => ?_) (fun h144 => ?_)
 refine sD (nS (qT rfl (tK (nS (tS ?_)))))
 refine B6 ?_
 refine R2 ?_
 (have hil : i < ks.length := (by omega); obtain ⟨b0, o0, q0, d0, hp0, hat0, hre0, hg0⟩ := hsl.kidTy hkl (i := i) (by omega) (by omega); subst hp0; have hszi : H4 ks[i] ≤ H4 (.mk k ks) - 1 := (by have := A7H (ts := ks) hil; rw [hz]; omega); refine sP (B4 rfl rfl rfl (by omega)) rfl rfl ?_)
 refine sL (A5 rfl rfl (hat0 _) rfl) rfl rfl ?_
 refine sQ (qM rfl) rfl ?_
 refine sP (O4 rfl rfl (by omega) (by omega)) rfl rfl ?_
 (refine T9 rfl (ih ks[i] (List.getElem_mem (by omega)) (d - 1) Gi _ (by omega) (by omega) (by omega) hre0) rfl rfl (fun v G1 outs hle1 hh => ?_); obtain ⟨pr, cr, er, rfl, rfl, hr1⟩ := hh; have hrl := A6b (d - 1) ks[i]; refine T8 (cs := er.flatten) (by repeat (first | exact Pk.here | apply Pk.there)) (fun G2 hle2 hsl2 hno2 => ?_); have hrs := B9.of hsl2 hr1.len hr1.all (fun e he => (hr1.each e he).2); replace hr1 := hr1.mono hle2; have hle12 := hle1.trans hle2; have hstp := B49 (d := d) (k := k) hil; rw [hstp] at hpre; clear hno2; obtain ⟨RS, hRS⟩ : ∃ R, O8 (d - 1) ks[i] = R := ⟨_, rfl⟩; rw [hRS] at hrl hrs hr1 hpre ⊢)
 refine D7 ?_
 refine B6 ?_
 (refine J3 (fun (x : Nat × Option Addr × Nat × List Ty × List (List Value) × IM) => ⟨[(9, .int .i64 x.1), (8, .slice pr RS.length cr), (7, .int .i64 (i : Int)), (5, .slice x.2.1 x.2.2.2.1.length x.2.2.1), (1, .int .i64 d), (2, .pointer (some ⟨b3, 0, none⟩))], [.slc x.2.1 x.2.2.1 25 2 x.2.2.2.1.length x.2.2.2.2.1.flatten, .blk b3 [.int .i64 k, .slice (some ⟨b0, o0, none⟩) ks.length c]], x.2.2.2.2.2⟩) (fun x => x.1 ≤ RS.length ∧ B1 G2 x.2.2.2.2.2 ∧ B0 x.2.2.2.2.2 x.2.2.2.1 x.2.2.2.2.1 ∧ x.2.2.2.1 ++ ((RS.drop x.1).map (fun y => .mk k (ks.set i y)) ++ A0e d k (ks.take (i + 1)) (ks.drop (i + 1))) = R) (fun x => RS.length - x.1) (0, pn, cn, us, es', G2) ?_ ?_ ?_)
 (simp only [E2]; exact C5)
 (exact ⟨Nat.zero_le _, B1.refl _, hst.mono hle12, by rw [List.drop_zero]; exact hpre⟩)
 (rintro ⟨(j : Nat), pm, cm, vs, fs, Gj⟩ ⟨hj, hlj, hstj, hprej⟩; simp only [] at hj hlj hstj hprej ⊢; have hle2j := hle12.trans hlj; have hvl : vs.length ≤ R.length := (by rw [← hprej]; simp); replace hrs := hrs.mono hlj; replace hr1 := hr1.mono hlj; have hrj := hri.mono hle2j)
 refine I0 ?_
 refine sB (J6 rfl rfl) rfl rfl (fun h181 => ?_) (fun h181 => ?_)
 refine sD (nS (qT rfl (tK (nS (tS ?_)))))
 refine B6 ?_
 refine tS (tR (sL (A2 rfl rfl) rfl rfl ?_))
 (have hjl : j < RS.length := (by omega); refine T9 rfl (A7D k ks Gj _ c hts hrj) rfl rfl (fun v Gc outs hlec hh => ?_); obtain ⟨p1, c1, es1, rfl, rfl, hst1⟩ := hh; have hes1 := hst1.len; refine A1E (p := p1) (cs := es1.flatten) (by repeat (first | exact Pk.here | apply Pk.there)) (by omega) (fun bc Cc hpc hnc hmc => ?_); subst hpc; replace hrs := hrs.mono hlec; replace hr1 := hr1.mono hlec; replace hstj := hstj.mono hlec; replace hlj := hlj.trans hlec; replace hle2j := hle2j.trans hlec; obtain ⟨b1, o1, q1, d1, hp1, hat1, hre1, hg1⟩ := hrs.kidTy hr1 (i := j) (by omega) (by omega); subst hp1; have hdrop := List.drop_eq_getElem_cons hjl; generalize RS[j] = y at hdrop hat1 hre1)
 refine sE (A6 rfl) rfl (fun b193 => ?_)
 refine F9 ?_
 refine sD (nS (tS ?_))
 refine E4 E7 rfl ?_
 refine K2 (i := 0) (l' := [tt,ff,ff,ff,ff,ff,ff,ff,ff]) rfl D6 (B8 rfl) rfl (by kernel_rfl) rfl rfl ?_
 refine aL 1 rfl (C7 rfl rfl) rfl ?_
 refine aP 2 rfl (qM rfl) rfl ?_
 refine aP 3 rfl (qM rfl) rfl ?_
 refine aP 4 rfl (qM rfl) rfl ?_
 refine aP 5 rfl (B4 (j := j) rfl rfl rfl (by omega)) rfl ?_
 refine aL 6 rfl (A5 rfl rfl (hat1 _) rfl) rfl ?_
 refine aP 7 rfl (B4 (j := i) rfl rfl rfl (by omega)) rfl ?_
 refine A3 8 ?_
 refine U1 rfl rfl rfl rfl rfl hre1.one rfl rfl (by kernel_rfl) (by repeat first | exact Sw.here | apply Sw.there) (by exact A1F (by omega) (fun e he => (hst1.each e he).1) rfl) ?_
 refine R2 ?_
 (refine I8 (C3 rfl rfl rfl (by omega) (by unfold maxLen; omega) rfl) rfl ?_; rintro _ ⟨b214, rfl⟩)
 (refine A3h (b := bc) (Pk.perm (by repeat (first | exact Pk.here | apply Pk.there))) (fun G7 hle7 hin7 => ?_); refine W7 rfl rfl rfl rfl rfl (fun _ _ => by repeat (first | exact Sw.here | apply Sw.there)) (N2 (by repeat first | exact mH | apply mT)) rfl (by simp [Value.oneCell']) (by unfold maxLen; omega) (by omega) rfl (fun pz cz => ?_))
 refine I0 ?_
 refine sP (I2 rfl rfl (by omega) (by omega)) rfl rfl ?_
 refine sQ (qA rfl) rfl (sD ?_)
 (refine I9 (j + 1, pz, cz, vs ++ [Ty.mk k (ks.set i y)], fs ++ [[.int .i64 k, .slice (some ⟨bc, 0, none⟩) ks.length c1]], G7) (by simp only [List.length_append, List.length_cons, List.length_nil, E2]; exact (N3 (by repeat (first | exact D4.nil | refine D4.cons rfl ?_)) (by repeat (first | exact A0.refl | exact A0.nil | refine A0.cons (by repeat (first | exact Pk.here | apply Pk.there)) ?_ | apply A0.drop)))) ?_ ?_)
 (dsimp only; have hset := (hst1.mono hle7).set i (hre1.mono hle7); have hfl := X6 (sz := 2) (fun e he => (hset.each e he).1); rw [List.length_set, hes1] at hfl; have hS7 := Sl.of_blk (A := []) hfl hnc hmc hin7; have hrT := hset.ty List.length_set hS7 hk; refine ⟨by omega, hlj.trans hle7, (hstj.mono hle7).snoc hrT, ?_⟩; rw [← hprej, hdrop, List.map_cons]; simp only [List.append_assoc, List.cons_append, List.nil_append])
 (show RS.length - (j + 1) < RS.length - j; omega)
 refine K6 ?_
 refine sP (I2 rfl rfl (by omega) (by omega)) rfl rfl ?_
 refine sQ (qA rfl) rfl (sD ?_)
 (obtain rfl : j = RS.length := (by omega); rw [List.drop_length, List.map_nil, List.nil_append] at hprej; refine I9 (i + 1, pm, cm, vs, fs, Gj) ?_ ?_ ?_)
 (simp only [E2]; exact C5)
 (dsimp only; exact ⟨by omega, hle.trans hle2j, hstj, hprej⟩)
 (show ks.length - (i + 1) < ks.length - i; omega)
 refine I4 ?_
 refine H0 (outs := [.slc pn cn 25 2 us.length es'.flatten]) (rT rfl) (by repeat (first | exact A0.nil | refine A0.cons Pk.here ?_ | refine A0.cons (Pk.there Pk.here) ?_ | refine A0.cons (Pk.there (Pk.there Pk.here)) ?_ | apply A0.drop)) ?_
 (obtain rfl : i = ks.length := (by omega); rw [List.drop_length, A0e, List.append_nil] at hpre; rw [← hpre]; exact S9.mk rfl hst)
theorem B5b (t : Ty) (G : IM) (cells : List Value) (hr : B3 G t cells) : Fn Tryz.prog 36 [.agg ⟨cells⟩] [] G (S9 (A0q t)) := by
 have hl := hr.len
 have hv := A1C t G cells hr
 have hm1 := fun h : C9 t = true => (show A0q t = O8 4 t by unfold A0q; rw [if_pos h])
 have hm0 := fun h : C9 t = false => (show A0q t = [] by unfold A0q; rw [if_neg (by rw [h]; decide)])
 have hst := fun h : C9 t = true => B5a t 4 G cells (A0d h).2 (by have := (A0d h).2; omega) (by decide) hr
 refine B7 Tryz.func36 rfl Tryz.ntmps36 Tryz.results36 rfl ?_
 intro w0
 refine tS (tR ?_)
 refine sE (C2 rfl rfl) rfl (fun b3 => ?_)
 refine sQ (qA rfl) rfl (sD (nS (tS (tS (tR ?_)))))
 refine sL (A5 rfl rfl (B5 (by repeat first | exact mH | apply mT)) hl) rfl rfl ?_
 refine H3 rfl (hv) rfl rfl (fun h11 => ?_) (fun h11 => ?_)
 refine sQ (pNt rfl) rfl (sD (nS (cF rfl (tK (nS (tS (tR ?_)))))))
 refine sL (A5 rfl rfl (B5 (by repeat first | exact mH | apply mT)) hl) rfl rfl ?_
 (refine T9 rfl (hst (by assumption)) rfl rfl (fun v G3 outs hle3 hh => ?_); obtain ⟨p3, c3, e3, rfl, rfl, hr3⟩ := hh)
 refine sQ (qA rfl) rfl (sD (nS (tT ?_)))
 refine H0 (outs := [.slc p3 c3 25 2 (O8 4 t).length e3.flatten]) (rT rfl) (A0.cons (by repeat (first | exact Pk.here | apply Pk.there)) A0.nil) ?_
 (rw [hm1 (by assumption)]; exact ⟨p3, c3, e3, rfl, rfl, hr3⟩)
 refine sQ (pNf rfl) rfl (sD (nS (qT rfl (tS (tR ?_)))))
 (refine I8 (C3 rfl rfl rfl (by omega) (by unfold maxLen; omega) rfl) rfl ?_; rintro _ ⟨b34, rfl⟩)
 refine sQ (qA rfl) rfl (sD (nS (tT (rS ?_))))
 refine H0 (rT rfl) (A0.cons Pk.here A0.nil) ?_
 (rw [hm0 (by assumption)]; exact ⟨_, _, [], rfl, rfl, by simp [B0]⟩)
theorem A9N (e : Tm) : ∀ (k m : Nat), ∃ r, U5 e (m + k) = U5 e m ++ r
 | 0, m => ⟨[], by simp⟩
 | k + 1, m => by
  obtain ⟨r, hr⟩ := A9N e k m
  exact ⟨r ++ A1x e (m + k), by rw [← Nat.add_assoc, A56, hr, List.append_assoc]⟩
theorem A9O {l : List Tm} (h : P4 l = []) : l.find? Y0 = none := by
 unfold P4 at h
 cases hf : l.find? Y0 with
 | none => rfl
 | some y => rw [hf] at h; cases h
theorem B5c {e x : Tm} {f : Ty → Tm} {RS : List Ty} {i j : Nat} (hi : i < (C6 e).length) (hj : j < RS.length) (hc : U5 e (i + 1) = U5 e i ++ RS.map f) (h : P4 (U5 e i ++ (RS.take j).map f) = []) (hx : f RS[j] = x) (ht : (P3 x).isSome = true) : A0f e = some x := by
 obtain ⟨r, hr⟩ := A9N e ((C6 e).length - (i + 1)) (i + 1)
 rw [show i + 1 + ((C6 e).length - (i + 1)) = (C6 e).length from by omega] at hr
 unfold A0f
 have hs : RS.map f = (RS.take j).map f ++ (x :: (RS.drop (j + 1)).map f) := by
  conv => lhs; rw [← List.take_append_drop j RS, List.drop_eq_getElem_cons hj]
  rw [List.map_append, List.map_cons, hx]
 have hxt : Y0 x = true := ht
 rw [hr, hc, hs, List.find?_append, ← List.append_assoc, List.find?_append, A9O h, List.find?_cons, hxt]
 rfl
theorem B5d (e : Tm) (G : IM) (cells : List Value) (hv : M3 e = true) (hr : A9 G e cells) : Fn Tryz.prog 15 [.agg ⟨cells⟩] [] G (TmB (A0f e)) := by
 have hlen9 := hr.len
 have hone9 := hr.one
 have hsm := (A2J hv).1
 have hcnt : E0 e ≤ 4000000 := by have := ((Y9 e).1 hv).2; omega
 have hts0 := fun u hu => A3y hv (u := u) hu
 have hTy := A4t e G cells hsm hcnt hr
 rw [A5W hv] at hTy
 have hLb := A2w e
 have hfat := fun x f RS i j => @B5c e x f RS i j
 have hfin : P4 (U5 e (C6 e).length) = [] → A0f e = none := fun h => A9O h
 obtain ⟨L, hL⟩ : ∃ L, C6 e = L := ⟨_, rfl⟩
 rw [hL] at hTy hLb hts0 hfat hfin
 have hvw := fun (l : List Ty) => A58 (e := e) hv (l := l)
 rw [hL] at hvw
 have hwc := fun (l : List Ty) (h : M3 (M6 e l) = true) => ((Y9 _).1 h).2
 have hwy := fun (l : List Ty) (h1 : l.length = L.length) (h2 : ∀ u ∈ l, C9 u = true) => @A9p e l hv (by rw [A5W hv, hL, h1]) (fun j hj h => h2 _ (List.getElem_mem h))
 generalize A0f e = R at hfat hfin ⊢
 refine B7 Tryz.func15 rfl Tryz.ntmps15 Tryz.results15 rfl ?_
 intro w0
 refine tS (tR ?_)
 refine sE (C2 rfl rfl) rfl (fun b3 => ?_)
 refine sE (A6 rfl) rfl (fun b4 => ?_)
 refine sQ (qA rfl) rfl (sD (nS (tS (tR ?_))))
 refine sL (A5 rfl rfl (B5 (by repeat first | exact mH | apply mT)) hlen9) rfl rfl ?_
 (refine T9 rfl hTy rfl rfl (fun v G1 outs hle1 hh => ?_); obtain ⟨pl, cl, el, rfl, rfl, hr1⟩ := hh; have hell := hr1.len; refine T8 (cs := el.flatten) (by repeat (first | exact Pk.here | apply Pk.there)) (fun G2 hle2 hsl2 hno2 => ?_); have hls := B9.of hsl2 hr1.len hr1.all (fun e he => (hr1.each e he).2); replace hr1 := hr1.mono hle2; have hr2 := hr.mono (hle1.trans hle2); clear hno2)
 refine D2 ?_
 refine B6 ?_
 (refine J3 (fun (x : Nat × IM) => ⟨[(5, .int .i64 x.1), (4, .slice pl L.length cl), (3, .bool false), (2, .pointer (some ⟨b4, 0, none⟩)), (1, .pointer (some ⟨b3, 0, none⟩))], [.blk b3 cells, .blk b4 [.int .i64 0, .string ⟨⟨[]⟩⟩, .int .i64 0, .int .i64 0, .slice none 0 0, .int .i64 0, .slice none 0 0, .int .i64 0, .slice none 0 0]], x.2⟩) (fun x => x.1 ≤ L.length ∧ B1 G2 x.2 ∧ P4 (U5 e x.1) = []) (fun x => L.length - x.1) (0, G2) ?_ ?_ ?_)
 (simp only [E2]; exact C5)
 (exact ⟨Nat.zero_le _, B1.refl _, rfl⟩)
 (rintro ⟨(i : Nat), Gi⟩ ⟨hi, hle, hos⟩; simp only [] at hi hle hos ⊢; have hlsi := hls.mono hle; have hr1i := hr1.mono hle; have hr2i := hr2.mono hle)
 refine I0 ?_
 refine sB (J6 rfl rfl) rfl rfl (fun h32 => ?_) (fun h32 => ?_)
 refine sD (nS (qT rfl (tK (nS (tS ?_)))))
 refine B6 ?_
 refine tS (tR (sQ (qM rfl) rfl (sQ (qM rfl) rfl ?_)))
 (have hil : i < L.length := (by omega); obtain ⟨b0, o0, q0, d0, hp0, hat0, hre0, hg0⟩ := hlsi.kidTy hr1i (i := i) (by omega) (by omega); subst hp0; refine sP (B4 rfl rfl rfl (by omega)) rfl rfl ?_)
 refine sL (A5 rfl rfl (hat0 _) rfl) rfl rfl ?_
 (have htv := hts0 L[i] (List.getElem_mem (by omega)); refine T9 rfl (B5b L[i] Gi _ hre0) rfl rfl (fun v G3 outs hle3 hh => ?_); obtain ⟨pr, cr, er, rfl, rfl, hrr⟩ := hh; have hmr : A0q L[i] = O8 4 L[i] := (by unfold A0q; rw [if_pos htv]); rw [hmr] at hrr ⊢; have hcd := A56 e i; have hct : A1x e i = (O8 4 L[i]).map (fun x => M6 e (L.set i x)) := (by unfold A1x; rw [hL, List.getD_eq_getElem?_getD, List.getElem?_eq_getElem hil]; rfl); rw [hct] at hcd; have hrok := fun x (hx : x ∈ O8 4 L[i]) => (A4v htv hx).1; have hrl : (O8 4 L[i]).length ≤ 1000 := (by have h1 := A2y L[i]; have h2 := (A0d htv).2; have h3 : (O8 4 L[i]).length ≤ (Q3 L[i]).length := (by rw [← A39 htv]; exact List.length_filter_le ..); omega); obtain ⟨RS, hRS⟩ : ∃ R, O8 4 L[i] = R := ⟨_, rfl⟩; rw [hRS] at hrr hcd hrok hrl ⊢; refine T8 (cs := er.flatten) (by repeat (first | exact Pk.here | apply Pk.there)) (fun G4 hle4 hsl4 hno4 => ?_); have hrs := B9.of hsl4 hrr.len hrr.all (fun e he => (hrr.each e he).2); replace hrr := hrr.mono hle4; clear hno4; have hle23 := hle.trans (hle3.trans hle4))
 refine D7 ?_
 refine B6 ?_
 (refine J3 (fun (x : Nat × IM) => ⟨[(7, .int .i64 x.1), (6, .slice pr RS.length cr), (5, .int .i64 (i : Int)), (4, .slice (some ⟨b0, o0, none⟩) L.length cl), (3, .bool false), (2, .pointer (some ⟨b4, 0, none⟩)), (1, .pointer (some ⟨b3, 0, none⟩))], [.blk b3 cells, .blk b4 [.int .i64 0, .string ⟨⟨[]⟩⟩, .int .i64 0, .int .i64 0, .slice none 0 0, .int .i64 0, .slice none 0 0, .int .i64 0, .slice none 0 0]], x.2⟩) (fun x => x.1 ≤ RS.length ∧ B1 G4 x.2 ∧ P4 (U5 e i ++ (RS.take x.1).map (fun x => M6 e (L.set i x))) = []) (fun x => RS.length - x.1) (0, G4) ?_ ?_ ?_)
 (simp only [E2]; exact C5)
 (exact ⟨Nat.zero_le _, B1.refl _, by simpa using hos⟩)
 (rintro ⟨(j : Nat), Gj⟩ ⟨hj, hlj, hosj⟩; simp only [] at hj hlj hosj ⊢; have hle2j := hle23.trans hlj; have hlsj := hls.mono hle2j; have hr1j := hr1.mono hle2j; have hr2j := hr2.mono hle2j; have hrsj := hrs.mono hlj; have hrrj := hrr.mono hlj)
 refine I0 ?_
 refine sB (J6 rfl rfl) rfl rfl (fun h66 => ?_) (fun h66 => ?_)
 refine sD (nS (qT rfl (tK (nS (tS ?_)))))
 refine B6 ?_
 refine tS (tR ?_)
 (refine I8 (C3 rfl rfl rfl (by omega) (by unfold maxLen; omega) rfl) rfl ?_; rintro _ ⟨b76, rfl⟩)
 refine sQ (qM rfl) rfl ?_
 (have hjl : j < RS.length := (by omega); obtain ⟨b1, o1, q1, d1, hp1, hat1, hre1, hg1⟩ := hrsj.kidTy hrrj (i := j) (by omega) (by omega); subst hp1; have hyv := hrok _ (List.getElem_mem hjl); have htk := List.take_succ_eq_append_getElem hjl; obtain ⟨y, hy⟩ : ∃ y, y = RS[j] := ⟨_, rfl⟩; rw [← hy] at htk hat1 hre1 hyv; refine A3X rfl rfl rfl rfl rfl (fun _ _ => by repeat (first | exact Sw.here | apply Sw.there)) hlsj.sl hr1j.ones (Nat.zero_le _) (by unfold maxLen; omega) (by omega) rfl (fun p4 c4 => ?_); simp only [Nat.zero_add, List.nil_append]; refine A1E (cs := el.flatten) (by repeat (first | exact Pk.here | apply Pk.there)) (by omega) (fun bc Cc hpe hnc hmc => ?_); subst hpe)
 refine D2 ?_
 refine sP (B4 (j := j) rfl rfl rfl (by omega)) rfl rfl ?_
 refine sL (A5 rfl rfl (hat1 _) rfl) rfl rfl ?_
 refine sP (B4 (j := i) rfl rfl rfl (by omega)) rfl rfl ?_
 refine S6 rfl rfl rfl rfl hre1.one rfl (by repeat first | exact Sw.here | apply Sw.there) (by exact A1F (by omega) (fun e he => (hlsj.all e he)) rfl) ?_
 refine sD (nS (tS (tR ?_)))
 refine sL (A5 rfl rfl (B5 (by repeat first | exact mH | apply mT)) hlen9) rfl rfl ?_
 refine sQ (qM rfl) rfl ?_
 (refine A3h (b := bc) (Pk.perm (by repeat (first | exact Pk.here | apply Pk.there))) (fun G7 hle7 hin7 => ?_); have hset := (hr1j.mono hle7).set i (hre1.mono hle7); have hfl := X6 (sz := 2) (fun e he => (hset.each e he).1); rw [List.length_set, hell] at hfl; have hS7 := B9.of (Sl.of_blk (A := []) hfl hnc hmc hin7) (by rw [List.length_set, hell]) (fun e he => (hset.each e he).1) (fun e he => (hset.each e he).2); have hvs : ∀ u ∈ L.set i y, C9 u = true := (fun u hu => (by rcases List.mem_or_eq_of_mem_set hu with hu | hu; exact hts0 u hu; rw [hu]; exact hyv)); have hxv := hvw (L.set i y) List.length_set hvs; have hRy := A9q e (L.set i y) G7 cells (some ⟨bc, 0, none⟩) c4 _ hsm hcnt (by rw [List.length_set]; omega) (fun u hu => (A0d (hvs u hu)).1.small) (hr2j.mono hle7) (by rw [List.length_set]; exact hS7) hset; rw [List.length_set, hwy _ List.length_set hvs] at hRy; refine F4 rfl hRy rfl rfl (fun v G8 hle8 hh => ?_); obtain ⟨cu, hve, hru⟩ := hh; replace hve : v = .tuple ⟨[.agg ⟨cu⟩, .bool true]⟩ := hve; subst hve; obtain ⟨x, hx⟩ : ∃ x, M6 e (L.set i y) = x := ⟨_, rfl⟩; replace hru : A9 G8 (M6 e (L.set i y)) cu := hru; have hmap : (RS.take (j + 1)).map (fun x => M6 e (L.set i x)) = (RS.take j).map (fun x => M6 e (L.set i x)) ++ [x] := (by rw [htk, List.map_append, List.map_singleton, hx]); rw [hx] at hru hxv; have hul := hru.len; have huo := hru.one; clear hRy hset hS7; replace hlj := hlj.trans (hle7.trans hle8))
 refine J0 ?_
 refine sE (A6 rfl) rfl (fun b102 => ?_)
 refine S6 rfl rfl rfl (by assumption) (by assumption) rfl (by repeat first | exact Sw.here | apply Sw.there) (by exact D5 (by symm; assumption)) ?_
 refine sQ (qA rfl) rfl (sD (nS (tS (tR ?_))))
 refine sL (A5 rfl rfl (B5 (by repeat first | exact mH | apply mT)) hul) rfl rfl ?_
 (refine F4 rfl (A9o x _ cu (by have := ((Y9 _).1 hxv).2; omega) hru) rfl rfl (fun v9 G9 hle9 hh => ?_); obtain ⟨ct, u, rfl, hrt, _⟩ := hh; obtain ⟨qt, dt, et2, rfl, _⟩ := hrt.open; have hru9 := hru.mono hle9; replace hlj := hlj.trans hle9; obtain ⟨A1, hA1⟩ : ∃ A, (P3 x).isSome = A := ⟨_, rfl⟩; rw [hA1]; cases A1)
 refine J0 ?_
 refine sE (A6 rfl) rfl (fun b114 => ?_)
 refine I4 ?_
 refine sP (I2 rfl rfl (by omega) (by omega)) rfl rfl ?_
 refine sQ (qA rfl) rfl (sD ?_)
 (have hy0 := A6a hmap hosj.symm (.inl hA1); refine I9 (j + 1, G9) ?_ ?_ ?_)
 (simp only [E2]; exact C5)
 (dsimp only; exact ⟨by omega, hlj, hy0.symm⟩)
 (show RS.length - (j + 1) < RS.length - j; omega)
 refine J0 ?_
 refine sE (A6 rfl) rfl (fun b140 => ?_)
 refine N8 ?_
 refine sL (A5 rfl rfl (B5 (by repeat first | exact mH | apply mT)) hul) rfl rfl ?_
 refine S6 rfl rfl rfl (by assumption) (by assumption) rfl (by repeat first | exact Sw.here | apply Sw.there) (by exact D5 (by symm; assumption)) ?_
 refine L7 ?_
 (have hfx := hfat x (fun x => M6 e (L.set i x)) RS i j hil hjl hcd hosj (by rw [← hx, hy]) hA1; refine E9 (rC rfl (A5 rfl rfl (B5 (by repeat first | exact mH | apply mT)) hul)) (rT rfl) ?_)
 (rw [hfx]; exact ⟨rfl, _, rfl, hru9⟩)
 refine K6 ?_
 refine sP (I2 rfl rfl (by omega) (by omega)) rfl rfl ?_
 refine sQ (qA rfl) rfl (sD ?_)
 (obtain rfl : j = RS.length := (by omega); rw [List.take_length, ← hcd] at hosj; refine I9 (i + 1, Gj) ?_ ?_ ?_)
 (simp only [E2]; exact C5)
 (dsimp only; exact ⟨by omega, hle23.trans hlj, hosj⟩)
 (show L.length - (i + 1) < L.length - i; omega)
 refine K8 ?_
 refine E9 (rC rfl (A2 rfl rfl)) (rT rfl) ?_
 (obtain rfl : i = L.length := (by omega); rw [hfin hos]; exact ⟨rfl, _, rfl, O3 _⟩)
theorem B5e (e : Tm) (G : IM) (cells : List Value) (hcnt : E0 e ≤ 4294967296) (hr : A9 G e cells) : Fn Tryz.prog 6 [.agg ⟨cells⟩] [] G (TmB (A01 e)) := by
 have hlen9 := hr.len
 have hone9 := hr.one
 have hno := @A9K e
 have hyes := @A9L e
 have htv := @A5X e
 generalize A01 e = R at hno hyes ⊢
 refine B7 Tryz.func6 rfl Tryz.ntmps6 Tryz.results6 rfl ?_
 intro w0
 refine tS (tR ?_)
 refine sE (C2 rfl rfl) rfl (fun b3 => ?_)
 refine sE (A6 rfl) rfl (fun b4 => ?_)
 refine sQ (qA rfl) rfl (sD (nS (tS (tR ?_))))
 refine sL (A5 rfl rfl (B5 (by repeat first | exact mH | apply mT)) hlen9) rfl rfl ?_
 (refine F4 rfl (A9o e G cells hcnt hr) rfl rfl (fun v1 G1 hle1 hh => ?_); obtain ⟨ct, u, rfl, hru, _⟩ := hh; obtain ⟨qt, dt, et2, rfl, _⟩ := hru.open; have hr1 := hr.mono hle1; obtain ⟨A1, hA1⟩ : ∃ A, (P3 e).isSome = A := ⟨_, rfl⟩; rw [hA1] at hno hyes htv; rw [hA1]; cases A1)
 refine J0 ?_
 refine sE (A6 rfl) rfl (fun b15 => ?_)
 refine A0h ?_
 refine E9 (rC rfl (A2 rfl rfl)) (rT rfl) ?_
 (rw [hno rfl]; exact ⟨rfl, _, rfl, O3 _⟩)
 refine J0 ?_
 refine sE (A6 rfl) rfl (fun b42 => ?_)
 refine K8 ?_
 refine sL (A5 rfl rfl (B5 (by repeat first | exact mH | apply mT)) hlen9) rfl rfl ?_
 (have hev := htv rfl; refine F4 rfl (A69 e G1 cells (A2J hev).1 hr1) rfl rfl (fun v G2 hle2 hh => ?_); obtain ⟨cs1, F1, rfl, hs1, hn1⟩ := hh; have hr2 := hs1.R.mono (C1.le _ _); have hl2 := hr2.len; have huo := hr2.one)
 refine S6 rfl rfl rfl hl2 huo rfl (by repeat first | exact Sw.here | apply Sw.there) (by exact D5 (hl2.trans hlen9.symm).symm) ?_
 refine sD (nS ?_)
 refine B6 ?_
 (refine J3 (fun (x : Tm × List Value × IM) => ⟨[(3, .bool false), (1, .pointer (some ⟨b3, 0, none⟩)), (2, .pointer (some ⟨b4, 0, none⟩))], [.blk b3 x.2.1, .blk b4 [.int .i64 0, .string ⟨⟨[]⟩⟩, .int .i64 0, .int .i64 0, .slice none 0 0, .int .i64 0, .slice none 0 0, .int .i64 0, .slice none 0 0]], x.2.2⟩) (fun x => M3 x.1 = true ∧ A0u x.1 = A0u e ∧ A9 x.2.2 x.1 x.2.1) (fun x => wtB x.1) (e, cs1, G2) ?_ ?_ ?_)
 (simp only [E2]; exact C5)
 (exact ⟨hev, rfl, hr2⟩)
 (rintro ⟨x, cx, Gx⟩ ⟨hxv, hxm, hrx⟩; simp only [] at hxv hxm hrx ⊢; have hlx := hrx.len; have hox := hrx.one)
 refine B6 ?_
 refine tS (tR ?_)
 refine sL (A5 rfl rfl (B5 (by repeat first | exact mH | apply mT)) hlx) rfl rfl ?_
 (refine F4 rfl (B5d x Gx cx hxv hrx) rfl rfl (fun v G3 hle3 hh => ?_); rcases hF : A0f x with _ | y <;> rw [hF] at hh <;> (obtain ⟨cu, hve, hru⟩ := hh; (first | replace hve : v = .tuple ⟨[.agg ⟨cu⟩, .bool false]⟩ := hve | replace hve : v = .tuple ⟨[.agg ⟨cu⟩, .bool true]⟩ := hve); subst hve; (first | replace hru : A9 G3 J4 cu := hru | replace hru : A9 G3 y cu := hru); have hul := hru.len; have huo := hru.one; have hrx3 := hrx.mono hle3))
 refine J0 ?_
 refine sE (A6 rfl) rfl (fun b77 => ?_)
 refine S6 rfl rfl rfl (by assumption) (by assumption) rfl (by repeat first | exact Sw.here | apply Sw.there) (by exact D5 (by symm; assumption)) ?_
 refine L7 ?_
 refine sL (A5 rfl rfl (B5 (by repeat first | exact mH | apply mT)) hlx) rfl rfl ?_
 refine sS rfl rfl rfl hlx hox rfl ?_ (hu := by exact D5 hlx.symm)
 refine sQ (qA rfl) rfl (sD (nS (tT (rS (rB (A2N (rB ?_)))))))
 refine E9 (rC rfl (A5 rfl rfl (B5 (by repeat first | exact mH | apply mT)) hlx)) (rT rfl) ?_
 (rw [hyes rfl, ← hxm, A9H hF]; exact ⟨rfl, _, rfl, hrx3⟩)
 refine J0 ?_
 refine sE (A6 rfl) rfl (fun b107 => ?_)
 refine S6 rfl rfl rfl (by assumption) (by assumption) rfl (by repeat first | exact Sw.here | apply Sw.there) (by exact D5 (by symm; assumption)) ?_
 refine M1 ?_
 refine sL (A5 rfl rfl (B5 (by repeat first | exact mH | apply mT)) hul) rfl rfl ?_
 refine S6 rfl rfl rfl hul huo rfl (by repeat first | exact Sw.here | apply Sw.there) (by exact D5 (hul.trans hlx.symm).symm) ?_
 refine sD (M9 ?_)
 (obtain ⟨hmy, hwy⟩ := A9I hxv hF; have hyv := (A4w hxv hF).1; refine I9 (y, cu, G3) ?_ ?_ ?_)
 (simp only [E2]; exact C5)
 (dsimp only; exact ⟨hyv, hmy.symm.trans hxm, hru⟩)
 (exact hwy)
theorem A9P : ∀ (n k : Nat) (e : Tm), (J2 n e).2.1 ≠ 5 → (J2 (n + k) e).1 = (J2 n e).1 ∧ (J2 (n + k) e).2.1 = (J2 n e).2.1 ∧ (J2 (n + k) e).2.2.1 = (J2 n e).2.2.1
 | 0, k, e, h => by
  rw [J2] at h
  by_cases hs : (E3 e).2.1 = 1
  ·rw [if_pos hs] at h; exact absurd rfl h
  ·cases k with
   | zero => exact ⟨rfl, rfl, rfl⟩
   | succ k =>
    rw [Nat.zero_add, J2, J2, if_neg hs, if_neg hs]
    exact ⟨rfl, rfl, rfl⟩
 | n + 1, k, e, h => by
  rw [show n + 1 + k = (n + k) + 1 from by omega]
  rw [J2] at h
  rw [J2, J2]
  by_cases hs : (E3 e).2.1 = 1
  ·rw [if_pos hs] at h
   rw [if_pos hs, if_pos hs]
   exact A9P n k _ h
  ·rw [if_neg hs, if_neg hs]
   exact ⟨rfl, rfl, rfl⟩
theorem B5f {e : Tm} {f g : Int} (hf : 0 ≤ f) (hfg : f ≤ g) (hg : g ≤ 300) (h0 : (Q1 e f).2.1 = 0) : Q1 e g = Q1 e f := by
 cases hu : V4 e with
 | none => rw [A5R hu] at h0; cases h0
 | some p =>
  obtain ⟨u, t⟩ := p
  by_cases he : (Q6 u f).2.1 = 0
  ·have h1 : (Q6 u g).1 = (Q6 u f).1 ∧ (Q6 u g).2.1 = (Q6 u f).2.1 := by
    unfold Q6 at he ⊢
    rw [if_pos ⟨hf, by omega⟩] at he
    rw [if_pos (⟨by omega, hg⟩ : 0 ≤ g ∧ g ≤ 300), if_pos (⟨hf, by omega⟩ : 0 ≤ f ∧ f ≤ 300)]
    have he' : (J2 f.toNat u).2.1 = 0 := he
    obtain ⟨g1, g2, _⟩ := A9P f.toNat (g.toNat - f.toNat) u (by omega)
    rw [show f.toNat + (g.toNat - f.toNat) = g.toNat from by omega] at g1 g2
    exact ⟨g1, g2⟩
   rw [A3s hu he, A3s hu (by rw [h1.2]; exact he), h1.1]
  ·rw [A3t hu he] at h0; exact absurd h0 he
theorem B5g {e : Tm} (ht : (P3 e).isSome = true) (h0 : (Q1 (A0u e) 150).2.1 = 0) :
  (Q1 e 300).2.1 = 4 ∨ (Q1 e 300).2.1 = 5 ∨ ((Q1 e 300).2.1 = 0 ∧ (Q1 (A0u e) 150).1 = (Q1 e 300).1) := by
 have h1 := B5f (f := 150) (g := 300) (by decide) (by decide) (by decide) h0
 rw [← h1] at h0 ⊢
 obtain ⟨_, h2⟩ := A59 (wtB e) e (A5X ht) ht
 rcases B4j h2 (by decide) h0 with ⟨g, g2⟩ | g | g
 ·exact .inr (.inr ⟨g, g2.symm⟩)
 ·exact .inl g
 ·exact .inr (.inl g)
def B5X (G : IM) : IM → Value → List A4 → Prop := L5 fun G' v => ∃ a ca b cb f, v = .tuple ⟨[.agg ⟨ca⟩, .agg ⟨cb⟩, .int .i64 f]⟩ ∧ A9 G' a ca ∧ a.fit 1100 ∧ A9 G' b cb ∧ b.fit 1100 ∧ D9 f
def B5Y (G : IM) : IM → Value → List A4 → Prop := L5 fun G' v => ∃ a ca b cb d cd, v = .tuple ⟨[.agg ⟨ca⟩, .agg ⟨cb⟩, .agg ⟨cd⟩]⟩ ∧ A9 G' a ca ∧ a.fit 1100 ∧ A9 G' b cb ∧ b.fit 1100 ∧ A9 G' d cd ∧ d.fit 1100
def B5Z (N : Nat) (G : IM) : IM → Value → List A4 → Prop := L5 fun G' v => ∃ a ca f, v = .tuple ⟨[.agg ⟨ca⟩, .int .i64 f]⟩ ∧ A9 G' a ca ∧ a.fit N ∧ D9 f
theorem B5h (G : IM) {n : Int} (h : D9 n) : A9 G (.mk 2 ⟨⟨[]⟩⟩ n (.mk 0 []) (.mk 0 []) 0 []) [.int .i64 2, .string ⟨⟨[]⟩⟩, .int .i64 n, .int .i64 0, .slice none 0 0, .int .i64 0, .slice none 0 0, .int .i64 0, .slice none 0 0] := by
 have h0 : B3 G (.mk 0 []) [.int .i64 0, .slice none 0 0] := by simp only [B3]; exact ⟨none, 0, [], rfl, ⟨by decide, by decide⟩, B9.nil G 2, by simp [B0]⟩
 simp only [A9]
 exact ⟨_, _, none, 0, [], rfl, ⟨by decide, by decide⟩, h, ⟨by decide, by decide⟩, h0, h0, B9.nil G 9, by simp [C8]⟩
theorem B5i (n : Int) : (Tm.mk 2 ⟨⟨[]⟩⟩ n (.mk 0 []) (.mk 0 []) 0 []).fit 30 := by
 refine ⟨?_, ?_⟩
 ·simp [Tm.small, Tm.smallL, Ty.small, Ty.smallL, ByteArray.size]
 ·rw [A1s]; simp [H1]
theorem B5j (br : Nat) (pb : Option Addr) (nb cb : Nat) (bs : List UInt8) (hnb : nb ≤ 2000) (p : Nat) (G : IM) (hb : Sl G pb nb cb 1 (O0 bs)) (hp : p + 9000000 < 1099511627776) :
  Fn Tryz.prog 24 [.pointer (some ⟨br, 0, none⟩)] [rd br pb nb cb p] G
   (A05 br pb nb cb p 9000000 (fun G' v => ∃ e cells, v = .agg ⟨cells⟩ ∧ A9 G' e cells ∧ e.fit 2000000)) := by
 have hm8 : mB 8 = 1968200 := by decide
 refine B7 Tryz.func24 rfl Tryz.ntmps24 Tryz.results24 rfl ?_
 intro w0
 refine tS (tR ?_)
 refine sE (A6 rfl) rfl (fun b3 => ?_)
 refine sD (nS (tS (tS (tR (sQ (qA rfl) rfl (sD (nS ?_)))))))
 refine B6 ?_
 (refine J3 (fun (x : Nat × Nat × IM) => ⟨[(3, .int .i64 x.1), (0, .pointer (some ⟨br, 0, none⟩)), (2, .pointer (some ⟨b3, 0, none⟩))], [rd br pb nb cb x.2.1, .blk b3 [.int .i64 0, .string ⟨⟨[]⟩⟩, .int .i64 0, .int .i64 0, .slice none 0 0, .int .i64 0, .slice none 0 0, .int .i64 0, .slice none 0 0]], x.2.2⟩) (fun x => x.1 ≤ 4 ∧ B1 G x.2.2 ∧ p ≤ x.2.1 ∧ x.2.1 ≤ p + x.1 * 2000000) (fun x => 4 - x.1) (0, p, G) ?_ ?_ ?_)
 (simp only [E2]; exact C5)
 (exact ⟨by omega, B1.refl _, Nat.le_refl _, by dsimp only; omega⟩)
 (rintro ⟨(i : Nat), (p1 : Nat), G1⟩ ⟨hi, hleL, hpL, hpL2⟩; simp only [] at hi hleL hpL hpL2 ⊢; replace hb := hb.mono hleL)
 refine tS (tS (tR (sQ (qM rfl) rfl ?_)))
 refine sB (J6 rfl rfl) rfl rfl (fun h21 => ?_) (fun h21 => ?_)
 refine sD (nS (qT rfl (tK (nS (tS ?_)))))
 refine B6 ?_
 refine R2 ?_
 (refine I8 (C3 rfl rfl rfl (by omega) (by unfold maxLen; omega) rfl) rfl ?_; rintro _ ⟨b34, rfl⟩)
 (refine T8 (by repeat (first | exact Pk.here | apply Pk.there)) (fun Gf hlef hslf _ => ?_); refine L3 rfl (A1q Gf br pb nb cb (p1) bs _ _ _ _ (hb.mono hlef) hnb (by omega) hslf (by decide)) (Pk.perm (by repeat (first | exact Pk.here | apply Pk.there))) rfl rfl (fun v Gm outs hlen hh => ?_); obtain ⟨rfl, rfl, hv⟩ := hh; replace hb := hb.mono hlef; obtain ⟨dd, rfl, hdd⟩ : ∃ d : Nat, v = .int .i64 ((d + 1 : Nat) : Int) ∧ d ≤ 1 := (by simp only [List.mem_cons, List.not_mem_nil, or_false] at hv; rcases hv with rfl | rfl <;> first | exact ⟨0, rfl, by decide⟩ | exact ⟨1, rfl, by decide⟩); have hdB := B1H (Nat.le_succ_of_le hdd); replace hleL := hleL.trans hlef)
 (have hcall := A31 br pb nb cb bs hnb dd (p1 + 1) _ (by omega) hb (by omega); refine L3 rfl hcall (Pk.perm (by repeat (first | exact Pk.here | apply Pk.there))) rfl rfl (fun v Gn outs hleD hh => ?_); obtain ⟨pD, hpD1, hpD2, rfl, uD, cD, rfl, hrD, hsD, haD⟩ := hh; obtain ⟨qD, dD, eD, rfl, _⟩ := hrD.open; replace hb := hb.mono hleD; replace hleL := hleL.trans hleD)
 refine sQ (qM rfl) rfl ?_
 (refine I8 (C3 rfl rfl rfl (by omega) (by unfold maxLen; omega) rfl) rfl ?_; rintro _ ⟨b38, rfl⟩)
 (refine T8 (by repeat (first | exact Pk.here | apply Pk.there)) (fun Gf hlef hslf _ => ?_); refine L3 rfl (A1q Gf br pb nb cb (pD) bs _ _ _ _ (hb.mono hlef) hnb (by omega) hslf (by decide)) (Pk.perm (by repeat (first | exact Pk.here | apply Pk.there))) rfl rfl (fun v Gm outs hlen hh => ?_); obtain ⟨rfl, rfl, hv⟩ := hh; replace hb := hb.mono hlef; replace hleL := hleL.trans hlef; replace hrD := hrD.mono hlef; obtain ⟨dp, rfl, hdp1, hdp2⟩ : ∃ d : Int, v = .int .i64 d ∧ 2 ≤ d ∧ d ≤ 4 := (by simp only [List.mem_cons, List.not_mem_nil, or_false] at hv; rcases hv with rfl | rfl | rfl | rfl <;> exact ⟨_, rfl, by decide, by decide⟩))
 (have hcall := B4n br pb nb cb bs hnb 8 dp uD (pD + 1) _ none 0 0 _ ⟨haD.le (by omega), by omega, by omega, .inr ⟨by omega, by omega⟩⟩ (by omega) (by omega) (by omega) (V9.nil _) hrD hb (by omega); refine L3 rfl hcall (Pk.perm (by repeat (first | exact Pk.here | apply Pk.there))) rfl rfl (fun v Gn outs hleM hh => ?_); obtain ⟨pM, hpM1, hpM2, rfl, eM, cM, rfl, hrM, hsmM, hcM⟩ := hh; have hlM := hrM.len; have hoM := hrM.one; replace hb := hb.mono hleM; replace hleL := hleL.trans hleM)
 refine sE (A6 rfl) rfl (fun b41 => ?_)
 refine S6 rfl rfl rfl hlM hoM rfl (by repeat first | exact Sw.here | apply Sw.there) (by exact D5 (by first | exact hlM.symm | omega)) ?_
 refine sD (nS (tS (tR ?_)))
 refine sL (A5 rfl rfl (B5 (by repeat first | exact mH | apply mT)) hlM) rfl rfl ?_
 (refine F4 rfl (B4L eM _ _ hsmM (by omega) hrM) rfl rfl (fun v G9 hle9 hh => ?_); subst hh; replace hb := hb.mono hle9; replace hleL := hleL.trans hle9; replace hrM := hrM.mono hle9)
 refine sB (Z9 rfl rfl) rfl rfl (fun h49 => ?_) (fun h49 => ?_)
 refine sD (nS (qT rfl (tS (tR ?_))))
 refine sL (A5 rfl rfl (B5 (by repeat first | exact mH | apply mT)) hlM) rfl rfl ?_
 refine S6 rfl rfl rfl hlM hoM rfl (by repeat first | exact Sw.here | apply Sw.there) (by exact D5 (by first | exact hlM.symm | omega)) ?_
 refine sD (nS (tT (rB (rS (A2N (rB (rS ?_)))))))
 refine H0 (outs := [rd br pb nb cb pM]) (rC rfl (A5 rfl rfl (B5 (by repeat first | exact mH | apply mT)) hlM)) (by repeat (first | exact A0.nil | refine A0.cons Pk.here ?_ | refine A0.cons (Pk.there Pk.here) ?_ | refine A0.cons (Pk.there (Pk.there Pk.here)) ?_ | apply A0.drop)) ?_
 (exact ⟨pM, by omega, by omega, rfl, eM, _, rfl, hrM, hsmM, by omega⟩)
 refine D7 ?_
 refine sP (I2 rfl rfl (by omega) (by omega)) rfl rfl ?_
 refine sQ (qA rfl) rfl (sD ?_)
 refine I9 (i + 1, pM, G9) ?_ ?_ ?_
 (simp only [E2]; exact C5)
 (dsimp only; exact ⟨by omega, hleL, by omega, by omega⟩)
 (show 4 - (i + 1) < 4 - i; omega)
 refine L6 ?_
 refine H2 rfl ((A32 _ _)) rfl rfl ?_
 refine F9 ?_
 refine sD (nS (tT ?_))
 refine H0 (outs := [rd br pb nb cb p1]) (rC rfl (A5 rfl rfl (B5 (by repeat first | exact mH | apply mT)) rfl)) (by repeat (first | exact A0.nil | refine A0.cons Pk.here ?_ | refine A0.cons (Pk.there Pk.here) ?_ | refine A0.cons (Pk.there (Pk.there Pk.here)) ?_ | apply A0.drop)) ?_
 (exact ⟨p1, by omega, by omega, rfl, _, _, rfl, B5h _ ⟨by decide, by decide⟩, (B5i _).le (by omega)⟩)
inductive MV where
 | mk (k num : Int) (env parts : List MV)
def MV.k : MV → Int | .mk k _ _ _ => k
def MV.num : MV → Int | .mk _ n _ _ => n
def MV.env : MV → List MV | .mk _ _ e _ => e
def MV.parts : MV → List MV | .mk _ _ _ p => p
def mv0 : MV := .mk 0 0 [] []
mutual
def RMv (kc : Int → Int) (G : IM) : MV → List Value → Prop
 | .mk k num env parts, cells => ∃ p c es q d fs, cells = [.int .i64 (kc k), .int .i64 num, .slice p env.length c, .slice q parts.length d] ∧ D9 num ∧ D9 (kc k) ∧ B9 G p env.length c 4 es ∧ A2K kc G env es ∧ B9 G q parts.length d 4 fs ∧ A2K kc G parts fs
def A2K (kc : Int → Int) (G : IM) : List MV → List (List Value) → Prop
 | [], es => es = []
 | t :: ts, es => ∃ a r, es = a :: r ∧ RMv kc G t a ∧ A2K kc G ts r
end
section
variable {kc : Int → Int} {G : IM}
end

def RFr (kc : Int → Int) (G : IM) (f : Int × List MV) (cells : List Value) : Prop := ∃ p c es, cells = [.int .i64 f.1, .slice p f.2.length c] ∧ D9 f.1 ∧ B9 G p f.2.length c 4 es ∧ A2K kc G f.2 es
def A9Q (kc : Int → Int) (G : IM) : List (Int × List MV) → List (List Value) → Prop
 | [], es => es = []
 | t :: ts, es => ∃ a r, es = a :: r ∧ RFr kc G t a ∧ A9Q kc G ts r
section
variable {kc : Int → Int} {G : IM}
end

structure MSt where
 at' : Int
 st : List MV
 env : List MV
 fr : List (Int × List MV)
def RSs (kc : Int → Int) (G : IM) (s : MSt) (cells : List Value) : Prop := ∃ pe ce ps cs pf cf ee es ef, cells = [.int .i64 s.at', .slice pe s.env.length ce, .slice ps s.st.length cs, .slice pf s.fr.length cf] ∧ D9 s.at' ∧
 B9 G pe s.env.length ce 4 ee ∧ A2K kc G s.env ee ∧ B9 G ps s.st.length cs 4 es ∧ A2K kc G s.st es ∧ B9 G pf s.fr.length cf 2 ef ∧ A9Q kc G s.fr ef
def A4x (k : Int) : Nat := if k = 6 ∨ k = 7 ∨ k = 8 ∨ k = 11 then 2 else if k = 9 ∨ k = 12 ∨ k = 13 then 1 else 0
def A6c (k : Int) : Int × Nat × Int := if k = 6 then (2, 1, 1) else if k = 7 ∨ k = 8 then (0, 2, 2) else if k = 9 then (1, 1, 3) else if k = 12 ∨ k = 13 then (3, 1, 4) else (0, 0, 0)
def A1P (s : MSt) (v : MV) : MSt := { s with st := s.st ++ [v] }
def mGo (k a : Int) (s : MSt) (v : List MV) : MSt ⊕ (Int × Int) :=
 if k = 1 then .inl (A1P s (.mk 0 a [] []))
 else if k = 2 then .inl (A1P s (.mk 1 a [] []))
 else if k = 3 then (if (s.env.length : Int) - 1 - a < 0 then .inr (3, 0) else .inl (A1P s (s.env.getD ((s.env.length : Int) - 1 - a).toNat mv0)))
 else if k = 4 then .inl { A1P s (.mk 2 s.at' s.env []) with at' := s.at' + a }
 else if k = 5 then (if s.fr.length = 0 then .inr (3, 0) else .inl { s with at' := (s.fr.getD (s.fr.length - 1) (0, [])).1, env := (s.fr.getD (s.fr.length - 1) (0, [])).2, fr := s.fr.take (s.fr.length - 1) })
 else if k = 6 then .inl { s with at' := (v.getD 0 mv0).num, env := (v.getD 0 mv0).env ++ [v.getD 1 mv0], fr := s.fr ++ [(s.at', s.env)] }
 else if k = 7 then .inl (A1P s (.mk 0 (((v.getD 0 mv0).num + (v.getD 1 mv0).num) % 1000) [] []))
 else if k = 8 then .inl (A1P s (.mk 1 (if (v.getD 0 mv0).num < (v.getD 1 mv0).num then 1 else 0) [] []))
 else if k = 9 then .inl (if (v.getD 0 mv0).num = 0 then { s with at' := s.at' + a } else s)
 else if k = 10 then .inl { s with at' := s.at' + a }
 else if k = 11 then .inl (A1P s (.mk 3 0 [] v))
 else .inl (A1P s ((v.getD 0 mv0).parts.getD (k - 12).toNat mv0))
def B5k (k : Int) (v : List MV) : Bool := (v.take (A6c k).2.1).all fun u => decide (u.k = (A6c k).1)
def B5l (k a : Int) (s : MSt) : MSt ⊕ (Int × Int) :=
 if s.st.length < A4x k then .inr (3, 0)
 else if B5k k (s.st.drop (s.st.length - A4x k)) = true then mGo k a { s with at' := s.at' + 1, st := s.st.take (s.st.length - A4x k) } (s.st.drop (s.st.length - A4x k))
 else .inr (2, (A6c k).2.2)
def B5m (v : MV) : ByteArray := if v.k = 0 then ⟨(Lib.decDigits v.num.toNat).toArray⟩ else if v.k = 1 then (if v.num = 0 then ⟨#[70]⟩ else ⟨#[84]⟩) else if v.k = 2 then ⟨⟨[102, 117, 110, 99, 116, 105, 111, 110]⟩⟩ else ⟨⟨[112, 97, 105, 114]⟩⟩
def B5n (s : MSt) : ByteArray × Int × Int := if s.st.length ≠ 1 ∨ 0 < s.fr.length then (⟨#[]⟩, 3, 0) else (B5m (s.st.getD 0 mv0), 0, 0)
def A9R (ops : List (Int × Int)) : Nat → MSt → ByteArray × Int × Int
 | t, s => if (ops.length : Int) ≤ s.at' then B5n s else match t with
  | 0 => (⟨#[]⟩, 5, 0)
  | t + 1 => match B5l (ops.getD s.at'.toNat (0, 0)).1 (ops.getD s.at'.toNat (0, 0)).2 s with
   | .inl s' => A9R ops t s'
   | .inr (c, e) => (⟨#[]⟩, c, e)
def B5o (k behind : Int) : Int := if k = 1 then 999 else if k = 2 then 1 else if k = 3 then 11 else if k = 4 ∨ k = 9 ∨ k = 10 then behind else 0
def B5p (n : Nat) (i : Nat) (x : Int × Int) : Bool := decide (1 ≤ x.1 ∧ x.1 ≤ 13 ∧ 0 ≤ x.2 ∧ x.2 ≤ B5o x.1 ((n : Int) - 1 - i))
def B5q (ops : List (Int × Int)) : Bool := decide (1 ≤ ops.length ∧ ops.length ≤ 120) && (List.range ops.length).all fun i => B5p ops.length i (ops.getD i (0, 0))
def B50 (ops : List (Int × Int)) (ticks : Int) : ByteArray × Int × Int :=
 if B5q ops = true ∧ 0 ≤ ticks ∧ ticks ≤ 2000 then A9R ops ticks.toNat ⟨0, [], [], []⟩ else (⟨#[]⟩, 3, 0)
theorem B5r (k : Int) (nm : ByteArray) (num : Int) (ty fr : Ty) (lb : Int) (ks : List Tm) (G : IM) (cells : List Value) (hT : A04 G) (hk3 : k = 2 ∨ k = 3 ∨ k = 4) (hn : 0 ≤ num ∧ num ≤ 999) (hr : A9 G (.mk k nm num ty fr lb ks) cells) : Fn Tryz.prog 46 [.agg ⟨cells⟩] [] G (H9 (.string (A2H k num)) G) := by
 obtain ⟨tk, tks⟩ := ty
 obtain ⟨fk, fks⟩ := fr
 obtain ⟨pt, ct, pf, cf, p, c, es, rfl, hk, hnum, hlb, hty, hfr, hsl, hkl⟩ := hr.open9
 have hI := B00 num G hT hn.1 hn.2
 refine B7 Tryz.func46 rfl Tryz.ntmps46 Tryz.results46 rfl ?_
 intro w0
 refine tS (tR ?_)
 refine sE (C2 rfl rfl) rfl (fun b3 => ?_)
 refine sQ (qA rfl) rfl (sD (nS (tS (tR ?_))))
 refine sQ (A2j rfl rfl) rfl ?_
 refine L6 ?_
 refine B6 ?_
 refine tS (tR ?_)
 refine sP (I3 rfl rfl (by omega)) rfl rfl ?_
 refine sQ (qA rfl) rfl (sD (nS (cF rfl (tS (tR ?_)))))
 refine sB (qE rfl rfl) rfl rfl (fun h30 => ?_) (fun h30 => ?_)
 refine D7 ?_
 refine H2 rfl (hI) rfl rfl ?_
 refine sQ (qA rfl) rfl (sD (nS (tT (rB (rS (F0 (rT rfl) ?_))))))
 (exact ⟨rfl, by unfold A2H; rw [if_pos (by omega)]; rfl, rfl⟩)
 refine sQ (qA rfl) rfl (sD (nS (cF rfl (tS (tR ?_)))))
 refine sB (qE rfl rfl) rfl rfl (fun h54 => ?_) (fun h54 => ?_)
 refine L7 ?_
 (exact ⟨rfl, by unfold A2H; rw [if_neg (by omega), if_pos (by omega)]; rfl, rfl⟩)
 refine sQ (qA rfl) rfl (sD (nS (cF rfl (tS (tR ?_)))))
 refine sP (V6 rfl rfl (by omega)) rfl rfl ?_
 refine L7 ?_
 (exact ⟨rfl, by unfold A2H; rw [if_neg (by omega), if_neg (by omega)]; rfl, rfl⟩)
theorem B5s : ∀ (t : Tm) (G : IM) (cells : List Value), A04 G → cv t → H7 t = true → A9 G t cells → Fn Tryz.prog 20 [.agg ⟨cells⟩] [] G (H9 (.string (Z6 t)) G) := by
 refine Tm.ind fun k nm num ty fr lb ks ih G cells hT hc hv hr => ?_
 have hr0 := hr
 have hP := A2b _ G _ hr
 obtain ⟨hN, hkk⟩ := hc.node
 have hop := hN.ops
 have h14 : k = 14 → ks.length = 1 := fun h => by rw [h] at hop; have : D1 14 = 1 := rfl; omega
 have hL := fun h => B5r k nm num ty fr lb ks G cells hT h hN.num0 hr
 have hvp := @B32 k nm num ty fr lb ks
 have hvf := @B33 k nm num ty fr lb ks
 have hvc := @A84 k nm num ty fr lb ks
 have hvl := @B34 k nm num ty fr lb ks
 have hvn := @A8x k nm num ty fr lb ks
 have hvy := @A5E k nm num ty fr lb ks
 have hprx := A2F k nm num ty fr lb ks
 have hinj := A5D k nm num ty fr lb ks
 have hleaf : W1 (.mk k nm num ty fr lb ks) = false → k ≠ 14 → k ≠ 10 → k ≠ 5 → k = 2 ∨ k = 3 ∨ k = 4 := by
  intro h1 h2 h3 h4
  have := hvn h3 h1 (by rw [hinj, decide_eq_false (by omega)]; rfl)
  rw [this] at hv
  have := of_decide_eq_true hv
  omega
 have hkv : W1 (.mk k nm num ty fr lb ks) = false → k = 14 → ∀ t ∈ ks, H7 t = true := by
  intro h1 h2 t ht
  cases hi : inj (.mk k nm num ty fr lb ks) with
  | true => have := hvy (.inr (.inr hi)); rw [hv] at this; exact List.all_eq_true.1 this.symm t ht
  | false =>
   have := hvn (by omega) h1 hi
   rw [hv] at this
   have := of_decide_eq_true this.symm
   omega
 generalize hpx : W1 (.mk k nm num ty fr lb ks) = bp at *
 obtain ⟨tk, tks⟩ := ty
 obtain ⟨fk, fks⟩ := fr
 obtain ⟨pt, ct, pf, cf, p, c, es, rfl, hk, hnum, hlb, hty, hfr, hsl, hkl⟩ := hr.open9
 refine B7 Tryz.func20 rfl Tryz.ntmps20 Tryz.results20 rfl ?_
 intro w0
 refine tS (tR ?_)
 refine sE (C2 rfl rfl) rfl (fun b3 => ?_)
 refine sQ (qA rfl) rfl (sD (nS (tS ?_)))
 refine B6 ?_
 refine tS (tR (sQ (B8 rfl) rfl (sL (C7 rfl rfl) rfl rfl ?_)))
 refine sB (qE rfl rfl) rfl rfl (fun h13 => ?_) (fun h13 => ?_)
 refine A1A ?_
 (exact ⟨rfl, congrArg Value.string (hvp (by first | exact .inl (by omega) | exact .inr ⟨by assumption, by assumption⟩)).symm, rfl⟩)
 refine sQ (qM rfl) rfl (sL (A2 rfl rfl) rfl rfl ?_)
 refine H3 rfl (hP) rfl rfl (fun h40 => ?_) (fun h40 => ?_)
 refine J5 ?_
 refine sB (qE rfl rfl) rfl rfl (fun h45 => ?_) (fun h45 => ?_)
 refine I4 ?_
 (exact ⟨rfl, congrArg Value.string (hvp (by first | exact .inl (by omega) | exact .inr ⟨by assumption, by assumption⟩)).symm, rfl⟩)
 refine L6 ?_
 refine sB (qE rfl rfl) rfl rfl (fun h72 => ?_) (fun h72 => ?_)
 refine T2 ?_
 (exact ⟨rfl, congrArg Value.string (hvf (by rintro (h | ⟨h1, h2⟩) <;> first | omega | exact Bool.noConfusion (h1.symm.trans (show bp = false by assumption)) | (simp only [Ty.k] at h2; omega)) (by first | exact .inl (by omega) | exact .inr (by assumption))).symm, rfl⟩)
 refine sQ (qM rfl) rfl (sL (A2 rfl rfl) rfl rfl ?_)
 refine H3 rfl (hP) rfl rfl (fun h93 => ?_) (fun h93 => ?_)
 refine M1 ?_
 (exact ⟨rfl, congrArg Value.string (hvf (by rintro (h | ⟨h1, h2⟩) <;> first | omega | exact Bool.noConfusion (h1.symm.trans (show bp = false by assumption)) | (simp only [Ty.k] at h2; omega)) (by first | exact .inl (by omega) | exact .inr (by assumption))).symm, rfl⟩)
 refine D2 ?_
 refine sB (qE rfl rfl) rfl rfl (fun h118 => ?_) (fun h118 => ?_)
 refine D7 ?_
 (have hl1 := h14 (by omega); obtain ⟨bx, ox, e, rfl, hl, hat, hre, hgb⟩ := hsl.kidTm hkl (i := 0) (by omega) (by omega); have hih := ih ks[0] (List.getElem_mem (by omega)) G e hT (hkk _ (List.getElem_mem (by omega))) (hkv (by assumption) (by omega) _ (List.getElem_mem (by omega))) hre; refine sP (B4 (j := 0) rfl rfl rfl (by omega)) rfl rfl ?_)
 refine sL (A5 rfl rfl (hat _) hl) rfl rfl ?_
 refine H2 rfl (hih) rfl rfl ?_
 refine sQ (qA rfl) rfl (sD (nS (tT (rB (rS (F0 (rT rfl) ?_))))))
 (exfalso; have h1 : bp = true := (by assumption); have h2 : bp = false := (by assumption); rw [h1] at h2; cases h2)
 refine L6 ?_
 refine H2 rfl ((hL (hleaf (by assumption) (by omega) (by omega) (by omega)))) rfl rfl ?_
 refine sQ (qA rfl) rfl (sD (nS (tT (F0 (rT rfl) ?_))))
 (exfalso; have h1 : bp = true := (by assumption); have h2 : bp = false := (by assumption); rw [h1] at h2; cases h2)
 refine I4 ?_
 refine sB (qE rfl rfl) rfl rfl (fun h170 => ?_) (fun h170 => ?_)
 refine T2 ?_
 (exact ⟨rfl, congrArg Value.string (hvf (by rintro (h | ⟨h1, h2⟩) <;> first | omega | exact Bool.noConfusion (h1.symm.trans (show bp = false by assumption)) | (simp only [Ty.k] at h2; omega)) (by first | exact .inl (by omega) | exact .inr (by assumption))).symm, rfl⟩)
 refine sQ (qM rfl) rfl (sL (A2 rfl rfl) rfl rfl ?_)
 refine H3 rfl (hP) rfl rfl (fun h191 => ?_) (fun h191 => ?_)
 refine M1 ?_
 (exfalso; have h1 : bp = true := (by assumption); have h2 : bp = false := (by assumption); rw [h1] at h2; cases h2)
 refine D2 ?_
 refine sB (qE rfl rfl) rfl rfl (fun h216 => ?_) (fun h216 => ?_)
 refine D7 ?_
 (have hl1 := h14 (by omega); obtain ⟨bx, ox, e, rfl, hl, hat, hre, hgb⟩ := hsl.kidTm hkl (i := 0) (by omega) (by omega); have hih := ih ks[0] (List.getElem_mem (by omega)) G e hT (hkk _ (List.getElem_mem (by omega))) (hkv (by assumption) (by omega) _ (List.getElem_mem (by omega))) hre; refine sP (B4 (j := 0) rfl rfl rfl (by omega)) rfl rfl ?_)
 refine sL (A5 rfl rfl (hat _) hl) rfl rfl ?_
 refine H2 rfl (hih) rfl rfl ?_
 refine sQ (qA rfl) rfl (sD (nS (tT (rB (rS (F0 (rT rfl) ?_))))))
 (exact ⟨rfl, congrArg Value.string (hvc (by assumption) (by omega) (by omega)).symm, rfl⟩)
 refine L6 ?_
 refine H2 rfl ((hL (hleaf (by assumption) (by omega) (by omega) (by omega)))) rfl rfl ?_
 refine sQ (qA rfl) rfl (sD (nS (tT (F0 (rT rfl) ?_))))
 (exact ⟨rfl, congrArg Value.string (hvl (by assumption) (by omega) (by omega) (by omega)).symm, rfl⟩)
theorem A9S (e : Tm) (fuel : Int) (G : IM) (cells : List Value) (hT : A04 G) (hr : A9 G e cells) : Fn Tryz.prog 8 [.agg ⟨cells⟩, .int .i64 fuel] [] G (B4g (Q1 e fuel) G) := by
 have hRl := hr.len
 have hRo := hr.one
 have hno := @A5R e fuel
 have hyv := fun u t => @A3s e u t fuel
 have hyn := fun u t => @A3t e u t fuel
 refine B7 Tryz.func8 rfl Tryz.ntmps8 Tryz.results8 rfl ?_
 intro w0
 refine tS (tR ?_)
 refine sE (C2 rfl rfl) rfl (fun b3 => ?_)
 refine D0 ?_
 refine sL (A5 rfl rfl (B5 (by repeat first | exact mH | apply mT)) hRl) rfl rfl ?_
 focus (refine F4 rfl (B39 e G cells hr) rfl rfl (fun v G1 hle1 hh => ?_); obtain ⟨cu, ct, rfl, hru, hrt⟩ := hh; rcases hI : V4 e with _ | ⟨u, t⟩; rotate_left; rw [hI] at hru hrt; simp only [Option.getD_some] at hru hrt; rotate_left; rw [hI] at hru hrt; simp only [Option.getD_none] at hru hrt; simp only [Option.isSome]; rotate_left; simp only [Option.isSome]; rotate_left; all_goals (have hul := hru.len; have huo := hru.one; obtain ⟨p3, c3, e3, rfl, _⟩ := hrt.open))
 refine J5 ?_
 refine sE (A6 rfl) rfl (fun b17 => ?_)
 refine sE (A6 rfl) rfl (fun b18 => ?_)
 refine sS rfl rfl rfl hul huo rfl ?_ (hu := by exact D5 hul.symm)
 refine A0h ?_
 refine E6 (rT rfl) (rT rfl) (rT rfl) ?_
 (exact ⟨rfl, by rw [hno (by first | exact hI | rfl | assumption)]⟩)
 refine J5 ?_
 refine sE (A6 rfl) rfl (fun b47 => ?_)
 refine sE (A6 rfl) rfl (fun b48 => ?_)
 refine sS rfl rfl rfl hul huo rfl ?_ (hu := by exact D5 hul.symm)
 refine K8 ?_
 refine sL (A5 rfl rfl (B5 (by repeat first | exact mH | apply mT)) hul) rfl rfl ?_
 refine sQ (qM rfl) rfl ?_
 (have hyv := hyv u t hI; have hyn := hyn u t hI; have hev := @B4h u fuel; refine F4 rfl (B3T u fuel G1 cu hru) rfl rfl (fun v G2 hle2 hh => ?_); obtain ⟨wc, hvv, hrw⟩ := hh; have hwl := hrw.len; have hwo := hrw.one; generalize Q6 u fuel = r at hvv hrw hyv hyn hev; obtain ⟨w, c, l⟩ := r; simp only at hvv hrw hyv hyn hev; subst hvv)
 refine J5 ?_
 refine sE (A6 rfl) rfl (fun b73 => ?_)
 refine sS rfl rfl rfl hwl hwo rfl ?_ (hu := by exact D5 hwl.symm)
 refine D7 ?_
 refine sB (R9 rfl rfl) rfl rfl (fun h83 => ?_) (fun h83 => ?_)
 refine M1 ?_
 refine E6 (rT rfl) (rT rfl) (rT rfl) ?_
 (exact ⟨rfl, by rw [hyn (by omega)]⟩)
 refine sD (nS (cF rfl (tK (nS (tS (tR ?_))))))
 refine sL (A5 rfl rfl (B5 (by repeat first | exact mH | apply mT)) hwl) rfl rfl ?_
 (obtain ⟨he1, he2, he3⟩ := hev (by omega); refine H2 rfl (B5s w G2 wc (hT.mono (hle1.trans hle2)) (A5k he1).1 he2 hrw) rfl rfl ?_)
 refine D7 ?_
 refine E6 (rT rfl) (rT rfl) (rT rfl) ?_
 (obtain rfl : c = 0 := (by omega); subst he3; exact ⟨rfl, by rw [hyv rfl]⟩)
theorem A9T {P : Program} {Γ : K1} {env : K7} {hp : List A4} {G : IM} {ty : TypeId} {x y : Operand} {t t' : TypeId} {r : ByteArray} (hx : evo env x = some (.string r)) (hy : evo env y = some (.string r)) :
  I6 P Γ ⟨env, hp, G⟩ (.binOp .eql t x y t') ty (.bool true) := by
 have h := A2k (P := P) (Γ := Γ) (hp := hp) (G := G) (t := t) (t' := t') (ty := ty) hx hy
 simpa using h
theorem B5t {P : Program} {Γ : K1} {env : K7} {hp : List A4} {G : IM} {ty : TypeId} {x y : Operand} {t t' : TypeId} {i : K3} [hI : H5 P t i] (hd : i.desc = .bool) {r : Bool} (hx : evo env x = some (.bool r)) (hy : evo env y = some (.bool r)) :
  I6 P Γ ⟨env, hp, G⟩ (.binOp .eql t x y t') ty (.bool true) := by
 have h := B0c (P := P) (Γ := Γ) (hp := hp) (G := G) (t := t) (t' := t') (ty := ty) (i := i) hd hx hy
 simpa using h
theorem A9U : ∀ (t : Ty) (G : IM) (cells cells' : List Value), B3 G t cells → B3 G t cells' → Fn Tryz.prog 16 [.agg ⟨cells⟩, .agg ⟨cells'⟩] [] G (H9 (.bool true) G) := by
 refine Ty.ind fun k ks ih G cells cells' hr hr' => ?_
 obtain ⟨p, c, es, rfl, hk, hsl, hkl⟩ := hr.open
 obtain ⟨p', c', es', rfl, hk', hsl', hkl'⟩ := hr'.open
 simp only [Ty.k, Ty.ks] at hk hsl hkl hk' hsl' hkl' ⊢
 refine B7 Tryz.func16 rfl Tryz.ntmps16 Tryz.results16 rfl ?_
 intro w0
 refine tS (tR ?_)
 refine sE (C2 rfl rfl) rfl (fun b3 => ?_)
 refine sE (C2 rfl rfl) rfl (fun b4 => ?_)
 refine D2 ?_
 refine sP (V6 rfl rfl (by omega)) rfl rfl ?_
 refine R2 ?_
 refine H2 rfl (A46 _ _ _ _ _ _ _ _ _ hsl hsl' _ [] [] [] (fun _ => true) true (by simp) (fun i e e' he he' => ih (ks.getD i A7) (hkl.inv he A7).1 _ _ _ (hkl.inv he A7).2 (hkl'.inv he' A7).2)) rfl rfl ?_
 refine I0 ?_
 exact ⟨rfl, rfl, rfl⟩
theorem B5u (G : IM) (p p' : Option Addr) (n c c' : Nat) (es es' : List (List Value)) (hsl : B9 G p n c 9 es) (hsl' : B9 G p' n c' 9 es') (fid : FuncId) [B2 Tryz.prog fid]
  (hq : ∀ (i : Nat) (e e' : List Value), es[i]? = some e → es'[i]? = some e' → Fn Tryz.prog fid [.agg ⟨e⟩, .agg ⟨e'⟩] [] G (T1 (.bool true) [] G)) :
  Fn Tryz.prog 17 [.slice p n c, .slice p' n c', .func (.func fid) ⟨[]⟩ ⟨[]⟩] [] G (H9 (.bool true) G) := by
 have hn := hsl.le
 refine B7 Tryz.func17 rfl Tryz.ntmps17 Tryz.results17 rfl ?_
 intro w0
 refine N8 ?_
 refine sP (A4J rfl rfl (by omega)) rfl rfl ?_
 refine L7 ?_
 refine B6 (J3 (fun i : Nat => ⟨[(17, .int .i64 i), (16, .int .i64 n), (15, .slice p n c), (2, .func (.func fid) ⟨[]⟩ ⟨[]⟩), (1, .slice p' n c'), (0, .slice p n c)], [], G⟩) (fun i => i ≤ n) (fun i => n - i) 0 ?_ ?_ ?_)
 exact C5
 exact Nat.zero_le _
 rintro i hi
 refine tS (tR ?_)
 refine sB (J6 rfl rfl) rfl rfl (fun h34 => ?_) (fun h34 => ?_)
 refine sD (nS (tS (qT rfl (tK (nS (tS ?_))))))
 refine B6 ?_
 refine tS (tR (sQ (qM rfl) rfl ?_))
 (obtain ⟨e, b, o, he, rfl, hl, _, hat, _⟩ := hsl.get (i := i) (by omega); refine sP (B4 rfl rfl rfl (by omega)) rfl rfl ?_)
 refine sL (A5 rfl rfl (hat _) hl) rfl rfl ?_
 refine sE (A6 rfl) rfl (fun b48 => ?_)
 refine sQ (qA rfl) rfl ?_
 refine S6 rfl rfl rfl (by assumption) (by assumption) rfl (by repeat first | exact Sw.here | apply Sw.there) (by exact D5 (by symm; assumption)) ?_
 refine sD (nS (tS (tR (sQ (qM rfl) rfl (sQ (qM rfl) rfl ?_)))))
 (obtain ⟨e', b', o', he', rfl, hl', _, hat', _⟩ := hsl'.get (i := i) (by omega); refine sP (B4 rfl rfl rfl (by omega)) rfl rfl ?_)
 refine sL (A5 rfl rfl (hat' _) hl') rfl rfl ?_
 refine sE (A6 rfl) rfl (fun b59 => ?_)
 refine S6 rfl rfl rfl (by assumption) (by assumption) rfl (by repeat first | exact Sw.here | apply Sw.there) (by exact D5 (by symm; assumption)) ?_
 refine sD (nS (tS (tR (sQ (qM rfl) rfl ?_))))
 refine sL (A5 rfl rfl (B5 (by repeat first | exact mH | apply mT)) (by assumption)) rfl rfl ?_
 refine sL (A5 rfl rfl (B5 (by repeat first | exact mH | apply mT)) (by assumption)) rfl rfl ?_
 refine A3J rfl rfl (hq i e e' he he') A6D rfl rfl (fun h68 => ?_) (fun h68 => ?_)
 simp only [Bool.not_eq_true', Bool.not_eq_false'] at h68
 refine D7 ?_
 refine sP (I2 rfl rfl (by omega) (by omega)) rfl rfl ?_
 refine sQ (qM rfl) rfl (sD ?_)
 refine I9 (i + 1) ?_ ?_ ?_
 exact C5
 omega
 omega
 refine K8 ?_
 (exact absurd (by assumption) (by decide))
 refine K8 ?_
 exact ⟨rfl, rfl, rfl⟩
theorem B5v : ∀ (t : Tm) (G : IM) (cells cells' : List Value), A9 G t cells → A9 G t cells' → Fn Tryz.prog 7 [.agg ⟨cells⟩, .agg ⟨cells'⟩] [] G (H9 (.bool true) G) := by
 refine Tm.ind fun k nm num ty fr lb ks ih G cells cells' hr hr' => ?_
 obtain ⟨tk, tks⟩ := ty
 obtain ⟨fk, fks⟩ := fr
 obtain ⟨pt, ct, pf, cf, p, c, es, rfl, hk, hnum, hlb, hty, hfr, hsl, hkl⟩ := hr.open9
 obtain ⟨pt', ct', pf', cf', p', c', es', rfl, _, _, _, hty', hfr', hsl', hkl'⟩ := hr'.open9
 have h1 := A9U (.mk tk tks) G _ _ hty hty'
 have h2 := A9U (.mk fk fks) G _ _ hfr hfr'
 refine B7 Tryz.func7 rfl Tryz.ntmps7 Tryz.results7 rfl ?_
 intro w0
 refine tS (tR ?_)
 refine sE (C2 rfl rfl) rfl (fun b3 => ?_)
 refine sE (C2 rfl rfl) rfl (fun b4 => ?_)
 refine D2 ?_
 refine sP (V6 rfl rfl (by omega)) rfl rfl ?_
 refine R2 ?_
 refine sQ (A9T rfl rfl) rfl ?_
 refine I0 ?_
 refine sP (V6 rfl rfl (by omega)) rfl rfl ?_
 refine I0 ?_
 refine H2 rfl (h1) rfl rfl ?_
 refine I0 ?_
 refine H2 rfl (h2) rfl rfl ?_
 refine I0 ?_
 refine sP (V6 rfl rfl (by omega)) rfl rfl ?_
 refine I0 ?_
 refine H2 rfl (B5u _ _ _ _ _ _ _ _ hsl hsl' _ (fun i e e' he he' => ih (ks.getD i J4) (hkl.inv he J4).1 _ _ _ (hkl.inv he J4).2 (hkl'.inv he' J4).2)) rfl rfl ?_
 refine I0 ?_
 exact ⟨rfl, rfl, rfl⟩
def A9V (N : Nat) : IM → Value → List A4 → Prop := L5 fun G' v => ∃ e cells, v = .agg ⟨cells⟩ ∧ A9 G' e cells ∧ e.fit N
theorem B5w (G : IM) (q : Option Addr) (n c : Nat) (bs : List UInt8) (hb : Sl G q n c 1 (O0 bs)) : Fn Tryz.prog 9 [.slice q n c] [] G (A9V 2000000) := by
 refine B7 Tryz.func9 rfl Tryz.ntmps9 Tryz.results9 rfl ?_
 intro w0
 refine tS (tR ?_)
 refine sE (A6 rfl) rfl (fun b3 => ?_)
 refine sD (nS (tS (tR (sQ (qM rfl) rfl ?_))))
 (refine L3 rfl (B1J G q n c bs hb) (List.Perm.refl _) rfl rfl (fun v G1 outs hle1 hh => ?_); obtain ⟨rfl, br, pb, nb, cb, bs', rfl, rfl, hnb, hb'⟩ := hh)
 refine D7 ?_
 (have hcall := B5j br pb nb cb bs' hnb 0 _ hb' (by omega); refine L3 rfl hcall (Pk.perm (by repeat (first | exact Pk.here | apply Pk.there))) rfl rfl (fun v Gn outs hle1 hh => ?_); obtain ⟨p1, hp11, hp12, rfl, e, ce, rfl, hre, hfe⟩ := hh; have hl1 := hre.len; have ho1 := hre.one; replace hb' := hb'.mono hle1)
 (have hcall := B4R br pb nb cb bs' hnb p1 _ hb' (by omega) e ce 2000000 hfe (by decide) hre; refine L3 rfl hcall (Pk.perm (by repeat (first | exact Pk.here | apply Pk.there))) rfl rfl (fun v Gn2 outs hle2 hh => ?_); obtain ⟨p2, hp21, hp22, rfl, e2, ce2, rfl, hre2, hfe2⟩ := hh; replace hb' := hb'.mono hle2)
 (have hcall := B1S br pb nb cb bs' hnb p2 _ hb' (by omega) e2 ce2 2000000 hfe2 hre2; refine L3 rfl hcall (Pk.perm (by repeat (first | exact Pk.here | apply Pk.there))) rfl rfl (fun v Gn3 outs hle3 hh => ?_); obtain ⟨p3, hp31, hp32, rfl, e3, ce3, rfl, hre3, hfe3⟩ := hh; have hl3 := hre3.len; have ho3 := hre3.one)
 refine S6 rfl rfl rfl (by assumption) (by assumption) rfl (by repeat first | exact Sw.here | apply Sw.there) (by exact D5 (by symm; assumption)) ?_
 refine sD (nS (tT ?_))
 refine F0 (rC rfl (A5 rfl rfl (B5 (by repeat first | exact mH | apply mT)) hl3)) ?_
 (exact ⟨rfl, e3, ce3, rfl, hre3, hfe3⟩)
theorem B5x (G : IM) (q : Option Addr) (n c : Nat) (bs : List UInt8) (hb : Sl G q n c 1 (O0 bs)) : Fn Tryz.prog 4 [.slice q n c] [] G (A9V 2000000) := by
 have hD := B5w G q n c bs hb
 refine B7 Tryz.func4 rfl Tryz.ntmps4 Tryz.results4 rfl ?_
 intro w0
 refine tS (tR ?_)
 refine sE (A6 rfl) rfl (fun b3 => ?_)
 refine sD (nS (tS (tR (sQ (qM rfl) rfl ?_))))
 (refine F4 rfl hD rfl rfl (fun v1 G1 hle1 hh => ?_); obtain ⟨e, ce, rfl, hre, hfe⟩ := hh; have hl1 := hre.len; have ho1 := hre.one)
 refine S6 rfl rfl rfl (by assumption) (by assumption) rfl (by repeat first | exact Sw.here | apply Sw.there) (by exact D5 (by symm; assumption)) ?_
 refine sD (nS (tT ?_))
 refine F0 (rC rfl (A5 rfl rfl (B5 (by repeat first | exact mH | apply mT)) hl1)) ?_
 (exact ⟨rfl, e, ce, rfl, hre, hfe⟩)
theorem B5y {a x : Tm} {o : Option Tm} (ho : A01 a = o) (hx : o.getD J4 = x) (hb : o.isSome = true) (h0 : (Q1 x 150).2.1 = 0) :
  (Q1 a 300).2.1 = 4 ∨ (Q1 a 300).2.1 = 5 ∨ ((Q1 a 300).2.1 = 0 ∧ (Q1 x 150).1 = (Q1 a 300).1) := by
 unfold A01 at ho
 split at ho
 ·next ht =>
  subst ho
  replace hx : A0u a = x := hx
  subst hx
  exact B5g ht h0
 ·subst ho; cases hb
theorem B5z (bs : List UInt8) (G : IM) (p : Option Addr) (n c : Nat) (hT : A04 G) (hb : Sl G p n c 1 (O0 bs)) : Fn Tryz.prog 3 [.slice p n c] [] G (L5 fun _ v => v = .bool true) := by
 have hn := hb.le
 refine B7 Tryz.func3 rfl Tryz.ntmps3 Tryz.results3 rfl ?_
 intro w0
 refine L6 ?_
 refine sB (A0v rfl rfl) rfl rfl (fun h11 => ?_) (fun h11 => ?_)
 refine K6 ?_
 (exact ⟨rfl, rfl⟩)
 refine sD (nS (cF rfl (tK (nS (tS (tR (sQ (qM rfl) rfl ?_)))))))
 (refine F4 rfl (B5x G _ _ _ bs hb) rfl rfl (fun v G1 hle1 hh => ?_); obtain ⟨a, ca, rfl, hra, hfa⟩ := hh; replace hT := hT.mono hle1; have hca := hfa.2; have hla := hra.len; have hoa := hra.one; have hA := B45 a G1 ca hra; obtain ⟨o, ho⟩ : ∃ r, A01 a = r := ⟨_, rfl⟩; rw [ho] at hA; obtain ⟨x, hx⟩ : ∃ x, o.getD J4 = x := ⟨_, rfl⟩; obtain ⟨bx, hbx⟩ : ∃ b, o.isSome = b := ⟨_, rfl⟩; have hk := fun h => @B5y a x o ho hx (hbx.trans h))
 refine sE (A6 rfl) rfl (fun b33 => ?_)
 refine sS rfl rfl rfl hla hoa rfl ?_ (hu := by exact D5 hla.symm)
 refine sD (nS (tS (tR ?_)))
 refine sL (A5 rfl rfl (B5 (by repeat first | exact mH | apply mT)) hla) rfl rfl ?_
 (refine F4 rfl hA rfl rfl (fun v2 G2 hle2 hh => ?_); obtain ⟨cx, hve, hrx⟩ := hh; rw [hbx] at hve; subst hve; rw [hx] at hrx; have hlx := hrx.len; have hox := hrx.one; replace hT := hT.mono hle2; replace hra := hra.mono hle2; have hB := B5e a G2 ca (by omega) hra; rw [ho] at hB)
 refine J0 ?_
 refine sE (A6 rfl) rfl (fun b44 => ?_)
 refine sS rfl rfl rfl hlx hox rfl ?_ (hu := by exact D5 hlx.symm)
 refine sQ (qA rfl) rfl (sD (nS (tS (tR ?_))))
 refine sL (A5 rfl rfl (B5 (by repeat first | exact mH | apply mT)) hla) rfl rfl ?_
 (refine F4 rfl hB rfl rfl (fun v3 G3 hle3 hh => ?_); obtain ⟨cy, hve, hry⟩ := hh; rw [hbx] at hve; subst hve; rw [hx] at hry; have hly := hry.len; have hoy := hry.one; replace hT := hT.mono hle3; replace hra := hra.mono hle3; replace hrx := hrx.mono hle3; have hSm := B5v x G3 cx cy hrx hry; obtain ⟨⟨s1, c1, l1⟩, hr1⟩ : ∃ r, Q1 x 150 = r := ⟨_, rfl⟩; obtain ⟨⟨s2, c2, l2⟩, hr2⟩ : ∃ r, Q1 a 300 = r := ⟨_, rfl⟩; rw [hr1, hr2] at hk; simp only [] at hk; have hE1 := A9S x 150 G3 cx hT hrx; rw [hr1] at hE1; cases bx)
 refine J0 ?_
 refine sE (A6 rfl) rfl (fun b56 => ?_)
 refine sS rfl rfl rfl hly hoy rfl ?_ (hu := by exact D5 hly.symm)
 refine D7 ?_
 refine sQ (A16 rfl rfl rfl) rfl ?_
 refine sQ (qM rfl) rfl ?_
 refine sL (A5 rfl rfl (B5 (by repeat first | exact mH | apply mT)) hlx) rfl rfl ?_
 refine sL (A5 rfl rfl (B5 (by repeat first | exact mH | apply mT)) hly) rfl rfl ?_
 refine H2 rfl (hSm) rfl rfl ?_
 refine L7 ?_
 refine sQ (B5t rfl rfl rfl) rfl ?_
 refine sQ (qM rfl) rfl ?_
 refine sL (A5 rfl rfl (B5 (by repeat first | exact mH | apply mT)) hlx) rfl rfl ?_
 refine sL (A5 rfl rfl (B5 (by repeat first | exact mH | apply mT)) hly) rfl rfl ?_
 refine H2 rfl (hSm) rfl rfl ?_
 refine D0 ?_
 (exact ⟨rfl, rfl⟩)
 refine J0 ?_
 refine sE (A6 rfl) rfl (fun b100 => ?_)
 refine sS rfl rfl rfl hly hoy rfl ?_ (hu := by exact D5 hly.symm)
 refine D7 ?_
 refine sQ (A16 rfl rfl rfl) rfl ?_
 refine sQ (qM rfl) rfl ?_
 refine sL (A5 rfl rfl (B5 (by repeat first | exact mH | apply mT)) hlx) rfl rfl ?_
 refine sL (A5 rfl rfl (B5 (by repeat first | exact mH | apply mT)) hly) rfl rfl ?_
 refine H2 rfl (hSm) rfl rfl ?_
 refine L7 ?_
 refine sL (A5 rfl rfl (B5 (by repeat first | exact mH | apply mT)) hlx) rfl rfl ?_
 (refine F4 rfl hE1 rfl rfl (fun v4 G4 hle4 hh => ?_); replace hh : v4 = .tuple ⟨[.string s1, .int .i64 c1, .int .i64 l1]⟩ := hh; subst hh; replace hT := hT.mono hle4; have hE2 := A9S a 300 G4 ca hT (hra.mono hle4); rw [hr2] at hE2; clear hE1)
 refine K6 ?_
 refine sL (A5 rfl rfl (B5 (by repeat first | exact mH | apply mT)) hla) rfl rfl ?_
 (refine F4 rfl hE2 rfl rfl (fun v5 G5 hle5 hh => ?_); replace hh : v5 = .tuple ⟨[.string s2, .int .i64 c2, .int .i64 l2]⟩ := hh; subst hh)
 refine N8 ?_
 refine sB (R9 rfl rfl) rfl rfl (fun h155 => ?_) (fun h155 => ?_)
 refine A6E ?_
 (exact ⟨rfl, rfl⟩)
 refine sQ (qM rfl) rfl (sQ (qM rfl) rfl ?_)
 refine sB (qE rfl rfl) rfl rfl (fun h181 => ?_) (fun h181 => ?_)
 refine A0a ?_
 (exact ⟨rfl, rfl⟩)
 refine sQ (S5 rfl rfl) rfl (sQ (qM rfl) rfl (sQ (qM rfl) rfl ?_))
 refine sB (qE rfl rfl) rfl rfl (fun h205 => ?_) (fun h205 => ?_)
 refine I4 ?_
 (exact ⟨rfl, rfl⟩)
 refine sQ (S5 rfl rfl) rfl (sQ (qM rfl) rfl (sQ (qM rfl) rfl ?_))
 refine sB (qE rfl rfl) rfl rfl (fun h225 => ?_) (fun h225 => ?_)
 refine sQ (qM rfl) rfl (sQ (qM rfl) rfl (sQ (qM rfl) rfl ?_))
 (have hs : s1 = s2 := (by rcases hk rfl (by omega) with h | h | h; omega; omega; exact h.2); subst hs; refine sQ (A9T rfl rfl) rfl ?_)
 refine D0 ?_
 (exact ⟨rfl, rfl⟩)
 refine K6 ?_
 (exfalso; rcases hk rfl (by omega) with h | h | h <;> omega)
end Gw
end Go.Proofs.YtipblncpnffmbaaGreatDoor
