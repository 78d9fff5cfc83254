/-
  Terms that differ in their labels alone run alike (plain). Drawn terms with casts, paths, arguments. The casts of a term and their types: walked. slices.Sort and slices.Compact over own slices of numbers: the kit's contracts; CastLabels of the program. Labels only name casts: the law (plain). SimplifyCasts, DynamicCasts, ForgetCast, RelabelCasts of the program. ForgetCast, RelabelCasts of the program. The type of a node of a term with casts, the reference's way (plain). The type of a term with casts: the reference's.
-/
import Derived.Test.YtfpgncjeejickaaGreatDoorKb6
import Derived.Test.YtfpgncjeejickaaGreatDoorKb4
import Derived.Test.YtfpgncjeejickaaGreatDoorKb2
import Derived.Test.YtfpgncjeejickaaGreatDoorKb1
import Derived.Test.YtfpgncjeejickaaGreatDoorShelf
import Derived.Test.YtfpgncjeejickaaGreatDoorKb5
set_option linter.unusedVariables false
set_option linter.unusedSimpArgs false
set_option maxHeartbeats 0
set_option maxRecDepth 100000
set_option synthInstance.maxSize 4000
set_option synthInstance.maxHeartbeats 0
namespace Go.Proofs.YtfpgncjeejickaaGreatDoor
open Go Go.RowKit
namespace Gw
mutual
def lz : Tm → Tm
 | .mk k nm num ty fr lb ks => .mk k nm num ty fr (if k = 14 then 0 else lb) (J9 ks)
def J9 : List Tm → List Tm
 | [] => []
 | t :: ts => lz t :: J9 ts
end
theorem A6g : ∀ ks, J9 ks = ks.map lz
 | [] => rfl
 | t :: ts => by rw [J9, A6g ts, List.map_cons]
theorem A6h (ks : List Tm) : (J9 ks).length = ks.length := by rw [A6g, List.length_map]
theorem A6i (t : Tm) : (lz t).k = t.k := by cases t; rw [lz]; rfl
theorem B4g (t : Tm) : (lz t).nm = t.nm := by cases t; rw [lz]; rfl
theorem B4h (t : Tm) : (lz t).num = t.num := by cases t; rw [lz]; rfl
theorem A6j (t : Tm) : (lz t).ty = t.ty := by cases t; rw [lz]; rfl
theorem A6k (t : Tm) : (lz t).fr = t.fr := by cases t; rw [lz]; rfl
theorem B4i (t : Tm) : (lz t).ks = J9 t.ks := by cases t; rw [lz]; rfl
theorem B4j : lz I3 = I3 := by rw [I3, lz, J9, if_neg (by decide)]
theorem B4k (ks : List Tm) (i : Nat) : kd (J9 ks) i = lz (kd ks i) := by
 unfold kd
 rw [A6g, List.getD_eq_getElem?_getD, List.getD_eq_getElem?_getD, List.getElem?_map]
 cases ks[i]? with
 | none => exact B4j.symm
 | some t => rfl
mutual
theorem A0r : ∀ t, lz (lz t) = lz t
 | .mk k nm num ty fr lb ks => by
  rw [lz, lz, A6l ks]
  split <;> rfl
theorem A6l : ∀ ts, J9 (J9 ts) = J9 ts
 | [] => by rw [J9, J9]
 | t :: ts => by rw [J9, J9, A0r t, A6l ts]
end
mutual
theorem A24 : ∀ t, E7 (lz t) = E7 t
 | .mk k nm num ty fr lb ks => by rw [lz, E7, E7, A9y ks]
theorem A9y : ∀ ts, A0e (J9 ts) = A0e ts
 | [] => by rw [J9]
 | t :: ts => by rw [J9, A0e, A0e, A24 t, A9y ts]
end
theorem B4l (t : Tm) : Q7 (lz t) = Q7 t := by unfold Q7; rw [A6i, A6j, A6k]
theorem B4m (t : Tm) : inj (lz t) = inj t := by unfold inj; rw [A6i, A6j, A6k]
mutual
theorem A6m (x : ByteArray) (v : Tm) : ∀ t, lz (Q8 x v t) = Q8 x (lz v) (lz t)
 | .mk k nm num ty fr lb ks => by
  rw [Q8, lz, Q8]
  split
  ·rfl
  ·split
   ·rw [lz]
   ·rw [lz, A9z x v ks]
theorem A9z (x : ByteArray) (v : Tm) : ∀ ts, J9 (P3 x v ts) = P3 x (lz v) (J9 ts)
 | [] => by rw [P3, J9, P3]
 | t :: ts => by rw [P3, J9, J9, P3, A6m x v t, A9z x v ts]
end
theorem A0s (e : Tm) (a b : Ty) (l : Int) : lz (K8 e a b l) = K8 (lz e) a b 0 := by rw [K8, lz, if_pos rfl, J9, J9, K8]
theorem A4I (k : Int) (ks : List Tm) : lz (V4 k ks) = V4 k (J9 ks) := by rw [V4, lz, V4]; split <;> rfl
theorem A9A (a : Tm) : J9 [a] = [lz a] := by rw [J9, J9]
theorem A9B (a b : Tm) : J9 [a, b] = [lz a, lz b] := by rw [J9, J9, J9]
def SL (r s : Stp) : Prop := r.2.1 = s.2.1 ∧ lz r.1 = lz s.1
theorem SL.rfl' (r : Stp) : SL r r := ⟨rfl, rfl⟩
theorem SL.mk1 {u v : Tm} {c l l' : Int} (h : lz u = lz v) : SL (u, c, l) (v, c, l') := ⟨rfl, h⟩
theorem B4n (k : Int) (ty fr : Ty) (lb lb' : Int) (ks : List Tm) : SL (N0 k ty fr lb' (J9 ks)) (N0 k ty fr lb ks) := by
 unfold N0
 simp only [B4k, A6i, B4g, B4h, A6j, A6k, B4i, B4l, B4m]
 by_cases h6 : k = 6
 ·rw [if_pos h6, if_pos h6]
  split
  ·exact .mk1 (by rw [A6m, A6m, A0r, A0r])
  ·split
   ·exact .mk1 (by rw [A0s, A0s, A4I, A4I, A9B, A9B, A0s, A0s, A0r, A0r])
   ·exact .rfl' _
 rw [if_neg h6, if_neg h6]
 by_cases h7 : k = 7 ∨ k = 8
 ·rw [if_pos h7, if_pos h7]
  split
  ·exact .mk1 rfl
  ·exact .rfl' _
 rw [if_neg h7, if_neg h7]
 by_cases h9 : k = 9
 ·rw [if_pos h9, if_pos h9]
  split
  ·exact .mk1 (A0r _)
  ·split
   ·exact .mk1 (A0r _)
   ·exact .rfl' _
 rw [if_neg h9, if_neg h9]
 by_cases h11 : k = 11 ∨ k = 12
 ·rw [if_pos h11, if_pos h11]
  split
  ·exact .mk1 (A0r _)
  ·split
   ·exact .mk1 (by rw [A0s, A0s, A4I, A4I, A9A, A9A, A0r])
   ·exact .rfl' _
 rw [if_neg h11, if_neg h11]
 by_cases h14 : k = 14
 ·rw [if_pos h14, if_pos h14]
  split
  ·exact .mk1 (A0r _)
  ·split
   ·exact .mk1 (by rw [A0s, A0s, A0s, A0s, A0r])
   ·split
    ·exact .mk1 (by rw [A0s, A0s, A0s, A0s, A0r])
    ·split
     ·exact .rfl' _
     ·split
      ·exact .mk1 (A0r _)
      ·exact .mk1 rfl
 ·rw [if_neg h14, if_neg h14]; exact .rfl' _
theorem B4o (ks : List Tm) (ih : ∀ t ∈ ks, SL (H0 (lz t)) (H0 t)) : ∀ n, (Q6 n ks = none ∧ Q6 n (J9 ks) = none) ∨ ∃ us vs c l l', Q6 n ks = some (us, c, l) ∧ Q6 n (J9 ks) = some (vs, c, l') ∧ J9 vs = J9 us := by
 induction ks with
 | nil => intro n; left; cases n <;> exact ⟨by rw [Q6], by rw [J9, Q6]⟩
 | cons t ts ihl =>
  intro n
  cases n with
  | zero => left; exact ⟨by rw [Q6], by rw [J9, Q6]⟩
  | succ n =>
   rw [J9, A2o, A2o, A24]
   by_cases hv : E7 t = true
   ·rw [if_pos hv, if_pos hv]
    rcases ihl (fun u hu => ih u (List.mem_cons_of_mem _ hu)) n with ⟨h1, h2⟩ | ⟨us, vs, c, l, l', h1, h2, h3⟩
    ·left; rw [h1, h2]; exact ⟨rfl, rfl⟩
    ·right; rw [h1, h2]; exact ⟨_, _, _, _, _, rfl, rfl, by rw [J9, J9, h3, A0r]⟩
   ·rw [if_neg hv, if_neg hv]
    obtain ⟨h1, h2⟩ := ih t List.mem_cons_self
    right
    exact ⟨_, _, _, _, _, rfl, by rw [h1], by rw [J9, J9, h2, A6l]⟩
theorem A9C : ∀ t, SL (H0 (lz t)) (H0 t) := by
 refine Tm.ind fun k nm num ty fr lb ks ih => ?_
 rw [lz, H0, H0, A6h]
 rcases B4o ks ih (if k = 9 then 1 else ks.length) with ⟨h1, h2⟩ | ⟨us, vs, c, l, l', h1, h2, h3⟩
 ·rw [h1, h2]; exact B4n _ _ _ _ _ _
 ·rw [h1, h2]
  by_cases hc : c = 1
  ·simp only [if_pos hc]
   exact .mk1 (by rw [lz, lz, h3]; split <;> rfl)
  ·simp only [if_neg hc]
   exact .mk1 rfl
theorem B4p {a b : Tm} (h : lz a = lz b) : SL (H0 a) (H0 b) := by
 have h1 := A9C a
 have h2 := A9C b
 rw [h] at h1
 exact ⟨h1.1.symm.trans h2.1, h1.2.symm.trans h2.2⟩
theorem A0M {L : Int → Prop} : T3 L I3 := A0o.2 ⟨(fun h => by cases h), trivial⟩
theorem A4J {L : Int → Prop} {ks : List Tm} (h : V5 L ks) (i : Nat) : T3 L (kd ks i) := by
 unfold kd
 rw [List.getD_eq_getElem?_getD]
 cases hi : ks[i]? with
 | none => exact A0M
 | some t => exact A2p.1 h t (List.mem_of_getElem? hi)
theorem B4q {L : Int → Prop} {t : Tm} (h : T3 L t) : V5 L t.ks := by cases t; exact (A0o.1 h).2
theorem A9D {L : Int → Prop} {t : Tm} (h : T3 L t) (hk : t.k = 14) : L t.lb := by cases t; exact (A0o.1 h).1 hk
theorem A9E {t : Tm} (h : Q7 t = true) : t.k = 14 := by unfold Q7 at h; exact (of_decide_eq_true h).1
theorem B4r (L : Int → Prop) (hL : ∀ l, L l → L (-l)) {k : Int} {ty fr : Ty} {lb : Int} {ks : List Tm} (hk : V5 L ks) (hl : k = 14 → L lb) : T3 L (N0 k ty fr lb ks).1 := by
 have a0 := A4J hk 0
 have a1 := A4J hk 1
 have a2 := A4J hk 2
 have b := fun i => A4J (B4q a0) i
 have st : T3 L Q9.1 := A0M
 unfold N0
 by_cases h6 : k = 6
 ·rw [if_pos h6]
  split
  ·exact A9c a1 _ (b 0)
  ·split
   ·rename_i h
    have h1 := A9D a0 (A9E h.1)
    exact A2q h1 (A59 (by decide) (by intro t ht; simp only [List.mem_cons, List.not_mem_nil, or_false] at ht; rcases ht with rfl | rfl; exact b 0; exact A2q (hL _ h1) a1))
   ·exact st
 rw [if_neg h6]
 by_cases h7 : k = 7 ∨ k = 8
 ·rw [if_pos h7]
  split
  ·show T3 L (if k = 7 then _ else _)
   split
   ·exact A0o.2 ⟨(fun h => by cases h), trivial⟩
   ·unfold X6; exact A59 (by split <;> decide) (by intro t ht; cases ht)
  ·exact st
 rw [if_neg h7]
 by_cases h9 : k = 9
 ·rw [if_pos h9]
  split
  ·exact a1
  ·split
   ·exact a2
   ·exact st
 rw [if_neg h9]
 by_cases h11 : k = 11 ∨ k = 12
 ·rw [if_pos h11]
  split
  ·exact b _
  ·split
   ·rename_i h
    exact A2q (A9D a0 (A9E h.1)) (A59 (by omega) (by intro t ht; rw [List.mem_singleton] at ht; rw [ht]; exact b 0))
   ·exact st
 rw [if_neg h11]
 by_cases h14 : k = 14
 ·rw [if_pos h14]
  have h1 := hl h14
  split
  ·exact a0
  ·split
   ·exact A2q h1 (A2q h1 a0)
   ·split
    ·exact A2q h1 (A2q h1 a0)
    ·split
     ·exact st
     ·split
      ·exact b 0
      ·exact A0M
 ·rw [if_neg h14]; exact st
theorem B4s (L : Int → Prop) (ks : List Tm) (ih : ∀ t ∈ ks, T3 L t → T3 L (H0 t).1) : ∀ (n : Nat) us c l, V5 L ks → Q6 n ks = some (us, c, l) → V5 L us := by
 induction ks with
 | nil => intro n us c l _ h; cases n <;> (rw [Q6] at h; cases h)
 | cons t ts ihl =>
  intro n us c l hs h
  rw [V5] at hs
  cases n with
  | zero => rw [Q6] at h; cases h
  | succ n =>
   rw [A2o] at h
   split at h
   ·split at h
    ·rename_i us' c' l' hs'
     cases h
     rw [V5]; exact ⟨hs.1, ihl (fun u hu => ih u (List.mem_cons_of_mem _ hu)) n us' c l hs.2 hs'⟩
    ·cases h
   ·cases h
    rw [V5]; exact ⟨ih t List.mem_cons_self hs.1, hs.2⟩
theorem A9F (L : Int → Prop) (hL : ∀ l, L l → L (-l)) : ∀ t, T3 L t → T3 L (H0 t).1 := by
 refine Tm.ind fun k nm num ty fr lb ks ih h => ?_
 obtain ⟨h1, h2⟩ := A0o.1 h
 rw [H0]
 split
 ·rename_i us c l hs
  split
  ·exact A0o.2 ⟨h1, B4s L ks ih _ us c l h2 hs⟩
  ·exact A0M
 ·exact B4r L hL h2 h1
mutual
theorem A6n : ∀ t, C7 (lz t) = C7 t
 | .mk k nm num ty fr lb ks => by rw [lz, C7, C7, A9G ks]
theorem A9G : ∀ ts, E5 (J9 ts) = E5 ts
 | [] => by rw [J9]
 | t :: ts => by rw [J9, E5, E5, A6n t, A9G ts]
end
abbrev LbV (t : Tm) : Prop := T3 (fun l => Y3 l = true) t
theorem B4t (ks : List Tm) (ih : ∀ t ∈ ks, ∀ (b : Tm) (d : Int), lz t = lz b → LbV b → P2 40 13 t d = true → P2 40 13 b d = true) :
  ∀ (bs : List Tm) (d : Int), J9 ks = J9 bs → V5 (fun l => Y3 l = true) bs → V3 40 13 ks d = true → V3 40 13 bs d = true := by
 induction ks with
 | nil =>
  intro bs d h _ _
  cases bs with
  | nil => rw [V3]
  | cons b bs => rw [J9, J9] at h; cases h
 | cons t ts ihl =>
  intro bs d h hl hs
  cases bs with
  | nil => rw [J9, J9] at h; cases h
  | cons b bs =>
   rw [J9, J9, List.cons.injEq] at h
   rw [V5] at hl
   rw [V3, Bool.and_eq_true] at hs ⊢
   exact ⟨ih t List.mem_cons_self b d h.1 hl.1 hs.1, ihl (fun u hu => ih u (List.mem_cons_of_mem _ hu)) bs d h.2 hl.2 hs.2⟩
theorem A9H : ∀ (a b : Tm) (d : Int), lz a = lz b → LbV b → P2 40 13 a d = true → P2 40 13 b d = true := by
 refine Tm.ind fun k nm num ty fr lb ks ih b d h hl hs => ?_
 obtain ⟨k', nm', num', ty', fr', lb', ks'⟩ := b
 rw [lz, lz] at h
 simp only [Tm.mk.injEq] at h
 obtain ⟨rfl, rfl, rfl, rfl, rfl, h6, h7⟩ := h
 have hlen : ks'.length = ks.length := by have := congrArg List.length h7; rw [A6h, A6h] at this; exact this.symm
 obtain ⟨h1, h2⟩ := A0o.1 hl
 obtain ⟨s1, s2, s3, s4⟩ := A00 hs
 rw [P2]
 simp only [Bool.and_eq_true, decide_eq_true_eq]
 refine ⟨⟨⟨s1, s2⟩, ?_⟩, B4t ks ih ks' _ h7 h2 s4⟩
 rw [hlen]
 obtain ⟨n1, n2, n3, n4, n5, n6, n7, n8, n9⟩ := V7.1 s3
 refine V7.2 ⟨n1, n2, n3, n4, n5, n6, n7, fun hk => ⟨(n8 hk).1, h1 hk⟩, fun hk => ?_⟩
 rw [if_neg hk, if_neg hk] at h6
 rw [← h6]; exact n9 hk
theorem A4K {a b : Tm} (h : lz a = lz b) (ha : LbV a) (hb : LbV b) : I2 a = I2 b := by
 have hc : C7 a = C7 b := by rw [← A6n a, h, A6n]
 cases h1 : I2 b with
 | true =>
  obtain ⟨s1, s2⟩ := (A0Z b).1 h1
  exact (A0Z a).2 ⟨A9H b a 1 h.symm ha s1, by omega⟩
 | false =>
  cases h2 : I2 a with
  | false => rfl
  | true =>
   obtain ⟨s1, s2⟩ := (A0Z a).1 h2
   rw [(A0Z b).2 ⟨A9H a b 1 h hb s1, by omega⟩] at h1
   cases h1
theorem A9I (l : Int) (h : Y3 l = true) : Y3 (-l) = true := by
 unfold Y3 at h ⊢
 rw [Bool.or_eq_true] at h ⊢
 rcases h with h | h
 ·have := A1B.1 h; exact .inr (A1B.2 ⟨by omega, by omega⟩)
 ·have := A1B.1 h; exact .inl (A1B.2 ⟨by omega, by omega⟩)
theorem A9J {a b : Tm} (h : lz a = lz b) (ha : LbV a) (hb : LbV b) : SL (H5 a) (H5 b) ∧ LbV (H5 a).1 ∧ LbV (H5 b).1 := by
 have hv := A4K h ha hb
 have hval : E7 a = E7 b := by rw [← A24 a, h, A24]
 obtain ⟨h1, h2⟩ := B4p h
 have la := A9F _ A9I a ha
 have lb := A9F _ A9I b hb
 have hv2 := A4K h2 la lb
 unfold H5
 rw [hv, hval, h1, hv2]
 split
 ·exact ⟨.rfl' _, A0M, A0M⟩
 ·split
  ·exact ⟨.mk1 h, ha, hb⟩
  ·split
   ·exact ⟨.mk1 rfl, A0M, A0M⟩
   ·split
    ·exact ⟨.rfl' _, A0M, A0M⟩
    ·exact ⟨.mk1 h2, la, lb⟩
theorem B4u : ∀ (n : Nat) {a b : Tm}, lz a = lz b → LbV a → LbV b → (H3 n a).2.1 = (H3 n b).2.1 ∧ lz (H3 n a).1 = lz (H3 n b).1 ∧ (H3 n a).2.2.2 = (H3 n b).2.2.2 ∧ LbV (H3 n a).1 ∧ LbV (H3 n b).1 := by
 intro n
 induction n with
 | zero =>
  intro a b h ha hb
  obtain ⟨⟨h1, h2⟩, h3, h4⟩ := A9J h ha hb
  rw [H3, H3, h1]
  split
  ·exact ⟨rfl, rfl, rfl, A0M, A0M⟩
  ·exact ⟨rfl, h2, rfl, h3, h4⟩
 | succ n ih =>
  intro a b h ha hb
  obtain ⟨⟨h1, h2⟩, h3, h4⟩ := A9J h ha hb
  rw [H3, H3, h1]
  split
  ·obtain ⟨g1, g2, g3, g4, g5⟩ := ih h2 h3 h4
   exact ⟨g1, g2, by show _ + 1 = _ + 1; rw [g3], g4, g5⟩
  ·exact ⟨rfl, h2, rfl, h3, h4⟩
mutual
theorem A6o : ∀ (t : Tm) (cx : Cx), E6 cx (lz t) = E6 cx t
 | .mk k nm num ty fr lb ks, cx => by rw [lz, E6, E6, A9K ks]
theorem A9K : ∀ (ts : List Tm) (cx : Cx), N8 cx (J9 ts) = N8 cx ts
 | [], cx => by rw [J9]
 | t :: ts, cx => by rw [J9, N8, N8, A6o t cx, A9K ts cx]
end
mutual
def N9 : Tm → Int → Tm × Int
 | .mk k nm num ty fr lb ks, n => (.mk k nm num ty fr (if k = 14 then (Q2 ks n).2 + 1 else lb) (Q2 ks n).1, if k = 14 then (Q2 ks n).2 + 1 else (Q2 ks n).2)
def Q2 : List Tm → Int → List Tm × Int
 | [], n => ([], n)
 | t :: ts, n => ((N9 t n).1 :: (Q2 ts (N9 t n).2).1, (Q2 ts (N9 t n).2).2)
end
mutual
theorem A6p : ∀ (t : Tm) (n : Int), lz (N9 t n).1 = lz t
 | .mk k nm num ty fr lb ks, n => by
  rw [N9, lz, lz, A9L ks n]
  split <;> rfl
theorem A9L : ∀ (ts : List Tm) (n : Int), J9 (Q2 ts n).1 = J9 ts
 | [], n => by rw [Q2]
 | t :: ts, n => by rw [Q2, J9, J9, A6p t n, A9L ts]
end
theorem B4v (ks : List Tm) (ih : ∀ t ∈ ks, ∀ n, Lbs (mLb (N9 t n).1) n (N9 t n).2 ∧ (N9 t n).2 = n + ((M6 t).length : Int)) : ∀ n, Lbs (A1m (Q2 ks n).1) n (Q2 ks n).2 ∧ (Q2 ks n).2 = n + ((M7 ks).length : Int) := by
 induction ks with
 | nil => intro n; rw [Q2, B4d]; exact ⟨.nil n, by rw [M7]; simp⟩
 | cons t ts ihl =>
  intro n
  obtain ⟨h1, h2⟩ := ih t List.mem_cons_self n
  obtain ⟨h3, h4⟩ := ihl (fun u hu => ih u (List.mem_cons_of_mem _ hu)) (N9 t n).2
  rw [Q2, B4e]
  exact ⟨h1.app h3, by show (Q2 ts (N9 t n).2).2 = _; rw [h4, h2, M7, List.length_append]; omega⟩
theorem A4L : ∀ (t : Tm) (n : Int), Lbs (mLb (N9 t n).1) n (N9 t n).2 ∧ (N9 t n).2 = n + ((M6 t).length : Int) := by
 refine Tm.ind fun k nm num ty fr lb ks ih n => ?_
 obtain ⟨h1, h2⟩ := B4v ks ih n
 rw [N9, M6]
 by_cases hk : k = 14
 ·simp only [if_pos hk]
  refine ⟨?_, by rw [h2, List.length_append]; simp; omega⟩
  have e : mLb (.mk k nm num ty fr ((Q2 ks n).2 + 1) (Q2 ks n).1) = ((Q2 ks n).2 + 1) :: A1m (Q2 ks n).1 := by
   unfold mLb A1m; rw [M6, if_pos hk]; rfl
  rw [e]
  refine ⟨by have := h1.le; omega, ?_, ?_, ?_⟩
  ·rw [List.nodup_cons]; exact ⟨fun hm => by have := h1.mem _ hm; omega, h1.nd⟩
  ·rw [List.length_cons]; have := h1.len; omega
  ·intro m hm
   rcases List.mem_cons.1 hm with rfl | hm
   ·have := h1.le; omega
   ·have := h1.mem m hm; omega
 ·simp only [if_neg hk]
  refine ⟨by rw [B4f hk]; exact h1, by rw [h2]; simp⟩
theorem A9M : ∀ t : Tm, cv t → LbV t := by
 refine Tm.ind fun k nm num ty fr lb ks ih h => ?_
 obtain ⟨hN, hk⟩ := h.node
 obtain ⟨d, hd⟩ := h
 obtain ⟨_, _, h3, _⟩ := A00 hd
 obtain ⟨_, _, _, _, _, _, _, n8, _⟩ := V7.1 h3
 exact A0o.2 ⟨fun h14 => (n8 h14).2, A2p.2 fun t ht => ih t ht (hk t ht)⟩
theorem A9N {t : Tm} (hv : I2 t = true) (hn : (M6 t).length ≤ 99) : I2 (N9 t 0).1 = true ∧ LbV (N9 t 0).1 := by
 obtain ⟨h1, h2⟩ := A4L t 0
 have hl : LbV (N9 t 0).1 := A9w _ fun c hc => by
  have := h1.mem c.lb (List.mem_map.2 ⟨c, hc, rfl⟩)
  unfold Y3
  rw [Bool.or_eq_true]
  exact .inl (A1B.2 ⟨by omega, by omega⟩)
 exact ⟨by rw [A4K (A6p t 0) hl (A9M t (A0m hv).1)]; exact hv, hl⟩
theorem mB8 : mB 8 = 1968200 := by decide
theorem B4w (br : Nat) (pb : Option Addr) (nb cb : Nat) (bs : List UInt8) (hnb : nb ≤ 2000) (p : Nat) (G : IM) (hb : Sl G pb nb cb 1 (N7 bs)) (hp : p + 9000000 < 1099511627776) :
  Fn Tryz.prog 59 [.pointer (some ⟨br, 0, none⟩)] [rd br pb nb cb p] G
   (Z2 br pb nb cb p 9000000 (fun G' v => ∃ e cells, v = .agg ⟨cells⟩ ∧ A7 G' e cells ∧ C7 e ≤ 2000000)) := by
 have hm8 := mB8
 refine B5 Tryz.func59 rfl Tryz.ntmps59 Tryz.results59 rfl ?_
 intro w0
 refine tS (tR ?_)
 refine sE (A5 rfl) rfl (fun b3 => ?_)
 refine sD (nS (tS (tS (tR (sQ (qA rfl) rfl (sD (nS ?_)))))))
 refine B9 ?_
 (refine K3 (fun (x : Nat × Nat × IM) => ⟨[(3, .int .i64 x.1), (0, .pointer (some ⟨br, 0, none⟩)), (2, .pointer (some ⟨b3, 0, none⟩))], [rd br pb nb cb x.2.1, .blk b3 [.int .i64 0, .string ⟨⟨[]⟩⟩, .int .i64 0, .int .i64 0, .slice none 0 0, .int .i64 0, .slice none 0 0, .int .i64 0, .slice none 0 0]], x.2.2⟩) (fun x => x.1 ≤ 4 ∧ B6 G x.2.2 ∧ p ≤ x.2.1 ∧ x.2.1 ≤ p + x.1 * 2000000) (fun x => 4 - x.1) (0, p, G) ?_ ?_ ?_)
 (simp only [I5]; exact D5)
 (exact ⟨by omega, B6.refl _, Nat.le_refl _, by dsimp only; omega⟩)
 (rintro ⟨(i : Nat), (p1 : Nat), G1⟩ ⟨hi, hleL, hpL, hpL2⟩; simp only [] at hi hleL hpL hpL2 ⊢; replace hb := hb.mono hleL)
 refine tS (tS (tR (sQ (qM rfl) rfl ?_)))
 refine sB (K1 rfl rfl) rfl rfl (fun h21 => ?_) (fun h21 => ?_)
 refine sD (nS (qT rfl (tK (nS (tS ?_)))))
 refine B9 ?_
 refine P6 ?_
 (refine J5 (C8 rfl rfl rfl (by omega) (by unfold maxLen; omega) rfl) rfl ?_; rintro _ ⟨b34, rfl⟩)
 (refine S7 (by repeat (first | exact Pk.here | apply Pk.there)) (fun Gf hlef hslf _ => ?_); refine H1 rfl (Z7 Gf br pb nb cb (p1) bs _ _ _ _ (hb.mono hlef) hnb (by omega) hslf (by decide)) (Pk.perm (by repeat (first | exact Pk.here | apply Pk.there))) rfl rfl (fun v Gm outs hlen hh => ?_); obtain ⟨rfl, rfl, hv⟩ := hh; replace hb := hb.mono hlef; obtain ⟨dd, rfl, hdd⟩ : ∃ d : Nat, v = .int .i64 ((d + 1 : Nat) : Int) ∧ d ≤ 2 := (by simp only [List.mem_cons, List.not_mem_nil, or_false] at hv; rcases hv with rfl | rfl | rfl | rfl <;> first | exact ⟨0, rfl, by decide⟩ | exact ⟨1, rfl, by decide⟩ | exact ⟨2, rfl, by decide⟩); have hdB := A5z hdd; replace hleL := hleL.trans hlef)
 (have hcall := A3s br pb nb cb bs hnb dd (p1 + 1) _ (by omega) hb (by omega); refine H1 rfl hcall (Pk.perm (by repeat (first | exact Pk.here | apply Pk.there))) rfl rfl (fun v Gn outs hleD hh => ?_); obtain ⟨pD, hpD1, hpD2, rfl, uD, cD, rfl, hrD, hsD, haD⟩ := hh; obtain ⟨qD, dD, eD, rfl, _⟩ := hrD.open; replace hb := hb.mono hleD; replace hleL := hleL.trans hleD)
 refine sQ (qM rfl) rfl ?_
 (refine J5 (C8 rfl rfl rfl (by omega) (by unfold maxLen; omega) rfl) rfl ?_; rintro _ ⟨b38, rfl⟩)
 (refine S7 (by repeat (first | exact Pk.here | apply Pk.there)) (fun Gf hlef hslf _ => ?_); refine H1 rfl (Z7 Gf br pb nb cb (pD) bs _ _ _ _ (hb.mono hlef) hnb (by omega) hslf (by decide)) (Pk.perm (by repeat (first | exact Pk.here | apply Pk.there))) rfl rfl (fun v Gm outs hlen hh => ?_); obtain ⟨rfl, rfl, hv⟩ := hh; replace hb := hb.mono hlef; replace hleL := hleL.trans hlef; replace hrD := hrD.mono hlef; obtain ⟨dp, rfl, hdp1, hdp2⟩ : ∃ d : Int, v = .int .i64 d ∧ 3 ≤ d ∧ d ≤ 5 := (by simp only [List.mem_cons, List.not_mem_nil, or_false] at hv; rcases hv with rfl | rfl | rfl | rfl <;> exact ⟨_, rfl, by decide, by decide⟩))
 (have hcall := B32 br pb nb cb bs hnb 8 dp uD (pD + 1) _ none 0 0 _ ⟨haD.le (by omega), by omega, by omega, .inr ⟨by omega, by omega⟩⟩ (by omega) (by omega) (by omega) (T7.nil _) hrD hb (by omega); refine H1 rfl hcall (Pk.perm (by repeat (first | exact Pk.here | apply Pk.there))) rfl rfl (fun v Gn outs hleM hh => ?_); obtain ⟨pM, hpM1, hpM2, rfl, eM, cM, rfl, hrM, hsmM, hcM⟩ := hh; have hlM := hrM.len; have hoM := hrM.one; replace hb := hb.mono hleM; replace hleL := hleL.trans hleM)
 refine sE (A5 rfl) rfl (fun b41 => ?_)
 refine O0 rfl rfl rfl hlM hoM rfl (by repeat first | exact Sw.here | apply Sw.there) (by exact C2 (by first | exact hlM.symm | omega)) ?_
 refine sD (nS (tS (tR ?_)))
 refine sL (A2 rfl rfl (A6 (by repeat first | exact mH | apply mT)) hlM) rfl rfl ?_
 (refine D3 rfl (A8d eM _ _ (by omega) hrM) rfl rfl (fun v G9 hle9 hh => ?_); obtain ⟨mt, mc, mx, rfl, hmr, hma, hms, hmv⟩ := hh; obtain ⟨pt, ct, et, rfl, _⟩ := hmr.open; replace hb := hb.mono hle9; replace hleL := hleL.trans hle9; replace hrM := hrM.mono hle9; cases mx)
 refine I6 ?_
 refine sE (A5 rfl) rfl (fun b52 => ?_)
 refine I7 ?_
 refine sP (J6 rfl rfl (by omega) (by omega)) rfl rfl ?_
 refine sQ (qA rfl) rfl (sD ?_)
 refine K0 (i + 1, pM, G9) ?_ ?_ ?_
 (simp only [I5]; exact D5)
 (dsimp only; exact ⟨by omega, hleL, by omega, by omega⟩)
 (show 4 - (i + 1) < 4 - i; omega)
 refine I6 ?_
 refine sE (A5 rfl) rfl (fun b78 => ?_)
 refine M9 ?_
 refine sL (A2 rfl rfl (A6 (by repeat first | exact mH | apply mT)) hlM) rfl rfl ?_
 refine O0 rfl rfl rfl hlM hoM rfl (by repeat first | exact Sw.here | apply Sw.there) (by exact C2 (by first | exact hlM.symm | omega)) ?_
 refine sD (nS (tT (rB (rS (A29 (rB (rS ?_)))))))
 refine H4 (outs := [rd br pb nb cb pM]) (rC rfl (A2 rfl rfl (A6 (by repeat first | exact mH | apply mT)) hlM)) (by repeat (first | exact A0.nil | refine A0.cons Pk.here ?_ | refine A0.cons (Pk.there Pk.here) ?_ | refine A0.cons (Pk.there (Pk.there Pk.here)) ?_ | apply A0.drop)) ?_
 (exact ⟨pM, by omega, by omega, rfl, eM, _, rfl, hrM, by omega⟩)
 refine J7 ?_
 (have hcall := B12 br pb nb cb bs hnb p1 _ hb (by omega); refine H1 rfl hcall (Pk.perm (by repeat (first | exact Pk.here | apply Pk.there))) rfl rfl (fun v Gn outs hleC hh => ?_); obtain ⟨pC, hpC1, hpC2, rfl, eC, cC, rfl, hrC, hcC⟩ := hh; have hlC := hrC.len; have hoC := hrC.one; have hcnt := A5m eC)
 refine O0 rfl rfl rfl hlC hoC rfl (by repeat first | exact Sw.here | apply Sw.there) (by exact C2 (by first | exact hlC.symm | omega)) ?_
 refine sD (nS (tT ?_))
 refine H4 (outs := [rd br pb nb cb pC]) (rC rfl (A2 rfl rfl (A6 (by repeat first | exact mH | apply mT)) hlC)) (by repeat (first | exact A0.nil | refine A0.cons Pk.here ?_ | refine A0.cons (Pk.there Pk.here) ?_ | refine A0.cons (Pk.there (Pk.there Pk.here)) ?_ | apply A0.drop)) ?_
 (exact ⟨pC, by omega, by omega, rfl, eC, _, rfl, hrC, by omega⟩)
def B4x (G : IM) : IM → Value → List A4 → Prop := K4 fun G' v => ∃ u cu t ct b, v = .tuple ⟨[.agg ⟨cu⟩, .agg ⟨ct⟩, .bool b]⟩ ∧ A7 G' u cu ∧ u.small ∧ C7 u ≤ 60 ∧ B3 G' t ct ∧ D4 t ∧ H2 t ≤ 960
theorem B4y (G : IM) : A7 G I3 [.int .i64 0, .string ⟨⟨[]⟩⟩, .int .i64 0, .int .i64 0, .slice none 0 0, .int .i64 0, .slice none 0 0, .int .i64 0, .slice none 0 0] := (P7.zero G).R
theorem B4z : I3.small := by simp [I3, Tm.small, Ty.small, Ty.smallL, Tm.smallL, ByteArray.size]
theorem B4A : C7 I3 = 1 := by simp [I3, C7, E5]
theorem B4B (e : Tm) (G : IM) (cells : List Value) (hcnt : C7 e ≤ 4294967296) (hr : A7 G e cells) :
  Fn Tryz.prog 103 [.agg ⟨cells⟩] [] G (B4x G) := by
 have hl := hr.len
 have hone := hr.one
 refine B5 Tryz.func103 rfl Tryz.ntmps103 Tryz.results103 rfl ?_
 intro w0
 refine tS (tR ?_)
 refine sE (C0 rfl rfl) rfl (fun b3 => ?_)
 refine sE (A5 rfl) rfl (fun b4 => ?_)
 refine sE (A5 rfl) rfl (fun b5 => ?_)
 refine sQ (qA rfl) rfl (sD (nS (tS (tR ?_))))
 refine sL (A2 rfl rfl (A6 (by repeat first | exact mH | apply mT)) (by assumption)) rfl rfl ?_
 (refine D3 rfl (A8d e _ _ (by omega) hr) rfl rfl (fun v G1 hle1 hh => ?_); obtain ⟨mt, mc, mx, rfl, hmr, hma, hms, hmv⟩ := hh; obtain ⟨pt, ct, et, rfl, _⟩ := hmr.open; cases mx)
 refine I6 ?_
 refine sE (A5 rfl) rfl (fun b16 => ?_)
 refine A1G ?_
 refine D2 (rC rfl (A3 rfl rfl)) (rC rfl (A3 rfl rfl)) (rT rfl) ?_
 (exact ⟨rfl, I3, _, .mk 0 [], _, _, rfl, B4y _, B4z, by rw [B4A]; omega, J8 _ ⟨by omega, by omega⟩, M4 (by omega) (by omega), by rw [X5]; omega⟩)
 refine I6 ?_
 refine sE (A5 rfl) rfl (fun b45 => ?_)
 refine K5 ?_
 refine sL (A2 rfl rfl (A6 (by repeat first | exact mH | apply mT)) (by assumption)) rfl rfl ?_
 (have hv := (A4i e).1 (hmv rfl); have hv2 := hv.2; have hI := B2k e 1 G1 none 0 0 1 cells hv.1 (by omega) (T7.nil _) (hr.mono hle1) (by omega) (by omega); refine D3 rfl hI rfl rfl (fun v G2 hle2 hh => ?_); obtain ⟨u, cu, t, tc, l3, rfl, hru, hu1, hu2, hrt, ht1, ht2, _⟩ := hh; obtain ⟨qt, dt, et2, rfl, _⟩ := hrt.open; have hlu := hru.len; have hou := hru.one)
 refine I8 ?_
 refine sE (A5 rfl) rfl (fun b68 => ?_)
 refine sE (A5 rfl) rfl (fun b69 => ?_)
 refine O0 rfl rfl rfl hlu hou rfl (by repeat first | exact Sw.here | apply Sw.there) (by exact C2 (by first | exact hlu.symm | omega)) ?_
 refine F8 ?_
 refine sQ (qA rfl) rfl (sD (nS (tS ?_)))
 refine C9 D1 rfl ?_
 refine L0 (i := 0) (l' := [tt,ff,ff,ff,ff]) rfl C4 (A2 rfl rfl (A6 (by repeat first | exact mH | apply mT)) hlu) rfl (by kernel_rfl) rfl rfl ?_
 refine aL 1 rfl (A3 rfl rfl) rfl ?_
 refine A1 2 ?_
 refine A0T rfl rfl rfl rfl hlu hou rfl rfl (by repeat first | exact Sw.here | apply Sw.there) (by exact C2 hlu.symm) (by repeat (first | exact A8.nil | apply A8.dep (by decide +kernel) | apply A8.blk (by decide +kernel) (by repeat (first | exact Pk.here | apply Pk.there)) (by repeat first | exact mH | apply mT))) ?_
 refine A1 3 ?_
 refine A0T rfl rfl rfl rfl rfl rfl rfl rfl (by repeat first | exact Sw.here | apply Sw.there) (by rfl) (by repeat (first | exact A8.nil | apply A8.dep (by decide +kernel) | apply A8.blk (by decide +kernel) (by repeat (first | exact Pk.here | apply Pk.there)) (by repeat first | exact mH | apply mT))) ?_
 refine aP 4 rfl (qA rfl) rfl ?_
 refine B8 (nS (tT ?_))
 refine D2 (rC rfl (A2 rfl rfl (A6 (by repeat first | exact mH | apply mT)) hlu)) (rC rfl (A3 rfl rfl)) (rT rfl) ?_
 (exact ⟨rfl, u, _, t, _, _, rfl, hru, hu1, by omega, hrt, ht1, by omega⟩)
theorem A1X (br : Nat) (pb : Option Addr) (nb cb : Nat) (bs : List UInt8) (hnb : nb ≤ 2000) (p : Nat) (G : IM) (hb : Sl G pb nb cb 1 (N7 bs)) (hp : p + 200 < 1099511627776) (t : Tm) (cells : List Value) (N : Nat) (hfit : t.fit N) (hr : A7 G t cells) :
  Fn Tryz.prog 47 [.pointer (some ⟨br, 0, none⟩), .agg ⟨cells⟩] [rd br pb nb cb p] G
   (Z2 br pb nb cb p 100 (fun G' v => ∃ t cells, v = .agg ⟨cells⟩ ∧ A7 G' t cells ∧ t.fit N)) := by
 have hl := hr.len
 have hone := hr.one
 refine B5 Tryz.func47 rfl Tryz.ntmps47 Tryz.results47 rfl ?_
 intro w0
 refine tS (tR ?_)
 refine sE (C0 rfl rfl) rfl (fun b3 => ?_)
 refine sE (A5 rfl) rfl (fun b4 => ?_)
 refine sD (nS (tS (tR (sQ (qM rfl) rfl ?_))))
 refine sL (A2 rfl rfl (A6 (by repeat first | exact mH | apply mT)) (by assumption)) rfl rfl ?_
 (have hcall := B2c br pb nb cb bs hnb p _ hb (by omega) t cells N hfit hr; refine H1 rfl hcall (Pk.perm (by repeat (first | exact Pk.here | apply Pk.there))) rfl rfl (fun v Gn outs hle1 hh => ?_); obtain ⟨p1, hp11, hp12, rfl, t1, c1, rfl, hr1, hf1, hc1⟩ := hh; obtain ⟨k, nm, num, ⟨tk, tks⟩, ⟨fk, fks⟩, lb, ks⟩ := t1; obtain ⟨q1, d1, q2, d2, q3, d3, es, rfl, hk, hnum, hlb, hty, hfr, hsl, hkl⟩ := hr1.open9; have hsm := hf1; simp only [Tm.small] at hsm; obtain ⟨hs1, hs2, hs3, _⟩ := hsm; replace hb := hb.mono hle1)
 refine sE (A5 rfl) rfl (fun b12 => ?_)
 refine F8 ?_
 refine sD (nS (tS (tS (tR (sQ (qM rfl) rfl ?_)))))
 (refine H1 rfl (S8 _ br pb nb cb (p1) bs 40 hb hnb (by omega)) (Pk.perm (by repeat (first | exact Pk.here | apply Pk.there))) rfl rfl (fun v Gp outs hle20 hh => ?_); obtain ⟨rfl, rfl, j20, rfl, hj20, hk20⟩ := hh; skip)
 replace hr1 := hr1.mono hle20
 replace hty := hty.mono hle20
 replace hfr := hfr.mono hle20
 replace hsl := hsl.mono hle20
 replace hkl := hkl.mono hle20
 replace hb := hb.mono hle20
 refine sD (nS ?_)
 refine B9 (tS (tR (sB (qE rfl rfl) rfl rfl (fun h26 => ?_) (fun h26 => ?_))))
 refine sQ (qA rfl) rfl (sD (nS (qT rfl (tR (sQ (qM rfl) rfl ?_)))))
 (refine J5 (C8 rfl rfl rfl (by omega) (by unfold maxLen; omega) rfl) rfl ?_; rintro _ ⟨b33, rfl⟩)
 (refine S7 (by repeat (first | exact Pk.here | apply Pk.there)) (fun Gf hlef hslf _ => ?_); refine H1 rfl (Z7 Gf br pb nb cb (p1 + 1) bs _ _ _ _ (hb.mono hlef) hnb (by omega) hslf (by decide)) (Pk.perm (by repeat (first | exact Pk.here | apply Pk.there))) rfl rfl (fun v Gm outs hlen hh => ?_); obtain ⟨rfl, rfl, hv⟩ := hh; replace hb := hb.mono hlef; obtain ⟨kn, rfl, hkn⟩ : ∃ k, v = .int .i64 k ∧ F4 k := (by simp only [List.mem_cons, List.not_mem_nil, or_false] at hv; rcases hv with rfl | rfl | rfl | rfl <;> exact ⟨_, rfl, by unfold F4; omega⟩); have hrN := A7.of9 (nm := nm) hk hnum hkn (hty.mono hlef) (hfr.mono hlef) (hsl.mono hlef) (hkl.mono hlef))
 refine M9 ?_
 refine H4 (outs := [rd br pb nb cb (p1 + 1 + 1)]) (rC rfl (A3 rfl rfl)) (by repeat (first | exact A0.nil | refine A0.cons Pk.here ?_ | refine A0.cons (Pk.there Pk.here) ?_ | refine A0.cons (Pk.there (Pk.there Pk.here)) ?_ | apply A0.drop)) ?_
 (exact ⟨p1 + 1 + 1, by omega, by omega, rfl, _, _, rfl, hrN, A1A hf1 hs1 hs2 hs3, hc1⟩)
 refine sQ (qA rfl) rfl (sD (nS (cF rfl (tS (tR ?_)))))
 refine sB (qE rfl rfl) rfl rfl (fun h55 => ?_) (fun h55 => ?_)
 refine D0 ?_
 (have hcall := A7Z br pb nb cb bs hnb (p1 + 1) _ hb (by omega); refine H1 rfl hcall (Pk.perm (by repeat (first | exact Pk.here | apply Pk.there))) rfl rfl (fun v Gn outs hle3 hh => ?_); obtain ⟨p3, hp31, hp32, rfl, t3, cells3, rfl, hr3, hs4⟩ := hh; replace hb := hb.mono hle3)
 (have hcall := A70 br pb nb cb bs hnb p3 _ hb (by omega) t3 cells3 hr3 hs4; refine H1 rfl hcall (Pk.perm (by repeat (first | exact Pk.here | apply Pk.there))) rfl rfl (fun v Gn outs hle4 hh => ?_); obtain ⟨p4, hp41, hp42, rfl, t4, cells4, rfl, hr4, hs5⟩ := hh; have hts4 := A2G t4 (by omega); obtain ⟨t4k, t4s⟩ := t4; obtain ⟨q4, c4, es4, rfl, _⟩ := hr4.open; have hle24 := hle3.trans hle4; have hrM := A7.of9 (nm := nm) hk hnum hlb (hty.mono hle24) hr4 (hsl.mono hle24) (hkl.mono hle24))
 refine M9 ?_
 refine H4 (outs := [rd br pb nb cb p4]) (rC rfl (A3 rfl rfl)) (by repeat (first | exact A0.nil | refine A0.cons Pk.here ?_ | refine A0.cons (Pk.there Pk.here) ?_ | refine A0.cons (Pk.there (Pk.there Pk.here)) ?_ | apply A0.drop)) ?_
 (exact ⟨p4, by omega, by omega, rfl, _, _, rfl, hrM, A1A hf1 hs1 hs2 hts4, hc1⟩)
 refine L1 ?_
 refine H4 (outs := [rd br pb nb cb (p1 + 1)]) (rC rfl (A3 rfl rfl)) (by repeat (first | exact A0.nil | refine A0.cons Pk.here ?_ | refine A0.cons (Pk.there Pk.here) ?_ | refine A0.cons (Pk.there (Pk.there Pk.here)) ?_ | apply A0.drop)) ?_
 (exact ⟨p1 + 1, by omega, by omega, rfl, _, _, rfl, hr1, hf1, hc1⟩)
theorem A9O (br : Nat) (pb : Option Addr) (nb cb : Nat) (bs : List UInt8) (hnb : nb ≤ 2000) (p : Nat) (G : IM) (hb : Sl G pb nb cb 1 (N7 bs)) (hp : p + 9100000 < 1099511627776) :
  Fn Tryz.prog 44 [.pointer (some ⟨br, 0, none⟩)] [rd br pb nb cb p] G
   (Z2 br pb nb cb p 9100000 (fun G' v => ∃ e cells, v = .agg ⟨cells⟩ ∧ A7 G' e cells ∧ e.fit 100)) := by
 refine B5 Tryz.func44 rfl Tryz.ntmps44 Tryz.results44 rfl ?_
 intro w0
 refine tS (tR ?_)
 refine sE (A5 rfl) rfl (fun b3 => ?_)
 refine sD (nS (tS (tR (sQ (qM rfl) rfl ?_))))
 (have hcall := B4w br pb nb cb bs hnb p _ hb (by omega); refine H1 rfl hcall (Pk.perm (by repeat (first | exact Pk.here | apply Pk.there))) rfl rfl (fun v Gn outs hleT hh => ?_); obtain ⟨pT, hpT1, hpT2, rfl, eT, cT, rfl, hrT, hcT⟩ := hh; replace hb := hb.mono hleT)
 (refine D3 rfl (B4B eT _ _ (by omega) hrT) rfl rfl (fun v G9 hle9 hh => ?_); obtain ⟨u0, cu0, t0, ct0, ok0, rfl, hru0, hsu0, hcu0, hrt0, hat0, hst0⟩ := hh; have hl0 := hru0.len; have ho0 := hru0.one; have hl1 := hrt0.len; have ho1 := hrt0.one; replace hb := hb.mono hle9; cases ok0)
 refine I8 ?_
 refine sE (A5 rfl) rfl (fun b15 => ?_)
 refine sE (A5 rfl) rfl (fun b16 => ?_)
 refine O0 rfl rfl rfl hl0 ho0 rfl (by repeat first | exact Sw.here | apply Sw.there) (by exact C2 (by first | exact hl0.symm | omega)) ?_
 refine O0 rfl rfl rfl hl1 ho1 rfl (by repeat first | exact Sw.here | apply Sw.there) (by exact C2 (by first | exact hl1.symm | omega)) ?_
 refine J4 ?_
 refine E8 rfl ((A1L _ _)) rfl rfl ?_
 refine F8 ?_
 refine sD (nS (tT (rS ?_)))
 refine H4 (outs := [rd br pb nb cb pT]) (rC rfl (A3 rfl rfl)) (by repeat (first | exact A0.nil | refine A0.cons Pk.here ?_ | refine A0.cons (Pk.there Pk.here) ?_ | refine A0.cons (Pk.there (Pk.there Pk.here)) ?_ | apply A0.drop)) ?_
 (exact ⟨pT, by omega, by omega, rfl, _, _, rfl, A1d ⟨by omega, by omega⟩ ⟨by omega, by omega⟩, A7w _ (by rw [A1z]; decide), by simp only [C7, E5]; omega⟩)
 refine I8 ?_
 refine sE (A5 rfl) rfl (fun b44 => ?_)
 refine sE (A5 rfl) rfl (fun b45 => ?_)
 refine O0 rfl rfl rfl hl0 ho0 rfl (by repeat first | exact Sw.here | apply Sw.there) (by exact C2 (by first | exact hl0.symm | omega)) ?_
 refine O0 rfl rfl rfl hl1 ho1 rfl (by repeat first | exact Sw.here | apply Sw.there) (by exact C2 (by first | exact hl1.symm | omega)) ?_
 refine R2 ?_
 (refine H1 rfl (S8 _ br pb nb cb (pT) bs 3 hb hnb (by omega)) (Pk.perm (by repeat (first | exact Pk.here | apply Pk.there))) rfl rfl (fun v Gp outs hle65 hh => ?_); obtain ⟨rfl, rfl, j65, rfl, hj65, hk65⟩ := hh; obtain ⟨i0, rfl⟩ := Int.eq_ofNat_of_zero_le hj65; have hi0 := hk65)
 replace hru0 := hru0.mono hle65
 replace hrt0 := hrt0.mono hle65
 replace hb := hb.mono hle65
 refine sQ (qA rfl) rfl (sD (nS ?_))
 refine B9 ?_
 (refine K3 (fun (x : Nat × List Value × List Value × Nat × IM) => ⟨[(6, .int .i64 x.1), (0, .pointer (some ⟨br, 0, none⟩)), (2, .pointer (some ⟨b3, 0, none⟩)), (3, .pointer (some ⟨b44, 0, none⟩)), (4, .pointer (some ⟨b45, 0, none⟩))], [.blk b44 x.2.1, .blk b45 x.2.2.1, rd br pb nb cb x.2.2.2.1, .blk b3 [.int .i64 0, .string ⟨⟨[]⟩⟩, .int .i64 0, .int .i64 0, .slice none 0 0, .int .i64 0, .slice none 0 0, .int .i64 0, .slice none 0 0]], x.2.2.2.2⟩) (fun x => x.1 ≤ 2 ∧ B6 Gp x.2.2.2.2 ∧ (∃ e, A7 x.2.2.2.2 e x.2.1 ∧ e.small ∧ C7 e + x.1 ≤ 62) ∧ (∃ t, B3 x.2.2.2.2 t x.2.2.1 ∧ D4 t ∧ H2 t ≤ 960) ∧ pT + 1 ≤ x.2.2.2.1 ∧ x.2.2.2.1 + x.1 * 2000 ≤ pT + 1 + 4000) (fun x => x.1) (i0, cu0, ct0, pT + 1, Gp) ?_ ?_ ?_)
 (simp only [I5]; exact D5)
 (exact ⟨by dsimp only; omega, B6.refl _, ⟨u0, hru0, hsu0, by dsimp only; omega⟩, ⟨t0, hrt0, hat0, hst0⟩, Nat.le_refl _, by dsimp only; omega⟩)
 (rintro ⟨(i : Nat), ce, ct, (p1 : Nat), G1⟩ ⟨hi, hleL, ⟨e, hre, hse, hce⟩, ⟨t, hrt, hat, hst⟩, hpL, hpL2⟩; simp only [] at hi hleL hre hse hce hrt hat hst hpL hpL2 ⊢; replace hb := hb.mono hleL; have hl2 := hre.len; have ho2 := hre.one; have hl3 := hrt.len; have ho3 := hrt.one; have hnt := A0d t)
 refine tS (tS (tR (sQ (qM rfl) rfl ?_)))
 refine sB (W2 rfl rfl) rfl rfl (fun h78 => ?_) (fun h78 => ?_)
 refine sD (nS (qT rfl (tK (nS (tS ?_)))))
 (show I9 _ _ (.block 1 ..) _ _; obtain ⟨j, rfl⟩ : ∃ j, i = j + 1 := ⟨i - 1, by omega⟩; refine B9 ?_)
 refine tS (tR (sQ (qM rfl) rfl ?_))
 refine sL (A2 rfl rfl (A6 (by repeat first | exact mH | apply mT)) hl3) rfl rfl ?_
 (have hcall := A4m br pb nb cb bs hnb t p1 _ _ hat hrt hb (by omega); refine H1 rfl hcall (Pk.perm (by repeat (first | exact Pk.here | apply Pk.there))) rfl rfl (fun v Gn outs hleu hh => ?_); obtain ⟨p2, hp21, hp22, rfl, u, cu, rfl, hru, hua, hus, huh⟩ := hh; have hl4 := hru.len; have ho4 := hru.one; replace hb := hb.mono hleu; replace hrt := hrt.mono hleu; replace hre := hre.mono hleu; replace hleL := hleL.trans hleu)
 refine sE (A5 rfl) rfl (fun b91 => ?_)
 refine O0 rfl rfl rfl hl4 ho4 rfl (by repeat first | exact Sw.here | apply Sw.there) (by exact C2 (by first | exact hl4.symm | omega)) ?_
 refine sD (nS (tS (tS (tR (sQ (qM rfl) rfl ?_)))))
 (refine H1 rfl (S8 _ br pb nb cb (p2) bs 2 hb hnb (by omega)) (Pk.perm (by repeat (first | exact Pk.here | apply Pk.there))) rfl rfl (fun v Gp outs hle99 hh => ?_); obtain ⟨rfl, rfl, j99, rfl, hj99, hk99⟩ := hh; have hpickA := hj99)
 replace hru := hru.mono hle99
 replace hb := hb.mono hle99
 replace hrt := hrt.mono hle99
 replace hre := hre.mono hle99
 refine sB (qE rfl rfl) rfl rfl (fun h100 => ?_) (fun h100 => ?_)
 refine sD (nS (qT rfl (tR (sQ (qM rfl) rfl ?_))))
 (have hcall := A7Y br pb nb cb bs hnb (p2 + 1) _ hb (by omega); refine H1 rfl hcall (Pk.perm (by repeat (first | exact Pk.here | apply Pk.there))) rfl rfl (fun v Gn outs hlew hh => ?_); obtain ⟨p3, hp31, hp32, rfl, w, cw, rfl, hrw, hws, hwh⟩ := hh; have hl5 := hrw.len; have ho5 := hrw.one; have hwa := hwh.ar; replace hb := hb.mono hlew; replace hrt := hrt.mono hlew; replace hre := hre.mono hlew; replace hleL := hleL.trans hlew)
 refine O0 rfl rfl rfl hl5 ho5 rfl (by repeat first | exact Sw.here | apply Sw.there) (by exact C2 (by first | exact hl5.symm | omega)) ?_
 refine sD (nS (tS (tR ?_)))
 refine sL (A2 rfl rfl (A6 (by repeat first | exact mH | apply mT)) hl3) rfl rfl ?_
 refine sL (A2 rfl rfl (A6 (by repeat first | exact mH | apply mT)) hl5) rfl rfl ?_
 refine F9 rfl ((A01 t w _ _ _ hat hwa hrt hrw)) rfl rfl (fun h114 => ?_) (fun h114 => ?_)
 refine sD (nS (qT rfl (tS (tR (sQ (qM rfl) rfl ?_)))))
 refine sP (J6 rfl rfl (by omega) (by omega)) rfl rfl ?_
 refine D0 ?_
 (refine H1 rfl (S8 _ br pb nb cb (p3) bs 3 hb hnb (by omega)) (Pk.perm (by repeat (first | exact Pk.here | apply Pk.there))) rfl rfl (fun v Gp outs hle129 hh => ?_); obtain ⟨rfl, rfl, j129, rfl, hj129, hk129⟩ := hh; have hpickB := hwa)
 replace hrw := hrw.mono hle129
 replace hb := hb.mono hle129
 replace hrt := hrt.mono hle129
 replace hre := hre.mono hle129
 refine sB (qE rfl rfl) rfl rfl (fun h130 => ?_) (fun h130 => ?_)
 refine sD (nS (qT rfl (tR (sQ (qM rfl) rfl ?_))))
 refine sP (A2w rfl (by omega) (by omega)) rfl rfl ?_
 refine sQ (qA rfl) rfl (sD (nS (tS (tR ?_))))
 refine sL (A2 rfl rfl (A6 (by repeat first | exact mH | apply mT)) hl2) rfl rfl ?_
 refine sL (A2 rfl rfl (A6 (by repeat first | exact mH | apply mT)) hl3) rfl rfl ?_
 refine sL (A2 rfl rfl (A6 (by repeat first | exact mH | apply mT)) hl5) rfl rfl ?_
 refine sQ (qM rfl) rfl ?_
 (refine D3 rfl (A3u e t w _ _ _ _ _ (by omega) hre hrt hrw hat hwa) rfl rfl (fun v G8 hle8 hh => ?_); obtain ⟨y, cy, ly, rfl, hry, hsy, hcy, _⟩ := hh; have hl6 := hry.len; have ho6 := hry.one; replace hb := hb.mono hle8; have hrN := hrw.mono hle8; replace hleL := hleL.trans hle8; have hNa := hwa; have hNs : H2 w ≤ 960 := (by omega))
 refine I6 ?_
 refine O0 rfl rfl rfl hl6 ho6 rfl (by repeat first | exact Sw.here | apply Sw.there) (by exact C2 (by first | exact hl6.symm | omega)) ?_
 refine sD (nS (tR ?_))
 refine sL (A2 rfl rfl (A6 (by repeat first | exact mH | apply mT)) hl5) rfl rfl ?_
 refine O0 rfl rfl rfl hl5 ho5 rfl (by repeat first | exact Sw.here | apply Sw.there) (by exact C2 (by first | exact hl5.symm | omega)) ?_
 refine sD (M8 (nS (tR (sQ (qM rfl) rfl ?_))))
 refine sP (A09 rfl rfl (by omega)) rfl rfl ?_
 refine sQ (qA rfl) rfl (sD ?_)
 refine K0 (j, cy, cw, p3 + 1, G8) ?_ ?_ ?_
 (simp only [I5]; exact D5)
 (dsimp only; exact ⟨by omega, hleL, ⟨y, hry, hsy hse, by omega⟩, ⟨_, hrN, hNa, hNs⟩, by omega, by omega⟩)
 (show _ < _ + 1; omega)
 refine sD (nS (cF rfl (tK (nS (tS (tR ?_))))))
 refine sL (A2 rfl rfl (A6 (by repeat first | exact mH | apply mT)) hl2) rfl rfl ?_
 refine sL (A2 rfl rfl (A6 (by repeat first | exact mH | apply mT)) hl3) rfl rfl ?_
 refine sL (A2 rfl rfl (A6 (by repeat first | exact mH | apply mT)) hl5) rfl rfl ?_
 refine sQ (qM rfl) rfl ?_
 (refine D3 rfl (A3u e t w _ _ _ _ _ (by omega) hre hrt hrw hat hwa) rfl rfl (fun v G8 hle8 hh => ?_); obtain ⟨y, cy, ly, rfl, hry, hsy, hcy, _⟩ := hh; have hl6 := hry.len; have ho6 := hry.one; replace hb := hb.mono hle8; have hrN := hrw.mono hle8; replace hleL := hleL.trans hle8; have hNa := hwa; have hNs : H2 w ≤ 960 := (by omega))
 refine I6 ?_
 refine O0 rfl rfl rfl hl6 ho6 rfl (by repeat first | exact Sw.here | apply Sw.there) (by exact C2 (by first | exact hl6.symm | omega)) ?_
 refine sD (nS (tR ?_))
 refine sL (A2 rfl rfl (A6 (by repeat first | exact mH | apply mT)) hl5) rfl rfl ?_
 refine O0 rfl rfl rfl hl5 ho5 rfl (by repeat first | exact Sw.here | apply Sw.there) (by exact C2 (by first | exact hl5.symm | omega)) ?_
 refine sD (M8 (nS (tR (sQ (qM rfl) rfl ?_))))
 refine sP (A09 rfl rfl (by omega)) rfl rfl ?_
 refine sQ (qA rfl) rfl (sD ?_)
 refine K0 (j, cy, cw, p3 + 1, G8) ?_ ?_ ?_
 (simp only [I5]; exact D5)
 (dsimp only; exact ⟨by omega, hleL, ⟨y, hry, hsy hse, by omega⟩, ⟨_, hrN, hNa, hNs⟩, by omega, by omega⟩)
 (show _ < _ + 1; omega)
 refine D8 ?_
 refine sP (A09 rfl rfl (by omega)) rfl rfl ?_
 refine sQ (qA rfl) rfl (sD ?_)
 refine K0 (j, ce, ct, p3, Gn) ?_ ?_ ?_
 (simp only [I5]; exact D5)
 (dsimp only; exact ⟨by omega, hleL, ⟨e, hre, hse, by omega⟩, ⟨t, hrt, hat, hst⟩, by omega, by omega⟩)
 (show _ < _ + 1; omega)
 refine sD (nS (cF rfl (tK (nS (tS (tR ?_))))))
 refine sL (A2 rfl rfl (A6 (by repeat first | exact mH | apply mT)) hl3) rfl rfl ?_
 refine sL (A2 rfl rfl (A6 (by repeat first | exact mH | apply mT)) hl4) rfl rfl ?_
 refine F9 rfl ((A01 t u _ _ _ hat hua hrt hru)) rfl rfl (fun h225 => ?_) (fun h225 => ?_)
 refine sD (nS (qT rfl (tS (tR (sQ (qM rfl) rfl ?_)))))
 refine sP (J6 rfl rfl (by omega) (by omega)) rfl rfl ?_
 refine D0 ?_
 (refine H1 rfl (S8 _ br pb nb cb (p2 + 1) bs 3 hb hnb (by omega)) (Pk.perm (by repeat (first | exact Pk.here | apply Pk.there))) rfl rfl (fun v Gp outs hle240 hh => ?_); obtain ⟨rfl, rfl, j240, rfl, hj240, hk240⟩ := hh; have hpickB := hua)
 replace hru := hru.mono hle240
 replace hb := hb.mono hle240
 replace hrt := hrt.mono hle240
 replace hre := hre.mono hle240
 refine sB (qE rfl rfl) rfl rfl (fun h241 => ?_) (fun h241 => ?_)
 refine sD (nS (qT rfl (tR (sQ (qM rfl) rfl ?_))))
 refine sP (A2w rfl (by omega) (by omega)) rfl rfl ?_
 refine sQ (qA rfl) rfl (sD (nS (tS (tR ?_))))
 refine sL (A2 rfl rfl (A6 (by repeat first | exact mH | apply mT)) hl2) rfl rfl ?_
 refine sL (A2 rfl rfl (A6 (by repeat first | exact mH | apply mT)) hl3) rfl rfl ?_
 refine sL (A2 rfl rfl (A6 (by repeat first | exact mH | apply mT)) hl4) rfl rfl ?_
 refine sQ (qM rfl) rfl ?_
 (refine D3 rfl (A3u e t u _ _ _ _ _ (by omega) hre hrt hru hat hua) rfl rfl (fun v G8 hle8 hh => ?_); obtain ⟨y, cy, ly, rfl, hry, hsy, hcy, _⟩ := hh; have hl6 := hry.len; have ho6 := hry.one; replace hb := hb.mono hle8; have hrN := hru.mono hle8; replace hleL := hleL.trans hle8; have hNa := hua; have hNs : H2 u ≤ 960 := (by omega))
 refine I6 ?_
 refine O0 rfl rfl rfl hl6 ho6 rfl (by repeat first | exact Sw.here | apply Sw.there) (by exact C2 (by first | exact hl6.symm | omega)) ?_
 refine sD (nS (tR ?_))
 refine sL (A2 rfl rfl (A6 (by repeat first | exact mH | apply mT)) hl4) rfl rfl ?_
 refine O0 rfl rfl rfl hl4 ho4 rfl (by repeat first | exact Sw.here | apply Sw.there) (by exact C2 (by first | exact hl4.symm | omega)) ?_
 refine sD (M8 (nS (tR (sQ (qM rfl) rfl ?_))))
 refine sP (A09 rfl rfl (by omega)) rfl rfl ?_
 refine sQ (qA rfl) rfl (sD ?_)
 refine K0 (j, cy, cu, p2 + 1 + 1, G8) ?_ ?_ ?_
 (simp only [I5]; exact D5)
 (dsimp only; exact ⟨by omega, hleL, ⟨y, hry, hsy hse, by omega⟩, ⟨_, hrN, hNa, hNs⟩, by omega, by omega⟩)
 (show _ < _ + 1; omega)
 refine sD (nS (cF rfl (tK (nS (tS (tR ?_))))))
 refine sL (A2 rfl rfl (A6 (by repeat first | exact mH | apply mT)) hl2) rfl rfl ?_
 refine sL (A2 rfl rfl (A6 (by repeat first | exact mH | apply mT)) hl3) rfl rfl ?_
 refine sL (A2 rfl rfl (A6 (by repeat first | exact mH | apply mT)) hl4) rfl rfl ?_
 refine sQ (qM rfl) rfl ?_
 (refine D3 rfl (A3u e t u _ _ _ _ _ (by omega) hre hrt hru hat hua) rfl rfl (fun v G8 hle8 hh => ?_); obtain ⟨y, cy, ly, rfl, hry, hsy, hcy, _⟩ := hh; have hl6 := hry.len; have ho6 := hry.one; replace hb := hb.mono hle8; have hrN := hru.mono hle8; replace hleL := hleL.trans hle8; have hNa := hua; have hNs : H2 u ≤ 960 := (by omega))
 refine I6 ?_
 refine O0 rfl rfl rfl hl6 ho6 rfl (by repeat first | exact Sw.here | apply Sw.there) (by exact C2 (by first | exact hl6.symm | omega)) ?_
 refine sD (nS (tR ?_))
 refine sL (A2 rfl rfl (A6 (by repeat first | exact mH | apply mT)) hl4) rfl rfl ?_
 refine O0 rfl rfl rfl hl4 ho4 rfl (by repeat first | exact Sw.here | apply Sw.there) (by exact C2 (by first | exact hl4.symm | omega)) ?_
 refine sD (M8 (nS (tR (sQ (qM rfl) rfl ?_))))
 refine sP (A09 rfl rfl (by omega)) rfl rfl ?_
 refine sQ (qA rfl) rfl (sD ?_)
 refine K0 (j, cy, cu, p2 + 1 + 1, G8) ?_ ?_ ?_
 (simp only [I5]; exact D5)
 (dsimp only; exact ⟨by omega, hleL, ⟨y, hry, hsy hse, by omega⟩, ⟨_, hrN, hNa, hNs⟩, by omega, by omega⟩)
 (show _ < _ + 1; omega)
 refine D8 ?_
 refine sP (A09 rfl rfl (by omega)) rfl rfl ?_
 refine sQ (qA rfl) rfl (sD ?_)
 refine K0 (j, ce, ct, p2 + 1, Gp) ?_ ?_ ?_
 (simp only [I5]; exact D5)
 (dsimp only; exact ⟨by omega, hleL, ⟨e, hre, hse, by omega⟩, ⟨t, hrt, hat, hst⟩, by omega, by omega⟩)
 (show _ < _ + 1; omega)
 refine H8 ?_
 refine sL (A2 rfl rfl (A6 (by repeat first | exact mH | apply mT)) hl2) rfl rfl ?_
 refine O0 rfl rfl rfl (by assumption) (by assumption) rfl (by repeat first | exact Sw.here | apply Sw.there) (by exact C2 (by symm; assumption)) ?_
 refine sD (nS (tT ?_))
 refine H4 (outs := [rd br pb nb cb p1]) (rC rfl (A2 rfl rfl (A6 (by repeat first | exact mH | apply mT)) hl2)) (by repeat (first | exact A0.nil | refine A0.cons Pk.here ?_ | refine A0.cons (Pk.there Pk.here) ?_ | refine A0.cons (Pk.there (Pk.there Pk.here)) ?_ | apply A0.drop)) ?_
 (exact ⟨p1, by omega, by omega, rfl, e, _, rfl, hre, hse, by omega⟩)
def B6B (G : IM) : IM → Value → List A4 → Prop := K4 fun G' v => ∃ t cells l q c, v = .tuple ⟨[.agg ⟨cells⟩, .slice q l.length c]⟩ ∧ A7 G' t cells ∧ t.fit 100 ∧ Sl G' q l.length c 1 (S4 l) ∧ l.length ≤ 100
def A3I (ts : List Tm) (G : IM) : IM → Value → List A4 → Prop := K4 fun G' v => ∃ p c es, v = .slice p ts.length c ∧ C5 G' p ts.length c 9 es ∧ C6 G' ts es
theorem A3I.mk {ts : List Tm} {n : Nat} {G G' : IM} {p : Option Addr} {c : Nat} {es : List (List Value)} (hn : ts.length = n) (hs : Sl G' p n c 9 es.flatten) (hr : C6 G' ts es) : A3I ts G G' (.slice p n c) [] := by
 subst hn
 exact ⟨rfl, p, c, es, rfl, C5.of hs hr.len hr.all (fun e he => by obtain ⟨q, hq⟩ := List.getElem?_of_mem he; exact (hr.inv hq I3).2.one), hr⟩
theorem A6q : ∀ (t : Tm) (G : IM) (cells : List Value), C7 t ≤ 1000000 → A7 G t cells → Fn Tryz.prog 96 [.agg ⟨cells⟩] [] G (A3I (M6 t) G) := by
 refine Tm.ind fun k nm num ty fr lb ks ih G cells hcnt hr => ?_
 have hone := hr.one
 have hself := hr
 have hc14 : k = 14 → M6 (.mk k nm num ty fr lb ks) = [.mk k nm num ty fr lb ks] ++ M7 ks := fun h => by rw [M6, if_pos h]
 have hcne : k ≠ 14 → M6 (.mk k nm num ty fr lb ks) = [] ++ M7 ks := fun h => by rw [M6, if_neg h]
 rw [C7] at hcnt
 obtain ⟨tk, tks⟩ := ty
 obtain ⟨fk, fks⟩ := fr
 obtain ⟨pt, ct, pf, cf, q, cq, ek, rfl, hk, hnum, hlb, hty, hfr, hsl, hkl⟩ := hr.open9
 have hn := hsl.le
 refine B5 Tryz.func96 rfl Tryz.ntmps96 Tryz.results96 rfl ?_
 intro w0
 refine tS (tR ?_)
 refine sE (C0 rfl rfl) rfl (fun b3 => ?_)
 refine J4 ?_
 refine sB (qE rfl rfl) rfl rfl (fun h17 => ?_) (fun h17 => ?_)
 refine sD (nS (qT rfl ?_))
 (show I9 _ _ (.region 3 ..) _ _; refine T9 28 9 ?_; refine tR ?_)
 refine sQ (qM rfl) rfl (sL (A3 rfl rfl) rfl rfl ?_)
 (refine J5 (C8 rfl rfl rfl (by omega) (by unfold maxLen; omega) rfl) rfl ?_; rintro _ ⟨b24, rfl⟩)
 (refine A07 rfl rfl rfl rfl rfl (fun _ _ => by repeat (first | exact Sw.here | apply Sw.there)) (P9 (by repeat first | exact mH | apply mT)) rfl (by simp [Value.oneCell']) (by unfold maxLen; omega) (by omega) rfl (fun pn0 cn0 => ?_))
 refine M9 ?_
 refine B9 ?_
 (have h14 := hc14 (by omega); have hinit := C6.one1 hself; refine K3 (fun (x : Nat × Nat × Option Addr × Nat × List (List Value) × IM) => ⟨[(16, .int .i64 x.1), (15, .int .i64 ks.length), (14, .slice q ks.length cq), (3, .slice x.2.2.1 x.2.1 x.2.2.2.1)], [.slc x.2.2.1 x.2.2.2.1 28 9 x.2.1 x.2.2.2.2.1.flatten], x.2.2.2.2.2⟩) (fun x => x.1 ≤ ks.length ∧ B6 G x.2.2.2.2.2 ∧ C6 x.2.2.2.2.2 ([.mk k nm num (.mk tk tks) (.mk fk fks) lb ks] ++ M7 (ks.take x.1)) x.2.2.2.2.1 ∧ ([Tm.mk k nm num (.mk tk tks) (.mk fk fks) lb ks] ++ M7 (ks.take x.1)).length = x.2.1) (fun x => ks.length - x.1) (0, 1, pn0, cn0, [[.int .i64 k, .string nm, .int .i64 num, .int .i64 tk, .slice pt tks.length ct, .int .i64 fk, .slice pf fks.length cf, .int .i64 lb, .slice q ks.length cq]], G) ?_ ?_ ?_)
 (simp only [I5]; exact D5)
 (exact ⟨Nat.zero_le _, B6.refl _, by simpa [M7] using hinit, by simp [M7]⟩)
 (rintro ⟨(i : Nat), (m : Nat), pn, cn, es, Gi⟩ ⟨hi, hle, hst, hlen⟩; simp only [] at hi hle hst hlen ⊢; replace hsl := hsl.mono hle; replace hkl := hkl.mono hle; have hb1 := A1D (ks.take i); have hb2 := A1D ks; simp only [List.length_append, List.length_singleton, List.length_nil] at hlen)
 refine tS (tR ?_)
 refine sB (K1 rfl rfl) rfl rfl (fun h45 => ?_) (fun h45 => ?_)
 refine sD (nS (tS (qT rfl (tK (nS (tS ?_))))))
 refine B9 ?_
 refine tS (tR ?_)
 (obtain ⟨b, o, e, rfl, hl, hat, hre, hgb⟩ := hsl.kidTm hkl (i := i) (by omega) (by omega); have hone9 := hre.one; have hsc := A2E (ks := ks) (i := i) (by omega); have hsk := A2c (ks := ks) (i := i) (by omega); refine sP (B0 rfl rfl rfl (by omega)) rfl rfl ?_)
 refine sL (A2 rfl rfl (hat _) hl) rfl rfl ?_
 refine sE (A5 rfl) rfl (fun b58 => ?_)
 refine sS rfl rfl rfl hl hone9 rfl ?_ (hu := by exact C2 hl.symm)
 refine sD (nS (tR (sQ (qM rfl) rfl ?_)))
 refine sL (A2 rfl rfl (A6 (by repeat first | exact mH | apply mT)) hl) rfl rfl ?_
 (refine D3 rfl (ih ks[i] (List.getElem_mem (by omega)) _ _ (by omega) hre) rfl rfl (fun v G3 hle3 hh => ?_); obtain ⟨p3, c3, e3, rfl, hs3, hr3⟩ := hh; have hlk := A2r ks[i]; refine A9s (cs := es.flatten) (by repeat (first | exact Pk.here | apply Pk.there)) (fun hcap => ?_))
 (refine A3r rfl rfl rfl rfl rfl (fun _ _ => by repeat (first | exact Sw.here | apply Sw.there)) hs3.1 hr3.ones hcap (by unfold maxLen; omega) (by omega) rfl (fun p4 c4 => ?_))
 refine sQ (qA rfl) rfl (sD (M8 (nS (tR ?_))))
 refine sP (J6 rfl rfl (by omega) (by omega)) rfl rfl ?_
 refine sQ (qM rfl) rfl (sD ?_)
 (have hap := C6.append (hst.mono hle3) hr3; refine K0 (i + 1, m + (M6 ks[i]).length, p4, c4, es ++ e3, G3) (by simp only [List.flatten_append]; exact (N3 (by repeat (first | exact E9.nil | refine E9.cons rfl ?_)) (by repeat (first | exact A0.refl | exact A0.nil | refine A0.cons (by repeat (first | exact Pk.here | apply Pk.there)) ?_ | apply A0.drop)))) ?_ ?_)
 (dsimp only; exact ⟨by omega, hle.trans hle3, by rw [A4G (by omega), ← List.append_assoc]; exact hap, by rw [A4G (by omega)]; simp only [List.length_append, List.length_singleton, List.length_nil]; omega⟩)
 (show ks.length - (i + 1) < ks.length - i; omega)
 refine I7 ?_
 (refine H7 (cs := es.flatten) (by repeat (first | exact Pk.here | apply Pk.there)) (fun G5 hle5 hsl5 hno5 => ?_); obtain rfl : i = ks.length := (by omega))
 refine tT (E2 (rT rfl) ?_)
 (rw [h14]; rw [List.take_length] at hst hlen; exact A3I.mk (by simp only [List.length_append, List.length_singleton, List.length_nil]; omega) hsl5 (hst.mono hle5))
 refine L1 ?_
 refine B9 ?_
 (have h14 := hcne (by omega); refine T9 28 9 ?_; refine K3 (fun (x : Nat × Nat × Option Addr × Nat × List (List Value) × IM) => ⟨[(16, .int .i64 x.1), (15, .int .i64 ks.length), (14, .slice q ks.length cq), (3, .slice x.2.2.1 x.2.1 x.2.2.2.1)], [.slc x.2.2.1 x.2.2.2.1 28 9 x.2.1 x.2.2.2.2.1.flatten], x.2.2.2.2.2⟩) (fun x => x.1 ≤ ks.length ∧ B6 G x.2.2.2.2.2 ∧ C6 x.2.2.2.2.2 ([] ++ M7 (ks.take x.1)) x.2.2.2.2.1 ∧ ([] ++ M7 (ks.take x.1)).length = x.2.1) (fun x => ks.length - x.1) (0, 0, none, 0, [], G) ?_ ?_ ?_)
 (simp only [I5]; exact D5)
 (exact ⟨Nat.zero_le _, B6.refl _, by simp [M7, C6], by simp [M7]⟩)
 (rintro ⟨(i : Nat), (m : Nat), pn, cn, es, Gi⟩ ⟨hi, hle, hst, hlen⟩; simp only [] at hi hle hst hlen ⊢; replace hsl := hsl.mono hle; replace hkl := hkl.mono hle; have hb1 := A1D (ks.take i); have hb2 := A1D ks; simp only [List.length_append, List.length_singleton, List.length_nil] at hlen)
 refine tS (tR ?_)
 refine sB (K1 rfl rfl) rfl rfl (fun h118 => ?_) (fun h118 => ?_)
 refine sD (nS (tS (qT rfl (tK (nS (tS ?_))))))
 refine B9 ?_
 refine tS (tR ?_)
 (obtain ⟨b, o, e, rfl, hl, hat, hre, hgb⟩ := hsl.kidTm hkl (i := i) (by omega) (by omega); have hone9 := hre.one; have hsc := A2E (ks := ks) (i := i) (by omega); have hsk := A2c (ks := ks) (i := i) (by omega); refine sP (B0 rfl rfl rfl (by omega)) rfl rfl ?_)
 refine sL (A2 rfl rfl (hat _) hl) rfl rfl ?_
 refine sE (A5 rfl) rfl (fun b131 => ?_)
 refine sS rfl rfl rfl hl hone9 rfl ?_ (hu := by exact C2 hl.symm)
 refine sD (nS (tR (sQ (qM rfl) rfl ?_)))
 refine sL (A2 rfl rfl (A6 (by repeat first | exact mH | apply mT)) hl) rfl rfl ?_
 (refine D3 rfl (ih ks[i] (List.getElem_mem (by omega)) _ _ (by omega) hre) rfl rfl (fun v G3 hle3 hh => ?_); obtain ⟨p3, c3, e3, rfl, hs3, hr3⟩ := hh; have hlk := A2r ks[i]; refine A9s (cs := es.flatten) (by repeat (first | exact Pk.here | apply Pk.there)) (fun hcap => ?_))
 (refine A3r rfl rfl rfl rfl rfl (fun _ _ => by repeat (first | exact Sw.here | apply Sw.there)) hs3.1 hr3.ones hcap (by unfold maxLen; omega) (by omega) rfl (fun p4 c4 => ?_))
 refine sQ (qA rfl) rfl (sD (M8 (nS (tR ?_))))
 refine sP (J6 rfl rfl (by omega) (by omega)) rfl rfl ?_
 refine sQ (qM rfl) rfl (sD ?_)
 (have hap := C6.append (hst.mono hle3) hr3; refine K0 (i + 1, m + (M6 ks[i]).length, p4, c4, es ++ e3, G3) (by simp only [List.flatten_append]; exact (N3 (by repeat (first | exact E9.nil | refine E9.cons rfl ?_)) (by repeat (first | exact A0.refl | exact A0.nil | refine A0.cons (by repeat (first | exact Pk.here | apply Pk.there)) ?_ | apply A0.drop)))) ?_ ?_)
 (dsimp only; exact ⟨by omega, hle.trans hle3, by rw [A4G (by omega), ← List.append_assoc]; exact hap, by rw [A4G (by omega)]; simp only [List.length_append, List.length_singleton, List.length_nil]; omega⟩)
 (show ks.length - (i + 1) < ks.length - i; omega)
 refine I7 ?_
 (refine H7 (cs := es.flatten) (by repeat (first | exact Pk.here | apply Pk.there)) (fun G5 hle5 hsl5 hno5 => ?_); obtain rfl : i = ks.length := (by omega))
 refine tT (E2 (rT rfl) ?_)
 (rw [h14]; rw [List.take_length] at hst hlen; exact A3I.mk (by simp only [List.length_append, List.length_singleton, List.length_nil]; omega) hsl5 (hst.mono hle5))
def B6C (ts : List Ty) (G : IM) : IM → Value → List A4 → Prop := K4 fun G' v => ∃ p c es, v = .slice p ts.length c ∧ C5 G' p ts.length c 2 es ∧ E3 G' ts es
theorem A9P (zs : List Int) (j : Nat) (h : j < zs.length) : (S4 zs)[j]? = some (.int .i64 zs[j]) := by simp [S4, h]
theorem A9Q {w : World} {p : Option Addr} {c el : Nat} {zs : List Int} (h : (A4.slc p c el 1 zs.length (S4 zs)).ok w) (h0 : zs ≠ []) :
  ∃ g cur, p = some ⟨g, 0, none⟩ ∧ w.heap[g]? = some (.cells cur el (0, 0)) ∧ zs.length ≤ c ∧ c ≤ maxLen ∧ cur.size = c ∧ cur.toList.take zs.length = S4 zs := by
 obtain ⟨_, h⟩ := h
 rcases h with ⟨_, hn⟩ | ⟨g, cap, cur, hv, _, hg, h1, h2, h3, h4⟩
 ·exact absurd (List.length_eq_zero_iff.1 hn) h0
 ·simp only [Value.slice.injEq] at hv
  obtain ⟨rfl, _, rfl⟩ := hv
  exact ⟨g, cur, rfl, hg, h1, h2, by omega, by rw [Nat.mul_one] at h4; exact h4⟩
theorem A9R {w : World} {g el : Nat} {cur : Array Value} {zs : List Int} (hg : w.heap[g]? = some (.cells cur el (0, 0))) (ht : cur.toList.take zs.length = S4 zs) : Sort.Holds (Value.int .i64) w g 0 zs.toArray := by
 intro j hj
 have hj' : j < zs.length := by simpa using hj
 have hc : cur[j]? = some (.int .i64 zs[j]) := by
  have h1 := A9P zs j hj'
  rw [← ht, List.getElem?_take, if_pos hj'] at h1
  simpa using h1
 refine ⟨?_, ?_⟩
 ·unfold World.cell?
  simp only [hg, Nat.zero_add, Option.isSome_none, Bool.false_eq_true, if_false, hc]
  have hg9 : zs.toArray[j]! = zs[j] := by rw [getElem!_pos zs.toArray j hj]; simp
  rw [hg9]
 ·unfold World.frozen?
  simp [hg]
theorem A9S {G : IM} {w : World} {g c el n : Nat} {cur : Array Value} {zs ds : List Int} (hw : S3 [.slc (some ⟨g, 0, none⟩) c el 1 zs.length (S4 zs)] G w) (hg : w.heap[g]? = some (.cells cur el (0, 0))) (hc : zs.length ≤ c) (hc2 : c ≤ maxLen) (hs : cur.size = c)
  (hd : ds.length = zs.length) (hn : n ≤ zs.length) (k : Nat) (os : Array Obj) :
  P1 [.slc (some ⟨g, 0, none⟩) c el 1 zs.length (S4 zs)] G w [.slc (some ⟨g, 0, none⟩) c el 1 n (S4 (ds.take n))] G (Sort.grow (Sort.putRow (Value.int .i64) (Sort.ahead w k) g 0 ds.toArray) os) := by
 have hlt := A0g hg
 have hb : ∀ b, b < w.heap.size → b ≠ g → (Sort.grow (Sort.putRow (Value.int .i64) (Sort.ahead w k) g 0 ds.toArray) os).heap[b]? = w.heap[b]? := by
  intro b h hne
  show ((w.heap.modify g _) ++ os)[b]? = _
  rw [Array.getElem?_append_left (by simpa using h), Array.getElem?_modify, if_neg (fun e => hne e.symm)]
 have hgb : (Sort.grow (Sort.putRow (Value.int .i64) (Sort.ahead w k) g 0 ds.toArray) os).heap[g]? = some (.cells (Sort.putCells (Value.int .i64) 0 ds.toArray cur) el (0, 0)) := by
  show ((w.heap.modify g _) ++ os)[g]? = _
  rw [Array.getElem?_append_left (by simpa using hlt), Array.getElem?_modify, if_pos rfl, hg]
  rfl
 have hdis : G g = none := hw.disj g (by simp [Fp, A4.fp, J2])
 have hne : ∀ b l, G b = some l → b ≠ g := by rintro b l h rfl; rw [hdis] at h; cases h
 refine ⟨⟨?_, ?_, by simp [Fp, A4.fp, J2], ?_⟩, ⟨rfl, rfl, rfl, ?_, ?_⟩, B6.refl _, fun _ _ h => .inl h, ?_, fun b l h h0 => absurd h (by rw [h0]; simp)⟩
 ·intro b l h
  obtain ⟨e, f, hh⟩ := hw.inn b l h
  exact ⟨e, f, by rw [hb b (A0g hh) (hne b l h)]; exact hh⟩
 ·intro e he
  simp at he
  subst he
  refine ⟨by rw [A7a, List.length_take]; omega, .inr ⟨g, c, _, rfl, Nat.zero_le _, hgb, by omega, hc2, ?_, ?_⟩⟩
  ·simp [Sort.putCells, hs]
  ·apply List.ext_getElem?
   intro j
   rw [List.getElem?_take]
   by_cases hj : j < n
   ·have hj2 : j < ds.length := by omega
    rw [if_pos (by omega), A9P _ _ (by rw [List.length_take]; omega), List.getElem_take]
    simp only [Sort.putCells, Array.getElem?_toList, Array.getElem?_mapIdx]
    have hcur : cur[j]? = some cur[j] := Array.getElem?_eq_getElem (by omega)
    rw [hcur]
    simp only [Option.map_some, Nat.zero_le, true_and, Nat.zero_add, List.size_toArray, hj2, if_true, Nat.sub_zero]
    rw [getElem!_pos _ _ (by simpa using hj2)]
    simp
   ·rw [if_neg (by omega), List.getElem?_eq_none (by rw [A7a, List.length_take]; omega)]
 ·intro b h
  simp [Fp, A4.fp, J2] at h
  subst h; exact hdis
 ·show w.heap.size ≤ ((w.heap.modify g _) ++ os).size
  simp
 ·intro b h hnb
  exact hb b h (by rintro rfl; exact hnb (by simp [Fp, A4.fp, J2]))
 ·intro b h
  exact .inr (by simpa [Fp, A4.fp, J2] using h)
def S5 (zs : List Int) : List Int := zs.mergeSort fun x y => decide (x ≤ y)
theorem B4C (zs : List Int) (G : IM) (p : Option Addr) (c el : Nat) (hz : zs.length ≤ 4294967296) :
  Fn Tryz.prog 100 [.slice p zs.length c] [.slc p c el 1 zs.length (S4 zs)] G (fun G' v outs => G' = G ∧ v = .tuple #[] ∧ outs = [.slc p c el 1 zs.length (S4 (S5 zs))]) := by
 refine ⟨fun w hw => ?_⟩
 by_cases h0 : zs = []
 ·subst h0
  refine (Tryz.slices_Sort_int_none p c w).mono ?_
  rintro e w' ⟨rfl, rfl⟩
  exact ⟨_, G, _, rfl, P1.refl hw, rfl, rfl, by unfold S5; rw [List.mergeSort_nil]⟩
 ·obtain ⟨g, cur, rfl, hg, h1, h2, h3, h4⟩ := A9Q (hw.ok _ List.mem_cons_self) h0
  refine (Tryz.slices_Sort_int g 0 c zs w (A9R hg h4) (A0g hg) (by omega)).mono ?_
  rintro e w' ⟨rfl, n, os, rfl⟩
  have hl : (S5 zs).length = zs.length := by unfold S5; exact List.length_mergeSort _
  have := A9S (n := zs.length) (ds := S5 zs) hw hg h1 h2 h3 hl (Nat.le_refl _) n os
  rw [← hl, List.take_length, hl] at this
  exact ⟨_, G, _, rfl, this, rfl, rfl, rfl⟩
theorem B4D (zs : List Int) : (Lib.compact zs).length ≤ zs.length := by
 unfold Lib.compact Lib.compactUpTo
 rw [List.length_map]
 have := List.length_filter_le (Lib.keeps zs.toArray) (List.range zs.length)
 rw [List.length_range] at this
 exact this
theorem B4E (zs : List Int) (G : IM) (p : Option Addr) (c el : Nat) (hz : zs.length ≤ 4294967296) :
  Fn Tryz.prog 101 [.slice p zs.length c] [.slc p c el 1 zs.length (S4 zs)] G (fun G' v outs => G' = G ∧ v = .slice p (Lib.compact zs).length c ∧ outs = [.slc p c el 1 (Lib.compact zs).length (S4 (Lib.compact zs))]) := by
 refine ⟨fun w hw => ?_⟩
 by_cases h0 : zs = []
 ·subst h0
  refine (Tryz.slices_Compact_int_empty p c w).mono ?_
  rintro e w' ⟨rfl, rfl⟩
  exact ⟨_, G, _, rfl, P1.refl hw, rfl, rfl, rfl⟩
 ·obtain ⟨g, cur, rfl, hg, h1, h2, h3, h4⟩ := A9Q (hw.ok _ List.mem_cons_self) h0
  refine (Tryz.slices_Compact_int g 0 c zs w (A9R hg h4) (by omega) h1).mono ?_
  rintro e w' ⟨rfl, n, rfl⟩
  have hcl := B4D zs
  have := A9S (n := (Lib.compact zs).length) (ds := Lib.compact zs ++ List.replicate (zs.length - (Lib.compact zs).length) 0) hw hg h1 h2 h3 (by simp; omega) hcl n #[]
  rw [List.take_left] at this
  have hgr : ∀ w : World, Sort.grow w #[] = w := fun w => by unfold Sort.grow; simp
  rw [hgr] at this
  exact ⟨_, G, _, rfl, this, rfl, rfl, rfl⟩
theorem A3J (zs : List Int) : (S5 zs).Perm zs := List.mergeSort_perm _ _
theorem B4F {zs : List Int} (h : zs.Nodup) : Lib.compact (S5 zs) = S5 zs := by
 refine Lib.compact_all _ fun j hj => ?_
 have hn : (S5 zs).Nodup := (A3J zs).nodup_iff.2 h
 unfold Lib.keeps
 refine decide_eq_true ?_
 by_cases h0 : j = 0
 ·exact .inl h0
 ·refine .inr ?_
  rw [getElem!_pos (S5 zs).toArray j (by simpa using hj), getElem!_pos (S5 zs).toArray (j - 1) (by simp; omega)]
  simp only [List.getElem_toArray]
  exact fun he => (List.pairwise_iff_getElem.1 hn (j - 1) j (by omega) hj (by omega)) he.symm
def V6 (t : Tm) : List Int := if I2 t = true then Lib.compact (S5 ((M6 t).map Tm.lb)) else []
theorem B4G {ks : List Tm} {i : Nat} (h : i < ks.length) : (ks.take (i + 1)).map Tm.lb = (ks.take i).map Tm.lb ++ [ks[i].lb] := by
 rw [List.take_succ_eq_append_getElem h, List.map_append]; rfl
theorem B4H (t : Tm) (G : IM) (cells : List Value) (hr : A7 G t cells) :
  Fn Tryz.prog 40 [.agg ⟨cells⟩] [] G (fun G' v outs => ∃ p c, v = .slice p (V6 t).length c ∧ (outs = [] ∧ V6 t = [] ∨ outs = [.slc p c 3 1 (V6 t).length (S4 (V6 t))])) := by
 have hl := hr.len
 have hone := hr.one
 have hV := A1x t G cells hr
 have hno : I2 t = false → V6 t = [] := fun h => by unfold V6; rw [if_neg (by rw [h]; decide)]
 have hyes : I2 t = true → V6 t = Lib.compact (S5 ((M6 t).map Tm.lb)) := fun h => by unfold V6; rw [if_pos h]
 have hcc := fun h : I2 t = true => (A0m h).2
 have hcl := A2r t
 generalize I2 t = CV at *
 obtain ⟨L, hL⟩ : ∃ L, M6 t = L := ⟨_, rfl⟩
 refine B5 Tryz.func40 rfl Tryz.ntmps40 Tryz.results40 rfl ?_
 intro w0
 refine tS (tR ?_)
 refine sE (C0 rfl rfl) rfl (fun b3 => ?_)
 refine sQ (qA rfl) rfl (sD (nS (tS (tS (tR ?_)))))
 refine sL (A2 rfl rfl (A6 (by repeat first | exact mH | apply mT)) hl) rfl rfl ?_
 refine F9 rfl (hV) rfl rfl (fun h11 => ?_) (fun h11 => ?_)
 refine L1 ?_
 refine sL (A2 rfl rfl (A6 (by repeat first | exact mH | apply mT)) hl) rfl rfl ?_
 (have hcv := hcc (by assumption); have hy2 := hyes (by assumption); refine D3 rfl (A6q t G cells (by omega) hr) rfl rfl (fun v1 G1 hle1 hh => ?_); obtain ⟨p1, c1, e1, rfl, hs1, hr1⟩ := hh; rw [hL] at hs1 hr1 hy2 hcl ⊢)
 refine sQ (pLn rfl rfl) rfl (sQ (qM rfl) rfl (sD (nS ?_)))
 refine B9 ?_
 (refine T9 3 1 ?_; refine K3 (fun (x : Nat × Option Addr × Nat) => ⟨[(12, .int .i64 x.1), (11, .int .i64 L.length), (10, .slice p1 L.length c1), (3, .slice x.2.1 x.1 x.2.2)], [.slc x.2.1 x.2.2 3 1 x.1 (S4 ((L.take x.1).map Tm.lb))], G1⟩) (fun x => x.1 ≤ L.length) (fun x => L.length - x.1) (0, none, 0) ?_ ?_ ?_)
 (simp only [I5]; exact D5)
 exact Nat.zero_le _
 (rintro ⟨(i : Nat), pn, cn⟩ hi; simp only [] at hi ⊢)
 refine tS (tR ?_)
 refine sB (K1 rfl rfl) rfl rfl (fun h39 => ?_) (fun h39 => ?_)
 refine sD (nS (tS (qT rfl (tK (nS (tS ?_))))))
 refine B9 ?_
 refine tS (tR ?_)
 (obtain ⟨b, o, e, rfl, hel, hat, hre, hgb⟩ := hs1.kidTm hr1 (i := i) (by omega) (by omega); obtain ⟨qt, dt, et, qf, df, ef, q3, d3, es3, rfl, _⟩ := hre.open; refine sP (B0 rfl rfl rfl (by omega)) rfl rfl ?_)
 refine sL (A2 rfl rfl (hat _) hel) rfl rfl ?_
 refine sE (A5 rfl) rfl (fun b52 => ?_)
 refine D0 ?_
 (refine J5 (C8 rfl rfl rfl (by omega) (by unfold maxLen; omega) rfl) rfl ?_; rintro _ ⟨b60, rfl⟩)
 (refine A07 rfl rfl rfl rfl rfl (fun _ _ => by repeat (first | exact Sw.here | apply Sw.there)) (P9 (by repeat first | exact mH | apply mT)) rfl (by simp [Value.oneCell']) (by unfold maxLen; omega) (by omega) rfl (fun p8 c8 => ?_))
 refine sQ (qA rfl) rfl (sD (M8 (nS (tR ?_))))
 refine sP (J6 rfl rfl (by omega) (by omega)) rfl rfl ?_
 refine sQ (qM rfl) rfl (sD ?_)
 (have hst := B4G (ks := L) (i := i) (by omega); refine K0 (i + 1, p8, c8) (by rw [hst, B09]; exact (N3 (by repeat (first | exact E9.nil | refine E9.cons rfl ?_)) (by repeat (first | exact A0.refl | exact A0.nil | refine A0.cons (by repeat (first | exact Pk.here | apply Pk.there)) ?_ | apply A0.drop)))) ?_ ?_)
 (show i + 1 ≤ L.length; omega)
 (show L.length - (i + 1) < L.length - i; omega)
 refine M9 ?_
 (obtain rfl : i = L.length := (by omega); rw [List.take_length]; have hml : (L.map Tm.lb).length = L.length := List.length_map _; have hS := B4C (L.map Tm.lb) G1 pn cn 3 (by omega); rw [hml] at hS; refine H1 rfl hS (Pk.perm (by repeat (first | exact Pk.here | apply Pk.there))) rfl rfl (fun v2 G2 outs hle2 hh => ?_); obtain ⟨rfl, rfl, rfl⟩ := hh)
 refine sD (nS (tS (tR (sQ (qM rfl) rfl ?_))))
 (have hsl : (S5 (L.map Tm.lb)).length = L.length := (by rw [(A3J _).length_eq]; exact hml); have hK := B4E (S5 (L.map Tm.lb)) G2 pn cn 3 (by omega); rw [hsl] at hK; refine H1 rfl hK (Pk.perm (by repeat (first | exact Pk.here | apply Pk.there))) rfl rfl (fun v3 G3 outs hle3 hh => ?_); obtain ⟨rfl, rfl, rfl⟩ := hh)
 refine sQ (qA rfl) rfl (sD (nS (tT ?_)))
 refine H4 (outs := [.slc pn cn 3 1 (Lib.compact (S5 (L.map Tm.lb))).length (S4 (Lib.compact (S5 (L.map Tm.lb))))]) (rT rfl) (A0.cons (by repeat (first | exact Pk.here | apply Pk.there)) A0.nil) ?_
 (rw [hy2]; exact ⟨pn, cn, rfl, .inr rfl⟩)
 refine M9 ?_
 (rw [hno (by assumption)]; exact ⟨none, 0, rfl, .inl ⟨rfl, rfl⟩⟩)
mutual
theorem A6r : ∀ t, R0 (lz t) = R0 t
 | .mk k nm num ty fr lb ks => by
  rw [lz, R0, R0, B4I ks]
  rfl
theorem B4I : ∀ ts, A3D (J9 ts) = A3D ts
 | [] => by rw [J9]
 | t :: ts => by rw [J9, A3D, A3D, A6r t]
end
theorem B4J {l : List Int} (hs : ∀ i j (hi : i < l.length) (hj : j < l.length), i < j → l[i] < l[j]) (hm : ∀ x ∈ l, 0 < x ∧ x ≤ (l.length : Int)) : ∀ i (hi : i < l.length), l[i] = (i : Int) + 1 := by
 have lo : ∀ i (hi : i < l.length), (i : Int) + 1 ≤ l[i] := by
  intro i
  induction i with
  | zero => intro hi; have := (hm _ (List.getElem_mem hi)).1; omega
  | succ i ih =>
   intro hi
   have h1 := ih (by omega)
   have h2 := hs i (i + 1) (by omega) hi (by omega)
   omega
 have up : ∀ n i (hi : i < l.length), l.length - 1 - i = n → l[i] ≤ (i : Int) + 1 := by
  intro n
  induction n with
  | zero => intro i hi he; have := (hm _ (List.getElem_mem hi)).2; omega
  | succ n ih =>
   intro i hi he
   have h1 := ih (i + 1) (by omega) (by omega)
   have h2 := hs i (i + 1) hi (by omega) (by omega)
   omega
 intro i hi
 have := lo i hi
 have := up _ i hi rfl
 omega
theorem B4K (zs : List Int) (h : zs.Nodup) : ∀ i j (hi : i < (S5 zs).length) (hj : j < (S5 zs).length), i < j → (S5 zs)[i] < (S5 zs)[j] := by
 intro i j hi hj hij
 have h1 : List.Pairwise (fun a b : Int => decide (a ≤ b) = true) (S5 zs) := List.pairwise_mergeSort (fun a b c hab hbc => by simp at *; omega) (fun a b => by simp; omega) zs
 have hn : (S5 zs).Nodup := (A3J zs).nodup_iff.2 h
 have h2 := List.pairwise_iff_getElem.1 h1 i j hi hj hij
 have h3 := List.pairwise_iff_getElem.1 hn i j hi hj hij
 have h4 : (S5 zs)[i] ≤ (S5 zs)[j] := of_decide_eq_true h2
 omega
theorem B4L {t : Tm} (hv : I2 t = true) (hn : (M6 t).length ≤ 99) : (V6 (N9 t 0).1).length = (M6 t).length ∧ ∀ i (hi : i < (V6 (N9 t 0).1).length), (V6 (N9 t 0).1)[i] = (i : Int) + 1 := by
 obtain ⟨h1, h2⟩ := A4L t 0
 obtain ⟨h3, _⟩ := A9N hv hn
 have he : V6 (N9 t 0).1 = S5 (mLb (N9 t 0).1) := by unfold V6; rw [if_pos h3]; exact B4F h1.nd
 have hlen : (S5 (mLb (N9 t 0).1)).length = (M6 t).length := by rw [(A3J _).length_eq]; have := h1.len; omega
 rw [he]
 refine ⟨hlen, B4J (B4K _ h1.nd) fun x hx => ?_⟩
 have := h1.mem x ((A3J _).mem_iff.1 hx)
 omega
def A0N (t : Tm) : Tm × Bool := if I2 t = true ∧ (M6 t).length ≤ 99 then ((N9 t 0).1, true) else (I3, false)
theorem B4M {e : Tm} (hv : I2 e = true) (hn : (M6 e).length ≤ 99) :
  S9 e = S9 (N9 e 0).1 ∧ (K2 e 60).2.1 = (K2 (N9 e 0).1 60).2.1 ∧
  (I2 (K2 e 60).1 && E7 (K2 e 60).1) = (I2 (K2 (N9 e 0).1 60).1 && E7 (K2 (N9 e 0).1 60).1) ∧
  R0 (K2 e 60).1 = R0 (K2 (N9 e 0).1 60).1 ∧ A02 e 60 = A02 (N9 e 0).1 60 := by
 obtain ⟨h1, h2⟩ := A9N hv hn
 have hz : lz e = lz (N9 e 0).1 := (A6p e 0).symm
 obtain ⟨g1, g2, g3, g4, g5⟩ := B4u 60 hz (A9M e (A0m hv).1) h2
 have hE : ∀ u, K2 u 60 = ((H3 60 u).1, (H3 60 u).2.1, (H3 60 u).2.2.1) := fun u => by unfold K2; rw [if_pos (by decide)]; rfl
 rw [hE, hE]
 refine ⟨?_, g1, ?_, ?_, ?_⟩
 ·unfold S9
  rw [if_pos hv, if_pos h1, ← A6o e, hz, A6o]
 ·show (I2 (H3 60 e).1 && E7 (H3 60 e).1) = (I2 (H3 60 _).1 && E7 (H3 60 _).1)
  rw [A4K g2 g4 g5, ← A24 (H3 60 e).1, g2, A24]
 ·show R0 (H3 60 e).1 = R0 (H3 60 _).1
  rw [← A6r (H3 60 e).1, g2, A6r]
 ·unfold A02
  rw [if_pos (by decide), if_pos (by decide)]
  show ((H3 60 e).2.2.2 : Int) = ((H3 60 _).2.2.2 : Int)
  rw [g3]
mutual
def N6 : Tm → Prop
 | .mk k _ _ _ _ _ ks => (k = 14 → ks.length = 1) ∧ A1Y ks
def A1Y : List Tm → Prop
 | [] => True
 | t :: ts => N6 t ∧ A1Y ts
end
theorem A9T : ∀ {ks : List Tm}, A1Y ks → ∀ t ∈ ks, N6 t
 | [], _, t, h => by simp at h
 | u :: us, h, t, ht => by
  rw [A1Y] at h
  rcases List.mem_cons.1 ht with rfl | ht
  ·exact h.1
  ·exact A9T h.2 t ht
theorem B4N {k : Int} {nm : ByteArray} {num : Int} {ty fr : Ty} {lb : Int} {ks : List Tm} (h : N6 (.mk k nm num ty fr lb ks)) (hk : k = 14) : ∃ a, ks = [a] ∧ N6 a := by
 rw [N6] at h
 match ks, h.1 hk with
 | [a], _ => exact ⟨a, rfl, by have := h.2; rw [A1Y] at this; exact this.1⟩
theorem B4O : ∀ t : Tm, cv t → N6 t := by
 refine Tm.ind fun k nm num ty fr lb ks ih hc => ?_
 obtain ⟨hN, hk⟩ := hc.node
 have hops := hN.ops
 rw [N6]
 refine ⟨fun h => ?_, ?_⟩
 ·rw [h] at hops; have : E0 14 = 1 := rfl; omega
 ·clear hN hops hc
  induction ks with
  | nil => rw [A1Y]; trivial
  | cons t ts ihl =>
   rw [A1Y]
   exact ⟨ih t List.mem_cons_self (hk t List.mem_cons_self), ihl (fun u hu => ih u (List.mem_cons_of_mem _ hu)) fun u hu => hk u (List.mem_cons_of_mem _ hu)⟩
def cq1 (t : Tm) : Prop := t.k = 14 → t.ks.length = 1
def TbR (r : Tm × Bool) : IM → Value → List A4 → Prop := K4 fun G' v => ∃ cells, v = .tuple ⟨[.agg ⟨cells⟩, .bool r.2]⟩ ∧ A7 G' r.1 cells
theorem TbR.mk {r : Tm × Bool} {x : Tm} {b : Bool} {G : IM} {cells : List Value} (h : r = (x, b)) (hr : A7 G x cells) : TbR r G (.tuple ⟨[.agg ⟨cells⟩, .bool b]⟩) [] := by
 subst h; exact ⟨rfl, cells, rfl, hr⟩
def B6D (e : Tm) : Tm × Bool := if I2 e = true then A5W (A1v B3W e) else (I3, false)
def B6E (e : Tm) (l : Int) : Tm × Bool := match S9 e with
 | some T => if Y3 l = true then A5W (K8 (K8 e T L9 l) L9 T l) else (I3, false)
 | none => (I3, false)
theorem A9U {e : Tm} {T : Ty} (h : S9 e = some T) : I2 e = true ∧ E6 [] e = some T := by
 unfold S9 at h
 split at h
 ·exact ⟨by assumption, h⟩
 ·cases h
theorem B4P {e : Tm} {T : Ty} (h : S9 e = some T) : T.small := by
 obtain ⟨h1, h2⟩ := A9U h
 exact (A4v ((A0Z e).1 h1).1 h2).small
def rlG (n : Int) : Tm → Tm × Int
 | .mk k nm num ty fr lb ks => if k = 14 then (.mk k nm num ty fr (n + 1) ks, n + 1) else (.mk k nm num ty fr lb ks, n)
mutual
theorem A4M : ∀ (t : Tm) (n : Int), A0n rlG t n = N9 t n
 | .mk k nm num ty fr lb ks, n => by
  rw [A0n, N9, A3K ks n, rlG]
  by_cases hk : k = 14
  ·rw [if_pos hk, if_pos hk, if_pos hk]
  ·rw [if_neg hk, if_neg hk, if_neg hk]
theorem A3K : ∀ (ts : List Tm) (n : Int), V0 rlG ts n = Q2 ts n
 | [], n => rfl
 | t :: ts, n => by rw [V0, Q2, A4M t n, A3K ts]
end
def rlQ (n : Int) (_ : Tm) : Prop := 0 ≤ n ∧ n ≤ 1000
theorem A6s : ∀ (ks : List Tm) (n : Int), (Q2 ks n).2 = n + ((M7 ks).length : Int)
 | [], n => by rw [Q2, M7]; simp
 | t :: ts, n => by
  rw [Q2, M7, List.length_append]
  simp only []
  rw [A6s ts, (A4L t n).2]
  omega
mutual
theorem A9V : ∀ (t : Tm) (n : Int), 0 ≤ n → n + ((M6 t).length : Int) ≤ 1000 → A2P rlQ rlG t n
 | .mk k nm num ty fr lb ks, n, h0, h => by
  rw [M6, List.length_append] at h
  rw [A2P, A3K]
  refine ⟨A9W ks n h0 (by omega), ?_⟩
  rw [rlQ, A6s]
  omega
theorem A9W : ∀ (ts : List Tm) (n : Int), 0 ≤ n → n + ((M7 ts).length : Int) ≤ 1000 → A1S rlQ rlG ts n
 | [], n, _, _ => by rw [A1S]; trivial
 | t :: ts, n, h0, h => by
  rw [M7, List.length_append] at h
  rw [A1S, A4M]
  have h1 := (A4L t n).2
  exact ⟨A9V t n h0 (by omega), A9W ts _ (by omega) (by omega)⟩
end
theorem B4Q {n k : Int} {nm : ByteArray} {num : Int} {ty fr : Ty} {lb : Int} {ks : List Tm} (h : k = 14) : rlG n (.mk k nm num ty fr lb ks) = (.mk k nm num ty fr (n + 1) ks, n + 1) := if_pos h
theorem B4R {n k : Int} {nm : ByteArray} {num : Int} {ty fr : Ty} {lb : Int} {ks : List Tm} (h : k ≠ 14) : rlG n (.mk k nm num ty fr lb ks) = (.mk k nm num ty fr lb ks, n) := if_neg h
theorem B4S (b : Nat) (n : Int) (t : Tm) (G : IM) (cells : List Value) (hq : rlQ n t) (hr : A7 G t cells) :
  Fn Tryz.prog 97 [.agg ⟨cells⟩, .pointer (some ⟨b, 0, none⟩)] [.blk b [.int .i64 n]] G (fun G' v outs => outs = [.blk b [.int .i64 (rlG n t).2]] ∧ ∃ cells', v = .agg ⟨cells'⟩ ∧ A7 G' (rlG n t).1 cells') := by
 have hr0 := hr
 obtain ⟨h0, h1⟩ := hq
 obtain ⟨k, nm, num, ⟨tk, tks⟩, ⟨fk, fks⟩, lb, ks⟩ := t
 have hy := @B4Q n k nm num (.mk tk tks) (.mk fk fks) lb ks
 have hn := @B4R n k nm num (.mk tk tks) (.mk fk fks) lb ks
 generalize rlG n (.mk k nm num (.mk tk tks) (.mk fk fks) lb ks) = R at hy hn ⊢
 obtain ⟨pt, ct, pf, cf, p, c, es, rfl, hk, hnum, hlb, hty, hfr, hsl, hkl⟩ := hr.open9
 refine B5 Tryz.func97 rfl Tryz.ntmps97 Tryz.results97 rfl ?_
 intro w0
 refine tS (tR ?_)
 refine sE (C0 rfl rfl) rfl (fun b3 => ?_)
 refine sE (A5 rfl) rfl (fun b4 => ?_)
 refine D0 ?_
 refine sB (qE rfl rfl) rfl rfl (fun h12 => ?_) (fun h12 => ?_)
 refine sD (nS (qT rfl (tS (tR (sL (B7 rfl rfl) rfl rfl ?_)))))
 refine sP (J6 rfl rfl (by omega) (by omega)) rfl rfl ?_
 refine K5 ?_
 refine H4 (outs := [.blk b [.int .i64 (n + 1)]]) (rC rfl (A3 rfl rfl)) (by repeat (first | exact A0.nil | refine A0.cons Pk.here ?_ | refine A0.cons (Pk.there Pk.here) ?_ | refine A0.cons (Pk.there (Pk.there Pk.here)) ?_ | apply A0.drop)) ?_
 (rw [hy (by omega)]; exact ⟨rfl, _, rfl, A7.put (us := ks) hk hnum ⟨by omega, by omega⟩ hty hfr rfl hsl hkl⟩)
 refine M9 ?_
 refine H4 (outs := [.blk b [.int .i64 n]]) (rC rfl (A3 rfl rfl)) (by repeat (first | exact A0.nil | refine A0.cons Pk.here ?_ | refine A0.cons (Pk.there Pk.here) ?_ | refine A0.cons (Pk.there (Pk.there Pk.here)) ?_ | apply A0.drop)) ?_
 (rw [hn (by omega)]; exact ⟨rfl, _, rfl, hr0⟩)
theorem B4T (b : Nat) : A8x rlG rlQ (fun n => .blk b [.int .i64 n]) 97 [] [.pointer (some ⟨b, 0, none⟩)] := fun n t G cells hq hr => B4S b n t G cells hq hr
theorem A6t {e : Tm} (h : I2 e = true) (h2 : (M6 e).length ≤ 99) : A0N e = ((N9 e 0).1, true) := by unfold A0N; rw [if_pos ⟨h, h2⟩]
theorem A6u {e : Tm} (h : I2 e = false) : A0N e = (I3, false) := by unfold A0N; rw [if_neg (by rw [h]; simp)]
theorem A6v {e : Tm} (h : 99 < (M6 e).length) : A0N e = (I3, false) := by unfold A0N; rw [if_neg (by rintro ⟨_, h2⟩; omega)]
theorem B4U (t : Tm) (G : IM) (cells : List Value) (hr : A7 G t cells) : Fn Tryz.prog 38 [.agg ⟨cells⟩] [] G (TbR (A0N t)) := by
 have hl := hr.len
 have hone := hr.one
 have hV := A1x t G cells hr
 have hC := fun (h : I2 t = true) => A6q t G cells (by have := (A0m h).2; omega) hr
 have hsv := fun (h : I2 t = true) => A2Y h
 have hy := @A6t t
 have hn := @A6u t
 have hm := @A6v t
 have hok := fun (h : (M6 t).length ≤ 99) => A9V t 0 (Int.le_refl _) (by omega)
 generalize A0N t = R at hy hn hm ⊢
 refine B5 Tryz.func38 rfl Tryz.ntmps38 Tryz.results38 rfl ?_
 intro w0
 refine tS (tR ?_)
 refine sE (C0 rfl rfl) rfl (fun b3 => ?_)
 refine sE (A5 rfl) rfl (fun b4 => ?_)
 refine sQ (qA rfl) rfl (sD (nS (tS (tS (tR ?_)))))
 refine sL (A2 rfl rfl (A6 (by repeat first | exact mH | apply mT)) hl) rfl rfl ?_
 refine F9 rfl (hV) rfl rfl (fun h12 => ?_) (fun h12 => ?_)
 refine sQ (S6 rfl) rfl (sQ (qM rfl) rfl ?_)
 refine sL (A2 rfl rfl (A6 (by repeat first | exact mH | apply mT)) hl) rfl rfl ?_
 (refine D3 rfl (hC (by assumption)) rfl rfl (fun v3 G3 hle3 hh => ?_); obtain ⟨p3, c3, e3, rfl, _⟩ := hh; replace hr := hr.mono hle3)
 refine sQ (pLn rfl rfl) rfl ?_
 refine sB (W2 rfl rfl) rfl rfl (fun h18 => ?_) (fun h18 => ?_)
 refine J4 ?_
 refine D6 (rC rfl (A3 rfl rfl)) (rT rfl) ?_
 (exact TbR.mk (hm (by omega)) (M5 _))
 refine D8 ?_
 refine sE (A5 rfl) rfl (fun b42 => ?_)
 refine F8 ?_
 refine sD (nS (tS (tR ?_)))
 refine sL (A2 rfl rfl (A6 (by repeat first | exact mH | apply mT)) hl) rfl rfl ?_
 refine sQ (A13 rfl rfl) rfl ?_
 (refine H1 rfl (B2E rlG rlQ (fun n => .blk b42 [.int .i64 n]) 97 [] [.pointer (some ⟨b42, 0, none⟩)] (B4T b42) t 0 _ cells (hok (by omega)) (hsv (by assumption)) hr) (Pk.perm (by repeat (first | exact Pk.here | apply Pk.there))) rfl rfl (fun v4 G4 outs hle4 hh => ?_); obtain ⟨rfl, cu, rfl, hru⟩ := hh; rw [A4M] at hru; have hul := hru.len; have huo := hru.one)
 refine sS rfl rfl rfl hul huo rfl ?_ (hu := by exact C2 hul.symm)
 refine sQ (qA rfl) rfl (sD (nS (tT ?_)))
 refine D6 (rC rfl (A2 rfl rfl (A6 (by repeat first | exact mH | apply mT)) hul)) (rT rfl) ?_
 (exact TbR.mk (hy (by assumption) (by omega)) hru)
 refine A0b ?_
 refine D6 (rC rfl (A3 rfl rfl)) (rT rfl) ?_
 (exact TbR.mk (hn (by assumption)) (M5 _))
def U3 (k : Int) (ty fr : Ty) (h : List Ty) : Option Ty :=
 if k = 14 then (if K9 (h.getD 0 B1) fr = true then some ty else none)
 else if k = 6 then (if (h.getD 0 B1).k = 4 ∧ K9 ((h.getD 0 B1).ks.getD 0 B1) (h.getD 1 B1) = true then some ((h.getD 0 B1).ks.getD 1 B1) else none)
 else if k = 7 then (if K9 (h.getD 0 B1) O7 = true ∧ K9 (h.getD 1 B1) O7 = true then some O7 else none)
 else if k = 8 then (if K9 (h.getD 0 B1) O7 = true ∧ K9 (h.getD 1 B1) O7 = true then some U9 else none)
 else if k = 9 then (if K9 (h.getD 0 B1) U9 = true ∧ K9 (h.getD 1 B1) (h.getD 2 B1) = true then some (h.getD 1 B1) else none)
 else if k = 10 then (if M1 (.mk 5 [h.getD 0 B1, h.getD 1 B1]) = true then some (.mk 5 [h.getD 0 B1, h.getD 1 B1]) else none)
 else (if (h.getD 0 B1).k = 5 then some ((h.getD 0 B1).ks.getD (k - 11).toNat B1) else none)
theorem A2t {α : Type} {a b : Option α} (h : ∀ x, a = some x ↔ b = some x) : a = b := by
 cases a with
 | none => cases b with
  | none => rfl
  | some y => exact ((h y).2 rfl)
 | some x => exact ((h x).1 rfl).symm
theorem B4V {cx : Cx} {nm : ByteArray} {t : Ty} (n : Nat) (h : W4 cx nm n = some t) : ∃ b ∈ cx, b.2 = t := by
 induction n with
 | zero => rw [W4] at h; cases h
 | succ n ih =>
  cases hb : cx[n]? with
  | none => rw [W4, hb] at h; exact ih h
  | some b =>
   by_cases hn : b.1 = nm
   ·rw [A4g (x := b.1) (t := b.2) hb hn] at h
    simp only [Option.some.injEq] at h
    exact ⟨b, List.mem_of_getElem? hb, h⟩
   ·rw [A4h (x := b.1) (t := b.2) hb hn] at h
    exact ih h
theorem B4W {cx : Cx} {nm : ByteArray} {t : Ty} (hcv : cxV cx) (h : X4 cx nm = some t) : M1 t = true := by
 obtain ⟨b, hb, rfl⟩ := B4V _ h
 exact hcv b hb
section
variable {cx : Cx} {k : Int} {nm : ByteArray} {num : Int} {ty fr : Ty} {lb : Int} {ks : List Tm}
theorem B4X {h : List Ty} (hk : k = 6 ∨ k = 7 ∨ k = 8 ∨ k = 9 ∨ k = 10 ∨ k = 11 ∨ k = 12 ∨ k = 14) (hop : E0 k = (ks.length : Int)) (hu : N8 cx ks = some h) (hv : ∀ u ∈ h, M1 u = true) :
  E6 cx (.mk k nm num ty fr lb ks) = U3 k ty fr h := by
 have hin : R6 cx k nm ty = cx := if_neg (by omega)
 have hu' : N8 (R6 cx k nm ty) ks = some h := by rw [hin]; exact hu
 rcases hk with rfl | hk
 ·
  match ks, hop with
  | [a, b], _ =>
   obtain ⟨x, y, hx, hy, rfl⟩ := A1T hu
   refine A2t fun T => ⟨fun h1 => ?_, fun h1 => ?_⟩
   ·obtain ⟨A, h2, h3⟩ := A8Q h1
    rw [hx] at h2; cases h2
    rw [hy] at h3; cases h3
    unfold U3
    rw [if_neg (by decide), if_pos rfl, if_pos ⟨rfl, A4f _⟩]
    rfl
   ·unfold U3 at h1
    rw [if_neg (by decide), if_pos rfl] at h1
    split at h1
    ·rename_i hc
     obtain ⟨c1, c2⟩ := hc
     obtain ⟨xk, xks⟩ := x
     simp only [List.getD_cons_zero, List.getD_cons_succ, Ty.k, Ty.ks] at c1 c2 h1
     subst c1
     obtain ⟨A, B, rfl, vA, vB⟩ := A4x (.inl rfl) (hv _ List.mem_cons_self)
     simp only [List.getD_cons_zero, List.getD_cons_succ, Option.some.injEq] at c2 h1
     subst h1
     obtain rfl := (V8 _ _).1 c2
     exact B25 vB hx hy
    ·cases h1
 rcases hk with rfl | hk
 ·match ks, hop with
  | [a, b], _ =>
   obtain ⟨x, y, hx, hy, rfl⟩ := A1T hu
   refine A2t fun T => ⟨fun h1 => ?_, fun h1 => ?_⟩
   ·obtain ⟨h2, h3, rfl⟩ := A50 (.inl rfl) h1
    rw [hx] at h2; cases h2
    rw [hy] at h3; cases h3
    rfl
   ·unfold U3 at h1
    rw [if_neg (by decide), if_neg (by decide), if_pos rfl] at h1
    split at h1
    ·rename_i hc
     cases h1
     obtain rfl : x = O7 := (V8 _ _).1 hc.1
     obtain rfl : y = O7 := (V8 _ _).1 hc.2
     exact A1i hu' (by decide) (by decide) (w := [O7, O7]) (by rfl) (A2V _)
    ·cases h1
 rcases hk with rfl | hk
 ·match ks, hop with
  | [a, b], _ =>
   obtain ⟨x, y, hx, hy, rfl⟩ := A1T hu
   refine A2t fun T => ⟨fun h1 => ?_, fun h1 => ?_⟩
   ·obtain ⟨h2, h3, rfl⟩ := A50 (.inr rfl) h1
    rw [hx] at h2; cases h2
    rw [hy] at h3; cases h3
    rfl
   ·unfold U3 at h1
    rw [if_neg (by decide), if_neg (by decide), if_neg (by decide), if_pos rfl] at h1
    split at h1
    ·rename_i hc
     cases h1
     obtain rfl : x = O7 := (V8 _ _).1 hc.1
     obtain rfl : y = O7 := (V8 _ _).1 hc.2
     exact A1i hu' (by decide) (by decide) (w := [O7, O7]) (by rfl) (A2V _)
    ·cases h1
 rcases hk with rfl | hk
 ·match ks, hop with
  | [a, b, c], _ =>
   obtain ⟨x, y, z, hx, hy, hz, rfl⟩ := A8L hu
   refine A2t fun T => ⟨fun h1 => ?_, fun h1 => ?_⟩
   ·obtain ⟨h2, h3, h4⟩ := A8R h1
    rw [hx] at h2; cases h2
    rw [hy] at h3; cases h3
    rw [hz] at h4; cases h4
    unfold U3
    rw [if_neg (by decide), if_neg (by decide), if_neg (by decide), if_neg (by decide), if_pos rfl, if_pos ⟨A4f _, A4f _⟩]
    rfl
   ·unfold U3 at h1
    rw [if_neg (by decide), if_neg (by decide), if_neg (by decide), if_neg (by decide), if_pos rfl] at h1
    split at h1
    ·rename_i hc
     obtain ⟨c1, c2⟩ := hc
     simp only [List.getD_cons_zero, List.getD_cons_succ, Option.some.injEq] at c1 c2 h1
     subst h1
     obtain rfl : x = U9 := (V8 _ _).1 c1
     obtain rfl := (V8 _ _).1 c2
     refine A1i hu' (by decide) (hv _ (by simp)) (w := [U9, y, y]) ?_ (A2V _)
     unfold Q5
     rw [if_neg (by decide), if_neg (by decide), if_neg (by decide), if_neg (by decide), if_neg (by decide), if_neg (by decide), if_pos rfl, if_pos ⟨A4w _, A4w _⟩]
     simp only [List.getD_cons_zero, List.getD_cons_succ, A8N]
    ·cases h1
 rcases hk with rfl | hk
 ·match ks, hop with
  | [a, b], _ =>
   obtain ⟨x, y, hx, hy, rfl⟩ := A1T hu
   refine A2t fun T => ⟨fun h1 => ?_, fun h1 => ?_⟩
   ·have hT := A5U (fun h => absurd h (by decide)) h1
    obtain ⟨A, B, h2, h3, rfl⟩ := A8S h1
    rw [hx] at h2; cases h2
    rw [hy] at h3; cases h3
    unfold U3
    rw [if_neg (by decide), if_neg (by decide), if_neg (by decide), if_neg (by decide), if_neg (by decide), if_pos rfl]
    exact if_pos hT
   ·unfold U3 at h1
    rw [if_neg (by decide), if_neg (by decide), if_neg (by decide), if_neg (by decide), if_neg (by decide), if_pos rfl] at h1
    split at h1
    ·rename_i hc
     cases h1
     exact A1i hu' (by decide) hc (w := []) (by rfl) (by rw [R5])
    ·cases h1
 have part : ∀ k : Int, k = 11 ∨ k = 12 → E0 k = (ks.length : Int) → E6 cx (.mk k nm num ty fr lb ks) = U3 k ty fr h := by
  clear hk hop hin hu'
  intro k hk hop
  have hl : ks.length = 1 := by rcases hk with rfl | rfl <;> (have h0 := hop; simp only [show E0 11 = 1 from rfl, show E0 12 = 1 from rfl] at h0; omega)
  match ks, hl with
  | [a], _ =>
   obtain ⟨x, hx, rfl⟩ := A2U hu
   have he : U3 k ty fr [x] = if x.k = 5 then some (x.ks.getD (k - 11).toNat B1) else none := by
    unfold U3
    rw [if_neg (by omega), if_neg (by omega), if_neg (by omega), if_neg (by omega), if_neg (by omega), if_neg (by omega)]
    rfl
   rw [he]
   refine A2t fun T => ⟨fun h1 => ?_, fun h1 => ?_⟩
   ·obtain ⟨A, B, h2, rfl⟩ := A8T hk h1
    rw [hx] at h2; cases h2
    rcases hk with rfl | rfl <;> rfl
   ·split at h1
    ·rename_i hc
     obtain ⟨xk, xks⟩ := x
     simp only [Ty.k] at hc
     subst hc
     obtain ⟨A, B, rfl, vA, vB⟩ := A4x (.inr rfl) (hv _ List.mem_cons_self)
     have h5 : T = if k = 12 then B else A := by
      rcases hk with rfl | rfl
      ·exact (Option.some.inj h1).symm
      ·exact (Option.some.inj h1).symm
     rw [h5]
     exact B26 hk (by split <;> assumption) hx
    ·cases h1
 rcases hk with rfl | rfl | rfl
 ·exact part 11 (.inl rfl) hop
 ·exact part 12 (.inr rfl) hop
 ·match ks, hop with
  | [a], _ =>
   obtain ⟨x, hx, rfl⟩ := A2U hu
   rw [E6, hu']
   simp only [if_true]
   unfold U3
   rw [if_pos rfl]
theorem B4Y {b : Tm} (h : E6 (cx ++ [(nm, ty)]) b = none) : E6 cx (.mk 5 nm num ty fr lb [b]) = none := by
 rw [E6, show R6 cx 5 nm ty = cx ++ [(nm, ty)] from if_pos rfl, N8, h]
theorem B4Z {b : Tm} {t : Ty} (h : E6 (cx ++ [(nm, ty)]) b = some t) : E6 cx (.mk 5 nm num ty fr lb [b]) = if M1 (.mk 4 [ty, t]) = true then some (.mk 4 [ty, t]) else none := by
 rw [E6, show R6 cx 5 nm ty = cx ++ [(nm, ty)] from if_pos rfl, A5Z h]
 simp only [show ¬((5 : Int) = 14) by decide, if_false]
 unfold A0J
 rw [show Q5 cx 5 nm ty [t] = some ([], .mk 4 [ty, t]) from rfl]
 by_cases hv : M1 (.mk 4 [ty, t]) = true
 ·simp only [hv, if_true, R5]
 ·simp only [hv, if_false]
  rfl
theorem B40 (hcv : cxV cx) : E6 cx (.mk 1 nm num ty fr lb []) = X4 cx nm := by
 refine A2t fun T => ⟨fun h => A51 h, fun h => ?_⟩
 refine A1i (us := []) (w := []) (by rw [N8]) (by decide) (B4W hcv h) ?_ (by rw [R5])
 unfold Q5
 rw [if_pos rfl, h]
theorem B41 : E6 cx (.mk 2 nm num ty fr lb []) = some O7 := A1i (us := []) (w := []) (by rw [N8]) (by decide) (by decide) (by rfl) (by rw [R5])
theorem B42 : E6 cx (.mk 3 nm num ty fr lb []) = some U9 := A1i (us := []) (w := []) (by rw [N8]) (by decide) (by decide) (by rfl) (by rw [R5])
theorem B43 : E6 cx (.mk 4 nm num ty fr lb []) = some U9 := A1i (us := []) (w := []) (by rw [N8]) (by decide) (by decide) (by rfl) (by rw [R5])
end
theorem B3.kid2 {G : IM} {k : Int} {a b : Ty} {p : Option Addr} {c : Nat} (h : B3 G (.mk k [a, b]) [.int .i64 k, .slice p 2 c]) : ∃ bl o pa ca pb cb, p = some ⟨bl, o, none⟩ ∧
  (∀ hp, At hp G bl (o + 0 * 2) [.int .i64 a.k, .slice pa a.ks.length ca]) ∧ B3 G a [.int .i64 a.k, .slice pa a.ks.length ca] ∧
  (∀ hp, At hp G bl (o + 1 * 2) [.int .i64 b.k, .slice pb b.ks.length cb]) ∧ B3 G b [.int .i64 b.k, .slice pb b.ks.length cb] := by
 obtain ⟨p', c', es, he, hk, hsl, hkl⟩ := h.open
 simp only [Ty.k, Ty.ks, List.cons.injEq, Value.slice.injEq, true_and, and_true] at he hsl hkl
 obtain ⟨rfl, _, rfl⟩ := he
 obtain ⟨b0, o0, q0, d0, rfl, hat0, hre0, _⟩ := hsl.kidTy hkl (i := 0) (by simp) (by simp)
 obtain ⟨b1, o1, q1, d1, hp1, hat1, hre1, _⟩ := hsl.kidTy hkl (i := 1) (by simp) (by simp)
 cases hp1
 exact ⟨b0, o0, q0, d0, q1, d1, rfl, hat0, hre0, hat1, hre1⟩
theorem D4.kids2 {k : Int} {ks : List Ty} (h : D4 (.mk k ks)) (hk : k = 4 ∨ k = 5) : ∃ a b, ks = [a, b] ∧ D4 a ∧ D4 b := by
 have h2 := h.kid
 rw [D4] at h
 match ks, h.1 hk with
 | [a, b], _ => exact ⟨a, b, rfl, h2 a (by simp), h2 b (by simp)⟩
section
variable (nm : ByteArray) (num : Int) (ty fr : Ty) (lb : Int) (ks : List Tm) (G : IM) (cells : List Value) (p : Option Addr) (c : Nat) (es : List (List Value))
theorem B44 (x : Ty) (hty : D4 ty) (hr : A7 G (.mk 14 nm num ty fr lb ks) cells) (hsl : C5 G p 1 c 2 es) (hkl : E3 G [x] es) :
  Fn Tryz.prog 199 [.agg ⟨cells⟩, .slice p 1 c] [] G (N2 (U3 14 ty fr [x]) G) := by
 have hone := hr.one
 obtain ⟨tk, tks⟩ := ty
 obtain ⟨fk, fks⟩ := fr
 obtain ⟨pt, ct, pf, cf, pk, ck, ek, rfl, hk, hnum, hlb, hrty, hrfr, _, _⟩ := hr.open9
 obtain ⟨b0, o0, q0, d0, rfl, hat0, hre0, hg0⟩ := hsl.kidTy hkl (i := 0) (by simp) (by simp)
 simp only [List.getElem_cons_zero] at hat0 hre0
 have hT := O6 (.mk tk tks) G _ hty.small hrty
 have hS := fun G1 (hle : B6 G G1) => A2s x (.mk fk fks) G1 _ _ (hre0.mono hle) (hrfr.mono hle)
 refine B5 Tryz.func199 rfl Tryz.ntmps199 Tryz.results199 rfl ?_
 intro w0
 refine tS (tR ?_)
 refine sE (C0 rfl rfl) rfl (fun b3 => ?_)
 refine sE (A5 rfl) rfl (fun b4 => ?_)
 refine H8 ?_
 refine B9 ?_
 refine tS (tR ?_)
 refine sP (Q0 rfl rfl (by omega)) rfl rfl ?_
 refine sQ (qA rfl) rfl (sD (nS (qT rfl (tS ?_))))
 refine C9 D1 rfl ?_
 refine H6 (i := 0) (l' := [tt,ff,ff,ff,ff,ff,ff,ff,ff,ff,ff]) rfl C4 (A9 rfl) rfl (by kernel_rfl) rfl rfl ?_
 refine aL 1 rfl (A3 rfl rfl) rfl ?_
 refine aP 3 rfl (qM rfl) rfl ?_
 refine aP 4 rfl (B0 (j := 0) rfl rfl rfl (by simp)) rfl ?_
 refine aL 5 rfl (A2 rfl rfl (hat0 _) rfl) rfl ?_
 refine aP 6 rfl (A9 rfl) rfl ?_
 refine aL 7 rfl (A3 rfl rfl) rfl ?_
 refine A1 2 ?_
 (refine E1 rfl rfl hT rfl rfl rfl (fun v G1 hle1 hh => ?_); obtain ⟨N6, F1, rfl, hs1, hn1⟩ := hh; obtain ⟨p1, c1, rfl, _⟩ := hs1.open; have hmr := hs1.R.mono (C1.le G1 G); have hS1 := hS G1 hle1)
 refine A1 8 ?_
 refine J0 rfl rfl (hS1) rfl rfl rfl ?_
 refine A1 9 ?_
 refine F0 rfl ?_
 refine aP 10 rfl (qA rfl) rfl ?_
 refine B8 (nS (tT (rB (rS ?_))))
 refine D6 (rC rfl (A3 rfl rfl)) (rT rfl) ?_
 (exact N2.mk rfl hmr hty)
theorem A9X (k : Int) (hk78 : k = 7 ∨ k = 8) (x y : Ty) (hr : A7 G (.mk k nm num ty fr lb ks) cells) (hsl : C5 G p 2 c 2 es) (hkl : E3 G [x, y] es) :
  Fn Tryz.prog 199 [.agg ⟨cells⟩, .slice p 2 c] [] G (N2 (if K9 x O7 = true ∧ K9 y O7 = true then some (if k = 7 then O7 else U9) else none) G) := by
 have hone := hr.one
 obtain ⟨tk, tks⟩ := ty
 obtain ⟨fk, fks⟩ := fr
 obtain ⟨pt, ct, pf, cf, pk, ck, ek, rfl, hk, hnum, hlb, hrty, hrfr, _, _⟩ := hr.open9
 obtain ⟨b0, o0, q0, d0, rfl, hat0, hre0, hg0⟩ := hsl.kidTy hkl (i := 0) (by simp) (by simp)
 obtain ⟨b1, o1, q1, d1, hp1, hat1, hre1, hg1⟩ := hsl.kidTy hkl (i := 1) (by simp) (by simp)
 cases hp1
 simp only [List.getElem_cons_zero, List.getElem_cons_succ] at hat0 hre0 hat1 hre1
 have hS0 := A2s x O7 G _ _ hre0 (K6 G)
 have hS1 := A2s y O7 G _ _ hre1 (K6 G)
 generalize K9 x O7 = s0 at hS0 ⊢
 generalize K9 y O7 = s1 at hS1 ⊢
 refine B5 Tryz.func199 rfl Tryz.ntmps199 Tryz.results199 rfl ?_
 intro w0
 refine tS (tR ?_)
 refine sE (C0 rfl rfl) rfl (fun b3 => ?_)
 refine sE (A5 rfl) rfl (fun b4 => ?_)
 refine H8 ?_
 refine B9 ?_
 refine tS (tR ?_)
 refine sP (E4 rfl rfl (by omega)) rfl rfl ?_
 refine sQ (qA rfl) rfl (sD (nS (cF rfl (tS (tR ?_)))))
 refine sP (E4 rfl rfl (by omega)) rfl rfl ?_
 refine sQ (qA rfl) rfl (sD (nS (cF rfl (tS (tR ?_)))))
 refine sB (qE rfl rfl) rfl rfl (fun h32 => ?_) (fun h32 => ?_)
 refine sQ (qA rfl) rfl (sD (nS (qT rfl (tS ?_))))
 refine C9 D1 rfl ?_
 refine H6 (i := 1) (l' := [ff,tt,ff,ff,ff,ff,ff,ff,ff,ff,ff,ff,ff,ff,ff]) rfl C4 (qM rfl) rfl (by kernel_rfl) rfl rfl ?_
 refine aP 2 rfl (B0 (j := 0) rfl rfl rfl (by simp)) rfl ?_
 refine aL 3 rfl (A2 rfl rfl (hat0 _) rfl) rfl ?_
 refine A1 0 ?_
 refine J0 rfl rfl ((V9 _)) rfl rfl rfl ?_
 refine A1 4 ?_
 refine J0 rfl rfl ((V9 _)) rfl rfl rfl ?_
 refine A1 5 ?_
 refine R3 rfl rfl (hS0) rfl rfl rfl (fun h47 => ?_) (fun h47 => ?_)
 refine aP 6 rfl (qM rfl) rfl ?_
 refine aP 7 rfl (qM rfl) rfl ?_
 refine aP 8 rfl (B0 (j := 1) rfl rfl rfl (by simp)) rfl ?_
 refine aL 9 rfl (A2 rfl rfl (hat1 _) rfl) rfl ?_
 refine A1 10 ?_
 refine J0 rfl rfl ((V9 _)) rfl rfl rfl ?_
 refine A1 11 ?_
 refine J0 rfl rfl (hS1) rfl rfl rfl ?_
 refine aP 12 rfl (H9 rfl rfl) rfl ?_
 refine A1 13 ?_
 refine F0 rfl ?_
 refine aP 14 rfl (qA rfl) rfl ?_
 refine B8 (nS (tT (rB (rS ?_))))
 refine D6 (rC rfl (A3 rfl rfl)) (rT rfl) ?_
 (exact N2.mk (by rw [if_pos (show k = 7 by omega)]; simp_all) (K6 G) (M4 (by decide) (by decide)))
 refine aP 6 rfl (qM rfl) rfl ?_
 refine B2 7 rfl rfl rfl ?_
 refine B2 8 rfl rfl rfl ?_
 refine B2 9 rfl rfl rfl ?_
 refine B2 10 rfl rfl rfl ?_
 refine B2 11 rfl rfl rfl ?_
 refine aP 12 rfl (M0 rfl rfl) rfl ?_
 refine A1 13 ?_
 refine F0 rfl ?_
 refine aP 14 rfl (qA rfl) rfl ?_
 refine B8 (nS (tT (rB (rS ?_))))
 refine D6 (rC rfl (A3 rfl rfl)) (rT rfl) ?_
 (exact N2.mk (by rw [if_pos (show k = 7 by omega)]; simp_all) (K6 G) (M4 (by decide) (by decide)))
 refine sQ (qA rfl) rfl (sD (nS (cF rfl (tS (tR ?_)))))
 refine sP (Q0 rfl rfl (by omega)) rfl rfl ?_
 refine sQ (qA rfl) rfl (sD (nS (qT rfl (tS ?_))))
 refine C9 D1 rfl ?_
 refine H6 (i := 1) (l' := [ff,tt,ff,ff,ff,ff,ff,ff,ff,ff,ff,ff,ff,ff,ff]) rfl C4 (qM rfl) rfl (by kernel_rfl) rfl rfl ?_
 refine aP 2 rfl (B0 (j := 0) rfl rfl rfl (by simp)) rfl ?_
 refine aL 3 rfl (A2 rfl rfl (hat0 _) rfl) rfl ?_
 refine A1 0 ?_
 refine J0 rfl rfl ((A1f _)) rfl rfl rfl ?_
 refine A1 4 ?_
 refine J0 rfl rfl ((V9 _)) rfl rfl rfl ?_
 refine A1 5 ?_
 refine R3 rfl rfl (hS0) rfl rfl rfl (fun h105 => ?_) (fun h105 => ?_)
 refine aP 6 rfl (qM rfl) rfl ?_
 refine aP 7 rfl (qM rfl) rfl ?_
 refine aP 8 rfl (B0 (j := 1) rfl rfl rfl (by simp)) rfl ?_
 refine aL 9 rfl (A2 rfl rfl (hat1 _) rfl) rfl ?_
 refine A1 10 ?_
 refine J0 rfl rfl ((V9 _)) rfl rfl rfl ?_
 refine A1 11 ?_
 refine J0 rfl rfl (hS1) rfl rfl rfl ?_
 refine aP 12 rfl (H9 rfl rfl) rfl ?_
 refine A1 13 ?_
 refine F0 rfl ?_
 refine aP 14 rfl (qA rfl) rfl ?_
 refine B8 (nS (tT (rB (rS ?_))))
 refine D6 (rC rfl (A3 rfl rfl)) (rT rfl) ?_
 (exact N2.mk (by rw [if_neg (show ¬ k = 7 by omega)]; simp_all) (W7 G) (M4 (by decide) (by decide)))
 refine aP 6 rfl (qM rfl) rfl ?_
 refine B2 7 rfl rfl rfl ?_
 refine B2 8 rfl rfl rfl ?_
 refine B2 9 rfl rfl rfl ?_
 refine B2 10 rfl rfl rfl ?_
 refine B2 11 rfl rfl rfl ?_
 refine aP 12 rfl (M0 rfl rfl) rfl ?_
 refine A1 13 ?_
 refine F0 rfl ?_
 refine aP 14 rfl (qA rfl) rfl ?_
 refine B8 (nS (tT (rB (rS ?_))))
 refine D6 (rC rfl (A3 rfl rfl)) (rT rfl) ?_
 (exact N2.mk (by rw [if_neg (show ¬ k = 7 by omega)]; simp_all) (W7 G) (M4 (by decide) (by decide)))
theorem B45 (x y z : Ty) (hay : D4 y) (hr : A7 G (.mk 9 nm num ty fr lb ks) cells) (hsl : C5 G p 3 c 2 es) (hkl : E3 G [x, y, z] es) :
  Fn Tryz.prog 199 [.agg ⟨cells⟩, .slice p 3 c] [] G (N2 (U3 9 ty fr [x, y, z]) G) := by
 have hone := hr.one
 obtain ⟨tk, tks⟩ := ty
 obtain ⟨fk, fks⟩ := fr
 obtain ⟨pt, ct, pf, cf, pk, ck, ek, rfl, hk, hnum, hlb, hrty, hrfr, _, _⟩ := hr.open9
 obtain ⟨b0, o0, q0, d0, rfl, hat0, hre0, hg0⟩ := hsl.kidTy hkl (i := 0) (by simp) (by simp)
 obtain ⟨b1, o1, q1, d1, hp1, hat1, hre1, hg1⟩ := hsl.kidTy hkl (i := 1) (by simp) (by simp)
 obtain ⟨b2, o2, q2, d2, hp2, hat2, hre2, hg2⟩ := hsl.kidTy hkl (i := 2) (by simp) (by simp)
 cases hp1
 cases hp2
 simp only [List.getElem_cons_zero, List.getElem_cons_succ] at hat0 hre0 hat1 hre1 hat2 hre2
 have hT := O6 y G _ hay.small hre1
 have hS0 := fun G1 (hle : B6 G G1) => A2s x U9 G1 _ _ (hre0.mono hle) (W7 G1)
 have hS1 := fun G1 (hle : B6 G G1) => A2s y z G1 _ _ (hre1.mono hle) (hre2.mono hle)
 have hE : U3 9 (.mk tk tks) (.mk fk fks) [x, y, z] = if K9 x U9 = true ∧ K9 y z = true then some y else none := rfl
 rw [hE]
 generalize K9 x U9 = s0 at hS0 ⊢
 generalize K9 y z = s1 at hS1 ⊢
 refine B5 Tryz.func199 rfl Tryz.ntmps199 Tryz.results199 rfl ?_
 intro w0
 refine tS (tR ?_)
 refine sE (C0 rfl rfl) rfl (fun b3 => ?_)
 refine sE (A5 rfl) rfl (fun b4 => ?_)
 refine H8 ?_
 refine B9 ?_
 refine tS (tR ?_)
 refine sP (E4 rfl rfl (by omega)) rfl rfl ?_
 refine sQ (qA rfl) rfl (sD (nS (cF rfl (tS (tR ?_)))))
 refine sP (E4 rfl rfl (by omega)) rfl rfl ?_
 refine sQ (qA rfl) rfl (sD (nS (cF rfl (tS (tR ?_)))))
 refine sP (E4 rfl rfl (by omega)) rfl rfl ?_
 refine sQ (qA rfl) rfl (sD (nS (cF rfl (tS (tR ?_)))))
 refine sP (E4 rfl rfl (by omega)) rfl rfl ?_
 refine sQ (qA rfl) rfl (sD (nS (cF rfl (tS (tR ?_)))))
 refine sP (Q0 rfl rfl (by omega)) rfl rfl ?_
 refine sQ (qA rfl) rfl (sD (nS (qT rfl (tS ?_))))
 refine C9 D1 rfl ?_
 refine H6 (i := 0) (l' := [tt,ff,ff,ff,ff,ff,ff,ff,ff,ff,ff,ff,ff,ff,ff,ff,ff,ff,ff,ff]) rfl C4 (qM rfl) rfl (by kernel_rfl) rfl rfl ?_
 refine aP 1 rfl (B0 (j := 1) rfl rfl rfl (by simp)) rfl ?_
 refine aL 2 rfl (A2 rfl rfl (hat1 _) rfl) rfl ?_
 refine aP 4 rfl (qM rfl) rfl ?_
 refine aP 5 rfl (B0 (j := 0) rfl rfl rfl (by simp)) rfl ?_
 refine aL 6 rfl (A2 rfl rfl (hat0 _) rfl) rfl ?_
 refine A1 3 ?_
 (refine E1 rfl rfl hT rfl rfl rfl (fun v G1 hle1 hh => ?_); obtain ⟨N6, F1, rfl, hs1, hn1⟩ := hh; obtain ⟨p1, c1, rfl, _⟩ := hs1.open; have hmr := hs1.R.mono (C1.le G1 G); have hS01 := hS0 G1 hle1; have hS11 := hS1 G1 hle1)
 refine A1 7 ?_
 refine J0 rfl rfl ((A1f _)) rfl rfl rfl ?_
 refine A1 8 ?_
 refine R3 rfl rfl (hS01) rfl rfl rfl (fun h64 => ?_) (fun h64 => ?_)
 refine aP 9 rfl (qM rfl) rfl ?_
 refine aP 10 rfl (qM rfl) rfl ?_
 refine aP 11 rfl (B0 (j := 1) rfl rfl rfl (by simp)) rfl ?_
 refine aL 12 rfl (A2 rfl rfl (At.mono' hle1 (hat1 [])) rfl) rfl ?_
 refine aP 13 rfl (qM rfl) rfl ?_
 refine aP 14 rfl (B0 (j := 2) rfl rfl rfl (by simp)) rfl ?_
 refine aL 15 rfl (A2 rfl rfl (At.mono' hle1 (hat2 [])) rfl) rfl ?_
 refine A1 16 ?_
 refine J0 rfl rfl (hS11) rfl rfl rfl ?_
 refine aP 17 rfl (H9 rfl rfl) rfl ?_
 refine A1 18 ?_
 refine F0 rfl ?_
 refine aP 19 rfl (qA rfl) rfl ?_
 refine B8 (nS (tT (rB (rS ?_))))
 refine D6 (rC rfl (A3 rfl rfl)) (rT rfl) ?_
 (exact N2.mk (by simp_all) hmr hay)
 refine aP 9 rfl (qM rfl) rfl ?_
 refine B2 10 rfl rfl rfl ?_
 refine B2 11 rfl rfl rfl ?_
 refine B2 12 rfl rfl rfl ?_
 refine B2 13 rfl rfl rfl ?_
 refine B2 14 rfl rfl rfl ?_
 refine B2 15 rfl rfl rfl ?_
 refine B2 16 rfl rfl rfl ?_
 refine aP 17 rfl (M0 rfl rfl) rfl ?_
 refine A1 18 ?_
 refine F0 rfl ?_
 refine aP 19 rfl (qA rfl) rfl ?_
 refine B8 (nS (tT (rB (rS ?_))))
 refine D6 (rC rfl (A3 rfl rfl)) (rT rfl) ?_
 (exact N2.mk (by simp_all) hmr hay)
theorem B46 (x y : Ty) (hax : D4 x) (hay : D4 y) (hr : A7 G (.mk 10 nm num ty fr lb ks) cells) (hsl : C5 G p 2 c 2 es) (hkl : E3 G [x, y] es) :
  Fn Tryz.prog 199 [.agg ⟨cells⟩, .slice p 2 c] [] G (N2 (U3 10 ty fr [x, y]) G) := by
 have hone := hr.one
 obtain ⟨tk, tks⟩ := ty
 obtain ⟨fk, fks⟩ := fr
 obtain ⟨pt, ct, pf, cf, pk, ck, ek, rfl, hk, hnum, hlb, hrty, hrfr, _, _⟩ := hr.open9
 obtain ⟨b0, o0, q0, d0, rfl, hat0, hre0, hg0⟩ := hsl.kidTy hkl (i := 0) (by simp) (by simp)
 obtain ⟨b1, o1, q1, d1, hp1, hat1, hre1, hg1⟩ := hsl.kidTy hkl (i := 1) (by simp) (by simp)
 cases hp1
 simp only [List.getElem_cons_zero, List.getElem_cons_succ] at hat0 hre0 hat1 hre1
 have hE : U3 10 (.mk tk tks) (.mk fk fks) [x, y] = if M1 (.mk 5 [x, y]) = true then some (.mk 5 [x, y]) else none := rfl
 rw [hE]
 refine B5 Tryz.func199 rfl Tryz.ntmps199 Tryz.results199 rfl ?_
 intro w0
 refine tS (tR ?_)
 refine sE (C0 rfl rfl) rfl (fun b3 => ?_)
 refine sE (A5 rfl) rfl (fun b4 => ?_)
 refine H8 ?_
 refine B9 ?_
 refine tS (tR ?_)
 refine sP (E4 rfl rfl (by omega)) rfl rfl ?_
 refine sQ (qA rfl) rfl (sD (nS (cF rfl (tS (tR ?_)))))
 refine sP (E4 rfl rfl (by omega)) rfl rfl ?_
 refine sQ (qA rfl) rfl (sD (nS (cF rfl (tS (tR ?_)))))
 refine sP (E4 rfl rfl (by omega)) rfl rfl ?_
 refine sQ (qA rfl) rfl (sD (nS (cF rfl (tS (tR ?_)))))
 refine sP (E4 rfl rfl (by omega)) rfl rfl ?_
 refine sQ (qA rfl) rfl (sD (nS (cF rfl (tS (tR ?_)))))
 refine sP (E4 rfl rfl (by omega)) rfl rfl ?_
 refine sQ (qA rfl) rfl (sD (nS (cF rfl (tS (tR ?_)))))
 refine sP (Q0 rfl rfl (by omega)) rfl rfl ?_
 refine sQ (qA rfl) rfl (sD (nS (qT rfl (tS ?_))))
 refine C9 D1 rfl ?_
 refine H6 (i := 0) (l' := [tt,ff,ff,ff,ff,ff,ff,ff,ff,ff,ff]) rfl C4 (qM rfl) rfl (by kernel_rfl) rfl rfl ?_
 refine aP 1 rfl (B0 (j := 0) rfl rfl rfl (by simp)) rfl ?_
 refine aL 2 rfl (A2 rfl rfl (hat0 _) rfl) rfl ?_
 refine aP 3 rfl (qM rfl) rfl ?_
 refine aP 4 rfl (B0 (j := 1) rfl rfl rfl (by simp)) rfl ?_
 refine aL 5 rfl (A2 rfl rfl (hat1 _) rfl) rfl ?_
 refine A1 6 ?_
 (refine E1 rfl rfl (A4H 5 x y G _ _ (.inr rfl) hax hay hre0 hre1) rfl rfl rfl (fun v G1 hle1 hh => ?_); obtain ⟨mc, rfl, hmr⟩ := hh; have hma := A1M (.inr rfl) hax hay; obtain ⟨p1, c1, e1, rfl, _⟩ := hmr.open)
 refine aP 7 rfl (pX rfl rfl) rfl ?_
 refine aP 8 rfl (pX rfl rfl) rfl ?_
 refine A1 9 ?_
 refine F0 rfl ?_
 refine aP 10 rfl (qA rfl) rfl ?_
 refine B8 (nS (tT (rB (rS ?_))))
 refine D6 (rC rfl (A3 rfl rfl)) (rT rfl) ?_
 (exact N2.mk rfl hmr hma)
theorem B47 (x y : Ty) (hax : D4 x) (hr : A7 G (.mk 6 nm num ty fr lb ks) cells) (hsl : C5 G p 2 c 2 es) (hkl : E3 G [x, y] es) :
  Fn Tryz.prog 199 [.agg ⟨cells⟩, .slice p 2 c] [] G (N2 (U3 6 ty fr [x, y]) G) := by
 have hone := hr.one
 obtain ⟨tk, tks⟩ := ty
 obtain ⟨fk, fks⟩ := fr
 obtain ⟨pt, ct, pf, cf, pk, ck, ek, rfl, hk, hnum, hlb, hrty, hrfr, _, _⟩ := hr.open9
 obtain ⟨b0, o0, q0, d0, rfl, hat0, hre0, hg0⟩ := hsl.kidTy hkl (i := 0) (by simp) (by simp)
 obtain ⟨b1, o1, q1, d1, hp1, hat1, hre1, hg1⟩ := hsl.kidTy hkl (i := 1) (by simp) (by simp)
 cases hp1
 simp only [List.getElem_cons_zero, List.getElem_cons_succ] at hat0 hre0 hat1 hre1
 have hE : U3 6 (.mk tk tks) (.mk fk fks) [x, y] = if x.k = 4 ∧ K9 (x.ks.getD 0 B1) y = true then some (x.ks.getD 1 B1) else none := rfl
 rw [hE]
 obtain ⟨xk, xks⟩ := x
 simp only [Ty.k, Ty.ks] at hat0 hre0
 show Fn _ _ _ _ _ (N2 (if xk = 4 ∧ K9 (xks.getD 0 B1) y = true then some (xks.getD 1 B1) else none) G)
 by_cases hx4 : xk = 4
 ·subst hx4
  obtain ⟨A, B, rfl, hA, hB⟩ := hax.kids2 (.inl rfl)
  obtain ⟨b3, o3, pA, cA, pB, cB, rfl, hatA, hreA, hatB, hreB⟩ := B3.kid2 hre0
  simp only [List.getD_cons_zero, List.getD_cons_succ, true_and]
  have hS0 := A2s A y G _ _ hreA hre1
  have hT := O6 B G _ hB.small hreB
  generalize K9 A y = s0 at hS0 ⊢
  refine B5 Tryz.func199 rfl Tryz.ntmps199 Tryz.results199 rfl ?_
  intro w0
  refine tS (tR ?_)
  refine sE (C0 rfl rfl) rfl (fun b3 => ?_)
  refine sE (A5 rfl) rfl (fun b4 => ?_)
  refine H8 ?_
  refine B9 ?_
  refine tS (tR ?_)
  refine sP (E4 rfl rfl (by omega)) rfl rfl ?_
  refine sQ (qA rfl) rfl (sD (nS (cF rfl (tS (tR ?_)))))
  refine sP (Q0 rfl rfl (by omega)) rfl rfl ?_
  refine sQ (qA rfl) rfl (sD (nS (qT rfl (tS (tS ?_)))))
  refine C9 D1 rfl ?_
  refine H6 (i := 0) (l' := [tt,ff,ff,ff,ff,ff,ff,ff,ff,ff,ff,ff,ff,ff,ff,ff,ff,ff]) rfl C4 (qM rfl) rfl (by kernel_rfl) rfl rfl ?_
  refine aP 1 rfl (B0 (j := 0) rfl rfl rfl (by simp)) rfl ?_
  refine aP 2 rfl (qF rfl) rfl ?_
  refine aL 3 rfl (U5 rfl rfl (At.sub (j := 0) (hat0 _) rfl)) rfl ?_
  refine aP 4 rfl (A06 rfl rfl (by omega)) rfl ?_
  refine aP 5 rfl (qM rfl) rfl ?_
  refine aP 6 rfl (qM rfl) rfl ?_
  refine aP 7 rfl (B0 (j := 0) rfl rfl rfl (by simp)) rfl ?_
  refine aP 8 rfl (qF rfl) rfl ?_
  refine aL 9 rfl (U5 rfl rfl (At.sub (j := 1) (hat0 _) rfl)) rfl ?_
  refine aP 10 rfl (B0 (j := 0) rfl rfl rfl (by simp)) rfl ?_
  refine aL 11 rfl (A2 rfl rfl (hatA _) rfl) rfl ?_
  refine aP 12 rfl (qM rfl) rfl ?_
  refine aP 13 rfl (B0 (j := 1) rfl rfl rfl (by simp)) rfl ?_
  refine aL 14 rfl (A2 rfl rfl (hat1 _) rfl) rfl ?_
  refine A1 15 ?_
  refine R3 rfl rfl (hS0) rfl rfl rfl (fun h49 => ?_) (fun h49 => ?_)
  refine aP 16 rfl (S6 rfl) rfl ?_
  refine aP 17 rfl (M0 rfl rfl) rfl ?_
  refine B8 (nS (cF rfl (tK (nS (tS (tR (sQ (qM rfl) rfl ?_)))))))
  refine sP (B0 (j := 0) rfl rfl rfl (by simp)) rfl rfl ?_
  refine sQ (qF rfl) rfl ?_
  refine sL (U5 rfl rfl (At.sub (j := 1) (hat0 _) rfl)) rfl rfl ?_
  refine sP (B0 (j := 1) rfl rfl rfl (by simp)) rfl rfl ?_
  refine sL (A2 rfl rfl (hatB _) rfl) rfl rfl ?_
  (refine D3 rfl hT rfl rfl (fun v G1 hle1 hh => ?_); obtain ⟨N6, F1, rfl, hs1, hn1⟩ := hh; obtain ⟨p1, c1, rfl, _⟩ := hs1.open; have hmr := hs1.R.mono (C1.le G1 G))
  refine F8 ?_
  refine sQ (qA rfl) rfl (sD (nS (tT (rB (rS ?_)))))
  refine D6 (rC rfl (A3 rfl rfl)) (rT rfl) ?_
  (exact N2.yes (by rw [if_pos (by assumption)]) hmr hB)
  refine aP 16 rfl (Z9 rfl) rfl ?_
  refine aP 17 rfl (M0 rfl rfl) rfl ?_
  refine L1 ?_
  refine D6 (rC rfl (A3 rfl rfl)) (rT rfl) ?_
  (exact N2.no (by rw [if_neg (by simp_all)]) (J8 _ ⟨by omega, by omega⟩) (M4 (by omega) (by omega)))
 ·rw [if_neg (fun h => hx4 h.1)]
  refine B5 Tryz.func199 rfl Tryz.ntmps199 Tryz.results199 rfl ?_
  intro w0
  refine tS (tR ?_)
  refine sE (C0 rfl rfl) rfl (fun b3 => ?_)
  refine sE (A5 rfl) rfl (fun b4 => ?_)
  refine H8 ?_
  refine B9 ?_
  refine tS (tR ?_)
  refine sP (E4 rfl rfl (by omega)) rfl rfl ?_
  refine sQ (qA rfl) rfl (sD (nS (cF rfl (tS (tR ?_)))))
  refine sP (Q0 rfl rfl (by omega)) rfl rfl ?_
  refine sQ (qA rfl) rfl (sD (nS (qT rfl (tS (tS ?_)))))
  refine C9 D1 rfl ?_
  refine H6 (i := 0) (l' := [tt,ff,ff,ff,ff,ff,ff,ff,ff,ff,ff,ff,ff,ff,ff,ff,ff,ff]) rfl C4 (qM rfl) rfl (by kernel_rfl) rfl rfl ?_
  refine aP 1 rfl (B0 (j := 0) rfl rfl rfl (by simp)) rfl ?_
  refine aP 2 rfl (qF rfl) rfl ?_
  refine aL 3 rfl (U5 rfl rfl (At.sub (j := 0) (hat0 _) rfl)) rfl ?_
  refine aP 4 rfl (Y8 rfl rfl (by omega)) rfl ?_
  refine aP 5 rfl (qM rfl) rfl ?_
  refine B2 6 rfl rfl rfl ?_
  refine B2 7 rfl rfl rfl ?_
  refine B2 8 rfl rfl rfl ?_
  refine B2 9 rfl rfl rfl ?_
  refine B2 10 rfl rfl rfl ?_
  refine B2 11 rfl rfl rfl ?_
  refine B2 12 rfl rfl rfl ?_
  refine B2 13 rfl rfl rfl ?_
  refine B2 14 rfl rfl rfl ?_
  refine B2 15 rfl rfl rfl ?_
  refine B2 16 rfl rfl rfl ?_
  refine aP 17 rfl (H9 rfl rfl) rfl ?_
  refine L1 ?_
  refine D6 (rC rfl (A3 rfl rfl)) (rT rfl) ?_
  (exact N2.no rfl (J8 _ ⟨by omega, by omega⟩) (M4 (by omega) (by omega)))
theorem A9Y (k : Int) (hkk : k = 11 ∨ k = 12) (x : Ty) (hax : D4 x) (hr : A7 G (.mk k nm num ty fr lb ks) cells) (hsl : C5 G p 1 c 2 es) (hkl : E3 G [x] es) :
  Fn Tryz.prog 199 [.agg ⟨cells⟩, .slice p 1 c] [] G (N2 (U3 k ty fr [x]) G) := by
 have hone := hr.one
 obtain ⟨tk, tks⟩ := ty
 obtain ⟨fk, fks⟩ := fr
 obtain ⟨pt, ct, pf, cf, pk, ck, ek, rfl, hk, hnum, hlb, hrty, hrfr, _, _⟩ := hr.open9
 obtain ⟨b0, o0, q0, d0, rfl, hat0, hre0, hg0⟩ := hsl.kidTy hkl (i := 0) (by simp) (by simp)
 simp only [List.getElem_cons_zero] at hat0 hre0
 have hE : U3 k (.mk tk tks) (.mk fk fks) [x] = if x.k = 5 then some (x.ks.getD (k - 11).toNat B1) else none := by
  unfold U3
  rw [if_neg (by omega), if_neg (by omega), if_neg (by omega), if_neg (by omega), if_neg (by omega), if_neg (by omega)]
  rfl
 rw [hE]
 obtain ⟨xk, xks⟩ := x
 simp only [Ty.k, Ty.ks] at hat0 hre0
 show Fn _ _ _ _ _ (N2 (if xk = 5 then some (xks.getD (k - 11).toNat B1) else none) G)
 by_cases hx4 : xk = 5
 ·subst hx4
  obtain ⟨A, B, rfl, hA, hB⟩ := hax.kids2 (.inr rfl)
  obtain ⟨b3, o3, pA, cA, pB, cB, rfl, hatA, hreA, hatB, hreB⟩ := B3.kid2 hre0
  rw [if_pos rfl]
  have hTA := O6 A G _ hA.small hreA
  have hTB := O6 B G _ hB.small hreB
  obtain ⟨i, hi⟩ : ∃ i : Nat, k - 11 = (i : Int) ∧ (i = 0 ∧ k = 11 ∨ i = 1 ∧ k = 12) := by
   rcases hkk with rfl | rfl
   ·exact ⟨0, by decide, .inl ⟨rfl, rfl⟩⟩
   ·exact ⟨1, by decide, .inr ⟨rfl, rfl⟩⟩
  obtain ⟨hi0, hi⟩ := hi
  rcases hi with ⟨rfl, rfl⟩ | ⟨rfl, rfl⟩
  ·refine B5 Tryz.func199 rfl Tryz.ntmps199 Tryz.results199 rfl ?_
   intro w0
   refine tS (tR ?_)
   refine sE (C0 rfl rfl) rfl (fun b3 => ?_)
   refine sE (A5 rfl) rfl (fun b4 => ?_)
   refine H8 ?_
   refine B9 ?_
   refine tS (tR ?_)
   refine sP (E4 rfl rfl (by omega)) rfl rfl ?_
   refine sQ (qA rfl) rfl (sD (nS (cF rfl (tS (tR ?_)))))
   refine sP (E4 rfl rfl (by omega)) rfl rfl ?_
   refine sQ (qA rfl) rfl (sD (nS (cF rfl (tS (tR ?_)))))
   refine sP (E4 rfl rfl (by omega)) rfl rfl ?_
   refine sQ (qA rfl) rfl (sD (nS (cF rfl (tS (tR ?_)))))
   refine sP (E4 rfl rfl (by omega)) rfl rfl ?_
   refine sQ (qA rfl) rfl (sD (nS (cF rfl (tS (tR ?_)))))
   refine sP (E4 rfl rfl (by omega)) rfl rfl ?_
   refine sQ (qA rfl) rfl (sD (nS (cF rfl (tS (tR ?_)))))
   refine sP (E4 rfl rfl (by omega)) rfl rfl ?_
   refine J7 ?_
   refine sP (B0 (j := 0) rfl rfl rfl (by simp)) rfl rfl ?_
   refine sQ (qF rfl) rfl ?_
   refine sL (U5 rfl rfl (At.sub (j := 0) (hat0 _) rfl)) rfl rfl ?_
   refine sP (A06 rfl rfl (by omega)) rfl rfl ?_
   refine sD (nS (cF rfl (tK (nS (tS ?_)))))
   refine C9 D1 rfl ?_
   refine H6 (i := 0) (l' := [tt,ff,ff,ff,ff,ff,ff,ff,ff,ff,ff,ff]) rfl C4 (qM rfl) rfl (by kernel_rfl) rfl rfl ?_
   refine aP 1 rfl (B0 (j := 0) rfl rfl rfl (by simp)) rfl ?_
   refine aP 2 rfl (qF rfl) rfl ?_
   refine aL 3 rfl (U5 rfl rfl (At.sub (j := 1) (hat0 _) rfl)) rfl ?_
   refine aP 4 rfl (A9 rfl) rfl ?_
   refine aL 5 rfl (B7 rfl rfl) rfl ?_
   refine aP 6 rfl (O4 rfl rfl (by omega) (by omega)) rfl ?_
   refine aP 7 rfl (B0 (j := 0) rfl rfl rfl (by simp)) rfl ?_
   refine aL 8 rfl (A2 rfl rfl (hatA _) rfl) rfl ?_
   refine A1 9 ?_
   (refine E1 rfl rfl hTA rfl rfl rfl (fun v G1 hle1 hh => ?_); obtain ⟨N6, F1, rfl, hs1, hn1⟩ := hh; obtain ⟨p1, c1, rfl, _⟩ := hs1.open; have hmr := hs1.R.mono (C1.le G1 G))
   refine A1 10 ?_
   refine F0 rfl ?_
   refine aP 11 rfl (qA rfl) rfl ?_
   refine B8 (nS (tT ?_))
   refine D6 (rC rfl (A3 rfl rfl)) (rT rfl) ?_
   (exact N2.yes rfl hmr hA)
  ·refine B5 Tryz.func199 rfl Tryz.ntmps199 Tryz.results199 rfl ?_
   intro w0
   refine tS (tR ?_)
   refine sE (C0 rfl rfl) rfl (fun b3 => ?_)
   refine sE (A5 rfl) rfl (fun b4 => ?_)
   refine H8 ?_
   refine B9 ?_
   refine tS (tR ?_)
   refine sP (E4 rfl rfl (by omega)) rfl rfl ?_
   refine sQ (qA rfl) rfl (sD (nS (cF rfl (tS (tR ?_)))))
   refine sP (E4 rfl rfl (by omega)) rfl rfl ?_
   refine sQ (qA rfl) rfl (sD (nS (cF rfl (tS (tR ?_)))))
   refine sP (E4 rfl rfl (by omega)) rfl rfl ?_
   refine sQ (qA rfl) rfl (sD (nS (cF rfl (tS (tR ?_)))))
   refine sP (E4 rfl rfl (by omega)) rfl rfl ?_
   refine sQ (qA rfl) rfl (sD (nS (cF rfl (tS (tR ?_)))))
   refine sP (E4 rfl rfl (by omega)) rfl rfl ?_
   refine sQ (qA rfl) rfl (sD (nS (cF rfl (tS (tR ?_)))))
   refine sP (E4 rfl rfl (by omega)) rfl rfl ?_
   refine J7 ?_
   refine sP (B0 (j := 0) rfl rfl rfl (by simp)) rfl rfl ?_
   refine sQ (qF rfl) rfl ?_
   refine sL (U5 rfl rfl (At.sub (j := 0) (hat0 _) rfl)) rfl rfl ?_
   refine sP (A06 rfl rfl (by omega)) rfl rfl ?_
   refine sD (nS (cF rfl (tK (nS (tS ?_)))))
   refine C9 D1 rfl ?_
   refine H6 (i := 0) (l' := [tt,ff,ff,ff,ff,ff,ff,ff,ff,ff,ff,ff]) rfl C4 (qM rfl) rfl (by kernel_rfl) rfl rfl ?_
   refine aP 1 rfl (B0 (j := 0) rfl rfl rfl (by simp)) rfl ?_
   refine aP 2 rfl (qF rfl) rfl ?_
   refine aL 3 rfl (U5 rfl rfl (At.sub (j := 1) (hat0 _) rfl)) rfl ?_
   refine aP 4 rfl (A9 rfl) rfl ?_
   refine aL 5 rfl (B7 rfl rfl) rfl ?_
   refine aP 6 rfl (O4 rfl rfl (by omega) (by omega)) rfl ?_
   refine aP 7 rfl (B0 (j := 1) rfl rfl rfl (by simp)) rfl ?_
   refine aL 8 rfl (A2 rfl rfl (hatB _) rfl) rfl ?_
   refine A1 9 ?_
   (refine E1 rfl rfl hTB rfl rfl rfl (fun v G1 hle1 hh => ?_); obtain ⟨N6, F1, rfl, hs1, hn1⟩ := hh; obtain ⟨p1, c1, rfl, _⟩ := hs1.open; have hmr := hs1.R.mono (C1.le G1 G))
   refine A1 10 ?_
   refine F0 rfl ?_
   refine aP 11 rfl (qA rfl) rfl ?_
   refine B8 (nS (tT ?_))
   refine D6 (rC rfl (A3 rfl rfl)) (rT rfl) ?_
   (exact N2.yes rfl hmr hB)
 ·rw [if_neg hx4]
  refine B5 Tryz.func199 rfl Tryz.ntmps199 Tryz.results199 rfl ?_
  intro w0
  refine tS (tR ?_)
  refine sE (C0 rfl rfl) rfl (fun b3 => ?_)
  refine sE (A5 rfl) rfl (fun b4 => ?_)
  refine H8 ?_
  refine B9 ?_
  refine tS (tR ?_)
  refine sP (E4 rfl rfl (by omega)) rfl rfl ?_
  refine sQ (qA rfl) rfl (sD (nS (cF rfl (tS (tR ?_)))))
  refine sP (E4 rfl rfl (by omega)) rfl rfl ?_
  refine sQ (qA rfl) rfl (sD (nS (cF rfl (tS (tR ?_)))))
  refine sP (E4 rfl rfl (by omega)) rfl rfl ?_
  refine sQ (qA rfl) rfl (sD (nS (cF rfl (tS (tR ?_)))))
  refine sP (E4 rfl rfl (by omega)) rfl rfl ?_
  refine sQ (qA rfl) rfl (sD (nS (cF rfl (tS (tR ?_)))))
  refine sP (E4 rfl rfl (by omega)) rfl rfl ?_
  refine sQ (qA rfl) rfl (sD (nS (cF rfl (tS (tR ?_)))))
  refine sP (E4 rfl rfl (by omega)) rfl rfl ?_
  refine J7 ?_
  refine sP (B0 (j := 0) rfl rfl rfl (by simp)) rfl rfl ?_
  refine sQ (qF rfl) rfl ?_
  refine sL (U5 rfl rfl (At.sub (j := 0) (hat0 _) rfl)) rfl rfl ?_
  refine sP (Y8 rfl rfl (by omega)) rfl rfl ?_
  refine M9 ?_
  refine D6 (rC rfl (A3 rfl rfl)) (rT rfl) ?_
  (exact N2.no rfl (J8 _ ⟨by omega, by omega⟩) (M4 (by omega) (by omega)))
theorem B48 (k : Int) (h : List Ty) (hk8 : k = 6 ∨ k = 7 ∨ k = 8 ∨ k = 9 ∨ k = 10 ∨ k = 11 ∨ k = 12 ∨ k = 14) (hop : E0 k = (h.length : Int)) (har : ∀ t ∈ h, D4 t) (hty : D4 ty) (hr : A7 G (.mk k nm num ty fr lb ks) cells) (hsl : C5 G p h.length c 2 es) (hkl : E3 G h es) :
  Fn Tryz.prog 199 [.agg ⟨cells⟩, .slice p h.length c] [] G (N2 (U3 k ty fr h) G) := by
 rcases hk8 with rfl | rfl | rfl | rfl | rfl | rfl | rfl | rfl
 ·match h, hop with
  | [x, y], _ => exact B47 nm num ty fr lb ks G cells p c es x y (har x (by simp)) hr hsl hkl
 ·match h, hop with
  | [x, y], _ => exact A9X nm num ty fr lb ks G cells p c es 7 (.inl rfl) x y hr hsl hkl
 ·match h, hop with
  | [x, y], _ => exact A9X nm num ty fr lb ks G cells p c es 8 (.inr rfl) x y hr hsl hkl
 ·match h, hop with
  | [x, y, z], _ => exact B45 nm num ty fr lb ks G cells p c es x y z (har y (by simp)) hr hsl hkl
 ·match h, hop with
  | [x, y], _ => exact B46 nm num ty fr lb ks G cells p c es x y (har x (by simp)) (har y (by simp)) hr hsl hkl
 ·match h, hop with
  | [x], _ => exact A9Y nm num ty fr lb ks G cells p c es 11 (.inl rfl) x (har x (by simp)) hr hsl hkl
 ·match h, hop with
  | [x], _ => exact A9Y nm num ty fr lb ks G cells p c es 12 (.inr rfl) x (har x (by simp)) hr hsl hkl
 ·match h, hop with
  | [x], _ => exact B44 nm num ty fr lb ks G cells p c es x hty hr hsl hkl
end
theorem B49 (cx : Cx) (k : Int) (nm : ByteArray) (num : Int) (ty fr : Ty) (lb : Int) (hk4 : k = 1 ∨ k = 2 ∨ k = 3 ∨ k = 4) (G : IM) (p : Option Addr) (n c : Nat) (cells : List Value) (hcv : cxV cx) (hx : S1 G cx p n c) (hr : A7 G (.mk k nm num ty fr lb []) cells) :
  Fn Tryz.prog 196 [.slice p n c, .agg ⟨cells⟩] [] G (N2 (E6 cx (.mk k nm num ty fr lb [])) G) := by
 have hone := hr.one
 have f1 : k = 1 → E6 cx (.mk k nm num ty fr lb []) = X4 cx nm := by rintro rfl; exact B40 hcv
 have f2 : k = 2 → E6 cx (.mk k nm num ty fr lb []) = some O7 := by rintro rfl; exact B41
 have f3 : k = 3 ∨ k = 4 → E6 cx (.mk k nm num ty fr lb []) = some U9 := by rintro (rfl | rfl); exact B42; exact B43
 generalize E6 cx (.mk k nm num ty fr lb []) = R at f1 f2 f3 ⊢
 obtain ⟨tk, tks⟩ := ty
 obtain ⟨fk, fks⟩ := fr
 obtain ⟨pt, ct, pf, cf, q, cq, es, rfl, hk, hnum, hlb, hty, hfr, hsl, hkl⟩ := hr.open9
 refine B5 Tryz.func196 rfl Tryz.ntmps196 Tryz.results196 rfl ?_
 intro w0
 refine tS (tR ?_)
 refine sE (C0 rfl rfl) rfl (fun b3 => ?_)
 refine sE (A5 rfl) rfl (fun b4 => ?_)
 refine H8 ?_
 refine B9 (tS (tR (sB (qE rfl rfl) rfl rfl (fun h18 => ?_) (fun h18 => ?_))))
 refine D7 ?_
 (refine D3 rfl (B33 G cx hcv p n c nm hx) rfl rfl (fun v G1 hle1 hh => ?_); obtain ⟨mt, mc, rfl, hmr, hma, hmu⟩ := hh; obtain ⟨p1, c1, e1, rfl, _⟩ := hmr.open)
 refine D7 ?_
 refine D6 (rC rfl (A3 rfl rfl)) (rT rfl) ?_
 (rw [f1 (by omega)]; exact ⟨rfl, _, _, rfl, hmr, hma, hmu⟩)
 refine sQ (qA rfl) rfl (sD (nS (cF rfl (tS (tR ?_)))))
 refine sB (qE rfl rfl) rfl rfl (fun h46 => ?_) (fun h46 => ?_)
 refine sQ (qA rfl) rfl (sD (nS (qT rfl (tS (tR ?_)))))
 refine E8 rfl ((V9 _)) rfl rfl ?_
 refine F8 ?_
 refine sQ (qA rfl) rfl (sD (nS (tT (rB (rS ?_)))))
 refine D6 (rC rfl (A3 rfl rfl)) (rT rfl) ?_
 (rw [f2 (by omega)]; exact N2.yes rfl (K6 _) (M4 (by omega) (by omega)))
 refine sQ (qA rfl) rfl (sD (nS (cF rfl (tS (tS (tR ?_))))))
 refine sB (qE rfl rfl) rfl rfl (fun h70 => ?_) (fun h70 => ?_)
 refine D7 ?_
 refine E8 rfl ((A1f _)) rfl rfl ?_
 refine F8 ?_
 refine sQ (qA rfl) rfl (sD (nS (tT (rB (rS ?_)))))
 refine D6 (rC rfl (A3 rfl rfl)) (rT rfl) ?_
 (rw [f3 (by omega)]; exact N2.yes rfl (W7 _) (M4 (by omega) (by omega)))
 refine sQ (qA rfl) rfl (sD (nS (cF rfl (tR ?_))))
 refine sP (Q0 rfl rfl (by omega)) rfl rfl ?_
 refine sQ (qA rfl) rfl (sD (nS (qT rfl (tS (tR ?_)))))
 refine E8 rfl ((A1f _)) rfl rfl ?_
 refine F8 ?_
 refine sQ (qA rfl) rfl (sD (nS (tT (rB (rS ?_)))))
 refine D6 (rC rfl (A3 rfl rfl)) (rT rfl) ?_
 (rw [f3 (by omega)]; exact N2.yes rfl (W7 _) (M4 (by omega) (by omega)))
theorem B5a : ∀ (e : Tm) (d : Int) (cx : Cx) (G : IM) (p : Option Addr) (n c : Nat) (cells : List Value), P2 40 13 e d = true → (n : Int) ≤ d → cxV cx → S1 G cx p n c → A7 G e cells →
  Fn Tryz.prog 150 [.slice p n c, .agg ⟨cells⟩] [] G (N2 (E6 cx e) G) := by
 refine Tm.ind fun k nm num ty fr lb ks ih d cx G p n c cells hv hnd hcv hx hr => ?_
 have hr0 := hr
 have hone := hr.one
 obtain ⟨hv1, hv2, hv3, hv4⟩ := A00 hv
 have hvk := (A0Y 40 13 ks _).1 hv4
 have har := (V7.1 hv3).1
 have hop := A2i har
 obtain ⟨hta, hts⟩ := A2L hv3
 have hkr : 1 ≤ k ∧ k ≤ 14 := A85 (by rw [har]; omega)
 have hcv5 : k = 5 → cxV (cx ++ [(nm, ty)]) := fun hk => by have := B20 (k := k) (nm := nm) (ty := ty) hcv fun hk => (V7.1 hv3).2.2.2.2.2.1 (.inl hk); rwa [R6, if_pos hk] at this
 have h0 : k ≤ 4 → ks = [] := fun h => List.length_eq_zero_iff.1 (by
  have hk : k = 1 ∨ k = 2 ∨ k = 3 ∨ k = 4 := by omega
  rcases hk with rfl | rfl | rfl | rfl
  ·have : E0 1 = 0 := rfl; omega
  ·have : E0 2 = 0 := rfl; omega
  ·have : E0 3 = 0 := rfl; omega
  ·have : E0 4 = 0 := rfl; omega)
 have f0 := fun (h : k ≤ 4) => B49 cx k nm num ty fr lb (by omega) G p n c cells hcv hx (by have := hr; rw [h0 h] at this; exact this)
 have f0' : k ≤ 4 → E6 cx (.mk k nm num ty fr lb ks) = E6 cx (.mk k nm num ty fr lb []) := fun h => by rw [h0 h]
 have f4 : ∀ (hk : k = 5) (hl : 0 < ks.length), E6 (cx ++ [(nm, ty)]) ks[0] = none → E6 cx (.mk k nm num ty fr lb ks) = none := fun hk hl h => by
  subst hk; obtain ⟨b, rfl⟩ := ks1 (hop.2.2 (.inl rfl)); exact B4Y h
 have f5 : ∀ (t : Ty) (hk : k = 5) (hl : 0 < ks.length), E6 (cx ++ [(nm, ty)]) ks[0] = some t → E6 cx (.mk k nm num ty fr lb ks) = if M1 (.mk 4 [ty, t]) = true then some (.mk 4 [ty, t]) else none := fun t hk hl h => by
  subst hk; obtain ⟨b, rfl⟩ := ks1 (hop.2.2 (.inl rfl)); exact B4Z h
 have f6 : k ≠ 5 → N8 cx ks = none → E6 cx (.mk k nm num ty fr lb ks) = none := fun hk h => A8C (by rw [R6, if_neg hk]; exact h)
 have f7 := fun (h : List Ty) (hk : k = 6 ∨ k = 7 ∨ k = 8 ∨ k = 9 ∨ k = 10 ∨ k = 11 ∨ k = 12 ∨ k = 14) (hu : N8 cx ks = some h) (hvh : ∀ u ∈ h, M1 u = true) => @B4X cx k nm num ty fr lb ks h hk har hu hvh
 have hkv : ∀ i (hi : i < ks.length) u, E6 cx ks[i] = some u → M1 u = true := fun i hi u hu => by
  have h1 := hvk i hi
  generalize ks[i] = a at h1 hu
  obtain ⟨ak, anm, anum, aty, afr, alb, aks⟩ := a
  exact A5U (fun h14 => (V7.1 (A00 h1).2.2.1).2.2.2.2.2.1 (by omega)) hu
 generalize E6 cx (.mk k nm num ty fr lb ks) = R at f0' f4 f5 f6 f7 ⊢
 obtain ⟨tk, tks⟩ := ty
 obtain ⟨fk, fks⟩ := fr
 obtain ⟨pt, ct, pf, cf, q, cq, es, rfl, hk, hnum, hlb, hty, hfr, hsl, hkl⟩ := hr.open9
 have hlen : ks.length ≤ 3 := by have := A1e k; omega
 refine B5 Tryz.func150 rfl Tryz.ntmps150 Tryz.results150 rfl ?_
 intro w0
 refine tS (tR ?_)
 refine sE (C0 rfl rfl) rfl (fun b3 => ?_)
 refine sE (A5 rfl) rfl (fun b4 => ?_)
 refine H8 ?_
 refine B9 (tS (tS (tR (sB (qE rfl rfl) rfl rfl (fun h19 => ?_) (fun h19 => ?_)))))
 refine J7 ?_
 (refine D3 rfl (f0 (by omega)) rfl rfl (fun v G1 hle1 hh => ?_); obtain ⟨mt, mc, rfl, hmr, hma, hmu⟩ := hh; obtain ⟨p1, c1, e1, rfl, _⟩ := hmr.open)
 refine D7 ?_
 refine D6 (rC rfl (A3 rfl rfl)) (rT rfl) ?_
 (rw [f0' (by omega)]; exact ⟨rfl, _, _, rfl, hmr, hma, hmu⟩)
 refine sQ (qA rfl) rfl (sD (nS (cF rfl (tS (tR ?_)))))
 refine sB (qE rfl rfl) rfl rfl (fun h49 => ?_) (fun h49 => ?_)
 refine J7 ?_
 (refine D3 rfl (f0 (by omega)) rfl rfl (fun v G1 hle1 hh => ?_); obtain ⟨mt, mc, rfl, hmr, hma, hmu⟩ := hh; obtain ⟨p1, c1, e1, rfl, _⟩ := hmr.open)
 refine D7 ?_
 refine D6 (rC rfl (A3 rfl rfl)) (rT rfl) ?_
 (rw [f0' (by omega)]; exact ⟨rfl, _, _, rfl, hmr, hma, hmu⟩)
 refine sQ (qA rfl) rfl (sD (nS (cF rfl (tS (tR ?_)))))
 refine sB (qE rfl rfl) rfl rfl (fun h79 => ?_) (fun h79 => ?_)
 refine J7 ?_
 (refine D3 rfl (f0 (by omega)) rfl rfl (fun v G1 hle1 hh => ?_); obtain ⟨mt, mc, rfl, hmr, hma, hmu⟩ := hh; obtain ⟨p1, c1, e1, rfl, _⟩ := hmr.open)
 refine D7 ?_
 refine D6 (rC rfl (A3 rfl rfl)) (rT rfl) ?_
 (rw [f0' (by omega)]; exact ⟨rfl, _, _, rfl, hmr, hma, hmu⟩)
 refine sQ (qA rfl) rfl (sD (nS (cF rfl (tR ?_))))
 refine sB (qE rfl rfl) rfl rfl (fun h108 => ?_) (fun h108 => ?_)
 refine D8 ?_
 (refine D3 rfl (f0 (by omega)) rfl rfl (fun v G1 hle1 hh => ?_); obtain ⟨mt, mc, rfl, hmr, hma, hmu⟩ := hh; obtain ⟨p1, c1, e1, rfl, _⟩ := hmr.open)
 refine D7 ?_
 refine D6 (rC rfl (A3 rfl rfl)) (rT rfl) ?_
 (rw [f0' (by omega)]; exact ⟨rfl, _, _, rfl, hmr, hma, hmu⟩)
 refine sQ (qA rfl) rfl (sD (nS (cF rfl (tS (tR ?_)))))
 refine sB (qE rfl rfl) rfl rfl (fun h135 => ?_) (fun h135 => ?_)
 refine sQ (qA rfl) rfl (sD (nS (qT rfl (tS ?_))))
 (have hl1 : ks.length = 1 := hop.2.2 (by omega); have hk5 : k = 5 := (by omega); obtain ⟨b, o, e, rfl, hl, hat, hre, hgb⟩ := hsl.kidTm hkl (i := 0) (by omega) (by omega); have hMore := B38 G cx p n c nm (.mk tk tks) _ hx (by omega) hty; refine C9 D1 rfl ?_)
 refine H6 (i := 0) (l' := [tt,ff,ff,ff,ff,ff,ff,ff,ff,ff,ff,ff,ff,ff,ff,ff,ff]) rfl C4 (qM rfl) rfl (by kernel_rfl) rfl rfl ?_
 refine aP 1 rfl (A9 rfl) rfl ?_
 refine aL 2 rfl (B7 rfl rfl) rfl ?_
 refine aP 3 rfl (A9 rfl) rfl ?_
 refine aL 4 rfl (A3 rfl rfl) rfl ?_
 refine aP 6 rfl (A9 rfl) rfl ?_
 refine aL 7 rfl (B7 rfl rfl) rfl ?_
 refine aP 8 rfl (B0 (j := 0) rfl rfl rfl (by omega)) rfl ?_
 refine aL 9 rfl (A2 rfl rfl (hat _) hl) rfl ?_
 refine P5 (j := 5) (j' := 14) (by kernel_rfl) ?_ ?_
 (refine E1 rfl rfl hMore rfl rfl rfl (fun v G1 hle1 hh => ?_); obtain ⟨pm, cm, rfl, hxm⟩ := hh; have hreM := hre.mono hle1; have hLam := ih ks[0] (List.getElem_mem (by omega)) (d + 1) _ G1 pm (n + 1) cm _ (hvk 0 (by omega)) (by omega) (hcv5 (by omega)) hxm hreM; have htyM := hty.mono hle1)
 refine P5 (j := 10) (j' := 14) (by kernel_rfl) ?_ ?_
 focus (refine E1 rfl rfl hLam rfl rfl rfl (fun v G2 hle2 hh => ?_); obtain ⟨mt, mc, rfl, hmr, hma, hmu⟩ := hh; obtain ⟨p1, c1, e1, rfl, _⟩ := hmr.open; have htyN := htyM.mono hle2; rcases hE : E6 (cx ++ [(nm, Ty.mk tk tks)]) ks[0] with _ | mt2; rotate_left; obtain rfl := hmu _ hE; rotate_left; all_goals simp only [Option.isSome])
 refine aP 11 rfl (qM rfl) rfl ?_
 refine aP 12 rfl (pX rfl rfl) rfl ?_
 refine aP 13 rfl (pX rfl rfl) rfl ?_
 refine A1 14 ?_
 (refine D9 rfl (A5 rfl) rfl rfl ?_; rintro _ ⟨b159, rfl⟩)
 refine A1 15 ?_
 refine F0 rfl ?_
 refine aP 16 rfl (qA rfl) rfl ?_
 refine Y1 ?_
 refine D6 (rC rfl (A3 rfl rfl)) (rT rfl) ?_
 (rw [f4 (by omega) (by omega) (by first | exact hE | assumption)]; exact N2.no rfl (J8 _ ⟨by omega, by omega⟩) (M4 (by omega) (by omega)))
 refine aP 11 rfl (qM rfl) rfl ?_
 refine aP 12 rfl (pX rfl rfl) rfl ?_
 refine aP 13 rfl (pX rfl rfl) rfl ?_
 refine A1 14 ?_
 (refine D9 rfl (A5 rfl) rfl rfl ?_; rintro _ ⟨b190, rfl⟩)
 refine A1 15 ?_
 refine F0 rfl ?_
 refine aP 16 rfl (qA rfl) rfl ?_
 refine R2 ?_
 (refine D3 rfl (A4H 4 (.mk tk tks) _ _ _ _ (.inl rfl) hta hma htyN hmr) rfl rfl (fun v G3 hle3 hh => ?_); obtain ⟨mc2, rfl, hmr2⟩ := hh; obtain ⟨p2, c2, e2, rfl, _⟩ := hmr2.open)
 refine D7 ?_
 refine D6 (rC rfl (A3 rfl rfl)) (rT rfl) ?_
 (rw [f5 _ (by omega) (by omega) (by first | exact hE | assumption)]; exact N2.mk rfl hmr2 (A1M (.inl rfl) hta hma))
 (refine D9 rfl (A5 rfl) rfl rfl ?_; rintro _ ⟨b223, rfl⟩)
 refine A1 10 ?_
 focus (refine E1 rfl rfl hLam rfl rfl rfl (fun v G2 hle2 hh => ?_); obtain ⟨mt, mc, rfl, hmr, hma, hmu⟩ := hh; obtain ⟨p1, c1, e1, rfl, _⟩ := hmr.open; have htyN := htyM.mono hle2; rcases hE : E6 (cx ++ [(nm, Ty.mk tk tks)]) ks[0] with _ | mt2; rotate_left; obtain rfl := hmu _ hE; rotate_left; all_goals simp only [Option.isSome])
 refine aP 11 rfl (qM rfl) rfl ?_
 refine aP 12 rfl (pX rfl rfl) rfl ?_
 refine aP 13 rfl (pX rfl rfl) rfl ?_
 refine A1 15 ?_
 refine F0 rfl ?_
 refine aP 16 rfl (qA rfl) rfl ?_
 refine Y1 ?_
 refine D6 (rC rfl (A3 rfl rfl)) (rT rfl) ?_
 (rw [f4 (by omega) (by omega) (by first | exact hE | assumption)]; exact N2.no rfl (J8 _ ⟨by omega, by omega⟩) (M4 (by omega) (by omega)))
 refine aP 11 rfl (qM rfl) rfl ?_
 refine aP 12 rfl (pX rfl rfl) rfl ?_
 refine aP 13 rfl (pX rfl rfl) rfl ?_
 refine A1 15 ?_
 refine F0 rfl ?_
 refine aP 16 rfl (qA rfl) rfl ?_
 refine R2 ?_
 (refine D3 rfl (A4H 4 (.mk tk tks) _ _ _ _ (.inl rfl) hta hma htyN hmr) rfl rfl (fun v G3 hle3 hh => ?_); obtain ⟨mc2, rfl, hmr2⟩ := hh; obtain ⟨p2, c2, e2, rfl, _⟩ := hmr2.open)
 refine D7 ?_
 refine D6 (rC rfl (A3 rfl rfl)) (rT rfl) ?_
 (rw [f5 _ (by omega) (by omega) (by first | exact hE | assumption)]; exact N2.mk rfl hmr2 (A1M (.inl rfl) hta hma))
 (refine D9 rfl (A5 rfl) rfl rfl ?_; rintro _ ⟨b290, rfl⟩)
 refine A1 5 ?_
 (refine E1 rfl rfl hMore rfl rfl rfl (fun v G1 hle1 hh => ?_); obtain ⟨pm, cm, rfl, hxm⟩ := hh; have hreM := hre.mono hle1; have hLam := ih ks[0] (List.getElem_mem (by omega)) (d + 1) _ G1 pm (n + 1) cm _ (hvk 0 (by omega)) (by omega) (hcv5 (by omega)) hxm hreM; have htyM := hty.mono hle1)
 refine A1 10 ?_
 focus (refine E1 rfl rfl hLam rfl rfl rfl (fun v G2 hle2 hh => ?_); obtain ⟨mt, mc, rfl, hmr, hma, hmu⟩ := hh; obtain ⟨p1, c1, e1, rfl, _⟩ := hmr.open; have htyN := htyM.mono hle2; rcases hE : E6 (cx ++ [(nm, Ty.mk tk tks)]) ks[0] with _ | mt2; rotate_left; obtain rfl := hmu _ hE; rotate_left; all_goals simp only [Option.isSome])
 refine aP 11 rfl (qM rfl) rfl ?_
 refine aP 12 rfl (pX rfl rfl) rfl ?_
 refine aP 13 rfl (pX rfl rfl) rfl ?_
 refine A1 15 ?_
 refine F0 rfl ?_
 refine aP 16 rfl (qA rfl) rfl ?_
 refine Y1 ?_
 refine D6 (rC rfl (A3 rfl rfl)) (rT rfl) ?_
 (rw [f4 (by omega) (by omega) (by first | exact hE | assumption)]; exact N2.no rfl (J8 _ ⟨by omega, by omega⟩) (M4 (by omega) (by omega)))
 refine aP 11 rfl (qM rfl) rfl ?_
 refine aP 12 rfl (pX rfl rfl) rfl ?_
 refine aP 13 rfl (pX rfl rfl) rfl ?_
 refine A1 15 ?_
 refine F0 rfl ?_
 refine aP 16 rfl (qA rfl) rfl ?_
 refine R2 ?_
 (refine D3 rfl (A4H 4 (.mk tk tks) _ _ _ _ (.inl rfl) hta hma htyN hmr) rfl rfl (fun v G3 hle3 hh => ?_); obtain ⟨mc2, rfl, hmr2⟩ := hh; obtain ⟨p2, c2, e2, rfl, _⟩ := hmr2.open)
 refine D7 ?_
 refine D6 (rC rfl (A3 rfl rfl)) (rT rfl) ?_
 (rw [f5 _ (by omega) (by omega) (by first | exact hE | assumption)]; exact N2.mk rfl hmr2 (A1M (.inl rfl) hta hma))
 refine D7 ?_
 (refine J5 (C8 rfl rfl rfl (by omega) (by unfold maxLen; omega) rfl) rfl ?_; rintro _ ⟨b368, rfl⟩)
 refine D7 ?_
 refine B9 ?_
 (refine K3 (fun (x : Nat × Option Addr × Nat × List Ty × List (List Value) × IM) => ⟨[(9, .int .i64 x.1), (8, .slice x.2.1 x.1 x.2.2.1), (3, .pointer (some ⟨b3, 0, none⟩)), (4, .pointer (some ⟨b4, 0, none⟩)), (0, .slice p n c)], [.slc x.2.1 x.2.2.1 25 2 x.1 x.2.2.2.2.1.flatten, .blk b4 [.int .i64 0, .slice none 0 0], .blk b3 [.int .i64 k, .string nm, .int .i64 num, .int .i64 tk, .slice pt tks.length ct, .int .i64 fk, .slice pf fks.length cf, .int .i64 lb, .slice q ks.length cq]], x.2.2.2.2.2⟩) (fun x => x.1 ≤ ks.length ∧ B6 G x.2.2.2.2.2 ∧ x.2.2.2.1.length = x.1 ∧ E3 x.2.2.2.2.2 x.2.2.2.1 x.2.2.2.2.1 ∧ (∀ u ∈ x.2.2.2.1, D4 u) ∧ (∀ u ∈ x.2.2.2.1, M1 u = true) ∧ N8 cx (ks.take x.1) = some x.2.2.2.1) (fun x => ks.length - x.1) (0, some ⟨b368, 0, none⟩, 0, [], [], G) ?_ ?_ ?_)
 (simp only [I5]; exact D5)
 (exact ⟨by simp, B6.refl _, rfl, by simp [E3], by simp, by simp, by simp [N8]⟩)
 (rintro ⟨i, pn, cn, us, es', Gi⟩ ⟨hi, hle, hlu, hst, hau, hvu, hsu⟩; simp only [] at hi hle hlu hst hau hvu hsu ⊢; replace hsl := hsl.mono hle; replace hkl := hkl.mono hle; replace hx := hx.mono hle; replace hr0 := hr0.mono hle)
 refine D0 ?_
 refine sB (K1 rfl rfl) rfl rfl (fun h390 => ?_) (fun h390 => ?_)
 refine sD (nS (qT rfl (tK (nS (tS ?_)))))
 refine B9 ?_
 refine I1 ?_
 (obtain ⟨b, o, e, rfl, hl, hat, hre, hgb⟩ := hsl.kidTm hkl (i := i) (by omega) (by omega); refine sP (B0 rfl rfl rfl (by omega)) rfl rfl ?_)
 refine sL (A2 rfl rfl (hat _) hl) rfl rfl ?_
 focus (refine D3 rfl (ih ks[i] (List.getElem_mem (by omega)) (d + 1) cx Gi p n c _ (hvk i (by omega)) (by omega) hcv hx hre) rfl rfl (fun v G2 hle2 hh => ?_); obtain ⟨u, uc, rfl, hru, hua, huu⟩ := hh; obtain ⟨p3, c3, e3, rfl, _⟩ := hru.open; rcases hE : E6 cx ks[i] with _ | u2; rotate_left; obtain rfl := huu _ hE; rotate_left; all_goals simp only [Option.isSome])
 refine I6 ?_
 refine sE (A5 rfl) rfl (fun b410 => ?_)
 refine A2B ?_
 refine D6 (rC rfl (A3 rfl rfl)) (rT rfl) ?_
 (rw [f6 (by omega) (A5T (by omega) hE)]; exact N2.no rfl (J8 _ ⟨by omega, by omega⟩) (M4 (by omega) (by omega)))
 refine I6 ?_
 refine sE (A5 rfl) rfl (fun b442 => ?_)
 refine R2 ?_
 (refine J5 (C8 rfl rfl rfl (by omega) (by unfold maxLen; omega) rfl) rfl ?_; rintro _ ⟨b460, rfl⟩)
 refine A07 rfl rfl rfl rfl rfl (fun _ _ => by repeat (first | exact Sw.here | apply Sw.there)) (P9 (by repeat first | exact mH | apply mT)) rfl (by simp [Value.oneCell']) (by unfold maxLen; omega) (by omega) rfl (fun pn' cn' => ?_)
 refine I1 ?_
 refine sP (J6 rfl rfl (by omega) (by omega)) rfl rfl ?_
 refine sQ (qA rfl) rfl (sD ?_)
 refine K0 (i + 1, pn', cn', us ++ [u2], es' ++ [[.int .i64 u2.k, .slice p3 u2.ks.length c3]], G2) ?_ ?_ ?_
 (simp only [I5]; exact D5)
 (dsimp only; exact ⟨by omega, hle.trans hle2, by simp [hlu], E3.snoc (hst.mono hle2) hru, A1N hau hua, A1N hvu (hkv i (by omega) _ hE), A5S (by omega) hsu hE⟩)
 (show ks.length - (i + 1) < ks.length - i; omega)
 refine M9 ?_
 (obtain rfl : i = ks.length := (by omega); rw [List.take_length] at hsu; refine S7 (cs := es'.flatten) (by repeat (first | exact Pk.here | apply Pk.there)) (fun G3 hle3 hsl3 hno3 => ?_); have hst3 := hst.mono hle3; have hk8 : k = 6 ∨ k = 7 ∨ k = 8 ∨ k = 9 ∨ k = 10 ∨ k = 11 ∨ k = 12 ∨ k = 14 := (by omega); have hRes := B48 nm num (.mk tk tks) (.mk fk fks) lb ks G3 _ pn cn es' k us hk8 (by rw [hlu]; exact har) hau hta (hr0.mono hle3) (by rw [hlu]; exact C5.of hsl3 (by rw [hst3.len, hlu]) hst3.all (fun e he => (hst3.each e he).2)) hst3; rw [hlu] at hRes; refine D3 rfl hRes rfl rfl (fun v G4 hle4 hh => ?_); obtain ⟨mt, mc, rfl, hmr, hma, hmu⟩ := hh; obtain ⟨p1, c1, e1, rfl, _⟩ := hmr.open)
 refine D0 ?_
 refine D6 (rC rfl (A3 rfl rfl)) (rT rfl) ?_
 (rw [f7 us hk8 hsu hvu]; exact ⟨rfl, _, _, rfl, hmr, hma, hmu⟩)
theorem B5b (e : Tm) (G : IM) (cells : List Value) (hcnt : C7 e ≤ 4294967296) (hr : A7 G e cells) :
  Fn Tryz.prog 91 [.agg ⟨cells⟩] [] G (V1 (S9 e) G) := by
 have hl := hr.len
 have hone := hr.one
 have hw := A3q e G cells hcnt hr
 have hT := fun h : I2 e = true => B5a e 1 [] G none 0 0 cells ((A0Z e).1 h).1 (by omega) B2Z (S1.nil G) hr
 have hy : I2 e = true → S9 e = E6 [] e := fun h => by unfold S9; rw [if_pos h]
 have hn : I2 e = false → S9 e = none := fun h => by unfold S9; rw [if_neg (by rw [h]; decide)]
 generalize S9 e = R at hy hn ⊢
 refine B5 Tryz.func91 rfl Tryz.ntmps91 Tryz.results91 rfl ?_
 intro w0
 refine tS (tR ?_)
 refine sE (C0 rfl rfl) rfl (fun b3 => ?_)
 refine sE (A5 rfl) rfl (fun b4 => ?_)
 refine sQ (qA rfl) rfl (sD (nS (tS (tS (tR ?_)))))
 refine sL (A2 rfl rfl (A6 (by repeat first | exact mH | apply mT)) hl) rfl rfl ?_
 refine F9 rfl (hw) rfl rfl (fun h12 => ?_) (fun h12 => ?_)
 refine sQ (S6 rfl) rfl (sD (nS (cF rfl (tK (nS (tS (tR ?_)))))))
 refine sL (A2 rfl rfl (A6 (by repeat first | exact mH | apply mT)) hl) rfl rfl ?_
 (refine D3 rfl (hT (by assumption)) rfl rfl (fun v G1 hle1 hh => ?_); obtain ⟨mt, mc, rfl, hmr, hma, hmu⟩ := hh; obtain ⟨p1, c1, e1, rfl, _⟩ := hmr.open; have hmo := hy (by assumption))
 refine sQ (pX rfl rfl) rfl (sQ (pX rfl rfl) rfl ?_)
 (refine D3 rfl (B4b mt _ _ _ hmr) rfl rfl (fun v G2 hle2 hh => ?_); obtain ⟨mc2, rfl, hmr2⟩ := hh; obtain ⟨p2, c2, e2, rfl, _⟩ := hmr2.open)
 refine D0 ?_
 refine D6 (rC rfl (A3 rfl rfl)) (rT rfl) ?_
 (rw [hmo]; exact V1.sure hmu hmr2)
 refine J4 ?_
 refine D6 (rC rfl (A3 rfl rfl)) (rT rfl) ?_
 (exact V1.no (u := B1) (J8 _ ⟨by omega, by omega⟩) rfl (hn (by assumption)))
end Gw
end Go.Proofs.YtfpgncjeejickaaGreatDoor
