/-
  InferStatic: what it gives, and the laws of it (plain).
-/
import Derived.Test.YtbdacdnffkhgeaaGreatDoorKz513
import Derived.Test.YtbdacdnffkhgeaaGreatDoorKz517
import Derived.Test.YtbdacdnffkhgeaaGreatDoorKz514
import Derived.Test.YtbdacdnffkhgeaaGreatDoorKz510
import Derived.Test.YtbdacdnffkhgeaaGreatDoorKz512
set_option linter.unusedVariables false
set_option linter.unusedSimpArgs false
set_option maxHeartbeats 0
set_option maxRecDepth 100000
set_option synthInstance.maxSize 4000
set_option synthInstance.maxHeartbeats 0
namespace Go.Proofs.YtbdacdnffkhgeaaGreatDoor
open Go Go.RowKit
namespace Gw
theorem y124 {p : Prop} (h : p := by
  refine A2 6 ?_
  (refine P0 rfl rfl rfl rfl rfl rfl (fun _ _ => by repeat (first | exact Sw.here | apply Sw.there)) (K4 zI0) rfl zK0 zL0 zR0 rfl rfl zC (fun p5 c5 => ?_))
  refine aP 7 rfl (C3 rfl) rfl ?_
  refine A2 8 ?_
  refine T7 rfl rfl rfl rfl rfl rfl rfl rfl zM0 zF0 (by rfl) ?_
  refine C1 ?_
  refine D3 D4 rfl ?_
  refine J3 (i := 0) (l' := [tt,ff,ff,ff]) rfl C8 (A3 rfl rfl) rfl zP0 rfl rfl ?_
  refine aL 1 rfl (A3 rfl rfl) rfl ?_
  refine A2 2 ?_
  refine C9 rfl ?_
  refine A2 3 ?_
  refine C9 rfl ?_
  refine A4 ?_
  (refine J6 (cs := eb.flatten ++ [.int .i64 0, .int .i64 (S.c : Int), .slice none 0 0]) zD0 (fun G5 hle5 hsl5 hno5 => ?_))
  refine tT ?_
  refine H3 (rC rfl (A3 rfl rfl)) (rC rfl (A3 rfl rfl)) ?_
  (exact ⟨rfl, _, _, rfl, R2.add hB hsl5 (hrb.mono hle5) rfl (hsl.mono hle5) (hrl.mono hle5), rfl⟩)
) : p := h
theorem y125 {p : Prop} (h : p := by
  refine D3 D4 rfl ?_
  refine J3 (i := 0) (l' := [tt,ff,ff,ff,ff]) rfl C8 (A3 rfl rfl) rfl zP0 rfl rfl ?_
  refine aL 1 rfl (A3 rfl rfl) rfl ?_
  refine A2 2 ?_
  refine C9 rfl ?_
  refine A2 3 ?_
  refine C9 rfl ?_
  refine aP 4 rfl (qA rfl) rfl ?_
  refine A8 ?_
  refine E9 (rC rfl (A3 rfl rfl)) (rC rfl (A3 rfl rfl)) (rT rfl) ?_
  (exact S4.mk (.b true) rfl hs0 rfl (fun s h => by cases h; rfl))
) : p := h
inductive A16 (B : BV) : List SV → List SV → Prop
 | nil : A16 B [] []
 | cons {s ss t ts} : Q9 B s t → A16 B ss ts → A16 B (s :: ss) (t :: ts)
theorem A16.len {B : BV} {ss ts : List SV} (h : A16 B ss ts) : ss.length = ts.length := by
 induction h with
 | nil => rfl
 | cons _ _ i => simp [i]
theorem B2a {B : BV} {c : Nat} (h : WB B c) : ∀ ss, ∃ ts, A16 B ss ts
 | [] => ⟨[], .nil⟩
 | s :: ss => by
  obtain ⟨t, ht⟩ := h.den s
  obtain ⟨ts, hts⟩ := B2a h ss
  exact ⟨t :: ts, .cons ht hts⟩
abbrev IS0 : IS := ⟨fun _ => none, 0, []⟩
theorem B2b : IS0.ok := ⟨⟨fun _ _ => rfl, fun _ => 0, fun n s h => (by cases h)⟩, fun s h => (by cases h)⟩
inductive A1j (e : Tm) : Option (Tm × Ty) → Prop
 | bad : M3 e = false → A1j e none
 | fail {S} : M3 e = true → V3 [] (H2 e) IS0 S none → A1j e none
 | deep {S s ts} : M3 e = true → V3 [] (H2 e) IS0 S (some s) → S.ok → A5W IS0 S (E4 (H2 e)) (A02 (H2 e)) → A16 S.B S.L ts → A0m ts = none → A1j e none
 | fine {S s ts l} : M3 e = true → V3 [] (H2 e) IS0 S (some s) → S.ok → A5W IS0 S (E4 (H2 e)) (A02 (H2 e)) → A16 S.B S.L ts → A0m ts = some l → l.length = (K8 (H2 e)).length → (∀ u ∈ l, H9 u = true) → A1j e ((U7 (S6 (H2 e) l)).map fun t => (S6 (H2 e) l, t))
mutual
theorem A3M : ∀ (e : Tm) (d : Int), L6 12 14 e d = true → mBr (H2 e)
 | .mk k nm num ty fr lb ks, d, h => by
  obtain ⟨h1, h2, h3, h4⟩ := A0b h
  have hn := X5.1 h3
  rw [H2]
  by_cases hk : k = 13 ∨ k = 14
  ·rw [if_pos hk]
   match ks, hn.1, h4 with
   | [], ha, _ => exact absurd ha (by rcases hk with rfl | rfl <;> decide)
   | t :: ts, _, h4 =>
    rw [I2, Bool.and_eq_true] at h4
    exact A3M t _ h4.1
  ·rw [if_neg hk]
   simp only [mBr]
   have hk1 : 1 ≤ k ∧ k ≤ 14 := by
    have ha := hn.1
    unfold E8 at ha
    by_cases hh : 1 ≤ k ∧ k ≤ 14
    ·exact hh
    ·repeat rw [if_neg zR0] at ha
     omega
   refine ⟨by rw [A3A, List.length_map]; exact hn.1, hk1.1, by omega, fun hh => ?_, B2c ks _ h4⟩
   have h9 := hn.2.1 hh
   simp only [A0B, Bool.and_eq_true, decide_eq_true_eq] at h9
   first | exact h9.1 | exact h9.1.1 | omega
theorem B2c : ∀ (es : List Tm) (d : Int), I2 12 14 es d = true → A1q (I0 es)
 | [], _, _ => by rw [I0]; trivial
 | t :: ts, d, h => by
  rw [I2, Bool.and_eq_true] at h
  rw [I0]
  exact ⟨A3M t d h.1, B2c ts d h.2⟩
end
mutual
theorem A8q : ∀ (e : Tm), mBr e → A02 e = (K8 e).length
 | .mk k nm num ty fr lb ks, h => by
  simp only [mBr] at h
  have := B2d ks h.2.2.2.2
  rw [A02, K8]
  by_cases h5 : k = 5
  ·rw [if_pos h5, if_pos (.inl h5)]; simp [this]; try omega
  ·rw [if_neg h5, if_neg zR0]; simp [this]
theorem B2d : ∀ (es : List Tm), A1q es → A1d es = (J1 es).length
 | [], _ => by rw [A1d, J1]; rfl
 | e :: es, h => by
  simp only [A1q] at h
  rw [A1d, J1, List.length_append, A8q e h.1, B2d es h.2]
end
mutual
theorem B2e : ∀ e : Tm, H2 (H2 e) = H2 e
 | .mk k nm num ty fr lb ks => by
  have hL := B2f ks
  rw [H2]
  by_cases hk : k = 13 ∨ k = 14
  ·rw [if_pos hk]
   match ks, hL with
   | [], _ => rfl
   | t :: ts, hL =>
    rw [I0, I0] at hL
    exact (List.cons.inj hL).1
  ·rw [if_neg hk, H2, if_neg hk, hL]
theorem B2f : ∀ es : List Tm, I0 (I0 es) = I0 es
 | [] => rfl
 | e :: es => by rw [I0, I0, B2e e, B2f es]
end
mutual
theorem B2g : ∀ (t : Tm) (l : List Ty), H2 (S6 t l) = H2 t
 | .mk k nm num ty fr lb ks, l => by
  have hL := B2h ks (if k = 5 ∨ k = 13 then l.drop 1 else l)
  rw [S6]
  rw [H2, H2, hL]
theorem B2h : ∀ (ts : List Tm) (l : List Ty), I0 (R6 ts l) = I0 ts
 | [], l => by rw [R6]
 | t :: ts, l => by rw [R6, I0, I0, B2g t, B2h ts]
end
theorem A8r : ∀ (d : Nat) (s : SV) (t : Ty), S9 d s = some t → ∀ k : Int, k + d = 5 → 1 ≤ k → M9 t k = true ∧ Q5 t = 0
 | 0, _, _, h, _, _, _ => by cases h
 | d + 1, .v _, t, h, k, hk, h1 => by
  cases h
  refine ⟨?_, rfl⟩
  rw [M9, U4, decide_eq_true (show k ≤ 4 by omega)]; rfl
 | d + 1, .b c, t, h, k, hk, h1 => by
  cases h
  refine ⟨?_, by cases c <;> rfl⟩
  rw [M9, U4, decide_eq_true (show k ≤ 4 by omega)]
  cases c <;> rfl
 | d + 1, .t c x y, t, h, k, hk, h1 => by
  rw [S9] at h
  cases ha : S9 d x with
  | none => rw [ha] at h; cases h
  | some a =>
   rw [ha] at h
   cases hb : S9 d y with
   | none => rw [hb] at h; cases h
   | some b =>
    rw [hb] at h
    cases h
    obtain ⟨p1, p2⟩ := A8r d x a ha (k + 1) zR0 zR0
    obtain ⟨q1, q2⟩ := A8r d y b hb (k + 1) zR0 zR0
    refine ⟨?_, ?_⟩
    ·rw [M9, U4, U4, U4, p1, q1, decide_eq_true (show k ≤ 4 by omega)]
     cases c <;> rfl
    ·rw [Q5, if_neg (by cases c <;> decide), A0P, A0P, A0P, p2, q2]; rfl
theorem A8s : ∀ (ss : List SV) (l : List Ty), A0m ss = some l → l.length = ss.length ∧ (∀ u ∈ l, H9 u = true) ∧ l.all tSt = true
 | [], l, h => by cases h; exact ⟨rfl, by simp, rfl⟩
 | s :: ss, l, h => by
  rw [A0m] at h
  cases ha : S9 4 s with
  | none => rw [ha] at h; cases h
  | some t =>
   rw [ha] at h
   cases hb : A0m ss with
   | none => rw [hb] at h; cases h
   | some ts =>
    rw [hb] at h
    cases h
    obtain ⟨h1, h2, h3⟩ := A8s ss ts hb
    obtain ⟨p1, p2⟩ := A8r 4 s t ha 1 zQ0 zQ0
    refine ⟨by simp [h1], fun u hu => ?_, ?_⟩
    ·rcases List.mem_cons.1 hu with rfl | hu
     ·exact p1
     ·exact h2 u hu
    ·rw [List.all_cons, h3, Bool.and_true]; exact decide_eq_true p2
theorem B8g (e : Tm) : ∃ r, A1j e r := by
 cases hv : M3 e with
 | false => exact ⟨none, .bad hv⟩
 | true =>
  have hbr := A3M e 1 ((V2 e).1 hv).1
  obtain ⟨S, o, h1, h2, h3, h4⟩ := A7q (H2 e) [] IS0 hbr B2b (fun p hp => by cases hp)
  cases o with
  | none => exact ⟨none, .fail hv h1⟩
  | some s =>
   obtain ⟨ts, hts⟩ := B2a h2.ok.wb S.L
   cases hl : A0m ts with
   | none => exact ⟨none, .deep hv h1 h2.ok h2 hts hl⟩
   | some l =>
    obtain ⟨g1, g2, g3⟩ := A8s ts l hl
    have := h4 rfl
    have hL := hts.len
    refine ⟨_, .fine hv h1 h2.ok h2 hts hl ?_ g2⟩
    rw [g1, ← hL, this, ← A8q _ hbr]
    simp
theorem B8h {e x : Tm} {t : Ty} (h : A1j e (some (x, t))) : M3 e = true ∧ (U7 x).isSome = true ∧ A5k x = true ∧ H2 x = H2 e := by
 generalize hr : some (x, t) = r at h
 cases h with
 | bad _ => cases hr
 | fail _ _ => cases hr
 | deep _ _ _ _ _ _ => cases hr
 | @fine S s ts l hv _ _ _ hts hl hn hval =>
  cases ht : U7 (S6 (H2 e) l) with
  | none => rw [ht] at hr; cases hr
  | some u =>
   rw [ht] at hr
   cases hr
   have h1 : (U7 (S6 (H2 e) l)).isSome = true := by rw [ht]; rfl
   refine ⟨hv, h1, ?_, ?_⟩
   ·unfold A5k
    rw [A5i h1, B7A hn, (A8s ts l hl).2.2]; rfl
   ·rw [B2g, B2e]
theorem B8i {e x : Tm} {f : Int} (h1 : M3 e = true) (h2 : M3 x = true) (hb : H2 x = H2 e) : A0r x f = A0r e f := by
 have g1 : (M3 e || O9 e) = true := by rw [h1]; rfl
 have g2 : (M3 x || O9 x) = true := by rw [h2]; rfl
 unfold A0r
 rw [g1, g2, hb]
theorem B8j {e x : Tm} {t : Ty} (h : A1j e (some (x, t))) (f : Int) : (A0r e f).2.1 ≠ 2 ∧ (A0r e f).2.1 = (A0Z x f).2.1 ∧ (A0r e f).1 = (A0Z x f).1 := by
 obtain ⟨h1, h2, h3, h4⟩ := B8h h
 rw [← B8i h1 (A5i h2) h4]
 exact B8a h3 h2 f
def Q6 (G : IM) : SV → List Value → Prop
 | .v n, cs => cs = [.int .i64 0, .int .i64 n, .slice none 0 0]
 | .b c, cs => cs = [.int .i64 (SV.b c).kd, .int .i64 0, .slice none 0 0]
 | .t c x y, cs => ∃ p cp ex ez, cs = [.int .i64 (if c = true then 5 else 4), .int .i64 0, .slice p 2 cp] ∧ Sl G p 2 cp 3 (ex ++ ez) ∧ ex.length = 3 ∧ Q6 G x ex ∧ Q6 G y ez
theorem Q6.mono {G G' : IM} (hG : B9 G G') : ∀ {s : SV} {cs : List Value}, Q6 G s cs → Q6 G' s cs
 | .v _, _, h => h
 | .b _, _, h => h
 | .t _ _ _, _, h => by
  obtain ⟨p, cp, ex, ez, h1, h2, h3, h4, h5⟩ := h
  exact ⟨p, cp, ex, ez, h1, h2.mono hG, h3, Q6.mono hG h4, Q6.mono hG h5⟩
theorem Q6.len {G : IM} : ∀ {s : SV} {cs : List Value}, Q6 G s cs → cs.length = 3
 | .v _, _, h => by rw [show _ = _ from h]; rfl
 | .b _, _, h => by rw [show _ = _ from h]; rfl
 | .t _ _ _, _, h => by obtain ⟨p, cp, ex, ez, h1, _⟩ := h; rw [h1]; rfl
theorem Q6.one {G : IM} : ∀ {s : SV} {cs : List Value}, Q6 G s cs → (cs.all (·.oneCell')) = true
 | .v _, _, h => by rw [show _ = _ from h]; rfl
 | .b _, _, h => by rw [show _ = _ from h]; rfl
 | .t _ _ _, _, h => by obtain ⟨p, cp, ex, ez, h1, _⟩ := h; rw [h1]; rfl
theorem Q6.op {G : IM} {s : SV} {cs : List Value} (h : Q6 G s cs) : ∃ nm p n c, cs = [.int .i64 s.kd, .int .i64 nm, .slice p n c] ∧
  ((∃ m, s = .v m ∧ nm = m ∧ p = none ∧ n = 0 ∧ c = 0) ∨ (∃ d, s = .b d ∧ nm = 0 ∧ p = none ∧ n = 0 ∧ c = 0) ∨ ∃ d x y ex ez, s = .t d x y ∧ nm = 0 ∧ n = 2 ∧ Sl G p 2 c 3 (ex ++ ez) ∧ ex.length = 3 ∧ Q6 G x ex ∧ Q6 G y ez) := by
 cases s with
 | v m => exact ⟨m, none, 0, 0, h, .inl ⟨m, rfl, rfl, rfl, rfl, rfl⟩⟩
 | b d => exact ⟨0, none, 0, 0, h, .inr (.inl ⟨d, rfl, rfl, rfl, rfl, rfl⟩)⟩
 | t d x y =>
  obtain ⟨p, cp, ex, ez, h1, h2, h3, h4, h5⟩ := h
  exact ⟨0, p, 2, cp, h1, .inr (.inr ⟨d, x, y, ex, ez, rfl, rfl, rfl, h2, h3, h4, h5⟩)⟩
inductive P9 (G : IM) : List SV → List (List Value) → Prop
 | nil : P9 G [] []
 | cons {s ss e es} : Q6 G s e → P9 G ss es → P9 G (s :: ss) (e :: es)
theorem P9.mono {G G' : IM} (hG : B9 G G') {ss : List SV} {es : List (List Value)} (h : P9 G ss es) : P9 G' ss es := by
 induction h with
 | nil => exact .nil
 | cons h1 _ i => exact .cons (h1.mono hG) i
theorem P9.snoc {G : IM} {ss : List SV} {es : List (List Value)} {s : SV} {e : List Value} (h : P9 G ss es) (hs : Q6 G s e) : P9 G (ss ++ [s]) (es ++ [e]) := by
 induction h with
 | nil => exact .cons hs .nil
 | cons h1 _ i => exact .cons h1 i
theorem P9.len {G : IM} {ss : List SV} {es : List (List Value)} (h : P9 G ss es) : es.length = ss.length := by
 induction h with
 | nil => rfl
 | cons _ _ i => simp [i]
theorem P9.get {G : IM} {ss : List SV} {es : List (List Value)} (h : P9 G ss es) : ∀ {i : Nat} {s : SV}, ss[i]? = some s → ∃ e, es[i]? = some e ∧ Q6 G s e := by
 induction h with
 | nil => intro i s h; simp at h
 | cons h1 _ ih =>
  intro i s hi
  cases i with
  | zero => simp only [List.getElem?_cons_zero, Option.some.injEq] at hi; subst hi; exact ⟨_, rfl, h1⟩
  | succ i => obtain ⟨e, h2, h3⟩ := ih (by simpa using hi); exact ⟨e, by simpa using h2, h3⟩
theorem P9.each {G : IM} {ss : List SV} {es : List (List Value)} (h : P9 G ss es) : ∀ e ∈ es, e.length = 3 ∧ (e.all (·.oneCell')) = true := by
 induction h with
 | nil => intro e he; cases he
 | cons h1 _ ih =>
  intro e he
  rcases List.mem_cons.1 he with rfl | he
  ·exact ⟨h1.len, h1.one⟩
  ·exact ih e he
theorem P9.ones {G : IM} {ss : List SV} {es : List (List Value)} (h : P9 G ss es) : ∀ u ∈ es.flatten, u.oneCell' = true := by
 intro u hu
 obtain ⟨e, he, hue⟩ := List.mem_flatten.1 hu
 exact List.all_eq_true.1 (h.each e he).2 u hue
theorem P9.set {G : IM} {ss : List SV} {es : List (List Value)} {s : SV} {e : List Value} (h : P9 G ss es) (hs : Q6 G s e) : ∀ i, P9 G (ss.set i s) (es.set i e) := by
 induction h with
 | nil => intro i; simp; exact .nil
 | cons h1 h2 ih =>
  intro i
  cases i with
  | zero => exact .cons hs h2
  | succ i => exact .cons h1 (ih i)
def bnd (B : BV) (c : Nat) : List SV := (List.range c).map fun i => (B i).getD (.v i)
theorem A3N (B : BV) (c : Nat) : (bnd B c).length = c := by simp [bnd]
theorem A8t {B : BV} {c n : Nat} (h : n < c) : (bnd B c)[n]? = some ((B n).getD (.v n)) := by
 unfold bnd
 rw [List.getElem?_map, List.getElem?_range h]; rfl
theorem B8k {B : BV} {c : Nat} (h : B c = none) : bnd B (c + 1) = bnd B c ++ [.v c] := by
 unfold bnd
 rw [List.range_succ, List.map_append, List.map_singleton, h]; rfl
theorem B2i {B : BV} {c n : Nat} {s : SV} (h : n < c) : bnd (A01 B n s) c = (bnd B c).set n s := by
 apply List.ext_getElem?
 intro i
 by_cases hi : i < c
 ·rw [A8t hi]
  by_cases hin : i = n
  ·subst hin
   rw [List.getElem?_set_self (by rw [A3N]; exact hi)]
   simp [A01]
  ·rw [List.getElem?_set_ne (fun e => hin e.symm), A8t hi]
   simp [A01, hin]
 ·rw [List.getElem?_eq_none (by rw [A3N]; omega), List.getElem?_eq_none (by rw [List.length_set, A3N]; omega)]
def R2 (G : IM) (S : IS) (cs : List Value) : Prop := ∃ pb cb eb pl cl el, cs = [.slice pb S.c cb, .slice pl S.L.length cl] ∧ D7 G pb S.c cb 3 eb ∧ P9 G (bnd S.B S.c) eb ∧ D7 G pl S.L.length cl 3 el ∧ P9 G S.L el
theorem R2.mono {G G' : IM} (hG : B9 G G') {S : IS} {cs : List Value} (h : R2 G S cs) : R2 G' S cs := by
 obtain ⟨pb, cb, eb, pl, cl, el, h1, h2, h3, h4, h5⟩ := h
 exact ⟨pb, cb, eb, pl, cl, el, h1, h2.mono hG, h3.mono hG, h4.mono hG, h5.mono hG⟩
theorem A17 {B B' : BV} {a b : SV} {ok : Bool} (h : Q4 B a b B' ok) : ∀ {c : Nat}, WB B c → a.lt c → b.lt c → WB B' c := by
 induction h with
 | self _ _ => intro c h _ _; exact h
 | occ _ _ _ _ _ => intro c h _ _; exact h
 | bind h1 h2 h3 h4 h5 => intro c h ha hb; exact h.put h1.fr (h1.lt h ha _ rfl) (h2.lt h hb) h4 h5
 | occ' _ _ _ _ _ => intro c h _ _; exact h
 | bind' h1 h2 h3 h4 h5 => intro c h ha hb; exact h.put h3.fr (h3.lt h hb _ rfl) (h1.lt h ha) h4 h5
 | clash _ _ _ _ _ => intro c h _ _; exact h
 | base _ _ => intro c h _ _; exact h
 | two0 h1 h2 _ i =>
  intro c h ha hb
  exact i h (fun m hm => h1.lt h ha m (.inl hm)) (fun m hm => h2.lt h hb m (.inl hm))
 | two h1 h2 _ _ i j =>
  intro c h ha hb
  exact j (i h (fun m hm => h1.lt h ha m (.inl hm)) (fun m hm => h2.lt h hb m (.inl hm))) (fun m hm => h1.lt h ha m (.inr hm)) (fun m hm => h2.lt h hb m (.inr hm))
theorem B8l {k : Int} {ss : List SV} {S S' : IS} {o : Option SV} (h : Nod k ss S S' o) (hS : S.ok) (hs : ∀ s ∈ ss, s.lt S.c) : S'.ok ∧ S.c ≤ S'.c ∧ S'.L = S.L ∧ S'.c ≤ S.c + 2 ∧ ∀ s, o = some s → s.lt S'.c := by
 have hW2 : WB S.B (S.c + 2) := hS.wb.mono zR0
 have hL2 : ∀ s ∈ S.L, s.lt (S.c + 2) := fun s h => (hS.ls s h).mono zR0
 have hs2 : ∀ s ∈ ss, s.lt (S.c + 2) := fun s h => (hs s h).mono zR0
 cases h with
 | num => exact ⟨hS, Nat.le_refl _, rfl, by omega, fun s h => by cases h; exact Y7 _ _⟩
 | tru _ => exact ⟨hS, Nat.le_refl _, rfl, by omega, fun s h => by cases h; exact Y7 _ _⟩
 | pair => exact ⟨hS, Nat.le_refl _, rfl, by omega, fun s h => by cases h; exact A2k (hs _ zS0) (hs _ zS0)⟩
 | app _ hu => exact ⟨⟨A17 hu hW2 (hs2 _ zS0) (A2k (hs2 _ zS0) (Z4 zS0)), hL2⟩, by simp, rfl, by simp, fun s h => by split at h <;> cases h; exact Z4 zS0⟩
 | ar0 _ hu => exact ⟨⟨A17 hu hS.wb (hs _ zS0) (Y7 _ _), hS.ls⟩, Nat.le_refl _, rfl, by simp, fun s h => by cases h⟩
 | ar _ hu hu2 => exact ⟨⟨A17 hu2 (A17 hu hS.wb (hs _ zS0) (Y7 _ _)) (hs _ zS0) (Y7 _ _), hS.ls⟩, Nat.le_refl _, rfl, by simp, fun s h => by split at h <;> cases h; exact Y7 _ _⟩
 | ite0 hu => exact ⟨⟨A17 hu hS.wb (hs _ zS0) (Y7 _ _), hS.ls⟩, Nat.le_refl _, rfl, by simp, fun s h => by cases h⟩
 | ite hu hu2 => exact ⟨⟨A17 hu2 (A17 hu hS.wb (hs _ zS0) (Y7 _ _)) (hs _ zS0) (hs _ zS0), hS.ls⟩, Nat.le_refl _, rfl, by simp, fun s h => by split at h <;> cases h; exact hs _ zS0⟩
 | part _ _ _ hu => exact ⟨⟨A17 hu hW2 (hs2 _ zS0) (A2k (Z4 zS0) (Z4 zS0)), hL2⟩, by simp, rfl, by simp, fun s h => by split at h <;> cases h; exact Z4 (by dsimp only; split <;> omega)⟩
structure B2j (S S' : IS) (n : Nat) : Prop where
 ok : S'.ok
 le : S.c ≤ S'.c
 ub : S'.c ≤ S.c + 2 * n
 ln : S'.L.length ≤ S.L.length + n
mutual
theorem A3n : ∀ (e : Tm) {Γ : List (ByteArray × SV)} {S S' : IS} {o : Option SV}, V3 Γ e S S' o → S.ok → A1r Γ S.c → B2j S S' (E4 e) ∧ ∀ s, o = some s → s.lt S'.c
 | .mk k nm num ty fr lb ks, Γ, S, S', o, h, hS, hΓ => by
  have ht : E4 (.mk k nm num ty fr lb ks) = 1 + H0 ks := by simp [E4]; try omega
  by_cases h1 : k = 1
  ·obtain ⟨rfl, rfl⟩ := h.v1 h1
   exact ⟨⟨hS, Nat.le_refl _, by omega, by omega⟩, fun s hs => A7p hΓ hs⟩
  ·by_cases h5 : k = 5
   ·obtain ⟨e, o', rfl, hB, hI, rfl⟩ := h.v5 h5
    have hS1 : IS.ok ⟨S.B, S.c + 1, S.L ++ [.v S.c]⟩ := ⟨hS.wb.mono zS0, fun s hs => by
     rcases List.mem_append.1 hs with hs | hs
     ·exact (hS.ls s hs).mono zS0
     ·simp only [List.mem_singleton] at hs; subst hs; exact Z4 zS0⟩
    have hΓ1 : A1r ((nm, .v S.c) :: Γ) (S.c + 1) := fun p hp => by
     rcases List.mem_cons.1 hp with rfl | hp
     ·exact Z4 zS0
     ·exact (hΓ p hp).mono zR0
    obtain ⟨g1, g2⟩ := A3n e hI hS1 hΓ1
    have q1 := g1.le
    have q2 := g1.ub
    have q3 := g1.ln
    simp only [List.length_append, List.length_singleton] at q1 q2 q3
    have hl : H0 [e] = E4 e := by simp [H0]
    refine ⟨⟨g1.ok, by omega, by omega, by omega⟩, fun s hs => ?_⟩
    cases o' with
    | none => cases hs
    | some t => cases hs; exact A2k (Z4 zR0) (g2 t rfl)
   ·obtain ⟨S1, os, hL, hor⟩ := h.vn h1 h5
    obtain ⟨g1, g2⟩ := B2k ks hL hS hΓ
    have q1 := g1.le
    have q2 := g1.ub
    have q3 := g1.ln
    rcases hor with ⟨rfl, rfl, rfl⟩ | ⟨ss, rfl, hN⟩
    ·exact ⟨⟨g1.ok, q1, by omega, by omega⟩, fun s hs => (by cases hs)⟩
    ·obtain ⟨n1, n2, n3, n4, n5⟩ := B8l hN g1.ok (g2 ss rfl)
     exact ⟨⟨n1, by omega, by omega, by rw [n3]; omega⟩, n5⟩
theorem B2k : ∀ (es : List Tm) {Γ : List (ByteArray × SV)} {S S' : IS} {os : Option (List SV)}, A0W Γ es S S' os → S.ok → A1r Γ S.c → B2j S S' (H0 es) ∧ ∀ ss, os = some ss → ∀ s ∈ ss, s.lt S'.c
 | [], Γ, S, S', os, h, hS, hΓ => by
  cases h
  exact ⟨⟨hS, Nat.le_refl _, by omega, by omega⟩, fun ss hs => by cases hs; simp⟩
 | e :: es, Γ, S, S', os, h, hS, hΓ => by
  have ht : H0 (e :: es) = E4 e + H0 es := by simp [H0]; try omega
  cases h with
  | no h =>
   obtain ⟨g1, _⟩ := A3n e h hS hΓ
   have q1 := g1.le
   have q2 := g1.ub
   have q3 := g1.ln
   exact ⟨⟨g1.ok, q1, by omega, by omega⟩, fun ss hs => (by cases hs)⟩
  | @cons _ _ _ _ S1 _ s os h1 h2 =>
   obtain ⟨g1, g2⟩ := A3n e h1 hS hΓ
   have q1 := g1.le
   have q2 := g1.ub
   have q3 := g1.ln
   obtain ⟨g3, g4⟩ := B2k es h2 g1.ok (hΓ.mono q1)
   have p1 := g3.le
   have p2 := g3.ub
   have p3 := g3.ln
   refine ⟨⟨g3.ok, by omega, by omega, by omega⟩, fun ss hs => ?_⟩
   cases os with
   | none => cases hs
   | some r =>
    cases hs
    intro t ht
    rcases List.mem_cons.1 ht with rfl | ht
    ·exact (g2 _ rfl).mono p1
    ·exact g4 r rfl t ht
end
theorem HdN.kk {B : BV} {k k' : Nat} {s r r' : SV} (h : HdN B k s r) (h' : HdN B k' s r') : k = k' := by
 induction h generalizing k' with
 | free h1 => cases h' with
  | free _ => rfl
  | link h2 _ => rw [h1] at h2; cases h2
  | nv h2 => cases h2
 | link h1 _ i => cases h' with
  | free h2 => rw [h1] at h2; cases h2
  | link h2 h3 => rw [h1] at h2; cases h2; rw [i h3]
  | nv h2 => cases h2
 | nv h1 => cases h' with
  | free _ => cases h1
  | link _ _ => cases h1
  | nv _ => rfl
theorem HdN.ne {B : BV} {k n : Nat} {s r : SV} (h : HdN B k s r) (hb : B n = some s) : s ≠ .v n := by
 rintro rfl
 have := h.kk (.link hb h)
 omega
section clr
variable {P : Program} {Γ : N7} {env : O6} {hp : List A7} {G : IM} {ty : TypeId}
end clr
def LtP (r : SV) : IM → Value → List A7 → Prop := N8 fun G' v => ∃ cs, v = .agg ⟨cs⟩ ∧ Q6 G' r cs
theorem D7.lt {G : IM} {p : Option Addr} {n c : Nat} {es : List (List Value)} {ss : List SV} (h : D7 G p n c 3 es) (hr : P9 G ss es) {i : Nat} {s : SV} (hi : ss[i]? = some s) (hn : i < n) :
  ∃ b o e, p = some ⟨b, o, none⟩ ∧ e.length = 3 ∧ (∀ hp, At hp G b (o + i * 3) e) ∧ Q6 G s e ∧ G b ≠ none := by
 obtain ⟨e, b, o, he, h1, h2, h3, h4, h5⟩ := h.get hn
 obtain ⟨e', he', hr'⟩ := hr.get hi
 rw [he] at he'; cases he'
 exact ⟨b, o, e, h1, h2, h4, hr', h5⟩
theorem HdN.cs {B : BV} {k : Nat} {u r : SV} (h : HdN B k u r) : (∃ n, u = .v n ∧ B n = none ∧ r = .v n ∧ k = 0) ∨ (∃ n s k', u = .v n ∧ B n = some s ∧ k = k' + 1 ∧ HdN B k' s r) ∨ (u.nv = true ∧ r = u ∧ k = 0) := by
 cases h with
 | free h => exact .inl ⟨_, rfl, h, rfl, rfl⟩
 | link h1 h2 => exact .inr (.inl ⟨_, _, _, rfl, h1, rfl, h2⟩)
 | nv h => exact .inr (.inr ⟨h, rfl, rfl⟩)
theorem Q6.kn {G : IM} {s : SV} {cs : List Value} (h : Q6 G s cs) : ∃ K N p n c, cs = [.int .i64 K, .int .i64 N, .slice p n c] ∧ K = s.kd ∧ ∀ m, s = .v m → N = m := by
 obtain ⟨N, p, n, c, h1, h2⟩ := h.op
 refine ⟨_, N, p, n, c, h1, rfl, fun m hm => ?_⟩
 rcases h2 with ⟨m', h3, h4, _⟩ | ⟨d, h3, _⟩ | ⟨d, x, y, ex, ez, h3, _⟩
 ·rw [hm] at h3; cases h3; exact h4
 ·rw [hm] at h3; cases h3
 ·rw [hm] at h3; cases h3
theorem B2l {s : SV} {n : Nat} {K N : Int} (hK : K = s.kd) (hN : ∀ m, s = .v m → N = m) (hs : s ≠ .v n) : K ≠ 0 ∨ N ≠ (n : Int) := by
 cases s with
 | v m =>
  refine .inr fun h => hs ?_
  have := hN m rfl
  have : m = n := by omega
  rw [this]
 | b c => exact .inl (by rw [hK]; exact A1p rfl)
 | t c x y => exact .inl (by rw [hK]; exact A1p rfl)
theorem Y9 (S : IS) (hW : WB S.B S.c) (t r : SV) (G : IM) (sc tc : List Value) (hd : Hd S.B t r) (ht : t.lt S.c) (hs : R2 G S sc) (hr : Q6 G t tc) :
  Fn Tryz.prog 55 [.agg ⟨sc⟩, .agg ⟨tc⟩] [] G (LtP r) := by
 obtain ⟨k0, hk0⟩ := hd.n
 obtain ⟨pb, cb, eb, pl, cl, el, rfl, hsb, hrb, hsl, hrl⟩ := hs
 obtain ⟨rk, hrk⟩ := hW.rk
 have hl3 := hr.len
 refine C0 Tryz.func55 rfl Tryz.ntmps55 Tryz.results55 rfl ?_
 intro w0
 refine A4 ?_
 refine sE (B6 rfl rfl) rfl (fun b3 => ?_)
 refine sE (B6 rfl rfl) rfl (fun b4 => ?_)
 refine sE (A6 rfl) rfl (fun b5 => ?_)
 refine C1 ?_
 refine C2 ?_
 (refine L8 (fun (x : Nat × SV × List Value) => ⟨[(4, .pointer (some ⟨b5, 0, none⟩)), (3, .pointer (some ⟨b4, 0, none⟩)), (2, .pointer (some ⟨b3, 0, none⟩))], [.blk b5 [.int .i64 0, .int .i64 0, .slice none 0 0], .blk b4 x.2.2, .blk b3 [.slice pb S.c cb, .slice pl S.L.length cl]], G⟩) (fun x => HdN S.B x.1 x.2.1 r ∧ Q6 G x.2.1 x.2.2 ∧ x.2.1.lt S.c) (fun x => x.1) (k0, t, tc) ?_ ?_ ?_)
 (simp only [I9]; exact F8)
 (exact ⟨hk0, hr, ht⟩)
 (rintro ⟨(k : Nat), u, cu⟩ ⟨hk, hru, hut⟩; simp only [] at hk hru hut ⊢; rcases hk.cs with ⟨n, rfl, hB, hrr, rfl⟩ | ⟨n, s, k', rfl, hB, rfl, hk'⟩ | ⟨hnv, hrr, rfl⟩ <;> first | (have hnc : n < S.c := hut n rfl; obtain rfl := (show _ = _ from hru); have hbg := A8t (B := S.B) hnc; rw [hB] at hbg; obtain ⟨bb, bo, e, rfl, hle, hat, hre, hgb⟩ := hsb.lt hrb hbg hnc; obtain ⟨K, N, p, n2, c2, rfl, hK, hN⟩ := hre.kn; first | (have hKa : K = 0 := hK; have hNa : N = (n : Int) := hN n rfl) | have hKN := B2l (n := n) hK hN (hk'.ne hB)) | (obtain ⟨K, N, p, n2, c2, rfl, hK, hN⟩ := hru.kn; have hK0 := A1p hnv; rw [← hK] at hK0))
 refine A4 ?_
 refine D3 D4 rfl ?_
 refine J4 (i := 0) (l' := [tt,ff,ff,ff,ff,ff,ff,ff,ff,ff,ff,ff,ff,ff,ff,ff,ff,ff,ff,ff,ff,ff,ff,ff,ff]) rfl C8 (C3 rfl) rfl zP0 rfl rfl ?_
 refine aL 1 rfl (F0 rfl rfl) rfl ?_
 refine aP 2 rfl (O1 rfl rfl zR0) rfl ?_
 refine aP 3 rfl (qM rfl) rfl ?_
 refine aP 4 rfl (C3 rfl) rfl ?_
 refine aL 5 rfl (F0 rfl rfl) rfl ?_
 refine aP 6 rfl (C3 rfl) rfl ?_
 refine aL 7 rfl (F0 rfl rfl) rfl ?_
 refine aP 8 rfl (B8 (j := n) rfl rfl rfl zR0) rfl ?_
 refine aP 9 rfl (qF rfl) rfl ?_
 refine aL 10 rfl (I7 rfl rfl ((hat _).sub (j := 0) rfl)) rfl ?_
 refine aP 11 rfl (A2H rfl rfl zR0) rfl ?_
 refine aP 12 rfl (qM rfl) rfl ?_
 refine aP 13 rfl (C3 rfl) rfl ?_
 refine aL 14 rfl (F0 rfl rfl) rfl ?_
 refine aP 15 rfl (C3 rfl) rfl ?_
 refine aL 16 rfl (F0 rfl rfl) rfl ?_
 refine aP 17 rfl (B8 (j := n) rfl rfl rfl zR0) rfl ?_
 refine aP 18 rfl (qF rfl) rfl ?_
 refine aL 19 rfl (I7 rfl rfl ((hat _).sub (j := 1) rfl)) rfl ?_
 refine aP 20 rfl (C3 rfl) rfl ?_
 refine aL 21 rfl (F0 rfl rfl) rfl ?_
 refine aP 22 rfl (A2H rfl rfl zR0) rfl ?_
 refine aP 23 rfl (T6 rfl rfl) rfl ?_
 refine aP 24 rfl (R8 rfl rfl) rfl ?_
 refine J0 ?_
 refine P5 (rC rfl (A3 rfl rfl)) ?_
 (rw [hrr]; exact ⟨rfl, _, rfl, hru⟩)
 refine A4 ?_
 refine D3 D4 rfl ?_
 refine J4 (i := 0) (l' := [tt,ff,ff,ff,ff,ff,ff,ff,ff,ff,ff,ff,ff,ff,ff,ff,ff,ff,ff,ff,ff,ff,ff,ff,ff]) rfl C8 (C3 rfl) rfl zP0 rfl rfl ?_
 refine aL 1 rfl (F0 rfl rfl) rfl ?_
 refine aP 2 rfl (O1 rfl rfl zR0) rfl ?_
 refine aP 3 rfl (qM rfl) rfl ?_
 refine aP 4 rfl (C3 rfl) rfl ?_
 refine aL 5 rfl (F0 rfl rfl) rfl ?_
 refine aP 6 rfl (C3 rfl) rfl ?_
 refine aL 7 rfl (F0 rfl rfl) rfl ?_
 refine aP 8 rfl (B8 (j := n) rfl rfl rfl zR0) rfl ?_
 refine aP 9 rfl (qF rfl) rfl ?_
 refine aL 10 rfl (I7 rfl rfl ((hat _).sub (j := 0) rfl)) rfl ?_
 refine A2B (i := 11) (l' := [tt,tt,tt,tt,tt,tt,tt,tt,tt,tt,tt,tt,ff,ff,ff,ff,ff,ff,ff,ff,ff,ff,ff,ff,ff]) rfl C8 (U3 rfl rfl) rfl zP0 rfl rfl (fun h73 => ?_) (fun h73 => ?_)
 refine aP 12 rfl (qM rfl) rfl ?_
 refine D6 13 rfl rfl rfl ?_
 refine D6 14 rfl rfl rfl ?_
 refine D6 15 rfl rfl rfl ?_
 refine D6 16 rfl rfl rfl ?_
 refine D6 17 rfl rfl rfl ?_
 refine D6 18 rfl rfl rfl ?_
 refine D6 19 rfl rfl rfl ?_
 refine D6 20 rfl rfl rfl ?_
 refine D6 21 rfl rfl rfl ?_
 refine D6 22 rfl rfl rfl ?_
 refine aP 23 rfl (R8 rfl rfl) rfl ?_
 refine aP 24 rfl (R8 rfl rfl) rfl ?_
 refine A8 ?_
 refine C2 ?_
 refine A8 ?_
 refine sP (B8 (j := n) rfl rfl rfl zR0) rfl rfl ?_
 refine sL (A5 rfl rfl (hat _) rfl) rfl rfl ?_
 refine C1 ?_
 (refine J7 (k', s, [.int .i64 K, .int .i64 N, .slice p n2 c2]) ?_ ?_ ?_)
 (simp only [I9]; exact F8)
 (exact ⟨hk', hre, fun m hm => (hrk n s hB m hm).2⟩)
 (show k' < k' + 1; omega)
 refine aP 12 rfl (qM rfl) rfl ?_
 refine aP 13 rfl (C3 rfl) rfl ?_
 refine aL 14 rfl (F0 rfl rfl) rfl ?_
 refine aP 15 rfl (C3 rfl) rfl ?_
 refine aL 16 rfl (F0 rfl rfl) rfl ?_
 refine aP 17 rfl (B8 (j := n) rfl rfl rfl zR0) rfl ?_
 refine aP 18 rfl (qF rfl) rfl ?_
 refine aL 19 rfl (I7 rfl rfl ((hat _).sub (j := 1) rfl)) rfl ?_
 refine aP 20 rfl (C3 rfl) rfl ?_
 refine aL 21 rfl (F0 rfl rfl) rfl ?_
 refine aP 22 rfl (A0R rfl rfl zR0) rfl ?_
 refine aP 23 rfl (T6 rfl rfl) rfl ?_
 refine aP 24 rfl (R8 rfl rfl) rfl ?_
 refine A8 ?_
 refine C2 ?_
 refine A8 ?_
 refine sP (B8 (j := n) rfl rfl rfl zR0) rfl rfl ?_
 refine sL (A5 rfl rfl (hat _) rfl) rfl rfl ?_
 refine C1 ?_
 (refine J7 (k', s, [.int .i64 K, .int .i64 N, .slice p n2 c2]) ?_ ?_ ?_)
 (simp only [I9]; exact F8)
 (exact ⟨hk', hre, fun m hm => (hrk n s hB m hm).2⟩)
 (show k' < k' + 1; omega)
 refine A4 ?_
 refine D3 D4 rfl ?_
 refine J4 (i := 0) (l' := [tt,ff,ff,ff,ff,ff,ff,ff,ff,ff,ff,ff,ff,ff,ff,ff,ff,ff,ff,ff,ff,ff,ff,ff,ff]) rfl C8 (C3 rfl) rfl zP0 rfl rfl ?_
 refine aL 1 rfl (F0 rfl rfl) rfl ?_
 refine aP 2 rfl (D0 rfl rfl zR0) rfl ?_
 refine aP 3 rfl (qM rfl) rfl ?_
 refine D6 4 rfl rfl rfl ?_
 refine D6 5 rfl rfl rfl ?_
 refine D6 6 rfl rfl rfl ?_
 refine D6 7 rfl rfl rfl ?_
 refine D6 8 rfl rfl rfl ?_
 refine D6 9 rfl rfl rfl ?_
 refine D6 10 rfl rfl rfl ?_
 refine D6 11 rfl rfl rfl ?_
 refine D6 12 rfl rfl rfl ?_
 refine D6 13 rfl rfl rfl ?_
 refine D6 14 rfl rfl rfl ?_
 refine D6 15 rfl rfl rfl ?_
 refine D6 16 rfl rfl rfl ?_
 refine D6 17 rfl rfl rfl ?_
 refine D6 18 rfl rfl rfl ?_
 refine D6 19 rfl rfl rfl ?_
 refine D6 20 rfl rfl rfl ?_
 refine D6 21 rfl rfl rfl ?_
 refine D6 22 rfl rfl rfl ?_
 refine D6 23 rfl rfl rfl ?_
 refine aP 24 rfl (T6 rfl rfl) rfl ?_
 refine J0 ?_
 refine P5 (rC rfl (A3 rfl rfl)) ?_
 (rw [hrr]; exact ⟨rfl, _, rfl, hru⟩)
theorem Q6.two {G : IM} {d : Bool} {x y : SV} {cs : List Value} (h : Q6 G (.t d x y) cs) : ∃ b o c ex ez, cs = [.int .i64 (if d = true then 5 else 4), .int .i64 0, .slice (some ⟨b, o, none⟩) 2 c] ∧ ex.length = 3 ∧ ez.length = 3 ∧
  (∀ hp, At hp G b (o + 0 * 3) ex) ∧ (∀ hp, At hp G b (o + 1 * 3) ez) ∧ Q6 G x ex ∧ Q6 G y ez ∧ G b ≠ none := by
 obtain ⟨p, cp, ex, ez, rfl, h2, h3, h4, h5⟩ := h
 obtain ⟨hl, hc, hm, h⟩ := h2
 obtain ⟨b, o, full, rfl, hg, hv⟩ := h.resolve_left zR0
 refine ⟨b, o, cp, ex, ez, rfl, h3, h5.len, fun hp => A2Z hg fun j v hj => ?_, fun hp => A2Z hg fun j v hj => ?_, h4, h5, by rw [hg]; simp⟩
 ·have hj3 : j < ex.length := (List.getElem?_eq_some_iff.1 hj).1
  rw [Nat.zero_mul, Nat.add_zero]
  exact hv j v (by rw [List.getElem?_append_left hj3]; exact hj)
 ·have := hv (3 + j) v (by rw [List.getElem?_append_right zR0, h3, Nat.add_sub_cancel_left]; exact hj)
  rw [Nat.one_mul, Nat.add_assoc]; exact this
theorem At.im {G G' : IM} {b o : Nat} {vs : List Value} (hle : B9 G G') (hb : G b ≠ none) (h : ∀ hp, At hp G b o vs) (hp : List A7) : At hp G' b o vs := by
 rcases h [] with ⟨cs, h1, _⟩ | ⟨n, c, el, sz, cs, h1, _⟩ | ⟨full, h1, h2⟩
 ·cases h1
 ·cases h1
 ·exact A2Z (hle _ _ h1) h2
theorem B8m (S : IS) (hW : WB S.B S.c) (n : Nat) (sc : List Value) : ∀ (r t : SV) (G : IM) (tc : List Value), Q9 S.B t r → t.lt S.c → R2 G S sc → Q6 G t tc →
  Fn Tryz.prog 140 [.agg ⟨sc⟩, .int .i64 (n : Int), .agg ⟨tc⟩] [] G (N8 fun _ v => v = .bool (occ n r)) := by
 intro r
 induction r with
 | v m =>
  intro t G tc hd ht hs hr
  obtain ⟨h, hh, rfl, hB⟩ := hd.hd
  have hF := Y9 S hW t _ G sc tc hh ht hs hr
  obtain ⟨pb, cb, eb, pl, cl, el, rfl, _⟩ := hs
  have hl3 := hr.len
  have ho3 := hr.one
  refine C0 Tryz.func140 rfl Tryz.ntmps140 Tryz.results140 rfl ?_
  intro w0
  refine A4 ?_
  refine sE (B6 rfl rfl) rfl (fun b3 => ?_)
  refine sE (B6 rfl rfl) rfl (fun b4 => ?_)
  refine A9 ?_
  refine sL (A5 rfl rfl (B3 zI0) hl3) rfl rfl ?_
  (refine F4 rfl hF rfl rfl (fun v G1 hle1 hh => ?_); obtain ⟨hc, rfl, hrh⟩ := hh; obtain rfl := (show _ = _ from hrh))
  refine Q1 rfl rfl rfl rfl rfl rfl zF0 (by exact C6 (by rw [hl3]; rfl)) ?_
  refine B0 ?_
  refine sP (O1 rfl rfl zR0) rfl rfl ?_
  refine E1 ?_
  refine sB (qE rfl rfl) rfl rfl (fun h30 => ?_) (fun h30 => ?_)
  refine A9 ?_
  (exact ⟨rfl, by rw [occ]; first | rw [decide_eq_true zR0] | rw [decide_eq_false zR0]⟩)
  refine A9 ?_
  (exact ⟨rfl, by rw [occ]; first | rw [decide_eq_true zR0] | rw [decide_eq_false zR0]⟩)
 | b d =>
  intro t G tc hd ht hs hr
  obtain ⟨h, hh, rfl⟩ := hd.hd
  have hF := Y9 S hW t _ G sc tc hh ht hs hr
  obtain ⟨pb, cb, eb, pl, cl, el, rfl, _⟩ := hs
  have hl3 := hr.len
  have ho3 := hr.one
  obtain ⟨K, hK⟩ : ∃ K, (SV.b d).kd = K := ⟨_, rfl⟩
  have hK0 := A1p (s := .b d) rfl
  rw [hK] at hK0
  refine C0 Tryz.func140 rfl Tryz.ntmps140 Tryz.results140 rfl ?_
  intro w0
  refine A4 ?_
  refine sE (B6 rfl rfl) rfl (fun b3 => ?_)
  refine sE (B6 rfl rfl) rfl (fun b4 => ?_)
  refine A9 ?_
  refine sL (A5 rfl rfl (B3 zI0) hl3) rfl rfl ?_
  (refine F4 rfl hF rfl rfl (fun v G1 hle1 hh => ?_); obtain ⟨hc, rfl, hrh⟩ := hh; obtain rfl := (show _ = _ from hrh); rw [hK])
  refine Q1 rfl rfl rfl rfl rfl rfl zF0 (by exact C6 (by rw [hl3]; rfl)) ?_
  refine B0 ?_
  refine sP (D0 rfl rfl zR0) rfl rfl ?_
  refine M7 ?_
  refine C2 ?_
  refine L8 (fun (_ : Unit) => ⟨[(7, .int .i64 0), (5, .pointer (some ⟨b4, 0, none⟩))], [.blk b4 [.int .i64 K, .int .i64 0, .slice none 0 0]], G1⟩) (fun _ => True) (fun _ => 0) () ?_ ?_ ?_
  ·exact F8
  ·trivial
  ·(rintro _ _)
   refine B0 ?_
   refine sP (A1U rfl rfl zR0) rfl rfl ?_
   refine J0 ?_
   trivial
 | t d p q ihp ihq =>
  intro t G tc hd ht hs hr
  obtain ⟨h, hh, x, y, rfl, hx, hy⟩ := hd.hd
  have hF := Y9 S hW t _ G sc tc hh ht hs hr
  have hlt := hh.lt hW ht
  have hs0 := hs
  obtain ⟨pb, cb, eb, pl, cl, el, rfl, _⟩ := hs
  have hl3 := hr.len
  have ho3 := hr.one
  obtain ⟨K, hK⟩ : ∃ K : Int, (if d = true then 5 else 4) = K := ⟨_, rfl⟩
  have hK0 : K ≠ 0 := by rw [← hK]; cases d <;> decide
  obtain ⟨o1, ho1⟩ : ∃ o, occ n p = o := ⟨_, rfl⟩
  obtain ⟨o2, ho2⟩ : ∃ o, occ n q = o := ⟨_, rfl⟩
  refine C0 Tryz.func140 rfl Tryz.ntmps140 Tryz.results140 rfl ?_
  intro w0
  refine A4 ?_
  refine sE (B6 rfl rfl) rfl (fun b3 => ?_)
  refine sE (B6 rfl rfl) rfl (fun b4 => ?_)
  refine A9 ?_
  refine sL (A5 rfl rfl (B3 zI0) hl3) rfl rfl ?_
  (refine F4 rfl hF rfl rfl (fun v G1 hle1 hh => ?_); obtain ⟨hc, rfl, hrh⟩ := hh; obtain ⟨bb, bo, bc, ex, ez, rfl, hlx, hlz, hatx, hatz, hrx, hrz, hgb⟩ := hrh.two; rw [hK]; have hs1 := hs0.mono hle1; have h1 := ihp x G1 ex hx (fun m hm => hlt m (.inl hm)) hs1 hrx; rw [ho1] at h1)
  refine Q1 rfl rfl rfl rfl rfl rfl zF0 (by exact C6 (by rw [hl3]; rfl)) ?_
  refine B0 ?_
  refine sP (D0 rfl rfl zR0) rfl rfl ?_
  refine M7 ?_
  refine C2 (L8 (fun (x : Nat × IM) => ⟨[(7, .int .i64 (x.1 : Int)), (5, .pointer (some ⟨b4, 0, none⟩)), (3, .pointer (some ⟨b3, 0, none⟩)), (1, .int .i64 (n : Int))], [.blk b4 [.int .i64 K, .int .i64 0, .slice (some ⟨bb, bo, none⟩) 2 bc], .blk b3 [.slice pb S.c cb, .slice pl S.L.length cl]], x.2⟩) (fun x => x.1 ≤ 2 ∧ B9 G1 x.2 ∧ (1 ≤ x.1 → o1 = false) ∧ (2 ≤ x.1 → o2 = false)) (fun x => 2 - x.1) (0, G1) ?_ ?_ ?_)
  (simp only [I9]; exact F8)
  (exact ⟨by dsimp only; omega, B9.refl _, fun h => absurd h (by dsimp only; omega), fun h => absurd h (by dsimp only; omega)⟩)
  (rintro ⟨(i : Nat), Gi⟩ ⟨hi, hle, hi1, hi2⟩; simp only [] at hi hle hi1 hi2 ⊢; have h1i := ihp x Gi ex hx (fun m hm => hlt m (.inl hm)) (hs1.mono hle) (hrx.mono hle); have h2i := ihq y Gi ez hy (fun m hm => hlt m (.inr hm)) (hs1.mono hle) (hrz.mono hle); rw [ho1] at h1i; rw [ho2] at h2i; have hatxi := At.im hle hgb hatx; have hatzi := At.im hle hgb hatz; have hc3 : i = 0 ∨ i = 1 ∨ i = 2 := zR0; rcases hc3 with rfl | rfl | rfl)
  refine B0 ?_
  refine sP (A2a rfl rfl zR0) rfl rfl ?_
  refine A9 ?_
  refine C2 ?_
  refine tS ?_
  refine D3 D4 rfl ?_
  refine J3 (i := 0) (l' := [tt,ff,ff,ff,ff,ff,ff,ff]) rfl C8 (A3 rfl rfl) rfl zP0 rfl rfl ?_
  refine aP 1 rfl (qM rfl) rfl ?_
  refine aP 2 rfl (C3 rfl) rfl ?_
  refine aL 3 rfl (F0 rfl rfl) rfl ?_
  refine aP 4 rfl (qM rfl) rfl ?_
  refine aP 5 rfl (B8 (j := 0) rfl rfl rfl zR0) rfl ?_
  refine aL 6 rfl (A5 rfl rfl (hatxi _) hlx) rfl ?_
  refine A2 7 ?_
  (refine H1 rfl rfl h1i rfl rfl rfl (fun v G2 hle2 hh => ?_); subst hh; cases o1)
  refine E1 ?_
  refine sP (K0 rfl rfl zR0 zR0) rfl rfl ?_
  refine A4 ?_
  refine J7 (1, G2) (I6 zC0 zV) ?_ ?_
  (exact ⟨by dsimp only; omega, hle.trans hle2, fun _ => rfl, fun h => absurd h (by dsimp only; omega)⟩)
  (show 2 - 1 < 2 - 0; omega)
  refine J0 ?_
  (exact ⟨rfl, by rw [occ, ho1, ho2]; first | rfl | rw [hi1 zR0, hi2 zR0]; rfl | rw [hi1 zR0]; rfl⟩)
  refine B0 ?_
  refine sP (A2a rfl rfl zR0) rfl rfl ?_
  refine A9 ?_
  refine C2 ?_
  refine tS ?_
  refine D3 D4 rfl ?_
  refine J3 (i := 0) (l' := [tt,ff,ff,ff,ff,ff,ff,ff]) rfl C8 (A3 rfl rfl) rfl zP0 rfl rfl ?_
  refine aP 1 rfl (qM rfl) rfl ?_
  refine aP 2 rfl (C3 rfl) rfl ?_
  refine aL 3 rfl (F0 rfl rfl) rfl ?_
  refine aP 4 rfl (qM rfl) rfl ?_
  refine aP 5 rfl (B8 (j := 1) rfl rfl rfl zR0) rfl ?_
  refine aL 6 rfl (A5 rfl rfl (hatzi _) hlz) rfl ?_
  refine A2 7 ?_
  (refine H1 rfl rfl h2i rfl rfl rfl (fun v G2 hle2 hh => ?_); subst hh; cases o2)
  refine E1 ?_
  refine sP (K0 rfl rfl zR0 zR0) rfl rfl ?_
  refine A4 ?_
  refine J7 (2, G2) (I6 zC0 zV) ?_ ?_
  (exact ⟨by dsimp only; omega, hle.trans hle2, fun _ => hi1 zR0, fun _ => rfl⟩)
  (show 2 - 2 < 2 - 1; omega)
  refine J0 ?_
  (exact ⟨rfl, by rw [occ, ho1, ho2]; first | rfl | rw [hi1 zR0, hi2 zR0]; rfl | rw [hi1 zR0]; rfl⟩)
  refine B0 ?_
  refine sP (A1U rfl rfl zR0) rfl rfl ?_
  refine J0 ?_
  (exact ⟨rfl, by rw [occ, ho1, ho2]; first | rfl | rw [hi1 zR0, hi2 zR0]; rfl | rw [hi1 zR0]; rfl⟩)
def StP (S : IS) (ok : Bool) : IM → Value → List A7 → Prop := N8 fun G' v => ∃ sc, v = .tuple ⟨[.agg ⟨sc⟩, .bool ok]⟩ ∧ R2 G' S sc
theorem R2.two {G : IM} {S : IS} {sc : List Value} (h : R2 G S sc) : ∃ p n c q m d, sc = [.slice p n c, .slice q m d] := by
 obtain ⟨pb, cb, eb, pl, cl, el, rfl, _⟩ := h
 exact ⟨_, _, _, _, _, _, rfl⟩
theorem A5o (S : IS) (hW : WB S.B S.c) (hc : S.c ≤ 1000000) (n : Nat) (t r : SV) (G : IM) (sc tc : List Value) (hn : n < S.c) (hd : Q9 S.B t r) (ht : t.lt S.c) (hs : R2 G S sc) (hr : Q6 G t tc) :
  (t = .v n → Fn Tryz.prog 122 [.agg ⟨sc⟩, .int .i64 (n : Int), .agg ⟨tc⟩] [] G (StP S true)) ∧
  (t ≠ .v n → Fn Tryz.prog 122 [.agg ⟨sc⟩, .int .i64 (n : Int), .agg ⟨tc⟩] [] G (StP (if occ n r = true then S else ⟨A01 S.B n t, S.c, S.L⟩) (!occ n r))) := by
 have hO := B8m S hW n sc r t G tc hd ht hs hr
 have hl3 := hr.len
 have ho3 := hr.one
 have hs0 := hs
 obtain ⟨K, N, p, nn, cc, rfl, hK, hN⟩ := hr.kn
 obtain ⟨pb, cb, eb, pl, cl, el, rfl, hsb, hrb, hsl, hrl⟩ := hs
 constructor
 ·intro he
  have hK0 : K = 0 := by rw [hK, he]; rfl
  have hN0 := hN n he
  refine C0 Tryz.func122 rfl Tryz.ntmps122 Tryz.results122 rfl ?_
  intro w0
  refine A4 ?_
  refine sE (B6 rfl rfl) rfl (fun b3 => ?_)
  refine sE (B6 rfl rfl) rfl (fun b4 => ?_)
  refine sE (A6 rfl) rfl (fun b5 => ?_)
  refine E1 ?_
  refine sP (O1 rfl rfl zR0) rfl rfl ?_
  refine B5 ?_
  refine sP (O1 rfl rfl zR0) rfl rfl ?_
  refine N0 ?_
  refine H3 (rC rfl (A3 rfl rfl)) (rT rfl) ?_
  (exact ⟨rfl, _, rfl, hs0⟩)
 ·intro hne
  have hKN := B2l hK hN hne
  obtain ⟨o, ho⟩ : ∃ o, occ n r = o := ⟨_, rfl⟩
  rw [ho] at hO
  have hebl := hrb.len
  rw [A3N] at hebl
  refine C0 Tryz.func122 rfl Tryz.ntmps122 Tryz.results122 rfl ?_
  intro w0
  refine A4 ?_
  refine sE (B6 rfl rfl) rfl (fun b3 => ?_)
  refine sE (B6 rfl rfl) rfl (fun b4 => ?_)
  refine sE (A6 rfl) rfl (fun b5 => ?_)
  refine E1 ?_
  refine sB (qE rfl rfl) rfl rfl (fun h14 => ?_) (fun h14 => ?_)
  refine B5 ?_
  refine sP (D0 rfl rfl zR0) rfl rfl ?_
  refine O3 ?_
  (refine F4 rfl hO rfl rfl (fun v G1 hle1 hh => ?_); subst hh; have hs1 := hs0.mono hle1; have hsb1 := hsb.mono hle1; have hrb1 := hrb.mono hle1; have hr1 := hr.mono hle1; cases o)
  refine B0 ?_
  (refine J8 (D1 rfl rfl rfl zR0 zL0 rfl) rfl ?_; rintro _ ⟨b40, rfl⟩)
  refine A4 ?_
  (refine A7f rfl rfl rfl rfl rfl (fun _ _ => by repeat (first | exact Sw.here | apply Sw.there)) hsb1.sl hrb1.ones (Nat.zero_le _) zL0 zR0 rfl (fun p4 c4 => ?_); simp only [Nat.zero_add, List.nil_append]; refine A4T (cs := eb.flatten) zD0 zR0 (fun bc Cc hpe hnc hmc => ?_); subst hpe)
  refine J2 ?_
  refine sP (B8 (j := n) rfl rfl rfl zR0) rfl rfl ?_
  (refine Q1 rfl rfl rfl rfl ho3 rfl zF0 (by exact A4U zR0 (fun e he => (hrb1.each e he).1) rfl) ?_; refine B0i (b := bc) (Pk.perm zD0) (fun G7 hle7 hin7 => ?_))
  refine J2 ?_
  refine H3 (rC rfl (A3 rfl rfl)) (rT rfl) ?_
  (rw [ho]; have hset := (hrb1.mono hle7).set (hr1.mono hle7) n; rw [← B2i (s := t) hn] at hset; have hsl2 := hset.len; rw [A3N] at hsl2; have hfl := A1y (sz := 3) (fun e he => (hset.each e he).1); rw [hsl2] at hfl; exact ⟨rfl, _, rfl, _, _, _, pl, cl, el, rfl, D7.of (Sl.of_blk (A := []) hfl hnc hmc hin7) hsl2 (fun e he => (hset.each e he).1) (fun e he => (hset.each e he).2), hset, (hsl.mono hle1).mono hle7, (hrl.mono hle1).mono hle7⟩)
  refine O3 ?_
  refine H3 (rC rfl (A3 rfl rfl)) (rT rfl) ?_
  (rw [ho]; exact ⟨rfl, _, rfl, hs1⟩)
  refine V0 ?_
  (refine F4 rfl hO rfl rfl (fun v G1 hle1 hh => ?_); subst hh; have hs1 := hs0.mono hle1; have hsb1 := hsb.mono hle1; have hrb1 := hrb.mono hle1; have hr1 := hr.mono hle1; cases o)
  refine B0 ?_
  (refine J8 (D1 rfl rfl rfl zR0 zL0 rfl) rfl ?_; rintro _ ⟨b107, rfl⟩)
  refine A4 ?_
  (refine A7f rfl rfl rfl rfl rfl (fun _ _ => by repeat (first | exact Sw.here | apply Sw.there)) hsb1.sl hrb1.ones (Nat.zero_le _) zL0 zR0 rfl (fun p4 c4 => ?_); simp only [Nat.zero_add, List.nil_append]; refine A4T (cs := eb.flatten) zD0 zR0 (fun bc Cc hpe hnc hmc => ?_); subst hpe)
  refine J2 ?_
  refine sP (B8 (j := n) rfl rfl rfl zR0) rfl rfl ?_
  (refine Q1 rfl rfl rfl rfl ho3 rfl zF0 (by exact A4U zR0 (fun e he => (hrb1.each e he).1) rfl) ?_; refine B0i (b := bc) (Pk.perm zD0) (fun G7 hle7 hin7 => ?_))
  refine J2 ?_
  refine H3 (rC rfl (A3 rfl rfl)) (rT rfl) ?_
  (rw [ho]; have hset := (hrb1.mono hle7).set (hr1.mono hle7) n; rw [← B2i (s := t) hn] at hset; have hsl2 := hset.len; rw [A3N] at hsl2; have hfl := A1y (sz := 3) (fun e he => (hset.each e he).1); rw [hsl2] at hfl; exact ⟨rfl, _, rfl, _, _, _, pl, cl, el, rfl, D7.of (Sl.of_blk (A := []) hfl hnc hmc hin7) hsl2 (fun e he => (hset.each e he).1) (fun e he => (hset.each e he).2), hset, (hsl.mono hle1).mono hle7, (hrl.mono hle1).mono hle7⟩)
  refine O3 ?_
  refine H3 (rC rfl (A3 rfl rfl)) (rT rfl) ?_
  (rw [ho]; exact ⟨rfl, _, rfl, hs1⟩)
theorem A18 {B B' : BV} {a b : SV} {ok : Bool} (h : Q4 B a b B' ok) : ∀ (c : Nat) (L : List SV) (G : IM) (sc ta tb : List Value), WB B c → c ≤ 1000000 → a.lt c → b.lt c → R2 G ⟨B, c, L⟩ sc → Q6 G a ta → Q6 G b tb →
  Fn Tryz.prog 86 [.agg ⟨sc⟩, .agg ⟨ta⟩, .agg ⟨tb⟩] [] G (StP ⟨B', c, L⟩ ok) := by
 induction h with
 | @self B a b n h1 h2 =>
  intro c L G sc ta tb hW hc ha hb hs hra hrb
  have hl1 := hra.len
  have ho1 := hra.one
  have hl2 := hrb.len
  have ho2 := hrb.one
  have hsw := hs
  obtain ⟨sp, sn, sk, sq, sm, sd, rfl⟩ := hs.two
  have hF1 := Y9 ⟨B, c, L⟩ hW _ _ G _ ta h1 ha hsw hra
  have hn : n < c := h1.lt hW ha n rfl
  have hB := h1.fr
  refine C0 Tryz.func86 rfl Tryz.ntmps86 Tryz.results86 rfl ?_
  intro w0
  refine A4 ?_
  refine sE (B6 rfl rfl) rfl (fun b3 => ?_)
  refine sE (B6 rfl rfl) rfl (fun b4 => ?_)
  refine sE (B6 rfl rfl) rfl (fun b5 => ?_)
  refine sE (A6 rfl) rfl (fun b6 => ?_)
  refine A9 ?_
  refine sL (A5 rfl rfl (B3 zI0) hl1) rfl rfl ?_
  (refine F4 rfl hF1 rfl rfl (fun v G1 hle1 hh => ?_); clear hF1; obtain ⟨ch1, rfl, hrh1⟩ := hh; have hlh1 := hrh1.len; have hoh1 := hrh1.one; have hF2 := Y9 ⟨B, c, L⟩ hW _ _ G1 _ tb h2 hb (hsw.mono hle1) (hrb.mono hle1); obtain rfl := (show _ = _ from hrh1))
  refine Q1 rfl rfl rfl hlh1 hoh1 rfl zF0 (by exact C6 zR0) ?_
  refine A8 ?_
  refine sL (A5 rfl rfl (B3 zI0) hl2) rfl rfl ?_
  (refine F4 rfl hF2 rfl rfl (fun v G2 hle2 hh => ?_); clear hF2; obtain ⟨ch2, rfl, hrh2⟩ := hh; have hlh2 := hrh2.len; have hoh2 := hrh2.one; replace hrh1 := hrh1.mono hle2; have hs2 := (hsw.mono hle1).mono hle2; obtain rfl := (show _ = _ from hrh2); have hU := (A5o ⟨B, c, L⟩ hW hc n (.v n) (.v n) G2 _ _ hn (.free hB) (Z4 hn) hs2 hrh2).1 rfl)
  refine Q1 rfl rfl rfl hlh1 hoh1 rfl zF0 (by exact C6 zR0) ?_
  refine B0 ?_
  refine sP (O1 rfl rfl zR0) rfl rfl ?_
  refine E7 ?_
  (refine F4 rfl hU rfl rfl (fun v G3 hle3 hh => ?_); obtain ⟨sc3, rfl, hs3⟩ := hh; obtain ⟨sp3, sn3, sk3, sq3, sm3, sd3, rfl⟩ := hs3.two)
  refine E1 ?_
  refine H3 (rC rfl (A3 rfl rfl)) (rT rfl) ?_
  (exact ⟨rfl, _, rfl, hs3⟩)
 | @occ B a b n s r h1 h2 h3 h4 h5 =>
  intro c L G sc ta tb hW hc ha hb hs hra hrb
  have hl1 := hra.len
  have ho1 := hra.one
  have hl2 := hrb.len
  have ho2 := hrb.one
  have hsw := hs
  obtain ⟨sp, sn, sk, sq, sm, sd, rfl⟩ := hs.two
  have hF1 := Y9 ⟨B, c, L⟩ hW _ _ G _ ta h1 ha hsw hra
  have hn : n < c := h1.lt hW ha n rfl
  have hsl := h2.lt hW hb
  refine C0 Tryz.func86 rfl Tryz.ntmps86 Tryz.results86 rfl ?_
  intro w0
  refine A4 ?_
  refine sE (B6 rfl rfl) rfl (fun b3 => ?_)
  refine sE (B6 rfl rfl) rfl (fun b4 => ?_)
  refine sE (B6 rfl rfl) rfl (fun b5 => ?_)
  refine sE (A6 rfl) rfl (fun b6 => ?_)
  refine A9 ?_
  refine sL (A5 rfl rfl (B3 zI0) hl1) rfl rfl ?_
  (refine F4 rfl hF1 rfl rfl (fun v G1 hle1 hh => ?_); clear hF1; obtain ⟨ch1, rfl, hrh1⟩ := hh; have hlh1 := hrh1.len; have hoh1 := hrh1.one; have hF2 := Y9 ⟨B, c, L⟩ hW _ _ G1 _ tb h2 hb (hsw.mono hle1) (hrb.mono hle1); obtain rfl := (show _ = _ from hrh1))
  refine Q1 rfl rfl rfl hlh1 hoh1 rfl zF0 (by exact C6 zR0) ?_
  refine A8 ?_
  refine sL (A5 rfl rfl (B3 zI0) hl2) rfl rfl ?_
  (refine F4 rfl hF2 rfl rfl (fun v G2 hle2 hh => ?_); clear hF2; obtain ⟨ch2, rfl, hrh2⟩ := hh; have hlh2 := hrh2.len; have hoh2 := hrh2.one; replace hrh1 := hrh1.mono hle2; have hs2 := (hsw.mono hle1).mono hle2; have hU := (A5o ⟨B, c, L⟩ hW hc n s r G2 _ _ hn h4 hsl hs2 hrh2).2 h3; rw [h5] at hU; replace hU : Fn Tryz.prog 122 _ [] G2 (StP ⟨B, c, L⟩ false) := hU)
  refine Q1 rfl rfl rfl hlh2 hoh2 rfl zF0 (by exact C6 zR0) ?_
  refine B0 ?_
  refine sP (O1 rfl rfl zR0) rfl rfl ?_
  refine E1 ?_
  refine sL (A5 rfl rfl (B3 zI0) zO0) rfl rfl ?_
  (refine F4 rfl hU rfl rfl (fun v G3 hle3 hh => ?_); obtain ⟨sc3, rfl, hs3⟩ := hh; obtain ⟨sp3, sn3, sk3, sq3, sm3, sd3, rfl⟩ := hs3.two)
  refine E1 ?_
  refine H3 (rC rfl (A3 rfl rfl)) (rT rfl) ?_
  (exact ⟨rfl, _, rfl, hs3⟩)
 | @bind B a b n s r h1 h2 h3 h4 h5 =>
  intro c L G sc ta tb hW hc ha hb hs hra hrb
  have hl1 := hra.len
  have ho1 := hra.one
  have hl2 := hrb.len
  have ho2 := hrb.one
  have hsw := hs
  obtain ⟨sp, sn, sk, sq, sm, sd, rfl⟩ := hs.two
  have hF1 := Y9 ⟨B, c, L⟩ hW _ _ G _ ta h1 ha hsw hra
  have hn : n < c := h1.lt hW ha n rfl
  have hsl := h2.lt hW hb
  refine C0 Tryz.func86 rfl Tryz.ntmps86 Tryz.results86 rfl ?_
  intro w0
  refine A4 ?_
  refine sE (B6 rfl rfl) rfl (fun b3 => ?_)
  refine sE (B6 rfl rfl) rfl (fun b4 => ?_)
  refine sE (B6 rfl rfl) rfl (fun b5 => ?_)
  refine sE (A6 rfl) rfl (fun b6 => ?_)
  refine A9 ?_
  refine sL (A5 rfl rfl (B3 zI0) hl1) rfl rfl ?_
  (refine F4 rfl hF1 rfl rfl (fun v G1 hle1 hh => ?_); clear hF1; obtain ⟨ch1, rfl, hrh1⟩ := hh; have hlh1 := hrh1.len; have hoh1 := hrh1.one; have hF2 := Y9 ⟨B, c, L⟩ hW _ _ G1 _ tb h2 hb (hsw.mono hle1) (hrb.mono hle1); obtain rfl := (show _ = _ from hrh1))
  refine Q1 rfl rfl rfl hlh1 hoh1 rfl zF0 (by exact C6 zR0) ?_
  refine A8 ?_
  refine sL (A5 rfl rfl (B3 zI0) hl2) rfl rfl ?_
  (refine F4 rfl hF2 rfl rfl (fun v G2 hle2 hh => ?_); clear hF2; obtain ⟨ch2, rfl, hrh2⟩ := hh; have hlh2 := hrh2.len; have hoh2 := hrh2.one; replace hrh1 := hrh1.mono hle2; have hs2 := (hsw.mono hle1).mono hle2; have hU := (A5o ⟨B, c, L⟩ hW hc n s r G2 _ _ hn h4 hsl hs2 hrh2).2 h3; rw [h5] at hU; replace hU : Fn Tryz.prog 122 _ [] G2 (StP ⟨A01 B n s, c, L⟩ true) := hU)
  refine Q1 rfl rfl rfl hlh2 hoh2 rfl zF0 (by exact C6 zR0) ?_
  refine B0 ?_
  refine sP (O1 rfl rfl zR0) rfl rfl ?_
  refine E1 ?_
  refine sL (A5 rfl rfl (B3 zI0) zO0) rfl rfl ?_
  (refine F4 rfl hU rfl rfl (fun v G3 hle3 hh => ?_); obtain ⟨sc3, rfl, hs3⟩ := hh; obtain ⟨sp3, sn3, sk3, sq3, sm3, sd3, rfl⟩ := hs3.two)
  refine E1 ?_
  refine H3 (rC rfl (A3 rfl rfl)) (rT rfl) ?_
  (exact ⟨rfl, _, rfl, hs3⟩)
 | @occ' B a b n s r h1 h3 h2 h4 h5 =>
  intro c L G sc ta tb hW hc ha hb hs hra hrb
  have hl1 := hra.len
  have ho1 := hra.one
  have hl2 := hrb.len
  have ho2 := hrb.one
  have hsw := hs
  obtain ⟨sp, sn, sk, sq, sm, sd, rfl⟩ := hs.two
  have hF1 := Y9 ⟨B, c, L⟩ hW _ _ G _ ta h1 ha hsw hra
  have hn : n < c := h2.lt hW hb n rfl
  have hsl := h1.lt hW ha
  have hne : s ≠ .v n := fun he => by rw [he] at h3; cases h3
  have hk := A1p h3
  refine C0 Tryz.func86 rfl Tryz.ntmps86 Tryz.results86 rfl ?_
  intro w0
  refine A4 ?_
  refine sE (B6 rfl rfl) rfl (fun b3 => ?_)
  refine sE (B6 rfl rfl) rfl (fun b4 => ?_)
  refine sE (B6 rfl rfl) rfl (fun b5 => ?_)
  refine sE (A6 rfl) rfl (fun b6 => ?_)
  refine A9 ?_
  refine sL (A5 rfl rfl (B3 zI0) hl1) rfl rfl ?_
  (refine F4 rfl hF1 rfl rfl (fun v G1 hle1 hh => ?_); clear hF1; obtain ⟨ch1, rfl, hrh1⟩ := hh; have hlh1 := hrh1.len; have hoh1 := hrh1.one; have hF2 := Y9 ⟨B, c, L⟩ hW _ _ G1 _ tb h2 hb (hsw.mono hle1) (hrb.mono hle1); obtain ⟨K1, N1, p1, n1, c1, rfl, hK1, hN1⟩ := hrh1.kn; rw [← hK1] at hk)
  refine Q1 rfl rfl rfl hlh1 hoh1 rfl zF0 (by exact C6 zR0) ?_
  refine A8 ?_
  refine sL (A5 rfl rfl (B3 zI0) hl2) rfl rfl ?_
  (refine F4 rfl hF2 rfl rfl (fun v G2 hle2 hh => ?_); clear hF2; obtain ⟨ch2, rfl, hrh2⟩ := hh; have hlh2 := hrh2.len; have hoh2 := hrh2.one; replace hrh1 := hrh1.mono hle2; have hs2 := (hsw.mono hle1).mono hle2; obtain rfl := (show _ = _ from hrh2); have hU := (A5o ⟨B, c, L⟩ hW hc n s r G2 _ _ hn h4 hsl hs2 hrh1).2 hne; rw [h5] at hU; replace hU : Fn Tryz.prog 122 _ [] G2 (StP ⟨B, c, L⟩ false) := hU)
  refine Q1 rfl rfl rfl hlh1 hoh1 rfl zF0 (by exact C6 zR0) ?_
  refine B0 ?_
  refine sP (D0 rfl rfl zR0) rfl rfl ?_
  refine J2 ?_
  refine sP (O1 rfl rfl zR0) rfl rfl ?_
  refine E7 ?_
  (refine F4 rfl hU rfl rfl (fun v G3 hle3 hh => ?_); obtain ⟨sc3, rfl, hs3⟩ := hh; obtain ⟨sp3, sn3, sk3, sq3, sm3, sd3, rfl⟩ := hs3.two)
  refine E1 ?_
  refine H3 (rC rfl (A3 rfl rfl)) (rT rfl) ?_
  (exact ⟨rfl, _, rfl, hs3⟩)
 | @bind' B a b n s r h1 h3 h2 h4 h5 =>
  intro c L G sc ta tb hW hc ha hb hs hra hrb
  have hl1 := hra.len
  have ho1 := hra.one
  have hl2 := hrb.len
  have ho2 := hrb.one
  have hsw := hs
  obtain ⟨sp, sn, sk, sq, sm, sd, rfl⟩ := hs.two
  have hF1 := Y9 ⟨B, c, L⟩ hW _ _ G _ ta h1 ha hsw hra
  have hn : n < c := h2.lt hW hb n rfl
  have hsl := h1.lt hW ha
  have hne : s ≠ .v n := fun he => by rw [he] at h3; cases h3
  have hk := A1p h3
  refine C0 Tryz.func86 rfl Tryz.ntmps86 Tryz.results86 rfl ?_
  intro w0
  refine A4 ?_
  refine sE (B6 rfl rfl) rfl (fun b3 => ?_)
  refine sE (B6 rfl rfl) rfl (fun b4 => ?_)
  refine sE (B6 rfl rfl) rfl (fun b5 => ?_)
  refine sE (A6 rfl) rfl (fun b6 => ?_)
  refine A9 ?_
  refine sL (A5 rfl rfl (B3 zI0) hl1) rfl rfl ?_
  (refine F4 rfl hF1 rfl rfl (fun v G1 hle1 hh => ?_); clear hF1; obtain ⟨ch1, rfl, hrh1⟩ := hh; have hlh1 := hrh1.len; have hoh1 := hrh1.one; have hF2 := Y9 ⟨B, c, L⟩ hW _ _ G1 _ tb h2 hb (hsw.mono hle1) (hrb.mono hle1); obtain ⟨K1, N1, p1, n1, c1, rfl, hK1, hN1⟩ := hrh1.kn; rw [← hK1] at hk)
  refine Q1 rfl rfl rfl hlh1 hoh1 rfl zF0 (by exact C6 zR0) ?_
  refine A8 ?_
  refine sL (A5 rfl rfl (B3 zI0) hl2) rfl rfl ?_
  (refine F4 rfl hF2 rfl rfl (fun v G2 hle2 hh => ?_); clear hF2; obtain ⟨ch2, rfl, hrh2⟩ := hh; have hlh2 := hrh2.len; have hoh2 := hrh2.one; replace hrh1 := hrh1.mono hle2; have hs2 := (hsw.mono hle1).mono hle2; obtain rfl := (show _ = _ from hrh2); have hU := (A5o ⟨B, c, L⟩ hW hc n s r G2 _ _ hn h4 hsl hs2 hrh1).2 hne; rw [h5] at hU; replace hU : Fn Tryz.prog 122 _ [] G2 (StP ⟨A01 B n s, c, L⟩ true) := hU)
  refine Q1 rfl rfl rfl hlh1 hoh1 rfl zF0 (by exact C6 zR0) ?_
  refine B0 ?_
  refine sP (D0 rfl rfl zR0) rfl rfl ?_
  refine J2 ?_
  refine sP (O1 rfl rfl zR0) rfl rfl ?_
  refine E7 ?_
  (refine F4 rfl hU rfl rfl (fun v G3 hle3 hh => ?_); obtain ⟨sc3, rfl, hs3⟩ := hh; obtain ⟨sp3, sn3, sk3, sq3, sm3, sd3, rfl⟩ := hs3.two)
  refine E1 ?_
  refine H3 (rC rfl (A3 rfl rfl)) (rT rfl) ?_
  (exact ⟨rfl, _, rfl, hs3⟩)
 | @clash B a b s s' h1 h3 h2 h4 h5 =>
  intro c L G sc ta tb hW hc ha hb hs hra hrb
  have hl1 := hra.len
  have ho1 := hra.one
  have hl2 := hrb.len
  have ho2 := hrb.one
  have hsw := hs
  obtain ⟨sp, sn, sk, sq, sm, sd, rfl⟩ := hs.two
  have hF1 := Y9 ⟨B, c, L⟩ hW _ _ G _ ta h1 ha hsw hra
  have hk := A1p h3
  have hk' := A1p h4
  refine C0 Tryz.func86 rfl Tryz.ntmps86 Tryz.results86 rfl ?_
  intro w0
  refine A4 ?_
  refine sE (B6 rfl rfl) rfl (fun b3 => ?_)
  refine sE (B6 rfl rfl) rfl (fun b4 => ?_)
  refine sE (B6 rfl rfl) rfl (fun b5 => ?_)
  refine sE (A6 rfl) rfl (fun b6 => ?_)
  refine A9 ?_
  refine sL (A5 rfl rfl (B3 zI0) hl1) rfl rfl ?_
  (refine F4 rfl hF1 rfl rfl (fun v G1 hle1 hh => ?_); clear hF1; obtain ⟨ch1, rfl, hrh1⟩ := hh; have hlh1 := hrh1.len; have hoh1 := hrh1.one; have hF2 := Y9 ⟨B, c, L⟩ hW _ _ G1 _ tb h2 hb (hsw.mono hle1) (hrb.mono hle1); obtain ⟨K1, N1, p1, n1, c1, rfl, hK1, hN1⟩ := hrh1.kn; rw [← hK1] at hk)
  refine Q1 rfl rfl rfl hlh1 hoh1 rfl zF0 (by exact C6 zR0) ?_
  refine A8 ?_
  refine sL (A5 rfl rfl (B3 zI0) hl2) rfl rfl ?_
  (refine F4 rfl hF2 rfl rfl (fun v G2 hle2 hh => ?_); clear hF2; obtain ⟨ch2, rfl, hrh2⟩ := hh; have hlh2 := hrh2.len; have hoh2 := hrh2.one; replace hrh1 := hrh1.mono hle2; have hs2 := (hsw.mono hle1).mono hle2; obtain ⟨K2, N2, p2, n2, c2, rfl, hK2, hN2⟩ := hrh2.kn; rw [← hK2] at hk'; rw [← hK1, ← hK2] at h5)
  refine Q1 rfl rfl rfl hlh1 hoh1 rfl zF0 (by exact C6 zR0) ?_
  refine B0 ?_
  refine sP (D0 rfl rfl zR0) rfl rfl ?_
  refine J2 ?_
  refine sP (D0 rfl rfl zR0) rfl rfl ?_
  refine M7 ?_
  refine sP (D0 rfl rfl zR0) rfl rfl ?_
  refine E7 ?_
  refine C2 ?_
  refine L8 (fun (_ : Unit) => ⟨[(9, .int .i64 0), (8, .bool false), (6, .pointer (some ⟨b6, 0, none⟩)), (4, .pointer (some ⟨b4, 0, none⟩)), (3, .pointer (some ⟨b3, 0, none⟩))], [.blk b6 [.slice none 0 0, .slice none 0 0], .blk b4 [.int .i64 K1, .int .i64 N1, .slice p1 n1 c1], .blk b3 [.slice sp sn sk, .slice sq sm sd]], G2⟩) (fun _ => True) (fun _ => 0) () ?_ ?_ ?_
  ·exact F8
  ·trivial
  ·(rintro _ _)
   refine B0 ?_
   refine sB (N5 rfl rfl) rfl rfl (fun h76 => ?_) (fun h76 => ?_)
   ·refine X3 ?_
    refine H3 (rC rfl (A3 rfl rfl)) (rT rfl) ?_
    (exact ⟨rfl, _, rfl, hs2⟩)
   ·refine X3 ?_
    refine H3 (rC rfl (A3 rfl rfl)) (rT rfl) ?_
    (exact ⟨rfl, _, rfl, hs2⟩)
 | @base B a b d h1 h2 =>
  intro c L G sc ta tb hW hc ha hb hs hra hrb
  have hl1 := hra.len
  have ho1 := hra.one
  have hl2 := hrb.len
  have ho2 := hrb.one
  have hsw := hs
  obtain ⟨sp, sn, sk, sq, sm, sd, rfl⟩ := hs.two
  have hF1 := Y9 ⟨B, c, L⟩ hW _ _ G _ ta h1 ha hsw hra
  obtain ⟨K, hK⟩ : ∃ K, (SV.b d).kd = K := ⟨_, rfl⟩
  have hK0 := A1p (s := .b d) rfl
  rw [hK] at hK0
  refine C0 Tryz.func86 rfl Tryz.ntmps86 Tryz.results86 rfl ?_
  intro w0
  refine A4 ?_
  refine sE (B6 rfl rfl) rfl (fun b3 => ?_)
  refine sE (B6 rfl rfl) rfl (fun b4 => ?_)
  refine sE (B6 rfl rfl) rfl (fun b5 => ?_)
  refine sE (A6 rfl) rfl (fun b6 => ?_)
  refine A9 ?_
  refine sL (A5 rfl rfl (B3 zI0) hl1) rfl rfl ?_
  (refine F4 rfl hF1 rfl rfl (fun v G1 hle1 hh => ?_); clear hF1; obtain ⟨ch1, rfl, hrh1⟩ := hh; have hlh1 := hrh1.len; have hoh1 := hrh1.one; have hF2 := Y9 ⟨B, c, L⟩ hW _ _ G1 _ tb h2 hb (hsw.mono hle1) (hrb.mono hle1); obtain rfl := (show _ = _ from hrh1); rw [hK])
  refine Q1 rfl rfl rfl hlh1 hoh1 rfl zF0 (by exact C6 zR0) ?_
  refine A8 ?_
  refine sL (A5 rfl rfl (B3 zI0) hl2) rfl rfl ?_
  (refine F4 rfl hF2 rfl rfl (fun v G2 hle2 hh => ?_); clear hF2; obtain ⟨ch2, rfl, hrh2⟩ := hh; have hlh2 := hrh2.len; have hoh2 := hrh2.one; replace hrh1 := hrh1.mono hle2; have hs2 := (hsw.mono hle1).mono hle2; obtain rfl := (show _ = _ from hrh2); rw [hK])
  refine Q1 rfl rfl rfl hlh1 hoh1 rfl zF0 (by exact C6 zR0) ?_
  refine B0 ?_
  refine sP (D0 rfl rfl zR0) rfl rfl ?_
  refine J2 ?_
  refine sP (D0 rfl rfl zR0) rfl rfl ?_
  refine M7 ?_
  refine sP (O1 rfl rfl zR0) rfl rfl ?_
  refine E7 ?_
  refine C2 ?_
  refine L8 (fun (_ : Unit) => ⟨[(9, .int .i64 0), (8, .bool true), (6, .pointer (some ⟨b6, 0, none⟩)), (4, .pointer (some ⟨b4, 0, none⟩)), (3, .pointer (some ⟨b3, 0, none⟩))], [.blk b6 [.slice none 0 0, .slice none 0 0], .blk b4 [.int .i64 K, .int .i64 0, .slice none 0 0], .blk b3 [.slice sp sn sk, .slice sq sm sd]], G2⟩) (fun _ => True) (fun _ => 0) () ?_ ?_ ?_
  ·exact F8
  ·trivial
  ·(rintro _ _)
   refine B0 ?_
   refine sP (A1U rfl rfl zR0) rfl rfl ?_
   refine X3 ?_
   refine H3 (rC rfl (A3 rfl rfl)) (rT rfl) ?_
   (exact ⟨rfl, _, rfl, hs2⟩)
 | @two0 B a b d x y x' y' B1 h1 h2 h3 ih =>
  intro c L G sc ta tb hW hc ha hb hs hra hrb
  have hl1 := hra.len
  have ho1 := hra.one
  have hl2 := hrb.len
  have ho2 := hrb.one
  have hsw := hs
  obtain ⟨sp, sn, sk, sq, sm, sd, rfl⟩ := hs.two
  have hF1 := Y9 ⟨B, c, L⟩ hW _ _ G _ ta h1 ha hsw hra
  obtain ⟨K, hK⟩ : ∃ K : Int, (if d = true then 5 else 4) = K := ⟨_, rfl⟩
  have hK0 : K ≠ 0 := by rw [← hK]; cases d <;> decide
  have hla := h1.lt hW ha
  have hlb := h2.lt hW hb
  refine C0 Tryz.func86 rfl Tryz.ntmps86 Tryz.results86 rfl ?_
  intro w0
  refine A4 ?_
  refine sE (B6 rfl rfl) rfl (fun b3 => ?_)
  refine sE (B6 rfl rfl) rfl (fun b4 => ?_)
  refine sE (B6 rfl rfl) rfl (fun b5 => ?_)
  refine sE (A6 rfl) rfl (fun b6 => ?_)
  refine A9 ?_
  refine sL (A5 rfl rfl (B3 zI0) hl1) rfl rfl ?_
  (refine F4 rfl hF1 rfl rfl (fun v G1 hle1 hh => ?_); clear hF1; obtain ⟨ch1, rfl, hrh1⟩ := hh; have hlh1 := hrh1.len; have hoh1 := hrh1.one; have hF2 := Y9 ⟨B, c, L⟩ hW _ _ G1 _ tb h2 hb (hsw.mono hle1) (hrb.mono hle1))
  refine Q1 rfl rfl rfl hlh1 hoh1 rfl zF0 (by exact C6 zR0) ?_
  refine A8 ?_
  refine sL (A5 rfl rfl (B3 zI0) hl2) rfl rfl ?_
  (refine F4 rfl hF2 rfl rfl (fun v G2 hle2 hh => ?_); clear hF2; obtain ⟨ch2, rfl, hrh2⟩ := hh; replace hrh1 := hrh1.mono hle2; have hs2 := (hsw.mono hle1).mono hle2; obtain ⟨b1, o1, c1, e1, f1, rfl, hle1', hlf1, hat1, haf1, hre1, hrf1, hgb1⟩ := hrh1.two; obtain ⟨b2, o2, c2, e2, f2, rfl, hle2', hlf2, hat2, haf2, hre2, hrf2, hgb2⟩ := hrh2.two; rw [hK])
  refine Q1 rfl rfl rfl hlh1 hoh1 rfl zF0 (by exact C6 zR0) ?_
  refine B0 ?_
  refine sP (D0 rfl rfl zR0) rfl rfl ?_
  refine J2 ?_
  refine sP (D0 rfl rfl zR0) rfl rfl ?_
  refine M7 ?_
  refine sP (O1 rfl rfl zR0) rfl rfl ?_
  refine E7 ?_
  refine C2 (L8 (fun (x : Nat × Bool × List Value × IM) => ⟨[(9, .int .i64 (x.1 : Int)), (8, .bool x.2.1), (6, .pointer (some ⟨b6, 0, none⟩)), (5, .pointer (some ⟨b5, 0, none⟩)), (4, .pointer (some ⟨b4, 0, none⟩)), (3, .pointer (some ⟨b3, 0, none⟩))], [.blk b6 [.slice none 0 0, .slice none 0 0], .blk b5 [.int .i64 K, .int .i64 0, .slice (some ⟨b2, o2, none⟩) 2 c2], .blk b4 [.int .i64 K, .int .i64 0, .slice (some ⟨b1, o1, none⟩) 2 c1], .blk b3 x.2.2.1], x.2.2.2⟩) (fun x => B9 G2 x.2.2.2 ∧ ((x.1 = 0 ∧ x.2.1 = true ∧ R2 x.2.2.2 ⟨B, c, L⟩ x.2.2.1) ∨ (x.1 = 1 ∧ x.2.1 = false ∧ R2 x.2.2.2 ⟨B1, c, L⟩ x.2.2.1))) (fun x => 2 - x.1) (0, true, [.slice sp sn sk, .slice sq sm sd], G2) ?_ ?_ ?_)
  (simp only [I9]; exact F8)
  (exact ⟨B9.refl _, .inl ⟨rfl, rfl, hs2⟩⟩)
  (rintro ⟨(i : Nat), oki, sci, Gi⟩ ⟨hlei, hor⟩; simp only [] at hlei hor ⊢; rcases hor with ⟨rfl, rfl, hsi⟩ | ⟨rfl, rfl, hsi⟩ <;> (have hsi0 := hsi; obtain ⟨tp, tn, tk, tq, tm, td, rfl⟩ := hsi.two))
  refine B0 ?_
  refine sP (A2a rfl rfl zR0) rfl rfl ?_
  refine E7 ?_
  refine C2 ?_
  refine D3 D4 rfl ?_
  refine J3 (i := 0) (l' := [tt,ff,ff,ff,ff,ff,ff,ff,ff,ff,ff,ff,ff,ff,ff,ff,ff]) rfl C8 (A3 rfl rfl) rfl zP0 rfl rfl ?_
  refine aP 1 rfl (C3 rfl) rfl ?_
  refine aL 2 rfl (F0 rfl rfl) rfl ?_
  refine aP 3 rfl (qM rfl) rfl ?_
  refine aP 4 rfl (B8 (j := 0) rfl rfl rfl zR0) rfl ?_
  refine aL 5 rfl (A5 rfl rfl (At.im hlei hgb1 hat1 _) hle1') rfl ?_
  refine aP 6 rfl (C3 rfl) rfl ?_
  refine aL 7 rfl (F0 rfl rfl) rfl ?_
  refine aP 8 rfl (qM rfl) rfl ?_
  refine aP 9 rfl (B8 (j := 0) rfl rfl rfl zR0) rfl ?_
  refine aL 10 rfl (A5 rfl rfl (At.im hlei hgb2 hat2 _) hle2') rfl ?_
  refine A2 11 ?_
  (refine H1 rfl rfl (ih c L Gi _ e1 e2 hW hc (fun m hm => hla m (.inl hm)) (fun m hm => hlb m (.inl hm)) hsi0 (hre1.mono hlei) (hre2.mono hlei)) rfl rfl rfl (fun v G3 hle3 hh => ?_); obtain ⟨sc3, rfl, hs3⟩ := hh; have hs30 := hs3; obtain ⟨sp3, sn3, sk3, sq3, sm3, sd3, rfl⟩ := hs3.two)
  refine aP 12 rfl (qM rfl) rfl ?_
  refine aP 13 rfl (pX rfl rfl) rfl ?_
  refine aP 14 rfl (pX rfl rfl) rfl ?_
  refine A2 15 ?_
  refine C9 rfl ?_
  refine aP 16 rfl (qA rfl) rfl ?_
  refine A8 ?_
  refine sP (K0 rfl rfl zR0 zR0) rfl rfl ?_
  refine A4 ?_
  refine J7 (1, false, [.slice sp3 sn3 sk3, .slice sq3 sm3 sd3], G3) (I6 zC0 zV) ?_ ?_
  (exact ⟨hlei.trans hle3, .inr ⟨rfl, rfl, hs30⟩⟩)
  (show 2 - 1 < 2 - 0; omega)
  refine B0 ?_
  refine sP (A2a rfl rfl zR0) rfl rfl ?_
  refine X3 ?_
  refine H3 (rC rfl (A3 rfl rfl)) (rT rfl) ?_
  (exact ⟨rfl, _, rfl, hsi0⟩)
 | @two B a b d x y x' y' B1 B2 ok h1 h2 h3 h4 ih1 ih2 =>
  intro c L G sc ta tb hW hc ha hb hs hra hrb
  have hl1 := hra.len
  have ho1 := hra.one
  have hl2 := hrb.len
  have ho2 := hrb.one
  have hsw := hs
  obtain ⟨sp, sn, sk, sq, sm, sd, rfl⟩ := hs.two
  have hF1 := Y9 ⟨B, c, L⟩ hW _ _ G _ ta h1 ha hsw hra
  obtain ⟨K, hK⟩ : ∃ K : Int, (if d = true then 5 else 4) = K := ⟨_, rfl⟩
  have hK0 : K ≠ 0 := by rw [← hK]; cases d <;> decide
  have hla := h1.lt hW ha
  have hlb := h2.lt hW hb
  have hW1 := A17 h3 hW (fun m hm => hla m (.inl hm)) (fun m hm => hlb m (.inl hm))
  refine C0 Tryz.func86 rfl Tryz.ntmps86 Tryz.results86 rfl ?_
  intro w0
  refine A4 ?_
  refine sE (B6 rfl rfl) rfl (fun b3 => ?_)
  refine sE (B6 rfl rfl) rfl (fun b4 => ?_)
  refine sE (B6 rfl rfl) rfl (fun b5 => ?_)
  refine sE (A6 rfl) rfl (fun b6 => ?_)
  refine A9 ?_
  refine sL (A5 rfl rfl (B3 zI0) hl1) rfl rfl ?_
  (refine F4 rfl hF1 rfl rfl (fun v G1 hle1 hh => ?_); clear hF1; obtain ⟨ch1, rfl, hrh1⟩ := hh; have hlh1 := hrh1.len; have hoh1 := hrh1.one; have hF2 := Y9 ⟨B, c, L⟩ hW _ _ G1 _ tb h2 hb (hsw.mono hle1) (hrb.mono hle1))
  refine Q1 rfl rfl rfl hlh1 hoh1 rfl zF0 (by exact C6 zR0) ?_
  refine A8 ?_
  refine sL (A5 rfl rfl (B3 zI0) hl2) rfl rfl ?_
  (refine F4 rfl hF2 rfl rfl (fun v G2 hle2 hh => ?_); clear hF2; obtain ⟨ch2, rfl, hrh2⟩ := hh; replace hrh1 := hrh1.mono hle2; have hs2 := (hsw.mono hle1).mono hle2; obtain ⟨b1, o1, c1, e1, f1, rfl, hle1', hlf1, hat1, haf1, hre1, hrf1, hgb1⟩ := hrh1.two; obtain ⟨b2, o2, c2, e2, f2, rfl, hle2', hlf2, hat2, haf2, hre2, hrf2, hgb2⟩ := hrh2.two; rw [hK])
  refine Q1 rfl rfl rfl hlh1 hoh1 rfl zF0 (by exact C6 zR0) ?_
  refine B0 ?_
  refine sP (D0 rfl rfl zR0) rfl rfl ?_
  refine J2 ?_
  refine sP (D0 rfl rfl zR0) rfl rfl ?_
  refine M7 ?_
  refine sP (O1 rfl rfl zR0) rfl rfl ?_
  refine E7 ?_
  refine C2 (L8 (fun (x : Nat × Bool × List Value × IM) => ⟨[(9, .int .i64 (x.1 : Int)), (8, .bool x.2.1), (6, .pointer (some ⟨b6, 0, none⟩)), (5, .pointer (some ⟨b5, 0, none⟩)), (4, .pointer (some ⟨b4, 0, none⟩)), (3, .pointer (some ⟨b3, 0, none⟩))], [.blk b6 [.slice none 0 0, .slice none 0 0], .blk b5 [.int .i64 K, .int .i64 0, .slice (some ⟨b2, o2, none⟩) 2 c2], .blk b4 [.int .i64 K, .int .i64 0, .slice (some ⟨b1, o1, none⟩) 2 c1], .blk b3 x.2.2.1], x.2.2.2⟩) (fun x => B9 G2 x.2.2.2 ∧ ((x.1 = 0 ∧ x.2.1 = true ∧ R2 x.2.2.2 ⟨B, c, L⟩ x.2.2.1) ∨ (x.1 = 1 ∧ x.2.1 = true ∧ R2 x.2.2.2 ⟨B1, c, L⟩ x.2.2.1) ∨ (x.1 = 2 ∧ x.2.1 = ok ∧ R2 x.2.2.2 ⟨B2, c, L⟩ x.2.2.1))) (fun x => 2 - x.1) (0, true, [.slice sp sn sk, .slice sq sm sd], G2) ?_ ?_ ?_)
  (simp only [I9]; exact F8)
  (exact ⟨B9.refl _, .inl ⟨rfl, rfl, hs2⟩⟩)
  (rintro ⟨(i : Nat), oki, sci, Gi⟩ ⟨hlei, hor⟩; simp only [] at hlei hor ⊢; rcases hor with ⟨rfl, rfl, hsi⟩ | ⟨rfl, rfl, hsi⟩ | ⟨rfl, rfl, hsi⟩ <;> (have hsi0 := hsi; obtain ⟨tp, tn, tk, tq, tm, td, rfl⟩ := hsi.two))
  refine B0 ?_
  refine sP (A2a rfl rfl zR0) rfl rfl ?_
  refine E7 ?_
  refine C2 ?_
  refine D3 D4 rfl ?_
  refine J3 (i := 0) (l' := [tt,ff,ff,ff,ff,ff,ff,ff,ff,ff,ff,ff,ff,ff,ff,ff,ff]) rfl C8 (A3 rfl rfl) rfl zP0 rfl rfl ?_
  refine aP 1 rfl (C3 rfl) rfl ?_
  refine aL 2 rfl (F0 rfl rfl) rfl ?_
  refine aP 3 rfl (qM rfl) rfl ?_
  refine aP 4 rfl (B8 (j := 0) rfl rfl rfl zR0) rfl ?_
  refine aL 5 rfl (A5 rfl rfl (At.im hlei hgb1 hat1 _) hle1') rfl ?_
  refine aP 6 rfl (C3 rfl) rfl ?_
  refine aL 7 rfl (F0 rfl rfl) rfl ?_
  refine aP 8 rfl (qM rfl) rfl ?_
  refine aP 9 rfl (B8 (j := 0) rfl rfl rfl zR0) rfl ?_
  refine aL 10 rfl (A5 rfl rfl (At.im hlei hgb2 hat2 _) hle2') rfl ?_
  refine A2 11 ?_
  (refine H1 rfl rfl (ih1 c L Gi _ e1 e2 hW hc (fun m hm => hla m (.inl hm)) (fun m hm => hlb m (.inl hm)) hsi0 (hre1.mono hlei) (hre2.mono hlei)) rfl rfl rfl (fun v G3 hle3 hh => ?_); obtain ⟨sc3, rfl, hs3⟩ := hh; have hs30 := hs3; obtain ⟨sp3, sn3, sk3, sq3, sm3, sd3, rfl⟩ := hs3.two)
  refine aP 12 rfl (qM rfl) rfl ?_
  refine aP 13 rfl (pX rfl rfl) rfl ?_
  refine aP 14 rfl (pX rfl rfl) rfl ?_
  refine A2 15 ?_
  refine C9 rfl ?_
  refine aP 16 rfl (qA rfl) rfl ?_
  refine A8 ?_
  refine sP (K0 rfl rfl zR0 zR0) rfl rfl ?_
  refine A4 ?_
  refine J7 (1, true, [.slice sp3 sn3 sk3, .slice sq3 sm3 sd3], G3) (I6 zC0 zV) ?_ ?_
  (exact ⟨hlei.trans hle3, .inr (.inl ⟨rfl, rfl, hs30⟩)⟩)
  (show 2 - 1 < 2 - 0; omega)
  refine B0 ?_
  refine sP (A2a rfl rfl zR0) rfl rfl ?_
  refine E7 ?_
  refine C2 ?_
  refine D3 D4 rfl ?_
  refine J3 (i := 0) (l' := [tt,ff,ff,ff,ff,ff,ff,ff,ff,ff,ff,ff,ff,ff,ff,ff,ff]) rfl C8 (A3 rfl rfl) rfl zP0 rfl rfl ?_
  refine aP 1 rfl (C3 rfl) rfl ?_
  refine aL 2 rfl (F0 rfl rfl) rfl ?_
  refine aP 3 rfl (qM rfl) rfl ?_
  refine aP 4 rfl (B8 (j := 1) rfl rfl rfl zR0) rfl ?_
  refine aL 5 rfl (A5 rfl rfl (At.im hlei hgb1 haf1 _) hlf1) rfl ?_
  refine aP 6 rfl (C3 rfl) rfl ?_
  refine aL 7 rfl (F0 rfl rfl) rfl ?_
  refine aP 8 rfl (qM rfl) rfl ?_
  refine aP 9 rfl (B8 (j := 1) rfl rfl rfl zR0) rfl ?_
  refine aL 10 rfl (A5 rfl rfl (At.im hlei hgb2 haf2 _) hlf2) rfl ?_
  refine A2 11 ?_
  (refine H1 rfl rfl (ih2 c L Gi _ f1 f2 hW1 hc (fun m hm => hla m (.inr hm)) (fun m hm => hlb m (.inr hm)) hsi0 (hrf1.mono hlei) (hrf2.mono hlei)) rfl rfl rfl (fun v G3 hle3 hh => ?_); obtain ⟨sc3, rfl, hs3⟩ := hh; have hs30 := hs3; obtain ⟨sp3, sn3, sk3, sq3, sm3, sd3, rfl⟩ := hs3.two)
  refine aP 12 rfl (qM rfl) rfl ?_
  refine aP 13 rfl (pX rfl rfl) rfl ?_
  refine aP 14 rfl (pX rfl rfl) rfl ?_
  refine A2 15 ?_
  refine C9 rfl ?_
  refine aP 16 rfl (qA rfl) rfl ?_
  refine A8 ?_
  refine sP (K0 rfl rfl zR0 zR0) rfl rfl ?_
  refine A4 ?_
  refine J7 (2, ok, [.slice sp3 sn3 sk3, .slice sq3 sm3 sd3], G3) (I6 zC0 zV) ?_ ?_
  (exact ⟨hlei.trans hle3, .inr (.inr ⟨rfl, rfl, hs30⟩)⟩)
  (show 2 - 2 < 2 - 1; omega)
  refine B0 ?_
  refine sP (A1U rfl rfl zR0) rfl rfl ?_
  refine X3 ?_
  refine H3 (rC rfl (A3 rfl rfl)) (rT rfl) ?_
  (exact ⟨rfl, _, rfl, hsi0⟩)
def A1u (M : VM) (E : Nat → Option Nat) (r : Option Ty) : IM → Value → List A7 → Prop := fun G' v outs => outs = H5 M E ∧ ∃ cells u, v = .tuple ⟨[.agg ⟨cells⟩, .bool r.isSome]⟩ ∧ C7 G' u cells ∧ ∀ x, r = some x → u = x
theorem A1u.no {M : VM} {E : Nat → Option Nat} {r : Option Ty} {G' : IM} {cells : List Value} {u : Ty} (h : r = none) (hu : C7 G' u cells) : A1u M E r G' (.tuple ⟨[.agg ⟨cells⟩, .bool false]⟩) (H5 M E) := by
 subst h
 exact ⟨rfl, cells, u, rfl, hu, fun x hx => by cases hx⟩
theorem A1u.yes {M : VM} {E : Nat → Option Nat} {r : Option Ty} {G' : IM} {cells : List Value} {u : Ty} (h : r = some u) (hu : C7 G' u cells) : A1u M E r G' (.tuple ⟨[.agg ⟨cells⟩, .bool true]⟩) (H5 M E) := by
 subst h
 exact ⟨rfl, cells, u, rfl, hu, fun x hx => by cases hx; rfl⟩
theorem A4q {d : Nat} {deep : Int} {t : SV} (hd : deep + d = 5) (h : 4 < deep) : S9 d t = none := by
 obtain rfl : d = 0 := by omega
 rfl
theorem B2m {d n : Nat} {deep : Int} (hd : deep + d = 5) (h : ¬4 < deep) : S9 d (.v n) = some (.mk 2 []) := by
 obtain ⟨k, rfl⟩ : ∃ k, d = k + 1 := ⟨d - 1, by omega⟩
 rfl
theorem B2n {d : Nat} {c : Bool} {deep : Int} (hd : deep + d = 5) (h : ¬4 < deep) : S9 d (.b c) = some (.mk (if c = true then 3 else 2) []) := by
 obtain ⟨k, rfl⟩ : ∃ k, d = k + 1 := ⟨d - 1, by omega⟩
 rfl
theorem B2o {d : Nat} {c : Bool} {x y : SV} {deep : Int} (hd : deep + d = 5) (h : ¬4 < deep) : (S9 (d - 1) x = none → S9 d (.t c x y) = none) ∧ (∀ a, S9 (d - 1) x = some a → S9 (d - 1) y = none → S9 d (.t c x y) = none) ∧
  ∀ a b, S9 (d - 1) x = some a → S9 (d - 1) y = some b → S9 d (.t c x y) = some (.mk (if c = true then 5 else 4) [a, b]) := by
 obtain ⟨k, rfl⟩ : ∃ k, d = k + 1 := ⟨d - 1, by omega⟩
 rw [Nat.add_sub_cancel]
 refine ⟨fun h1 => ?_, fun a h1 h2 => ?_, fun a b h1 h2 => ?_⟩
 ·rw [S9, h1]
 ·rw [S9, h1]; simp only [h2]
 ·rw [S9, h1]; simp only [h2]
theorem B8n (M : VM) (B : BV) (E : Nat → Option Nat) (hV : A09 M B E) :
  ∀ (t s : SV) (b d : Nat) (deep : Int) (G : IM), Q9 B s t → K9 M s b → deep + d = 5 → 1 ≤ deep → Fn Tryz.prog 15 [pt b, .int .i64 deep] (H5 M E) G (A1u M E (S9 d t)) := by
 intro t
 induction t with
 | v m =>
  intro s b d deep G hd hr hdd hd1
  obtain ⟨h, hh, rfl, hB⟩ := hd.hd
  have hF := A0a M B E s _ b G hV hh hr
  have h0 := fun h => A4q (t := .v m) hdd h
  have h1 := fun h => B2m (n := m) hdd h
  refine C0 Tryz.func15 rfl Tryz.ntmps15 Tryz.results15 rfl ?_
  intro w0
  refine A4 ?_
  refine sE (A6 rfl) rfl (fun b3 => ?_)
  refine A9 ?_
  (refine R0 [_] rfl hF rfl rfl rfl (fun v G1 outs hle1 hh => ?_); clear hF; obtain ⟨hG, rfl, b1, rfl, hr1⟩ := hh; replace hG := hG.symm; subst hG; simp only [List.cons_append, List.nil_append]; replace hr1 := hr1.v2)
  refine B5 ?_
  refine C2 ?_
  refine C1 ?_
  refine sB (A0K rfl rfl) rfl rfl (fun h19 => ?_) (fun h19 => ?_)
  refine M8 ?_
  refine X4 (outs := H5 M E) (rC rfl (A3 rfl rfl)) (rT rfl) zE0 ?_
  (exact A1u.no (h0 zR0) (L9 _ ⟨by omega, by omega⟩))
  refine B0 ?_
  refine sQ (K6 rfl) rfl ?_
  refine D8 ?_
  refine sL (I7 rfl rfl (P2 (by repeat (first | exact W1 hr1 | apply List.Mem.tail)) rfl)) rfl rfl ?_
  refine sP (O1 rfl rfl zR0) rfl rfl ?_
  refine A9 ?_
  refine H4 rfl (A1B _ _) rfl rfl ?_
  refine B0 ?_
  refine X4 (outs := H5 M E) (rC rfl (A3 rfl rfl)) (rT rfl) zE0 ?_
  (exact A1u.yes (h1 zR0) (L9 _ ⟨by omega, by omega⟩))
 | b c =>
  intro s b d deep G hd hr hdd hd1
  obtain ⟨h, hh, rfl⟩ := hd.hd
  have hF := A0a M B E s _ b G hV hh hr
  obtain ⟨K, hK⟩ : ∃ K : Int, (if c = true then 3 else 2) = K := ⟨_, rfl⟩
  have hk0 : K ≠ 0 ∧ H6 K := by rw [← hK]; cases c <;> (refine ⟨by decide, by decide, by decide⟩)
  have h0 := fun h => A4q (t := .b c) hdd h
  have h1 := fun h => B2n (c := c) hdd h
  rw [hK] at h1
  refine C0 Tryz.func15 rfl Tryz.ntmps15 Tryz.results15 rfl ?_
  intro w0
  refine A4 ?_
  refine sE (A6 rfl) rfl (fun b3 => ?_)
  refine A9 ?_
  (refine R0 [_] rfl hF rfl rfl rfl (fun v G1 outs hle1 hh => ?_); clear hF; obtain ⟨hG, rfl, b1, rfl, hr1⟩ := hh; replace hG := hG.symm; subst hG; simp only [List.cons_append, List.nil_append]; have hm1 := A7i hK hr1.b2 E)
  refine B5 ?_
  refine C2 ?_
  refine C1 ?_
  refine sB (A0K rfl rfl) rfl rfl (fun h19 => ?_) (fun h19 => ?_)
  refine M8 ?_
  refine X4 (outs := H5 M E) (rC rfl (A3 rfl rfl)) (rT rfl) zE0 ?_
  (exact A1u.no (h0 zR0) (L9 _ ⟨by omega, by omega⟩))
  refine B0 ?_
  refine sQ (K6 rfl) rfl ?_
  refine D8 ?_
  refine sL (I7 rfl rfl (P2 (by repeat (first | exact hm1 | apply List.Mem.tail)) rfl)) rfl rfl ?_
  refine sP (D0 rfl rfl zR0) rfl rfl ?_
  refine B0 ?_
  refine sQ (K6 rfl) rfl ?_
  refine D8 ?_
  refine sL (I7 rfl rfl (P2 (by repeat (first | exact hm1 | apply List.Mem.tail)) rfl)) rfl rfl ?_
  refine sQ (A4O rfl rfl rfl) rfl ?_
  refine B0 ?_
  refine sQ (K6 rfl) rfl ?_
  refine D8 ?_
  refine sL (I7 rfl rfl (P2 (by repeat (first | exact hm1 | apply List.Mem.tail)) rfl)) rfl rfl ?_
  refine H4 rfl (A1B _ _) rfl rfl ?_
  refine B0 ?_
  refine X4 (outs := H5 M E) (rC rfl (A3 rfl rfl)) (rT rfl) zE0 ?_
  (exact A1u.yes (h1 zR0) (L9 _ hk0.2))
 | t c p q ihp ihq =>
  intro s b d deep G hd hr hdd hd1
  obtain ⟨h, hh, x, y, rfl, hx, hy⟩ := hd.hd
  have hF := A0a M B E s _ b G hV hh hr
  obtain ⟨K, hK⟩ : ∃ K : Int, (if c = true then 5 else 4) = K := ⟨_, rfl⟩
  have hk0 : K ≠ 0 ∧ H6 K := by rw [← hK]; cases c <;> (refine ⟨by decide, by decide, by decide⟩)
  have h0 := fun h => A4q (t := .t c p q) hdd h
  have h1 := fun h => B2o (c := c) (x := p) (y := q) hdd h
  rw [hK] at h1
  refine C0 Tryz.func15 rfl Tryz.ntmps15 Tryz.results15 rfl ?_
  intro w0
  refine A4 ?_
  refine sE (A6 rfl) rfl (fun b3 => ?_)
  refine A9 ?_
  (refine R0 [_] rfl hF rfl rfl rfl (fun v G1 outs hle1 hh => ?_); clear hF; obtain ⟨hG, rfl, b1, rfl, hr1⟩ := hh; replace hG := hG.symm; subst hG; simp only [List.cons_append, List.nil_append]; obtain ⟨bx, bz, hmM, hrx, hry⟩ := hr1.t2; have hm1 := A4Q hK hmM E)
  refine B5 ?_
  refine C2 ?_
  refine C1 ?_
  refine sB (A0K rfl rfl) rfl rfl (fun h19 => ?_) (fun h19 => ?_)
  refine M8 ?_
  refine X4 (outs := H5 M E) (rC rfl (A3 rfl rfl)) (rT rfl) zE0 ?_
  (exact A1u.no (h0 zR0) (L9 _ ⟨by omega, by omega⟩))
  refine B0 ?_
  refine sQ (K6 rfl) rfl ?_
  refine D8 ?_
  refine sL (I7 rfl rfl (P2 (by repeat (first | exact hm1 | apply List.Mem.tail)) rfl)) rfl rfl ?_
  refine sP (D0 rfl rfl zR0) rfl rfl ?_
  refine B0 ?_
  refine sQ (K6 rfl) rfl ?_
  refine D8 ?_
  refine sL (I7 rfl rfl (P2 (by repeat (first | exact hm1 | apply List.Mem.tail)) rfl)) rfl rfl ?_
  refine sQ (A4O rfl rfl rfl) rfl ?_
  refine J2 ?_
  refine sQ (K6 rfl) rfl ?_
  refine D8 ?_
  refine sL (I7 rfl rfl (P2 (by repeat (first | exact hm1 | apply List.Mem.tail)) rfl)) rfl rfl ?_
  refine D8 ?_
  refine sP (K0 rfl rfl zR0 zR0) rfl rfl ?_
  (obtain ⟨h11, h12, h13⟩ := h1 zR0; refine R0 [_] rfl (ihp x bx (d - 1) (deep + 1) _ hx hrx zR0 zR0) rfl rfl rfl (fun v G2 outs hle2 hh => ?_); obtain ⟨rfl, ca, ua, rfl, hra, hua⟩ := hh; simp only [List.cons_append, List.nil_append]; obtain ⟨pa3, ca3, ea3, rfl, _⟩ := hra.open; rcases hsa : S9 (d - 1) p with _ | ta)
  refine C1 ?_
  refine sE (A6 rfl) rfl (fun b77 => ?_)
  refine Z0 ?_
  refine X4 (outs := H5 M E) (rC rfl (A3 rfl rfl)) (rT rfl) zE0 ?_
  (exact A1u.no (h11 hsa) (L9 _ ⟨by omega, by omega⟩))
  refine C1 ?_
  refine sE (A6 rfl) rfl (fun b104 => ?_)
  refine V0 ?_
  refine sQ (K6 rfl) rfl ?_
  refine D8 ?_
  refine sL (I7 rfl rfl (P2 (by repeat (first | exact hm1 | apply List.Mem.tail)) rfl)) rfl rfl ?_
  refine D8 ?_
  refine sP (K0 rfl rfl zR0 zR0) rfl rfl ?_
  (refine R0 [_, _] rfl (ihq y bz (d - 1) (deep + 1) _ hy hry zR0 zR0) rfl rfl rfl (fun v G3 outs hle3 hh => ?_); obtain ⟨rfl, cb, ub, rfl, hrb, hub⟩ := hh; simp only [List.cons_append, List.nil_append]; obtain ⟨pb3, cb3, eb3, rfl, _⟩ := hrb.open; rcases hsb : S9 (d - 1) q with _ | tb)
  refine C1 ?_
  refine sE (A6 rfl) rfl (fun b131 => ?_)
  refine A8 ?_
  refine D3 D4 rfl ?_
  refine J4 (i := 0) (l' := [tt,ff,ff,ff,ff,ff,ff,ff,ff,ff]) rfl C8 (qM rfl) rfl zP0 rfl rfl ?_
  refine aP 1 rfl (K6 rfl) rfl ?_
  refine aP 2 rfl (C3 rfl) rfl ?_
  refine aL 3 rfl (I7 rfl rfl (P2 (by repeat (first | exact hm1 | apply List.Mem.tail)) rfl)) rfl ?_
  refine aL 4 rfl (A3 rfl rfl) rfl ?_
  refine aL 5 rfl (A3 rfl rfl) rfl ?_
  refine aP 7 rfl (qM rfl) rfl ?_
  refine A2 6 ?_
  (refine H1 rfl rfl (A2m K ua ub _ _ _ hk0.2 (hra.mono hle3) hrb) rfl rfl rfl (fun v G4 hle4 hh => ?_); obtain ⟨cab, rfl, hrab⟩ := hh; obtain ⟨pc3, cc3, ec3, rfl, _⟩ := hrab.open)
  refine A2 8 ?_
  refine C9 rfl ?_
  refine aP 9 rfl (qA rfl) rfl ?_
  refine C1 ?_
  refine X4 (outs := H5 M E) (rC rfl (A3 rfl rfl)) (rT rfl) zE0 ?_
  (exact A1u.no (h12 _ hsa hsb) hrab)
  refine C1 ?_
  refine sE (A6 rfl) rfl (fun b158 => ?_)
  refine A8 ?_
  refine D3 D4 rfl ?_
  refine J4 (i := 0) (l' := [tt,ff,ff,ff,ff,ff,ff,ff,ff,ff]) rfl C8 (qM rfl) rfl zP0 rfl rfl ?_
  refine aP 1 rfl (K6 rfl) rfl ?_
  refine aP 2 rfl (C3 rfl) rfl ?_
  refine aL 3 rfl (I7 rfl rfl (P2 (by repeat (first | exact hm1 | apply List.Mem.tail)) rfl)) rfl ?_
  refine aL 4 rfl (A3 rfl rfl) rfl ?_
  refine aL 5 rfl (A3 rfl rfl) rfl ?_
  refine aP 7 rfl (qM rfl) rfl ?_
  refine A2 6 ?_
  (refine H1 rfl rfl (A2m K ua ub _ _ _ hk0.2 (hra.mono hle3) hrb) rfl rfl rfl (fun v G4 hle4 hh => ?_); obtain ⟨cab, rfl, hrab⟩ := hh; obtain ⟨pc3, cc3, ec3, rfl, _⟩ := hrab.open)
  refine A2 8 ?_
  refine C9 rfl ?_
  refine aP 9 rfl (qA rfl) rfl ?_
  refine C1 ?_
  refine X4 (outs := H5 M E) (rC rfl (A3 rfl rfl)) (rT rfl) zE0 ?_
  (rw [hua _ hsa, hub _ hsb] at hrab; exact A1u.yes (h13 _ _ hsa hsb) hrab)
def B8o (S : IS) (s : SV) : IM → Value → List A7 → Prop := N8 fun G' v => ∃ sc tc, v = .tuple ⟨[.agg ⟨sc⟩, .agg ⟨tc⟩]⟩ ∧ R2 G' S sc ∧ Q6 G' s tc
theorem R2.add {G : IM} {S : IS} {pb pl : Option Addr} {cb cl : Nat} {eb el : List (List Value)} {e : List Value} (hB : S.B S.c = none) (hsb : Sl G pb (S.c + 1) cb 3 (eb.flatten ++ e)) (hrb : P9 G (bnd S.B S.c) eb) (he : Q6 G (.v S.c) e) (hsl : D7 G pl S.L.length cl 3 el) (hrl : P9 G S.L el) :
  R2 G ⟨S.B, S.c + 1, S.L⟩ [.slice pb (S.c + 1) cb, .slice pl S.L.length cl] := by
 have h := hrb.snoc he
 rw [← B8k hB] at h
 have hl := h.len
 rw [A3N] at hl
 exact ⟨pb, cb, eb ++ [e], pl, cl, el, rfl, D7.of (by simpa using hsb) hl (fun x hx => (h.each x hx).1) (fun x hx => (h.each x hx).2), h, hsl, hrl⟩
theorem A5p (S : IS) (hB : S.B S.c = none) (hc : S.c ≤ 1000000) (G : IM) (sc : List Value) (hs : R2 G S sc) :
  Fn Tryz.prog 52 [.agg ⟨sc⟩] [] G (B8o ⟨S.B, S.c + 1, S.L⟩ (.v S.c)) := by
 obtain ⟨pb, cb, eb, pl, cl, el, rfl, hsb, hrb, hsl, hrl⟩ := hs
 refine C0 Tryz.func52 rfl Tryz.ntmps52 Tryz.results52 rfl ?_
 intro w0
 refine A4 ?_
 refine sE (B6 rfl rfl) rfl (fun b3 => ?_)
 refine sE (A6 rfl) rfl (fun b4 => ?_)
 refine sE (A6 rfl) rfl (fun b5 => ?_)
 refine E1 ?_
 refine sE (A6 rfl) rfl (fun b14 => ?_)
 refine B5 ?_
 refine D3 D4 rfl ?_
 refine J4 (i := 1) (l' := [ff,tt,ff,ff,ff,ff,ff,ff,ff]) rfl C8 (C3 rfl) rfl zP0 rfl rfl ?_
 refine aL 2 rfl (F0 rfl rfl) rfl ?_
 refine aL 4 rfl (A3 rfl rfl) rfl ?_
 refine P6 (j := 0) (j' := 5) zP0 ?_ ?_
 (refine D2 rfl (D1 rfl rfl rfl zR0 zL0 rfl) rfl rfl ?_; rintro _ ⟨b24, rfl⟩)
 refine P6 (j := 3) (j' := 5) zP0 ?_ ?_
 (refine Z3 rfl rfl rfl rfl rfl rfl (fun _ _ => by repeat (first | exact Sw.here | apply Sw.there)) hsb.sl hrb.ones (Nat.zero_le _) zL0 zR0 rfl rfl zC (fun p4 c4 => ?_); simp only [Nat.zero_add, List.nil_append])
 refine A2 5 ?_
 (refine D2 rfl (D1 rfl rfl rfl zR0 zL0 rfl) rfl rfl ?_; rintro _ ⟨b28, rfl⟩)
 exact y124
 (refine D2 rfl (D1 rfl rfl rfl zR0 zL0 rfl) rfl rfl ?_; rintro _ ⟨b50, rfl⟩)
 refine A2 3 ?_
 (refine Z3 rfl rfl rfl rfl rfl rfl (fun _ _ => by repeat (first | exact Sw.here | apply Sw.there)) hsb.sl hrb.ones (Nat.zero_le _) zL0 zR0 rfl rfl zC (fun p4 c4 => ?_); simp only [Nat.zero_add, List.nil_append])
 exact y124
 (refine D2 rfl (D1 rfl rfl rfl zR0 zL0 rfl) rfl rfl ?_; rintro _ ⟨b74, rfl⟩)
 refine A2 0 ?_
 (refine D2 rfl (D1 rfl rfl rfl zR0 zL0 rfl) rfl rfl ?_; rintro _ ⟨b76, rfl⟩)
 refine A2 3 ?_
 (refine Z3 rfl rfl rfl rfl rfl rfl (fun _ _ => by repeat (first | exact Sw.here | apply Sw.there)) hsb.sl hrb.ones (Nat.zero_le _) zL0 zR0 rfl rfl zC (fun p4 c4 => ?_); simp only [Nat.zero_add, List.nil_append])
 exact y124
theorem A0G (k : Int) (G : IM) : Fn Tryz.prog 85 [.int .i64 k] [] G (K7 (.agg ⟨[.int .i64 k, .int .i64 0, .slice none 0 0]⟩) G) := by
 refine C0 Tryz.func85 rfl Tryz.ntmps85 Tryz.results85 rfl ?_
 intro w0
 refine A4 ?_
 refine sE (A6 rfl) rfl (fun b3 => ?_)
 refine J2 ?_
 refine P5 (rC rfl (A3 rfl rfl)) ?_
 (exact ⟨rfl, rfl, rfl⟩)
theorem A6A (c : Bool) (x y : SV) (G : IM) (cx cy : List Value) (hx : Q6 G x cx) (hy : Q6 G y cy) :
  Fn Tryz.prog 53 [.int .i64 (if c = true then 5 else 4), .agg ⟨cx⟩, .agg ⟨cy⟩] [] G (LtP (.t c x y)) := by
 obtain ⟨K1, N1, p1, n1, c1, rfl, _⟩ := hx.kn
 obtain ⟨K2, N2, p2, n2, c2, rfl, _⟩ := hy.kn
 obtain ⟨K, hK⟩ : ∃ K : Int, (if c = true then 5 else 4) = K := ⟨_, rfl⟩
 rw [hK]
 refine C0 Tryz.func53 rfl Tryz.ntmps53 Tryz.results53 rfl ?_
 intro w0
 refine A4 ?_
 refine sE (B6 rfl rfl) rfl (fun b3 => ?_)
 refine sE (B6 rfl rfl) rfl (fun b4 => ?_)
 refine sE (A6 rfl) rfl (fun b5 => ?_)
 refine B0 ?_
 (refine J8 (D1 rfl rfl rfl zR0 zL0 rfl) rfl ?_; rintro _ ⟨b13, rfl⟩)
 refine B5 ?_
 (refine J6 (cs := [.int .i64 K1, .int .i64 N1, .slice p1 n1 c1, .int .i64 K2, .int .i64 N2, .slice p2 n2 c2]) zD0 (fun G5 hle5 hsl5 hno5 => ?_))
 refine tT ?_
 refine P5 (rC rfl (A3 rfl rfl)) ?_
 (rw [← hK]; exact ⟨rfl, _, rfl, _, _, _, _, rfl, hsl5, rfl, hx.mono hle5, hy.mono hle5⟩)
def A05 (r : Option Ty) : IM → Value → List A7 → Prop := N8 fun G' v => ∃ cells u, v = .tuple ⟨[.agg ⟨cells⟩, .bool r.isSome]⟩ ∧ C7 G' u cells ∧ ∀ x, r = some x → u = x
theorem A05.no {r : Option Ty} {G' : IM} {cells : List Value} {u : Ty} (h : r = none) (hu : C7 G' u cells) : A05 r G' (.tuple ⟨[.agg ⟨cells⟩, .bool false]⟩) [] := by
 subst h
 exact ⟨rfl, cells, u, rfl, hu, fun x hx => by cases hx⟩
theorem A05.yes {r : Option Ty} {G' : IM} {cells : List Value} {u : Ty} (h : r = some u) (hu : C7 G' u cells) : A05 r G' (.tuple ⟨[.agg ⟨cells⟩, .bool true]⟩) [] := by
 subst h
 exact ⟨rfl, cells, u, rfl, hu, fun x hx => by cases hx; rfl⟩
theorem B2p (S : IS) (hW : WB S.B S.c) (sc : List Value) : ∀ (r t : SV) (d : Nat) (G : IM) (tc : List Value), d ≤ 4 → Q9 S.B t r → t.lt S.c → R2 G S sc → Q6 G t tc →
  Fn Tryz.prog 23 [.agg ⟨sc⟩, .agg ⟨tc⟩, .int .i64 (d : Int)] [] G (A05 (S9 d r)) := by
 intro r
 induction r with
 | v m =>
  intro t d G tc hd4 hd ht hs hr
  obtain ⟨h, hh, rfl, hB⟩ := hd.hd
  have hF := Y9 S hW t _ G sc tc hh ht hs hr
  obtain ⟨pb, cb, eb, pl, cl, el, rfl, _⟩ := hs
  have hl3 := hr.len
  have h0 := fun h => A4q (t := .v m) (d := d) (deep := 5 - d) zR0 h
  have h1 := fun h => B2m (n := m) (d := d) (deep := 5 - d) zR0 h
  refine C0 Tryz.func23 rfl Tryz.ntmps23 Tryz.results23 rfl ?_
  intro w0
  refine A4 ?_
  refine sE (B6 rfl rfl) rfl (fun b3 => ?_)
  refine sE (B6 rfl rfl) rfl (fun b4 => ?_)
  refine sE (A6 rfl) rfl (fun b5 => ?_)
  refine A9 ?_
  refine sL (A5 rfl rfl (B3 zI0) hl3) rfl rfl ?_
  (refine F4 rfl hF rfl rfl (fun v G1 hle1 hh => ?_); obtain ⟨hc, rfl, hrh⟩ := hh; obtain rfl := (show _ = _ from hrh))
  refine Q1 rfl rfl rfl rfl rfl rfl zF0 (by exact C6 (by rw [hl3]; rfl)) ?_
  refine A9 ?_
  refine sB (N5 rfl rfl) rfl rfl (fun h21 => ?_) (fun h21 => ?_)
  refine O3 ?_
  refine H3 (rC rfl (A3 rfl rfl)) (rT rfl) ?_
  (exact A05.no (h0 zR0) (L9 _ ⟨by omega, by omega⟩))
  refine J2 ?_
  refine sP (O1 rfl rfl zR0) rfl rfl ?_
  refine A8 ?_
  refine H4 rfl (A1I _) rfl rfl ?_
  refine A9 ?_
  refine H3 (rC rfl (A3 rfl rfl)) (rT rfl) ?_
  (exact A05.yes (h1 zR0) (L9 _ ⟨by omega, by omega⟩))
 | b c =>
  intro t d G tc hd4 hd ht hs hr
  obtain ⟨h, hh, rfl⟩ := hd.hd
  have hF := Y9 S hW t _ G sc tc hh ht hs hr
  obtain ⟨pb, cb, eb, pl, cl, el, rfl, _⟩ := hs
  have hl3 := hr.len
  obtain ⟨K, hK⟩ : ∃ K : Int, (if c = true then 3 else 2) = K := ⟨_, rfl⟩
  have hk0 : K ≠ 0 ∧ H6 K := by rw [← hK]; cases c <;> (refine ⟨by decide, by decide, by decide⟩)
  have hkd : (SV.b c).kd = K := hK
  have h0 := fun h => A4q (t := .b c) (d := d) (deep := 5 - d) zR0 h
  have h1 := fun h => B2n (c := c) (d := d) (deep := 5 - d) zR0 h
  rw [hK] at h1
  refine C0 Tryz.func23 rfl Tryz.ntmps23 Tryz.results23 rfl ?_
  intro w0
  refine A4 ?_
  refine sE (B6 rfl rfl) rfl (fun b3 => ?_)
  refine sE (B6 rfl rfl) rfl (fun b4 => ?_)
  refine sE (A6 rfl) rfl (fun b5 => ?_)
  refine A9 ?_
  refine sL (A5 rfl rfl (B3 zI0) hl3) rfl rfl ?_
  (refine F4 rfl hF rfl rfl (fun v G1 hle1 hh => ?_); obtain ⟨hc, rfl, hrh⟩ := hh; obtain rfl := (show _ = _ from hrh); rw [hkd])
  refine Q1 rfl rfl rfl rfl rfl rfl zF0 (by exact C6 (by rw [hl3]; rfl)) ?_
  refine A9 ?_
  refine sB (N5 rfl rfl) rfl rfl (fun h21 => ?_) (fun h21 => ?_)
  ·refine O3 ?_
   refine H3 (rC rfl (A3 rfl rfl)) (rT rfl) ?_
   (exact A05.no (h0 zR0) (L9 _ ⟨by omega, by omega⟩))
  ·refine J2 ?_
   refine sP (D0 rfl rfl zR0) rfl rfl ?_
   refine J2 ?_
   refine sE (A6 rfl) rfl (fun b57 => ?_)
   refine E7 ?_
   refine C2 ?_
   refine L8 (fun (_ : Unit) => ⟨[(9, .int .i64 0), (8, .pointer (some ⟨b57, 0, none⟩)), (6, .pointer (some ⟨b5, 0, none⟩)), (4, .pointer (some ⟨b4, 0, none⟩))], [.blk b57 [.int .i64 K, .slice none 0 0], .blk b5 [.int .i64 0, .slice none 0 0], .blk b4 [.int .i64 K, .int .i64 0, .slice none 0 0]], G1⟩) (fun _ => True) (fun _ => 0) () ?_ ?_ ?_
   ·exact F8
   ·trivial
   ·(rintro _ _)
    refine B0 ?_
    refine sP (A1U rfl rfl zR0) rfl rfl ?_
    refine N3 ?_
    refine H3 (rC rfl (A3 rfl rfl)) (rT rfl) ?_
    (exact A05.yes (h1 zR0) (L9 _ hk0.2))
 | t c p q ihp ihq =>
  intro t d G tc hd4 hd ht hs hr
  obtain ⟨h, hh, x, y, rfl, hx, hy⟩ := hd.hd
  have hF := Y9 S hW t _ G sc tc hh ht hs hr
  have hlt := hh.lt hW ht
  have hs0 := hs
  obtain ⟨pb, cb, eb, pl, cl, el, rfl, _⟩ := hs
  have hl3 := hr.len
  obtain ⟨K, hK⟩ : ∃ K : Int, (if c = true then 5 else 4) = K := ⟨_, rfl⟩
  have hk0 : K ≠ 0 ∧ H6 K := by rw [← hK]; cases c <;> (refine ⟨by decide, by decide, by decide⟩)
  have h0 := fun h => A4q (t := .t c p q) (d := d) (deep := 5 - d) zR0 h
  have h1 := fun h => B2o (c := c) (x := p) (y := q) (d := d) (deep := 5 - d) zR0 h
  rw [hK] at h1
  obtain ⟨r1, hr1⟩ : ∃ o, S9 (d - 1) p = o := ⟨_, rfl⟩
  obtain ⟨r2, hr2⟩ : ∃ o, S9 (d - 1) q = o := ⟨_, rfl⟩
  refine C0 Tryz.func23 rfl Tryz.ntmps23 Tryz.results23 rfl ?_
  intro w0
  refine A4 ?_
  refine sE (B6 rfl rfl) rfl (fun b3 => ?_)
  refine sE (B6 rfl rfl) rfl (fun b4 => ?_)
  refine sE (A6 rfl) rfl (fun b5 => ?_)
  refine A9 ?_
  refine sL (A5 rfl rfl (B3 zI0) hl3) rfl rfl ?_
  (refine F4 rfl hF rfl rfl (fun v G1 hle1 hh => ?_); obtain ⟨hc, rfl, hrh⟩ := hh; obtain ⟨bb, bo, bc, ex, ez, rfl, hlx, hlz, hatx, hatz, hrx, hrz, hgb⟩ := hrh.two; rw [hK]; have hs1 := hs0.mono hle1)
  refine Q1 rfl rfl rfl rfl rfl rfl zF0 (by exact C6 (by rw [hl3]; rfl)) ?_
  refine A9 ?_
  refine sB (N5 rfl rfl) rfl rfl (fun h21 => ?_) (fun h21 => ?_)
  refine O3 ?_
  refine H3 (rC rfl (A3 rfl rfl)) (rT rfl) ?_
  (exact A05.no (h0 zR0) (L9 _ ⟨by omega, by omega⟩))
  refine J2 ?_
  refine sP (D0 rfl rfl zR0) rfl rfl ?_
  refine J2 ?_
  refine sE (A6 rfl) rfl (fun b57 => ?_)
  refine E7 ?_
  refine C2 ?_
  (obtain ⟨h11, h12, h13⟩ := h1 zR0; refine X1 25 2 ?_; refine L8 (fun (x : Nat × Option Addr × Nat × List Ty × List (List Value) × IM) => ⟨[(9, .int .i64 (x.1 : Int)), (8, .pointer (some ⟨b57, 0, none⟩)), (7, .bool false), (6, .pointer (some ⟨b5, 0, none⟩)), (4, .pointer (some ⟨b4, 0, none⟩)), (3, .pointer (some ⟨b3, 0, none⟩)), (2, .int .i64 (d : Int))], [.slc x.2.1 x.2.2.1 25 2 x.2.2.2.1.length x.2.2.2.2.1.flatten, .blk b57 [.int .i64 K, .slice x.2.1 x.2.2.2.1.length x.2.2.1], .blk b5 [.int .i64 0, .slice none 0 0], .blk b4 [.int .i64 K, .int .i64 0, .slice (some ⟨bb, bo, none⟩) 2 bc], .blk b3 [.slice pb S.c cb, .slice pl S.L.length cl]], x.2.2.2.2.2⟩) (fun x => B9 G1 x.2.2.2.2.2 ∧ D9 x.2.2.2.2.2 x.2.2.2.1 x.2.2.2.2.1 ∧ x.2.2.2.1.length = x.1 ∧ ((x.1 = 0 ∧ x.2.2.2.1 = []) ∨ (x.1 = 1 ∧ ∃ a, r1 = some a ∧ x.2.2.2.1 = [a]) ∨ (x.1 = 2 ∧ ∃ a b, r1 = some a ∧ r2 = some b ∧ x.2.2.2.1 = [a, b]))) (fun x => 2 - x.1) (0, none, 0, [], [], G1) ?_ ?_ ?_)
  (simp only [I9]; exact F8)
  (exact ⟨B9.refl _, by simp [D9], rfl, .inl ⟨rfl, rfl⟩⟩)
  (rintro ⟨(i : Nat), pn, cn, us, es, Gi⟩ ⟨hle, hus, hul, hor⟩; simp only [] at hle hus hul hor ⊢; have h1i := ihp x (d - 1) Gi ex zR0 hx (fun m hm => hlt m (.inl hm)) (hs1.mono hle) (hrx.mono hle); have h2i := ihq y (d - 1) Gi ez zR0 hy (fun m hm => hlt m (.inr hm)) (hs1.mono hle) (hrz.mono hle); rw [hr1] at h1i; rw [hr2] at h2i; rw [show ((d - 1 : Nat) : Int) = (d : Int) - 1 from by omega] at h1i h2i; have hatxi := At.im hle hgb hatx; have hatzi := At.im hle hgb hatz; rcases hor with ⟨rfl, rfl⟩ | ⟨rfl, a1, hra, rfl⟩ | ⟨rfl, a1, b1, hra, hrb, rfl⟩)
  refine B0 ?_
  refine sP (A2a rfl rfl zR0) rfl rfl ?_
  refine A9 ?_
  refine C2 ?_
  refine tS ?_
  refine D3 D4 rfl ?_
  refine J3 (i := 0) (l' := [tt,ff,ff,ff,ff,ff,ff,ff,ff,ff,ff,ff,ff,ff,ff]) rfl C8 (A3 rfl rfl) rfl zP0 rfl rfl ?_
  refine aP 1 rfl (C3 rfl) rfl ?_
  refine aL 2 rfl (F0 rfl rfl) rfl ?_
  refine aP 3 rfl (qM rfl) rfl ?_
  refine aP 4 rfl (B8 (j := 0) rfl rfl rfl zR0) rfl ?_
  refine aL 5 rfl (A5 rfl rfl (hatxi _) hlx) rfl ?_
  refine aP 6 rfl (qM rfl) rfl ?_
  refine aP 7 rfl (Q7 rfl rfl zR0 zR0) rfl ?_
  refine P6 (j := 8) (j' := 12) zP0 ?_ ?_
  (refine H1 rfl rfl h1i rfl rfl rfl (fun v G2 hle2 hh => ?_); obtain ⟨cu, u, rfl, hru, hu⟩ := hh; obtain ⟨pu, ku, eu, rfl, _⟩ := hru.open; rcases r1 with _ | a)
  refine aP 9 rfl (qM rfl) rfl ?_
  refine aP 10 rfl (pX rfl rfl) rfl ?_
  refine aP 11 rfl (pX rfl rfl) rfl ?_
  refine A2 12 ?_
  (refine D2 rfl (A6 rfl) rfl rfl ?_; rintro _ ⟨b103, rfl⟩)
  refine A2 13 ?_
  refine C9 rfl ?_
  refine aP 14 rfl (qA rfl) rfl ?_
  refine A2e ?_
  refine H3 (rC rfl (A3 rfl rfl)) (rT rfl) ?_
  (exact A05.no (h11 hr1) (L9 _ ⟨by omega, by omega⟩))
  refine aP 9 rfl (qM rfl) rfl ?_
  refine aP 10 rfl (pX rfl rfl) rfl ?_
  refine aP 11 rfl (pX rfl rfl) rfl ?_
  refine A2 12 ?_
  (refine D2 rfl (A6 rfl) rfl rfl ?_; rintro _ ⟨b137, rfl⟩)
  refine A2 13 ?_
  refine C9 rfl ?_
  refine aP 14 rfl (qA rfl) rfl ?_
  refine N3 ?_
  (refine J8 (D1 rfl rfl rfl zR0 zL0 rfl) rfl ?_; rintro _ ⟨b157, rfl⟩)
  (refine Y0 rfl rfl rfl rfl rfl (fun _ _ => by repeat (first | exact Sw.here | apply Sw.there)) (K4 zI0) rfl zK0 (by unfold maxLen; simp) zS0 rfl (fun pn' cn' => ?_))
  refine B0 ?_
  refine sP (K0 rfl rfl zR0 zR0) rfl rfl ?_
  refine A4 ?_
  (have hua := hu _ rfl; refine J7 (1, pn', cn', [u], es ++ [[.int .i64 u.k, .slice pu u.ks.length ku]], G2) zM ?_ ?_)
  (exact ⟨hle.trans hle2, by simpa using (hus.mono hle2).snoc hru, rfl, .inr (.inl ⟨rfl, _, by rw [hua], rfl⟩)⟩)
  (show 2 - 1 < 2 - 0; omega)
  (refine D2 rfl (A6 rfl) rfl rfl ?_; rintro _ ⟨b172, rfl⟩)
  refine A2 8 ?_
  (refine H1 rfl rfl h1i rfl rfl rfl (fun v G2 hle2 hh => ?_); obtain ⟨cu, u, rfl, hru, hu⟩ := hh; obtain ⟨pu, ku, eu, rfl, _⟩ := hru.open; rcases r1 with _ | a)
  refine aP 9 rfl (qM rfl) rfl ?_
  refine aP 10 rfl (pX rfl rfl) rfl ?_
  refine aP 11 rfl (pX rfl rfl) rfl ?_
  refine A2 13 ?_
  refine C9 rfl ?_
  refine aP 14 rfl (qA rfl) rfl ?_
  refine A2e ?_
  refine H3 (rC rfl (A3 rfl rfl)) (rT rfl) ?_
  (exact A05.no (h11 hr1) (L9 _ ⟨by omega, by omega⟩))
  refine aP 9 rfl (qM rfl) rfl ?_
  refine aP 10 rfl (pX rfl rfl) rfl ?_
  refine aP 11 rfl (pX rfl rfl) rfl ?_
  refine A2 13 ?_
  refine C9 rfl ?_
  refine aP 14 rfl (qA rfl) rfl ?_
  refine N3 ?_
  (refine J8 (D1 rfl rfl rfl zR0 zL0 rfl) rfl ?_; rintro _ ⟨b229, rfl⟩)
  (refine Y0 rfl rfl rfl rfl rfl (fun _ _ => by repeat (first | exact Sw.here | apply Sw.there)) (K4 zI0) rfl zK0 (by unfold maxLen; simp) zS0 rfl (fun pn' cn' => ?_))
  refine B0 ?_
  refine sP (K0 rfl rfl zR0 zR0) rfl rfl ?_
  refine A4 ?_
  (have hua := hu _ rfl; refine J7 (1, pn', cn', [u], es ++ [[.int .i64 u.k, .slice pu u.ks.length ku]], G2) zM ?_ ?_)
  (exact ⟨hle.trans hle2, by simpa using (hus.mono hle2).snoc hru, rfl, .inr (.inl ⟨rfl, _, by rw [hua], rfl⟩)⟩)
  (show 2 - 1 < 2 - 0; omega)
  refine B0 ?_
  refine sP (A2a rfl rfl zR0) rfl rfl ?_
  refine A9 ?_
  refine C2 ?_
  refine tS ?_
  refine D3 D4 rfl ?_
  refine J3 (i := 0) (l' := [tt,ff,ff,ff,ff,ff,ff,ff,ff,ff,ff,ff,ff,ff,ff]) rfl C8 (A3 rfl rfl) rfl zP0 rfl rfl ?_
  refine aP 1 rfl (C3 rfl) rfl ?_
  refine aL 2 rfl (F0 rfl rfl) rfl ?_
  refine aP 3 rfl (qM rfl) rfl ?_
  refine aP 4 rfl (B8 (j := 1) rfl rfl rfl zR0) rfl ?_
  refine aL 5 rfl (A5 rfl rfl (hatzi _) hlz) rfl ?_
  refine aP 6 rfl (qM rfl) rfl ?_
  refine aP 7 rfl (Q7 rfl rfl zR0 zR0) rfl ?_
  refine P6 (j := 8) (j' := 12) zP0 ?_ ?_
  (refine H1 rfl rfl h2i rfl rfl rfl (fun v G2 hle2 hh => ?_); obtain ⟨cu, u, rfl, hru, hu⟩ := hh; obtain ⟨pu, ku, eu, rfl, _⟩ := hru.open; rcases r2 with _ | b)
  refine aP 9 rfl (qM rfl) rfl ?_
  refine aP 10 rfl (pX rfl rfl) rfl ?_
  refine aP 11 rfl (pX rfl rfl) rfl ?_
  refine A2 12 ?_
  (refine D2 rfl (A6 rfl) rfl rfl ?_; rintro _ ⟨b275, rfl⟩)
  refine A2 13 ?_
  refine C9 rfl ?_
  refine aP 14 rfl (qA rfl) rfl ?_
  refine A2e ?_
  refine H3 (rC rfl (A3 rfl rfl)) (rT rfl) ?_
  (exact A05.no (h12 _ (hr1.trans hra) hr2) (L9 _ ⟨by omega, by omega⟩))
  refine aP 9 rfl (qM rfl) rfl ?_
  refine aP 10 rfl (pX rfl rfl) rfl ?_
  refine aP 11 rfl (pX rfl rfl) rfl ?_
  refine A2 12 ?_
  (refine D2 rfl (A6 rfl) rfl rfl ?_; rintro _ ⟨b309, rfl⟩)
  refine A2 13 ?_
  refine C9 rfl ?_
  refine aP 14 rfl (qA rfl) rfl ?_
  refine N3 ?_
  (refine J8 (D1 rfl rfl rfl zR0 zL0 rfl) rfl ?_; rintro _ ⟨b329, rfl⟩)
  (refine Y0 rfl rfl rfl rfl rfl (fun _ _ => by repeat (first | exact Sw.here | apply Sw.there)) (K4 zI0) rfl zK0 (by unfold maxLen; simp) zS0 rfl (fun pn' cn' => ?_))
  refine B0 ?_
  refine sP (K0 rfl rfl zR0 zR0) rfl rfl ?_
  refine A4 ?_
  (have hub := hu _ rfl; refine J7 (2, pn', cn', [a1, u], es ++ [[.int .i64 u.k, .slice pu u.ks.length ku]], G2) zM ?_ ?_)
  (exact ⟨hle.trans hle2, by simpa using (hus.mono hle2).snoc hru, rfl, .inr (.inr ⟨rfl, _, _, hra, by rw [hub], rfl⟩)⟩)
  (show 2 - 2 < 2 - 1; omega)
  (refine D2 rfl (A6 rfl) rfl rfl ?_; rintro _ ⟨b344, rfl⟩)
  refine A2 8 ?_
  (refine H1 rfl rfl h2i rfl rfl rfl (fun v G2 hle2 hh => ?_); obtain ⟨cu, u, rfl, hru, hu⟩ := hh; obtain ⟨pu, ku, eu, rfl, _⟩ := hru.open; rcases r2 with _ | b)
  refine aP 9 rfl (qM rfl) rfl ?_
  refine aP 10 rfl (pX rfl rfl) rfl ?_
  refine aP 11 rfl (pX rfl rfl) rfl ?_
  refine A2 13 ?_
  refine C9 rfl ?_
  refine aP 14 rfl (qA rfl) rfl ?_
  refine A2e ?_
  refine H3 (rC rfl (A3 rfl rfl)) (rT rfl) ?_
  (exact A05.no (h12 _ (hr1.trans hra) hr2) (L9 _ ⟨by omega, by omega⟩))
  refine aP 9 rfl (qM rfl) rfl ?_
  refine aP 10 rfl (pX rfl rfl) rfl ?_
  refine aP 11 rfl (pX rfl rfl) rfl ?_
  refine A2 13 ?_
  refine C9 rfl ?_
  refine aP 14 rfl (qA rfl) rfl ?_
  refine N3 ?_
  (refine J8 (D1 rfl rfl rfl zR0 zL0 rfl) rfl ?_; rintro _ ⟨b401, rfl⟩)
  (refine Y0 rfl rfl rfl rfl rfl (fun _ _ => by repeat (first | exact Sw.here | apply Sw.there)) (K4 zI0) rfl zK0 (by unfold maxLen; simp) zS0 rfl (fun pn' cn' => ?_))
  refine B0 ?_
  refine sP (K0 rfl rfl zR0 zR0) rfl rfl ?_
  refine A4 ?_
  (have hub := hu _ rfl; refine J7 (2, pn', cn', [a1, u], es ++ [[.int .i64 u.k, .slice pu u.ks.length ku]], G2) zM ?_ ?_)
  (exact ⟨hle.trans hle2, by simpa using (hus.mono hle2).snoc hru, rfl, .inr (.inr ⟨rfl, _, _, hra, by rw [hub], rfl⟩)⟩)
  (show 2 - 2 < 2 - 1; omega)
  refine B0 ?_
  refine sP (A1U rfl rfl zR0) rfl rfl ?_
  refine J0 ?_
  (have hg2 : r1 = some a1 := hra; have hg3 : r2 = some b1 := hrb; refine J6 (cs := es.flatten) zD0 (fun G5 hle5 hsl5 hno5 => ?_))
  refine tT ?_
  refine H3 (rC rfl (A3 rfl rfl)) (rT rfl) ?_
  (exact A05.yes (h13 _ _ (hr1.trans hg2) (hr2.trans hg3)) ((hus.mono hle5).ty rfl hsl5 hk0.2))
def S4 (S : IS) (o : Option SV) : IM → Value → List A7 → Prop := N8 fun G' v => ∃ sc tc u, v = .tuple ⟨[.agg ⟨sc⟩, .agg ⟨tc⟩, .bool o.isSome]⟩ ∧ R2 G' S sc ∧ Q6 G' u tc ∧ ∀ s, o = some s → u = s
theorem S4.mk {S : IS} {o : Option SV} {G' : IM} {sc tc : List Value} {b : Bool} (u : SV) (hb : o.isSome = b) (hs : R2 G' S sc) (ht : Q6 G' u tc) (hu : ∀ s, o = some s → u = s) : S4 S o G' (.tuple ⟨[.agg ⟨sc⟩, .agg ⟨tc⟩, .bool b]⟩) [] := by
 subst hb
 exact ⟨rfl, sc, tc, u, rfl, hs, ht, hu⟩
theorem W4 {G G' : IM} {b : Nat} (h : B9 G G') (hb : G b ≠ none) : G' b ≠ none := fun hn => by
 cases hg : G b with
 | none => exact hb hg
 | some l => rw [h _ _ hg] at hn; cases hn
theorem A4r {α : Type} {ok : Bool} {x s : α} (h : (if ok = true then some x else none) = some s) : x = s := by
 split at h <;> cases h; rfl
theorem A4s {α : Type} {b : Bool} {x : α} : (if b = true then some x else none).isSome = b := by cases b <;> rfl
theorem B8p (S : IS) (hS : S.ok) (hc : S.c ≤ 999990) (G : IM) (sc : List Value) (nm : ByteArray) (num tk fk lb : Int) (pt pf q : Option Addr) (tn ct fn cf qn cq : Nat) (pk : Option Addr) (ck : Nat) (ek : List (List Value)) (hs : R2 G S sc) (hsk : D7 G pk 0 ck 3 ek) (hrk : P9 G [] ek) :
  Fn Tryz.prog 54 [.agg ⟨sc⟩, .agg ⟨[.int .i64 2, .string nm, .int .i64 num, .int .i64 tk, .slice pt tn ct, .int .i64 fk, .slice pf fn cf, .int .i64 lb, .slice q qn cq]⟩, .slice pk 0 ck] [] G (S4 S (some (.b false))) := by
 have hW := hS.wb
 have hs0 := hs
 obtain ⟨sp, sn, sk, sq, sm, sd, rfl⟩ := hs.two
 have hle0 := B9.refl G
 refine C0 Tryz.func54 rfl Tryz.ntmps54 Tryz.results54 rfl ?_
 intro w0
 refine A4 ?_
 refine sE (B6 rfl rfl) rfl (fun b3 => ?_)
 refine sE (B6 rfl rfl) rfl (fun b4 => ?_)
 refine sE (A6 rfl) rfl (fun b5 => ?_)
 refine sE (A6 rfl) rfl (fun b6 => ?_)
 refine A8 ?_
 refine H4 rfl (A0G _ _) rfl rfl ?_
 refine sE (A6 rfl) rfl (fun b13 => ?_)
 refine A8 ?_
 refine H4 rfl (A0G _ _) rfl rfl ?_
 refine sE (A6 rfl) rfl (fun b20 => ?_)
 refine X3 ?_
 refine C2 ?_
 refine A4 ?_
 refine sP (O1 rfl rfl zR0) rfl rfl ?_
 refine A8 ?_
 refine D3 D4 rfl ?_
 refine J3 (i := 0) (l' := [tt,ff,ff,ff,ff]) rfl C8 (A3 rfl rfl) rfl zP0 rfl rfl ?_
 refine aL 1 rfl (A3 rfl rfl) rfl ?_
 refine A2 2 ?_
 refine C9 rfl ?_
 refine A2 3 ?_
 refine C9 rfl ?_
 refine aP 4 rfl (qA rfl) rfl ?_
 refine A8 ?_
 refine E9 (rC rfl (A3 rfl rfl)) (rC rfl (A3 rfl rfl)) (rT rfl) ?_
 (exact S4.mk (.b false) rfl hs0 rfl (fun s h => by cases h; rfl))
theorem B8q (S : IS) (hS : S.ok) (hc : S.c ≤ 999990) (k : Int) (hk : k = 3 ∨ k = 4) (G : IM) (sc : List Value) (nm : ByteArray) (num tk fk lb : Int) (pt pf q : Option Addr) (tn ct fn cf qn cq : Nat) (pk : Option Addr) (ck : Nat) (ek : List (List Value)) (hs : R2 G S sc) (hsk : D7 G pk 0 ck 3 ek) (hrk : P9 G [] ek) :
  Fn Tryz.prog 54 [.agg ⟨sc⟩, .agg ⟨[.int .i64 k, .string nm, .int .i64 num, .int .i64 tk, .slice pt tn ct, .int .i64 fk, .slice pf fn cf, .int .i64 lb, .slice q qn cq]⟩, .slice pk 0 ck] [] G (S4 S (some (.b true))) := by
 have hW := hS.wb
 have hs0 := hs
 obtain ⟨sp, sn, sk, sq, sm, sd, rfl⟩ := hs.two
 have hle0 := B9.refl G
 refine C0 Tryz.func54 rfl Tryz.ntmps54 Tryz.results54 rfl ?_
 intro w0
 refine A4 ?_
 refine sE (B6 rfl rfl) rfl (fun b3 => ?_)
 refine sE (B6 rfl rfl) rfl (fun b4 => ?_)
 refine sE (A6 rfl) rfl (fun b5 => ?_)
 refine sE (A6 rfl) rfl (fun b6 => ?_)
 refine A8 ?_
 refine H4 rfl (A0G _ _) rfl rfl ?_
 refine sE (A6 rfl) rfl (fun b13 => ?_)
 refine A8 ?_
 refine H4 rfl (A0G _ _) rfl rfl ?_
 refine sE (A6 rfl) rfl (fun b20 => ?_)
 refine X3 ?_
 refine C2 ?_
 refine A4 ?_
 refine sP (D0 rfl rfl zR0) rfl rfl ?_
 refine B0 ?_
 refine sB (qE rfl rfl) rfl rfl (fun h52 => ?_) (fun h52 => ?_)
 refine E1 ?_
 exact y125
 refine A8 ?_
 refine sP (O1 rfl rfl zR0) rfl rfl ?_
 refine A8 ?_
 exact y125
theorem B8r (S : IS) (hS : S.ok) (hc : S.c ≤ 999990) (x y : SV) (G : IM) (sc : List Value) (nm : ByteArray) (num tk fk lb : Int) (pt pf q : Option Addr) (tn ct fn cf qn cq : Nat) (pk : Option Addr) (ck : Nat) (ek : List (List Value)) (hs : R2 G S sc) (hsk : D7 G pk 2 ck 3 ek) (hrk : P9 G [x, y] ek) :
  Fn Tryz.prog 54 [.agg ⟨sc⟩, .agg ⟨[.int .i64 10, .string nm, .int .i64 num, .int .i64 tk, .slice pt tn ct, .int .i64 fk, .slice pf fn cf, .int .i64 lb, .slice q qn cq]⟩, .slice pk 2 ck] [] G (S4 S (some (.t true x y))) := by
 have hW := hS.wb
 have hs0 := hs
 obtain ⟨sp, sn, sk, sq, sm, sd, rfl⟩ := hs.two
 obtain ⟨bH, oH, e0, rfl, hl0, hat0, hr0, hgb⟩ := hsk.lt hrk (i := 0) rfl zQ0
 have ho0 := hr0.one
 obtain ⟨_, _, e1, hp1, hl1, hat1, hr1, _⟩ := hsk.lt hrk (i := 1) rfl zQ0
 cases hp1
 have ho1 := hr1.one
 have hle0 := B9.refl G
 refine C0 Tryz.func54 rfl Tryz.ntmps54 Tryz.results54 rfl ?_
 intro w0
 refine A4 ?_
 refine sE (B6 rfl rfl) rfl (fun b3 => ?_)
 refine sE (B6 rfl rfl) rfl (fun b4 => ?_)
 refine sE (A6 rfl) rfl (fun b5 => ?_)
 refine sE (A6 rfl) rfl (fun b6 => ?_)
 refine A8 ?_
 refine H4 rfl (A0G _ _) rfl rfl ?_
 refine sE (A6 rfl) rfl (fun b13 => ?_)
 refine A8 ?_
 refine H4 rfl (A0G _ _) rfl rfl ?_
 refine sE (A6 rfl) rfl (fun b20 => ?_)
 refine X3 ?_
 refine C2 ?_
 refine A4 ?_
 refine sP (D0 rfl rfl zR0) rfl rfl ?_
 refine B0 ?_
 refine sP (D0 rfl rfl zR0) rfl rfl ?_
 refine A8 ?_
 refine sP (D0 rfl rfl zR0) rfl rfl ?_
 refine A9 ?_
 refine sP (O1 rfl rfl zR0) rfl rfl ?_
 refine A8 ?_
 refine D3 D4 rfl ?_
 refine J3 (i := 0) (l' := [tt,ff,ff,ff,ff,ff,ff,ff,ff,ff,ff]) rfl C8 (A3 rfl rfl) rfl zP0 rfl rfl ?_
 refine aP 1 rfl (qM rfl) rfl ?_
 refine aP 2 rfl (B8 (j := 0) rfl rfl rfl zQ0) rfl ?_
 refine aL 3 rfl (A5 rfl rfl (At.im hle0 hgb hat0 _) hl0) rfl ?_
 refine aP 4 rfl (qM rfl) rfl ?_
 refine aP 5 rfl (B8 (j := 1) rfl rfl rfl zQ0) rfl ?_
 refine aL 6 rfl (A5 rfl rfl (At.im hle0 hgb hat1 _) hl1) rfl ?_
 refine A2 7 ?_
 (refine H1 rfl rfl (A6A true x y G e0 e1 hr0 hr1) rfl rfl rfl (fun v G1 hle1 hh => ?_); obtain ⟨ct2, rfl, hrt⟩ := hh; have hlt := hrt.len; have hot := hrt.one)
 refine A2 8 ?_
 refine C9 rfl ?_
 refine A2 9 ?_
 refine P3 rfl rfl rfl rfl hlt hot rfl rfl zF0 (by exact C6 (by rw [hlt]; rfl)) zC ?_
 refine aP 10 rfl (qA rfl) rfl ?_
 refine A8 ?_
 refine E9 (rC rfl (A3 rfl rfl)) (rC rfl (A5 rfl rfl (B3 zI0) hlt)) (rT rfl) ?_
 (exact S4.mk _ rfl (hs0.mono hle1) hrt (fun s h => by cases h; rfl))
theorem B8s (S : IS) (hS : S.ok) (hc : S.c ≤ 999990) (k : Int) (hk : k = 7 ∨ k = 8) (x y : SV) (hx : x.lt S.c) (B1 : BV) (hu : Q4 S.B x (.b false) B1 false) (G : IM) (sc : List Value) (nm : ByteArray) (num tk fk lb : Int) (pt pf q : Option Addr) (tn ct fn cf qn cq : Nat) (pk : Option Addr) (ck : Nat) (ek : List (List Value)) (hs : R2 G S sc) (hsk : D7 G pk 2 ck 3 ek) (hrk : P9 G [x, y] ek) :
  Fn Tryz.prog 54 [.agg ⟨sc⟩, .agg ⟨[.int .i64 k, .string nm, .int .i64 num, .int .i64 tk, .slice pt tn ct, .int .i64 fk, .slice pf fn cf, .int .i64 lb, .slice q qn cq]⟩, .slice pk 2 ck] [] G (S4 ⟨B1, S.c, S.L⟩ none) := by
 have hW := hS.wb
 have hs0 := hs
 obtain ⟨sp, sn, sk, sq, sm, sd, rfl⟩ := hs.two
 obtain ⟨bH, oH, e0, rfl, hl0, hat0, hr0, hgb⟩ := hsk.lt hrk (i := 0) rfl zQ0
 have ho0 := hr0.one
 obtain ⟨_, _, e1, hp1, hl1, hat1, hr1, _⟩ := hsk.lt hrk (i := 1) rfl zQ0
 cases hp1
 have ho1 := hr1.one
 have hle0 := B9.refl G
 refine C0 Tryz.func54 rfl Tryz.ntmps54 Tryz.results54 rfl ?_
 intro w0
 refine A4 ?_
 refine sE (B6 rfl rfl) rfl (fun b3 => ?_)
 refine sE (B6 rfl rfl) rfl (fun b4 => ?_)
 refine sE (A6 rfl) rfl (fun b5 => ?_)
 refine sE (A6 rfl) rfl (fun b6 => ?_)
 refine A8 ?_
 refine H4 rfl (A0G _ _) rfl rfl ?_
 refine sE (A6 rfl) rfl (fun b13 => ?_)
 refine A8 ?_
 refine H4 rfl (A0G _ _) rfl rfl ?_
 refine sE (A6 rfl) rfl (fun b20 => ?_)
 refine X3 ?_
 refine C2 ?_
 refine A4 ?_
 refine sP (D0 rfl rfl zR0) rfl rfl ?_
 refine B0 ?_
 refine sP (D0 rfl rfl zR0) rfl rfl ?_
 refine A8 ?_
 refine sP (D0 rfl rfl zR0) rfl rfl ?_
 refine A9 ?_
 refine sP (D0 rfl rfl zR0) rfl rfl ?_
 refine B0 ?_
 refine sB (qE rfl rfl) rfl rfl (fun h73 => ?_) (fun h73 => ?_)
 refine E1 ?_
 refine D3 D4 rfl ?_
 refine J3 (i := 0) (l' := [tt,ff,ff,ff,ff,ff,ff,ff,ff,ff,ff]) rfl C8 (A3 rfl rfl) rfl zP0 rfl rfl ?_
 refine aP 1 rfl (qM rfl) rfl ?_
 refine aP 2 rfl (B8 (j := 0) rfl rfl rfl zQ0) rfl ?_
 refine aL 3 rfl (A5 rfl rfl (At.im hle0 hgb hat0 _) hl0) rfl ?_
 refine aL 4 rfl (A3 rfl rfl) rfl ?_
 refine A2 5 ?_
 (refine H1 rfl rfl (A18 hu S.c S.L G _ e0 _ hW zR0 hx (Y7 _ _) hs0 hr0 rfl) rfl rfl rfl (fun v G1 hle1 hh => ?_); obtain ⟨sc1, rfl, hs1⟩ := hh; have hs10 := hs1; obtain ⟨tp1, tn1, tk1, tq1, tm1, td1, rfl⟩ := hs1.two; replace hle0 := hle0.trans hle1; have hgbi := W4 hle0 hgb)
 refine aP 6 rfl (qM rfl) rfl ?_
 refine aP 7 rfl (pX rfl rfl) rfl ?_
 refine aP 8 rfl (pX rfl rfl) rfl ?_
 refine A2 9 ?_
 refine C9 rfl ?_
 refine aP 10 rfl (qA rfl) rfl ?_
 refine N3 ?_
 refine sP (D0 rfl rfl zR0) rfl rfl ?_
 refine A9 ?_
 refine D3 D4 rfl ?_
 refine J3 (i := 0) (l' := [tt,ff,ff,ff,ff,ff,ff,ff,ff]) rfl C8 (A3 rfl rfl) rfl zP0 rfl rfl ?_
 refine aL 1 rfl (A3 rfl rfl) rfl ?_
 refine aP 2 rfl (qM rfl) rfl ?_
 refine aP 3 rfl (qM rfl) rfl ?_
 refine D6 4 rfl rfl rfl ?_
 refine aP 5 rfl (T6 rfl rfl) rfl ?_
 refine A2 6 ?_
 refine C9 rfl ?_
 refine A2 7 ?_
 refine C9 rfl ?_
 refine aP 8 rfl (qA rfl) rfl ?_
 refine A8 ?_
 refine E9 (rC rfl (A3 rfl rfl)) (rC rfl (A3 rfl rfl)) (rT rfl) ?_
 (exact S4.mk (.b false) rfl hs10 rfl (fun s h => by cases h))
 refine A8 ?_
 refine sP (O1 rfl rfl zR0) rfl rfl ?_
 refine A8 ?_
 refine D3 D4 rfl ?_
 refine J3 (i := 0) (l' := [tt,ff,ff,ff,ff,ff,ff,ff,ff,ff,ff]) rfl C8 (A3 rfl rfl) rfl zP0 rfl rfl ?_
 refine aP 1 rfl (qM rfl) rfl ?_
 refine aP 2 rfl (B8 (j := 0) rfl rfl rfl zQ0) rfl ?_
 refine aL 3 rfl (A5 rfl rfl (At.im hle0 hgb hat0 _) hl0) rfl ?_
 refine aL 4 rfl (A3 rfl rfl) rfl ?_
 refine A2 5 ?_
 (refine H1 rfl rfl (A18 hu S.c S.L G _ e0 _ hW zR0 hx (Y7 _ _) hs0 hr0 rfl) rfl rfl rfl (fun v G1 hle1 hh => ?_); obtain ⟨sc1, rfl, hs1⟩ := hh; have hs10 := hs1; obtain ⟨tp1, tn1, tk1, tq1, tm1, td1, rfl⟩ := hs1.two; replace hle0 := hle0.trans hle1; have hgbi := W4 hle0 hgb)
 refine aP 6 rfl (qM rfl) rfl ?_
 refine aP 7 rfl (pX rfl rfl) rfl ?_
 refine aP 8 rfl (pX rfl rfl) rfl ?_
 refine A2 9 ?_
 refine C9 rfl ?_
 refine aP 10 rfl (qA rfl) rfl ?_
 refine N3 ?_
 refine sP (O1 rfl rfl zR0) rfl rfl ?_
 refine B5 ?_
 refine D3 D4 rfl ?_
 refine J3 (i := 0) (l' := [tt,ff,ff,ff,ff,ff,ff,ff,ff]) rfl C8 (A3 rfl rfl) rfl zP0 rfl rfl ?_
 refine aL 1 rfl (A3 rfl rfl) rfl ?_
 refine aP 2 rfl (qM rfl) rfl ?_
 refine aP 3 rfl (qM rfl) rfl ?_
 refine D6 4 rfl rfl rfl ?_
 refine aP 5 rfl (T6 rfl rfl) rfl ?_
 refine A2 6 ?_
 refine C9 rfl ?_
 refine A2 7 ?_
 refine C9 rfl ?_
 refine aP 8 rfl (qA rfl) rfl ?_
 refine A9 ?_
 refine E9 (rC rfl (A3 rfl rfl)) (rC rfl (A3 rfl rfl)) (rT rfl) ?_
 (exact S4.mk (.b true) rfl hs10 rfl (fun s h => by cases h))
theorem B8t (S : IS) (hS : S.ok) (hc : S.c ≤ 999990) (k : Int) (hk : k = 7 ∨ k = 8) (x y : SV) (hx : x.lt S.c) (hy : y.lt S.c) (B1 B2 : BV) (ok : Bool) (hu : Q4 S.B x (.b false) B1 true) (hu2 : Q4 B1 y (.b false) B2 ok) (G : IM) (sc : List Value) (nm : ByteArray) (num tk fk lb : Int) (pt pf q : Option Addr) (tn ct fn cf qn cq : Nat) (pk : Option Addr) (ck : Nat) (ek : List (List Value)) (hs : R2 G S sc) (hsk : D7 G pk 2 ck 3 ek) (hrk : P9 G [x, y] ek) :
  Fn Tryz.prog 54 [.agg ⟨sc⟩, .agg ⟨[.int .i64 k, .string nm, .int .i64 num, .int .i64 tk, .slice pt tn ct, .int .i64 fk, .slice pf fn cf, .int .i64 lb, .slice q qn cq]⟩, .slice pk 2 ck] [] G (S4 ⟨B2, S.c, S.L⟩ (if ok = true then some (.b (decide (k = 8))) else none)) := by
 have hW := hS.wb
 have hs0 := hs
 obtain ⟨sp, sn, sk, sq, sm, sd, rfl⟩ := hs.two
 obtain ⟨bH, oH, e0, rfl, hl0, hat0, hr0, hgb⟩ := hsk.lt hrk (i := 0) rfl zQ0
 have ho0 := hr0.one
 obtain ⟨_, _, e1, hp1, hl1, hat1, hr1, _⟩ := hsk.lt hrk (i := 1) rfl zQ0
 cases hp1
 have ho1 := hr1.one
 have hle0 := B9.refl G
 have hW1 := A17 hu hW hx (Y7 false _)
 refine C0 Tryz.func54 rfl Tryz.ntmps54 Tryz.results54 rfl ?_
 intro w0
 refine A4 ?_
 refine sE (B6 rfl rfl) rfl (fun b3 => ?_)
 refine sE (B6 rfl rfl) rfl (fun b4 => ?_)
 refine sE (A6 rfl) rfl (fun b5 => ?_)
 refine sE (A6 rfl) rfl (fun b6 => ?_)
 refine A8 ?_
 refine H4 rfl (A0G _ _) rfl rfl ?_
 refine sE (A6 rfl) rfl (fun b13 => ?_)
 refine A8 ?_
 refine H4 rfl (A0G _ _) rfl rfl ?_
 refine sE (A6 rfl) rfl (fun b20 => ?_)
 refine X3 ?_
 refine C2 ?_
 refine A4 ?_
 refine sP (D0 rfl rfl zR0) rfl rfl ?_
 refine B0 ?_
 refine sP (D0 rfl rfl zR0) rfl rfl ?_
 refine A8 ?_
 refine sP (D0 rfl rfl zR0) rfl rfl ?_
 refine A9 ?_
 refine sP (D0 rfl rfl zR0) rfl rfl ?_
 refine B0 ?_
 refine sB (qE rfl rfl) rfl rfl (fun h73 => ?_) (fun h73 => ?_)
 refine E1 ?_
 refine D3 D4 rfl ?_
 refine J3 (i := 0) (l' := [tt,ff,ff,ff,ff,ff,ff,ff,ff,ff,ff]) rfl C8 (A3 rfl rfl) rfl zP0 rfl rfl ?_
 refine aP 1 rfl (qM rfl) rfl ?_
 refine aP 2 rfl (B8 (j := 0) rfl rfl rfl zQ0) rfl ?_
 refine aL 3 rfl (A5 rfl rfl (At.im hle0 hgb hat0 _) hl0) rfl ?_
 refine aL 4 rfl (A3 rfl rfl) rfl ?_
 refine A2 5 ?_
 (refine H1 rfl rfl (A18 hu S.c S.L G _ e0 _ hW zR0 hx (Y7 _ _) hs0 hr0 rfl) rfl rfl rfl (fun v G1 hle1 hh => ?_); obtain ⟨sc1, rfl, hs1⟩ := hh; have hs10 := hs1; obtain ⟨tp1, tn1, tk1, tq1, tm1, td1, rfl⟩ := hs1.two; replace hle0 := hle0.trans hle1; have hgbi := W4 hle0 hgb)
 refine aP 6 rfl (qM rfl) rfl ?_
 refine aP 7 rfl (pX rfl rfl) rfl ?_
 refine aP 8 rfl (pX rfl rfl) rfl ?_
 refine A2 9 ?_
 refine C9 rfl ?_
 refine aP 10 rfl (qA rfl) rfl ?_
 refine E7 ?_
 refine D3 D4 rfl ?_
 refine J3 (i := 0) (l' := [tt,ff,ff,ff,ff,ff,ff,ff,ff,ff,ff]) rfl C8 (A3 rfl rfl) rfl zP0 rfl rfl ?_
 refine aP 1 rfl (qM rfl) rfl ?_
 refine aP 2 rfl (B8 (j := 1) rfl rfl rfl zQ0) rfl ?_
 refine aL 3 rfl (A5 rfl rfl (At.im hle0 hgb hat1 _) hl1) rfl ?_
 refine aL 4 rfl (A3 rfl rfl) rfl ?_
 refine A2 5 ?_
 (refine H1 rfl rfl (A18 hu2 S.c S.L G1 _ e1 _ hW1 zR0 hy (Y7 _ _) hs10 (hr1.mono hle1) rfl) rfl rfl rfl (fun v G2 hle2 hh => ?_); obtain ⟨sc2, rfl, hs2⟩ := hh; have hs20 := hs2; obtain ⟨tp2, tn2, tk2, tq2, tm2, td2, rfl⟩ := hs2.two; replace hle0 := hle0.trans hle2; have hgbi := W4 hle0 hgb)
 refine aP 6 rfl (qM rfl) rfl ?_
 refine aP 7 rfl (pX rfl rfl) rfl ?_
 refine aP 8 rfl (pX rfl rfl) rfl ?_
 refine A2 9 ?_
 refine C9 rfl ?_
 refine aP 10 rfl (qA rfl) rfl ?_
 refine B0 ?_
 refine sP (D0 rfl rfl zR0) rfl rfl ?_
 refine A9 ?_
 refine D3 D4 rfl ?_
 refine J3 (i := 0) (l' := [tt,ff,ff,ff,ff,ff,ff,ff,ff]) rfl C8 (A3 rfl rfl) rfl zP0 rfl rfl ?_
 refine aL 1 rfl (A3 rfl rfl) rfl ?_
 refine aP 2 rfl (qM rfl) rfl ?_
 refine aP 3 rfl (qM rfl) rfl ?_
 refine aP 4 rfl (qM rfl) rfl ?_
 refine aP 5 rfl (R8 rfl rfl) rfl ?_
 refine A2 6 ?_
 refine C9 rfl ?_
 refine A2 7 ?_
 refine C9 rfl ?_
 refine aP 8 rfl (qA rfl) rfl ?_
 refine A8 ?_
 refine E9 (rC rfl (A3 rfl rfl)) (rC rfl (A3 rfl rfl)) (rT rfl) ?_
 (have hd8 : decide (k = 8) = false := decide_eq_false zR0; rw [hd8]; exact S4.mk (.b false) A4s hs20 rfl (fun s h => A4r h))
 refine A8 ?_
 refine sP (O1 rfl rfl zR0) rfl rfl ?_
 refine A8 ?_
 refine D3 D4 rfl ?_
 refine J3 (i := 0) (l' := [tt,ff,ff,ff,ff,ff,ff,ff,ff,ff,ff]) rfl C8 (A3 rfl rfl) rfl zP0 rfl rfl ?_
 refine aP 1 rfl (qM rfl) rfl ?_
 refine aP 2 rfl (B8 (j := 0) rfl rfl rfl zQ0) rfl ?_
 refine aL 3 rfl (A5 rfl rfl (At.im hle0 hgb hat0 _) hl0) rfl ?_
 refine aL 4 rfl (A3 rfl rfl) rfl ?_
 refine A2 5 ?_
 (refine H1 rfl rfl (A18 hu S.c S.L G _ e0 _ hW zR0 hx (Y7 _ _) hs0 hr0 rfl) rfl rfl rfl (fun v G1 hle1 hh => ?_); obtain ⟨sc1, rfl, hs1⟩ := hh; have hs10 := hs1; obtain ⟨tp1, tn1, tk1, tq1, tm1, td1, rfl⟩ := hs1.two; replace hle0 := hle0.trans hle1; have hgbi := W4 hle0 hgb)
 refine aP 6 rfl (qM rfl) rfl ?_
 refine aP 7 rfl (pX rfl rfl) rfl ?_
 refine aP 8 rfl (pX rfl rfl) rfl ?_
 refine A2 9 ?_
 refine C9 rfl ?_
 refine aP 10 rfl (qA rfl) rfl ?_
 refine E7 ?_
 refine D3 D4 rfl ?_
 refine J3 (i := 0) (l' := [tt,ff,ff,ff,ff,ff,ff,ff,ff,ff,ff]) rfl C8 (A3 rfl rfl) rfl zP0 rfl rfl ?_
 refine aP 1 rfl (qM rfl) rfl ?_
 refine aP 2 rfl (B8 (j := 1) rfl rfl rfl zQ0) rfl ?_
 refine aL 3 rfl (A5 rfl rfl (At.im hle0 hgb hat1 _) hl1) rfl ?_
 refine aL 4 rfl (A3 rfl rfl) rfl ?_
 refine A2 5 ?_
 (refine H1 rfl rfl (A18 hu2 S.c S.L G1 _ e1 _ hW1 zR0 hy (Y7 _ _) hs10 (hr1.mono hle1) rfl) rfl rfl rfl (fun v G2 hle2 hh => ?_); obtain ⟨sc2, rfl, hs2⟩ := hh; have hs20 := hs2; obtain ⟨tp2, tn2, tk2, tq2, tm2, td2, rfl⟩ := hs2.two; replace hle0 := hle0.trans hle2; have hgbi := W4 hle0 hgb)
 refine aP 6 rfl (qM rfl) rfl ?_
 refine aP 7 rfl (pX rfl rfl) rfl ?_
 refine aP 8 rfl (pX rfl rfl) rfl ?_
 refine A2 9 ?_
 refine C9 rfl ?_
 refine aP 10 rfl (qA rfl) rfl ?_
 refine B0 ?_
 refine sP (O1 rfl rfl zR0) rfl rfl ?_
 refine B5 ?_
 refine D3 D4 rfl ?_
 refine J3 (i := 0) (l' := [tt,ff,ff,ff,ff,ff,ff,ff,ff]) rfl C8 (A3 rfl rfl) rfl zP0 rfl rfl ?_
 refine aL 1 rfl (A3 rfl rfl) rfl ?_
 refine aP 2 rfl (qM rfl) rfl ?_
 refine aP 3 rfl (qM rfl) rfl ?_
 refine aP 4 rfl (qM rfl) rfl ?_
 refine aP 5 rfl (R8 rfl rfl) rfl ?_
 refine A2 6 ?_
 refine C9 rfl ?_
 refine A2 7 ?_
 refine C9 rfl ?_
 refine aP 8 rfl (qA rfl) rfl ?_
 refine A9 ?_
 refine E9 (rC rfl (A3 rfl rfl)) (rC rfl (A3 rfl rfl)) (rT rfl) ?_
 (have hd8 : decide (k = 8) = true := decide_eq_true zR0; rw [hd8]; exact S4.mk (.b true) A4s hs20 rfl (fun s h => A4r h))
theorem B8u (S : IS) (hS : S.ok) (hc : S.c ≤ 999990) (x y z : SV) (hx : x.lt S.c) (B1 : BV) (hu : Q4 S.B x (.b true) B1 false) (G : IM) (sc : List Value) (nm : ByteArray) (num tk fk lb : Int) (pt pf q : Option Addr) (tn ct fn cf qn cq : Nat) (pk : Option Addr) (ck : Nat) (ek : List (List Value)) (hs : R2 G S sc) (hsk : D7 G pk 3 ck 3 ek) (hrk : P9 G [x, y, z] ek) :
  Fn Tryz.prog 54 [.agg ⟨sc⟩, .agg ⟨[.int .i64 9, .string nm, .int .i64 num, .int .i64 tk, .slice pt tn ct, .int .i64 fk, .slice pf fn cf, .int .i64 lb, .slice q qn cq]⟩, .slice pk 3 ck] [] G (S4 ⟨B1, S.c, S.L⟩ none) := by
 have hW := hS.wb
 have hs0 := hs
 obtain ⟨sp, sn, sk, sq, sm, sd, rfl⟩ := hs.two
 obtain ⟨bH, oH, e0, rfl, hl0, hat0, hr0, hgb⟩ := hsk.lt hrk (i := 0) rfl zQ0
 have ho0 := hr0.one
 obtain ⟨_, _, e1, hp1, hl1, hat1, hr1, _⟩ := hsk.lt hrk (i := 1) rfl zQ0
 cases hp1
 have ho1 := hr1.one
 obtain ⟨_, _, e2, hp2, hl2, hat2, hr2, _⟩ := hsk.lt hrk (i := 2) rfl zQ0
 cases hp2
 have ho2 := hr2.one
 have hle0 := B9.refl G
 refine C0 Tryz.func54 rfl Tryz.ntmps54 Tryz.results54 rfl ?_
 intro w0
 refine A4 ?_
 refine sE (B6 rfl rfl) rfl (fun b3 => ?_)
 refine sE (B6 rfl rfl) rfl (fun b4 => ?_)
 refine sE (A6 rfl) rfl (fun b5 => ?_)
 refine sE (A6 rfl) rfl (fun b6 => ?_)
 refine A8 ?_
 refine H4 rfl (A0G _ _) rfl rfl ?_
 refine sE (A6 rfl) rfl (fun b13 => ?_)
 refine A8 ?_
 refine H4 rfl (A0G _ _) rfl rfl ?_
 refine sE (A6 rfl) rfl (fun b20 => ?_)
 refine X3 ?_
 refine C2 ?_
 refine A4 ?_
 refine sP (D0 rfl rfl zR0) rfl rfl ?_
 refine B0 ?_
 refine sP (D0 rfl rfl zR0) rfl rfl ?_
 refine A8 ?_
 refine sP (D0 rfl rfl zR0) rfl rfl ?_
 refine A9 ?_
 refine sP (D0 rfl rfl zR0) rfl rfl ?_
 refine B0 ?_
 refine sP (D0 rfl rfl zR0) rfl rfl ?_
 refine A8 ?_
 refine sP (D0 rfl rfl zR0) rfl rfl ?_
 refine A9 ?_
 refine sP (O1 rfl rfl zR0) rfl rfl ?_
 refine A8 ?_
 refine D3 D4 rfl ?_
 refine J3 (i := 0) (l' := [tt,ff,ff,ff,ff,ff,ff,ff,ff,ff,ff]) rfl C8 (A3 rfl rfl) rfl zP0 rfl rfl ?_
 refine aP 1 rfl (qM rfl) rfl ?_
 refine aP 2 rfl (B8 (j := 0) rfl rfl rfl zQ0) rfl ?_
 refine aL 3 rfl (A5 rfl rfl (At.im hle0 hgb hat0 _) hl0) rfl ?_
 refine aL 4 rfl (A3 rfl rfl) rfl ?_
 refine A2 5 ?_
 (refine H1 rfl rfl (A18 hu S.c S.L G _ e0 _ hW zR0 hx (Y7 _ _) hs0 hr0 rfl) rfl rfl rfl (fun v G1 hle1 hh => ?_); obtain ⟨sc1, rfl, hs1⟩ := hh; have hs10 := hs1; obtain ⟨tp1, tn1, tk1, tq1, tm1, td1, rfl⟩ := hs1.two; replace hle0 := hle0.trans hle1; have hgbi := W4 hle0 hgb)
 refine aP 6 rfl (qM rfl) rfl ?_
 refine aP 7 rfl (pX rfl rfl) rfl ?_
 refine aP 8 rfl (pX rfl rfl) rfl ?_
 refine A2 9 ?_
 refine P3 rfl rfl rfl rfl rfl rfl rfl rfl zF0 (by rfl) zN ?_
 refine aP 10 rfl (qA rfl) rfl ?_
 refine O3 ?_
 refine D3 D4 rfl ?_
 refine J3 (i := 0) (l' := [tt,ff,ff,ff,ff,ff,ff,ff,ff,ff,ff]) rfl C8 (A3 rfl rfl) rfl zP0 rfl rfl ?_
 refine aP 1 rfl (qM rfl) rfl ?_
 refine aP 2 rfl (B8 (j := 1) rfl rfl rfl zQ0) rfl ?_
 refine aL 3 rfl (A5 rfl rfl (At.im hle0 hgb hat1 _) hl1) rfl ?_
 refine aP 4 rfl (qM rfl) rfl ?_
 refine aP 5 rfl (qM rfl) rfl ?_
 refine D6 6 rfl rfl rfl ?_
 refine aP 7 rfl (T6 rfl rfl) rfl ?_
 refine A2 8 ?_
 refine P3 rfl rfl rfl rfl rfl rfl rfl rfl zF0 (by rfl) zN ?_
 refine A2 9 ?_
 refine P3 rfl rfl rfl rfl hl1 ho1 rfl rfl zF0 (by exact C6 (by rw [hl1]; rfl)) zC ?_
 refine aP 10 rfl (qA rfl) rfl ?_
 refine A8 ?_
 refine E9 (rC rfl (A3 rfl rfl)) (rC rfl (A5 rfl rfl (B3 zI0) hl1)) (rT rfl) ?_
 (exact S4.mk y rfl hs10 (hr1.mono hle1) (fun s h => by cases h))
theorem B8v (S : IS) (hS : S.ok) (hc : S.c ≤ 999990) (x y z : SV) (hx : x.lt S.c) (hy : y.lt S.c) (hz : z.lt S.c) (B1 B2 : BV) (ok : Bool) (hu : Q4 S.B x (.b true) B1 true) (hu2 : Q4 B1 y z B2 ok) (G : IM) (sc : List Value) (nm : ByteArray) (num tk fk lb : Int) (pt pf q : Option Addr) (tn ct fn cf qn cq : Nat) (pk : Option Addr) (ck : Nat) (ek : List (List Value)) (hs : R2 G S sc) (hsk : D7 G pk 3 ck 3 ek) (hrk : P9 G [x, y, z] ek) :
  Fn Tryz.prog 54 [.agg ⟨sc⟩, .agg ⟨[.int .i64 9, .string nm, .int .i64 num, .int .i64 tk, .slice pt tn ct, .int .i64 fk, .slice pf fn cf, .int .i64 lb, .slice q qn cq]⟩, .slice pk 3 ck] [] G (S4 ⟨B2, S.c, S.L⟩ (if ok = true then some y else none)) := by
 have hW := hS.wb
 have hs0 := hs
 obtain ⟨sp, sn, sk, sq, sm, sd, rfl⟩ := hs.two
 obtain ⟨bH, oH, e0, rfl, hl0, hat0, hr0, hgb⟩ := hsk.lt hrk (i := 0) rfl zQ0
 have ho0 := hr0.one
 obtain ⟨_, _, e1, hp1, hl1, hat1, hr1, _⟩ := hsk.lt hrk (i := 1) rfl zQ0
 cases hp1
 have ho1 := hr1.one
 obtain ⟨_, _, e2, hp2, hl2, hat2, hr2, _⟩ := hsk.lt hrk (i := 2) rfl zQ0
 cases hp2
 have ho2 := hr2.one
 have hle0 := B9.refl G
 have hW1 := A17 hu hW hx (Y7 true _)
 refine C0 Tryz.func54 rfl Tryz.ntmps54 Tryz.results54 rfl ?_
 intro w0
 refine A4 ?_
 refine sE (B6 rfl rfl) rfl (fun b3 => ?_)
 refine sE (B6 rfl rfl) rfl (fun b4 => ?_)
 refine sE (A6 rfl) rfl (fun b5 => ?_)
 refine sE (A6 rfl) rfl (fun b6 => ?_)
 refine A8 ?_
 refine H4 rfl (A0G _ _) rfl rfl ?_
 refine sE (A6 rfl) rfl (fun b13 => ?_)
 refine A8 ?_
 refine H4 rfl (A0G _ _) rfl rfl ?_
 refine sE (A6 rfl) rfl (fun b20 => ?_)
 refine X3 ?_
 refine C2 ?_
 refine A4 ?_
 refine sP (D0 rfl rfl zR0) rfl rfl ?_
 refine B0 ?_
 refine sP (D0 rfl rfl zR0) rfl rfl ?_
 refine A8 ?_
 refine sP (D0 rfl rfl zR0) rfl rfl ?_
 refine A9 ?_
 refine sP (D0 rfl rfl zR0) rfl rfl ?_
 refine B0 ?_
 refine sP (D0 rfl rfl zR0) rfl rfl ?_
 refine A8 ?_
 refine sP (D0 rfl rfl zR0) rfl rfl ?_
 refine A9 ?_
 refine sP (O1 rfl rfl zR0) rfl rfl ?_
 refine A8 ?_
 refine D3 D4 rfl ?_
 refine J3 (i := 0) (l' := [tt,ff,ff,ff,ff,ff,ff,ff,ff,ff,ff]) rfl C8 (A3 rfl rfl) rfl zP0 rfl rfl ?_
 refine aP 1 rfl (qM rfl) rfl ?_
 refine aP 2 rfl (B8 (j := 0) rfl rfl rfl zQ0) rfl ?_
 refine aL 3 rfl (A5 rfl rfl (At.im hle0 hgb hat0 _) hl0) rfl ?_
 refine aL 4 rfl (A3 rfl rfl) rfl ?_
 refine A2 5 ?_
 (refine H1 rfl rfl (A18 hu S.c S.L G _ e0 _ hW zR0 hx (Y7 _ _) hs0 hr0 rfl) rfl rfl rfl (fun v G1 hle1 hh => ?_); obtain ⟨sc1, rfl, hs1⟩ := hh; have hs10 := hs1; obtain ⟨tp1, tn1, tk1, tq1, tm1, td1, rfl⟩ := hs1.two; replace hle0 := hle0.trans hle1; have hgbi := W4 hle0 hgb)
 refine aP 6 rfl (qM rfl) rfl ?_
 refine aP 7 rfl (pX rfl rfl) rfl ?_
 refine aP 8 rfl (pX rfl rfl) rfl ?_
 refine A2 9 ?_
 refine P3 rfl rfl rfl rfl rfl rfl rfl rfl zF0 (by rfl) zN ?_
 refine aP 10 rfl (qA rfl) rfl ?_
 refine E7 ?_
 refine D3 D4 rfl ?_
 refine J3 (i := 0) (l' := [tt,ff,ff,ff,ff,ff,ff,ff,ff,ff,ff,ff,ff]) rfl C8 (A3 rfl rfl) rfl zP0 rfl rfl ?_
 refine aP 1 rfl (qM rfl) rfl ?_
 refine aP 2 rfl (B8 (j := 1) rfl rfl rfl zQ0) rfl ?_
 refine aL 3 rfl (A5 rfl rfl (At.im hle0 hgb hat1 _) hl1) rfl ?_
 refine aP 4 rfl (qM rfl) rfl ?_
 refine aP 5 rfl (B8 (j := 2) rfl rfl rfl zQ0) rfl ?_
 refine aL 6 rfl (A5 rfl rfl (At.im hle0 hgb hat2 _) hl2) rfl ?_
 refine A2 7 ?_
 (refine H1 rfl rfl (A18 hu2 S.c S.L G1 _ e1 e2 hW1 zR0 hy hz hs10 (hr1.mono hle1) (hr2.mono hle1)) rfl rfl rfl (fun v G2 hle2 hh => ?_); obtain ⟨sc2, rfl, hs2⟩ := hh; have hs20 := hs2; obtain ⟨tp2, tn2, tk2, tq2, tm2, td2, rfl⟩ := hs2.two; replace hle0 := hle0.trans hle2; have hgbi := W4 hle0 hgb)
 refine aP 8 rfl (qM rfl) rfl ?_
 refine aP 9 rfl (pX rfl rfl) rfl ?_
 refine aP 10 rfl (pX rfl rfl) rfl ?_
 refine A2 11 ?_
 refine P3 rfl rfl rfl rfl rfl rfl rfl rfl zF0 (by rfl) zN ?_
 refine aP 12 rfl (qA rfl) rfl ?_
 refine C1 ?_
 refine D3 D4 rfl ?_
 refine J3 (i := 0) (l' := [tt,ff,ff,ff,ff,ff,ff,ff,ff,ff,ff]) rfl C8 (A3 rfl rfl) rfl zP0 rfl rfl ?_
 refine aP 1 rfl (qM rfl) rfl ?_
 refine aP 2 rfl (B8 (j := 1) rfl rfl rfl zQ0) rfl ?_
 refine aL 3 rfl (A5 rfl rfl (At.im hle0 hgb hat1 _) hl1) rfl ?_
 refine aP 4 rfl (qM rfl) rfl ?_
 refine aP 5 rfl (qM rfl) rfl ?_
 refine aP 6 rfl (qM rfl) rfl ?_
 refine aP 7 rfl (R8 rfl rfl) rfl ?_
 refine A2 8 ?_
 refine P3 rfl rfl rfl rfl rfl rfl rfl rfl zF0 (by rfl) zN ?_
 refine A2 9 ?_
 refine P3 rfl rfl rfl rfl hl1 ho1 rfl rfl zF0 (by exact C6 (by rw [hl1]; rfl)) zC ?_
 refine aP 10 rfl (qA rfl) rfl ?_
 refine A8 ?_
 refine E9 (rC rfl (A3 rfl rfl)) (rC rfl (A5 rfl rfl (B3 zI0) hl1)) (rT rfl) ?_
 (exact S4.mk y A4s hs20 ((hr1.mono hle1).mono hle2) (fun s h => A4r h))
theorem B8w (S : IS) (hS : S.ok) (hc : S.c ≤ 999990) (x y : SV) (hx : x.lt S.c) (hy : y.lt S.c) (hB : S.B S.c = none) (hB2 : S.B (S.c + 1) = none) (B1 : BV) (ok : Bool) (hu : Q4 S.B x (.t false y (.v S.c)) B1 ok) (G : IM) (sc : List Value) (nm : ByteArray) (num tk fk lb : Int) (pt pf q : Option Addr) (tn ct fn cf qn cq : Nat) (pk : Option Addr) (ck : Nat) (ek : List (List Value)) (hs : R2 G S sc) (hsk : D7 G pk 2 ck 3 ek) (hrk : P9 G [x, y] ek) :
  Fn Tryz.prog 54 [.agg ⟨sc⟩, .agg ⟨[.int .i64 6, .string nm, .int .i64 num, .int .i64 tk, .slice pt tn ct, .int .i64 fk, .slice pf fn cf, .int .i64 lb, .slice q qn cq]⟩, .slice pk 2 ck] [] G (S4 ⟨B1, S.c + 2, S.L⟩ (if ok = true then some (.v S.c) else none)) := by
 have hW := hS.wb
 have hs0 := hs
 obtain ⟨sp, sn, sk, sq, sm, sd, rfl⟩ := hs.two
 obtain ⟨bH, oH, e0, rfl, hl0, hat0, hr0, hgb⟩ := hsk.lt hrk (i := 0) rfl zQ0
 have ho0 := hr0.one
 obtain ⟨_, _, e1, hp1, hl1, hat1, hr1, _⟩ := hsk.lt hrk (i := 1) rfl zQ0
 cases hp1
 have ho1 := hr1.one
 have hle0 := B9.refl G
 have hW2 : WB S.B (S.c + 2) := hW.mono zR0
 have hx2 := hx.mono (show S.c ≤ S.c + 2 by omega)
 have hva : (SV.v S.c).lt (S.c + 2) := Z4 zR0
 have hvb : (SV.v (S.c + 1)).lt (S.c + 2) := Z4 zR0
 have hy2 := hy.mono (show S.c ≤ S.c + 2 by omega)
 refine C0 Tryz.func54 rfl Tryz.ntmps54 Tryz.results54 rfl ?_
 intro w0
 refine A4 ?_
 refine sE (B6 rfl rfl) rfl (fun b3 => ?_)
 refine sE (B6 rfl rfl) rfl (fun b4 => ?_)
 refine sE (A6 rfl) rfl (fun b5 => ?_)
 refine sE (A6 rfl) rfl (fun b6 => ?_)
 refine A8 ?_
 refine H4 rfl (A0G _ _) rfl rfl ?_
 refine sE (A6 rfl) rfl (fun b13 => ?_)
 refine A8 ?_
 refine H4 rfl (A0G _ _) rfl rfl ?_
 refine sE (A6 rfl) rfl (fun b20 => ?_)
 refine X3 ?_
 refine C2 ?_
 refine A4 ?_
 refine sP (D0 rfl rfl zR0) rfl rfl ?_
 refine B0 ?_
 refine sP (D0 rfl rfl zR0) rfl rfl ?_
 refine A8 ?_
 refine sP (D0 rfl rfl zR0) rfl rfl ?_
 refine A9 ?_
 refine sP (D0 rfl rfl zR0) rfl rfl ?_
 refine B0 ?_
 refine sP (D0 rfl rfl zR0) rfl rfl ?_
 refine A8 ?_
 refine sP (D0 rfl rfl zR0) rfl rfl ?_
 refine A9 ?_
 refine sP (D0 rfl rfl zR0) rfl rfl ?_
 refine J2 ?_
 (refine F4 rfl (A5p S hB zR0 G _ hs0) rfl rfl (fun v G5 hle5 hh => ?_); obtain ⟨sc5, ta, rfl, hs5, hra⟩ := hh; have hs50 := hs5; obtain ⟨tp5, tn5, tk5, tq5, tm5, td5, rfl⟩ := hs5.two; obtain rfl := (show _ = _ from hra); replace hle0 := hle0.trans hle5)
 refine C1 ?_
 refine sE (A6 rfl) rfl (fun b101 => ?_)
 refine B0 ?_
 (refine F4 rfl (A5p ⟨S.B, S.c + 1, S.L⟩ hB2 (by dsimp only; omega) G5 _ hs50) rfl rfl (fun v G6 hle6 hh => ?_); obtain ⟨sc6, tb, rfl, hs6, hrb⟩ := hh; have hs60 := hs6; obtain ⟨tp6, tn6, tk6, tq6, tm6, td6, rfl⟩ := hs6.two; obtain rfl := (show _ = _ from hrb); replace hle0 := hle0.trans hle6)
 refine C1 ?_
 refine sE (A6 rfl) rfl (fun b113 => ?_)
 refine E7 ?_
 refine sP (O1 rfl rfl zR0) rfl rfl ?_
 refine B5 ?_
 refine D3 D4 rfl ?_
 refine J3 (i := 0) (l' := [tt,ff,ff,ff,ff,ff,ff,ff,ff,ff,ff,ff,ff,ff,ff]) rfl C8 (A3 rfl rfl) rfl zP0 rfl rfl ?_
 refine aP 1 rfl (qM rfl) rfl ?_
 refine aP 2 rfl (B8 (j := 0) rfl rfl rfl zQ0) rfl ?_
 refine aL 3 rfl (A5 rfl rfl (At.im hle0 hgb hat0 _) hl0) rfl ?_
 refine aP 4 rfl (qM rfl) rfl ?_
 refine aP 5 rfl (B8 (j := 1) rfl rfl rfl zQ0) rfl ?_
 refine aL 6 rfl (A5 rfl rfl (At.im hle0 hgb hat1 _) hl1) rfl ?_
 refine aL 7 rfl (A3 rfl rfl) rfl ?_
 refine A2 8 ?_
 (refine H1 rfl rfl (A6A false y (.v S.c) G6 e1 _ ((hr1.mono hle5).mono hle6) rfl) rfl rfl rfl (fun v G7 hle7 hh => ?_); obtain ⟨ct2, rfl, hrt⟩ := hh; replace hle0 := hle0.trans hle7)
 refine A2 9 ?_
 (refine H1 rfl rfl (A18 hu (S.c + 2) S.L G7 _ e0 ct2 hW2 zR0 hx2 (A2k hy2 hva) (hs60.mono hle7) (((hr0.mono hle5).mono hle6).mono hle7) hrt) rfl rfl rfl (fun v G8 hle8 hh => ?_); obtain ⟨sc8, rfl, hs8⟩ := hh; have hs80 := hs8; obtain ⟨tp8, tn8, tk8, tq8, tm8, td8, rfl⟩ := hs8.two; replace hle0 := hle0.trans hle8; have hgbi := W4 hle0 hgb)
 refine aP 10 rfl (qM rfl) rfl ?_
 refine aP 11 rfl (pX rfl rfl) rfl ?_
 refine aP 12 rfl (pX rfl rfl) rfl ?_
 refine A2 13 ?_
 refine C9 rfl ?_
 refine aP 14 rfl (qA rfl) rfl ?_
 refine C1 ?_
 refine D3 D4 rfl ?_
 refine J3 (i := 0) (l' := [tt,ff,ff,ff,ff,ff]) rfl C8 (A3 rfl rfl) rfl zP0 rfl rfl ?_
 refine aL 1 rfl (A3 rfl rfl) rfl ?_
 refine aP 2 rfl (qM rfl) rfl ?_
 refine A2 3 ?_
 refine C9 rfl ?_
 refine A2 4 ?_
 refine C9 rfl ?_
 refine aP 5 rfl (qA rfl) rfl ?_
 refine B5 ?_
 refine E9 (rC rfl (A3 rfl rfl)) (rC rfl (A3 rfl rfl)) (rT rfl) ?_
 (exact S4.mk (.v S.c) A4s hs80 rfl (fun s h => A4r h))
theorem B8x (S : IS) (hS : S.ok) (hc : S.c ≤ 999990) (k : Int) (hk : k = 11 ∨ k = 12) (x : SV) (hx : x.lt S.c) (hB : S.B S.c = none) (hB2 : S.B (S.c + 1) = none) (B1 : BV) (ok : Bool) (hu : Q4 S.B x (.t true (.v S.c) (.v (S.c + 1))) B1 ok) (G : IM) (sc : List Value) (nm : ByteArray) (num tk fk lb : Int) (pt pf q : Option Addr) (tn ct fn cf qn cq : Nat) (pk : Option Addr) (ck : Nat) (ek : List (List Value)) (hs : R2 G S sc) (hsk : D7 G pk 1 ck 3 ek) (hrk : P9 G [x] ek) :
  Fn Tryz.prog 54 [.agg ⟨sc⟩, .agg ⟨[.int .i64 k, .string nm, .int .i64 num, .int .i64 tk, .slice pt tn ct, .int .i64 fk, .slice pf fn cf, .int .i64 lb, .slice q qn cq]⟩, .slice pk 1 ck] [] G (S4 ⟨B1, S.c + 2, S.L⟩ (if ok = true then some (.v (if k = 12 then S.c + 1 else S.c)) else none)) := by
 have hW := hS.wb
 have hs0 := hs
 obtain ⟨sp, sn, sk, sq, sm, sd, rfl⟩ := hs.two
 obtain ⟨bH, oH, e0, rfl, hl0, hat0, hr0, hgb⟩ := hsk.lt hrk (i := 0) rfl zQ0
 have ho0 := hr0.one
 have hle0 := B9.refl G
 have hW2 : WB S.B (S.c + 2) := hW.mono zR0
 have hx2 := hx.mono (show S.c ≤ S.c + 2 by omega)
 have hva : (SV.v S.c).lt (S.c + 2) := Z4 zR0
 have hvb : (SV.v (S.c + 1)).lt (S.c + 2) := Z4 zR0
 refine C0 Tryz.func54 rfl Tryz.ntmps54 Tryz.results54 rfl ?_
 intro w0
 refine A4 ?_
 refine sE (B6 rfl rfl) rfl (fun b3 => ?_)
 refine sE (B6 rfl rfl) rfl (fun b4 => ?_)
 refine sE (A6 rfl) rfl (fun b5 => ?_)
 refine sE (A6 rfl) rfl (fun b6 => ?_)
 refine A8 ?_
 refine H4 rfl (A0G _ _) rfl rfl ?_
 refine sE (A6 rfl) rfl (fun b13 => ?_)
 refine A8 ?_
 refine H4 rfl (A0G _ _) rfl rfl ?_
 refine sE (A6 rfl) rfl (fun b20 => ?_)
 refine X3 ?_
 refine C2 ?_
 refine A4 ?_
 refine sP (D0 rfl rfl zR0) rfl rfl ?_
 refine B0 ?_
 refine sP (D0 rfl rfl zR0) rfl rfl ?_
 refine A8 ?_
 refine sP (D0 rfl rfl zR0) rfl rfl ?_
 refine A9 ?_
 refine sP (D0 rfl rfl zR0) rfl rfl ?_
 refine B0 ?_
 refine sP (D0 rfl rfl zR0) rfl rfl ?_
 refine A8 ?_
 refine sP (D0 rfl rfl zR0) rfl rfl ?_
 refine A9 ?_
 refine sP (D0 rfl rfl zR0) rfl rfl ?_
 refine J2 ?_
 (refine F4 rfl (A5p S hB zR0 G _ hs0) rfl rfl (fun v G5 hle5 hh => ?_); obtain ⟨sc5, ta, rfl, hs5, hra⟩ := hh; have hs50 := hs5; obtain ⟨tp5, tn5, tk5, tq5, tm5, td5, rfl⟩ := hs5.two; obtain rfl := (show _ = _ from hra); replace hle0 := hle0.trans hle5)
 refine C1 ?_
 refine sE (A6 rfl) rfl (fun b101 => ?_)
 refine B0 ?_
 (refine F4 rfl (A5p ⟨S.B, S.c + 1, S.L⟩ hB2 (by dsimp only; omega) G5 _ hs50) rfl rfl (fun v G6 hle6 hh => ?_); obtain ⟨sc6, tb, rfl, hs6, hrb⟩ := hh; have hs60 := hs6; obtain ⟨tp6, tn6, tk6, tq6, tm6, td6, rfl⟩ := hs6.two; obtain rfl := (show _ = _ from hrb); replace hle0 := hle0.trans hle6)
 refine C1 ?_
 refine sE (A6 rfl) rfl (fun b113 => ?_)
 refine E7 ?_
 refine sP (D0 rfl rfl zR0) rfl rfl ?_
 refine A9 ?_
 refine D3 D4 rfl ?_
 refine J3 (i := 0) (l' := [tt,ff,ff,ff,ff,ff,ff,ff,ff,ff,ff,ff,ff]) rfl C8 (A3 rfl rfl) rfl zP0 rfl rfl ?_
 refine aP 1 rfl (qM rfl) rfl ?_
 refine aP 2 rfl (B8 (j := 0) rfl rfl rfl zQ0) rfl ?_
 refine aL 3 rfl (A5 rfl rfl (At.im hle0 hgb hat0 _) hl0) rfl ?_
 refine aL 4 rfl (A3 rfl rfl) rfl ?_
 refine aL 5 rfl (A3 rfl rfl) rfl ?_
 refine A2 6 ?_
 (refine H1 rfl rfl (A6A true (.v S.c) (.v (S.c + 1)) G6 _ _ rfl rfl) rfl rfl rfl (fun v G7 hle7 hh => ?_); obtain ⟨ct2, rfl, hrt⟩ := hh; replace hle0 := hle0.trans hle7)
 refine A2 7 ?_
 (refine H1 rfl rfl (A18 hu (S.c + 2) S.L G7 _ e0 ct2 hW2 zR0 hx2 (A2k hva hvb) (hs60.mono hle7) (((hr0.mono hle5).mono hle6).mono hle7) hrt) rfl rfl rfl (fun v G8 hle8 hh => ?_); obtain ⟨sc8, rfl, hs8⟩ := hh; have hs80 := hs8; obtain ⟨tp8, tn8, tk8, tq8, tm8, td8, rfl⟩ := hs8.two; replace hle0 := hle0.trans hle8; have hgbi := W4 hle0 hgb)
 refine aP 8 rfl (qM rfl) rfl ?_
 refine aP 9 rfl (pX rfl rfl) rfl ?_
 refine aP 10 rfl (pX rfl rfl) rfl ?_
 refine A2 11 ?_
 refine C9 rfl ?_
 refine aP 12 rfl (qA rfl) rfl ?_
 refine B0 ?_
 refine sB (qE rfl rfl) rfl rfl (fun h154 => ?_) (fun h154 => ?_)
 refine B5 ?_
 refine D3 D4 rfl ?_
 refine J3 (i := 0) (l' := [tt,ff,ff,ff,ff,ff]) rfl C8 (A3 rfl rfl) rfl zP0 rfl rfl ?_
 refine aL 1 rfl (A3 rfl rfl) rfl ?_
 refine aP 2 rfl (qM rfl) rfl ?_
 refine A2 3 ?_
 refine C9 rfl ?_
 refine A2 4 ?_
 refine C9 rfl ?_
 refine aP 5 rfl (qA rfl) rfl ?_
 refine B5 ?_
 refine E9 (rC rfl (A3 rfl rfl)) (rC rfl (A3 rfl rfl)) (rT rfl) ?_
 (rw [if_pos (show k = 12 by omega)]; exact S4.mk (.v (S.c + 1)) A4s hs80 rfl (fun s h => A4r h))
 refine A9 ?_
 refine D3 D4 rfl ?_
 refine J3 (i := 0) (l' := [tt,ff,ff,ff,ff,ff]) rfl C8 (A3 rfl rfl) rfl zP0 rfl rfl ?_
 refine aL 1 rfl (A3 rfl rfl) rfl ?_
 refine aP 2 rfl (qM rfl) rfl ?_
 refine A2 3 ?_
 refine C9 rfl ?_
 refine A2 4 ?_
 refine C9 rfl ?_
 refine aP 5 rfl (qA rfl) rfl ?_
 refine C1 ?_
 refine E9 (rC rfl (A3 rfl rfl)) (rC rfl (A3 rfl rfl)) (rT rfl) ?_
 (rw [if_neg (show ¬k = 12 by omega)]; exact S4.mk (.v S.c) A4s hs80 rfl (fun s h => A4r h))
theorem B8y {k : Int} {ss : List SV} {S S' : IS} {o : Option SV} (h : Nod k ss S S' o) (hS : S.ok) (hc : S.c ≤ 999990) (hss : ∀ s ∈ ss, s.lt S.c) (G : IM) (sc : List Value) (nm : ByteArray) (num tk fk lb : Int) (pt pf q : Option Addr) (tn ct fn cf qn cq : Nat) (pk : Option Addr) (ck : Nat) (ek : List (List Value)) (hs : R2 G S sc) (hsk : D7 G pk ss.length ck 3 ek) (hrk : P9 G ss ek) :
  Fn Tryz.prog 54 [.agg ⟨sc⟩, .agg ⟨[.int .i64 k, .string nm, .int .i64 num, .int .i64 tk, .slice pt tn ct, .int .i64 fk, .slice pf fn cf, .int .i64 lb, .slice q qn cq]⟩, .slice pk ss.length ck] [] G (S4 S' o) := by
 have hB2 : S.B (S.c + 1) = none := hS.wb.hi _ zR0
 cases h with
 | num => exact B8p S hS hc G sc nm num tk fk lb pt pf q tn ct fn cf qn cq pk ck ek hs hsk hrk
 | tru hk => exact B8q S hS hc k hk G sc nm num tk fk lb pt pf q tn ct fn cf qn cq pk ck ek hs hsk hrk
 | pair => exact B8r S hS hc _ _ G sc nm num tk fk lb pt pf q tn ct fn cf qn cq pk ck ek hs hsk hrk
 | app hB hu => exact B8w S hS hc _ _ (hss _ zS0) (hss _ zS0) hB hB2 _ _ hu G sc nm num tk fk lb pt pf q tn ct fn cf qn cq pk ck ek hs hsk hrk
 | ar0 hk hu => exact B8s S hS hc k hk _ _ (hss _ zS0) _ hu G sc nm num tk fk lb pt pf q tn ct fn cf qn cq pk ck ek hs hsk hrk
 | ar hk hu hu2 => exact B8t S hS hc k hk _ _ (hss _ zS0) (hss _ zS0) _ _ _ hu hu2 G sc nm num tk fk lb pt pf q tn ct fn cf qn cq pk ck ek hs hsk hrk
 | ite0 hu => exact B8u S hS hc _ _ _ (hss _ zS0) _ hu G sc nm num tk fk lb pt pf q tn ct fn cf qn cq pk ck ek hs hsk hrk
 | ite hu hu2 => exact B8v S hS hc _ _ _ (hss _ zS0) (hss _ zS0) (hss _ zS0) _ _ _ hu hu2 G sc nm num tk fk lb pt pf q tn ct fn cf qn cq pk ck ek hs hsk hrk
 | part hk hB hB' hu => exact B8x S hS hc k hk _ (hss _ zS0) hB hB' _ _ hu G sc nm num tk fk lb pt pf q tn ct fn cf qn cq pk ck ek hs hsk hrk
def ib (nm : ByteArray) : UInt8 := nm.data.getD 0 0
theorem A6B {nm : ByteArray} (h : nm.size = 1) : nm = ⟨#[ib nm]⟩ := by
 obtain ⟨⟨l⟩⟩ := nm
 have hl : l.length = 1 := h
 match l, hl with
 | [a], _ => rfl
def A1v (ns : List ByteArray) : ByteArray := ⟨(ns.reverse.map ib).toArray⟩
theorem B8z {nm : ByteArray} {ns : List ByteArray} (h : nm.size = 1) : A1v ns ++ nm = A1v (nm :: ns) := by
 rw [A6B h]
 apply ByteArray.ext
 rw [ByteArray.data_append]
 simp [A1v, ib]
theorem B2q (ns : List ByteArray) : (A1v ns).size = ns.length := by simp [A1v, ByteArray.size]
theorem B8A {s : ByteArray} {i : Nat} {c : UInt8} (h : i < s.size) : s.extract i (i + 1) = ⟨#[c]⟩ ↔ s.data.toList[i]? = some c := by
 have h2 : i < s.data.toList.length := by simpa using h
 have he : s.extract i (i + 1) = ⟨#[s.data.toList[i]]⟩ := by
  apply ByteArray.ext
  apply Array.ext'
  rw [ByteArray.data_extract, Array.toList_extract, List.extract_eq_take_drop]
  rw [Nat.add_sub_cancel_left, List.drop_eq_getElem_cons h2]
  rfl
 rw [he, List.getElem?_eq_getElem h2]
 constructor
 ·intro h3
  have := congrArg (fun b : ByteArray => b.data.toList) h3
  simpa using this
 ·intro h3
  rw [Option.some.inj h3]
def A2x : List (ByteArray × SV) → ByteArray → Option Nat
 | [], _ => none
 | (x, _) :: Γ, nm => if x = nm then some 0 else (A2x Γ nm).map (· + 1)
def A8u : Option Nat → Int
 | none => -1
 | some k => k
theorem B2r : ∀ {Γ : List (ByteArray × SV)} {nm : ByteArray}, (A2x Γ nm = none ∧ A1c Γ nm = none) ∨ ∃ k s, A2x Γ nm = some k ∧ k < Γ.length ∧ A1c Γ nm = some s ∧ (Γ.map Prod.snd)[k]? = some s
 | [], _ => .inl ⟨rfl, rfl⟩
 | (x, s) :: Γ, nm => by
  rw [A2x, A1c]
  by_cases h : x = nm
  ·rw [if_pos h, if_pos h]; exact .inr ⟨0, s, rfl, by simp, rfl, rfl⟩
  ·rw [if_neg h, if_neg h]
   rcases B2r (Γ := Γ) (nm := nm) with ⟨h1, h2⟩ | ⟨k, t, h1, h2, h3, h4⟩
   ·rw [h1, h2]; exact .inl ⟨rfl, rfl⟩
   ·rw [h1, h3]; exact .inr ⟨k + 1, t, rfl, by simpa using h2, rfl, by simpa using h4⟩
theorem B2s : ∀ {Γ : List (ByteArray × SV)} {nm : ByteArray} {k : Nat}, (Γ.map Prod.fst)[k]? = some nm → (∀ j, j < k → (Γ.map Prod.fst)[j]? ≠ some nm) → A2x Γ nm = some k
 | [], _, _, h, _ => by simp at h
 | (x, s) :: Γ, nm, 0, h, _ => by
  have : x = nm := by simpa using h
  rw [A2x, if_pos this]
 | (x, s) :: Γ, nm, k + 1, h, h2 => by
  have : ¬x = nm := fun he => h2 0 zR0 (by simp [he])
  rw [A2x, if_neg this, B2s (k := k) (by simpa using h) (fun j hj => by simpa using h2 (j + 1) zR0)]
  rfl
theorem B2t : ∀ {Γ : List (ByteArray × SV)} {nm : ByteArray}, (∀ j, j < Γ.length → (Γ.map Prod.fst)[j]? ≠ some nm) → A2x Γ nm = none
 | [], _, _ => rfl
 | (x, s) :: Γ, nm, h => by
  have : ¬x = nm := fun he => h 0 zS0 (by simp [he])
  rw [A2x, if_neg this, B2t (fun j hj => by simpa using h (j + 1) (by simpa using hj))]
  rfl
theorem B8B (Γ : List (ByteArray × SV)) (nm : ByteArray) (G : IM) (hs : Γ.length ≤ 1000) (ho : ∀ p ∈ Γ, p.1.size = 1) (hnm : nm.size = 1) :
  Fn Tryz.prog 51 [.string (A1v (Γ.map Prod.fst)), .string nm] [] G (K7 (.int .i64 (A8u (A2x Γ nm))) G) := by
 obtain ⟨ns, hns⟩ : ∃ ns, Γ.map Prod.fst = ns := ⟨_, rfl⟩
 have hnl : ns.length = Γ.length := by rw [← hns, List.length_map]
 have hone : ∀ x ∈ ns, x.size = 1 := fun x hx => by
  rw [← hns] at hx
  obtain ⟨p, hp, rfl⟩ := List.mem_map.1 hx
  exact ho p hp
 have hpe := fun k => @B2s Γ nm k
 have hpn := @B2t Γ nm
 rw [hns] at hpe hpn ⊢
 obtain ⟨s, hsS⟩ : ∃ s, A1v ns = s := ⟨_, rfl⟩
 have hsz : s.size = ns.length := by rw [← hsS]; exact B2q ns
 have hat : ∀ i, i < ns.length → (s.extract i (i + 1) = nm ↔ ns[ns.length - 1 - i]? = some nm) := fun i hi => by
  have h1 : i < s.size := by omega
  have h2 : ns.length - 1 - i < ns.length := by omega
  conv => lhs; rw [A6B hnm]
  rw [B8A h1, ← hsS]
  show (ns.reverse.map ib)[i]? = some (ib nm) ↔ _
  rw [List.getElem?_map, List.getElem?_reverse hi, List.getElem?_eq_getElem h2, Option.map_some, Option.some_inj, Option.some_inj]
  constructor
  ·intro he; rw [A6B (hone _ (List.getElem_mem h2)), he, ← A6B hnm]
  ·intro he; rw [he]
 rw [hsS]
 refine C0 Tryz.func51 rfl Tryz.ntmps51 Tryz.results51 rfl ?_
 intro w0
 refine E7 ?_
 refine sQ (A2E rfl rfl) rfl ?_
 refine sP (Q7 rfl rfl zR0 zR0) rfl rfl ?_
 refine C1 ?_
 refine C2 ?_
 (refine L8 (fun (i : Nat) => ⟨[(5, .int .i64 ((i : Int) - 1)), (0, .string s), (1, .string nm)], [], G⟩) (fun i => i ≤ s.size ∧ ∀ j, j < ns.length - i → ns[j]? ≠ some nm) (fun i => i) s.size ?_ ?_ ?_)
 exact F8
 exact ⟨Nat.le_refl _, fun j hj => by omega⟩
 (rintro i ⟨hi, hj⟩)
 refine B5 ?_
 refine sB (A1w rfl rfl) rfl rfl (fun h24 => ?_) (fun h24 => ?_)
 refine A9 ?_
 refine C2 ?_
 refine tS ?_
 (have hi1 : 1 ≤ i := zR0; have hia := hat (i - 1) zR0; rw [show ((i : Int) - 1) = ((i - 1 : Nat) : Int) from zR0])
 refine B5 ?_
 refine sP (A2g (n := 1) rfl rfl zR0) rfl rfl ?_
 refine sP (A5Y (h := i - 1 + 1) rfl rfl rfl rfl zR0 zR0) rfl rfl ?_
 refine D8 ?_
 refine sB (A2F rfl rfl) rfl rfl (fun hse => ?_) (fun hse => ?_)
 refine A9 ?_
 refine sQ (A2E rfl rfl) rfl ?_
 refine sP (Q7 rfl rfl zR0 zR0) rfl rfl ?_
 refine D8 ?_
 refine sP (Q7 rfl rfl zR0 zR0) rfl rfl ?_
 refine J2 ?_
 (refine ⟨rfl, congrArg (Value.int .i64) ?_, rfl⟩; rw [hpe _ (hia.1 hse) (fun j hjj => hj j zR0), hsz, A8u]; omega)
 refine E1 ?_
 refine sP (Q7 rfl rfl zR0 zR0) rfl rfl ?_
 refine A4 ?_
 refine J7 (i - 1) ?_ ?_ ?_
 exact F8
 (exact ⟨by omega, fun j hji => (by by_cases he : j = ns.length - i; (subst he; intro hc; exact hse (hia.2 (by rw [show ns.length - 1 - (i - 1) = ns.length - i by omega]; exact hc))); exact hj j zR0)⟩)
 (show i - 1 < i; omega)
 refine J0 ?_
 (refine ⟨rfl, congrArg (Value.int .i64) ?_, rfl⟩; rw [hpn (fun j hjj => hj j zR0)]; rfl)
end Gw
end Go.Proofs.YtbdacdnffkhgeaaGreatDoor
