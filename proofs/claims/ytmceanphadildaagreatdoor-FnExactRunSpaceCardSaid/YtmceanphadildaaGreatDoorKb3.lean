/-
  The reference model's count of nodes, its CastValid.
-/
import Derived.Test.YtmceanphadildaaGreatDoorKb2
import Derived.Test.YtmceanphadildaaGreatDoorKb1
import Derived.Test.YtmceanphadildaaGreatDoorKb0
import Derived.Laws.Slices
set_option linter.unusedVariables false
set_option linter.unusedSimpArgs false
set_option maxHeartbeats 0
set_option maxRecDepth 100000
set_option synthInstance.maxSize 4000
set_option synthInstance.maxHeartbeats 0
namespace Go.Proofs.YtmceanphadildaaGreatDoor
open Go Go.RowKit
namespace Gw
theorem B1Z {D N : Int} {k : Int} {nm : ByteArray} {num : Int} {ty fr : Ty} {lb : Int} {ks : List Tm} {d : Int} (h : N1 D N (.mk k nm num ty fr lb ks) d = true) : d ≤ D ∧ ∀ i, (hi : i < ks.length) → N1 D N ks[i] (d + 1) = true := by
 rw [N1] at h
 simp only [Bool.and_eq_true, decide_eq_true_eq] at h
 exact ⟨h.1.1.1, (A0A D N ks _).1 h.2⟩
mutual
theorem A5q (M D N : Int) : ∀ (t : Tm) (deep c : Int), c ≤ M → ((P1 M D N t deep c).1 = true ↔ N1 D N t deep = true ∧ c + J1 t ≤ M)
 | .mk k nm num ty fr lb ks, deep, c, hc => by
  rw [P1, J1]
  by_cases h : c + 1 > M ∨ deep > D ∨ k = N ∨ R4 k nm num ty fr lb ks.length = false
  ·rw [if_pos h]
   constructor
   ·intro h; cases h
   ·rintro ⟨h1, h2⟩
    rcases h with h | h
    ·omega
    ·rw [A0N h] at h1; cases h1
  ·rw [if_neg h]
   have hn : R4 k nm num ty fr lb ks.length = true := by
    cases hx : R4 k nm num ty fr lb ks.length with
    | true => rfl
    | false => exact absurd (Or.inr (Or.inr (Or.inr hx))) h
   rw [A0O zV zV hn, A7J M D N ks (deep + 1) (c + 1) zV]
   constructor
   ·rintro ⟨a, b⟩; exact ⟨a, by omega⟩
   ·rintro ⟨a, b⟩; exact ⟨a, by omega⟩
theorem A7J (M D N : Int) : ∀ (ts : List Tm) (deep c : Int), c ≤ M → ((Q4 M D N ts deep c).1 = true ↔ N2 D N ts deep = true ∧ c + I4 ts ≤ M)
 | [], deep, c, hc => by simp [Q4, N2, I4]; omega
 | t :: ts, deep, c, hc => by
  have h0 := A5q M D N t deep c hc
  rw [Q4, N2, I4, Bool.and_eq_true]
  by_cases h : (P1 M D N t deep c).1 = true
  ·rw [if_pos h, A6N M D N t deep c h, A7J M D N ts deep _ (h0.1 h).2]
   have := h0.1 h
   constructor
   ·rintro ⟨a, b⟩; exact ⟨⟨this.1, a⟩, by omega⟩
   ·rintro ⟨⟨_, a⟩, b⟩; exact ⟨a, by omega⟩
  ·rw [if_neg h]
   constructor
   ·intro h'; cases h'
   ·rintro ⟨⟨a, _⟩, b⟩
    exact absurd (h0.2 ⟨a, by omega⟩) h
end
theorem A3R (t : Tm) : T5 t = true ↔ N1 40 13 t 1 = true ∧ J1 t ≤ 200 := by
 have := A5q 200 40 13 t 1 0 zV
 rw [T5, this]
 constructor
 ·rintro ⟨a, b⟩; exact ⟨a, by omega⟩
 ·rintro ⟨a, b⟩; exact ⟨a, by omega⟩
theorem A7K (D N : Int) : ∀ (t : Tm) (d : Int) (G : IM) (cells : List Value), d ≤ 40 → N1 D N t (D + 1 - d) = true → J1 t ≤ 4294967296 → D1 G t cells →
  Fn Tryz.prog 58 [.agg ⟨cells⟩, .int .i64 d] [] G (F8 (.int .i64 (J1 t : Int)) G) := by
 refine Tm.ind fun k nm num ty fr lb ks ih d G cells hd hv hcnt hr => ?_
 have hone := hr.one
 obtain ⟨hv1, hv2⟩ := B1Z hv
 obtain ⟨tk, tks⟩ := ty
 obtain ⟨fk, fks⟩ := fr
 obtain ⟨pt, ct, pf, cf, p, c, es, rfl, hk, hnum, hlb, hty, hfr, hsl, hkl⟩ := hr.open9
 have hn := hsl.le
 clear hr
 rw [J1] at hcnt ⊢
 refine D5 Tryz.func58 rfl Tryz.ntmps58 Tryz.results58 rfl ?_
 intro w0
 refine A3 ?_
 refine sE (D8 rfl rfl) rfl (fun b3 => ?_)
 refine J5 ?_
 refine B7 ?_
 (refine J3 (fun (i : Nat) => ⟨[(6, .int .i64 i), (5, .int .i64 ((I4 (ks.take i) + 1 : Nat) : Int)), (2, .pointer (some ⟨b3, 0, none⟩)), (1, .int .i64 d)], [.blk b3 [.int .i64 k, .string nm, .int .i64 num, .int .i64 tk, .slice pt tks.length ct, .int .i64 fk, .slice pf fks.length cf, .int .i64 lb, .slice p ks.length c]], G⟩) (fun i => i ≤ ks.length) (fun i => ks.length - i) 0 ?_ ?_ ?_)
 exact E3
 exact Nat.zero_le _
 (rintro i hi)
 refine A8 ?_
 refine sB (I3 rfl rfl) rfl rfl (fun h30 => ?_) (fun h30 => ?_)
 refine A3 ?_
 refine sP (A6h rfl rfl zV) rfl rfl ?_
 refine A8 ?_
 refine B7 ?_
 refine A9 ?_
 (obtain ⟨b, o, e, rfl, hl, hat, hre, hgb⟩ := hsl.kidTm hkl (i := i) zV zV; have htk := A42 (ks := ks) (i := i) zV; refine sP (A6 rfl rfl rfl zV) rfl rfl ?_)
 refine sL (A2 rfl rfl (hat _) hl) rfl rfl ?_
 refine I0 ?_
 refine sP (R9 rfl rfl zV zV) rfl rfl ?_
 (have hvk := hv2 i zV; rw [show D + 1 - d + 1 = D + 1 - (d - 1) by omega] at hvk; refine E5 rfl (ih ks[i] (List.getElem_mem zV) (d - 1) G _ zV hvk zV hre) rfl rfl ?_)
 refine sP (H9 rfl rfl zV zV) rfl rfl ?_
 refine A7 ?_
 refine sP (H9 rfl rfl zV zV) rfl rfl ?_
 refine A3 ?_
 (refine I6 (i + 1) ?_ ?_ ?_; rw [show ((I4 (ks.take (i + 1)) + 1 : Nat) : Int) = ((I4 (ks.take i) + 1 : Nat) : Int) + (J1 ks[i] : Int) from by rw [A43 zV]; omega])
 exact E3
 omega
 omega
 refine Z0 ?_
 (obtain rfl : i = ks.length := zV; rw [List.take_length]; exact ⟨rfl, rfl, rfl⟩)
theorem B10 (t : Tm) (G : IM) (cells : List Value) (hcnt : J1 t ≤ 4294967296) (hr : D1 G t cells) :
  Fn Tryz.prog 25 [.agg ⟨cells⟩] [] G (F8 (.bool (T5 t)) G) := by
 have hl := hr.len
 have hv := B1P t 40 G cells zV hr
 have hc := fun h => A7K 40 13 t 40 G cells zV h hcnt hr
 have hi := A3R t
 obtain ⟨R, hR⟩ : ∃ R, T5 t = R := ⟨_, rfl⟩
 rw [hR] at hi ⊢
 refine D5 Tryz.func25 rfl Tryz.ntmps25 Tryz.results25 rfl ?_
 intro w0
 refine A3 ?_
 refine sE (D8 rfl rfl) rfl (fun b3 => ?_)
 refine A9 ?_
 refine sL (A2 rfl rfl (C9 zO) zS) rfl rfl ?_
 refine I5 rfl (hv) rfl rfl (fun h10 => ?_) (fun h10 => ?_)
 refine I0 ?_
 refine sL (A2 rfl rfl (C9 zO) zS) rfl rfl ?_
 refine E5 rfl (hc zS) rfl rfl ?_
 refine sB (W8 rfl rfl) rfl rfl (fun h14 => ?_) (fun h14 => ?_)
 refine A7 ?_
 exact ⟨rfl, by rw [hi.2 ⟨by assumption, by omega⟩], rfl⟩
 refine A7 ?_
 exact ⟨rfl, by (cases R with | false => rfl | true => (exfalso; have h0 := hi.1 rfl; first | omega | simp_all)), rfl⟩
 refine H3 ?_
 exact ⟨rfl, by (cases R with | false => rfl | true => (exfalso; have h0 := hi.1 rfl; first | omega | simp_all)), rfl⟩
theorem A2p (t : Tm) : V7 t = true ↔ N1 12 14 t 1 = true ∧ J1 t ≤ 30 := by
 have := A5q 30 12 14 t 1 0 zV
 rw [V7, this]
 constructor
 ·rintro ⟨a, b⟩; exact ⟨a, by omega⟩
 ·rintro ⟨a, b⟩; exact ⟨a, by omega⟩
theorem B11 : ∀ (t : Tm) (d : Int) (G : IM) (cells : List Value), 0 ≤ d ∧ d ≤ 12 → D1 G t cells →
  Fn Tryz.prog 193 [.agg ⟨cells⟩, .int .i64 d] [] G (F8 (.bool (N1 12 14 t (13 - d))) G) := by
 refine Tm.ind fun k nm num ty fr lb ks ih d G cells hd hr => ?_
 have hr0 := hr
 have hne := fun h : k ≠ 14 => @A7A k nm num ty fr lb ks.length h
 have har := fun h : R4 k nm num ty fr lb ks.length = true => (S8.1 h).1
 obtain ⟨R, hR⟩ : ∃ R, R4 k nm num ty fr lb ks.length = R := ⟨_, rfl⟩
 rw [hR] at hne har
 have hl2 := A7z k nm num ty fr lb ks G cells hr0 R
 have hk1 := A7o k G
 obtain ⟨tk, tks⟩ := ty
 obtain ⟨fk, fks⟩ := fr
 obtain ⟨pt, ct, pf, cf, p, c, es, rfl, hk, hnum, hlb, hty, hfr, hsl, hkl⟩ := hr.open9
 have hn := hsl.le
 clear hr hr0
 refine D5 Tryz.func193 rfl Tryz.ntmps193 Tryz.results193 rfl ?_
 intro w0
 refine A3 ?_
 refine sE (D8 rfl rfl) rfl (fun b3 => ?_)
 refine A9 ?_
 refine D3 D4 rfl ?_
 refine E9 (i := 0) (l' := [tt,ff,ff,ff,ff,ff,ff,ff,ff,ff,ff,ff,ff,ff,ff,ff,ff,ff,ff,ff,ff]) rfl C1 (qM rfl) rfl zT rfl rfl ?_
 refine V4 (i := 1) (l' := [tt,tt,ff,ff,ff,ff,ff,ff,ff,ff,ff,ff,ff,ff,ff,ff,ff,ff,ff,ff,ff]) rfl C1 (I3 rfl rfl) rfl zT rfl rfl (fun h11 => ?_) (fun h11 => ?_)
 refine aP 2 rfl (qM rfl) rfl ?_
 refine C4 3 rfl rfl rfl ?_
 refine C4 4 rfl rfl rfl ?_
 refine C4 6 rfl rfl rfl ?_
 refine C4 7 rfl rfl rfl ?_
 refine C4 8 rfl rfl rfl ?_
 refine C4 5 rfl rfl rfl ?_
 refine C4 9 rfl rfl rfl ?_
 refine aP 10 rfl (M2 rfl rfl) rfl ?_
 refine aP 11 rfl (qM rfl) rfl ?_
 refine C4 12 rfl rfl rfl ?_
 refine C4 13 rfl rfl rfl ?_
 refine C4 14 rfl rfl rfl ?_
 refine aP 15 rfl (M2 rfl rfl) rfl ?_
 refine aP 16 rfl (qM rfl) rfl ?_
 refine C4 17 rfl rfl rfl ?_
 refine C4 18 rfl rfl rfl ?_
 refine C4 19 rfl rfl rfl ?_
 refine aP 20 rfl (M2 rfl rfl) rfl ?_
 refine E8 ?_
 (rw [A0N (by rw [hR]; first | omega | exact .inr (.inr zS) | exact .inr (.inr (by cases R with | false => rfl | true => exact absurd (har rfl) zV)))]; exact ⟨rfl, rfl, rfl⟩)
 refine aP 2 rfl (qM rfl) rfl ?_
 refine aP 3 rfl (B0 rfl) rfl ?_
 refine aL 4 rfl (B3 rfl rfl) rfl ?_
 refine aP 6 rfl (B0 rfl) rfl ?_
 refine aL 7 rfl (B3 rfl rfl) rfl ?_
 refine aP 8 rfl (pLn rfl rfl) rfl ?_
 refine A0 5 ?_
 refine M8 rfl rfl (hk1) rfl rfl rfl ?_
 refine V4 (i := 9) (l' := [tt,tt,tt,tt,tt,tt,tt,tt,tt,tt,ff,ff,ff,ff,ff,ff,ff,ff,ff,ff,ff]) rfl C1 (O6 rfl rfl) rfl zT rfl rfl (fun h51 => ?_) (fun h51 => ?_)
 refine aP 10 rfl (N7 rfl rfl) rfl ?_
 refine aP 11 rfl (qM rfl) rfl ?_
 refine C4 12 rfl rfl rfl ?_
 refine C4 13 rfl rfl rfl ?_
 refine C4 14 rfl rfl rfl ?_
 refine aP 15 rfl (M2 rfl rfl) rfl ?_
 refine aP 16 rfl (qM rfl) rfl ?_
 refine C4 17 rfl rfl rfl ?_
 refine C4 18 rfl rfl rfl ?_
 refine C4 19 rfl rfl rfl ?_
 refine aP 20 rfl (M2 rfl rfl) rfl ?_
 refine E8 ?_
 (rw [A0N (by rw [hR]; first | omega | exact .inr (.inr zS) | exact .inr (.inr (by cases R with | false => rfl | true => exact absurd (har rfl) zV)))]; exact ⟨rfl, rfl, rfl⟩)
 refine aP 10 rfl (N7 rfl rfl) rfl ?_
 refine aP 11 rfl (qM rfl) rfl ?_
 refine aP 12 rfl (B0 rfl) rfl ?_
 refine aL 13 rfl (B3 rfl rfl) rfl ?_
 refine V4 (i := 14) (l' := [tt,tt,tt,tt,tt,tt,tt,tt,tt,tt,tt,tt,tt,tt,tt,ff,ff,ff,ff,ff,ff]) rfl C1 (qE rfl rfl) rfl zT rfl rfl (fun h79 => ?_) (fun h79 => ?_)
 refine aP 15 rfl (N7 rfl rfl) rfl ?_
 refine aP 16 rfl (qM rfl) rfl ?_
 refine C4 17 rfl rfl rfl ?_
 refine C4 18 rfl rfl rfl ?_
 refine C4 19 rfl rfl rfl ?_
 refine aP 20 rfl (M2 rfl rfl) rfl ?_
 refine E8 ?_
 (rw [A0N (by rw [hR]; first | omega | exact .inr (.inr zS) | exact .inr (.inr (by cases R with | false => rfl | true => exact absurd (har rfl) zV)))]; exact ⟨rfl, rfl, rfl⟩)
 refine aP 15 rfl (N7 rfl rfl) rfl ?_
 refine aP 16 rfl (qM rfl) rfl ?_
 refine aL 17 rfl (A1 rfl rfl) rfl ?_
 refine A0 18 ?_
 refine Q3 rfl rfl (hl2 (hne zV zV)) rfl rfl rfl (fun h102 => ?_) (fun h102 => ?_)
 refine aP 19 rfl (Z6 rfl) rfl ?_
 refine aP 20 rfl (N7 rfl rfl) rfl ?_
 refine E8 ?_
 refine B7 ?_
 (refine J3 (fun (i : Nat) => ⟨[(5, .int .i64 i), (2, .pointer (some ⟨b3, 0, none⟩)), (1, .int .i64 d)], [.blk b3 [.int .i64 k, .string nm, .int .i64 num, .int .i64 tk, .slice pt tks.length ct, .int .i64 fk, .slice pf fks.length cf, .int .i64 lb, .slice p ks.length c]], G⟩) (fun i => i ≤ ks.length ∧ ∀ j (h : j < ks.length), j < i → N1 12 14 ks[j] (13 - d + 1) = true) (fun i => ks.length - i) 0 ?_ ?_ ?_)
 exact E3
 exact ⟨by omega, by omega⟩
 (rintro i ⟨hi, hf⟩)
 refine A8 ?_
 refine sB (I3 rfl rfl) rfl rfl (fun h128 => ?_) (fun h128 => ?_)
 refine A7 ?_
 refine B7 ?_
 refine A9 ?_
 (obtain ⟨b, o, e, rfl, hl, hat, hre, hgb⟩ := hsl.kidTm hkl (i := i) zV zV; refine sP (A6 rfl rfl rfl zV) rfl rfl ?_)
 refine sL (A2 rfl rfl (hat _) hl) rfl rfl ?_
 refine I0 ?_
 refine sP (R9 rfl rfl zV zV) rfl rfl ?_
 (have hih := ih ks[i] (List.getElem_mem zV) (d - 1) G _ zV hre; rw [show 13 - (d - 1) = 13 - d + 1 by omega] at hih; refine I5 rfl hih rfl rfl (fun h145 => ?_) (fun h145 => ?_))
 refine C2 ?_
 refine sP (H9 rfl rfl zV zV) rfl rfl ?_
 refine A3 ?_
 refine I6 (i + 1) ?_ ?_ ?_
 exact E3
 exact ⟨by omega, fun j hj hji => by (by_cases he : j = i; (subst he; assumption); exact hf j hj zV)⟩
 omega
 refine K0 ?_
 (rw [A0O zV zV (hR.trans zS), A5j (i := i) zV zS]; exact ⟨rfl, rfl, rfl⟩)
 refine I9 ?_
 (rw [A0O zV zV (hR.trans zS), (A0A 12 14 ks _).2 (fun j hj => hf j hj zV)]; exact ⟨rfl, rfl, rfl⟩)
 refine aP 19 rfl (pNf rfl) rfl ?_
 refine aP 20 rfl (N7 rfl rfl) rfl ?_
 refine E8 ?_
 (rw [A0N (by rw [hR]; first | omega | exact .inr (.inr zS) | exact .inr (.inr (by cases R with | false => rfl | true => exact absurd (har rfl) zV)))]; exact ⟨rfl, rfl, rfl⟩)
theorem B12 (t : Tm) (G : IM) (cells : List Value) (hcnt : J1 t ≤ 4294967296) (hr : D1 G t cells) :
  Fn Tryz.prog 170 [.agg ⟨cells⟩] [] G (F8 (.bool (V7 t)) G) := by
 have hl := hr.len
 have hv := B11 t 12 G cells zV hr
 have hc := fun h => A7K 12 14 t 12 G cells zV h hcnt hr
 have hi := A2p t
 obtain ⟨R, hR⟩ : ∃ R, V7 t = R := ⟨_, rfl⟩
 rw [hR] at hi ⊢
 refine D5 Tryz.func170 rfl Tryz.ntmps170 Tryz.results170 rfl ?_
 intro w0
 refine A3 ?_
 refine sE (D8 rfl rfl) rfl (fun b3 => ?_)
 refine A9 ?_
 refine sL (A2 rfl rfl (C9 zO) zS) rfl rfl ?_
 refine I5 rfl (hv) rfl rfl (fun h10 => ?_) (fun h10 => ?_)
 refine I0 ?_
 refine sL (A2 rfl rfl (C9 zO) zS) rfl rfl ?_
 refine E5 rfl (hc zS) rfl rfl ?_
 refine sB (W8 rfl rfl) rfl rfl (fun h14 => ?_) (fun h14 => ?_)
 refine A7 ?_
 exact ⟨rfl, by rw [hi.2 ⟨by assumption, by omega⟩], rfl⟩
 refine A7 ?_
 exact ⟨rfl, by (cases R with | false => rfl | true => (exfalso; have h0 := hi.1 rfl; first | omega | simp_all)), rfl⟩
 refine H3 ?_
 exact ⟨rfl, by (cases R with | false => rfl | true => (exfalso; have h0 := hi.1 rfl; first | omega | simp_all)), rfl⟩
theorem Sw.same {hp hp' : List A5} {e : A5} (h : Sw hp e e hp') : hp' = hp := by
 generalize he : e = e' at h
 have : ∀ {hp e e' hp'}, Sw hp e e' hp' → e = e' → hp' = hp := by
  intro hp e e' hp' h
  induction h with
  | here => rintro rfl; rfl
  | there _ ih => intro he; rw [ih he]
 subst he
 exact this h rfl
section
variable {P : Program} {Γ : K7} {env : L4} {hp : List A5} {G : IM} {ty : TypeId}
theorem A7L {d : Nat} {x y : Operand} {t el : TypeId} {i : K4} {sz by' : Nat} {zs : List Value} [hI : H2 P t i] {ie : K4} [hEl : H2 P el ie] (hd' : i.desc = .slice el) [hE : Q5 P el sz by' zs] {p q : Option Addr} {c n m c2 : Nat} {cs news : List Value} {hp' : Option Addr → Nat → List A5}
  (hd : Nat.blt d Γ.n = true) (hx : evo env x = some (.slice p n c)) (hy : evo env y = some (.slice q m c2)) (hsz : Nat.blt 0 sz = true)
  (hm : ∀ p' c', Sw hp (.slc p c el sz n cs) (.slc p' c' el sz (n + m) (cs ++ news)) (hp' p' c'))
  (hS : Sl G q m c2 sz news) (h1 : ∀ u ∈ news, u.oneCell' = true) (hc : n ≤ c)
  (h63 : n + m ≤ maxLen) (hb : (n + m) * by' ≤ 140737488355328) :
  T1 P Γ ⟨env, hp, G⟩ (some d) (.call ⟨.builtin .append, ⟨[x, y]⟩, ⟨[t, t]⟩⟩) ty (I2 p) (fun σ' => ∃ p' c', σ' = ⟨(d, .slice p' (n + m) c') :: env, hp' p' c', G⟩) := by
 obtain ⟨hl, _, _, hat⟩ := hS
 rcases Nat.eq_zero_or_pos m with rfl | hm0
 ·obtain rfl : news = [] := List.length_eq_zero_iff.1 zV
  have hpu := B0u (P := P) (Γ := Γ) (hp := hp) (G := G) (ty := ty) (t := t) (el := el) hd' hx hy hc
  refine ⟨fun a w hs pos af gd Q next hn => ?_⟩
  simp only [Oper.wp, hpu.run a w hs, Oper.upon]
  refine hn _ _ _ (hs.put d _ (by simpa using hd) hs.res) (Y8.refl _ _) ⟨p, c, ?_⟩
  have h0 := hm p c
  simp only [Nat.add_zero, List.append_nil] at h0 ⊢
  rw [h0.same]
 ·obtain ⟨b, o, full, rfl, hg, hv⟩ := hat.resolve_left zV
  exact A4T hd' hd hx hy hsz hm (A4L hg hv) hl h1 h63 hb
variable {K : Po} {ops : Array Oper} {rest : List Oper} {pos : String} {af : Array Edge} {gd : Option (Nat × Bool)}
theorem B13 {d : Nat} {x y : Operand} {t el : TypeId} {i : K4} {sz by' : Nat} {zs : List Value} [hI : H2 P t i] {ie : K4} [hEl : H2 P el ie] [hE : Q5 P el sz by' zs] {p q : Option Addr} {c n m c2 : Nat} {cs news : List Value} {hp' : Option Addr → Nat → List A5}
  (hd' : i.desc = .slice el) (hd : Nat.blt d Γ.n = true) (hx : evo env x = some (.slice p n c)) (hy : evo env y = some (.slice q m c2)) (hsz : Nat.blt 0 sz = true)
  (hm : ∀ p' c', Sw hp (.slc p c el sz n cs) (.slc p' c' el sz (n + m) (cs ++ news)) (hp' p' c'))
  (hS : Sl G q m c2 sz news) (h1 : ∀ u ∈ news, u.oneCell' = true) (hc : n ≤ c)
  (h63 : n + m ≤ maxLen) (hb : (n + m) * by' ≤ 140737488355328) (hw : K2 ops env gd = some true)
  (k : ∀ p' c', H6 P Γ ops rest K ⟨(d, .slice p' (n + m) c') :: env, hp' p' c', G⟩) : H6 P Γ ops (⟨some d, .call ⟨.builtin .append, ⟨[x, y]⟩, ⟨[t, t]⟩⟩, ty, pos, af, gd⟩ :: rest) K ⟨env, hp, G⟩ :=
 F0 (A7L hd' hd hx hy hsz hm hS h1 hc h63 hb) hw (by rintro _ ⟨p', c', rfl⟩; exact k p' c')
theorem A1d {H : List (Nat × Nat)} {fuel : Nat} {listed l' : List Bool} {j d : Nat} {cs : List Value} {x y : Operand} {t el : TypeId} {i : K4} {sz by' : Nat} {zs : List Value} [hI : H2 P t i] {ie : K4} [hEl : H2 P el ie] [hE : Q5 P el sz by' zs] {p q : Option Addr} {c n m c2 : Nat} {news : List Value} {hp' : Option Addr → Nat → List A5} {H' : List (Nat × Nat)}
  (hi : ops[j]? = some ⟨some d, .call ⟨.builtin .append, ⟨[x, y]⟩, ⟨[t, t]⟩⟩, ty, pos, af, gd⟩) (hd' : i.desc = .slice el)
  (hd : Nat.blt d Γ.n = true) (hx : evo env x = some (.slice p n c)) (hy : evo env y = some (.slice q m c2)) (hsz : Nat.blt 0 sz = true)
  (hm : ∀ p' c', Sw hp (.slc p c el sz n cs) (.slc p' c' el sz (n + m) (cs ++ news)) (hp' p' c'))
  (hS : Sl G q m c2 sz news) (h1 : ∀ u ∈ news, u.oneCell' = true) (hc : n ≤ c)
  (h63 : n + m ≤ maxLen) (hb : (n + m) * by' ≤ 140737488355328) (hw : K2 ops env gd = some true) (hl : listed.set j true = l')
  (hok : B5 ops j hp G (.slc p c el sz n cs) H H')
  (k : ∀ p' c', L9 P Γ ops K H' fuel l' ⟨(d, .slice p' (n + m) c') :: env, hp' p' c', G⟩) : Q9 P Γ ops K H fuel listed j ⟨env, hp, G⟩ :=
 A2S hi (A7L hd' hd hx hy hsz hm hS h1 hc h63 hb) hw hl (fun _ _ hs => hok.spec hs) hok.filter (by rintro _ ⟨p', c', rfl⟩; exact k p' c')
theorem B14 {H H' : List (Nat × Nat)} {fuel : Nat} {listed l' : List Bool} {j d : Nat} {f : FuncId} [hF : B9 P f] {xs : List Operand} {ats : Array TypeId} {vs : List Value} {e : A5} {rst : List A5} {post : IM → Value → List A5 → Prop}
  (hi : ops[j]? = some ⟨some d, .call ⟨.value (.func f), ⟨xs⟩, ats⟩, ty, pos, af, gd⟩) (hx : evl env xs = some vs) (h : Fn P f vs [e] G post) (hp' : hp.Perm ([e] ++ rst)) (hw : K2 ops env gd = some true) (hd : Nat.blt d Γ.n = true) (hl : listed.set j true = l')
  (hok : B5 ops j hp G e H H')
  (k : ∀ v G' outs, D2 G G' → post G' v outs → L9 P Γ ops K H' fuel l' ⟨(d, v) :: env, outs ++ rst, G'⟩) : Q9 P Γ ops K H fuel listed j ⟨env, hp, G⟩ :=
 A2S hi (A3x hx h hp' hd) hw hl (fun _ _ hs => by simpa [Fp] using hok.spec hs) hok.filter (by rintro _ ⟨v, G', outs, rfl, hle, hq⟩; exact k v G' outs hle hq)
end
section forget
variable {P : Program} {Γ : K7} {env : L4} {hp : List A5} {G : IM} {K : Po} {ops : Array Oper} {rest : List Oper} {ty : TypeId} {pos : String} {af : Array Edge} {gd : Option (Nat × Bool)}
end forget
def tAt : Tm → List Int → Option Tm
 | t, [] => some t
 | .mk _ _ _ _ _ _ ks, i :: is => if h : 0 ≤ i ∧ i < ks.length then tAt (ks[i.toNat]'zV) is else none
def z9 : List Value := [.int .i64 0, .string ⟨⟨[]⟩⟩, .int .i64 0, .int .i64 0, .slice none 0 0, .int .i64 0, .slice none 0 0, .int .i64 0, .slice none 0 0]
def AtP (t : Tm) (path : List Int) (G : IM) : IM → Value → List A5 → Prop := fun G' v outs => G' = G ∧ outs = [] ∧
 ((∃ x cells, tAt t path = some x ∧ D1 G x cells ∧ v = .tuple ⟨[.agg ⟨cells⟩, .bool true]⟩) ∨ (tAt t path = none ∧ v = .tuple ⟨[.agg ⟨z9⟩, .bool false]⟩))
def P2 : Tm := .mk 0 ⟨⟨[]⟩⟩ 0 (.mk 0 []) (.mk 0 []) 0 []
theorem O2.zero (G : IM) : O2 G P2 z9 [] := by
 simp only [P2, O2, N5, L5, L8, z9]
 refine ⟨[.int .i64 0, .slice none 0 0], [.int .i64 0, .slice none 0 0], none, 0, [], [], [], [], rfl, ⟨by omega, by omega⟩, ⟨by omega, by omega⟩, ⟨by omega, by omega⟩, ?_, ?_, C8.nil _ _, ⟨rfl, rfl⟩, rfl, by simp [I2]⟩
 ·exact ⟨none, 0, [], [], rfl, ⟨by omega, by omega⟩, C8.nil _ _, ⟨rfl, rfl⟩, rfl, by simp [I2]⟩
 ·exact ⟨none, 0, [], [], rfl, ⟨by omega, by omega⟩, C8.nil _ _, ⟨rfl, rfl⟩, rfl, by simp [I2]⟩
def B4X (t : Tm) (path : List Int) : Tm × Bool := if T5 t = true then (match tAt t path with | some x => (x, true) | none => (P2, false)) else (P2, false)
def TbP (r : Tm × Bool) (G : IM) : IM → Value → List A5 → Prop := K9 fun G' v => ∃ cells F, v = .tuple ⟨[.agg ⟨cells⟩, .bool r.2]⟩ ∧ O2 (E2 G' G) r.1 cells F ∧ F.Nodup
section rlaws
variable {P : Program} {Γ : K7} {env : L4} {hp : List A5} {G : IM} {ty : TypeId}
theorem A7M {x y : Operand} {t el : TypeId} {i : K4} {sz by' : Nat} {zs : List Value} [hI : H2 P t i] (hd' : i.desc = .slice el) [hE : Q5 P el sz by' zs] {p : Option Addr} {n c l : Nat}
  (hx : evo env x = some (.slice p n c)) (hy : evo env y = some (.int .i64 (l : Int))) (hl : l ≤ c) :
  I8 P Γ ⟨env, hp, G⟩ (.slice t x none (some y) none) ty (.slice p l c) := by
 refine ⟨fun a _ hs _ _ _ _ w => ?_⟩
 have hu := hI.und
 rw [hd'] at hu
 obtain ⟨d, hE⟩ := hE.ok
 obtain ⟨inf, z, t1, t2, t3, _⟩ := A2g (P := P) (t := el)
 have e1 : a.eval x = _ := hs.evo hx
 have e2 : a.eval y = _ := hs.evo hy
 have hb : ∀ code, (Instr.sliceBound (.int .i64 (l : Int)) c code).run P w = .ok l w := fun code => by
  unfold Instr.sliceBound
  simp only [asIntOf, Sem.run_bind, Sem.run_pure, Result.andThen_ok]
  rw [if_pos ⟨by omega, by omega⟩]
  simp
 simp only [execOp, Option.map, e1, e2, Instr.sliceAt, Sem.run_bind, run_underlying hu, Result.andThen_ok, Instr.slice, Instr.sliceBounds, Sem.run_pure, hb, t3]
 by_cases h : c = 0
 ·subst h; simp
 ·rw [if_neg h]; simp; cases p <;> simp [Addr.add]
end rlaws
def B15 (bs : List UInt8) : List Value := bs.map fun b => .int .u8 (b.toNat : Int)
def rd (br : Nat) (pb : Option Addr) (nb cb p : Nat) : A5 := .blk br [.slice pb nb cb, .int .i64 (p : Int)]
def B4Y (br : Nat) (pb : Option Addr) (nb cb p B : Nat) (Φ : IM → Value → Prop) : IM → Value → List A5 → Prop := fun G' v outs => ∃ p', p ≤ p' ∧ p' ≤ p + B ∧ outs = [rd br pb nb cb p'] ∧ Φ G' v
structure A3S {ι : Type} (S : ι → Sy) (φ : ι → Prop) (e : Exit) (σ : Sy) : Prop where
 run : match e with
  | .normal => ∃ i, φ i ∧ Sub σ (S i)
  | _ => False
section cut
variable {P : Program} {Γ : K7} {K : Po} {σ : Sy} {ι : Type}
theorem A1X {c y : Code} (S : ι → Sy) (φ : ι → Prop) (h : J7 P Γ c (A3S S φ) σ) (k : ∀ i, φ i → J7 P Γ y K (S i)) : J7 P Γ c (A0J P Γ y K) σ := by
 refine tri_post h ?_
 rintro e σ ⟨hk⟩
 cases e with
 | normal => obtain ⟨i, hi, hs⟩ := hk; exact ⟨A9V hs (k i hi)⟩
 | _ => exact hk.elim
where
 tri_post {c : Code} {K K' : Po} {σ : Sy} (h : J7 P Γ c K σ) (hk : ∀ e σ, K e σ → K' e σ) : J7 P Γ c K' σ := A53 h hk
theorem A0C {S : ι → Sy} {φ : ι → Prop} {σ : Sy} (i : ι) (hs : Sub σ (S i)) (h : φ i) : A3S S φ .normal σ := ⟨⟨i, h, hs⟩⟩
theorem B16 {S : ι → Sy} {φ : ι → Prop} : X8 (A3S S φ) := fun _ _ h => h.run
instance npC5 {S : ι → Sy} {φ : ι → Prop} : NpC (A3S S φ) := ⟨B16⟩
end cut
section take
variable {P : Program} {Γ : K7} {env : L4} {hp : List A5} {G : IM} {K : Po} {ops : Array Oper} {rest : List Oper} {ty : TypeId} {pos : String} {af : Array Edge} {gd : Option (Nat × Bool)}
theorem A7N {d : Nat} {f : FuncId} [hF : B9 P f] {xs : List Operand} {ats : Array TypeId} {vs : List Value} {ins rst : List A5} {post : IM → Value → List A5 → Prop}
  (hx : evl env xs = some vs) (h : Fn P f vs ins G post) (hp' : hp.Perm (ins ++ rst)) (hw : K2 ops env gd = some true) (hd : Nat.blt d Γ.n = true)
  (k : ∀ v G' outs, D2 G G' → post G' v outs → H6 P Γ ops rest K ⟨(d, v) :: env, outs ++ rst, G'⟩) : H6 P Γ ops (⟨some d, .call ⟨.value (.func f), ⟨xs⟩, ats⟩, ty, pos, af, gd⟩ :: rest) K ⟨env, hp, G⟩ :=
 F0 (A3x hx h hp' hd) hw (by rintro _ ⟨v, G', outs, rfl, hle, hq⟩; exact k v G' outs hle hq)
end take
theorem A5r (G : IM) : Fn Tryz.prog 54 [] [] G (F8 (.agg ⟨[.int .i64 1, .slice none 0 0]⟩) G) := by
 refine D5 Tryz.func54 rfl Tryz.ntmps54 Tryz.results54 rfl ?_
 intro w0
 refine A3 ?_
 refine sE (A4 rfl) rfl (fun b3 => ?_)
 refine C2 ?_
 refine I7 (rC rfl (A1 rfl rfl)) ?_
 exact ⟨rfl, rfl, rfl⟩
def dB : Nat → Nat
 | 0 => 0
 | d + 1 => 2 * dB d + 2
theorem F4.ty {G : IM} {k : Int} {ts : List Ty} {es : List (List Value)} {p : Option Addr} {n c : Nat} (h : F4 G ts es) (hn : ts.length = n) (hs : Sl G p n c 2 es.flatten) (hk : F9 k) : C7 G (.mk k ts) [.int .i64 k, .slice p n c] := by
 subst hn
 simp only [C7]
 exact ⟨p, c, es, rfl, hk, C8.of hs h.len h.all (fun e he => (h.each e he).2), h⟩
theorem A1Y (G : IM) : C7 G P7 [.int .i64 1, .slice none 0 0] := by
 simp only [P7, C7]
 exact ⟨none, 0, [], rfl, ⟨by omega, by omega⟩, C8.of (Sl.nil _ _) rfl zW zW, by simp [F4]⟩
mutual
def B17 : Tm → Tm
 | .mk k nm num ty fr lb ks => if k = 13 ∨ k = 14 then (A5s ks).headD P2 else .mk k nm num (if k = 5 then P7 else C6) C6 0 (A5s ks)
def A5s : List Tm → List Tm
 | [] => []
 | t :: ts => B17 t :: A5s ts
end
def B4Z : Tm → Tm
 | .mk k nm num ty fr lb ks => if k = 13 ∨ k = 14 then ks.headD P2 else if k = 5 then .mk k nm num P7 fr lb ks else .mk k nm num ty fr lb ks
def B40 : Tm → Prop
 | .mk k _ _ _ _ _ ks => k = 13 ∨ k = 14 → ks ≠ []
theorem A1Z {t : Ty} (h : V0 t = true) : t = C6 := by
 obtain ⟨k, ks⟩ := t
 obtain ⟨h1, h2⟩ : (Ty.mk k ks).k = 0 ∧ (Ty.mk k ks).ks.length = 0 := of_decide_eq_true h
 simp only [Ty.k, Ty.ks] at h1 h2
 have h3 : ks = [] := List.length_eq_zero_iff.1 zV
 rw [h3, C6]
 congr
theorem A0Q {D N : Int} {k : Int} {nm : ByteArray} {num : Int} {ty fr : Ty} {lb : Int} {ks : List Tm} {d : Int} (h : N1 D N (.mk k nm num ty fr lb ks) d = true) : d ≤ D ∧ k ≠ N ∧ R4 k nm num ty fr lb ks.length = true ∧ N2 D N ks (d + 1) = true := by
 rw [N1] at h
 simp only [Bool.and_eq_true, decide_eq_true_eq] at h
 exact ⟨h.1.1.1, h.1.1.2, h.1.2, h.2⟩
section slaws
variable {P : Program} {Γ : K7} {env : L4} {hp : List A5} {G : IM} {ty : TypeId}
end slaws
theorem A2q (G : IM) : C7 G C6 [.int .i64 0, .slice none 0 0] := by
 simp only [C6, C7]
 exact ⟨none, 0, [], rfl, ⟨by omega, by omega⟩, C8.of (Sl.nil _ _) rfl zW zW, by simp [F4]⟩
theorem A10 (k : Int) : H8 k ≤ 3 := by
 unfold H8; repeat (split; omega)
 omega
theorem B18 (n : Int) (G : IM) : Fn Tryz.prog 98 [.int .i64 n] [] G (F8 (.agg ⟨[.int .i64 2, .string ⟨⟨[]⟩⟩, .int .i64 n, .int .i64 0, .slice none 0 0, .int .i64 0, .slice none 0 0, .int .i64 0, .slice none 0 0]⟩) G) := by
 refine D5 Tryz.func98 rfl Tryz.ntmps98 Tryz.results98 rfl ?_
 intro w0
 refine A3 ?_
 refine sE (A4 rfl) rfl (fun b3 => ?_)
 refine H3 ?_
 refine I7 (rC rfl (A1 rfl rfl)) ?_
 exact ⟨rfl, rfl, rfl⟩
def tB : Nat → Nat
 | 0 => 3
 | d + 1 => 3 * tB d + 20
def B41 (G : IM) : IM → Value → List A5 → Prop := fun G' v outs => G' = G ∧ ∃ br pb nb cb bs, v = .pointer (some ⟨br, 0, none⟩) ∧ outs = [rd br pb nb cb 0] ∧ nb ≤ 2000 ∧ Sl G pb nb cb 1 (B15 bs)
theorem A0R (G : IM) : Fn Tryz.prog 172 [] [] G (F8 (.agg ⟨[.int .i64 2, .slice none 0 0]⟩) G) := by
 refine D5 Tryz.func172 rfl Tryz.ntmps172 Tryz.results172 rfl ?_
 intro w0
 refine A3 ?_
 refine sE (A4 rfl) rfl (fun b3 => ?_)
 refine C2 ?_
 refine I7 (rC rfl (A1 rfl rfl)) ?_
 exact ⟨rfl, rfl, rfl⟩
theorem A26 (G : IM) : Fn Tryz.prog 173 [] [] G (F8 (.agg ⟨[.int .i64 3, .slice none 0 0]⟩) G) := by
 refine D5 Tryz.func173 rfl Tryz.ntmps173 Tryz.results173 rfl ?_
 intro w0
 refine A3 ?_
 refine sE (A4 rfl) rfl (fun b3 => ?_)
 refine C2 ?_
 refine I7 (rC rfl (A1 rfl rfl)) ?_
 exact ⟨rfl, rfl, rfl⟩
theorem N9 (G : IM) {k : Int} (hk : F9 k) : C7 G (.mk k []) [.int .i64 k, .slice none 0 0] := by
 simp only [C7]
 exact ⟨none, 0, [], rfl, hk, C8.of (Sl.nil _ _) rfl zW zW, by simp [F4]⟩
theorem B19 (k : Int) : O7 (.mk k []) = 0 := rfl
def TyB (B : Int) (G : IM) : IM → Value → List A5 → Prop := K9 fun G' v => ∃ t cells b, v = .tuple ⟨[.agg ⟨cells⟩, .bool b]⟩ ∧ C7 G' t cells ∧ H1 t ∧ O7 t ≤ B
theorem A3T {k : Int} {a b : Ty} (hk : k = 4 ∨ k = 5) (ha : H1 a) (hb : H1 b) : H1 (.mk k [a, b]) := by
 rw [H1]
 exact ⟨fun _ => rfl, fun h4 h5 => by omega, by simp [V3, ha, hb]⟩
theorem P8 {k : Int} (h4 : k ≠ 4) (h5 : k ≠ 5) : H1 (.mk k []) := (B1I 0 h4 h5).ar
theorem H1.kid {k : Int} {ks : List Ty} (h : H1 (.mk k ks)) : ∀ t ∈ ks, H1 t := by
 rw [H1] at h; exact A21.1 h.2.2
theorem H1.two {k : Int} {ks : List Ty} (h : H1 (.mk k ks)) : ks.length ≤ 2 := by
 rw [H1] at h
 have h1 := h.1
 have h2 := h.2.1
 omega
def B42 (B : Int) (G : IM) : IM → Value → List A5 → Prop := K9 fun G' v => ∃ a ca b cb x, v = .tuple ⟨[.agg ⟨ca⟩, .agg ⟨cb⟩, .bool x]⟩ ∧ C7 G' a ca ∧ H1 a ∧ O7 a ≤ B ∧ C7 G' b cb ∧ H1 b ∧ O7 b ≤ B
def TyP (B : Int) (Q : Ty → Prop) (G : IM) : IM → Value → List A5 → Prop := K9 fun G' v => ∃ t cells, v = .agg ⟨cells⟩ ∧ C7 G' t cells ∧ H1 t ∧ O7 t ≤ B ∧ Q t
theorem B2a {k : Int} {ks us : List Ty} (h : H1 (.mk k ks)) (hl : us.length = ks.length) (hu : ∀ u ∈ us, H1 u) : H1 (.mk k us) := by
 rw [H1] at h ⊢
 exact ⟨fun hk => by rw [hl]; exact h.1 hk, fun a b => by rw [hl]; exact h.2.1 a b, A21.2 hu⟩
theorem A3U {P : Ty → Prop} {us : List Ty} {u : Ty} (h : ∀ x ∈ us, P x) (hu : P u) : ∀ x ∈ us ++ [u], P x := by
 simp only [List.forall_mem_append, List.forall_mem_singleton]; exact ⟨h, hu⟩
theorem A1w : ∀ (t t' : Ty) (G : IM) (cells cells' : List Value), H1 t → H1 t' → C7 G t cells → C7 G t' cells' →
  Fn Tryz.prog 101 [.agg ⟨cells⟩, .agg ⟨cells'⟩] [] G (F8 (.bool (J0 t t')) G) := by
 refine Ty.ind fun k ks ih t' G cells cells' ha ha' hr hr' => ?_
 obtain ⟨k', ks'⟩ := t'
 obtain ⟨p, c, es, rfl, hk, hsl, hkl⟩ := hr.open
 obtain ⟨p', c', es', rfl, hk', hsl', hkl'⟩ := hr'.open
 simp only [Ty.k, Ty.ks] at hk hsl hkl hk' hsl' hkl' ⊢
 have hn := hsl.le
 have hn' := hsl'.le
 have hv2 := ha.kid
 have hv2' := ha'.kid
 rw [H1] at ha ha'
 have hle : k = k' → ks.length = ks'.length := by
  rintro rfl
  have h1 := ha.1
  have h2 := ha.2.1
  have h3 := ha'.1
  have h4 := ha'.2.1
  omega
 refine D5 Tryz.func101 rfl Tryz.ntmps101 Tryz.results101 rfl ?_
 intro w0
 refine A3 ?_
 refine sE (D8 rfl rfl) rfl (fun b3 => ?_)
 refine sE (D8 rfl rfl) rfl (fun b4 => ?_)
 refine B4 ?_
 refine sB (qE rfl rfl) rfl rfl (fun h13 => ?_) (fun h13 => ?_)
 refine K0 ?_
 (rw [A3P zV]; exact ⟨rfl, rfl, rfl⟩)
 refine B2 ?_
 refine sB (qE rfl rfl) rfl rfl (fun h34 => ?_) (fun h34 => ?_)
 refine K1 ?_
 (rw [A3P zV]; exact ⟨rfl, rfl, rfl⟩)
 refine G9 ?_
 refine sB (O6 rfl rfl) rfl rfl (fun h61 => ?_) (fun h61 => ?_)
 refine E8 ?_
 (rw [A7w zV zV zV]; exact ⟨rfl, rfl, rfl⟩)
 refine E8 ?_
 refine B7 ?_
 (have hll : ks.length = ks'.length := hle zV; refine J3 (fun (i : Nat) => ⟨[(5, .int .i64 i), (3, .pointer (some ⟨b4, 0, none⟩)), (2, .pointer (some ⟨b3, 0, none⟩))], [.blk b3 [.int .i64 k, .slice p ks.length c], .blk b4 [.int .i64 k', .slice p' ks'.length c']], G⟩) (fun i => i ≤ ks.length ∧ ∀ j (h : j < ks.length) (h' : j < ks'.length), j < i → J0 ks[j] ks'[j] = true) (fun i => ks.length - i) 0 ?_ ?_ ?_)
 exact E3
 exact ⟨by omega, by omega⟩
 (rintro i ⟨hi, hf⟩)
 refine A8 ?_
 refine sB (I3 rfl rfl) rfl rfl (fun h97 => ?_) (fun h97 => ?_)
 refine A7 ?_
 refine B7 ?_
 refine tS ?_
 (obtain ⟨b, o, p2, c2, rfl, hat, hre, hgb⟩ := hsl.kidTy hkl (i := i) zV zV; obtain ⟨b', o', p2', c2', rfl, hat', hre', hgb'⟩ := hsl'.kidTy hkl' (i := i) zV zV; refine D3 D4 rfl ?_)
 refine E9 (i := 0) (l' := [tt,ff,ff,ff,ff,ff,ff,ff,ff,ff,ff,ff]) rfl C1 (B0 rfl) rfl zT rfl rfl ?_
 refine aL 1 rfl (B3 rfl rfl) rfl ?_
 refine aP 2 rfl (qM rfl) rfl ?_
 refine aP 3 rfl (A6 rfl rfl rfl zV) rfl ?_
 refine aL 4 rfl (A2 rfl rfl (hat _) rfl) rfl ?_
 refine aP 5 rfl (B0 rfl) rfl ?_
 refine aL 6 rfl (B3 rfl rfl) rfl ?_
 refine aP 7 rfl (qM rfl) rfl ?_
 refine aP 8 rfl (A6 rfl rfl rfl zV) rfl ?_
 refine aL 9 rfl (A2 rfl rfl (hat' _) rfl) rfl ?_
 refine A0 10 ?_
 refine Q3 rfl rfl (ih ks[i] (List.getElem_mem zV) ks'[i] G _ _ (hv2 _ (List.getElem_mem zV)) (hv2' _ (List.getElem_mem zV)) hre hre') rfl rfl rfl (fun h118 => ?_) (fun h118 => ?_)
 refine aP 11 rfl (Z6 rfl) rfl ?_
 refine B4 ?_
 refine sP (H9 rfl rfl zV zV) rfl rfl ?_
 refine A3 ?_
 refine I6 (i + 1) ?_ ?_ ?_
 exact E3
 exact ⟨by omega, fun j hj hj' hji => by (by_cases he : j = i; (subst he; assumption); exact hf j hj hj' zV)⟩
 omega
 refine aP 11 rfl (pNf rfl) rfl ?_
 refine I9 ?_
 (rw [A3Q zV zV zV, A7x (i := i) zV zV zS]; exact ⟨rfl, rfl, rfl⟩)
 refine I9 ?_
 (rw [A3Q zV zV zV, (A1q ks _).2 ⟨hll, fun j hj hj' => hf j hj hj' zV⟩]; exact ⟨rfl, rfl, rfl⟩)
theorem At.sub {hp : List A5} {G : IM} {b o j : Nat} {vs : List Value} {v : Value} (h : At hp G b o vs) (hj : vs[j]? = some v) : At hp G b (o + j) [v] := by
 have key : ∀ {cs : List Value}, (∀ i u, vs[i]? = some u → cs[o + i]? = some u) → ∀ i u, [v][i]? = some u → cs[o + j + i]? = some u := by
  intro cs hc i u hu
  cases i with
  | zero => simp at hu; subst hu; simpa using hc j v hj
  | succ i => simp at hu
 rcases h with ⟨cs, hm, hv⟩ | ⟨n, c, el, sz, cs, hm, hv⟩ | ⟨full, hg, hv⟩
 ·exact .inl ⟨cs, hm, key hv⟩
 ·exact .inr (.inl ⟨n, c, el, sz, cs, hm, key hv⟩)
 ·exact .inr (.inr ⟨full, hg, key hv⟩)
theorem At.sub2 {hp : List A5} {G : IM} {b o j j' : Nat} {vs : List Value} {v : Value} (h : At hp G b o vs) (hj : vs[j + j']? = some v) : At hp G b (o + j + j') [v] := by
 rw [Nat.add_assoc]; exact h.sub hj
def HTm (G : IM) (t : Tm) (k : Int) (cells : List Value) : Prop := ∃ pt ct et pf cf ef p c es,
 cells = [.int .i64 t.k, .string t.nm, .int .i64 t.num, .int .i64 t.ty.k, .slice pt t.ty.ks.length ct, .int .i64 t.fr.k, .slice pf t.fr.ks.length cf, .int .i64 t.lb, .slice p t.ks.length c] ∧
 C8 G pt t.ty.ks.length ct 2 et ∧ F4 G (A1s t.ty.ks k) et ∧ C8 G pf t.fr.ks.length cf 2 ef ∧ F4 G (A1s t.fr.ks (k + W9 t.ty.ks)) ef ∧ C8 G p t.ks.length c 9 es ∧ H4 G (A3H t.ks (k + W9 t.ty.ks + W9 t.fr.ks)) es
theorem B2b {nm : ByteArray} (h : V1 nm = true) : nm.size = 1 := by
 unfold V1 at h
 simp at h
 omega
theorem B2c {k : Int} {nm : ByteArray} {num : Int} {ty fr : Ty} {lb : Int} {n : Nat} (h : R4 k nm num ty fr lb n = true) : nm.size ≤ 1 := by
 obtain ⟨_, h2, h3, _⟩ := S8.1 h
 by_cases hk : k = 1 ∨ k = 5
 ·rw [B2b (h2 hk)]; omega
 ·rw [h3 hk]; decide
def RBd (G : IM) (e : List Value) : Prop := ∃ nm t q d, e = [.string nm, .int .i64 t.k, .slice q t.ks.length d] ∧ C7 G t [.int .i64 t.k, .slice q t.ks.length d] ∧ H1 t ∧ O7 t ≤ 30 ∧ nm.size ≤ 1
def GCx (G : IM) (p : Option Addr) (n c : Nat) : Prop := ∃ es, es.length = n ∧ C8 G p n c 3 es ∧ ∀ e ∈ es, RBd G e
theorem At.drop {hp : List A5} {G : IM} {b o : Nat} {v : Value} {vs : List Value} (h : At hp G b o (v :: vs)) : At hp G b (o + 1) vs := by
 have key : ∀ {cs : List Value}, (∀ i u, (v :: vs)[i]? = some u → cs[o + i]? = some u) → ∀ i u, vs[i]? = some u → cs[o + 1 + i]? = some u := by
  intro cs hc i u hu
  have := hc (i + 1) u (by simpa using hu)
  rwa [show o + 1 + i = o + (i + 1) by omega]
 rcases h with ⟨cs, hm, hv⟩ | ⟨n, c, el, sz, cs, hm, hv⟩ | ⟨full, hg, hv⟩
 ·exact .inl ⟨cs, hm, key hv⟩
 ·exact .inr (.inl ⟨n, c, el, sz, cs, hm, key hv⟩)
 ·exact .inr (.inr ⟨full, hg, key hv⟩)
theorem B2d (G : IM) : Fn Tryz.prog 169 [.slice none 0 0] [] G (F8 (.bool true) G) := by
 refine D5 Tryz.func169 rfl Tryz.ntmps169 Tryz.results169 rfl ?_
 intro w0
 refine E8 ?_
 refine B7 ?_
 (refine J3 (fun (_ : Nat) => ⟨[(3, .int .i64 0), (0, .slice none 0 0)], [], G⟩) (fun _ => True) (fun i => i) 0 ?_ ?_ ?_)
 ·exact E3
 ·trivial
 ·(rintro i _)
  refine A7 ?_
  refine sP (A0j rfl rfl zV) rfl rfl ?_
  refine K1 ?_
  refine sP (B0p rfl rfl zV) rfl rfl ?_
  refine A9 ?_
  trivial
theorem A2r {k : Int} {n : Nat} (h : H8 k = n) : (k = 6 ∨ k = 7 ∨ k = 8 ∨ k = 10 → n = 2) ∧ (k = 9 → n = 3) ∧ (k = 5 ∨ k = 11 ∨ k = 12 ∨ k = 13 → n = 1) := by
 refine ⟨?_, ?_, ?_⟩
 ·rintro (rfl | rfl | rfl | rfl)
  ·rw [show H8 6 = 2 from rfl] at h; omega
  ·rw [show H8 7 = 2 from rfl] at h; omega
  ·rw [show H8 8 = 2 from rfl] at h; omega
  ·rw [show H8 10 = 2 from rfl] at h; omega
 ·rintro rfl
  rw [show H8 9 = 3 from rfl] at h; omega
 ·rintro (rfl | rfl | rfl | rfl)
  ·rw [show H8 5 = 1 from rfl] at h; omega
  ·rw [show H8 11 = 1 from rfl] at h; omega
  ·rw [show H8 12 = 1 from rfl] at h; omega
  ·rw [show H8 13 = 1 from rfl] at h; omega
theorem B2e : ∀ (t : Ty) (d : Int), J6 t d = true → H1 t := by
 refine Ty.ind fun k ks ih d h => ?_
 obtain ⟨h1, h2⟩ := A22 h
 rw [H1]
 refine ⟨fun hk => ?_, fun h4 h5 => ?_, A21.2 fun t ht => ?_⟩
 ·have := (M0 k).2.1 hk
  omega
 ·have h5' := M0 k
  have h6 := h5'.1
  have h7 := h5'.2.2
  omega
 ·obtain ⟨i, hi, rfl⟩ := List.getElem_of_mem ht
  exact ih _ ht _ (h2 i hi)
theorem B2f : ∀ (n : Nat) (t : Ty) (d : Int), J6 t d = true → 4 - d ≤ n → Y1 n t := by
 intro n
 induction n with
 | zero =>
  rintro ⟨k, ks⟩ d h hd
  obtain ⟨h1, h2⟩ := A22 h
  have hks : ks.length = 0 := by
   rcases Nat.eq_zero_or_pos ks.length with h0 | h0
   ·exact h0
   ·have h3 := h2 0 h0
    obtain ⟨k', ks'⟩ : Ty := ks[0]
    have h4 : ∀ (u : Ty) (d : Int), J6 u d = true → d ≤ 4 := by
     rintro ⟨a, b⟩ d hu
     rw [J6] at hu
     simp only [Bool.and_eq_true, decide_eq_true_eq] at hu
     exact hu.1.1
    have := h4 _ _ h3
    omega
  have h5 := M0 k
  have h6 := h5.2.1
  exact ⟨List.length_eq_zero_iff.1 hks, by intro h; have := h6 (.inl h); omega, by intro h; have := h6 (.inr h); omega⟩
 | succ n ih =>
  rintro ⟨k, ks⟩ d h hd
  have ha := B2e _ _ h
  rw [H1] at ha
  obtain ⟨h1, h2⟩ := A22 h
  refine ⟨ha.1, ha.2.1, fun t ht => ?_⟩
  obtain ⟨i, hi, rfl⟩ := List.getElem_of_mem ht
  exact ih _ _ (h2 i hi) zV
theorem A3V {t : Ty} (h : H0 t = true) : H1 t ∧ O7 t ≤ 30 := by
 have h1 := B2f 3 t 1 h zV
 have h2 := A5h h1
 have h3 : ((2 ^ (3 + 1) - 2 : Nat) : Int) = 14 := rfl
 exact ⟨h1.ar, by omega⟩
theorem B2g {t : Ty} (h : V0 t = true) : H1 t ∧ O7 t ≤ 30 := by
 rw [A1Z h]
 exact ⟨P8 zU zU, by rw [C6, B19]; omega⟩
theorem A27 {k : Int} {nm : ByteArray} {num : Int} {ty fr : Ty} {lb : Int} {n : Nat} (h : R4 k nm num ty fr lb n = true) : H1 ty ∧ O7 ty ≤ 30 := by
 have hn := S8.1 h
 by_cases hk : k = 5 ∨ k = 13 ∨ k = 14
 ·exact A3V (hn.2.2.2.2.2.1 hk)
 ·exact B2g (hn.2.2.2.2.2.2.1 hk)
theorem D1.of9 {G : IM} {k : Int} {nm : ByteArray} {num tk fk : Int} {tks fks : List Ty} {lb : Int} {ks : List Tm} {q1 q2 q3 : Option Addr} {c1 c2 c3 : Nat} {es : List (List Value)} (hk : F9 k) (hnum : F9 num) (hlb : F9 lb) (hty : C7 G (.mk tk tks) [.int .i64 tk, .slice q1 tks.length c1])
  (hfr : C7 G (.mk fk fks) [.int .i64 fk, .slice q2 fks.length c2]) (hsl : C8 G q3 ks.length c3 9 es) (hkl : H4 G ks es) :
  D1 G (.mk k nm num (.mk tk tks) (.mk fk fks) lb ks) [.int .i64 k, .string nm, .int .i64 num, .int .i64 tk, .slice q1 tks.length c1, .int .i64 fk, .slice q2 fks.length c2, .int .i64 lb, .slice q3 ks.length c3] := by
 simp only [D1]
 exact ⟨_, _, q3, c3, es, rfl, hk, hnum, hlb, hty, hfr, hsl, hkl⟩
def Tm.fit (t : Tm) (N : Nat) : Prop := t.small ∧ J1 t ≤ N
section slaw
variable {P : Program} {Γ : K7} {env : L4} {hp : List A5} {G : IM} {ty : TypeId} {K : Po} {ops : Array Oper} {rest : List Oper}
theorem St.slc_open {a : Act} {w : World} {p : Option Addr} {c el sz n : Nat} {cs : List Value} {hp' : List A5} (hs : St Γ ⟨env, hp, G⟩ a w) (hk : Pk hp (.slc p c el sz n cs) hp') (h0 : 0 < n) :
  ∃ b C, p = some ⟨b, 0, none⟩ ∧ n ≤ c ∧ c ≤ maxLen ∧ St Γ ⟨env, .blk b (cs ++ C) :: hp', G⟩ a w := by
 have hown : P9 [.slc p c el sz n cs] G w := hs.res.own.of_mem hk.perm
 obtain ⟨hl, h⟩ := hown.ok _ List.mem_cons_self
 rcases h with ⟨hv, hn⟩ | ⟨g, cap, cur, hv, _, hg, hnc, hcm, hsz, ht⟩
 ·omega
 ·cases hv
  refine ⟨g, cur.toList.drop cs.length, rfl, hnc, hcm, ?_⟩
  have hcur : cur.toList = cs ++ cur.toList.drop cs.length := by
   have e : cs.length = n * sz := hl
   rw [e]
   conv => lhs; rw [← List.take_append_drop (n * sz) cur.toList, ht]
  have hr : O5 [.slc (some ⟨g, 0, none⟩) c el sz n cs] G w [.blk g (cs ++ cur.toList.drop cs.length)] G w := by
   refine ⟨⟨hown.inn, ?_, by simp [Fp, A5.fp], ?_⟩, Y8.refl _ _, D2.refl _, fun _ _ h => .inl h, ?_, fun b l h h0 => absurd h (by rw [h0]; simp)⟩
   ·intro e he
    simp at he; subst he
    refine ⟨el, ?_⟩
    rw [← hcur]; simpa using hg
   ·intro b' hb; exact hown.disj b' (by simpa [Fp, A5.fp, I2] using hb)
   ·intro b' hb; exact .inr (by simpa [Fp, A5.fp, I2] using hb)
  exact ⟨hs.size, hs.nod, hs.env, by have := (hs.res.perm hk.perm).frame hr; simpa using this⟩
theorem A1e {p : Option Addr} {c el sz n : Nat} {cs : List Value} {hp' : List A5} (hk : Pk hp (.slc p c el sz n cs) hp') (h0 : 0 < n)
  (h : ∀ b C, p = some ⟨b, 0, none⟩ → n ≤ c → c ≤ maxLen → H6 P Γ ops rest K ⟨env, .blk b (cs ++ C) :: hp', G⟩) : H6 P Γ ops rest K ⟨env, hp, G⟩ :=
 ⟨fun a w hs => let ⟨b, C, h1, h2, h3, h4⟩ := hs.slc_open hk h0; (h b C h1 h2 h3).run a w h4⟩
end slaw
theorem B2h {es : List (List Value)} {j : Nat} {vs : List Value} (hj : j < es.length) : (es.set j vs).flatten = (es.take j).flatten ++ (vs ++ (es.drop (j + 1)).flatten) := by
 rw [List.set_eq_take_append_cons_drop, if_pos hj]; simp
theorem A7O {es : List (List Value)} {j : Nat} (hj : j < es.length) : es.flatten = (es.take j).flatten ++ (es[j] ++ (es.drop (j + 1)).flatten) := by
 have h := congrArg List.flatten (List.take_append_drop j es).symm
 rw [List.drop_eq_getElem_cons hj, List.flatten_append, List.flatten_cons] at h
 exact h
theorem A1f {es : List (List Value)} {C vs : List Value} {j sz : Nat} (hj : j < es.length) (ha : ∀ e ∈ es, e.length = sz) (hv : vs.length = sz) : Q2 (es.flatten ++ C) (0 + j * sz) vs = some ((es.set j vs).flatten ++ C) := by
 have := A41 (A := (es.take j).flatten) (B := es[j]) (C := (es.drop (j + 1)).flatten ++ C) (V := vs) (o := 0 + j * sz)
  (by rw [V8 (fun e he => ha e (List.mem_of_mem_take he)), List.length_take]; rw [Nat.min_eq_left zV]; omega) (by rw [ha _ (List.getElem_mem hj), hv])
 rw [A7O hj, B2h hj]
 simp only [List.append_assoc] at this ⊢
 exact this
theorem H4.set {G : IM} : ∀ {ks : List Tm} {es : List (List Value)} {j : Nat} {y : Tm} {v : List Value}, H4 G ks es → D1 G y v → H4 G (ks.set j y) (es.set j v)
 | [], es, j, y, v, h, h2 => by simp only [H4] at h; subst h; simp [H4]
 | t :: ts, es, 0, y, v, h, h2 => by
  simp only [H4] at h
  obtain ⟨a, r, rfl, h3, h4⟩ := h
  simp only [List.set_cons_zero, H4]
  exact ⟨v, r, rfl, h2, h4⟩
 | t :: ts, es, j + 1, y, v, h, h2 => by
  simp only [H4] at h
  obtain ⟨a, r, rfl, h3, h4⟩ := h
  simp only [List.set_cons_succ, H4]
  exact ⟨a, r.set j v, rfl, h3, H4.set h4 h2⟩
def A7P : Tm → List Int → Tm → Tm
 | _, [], x => x
 | .mk k nm num ty fr lb ks, i :: is, x => if h : 0 ≤ i ∧ i < ks.length then .mk k nm num ty fr lb (ks.set i.toNat (A7P (ks[i.toNat]'zV) is x)) else .mk k nm num ty fr lb ks
def TyV (e : Tm) (G : IM) : IM → Value → List A5 → Prop := K9 fun G' v => ∃ t cells b, v = .tuple ⟨[.agg ⟨cells⟩, .bool b]⟩ ∧ C7 G' t cells ∧ H1 t ∧ O7 t ≤ 960 ∧ (b = true → V7 e = true)
theorem A5t {G : IM} {e : Tm} {ce : List Value} {p : Option Addr} {c : Nat} (hr : D1 G e ce) (hs : Sl G p 1 c 9 ce) : C8 G p [e].length c 9 [ce] ∧ H4 G [e] [ce] := by
 refine ⟨C8.of (by simpa using hs) rfl (fun x hx => by simp only [List.mem_singleton] at hx; subst hx; exact hr.len) (fun x hx => by simp only [List.mem_singleton] at hx; subst hx; exact hr.one), ?_⟩
 simp only [H4]
 exact ⟨ce, [], rfl, hr, rfl⟩
def B43 (e : Tm) (label : Int) (G : IM) : IM → Value → List A5 → Prop := K9 fun G' v => ∃ u cu l', v = .tuple ⟨[.agg ⟨cu⟩, .int .i64 l']⟩ ∧ D1 G' u cu ∧ (e.small → u.small) ∧ J1 u ≤ J1 e + 1 ∧ label ≤ l' ∧ l' ≤ label + 1
def B44 (n : Nat) (G : IM) : IM → Value → List A5 → Prop := K9 fun G' v => ∃ p c es ws, v = .slice p n c ∧ ws.length = n ∧ C8 G' p n c 2 es ∧ F4 G' ws es ∧ ∀ w ∈ ws, H1 w
theorem H4.at2 {G : IM} {ts : List Tm} {es : List (List Value)} {i : Nat} (h : H4 G ts es) (h1 : i < ts.length) (h2 : i < es.length) : i < es.length ∧ D1 G ts[i] es[i] := by
 have := (h.inv (List.getElem?_eq_getElem h2) P2).2
 rw [List.getD_eq_getElem?_getD, List.getElem?_eq_getElem h1] at this
 exact ⟨h2, this⟩
mutual
theorem A7Q : ∀ (t : Tm) (d : Int), N1 12 14 t d = true → t.small
 | .mk k nm num ty fr lb ks, d, h => by
  obtain ⟨h1, h2, h3, h4⟩ := A0Q h
  have hn := S8.1 h3
  rw [Tm.small]
  refine ⟨?_, (A27 h3).1.small, ?_, ?_, A7R ks _ h4⟩
  ·by_cases hk : k = 1 ∨ k = 5
   ·have := hn.2.1 hk
    simp only [V1, decide_eq_true_eq] at this
    omega
   ·rw [hn.2.2.1 hk]; decide
  ·rw [A1Z (hn.2.2.2.2.2.2.2.2 zV).1]
   simp [C6, Ty.small, Ty.smallL]
  ·have := A10 k
   omega
theorem A7R : ∀ (ts : List Tm) (d : Int), N2 12 14 ts d = true → Tm.smallL ts
 | [], d, h => by rw [Tm.smallL]; trivial
 | t :: ts, d, h => by
  rw [N2, Bool.and_eq_true] at h
  rw [Tm.smallL]
  exact ⟨A7Q t d h.1, A7R ts d h.2⟩
end
theorem A3W {hp : List A5} {G : IM} {b sz i : Nat} {es : List (List Value)} {C : List Value} (hm : A5.blk b (es.flatten ++ C) ∈ hp) (hi : i < es.length) (ha : ∀ e ∈ es, e.length = sz) : At hp G b (0 + i * sz) es[i] := by
 refine .inl ⟨_, hm, fun j u hu => ?_⟩
 rw [A7O hi, List.append_assoc, List.append_assoc]
 have hl : (es.take i).flatten.length = i * sz := by
  rw [V8 (fun e he => ha e (List.mem_of_mem_take he)), List.length_take, Nat.min_eq_left zV]
 have hj : j < es[i].length := (List.getElem?_eq_some_iff.1 hu).1
 rw [List.getElem?_append_right zV, show 0 + i * sz + j - (es.take i).flatten.length = j by omega, List.getElem?_append_left hj]
 exact hu
def B45 (e : Tm) (label : Int) (G : IM) : IM → Value → List A5 → Prop := K9 fun G' v => ∃ u cu t ct l', v = .tuple ⟨[.agg ⟨cu⟩, .agg ⟨ct⟩, .int .i64 l']⟩ ∧ D1 G' u cu ∧ u.small ∧ J1 u + 1 ≤ 2 * J1 e ∧ C7 G' t ct ∧ H1 t ∧ O7 t ≤ 32 * (J1 e : Int) ∧ label ≤ l' ∧ l' + 1 ≤ label + 2 * (J1 e : Int)
def A0m (t : Ty) : Ty := if t.k = 4 ∨ t.k = 5 then .mk t.k [P7, P7] else .mk t.k []
def A3X (t : Ty) : Bool := decide (t.k ≠ 1) && M5 t (A0m t)
def prx (t : Tm) : Bool := decide (t.k = 14 ∧ t.fr.k = t.ty.k ∧ (t.ty.k = 4 ∨ t.ty.k = 5))
def inj (t : Tm) : Bool := decide (t.k = 14 ∧ t.ty.k = 1) && A3X t.fr
mutual
def A3Y : Tm → Bool
 | .mk k nm num ty fr lb ks => if k = 10 ∨ (k = 14 ∧ fr.k = ty.k ∧ (ty.k = 4 ∨ ty.k = 5)) ∨ (k = 14 ∧ ty.k = 1 ∧ A3X fr = true) then A7S ks else decide (k = 2 ∨ k = 3 ∨ k = 4 ∨ k = 5)
def A7S : List Tm → Bool
 | [] => true
 | t :: ts => A3Y t && A7S ts
end
mutual
def A5u (x : ByteArray) (v : Tm) : Tm → Tm
 | .mk k nm num ty fr lb ks => if k = 1 ∧ nm = x then v else if k = 5 ∧ nm = x then .mk k nm num ty fr lb ks else .mk k nm num ty fr lb (A7T x v ks)
def A7T (x : ByteArray) (v : Tm) : List Tm → List Tm
 | [] => []
 | t :: ts => A5u x v t :: A7T x v ts
end
def P3 (e : Tm) (fr to : Ty) (lb : Int) : Tm := .mk 14 ⟨#[]⟩ 0 to fr lb [e]
def A0c (k : Int) (ks : List Tm) : Tm := .mk k ⟨#[]⟩ 0 C6 C6 0 ks
def A2s (n : Int) : Tm := .mk 2 ⟨#[]⟩ n C6 C6 0 []
def T7 (b : Prop) [Decidable b] : Tm := A0c (if b then 3 else 4) []
abbrev Stp := Tm × Int × Int
def A0d : Stp := (P2, 3, 0)
def kd (ks : List Tm) (i : Nat) : Tm := ks.getD i P2
def kt (ks : List Ty) (i : Nat) : Ty := ks.getD i C6
def A1x (k : Int) (ty fr : Ty) (lb : Int) (ks : List Tm) : Stp :=
 if k = 6 then
  (if (kd ks 0).k = 5 then (A5u (kd ks 0).nm (kd ks 1) (kd (kd ks 0).ks 0), 1, 0)
   else if prx (kd ks 0) = true ∧ (kd ks 0).ty.k = 4 then (P3 (A0c 6 [kd (kd ks 0).ks 0, P3 (kd ks 1) (kt (kd ks 0).ty.ks 0) (kt (kd ks 0).fr.ks 0) (-(kd ks 0).lb)]) (kt (kd ks 0).fr.ks 1) (kt (kd ks 0).ty.ks 1) (kd ks 0).lb, 1, 0)
   else A0d)
 else if k = 7 ∨ k = 8 then
  (if (kd ks 0).k = 2 ∧ (kd ks 1).k = 2 then (if k = 7 then A2s (((kd ks 0).num + (kd ks 1).num) % 1000) else T7 ((kd ks 0).num < (kd ks 1).num), 1, 0) else A0d)
 else if k = 9 then (if (kd ks 0).k = 3 then (kd ks 1, 1, 0) else if (kd ks 0).k = 4 then (kd ks 2, 1, 0) else A0d)
 else if k = 11 ∨ k = 12 then
  (if (kd ks 0).k = 10 then (kd (kd ks 0).ks (k - 11).toNat, 1, 0)
   else if prx (kd ks 0) = true ∧ (kd ks 0).ty.k = 5 then (P3 (A0c k [kd (kd ks 0).ks 0]) (kt (kd ks 0).fr.ks (k - 11).toNat) (kt (kd ks 0).ty.ks (k - 11).toNat) (kd ks 0).lb, 1, 0)
   else A0d)
 else if k = 14 then
  (if fr.k = ty.k then (kd ks 0, 1, 0)
   else if ty.k = 1 then (P3 (P3 (kd ks 0) fr (A0m fr) lb) (A0m fr) ty lb, 1, 0)
   else if A3X ty = false then (P3 (P3 (kd ks 0) fr (A0m ty) lb) (A0m ty) ty lb, 1, 0)
   else if inj (kd ks 0) = false then A0d
   else if (kd ks 0).fr.k = ty.k then (kd (kd ks 0).ks 0, 1, 0)
   else (P2, 2, lb))
 else A0d
mutual
def A1g : Tm → Stp
 | .mk k nm num ty fr lb ks => match A7U (if k = 9 then 1 else ks.length) ks with
  | some (ks', c, l) => if c = 1 then (.mk k nm num ty fr lb ks', 1, 0) else (P2, c, l)
  | none => A1x k ty fr lb ks
def A7U : Nat → List Tm → Option (List Tm × Int × Int)
 | _, [] => none
 | n, t :: ts => match n with
  | 0 => none
  | n + 1 => if A3Y t = true then (match A7U n ts with
    | some (us, c, l) => some (t :: us, c, l)
    | none => none)
   else some ((A1g t).1 :: ts, (A1g t).2.1, (A1g t).2.2)
end
def R7 (e : Tm) : Stp :=
 if T5 e = false then A0d else if A3Y e = true then (e, 0, 0)
 else if (A1g e).2.1 ≠ 1 then (P2, (A1g e).2.1, (A1g e).2.2)
 else if T5 (A1g e).1 = false then (P2, 4, 0) else ((A1g e).1, 1, 0)
def mEv : Nat → Tm → Tm × Int × Int × Nat
 | 0, e => if (R7 e).2.1 = 1 then (P2, 5, 0, 0) else ((R7 e).1, (R7 e).2.1, (R7 e).2.2, 0)
 | n + 1, e => if (R7 e).2.1 = 1 then ((mEv n (R7 e).1).1, (mEv n (R7 e).1).2.1, (mEv n (R7 e).1).2.2.1, (mEv n (R7 e).1).2.2.2 + 1)
  else ((R7 e).1, (R7 e).2.1, (R7 e).2.2, 0)
def X2 (e : Tm) (fuel : Int) : Stp := if 0 ≤ fuel ∧ fuel ≤ 300 then ((mEv fuel.toNat e).1, (mEv fuel.toNat e).2.1, (mEv fuel.toNat e).2.2.1) else A0d
def B46 (e : Tm) (fuel : Int) : Int := if 0 ≤ fuel ∧ fuel ≤ 300 then ((mEv fuel.toNat e).2.2.2 : Int) else 0
structure CvN (k : Int) (nm : ByteArray) (num : Int) (ty fr : Ty) (lb : Int) (ks : List Tm) : Prop where
 ops : H8 k = ks.length
 ne : k ≠ 13
 nm1 : nm.size ≤ 1
 num0 : 0 ≤ num ∧ num ≤ 999
 tyA : H1 ty
 frA : H1 fr
 lbB : -99 ≤ lb ∧ lb ≤ 99
 c14 : k = 14 → J0 fr ty = true ∧ H0 ty = true ∧ H0 fr = true
 ty5 : ¬(k = 5 ∨ k = 14) → ty = C6
 fr14 : k ≠ 14 → fr = C6 ∧ lb = 0
def cv (t : Tm) : Prop := ∃ d, N1 40 13 t d = true
theorem A2t {n lo hi : Int} : Q6 n lo hi = true ↔ lo ≤ n ∧ n ≤ hi := by unfold Q6; rw [decide_eq_true_eq]
theorem cv.node {k : Int} {nm : ByteArray} {num : Int} {ty fr : Ty} {lb : Int} {ks : List Tm} (h : cv (.mk k nm num ty fr lb ks)) : CvN k nm num ty fr lb ks ∧ ∀ t ∈ ks, cv t := by
 obtain ⟨d, h⟩ := h
 obtain ⟨_, h2, h3, h4⟩ := A0Q h
 obtain ⟨n1, n2, n3, n4, n5, n6, n7, n8, n9⟩ := S8.1 h3
 refine ⟨⟨n1, h2, B2c h3, ?_, (A27 h3).1, ?_, ?_, ?_, ?_, ?_⟩, fun t ht => ?_⟩
 ·by_cases hk : k = 2
  ·exact A2t.1 (n4 hk)
  ·have := A2t.1 (n5 hk); omega
 ·by_cases hk : k = 14
  ·have := (n8 hk).1
   simp only [A0a, Bool.and_eq_true] at this
   exact (A3V this.1.1).1
  ·rw [A1Z (n9 hk).1]; exact P8 zU zU
 ·by_cases hk : k = 14
  ·have := (n8 hk).2
   simp only [A0b, Bool.or_eq_true, A2t] at this
   omega
  ·have := (n9 hk).2; omega
 ·intro hk
  have := (n8 hk).1
  simp only [A0a, Bool.and_eq_true] at this
  exact ⟨this.2, this.1.2, this.1.1⟩
 ·intro hk
  exact A1Z (n7 zV)
 ·intro hk
  exact ⟨A1Z (n9 hk).1, (n9 hk).2⟩
 ·obtain ⟨i, hi, rfl⟩ := List.mem_iff_getElem.1 ht
  exact ⟨_, (A0A 40 13 ks _).1 h4 i hi⟩
theorem A28 {t : Tm} (h : T5 t = true) : cv t ∧ J1 t ≤ 200 := by
 obtain ⟨h1, h2⟩ := (A3R t).1 h
 exact ⟨⟨1, h1⟩, h2⟩
mutual
theorem A7V : ∀ (t : Tm), cv t → t.small
 | .mk k nm num ty fr lb ks, h => by
  obtain ⟨hn, hk⟩ := h.node
  rw [Tm.small]
  refine ⟨by have := hn.nm1; omega, hn.tyA.small, hn.frA.small, ?_, A7W ks hk⟩
  have := A10 k
  have := hn.ops
  omega
theorem A7W : ∀ (ts : List Tm), (∀ t ∈ ts, cv t) → Tm.smallL ts
 | [], _ => by rw [Tm.smallL]; trivial
 | t :: ts, h => by
  rw [Tm.smallL]
  exact ⟨A7V t (h t List.mem_cons_self), A7W ts fun u hu => h u (List.mem_cons_of_mem _ hu)⟩
end
theorem A2u (k : Int) (nm : ByteArray) (num : Int) (ty fr : Ty) (lb : Int) (ks : List Tm) : J1 (.mk k nm num ty fr lb ks) = I4 ks + 1 := by rw [J1]
theorem B2i (e : Tm) (a b : Ty) (l : Int) : J1 (P3 e a b l) = J1 e + 1 := by rw [P3, A2u, I4, I4]
variable {P : Program} {G : IM}
def A5v (u : Ty) (G : IM) : IM → Value → List A5 → Prop := K9 fun G' v => ∃ cells, v = .agg ⟨cells⟩ ∧ C7 G' u cells
def A1h (r : Option Ty) (G : IM) : IM → Value → List A5 → Prop := K9 fun G' v => ∃ cells u, v = .tuple ⟨[.agg ⟨cells⟩, .bool r.isSome]⟩ ∧ C7 G' u cells ∧ ∀ t, r = some t → u = t
theorem B2j {G : IM} {k : Int} {a b : Ty} {ca cb : List Value} {p : Option Addr} {c : Nat} (hk : F9 k) (ha : C7 G a ca) (hb : C7 G b cb) (hs : Sl G p 2 c 2 (ca ++ cb)) : C7 G (.mk k [a, b]) [.int .i64 k, .slice p 2 c] := by
 have hL : F4 G [a, b] [ca, cb] := by simp only [F4]; exact ⟨ca, [cb], rfl, ha, cb, [], rfl, hb, rfl⟩
 exact F4.ty (ts := [a, b]) (es := [ca, cb]) hL rfl (by simpa using hs) hk
theorem B2k : ∀ (t t' : Ty) (G : IM) (cells cells' : List Value), C7 G t cells → C7 G t' cells' → Fn Tryz.prog 29 [.agg ⟨cells⟩, .agg ⟨cells'⟩] [] G (F8 (.bool (M5 t t')) G) := by
 refine Ty.ind fun k ks ih t' G cells cells' hr hr' => ?_
 obtain ⟨k', ks'⟩ := t'
 obtain ⟨p, c, es, rfl, hk, hsl, hkl⟩ := hr.open
 obtain ⟨p', c', es', rfl, hk', hsl', hkl'⟩ := hr'.open
 simp only [Ty.k, Ty.ks] at hk hsl hkl hk' hsl' hkl' ⊢
 obtain ⟨A, hA⟩ : ∃ A, X0 ks ks' = A := ⟨_, rfl⟩
 have hA' : A = true ↔ ks.length = ks'.length ∧ ∀ i, i < ks.length → M5 (ks.getD i C6) (ks'.getD i C6) = true := by
  rw [← hA, A24]
  constructor
  ·rintro ⟨h1, h2⟩
   refine ⟨h1, fun i hi => ?_⟩
   have := h2 i hi zV
   simpa [List.getD_eq_getElem?_getD, List.getElem?_eq_getElem hi, List.getElem?_eq_getElem (show i < ks'.length by omega)] using this
  ·rintro ⟨h1, h2⟩
   refine ⟨h1, fun i hi hi' => ?_⟩
   have := h2 i hi
   simpa [List.getD_eq_getElem?_getD, List.getElem?_eq_getElem hi, List.getElem?_eq_getElem hi'] using this
 refine D5 Tryz.func29 rfl Tryz.ntmps29 Tryz.results29 rfl ?_
 intro w0
 refine A3 ?_
 refine sE (D8 rfl rfl) rfl (fun b3 => ?_)
 refine sE (D8 rfl rfl) rfl (fun b4 => ?_)
 refine C2 ?_
 refine sB (qE rfl rfl) rfl rfl (fun h14 => ?_) (fun h14 => ?_)
 refine A9 ?_
 refine E5 rfl (A7l _ _ _ _ _ _ _ _ _ hsl hsl' _ [] [] [] (fun i => M5 (ks.getD i C6) (ks'.getD i C6)) A hA' (fun i e e' he he' => ih _ (hkl.inv he C6).1 _ _ _ _ (hkl.inv he C6).2 (hkl'.inv he' C6).2)) rfl rfl ?_
 refine A7 ?_
 exact ⟨rfl, by rw [A1V, hA]; first | (rw [decide_eq_true (p := k = k') zV]; rfl) | (rw [decide_eq_false (p := k = k') zV]; rfl), rfl⟩
 refine K1 ?_
 exact ⟨rfl, by rw [A1V, hA]; first | (rw [decide_eq_true (p := k = k') zV]; rfl) | (rw [decide_eq_false (p := k = k') zV]; rfl), rfl⟩
theorem A1y (k : Int) (a b : Ty) (G : IM) (ca cb : List Value) (hk : F9 k) (hra : C7 G a ca) (hrb : C7 G b cb) :
  Fn Tryz.prog 114 [.int .i64 k, .agg ⟨ca⟩, .agg ⟨cb⟩] [] G (A5v (.mk k [a, b]) G) := by
 obtain ⟨pa, cca, ea, rfl, _⟩ := hra.open
 obtain ⟨pb, ccb, eb, rfl, _⟩ := hrb.open
 refine D5 Tryz.func114 rfl Tryz.ntmps114 Tryz.results114 rfl ?_
 intro w0
 refine A3 ?_
 refine sE (D8 rfl rfl) rfl (fun b3 => ?_)
 refine sE (D8 rfl rfl) rfl (fun b4 => ?_)
 refine sE (A4 rfl) rfl (fun b5 => ?_)
 refine A8 ?_
 (refine F0 (C0 rfl rfl rfl zV zQ rfl) rfl ?_; rintro _ ⟨b13, rfl⟩)
 refine C3 ?_
 (refine E0 zM (fun G5 hle5 hsl5 hno5 => ?_))
 refine tT ?_
 refine I7 (rC rfl (A1 rfl rfl)) ?_
 exact ⟨rfl, _, rfl, B2j hk (hra.mono hle5) (hrb.mono hle5) hsl5⟩
theorem A1i (k tk : Int) (ks : List Ty) : O8 k (.mk tk ks) = if tk = k then some (ks.getD 0 C6, ks.getD 1 C6) else if tk = 1 then some (P7, P7) else none := rfl
def A7X (k : Int) (t : Ty) (G : IM) : IM → Value → List A5 → Prop := K9 fun G' v => ∃ a ca b cb, v = .tuple ⟨[.agg ⟨ca⟩, .agg ⟨cb⟩, .bool (O8 k t).isSome]⟩ ∧ C7 G' a ca ∧ C7 G' b cb ∧ H1 a ∧ H1 b ∧ ∀ p, O8 k t = some p → p = (a, b)
theorem A7Y (k : Int) (t : Ty) (G : IM) (cells : List Value) (hk : k = 4 ∨ k = 5) (ha : H1 t) (hr : C7 G t cells) :
  Fn Tryz.prog 115 [.agg ⟨cells⟩, .int .i64 k] [] G (A7X k t G) := by
 obtain ⟨tk, ks⟩ := t
 have ha2 := ha
 rw [H1] at ha2
 have hkid := ha.kid
 obtain ⟨p, c, es, rfl, htk, hsl, hkl⟩ := hr.open
 simp only [Ty.k, Ty.ks] at htk hsl hkl ⊢
 refine D5 Tryz.func115 rfl Tryz.ntmps115 Tryz.results115 rfl ?_
 intro w0
 refine A3 ?_
 refine sE (D8 rfl rfl) rfl (fun b3 => ?_)
 refine sE (A4 rfl) rfl (fun b4 => ?_)
 refine sE (A4 rfl) rfl (fun b5 => ?_)
 refine H3 ?_
 refine B7 (tS (tR (sQ (qM rfl) rfl (sB (qE rfl rfl) rfl rfl (fun h20 => ?_) (fun h20 => ?_)))))
 refine A9 ?_
 (have hlen : ks.length = 2 := ha2.1 zV; obtain ⟨b, o, q0, d0, hp0, hat0, hre0, hg0⟩ := hsl.kidTy hkl (i := 0) zV zV; obtain ⟨b', o', q1, d1, hp1, hat1, hre1, hg1⟩ := hsl.kidTy hkl (i := 1) zV zV; subst hp0; cases hp1; refine D3 D4 rfl ?_)
 refine E9 (i := 0) (l' := [tt,ff,ff,ff,ff,ff,ff,ff,ff,ff,ff]) rfl C1 (B0 rfl) rfl zT rfl rfl ?_
 refine aL 1 rfl (B3 rfl rfl) rfl ?_
 refine aP 2 rfl (A6 (j := 0) rfl rfl rfl zV) rfl ?_
 refine aL 3 rfl (A2 rfl rfl (hat0 _) rfl) rfl ?_
 refine aP 4 rfl (B0 rfl) rfl ?_
 refine aL 5 rfl (B3 rfl rfl) rfl ?_
 refine aP 6 rfl (A6 (j := 1) rfl rfl rfl zV) rfl ?_
 refine aL 7 rfl (A2 rfl rfl (hat1 _) rfl) rfl ?_
 refine A0 8 ?_
 refine B8 rfl ?_
 refine A0 9 ?_
 refine B8 rfl ?_
 refine aP 10 rfl (qA rfl) rfl ?_
 refine A9 ?_
 refine E4 (rC rfl (A1 rfl rfl)) (rC rfl (A1 rfl rfl)) (rT rfl) ?_
 (refine ⟨rfl, _, _, _, _, ?_, hre0, hre1, hkid _ (List.getElem_mem zV), hkid _ (List.getElem_mem zV), ?_⟩ <;> rw [A1i, if_pos zV] <;> first | rfl | (intro p hp; cases hp; simp [hlen]))
 refine A7 ?_
 refine sB (qE rfl rfl) rfl rfl (fun h53 => ?_) (fun h53 => ?_)
 refine A7 ?_
 refine E5 rfl ((A1c _ _)) rfl rfl ?_
 refine E5 rfl ((A1c _ _)) rfl rfl ?_
 refine B4 ?_
 refine E4 (rC rfl (A1 rfl rfl)) (rC rfl (A1 rfl rfl)) (rT rfl) ?_
 (refine ⟨rfl, _, _, _, _, ?_, A1Y _, A1Y _, A3O, A3O, ?_⟩ <;> rw [A1i, if_neg zV, if_pos zV] <;> first | rfl | (intro p hp; cases hp; rfl))
 refine R0 ?_
 refine E4 (rC rfl (A1 rfl rfl)) (rC rfl (A1 rfl rfl)) (rT rfl) ?_
 (refine ⟨rfl, C6, _, C6, _, ?_, N9 _ ⟨by omega, by omega⟩, N9 _ ⟨by omega, by omega⟩, P8 zV zV, P8 zV zV, ?_⟩ <;> rw [A1i, if_neg zV, if_neg zV] <;> first | rfl | (intro p hp; cases hp))
def A2v (G : IM) (b : ByteArray × Ty) (e : List Value) : Prop := ∃ q d, e = [.string b.1, .int .i64 b.2.k, .slice q b.2.ks.length d] ∧ C7 G b.2 [.int .i64 b.2.k, .slice q b.2.ks.length d]
theorem A2v.mono {G G' : IM} {b : ByteArray × Ty} {e : List Value} (h : A2v G b e) (hg : D2 G G') : A2v G' b e := by
 obtain ⟨q, d, h1, h2⟩ := h
 exact ⟨q, d, h1, h2.mono hg⟩
def O9 (G : IM) (cx : Cx) (p : Option Addr) (n c : Nat) : Prop := n = cx.length ∧ ∃ es : List (List Value), C8 G p n c 3 es ∧ ∀ (i : Nat) (b : ByteArray × Ty), cx[i]? = some b → ∃ e, es[i]? = some e ∧ A2v G b e
theorem O9.mono {G G' : IM} {cx : Cx} {p : Option Addr} {n c : Nat} (h : O9 G cx p n c) (hg : D2 G G') : O9 G' cx p n c := by
 obtain ⟨h1, es, h2, h3⟩ := h
 refine ⟨h1, es, h2.mono hg, fun i b hb => ?_⟩
 obtain ⟨e, he, hr⟩ := h3 i b hb
 exact ⟨e, he, hr.mono hg⟩
theorem O9.nil (G : IM) : O9 G [] none 0 0 := ⟨rfl, [], C8.nil _ _, by simp⟩
theorem O9.le {G : IM} {cx : Cx} {p : Option Addr} {n c : Nat} (h : O9 G cx p n c) : n ≤ 9223372036854775807 := by
 obtain ⟨h1, es, h2, h3⟩ := h
 exact h2.le
theorem O9.get {G : IM} {cx : Cx} {p : Option Addr} {n c : Nat} (h : O9 G cx p n c) {i : Nat} (hi : i < n) :
  ∃ b o nm t q d, cx[i]? = some (nm, t) ∧ p = some ⟨b, o, none⟩ ∧ (∀ hp, At hp G b (o + i * 3) [.string nm, .int .i64 t.k, .slice q t.ks.length d]) ∧ C7 G t [.int .i64 t.k, .slice q t.ks.length d] ∧ G b ≠ none := by
 obtain ⟨h1, es, h2, h3⟩ := h
 obtain ⟨e, b, o, he, rfl, hl, _, hat, hgb⟩ := h2.get (i := i) zV
 have hx : cx[i]? = some cx[i] := List.getElem?_eq_getElem zV
 obtain ⟨e', he', q, d, h4, h5⟩ := h3 i _ hx
 rw [he] at he'
 obtain rfl := Option.some.inj he'
 rw [h4] at hat
 exact ⟨b, o, cx[i].1, cx[i].2, q, d, hx, rfl, hat, h5, hgb⟩
theorem B2l (G : IM) (cx : Cx) (p : Option Addr) (n c : Nat) (nm : ByteArray) (hx : O9 G cx p n c) :
  Fn Tryz.prog 113 [.slice p n c, .string nm] [] G (A1h (W1 cx nm) G) := by
 have hn := hx.le
 have hn1 := hx.1
 refine D5 Tryz.func113 rfl Tryz.ntmps113 Tryz.results113 rfl ?_
 intro w0
 refine A3 ?_
 refine sE (A4 rfl) rfl (fun b3 => ?_)
 refine B4 ?_
 refine sP (R9 rfl rfl zV zV) rfl rfl ?_
 refine B2 ?_
 refine B7 ?_
 (refine J3 (fun (i : Nat) => ⟨[(6, .int .i64 ((i : Int) - 1)), (0, .slice p n c), (1, .string nm), (4, .pointer (some ⟨b3, 0, none⟩))], [.blk b3 [.int .i64 0, .slice none 0 0]], G⟩) (fun i => i ≤ n ∧ U3 cx nm i = W1 cx nm) (fun i => i) n ?_ ?_ ?_)
 exact E3
 exact ⟨Nat.le_refl _, by rw [hn1]; rfl⟩
 (rintro i ⟨hi, hlk⟩)
 refine C3 ?_
 refine sB (A1p rfl rfl) rfl rfl (fun h25 => ?_) (fun h25 => ?_)
 refine A7 ?_
 (show J7 _ _ (.block 1 _) _ _; obtain ⟨j, rfl⟩ : ∃ j, i = j + 1 := ⟨i - 1, by omega⟩; rw [show ((j + 1 : Nat) : Int) - 1 = (j : Int) from by omega]; obtain ⟨b, o, nm1, t1, q1, d1, hcx, rfl, hat, hr1, hgb⟩ := hx.get (i := j) zV; refine B7 ?_)
 refine C3 ?_
 refine sP (A6 rfl rfl rfl zV) rfl rfl ?_
 refine I0 ?_
 refine sL (A03 rfl rfl ((hat _).sub (j := 0) rfl)) rfl rfl ?_
 refine I0 ?_
 refine sB (A1H rfl rfl) rfl rfl (fun h41 => ?_) (fun h41 => ?_)
 refine A8 ?_
 refine sP (A6 rfl rfl rfl zV) rfl rfl ?_
 refine I0 ?_
 refine sL (A2 rfl rfl (hat _).drop rfl) rfl rfl ?_
 refine H3 ?_
 refine C5 (rC rfl (A1 rfl rfl)) (rT rfl) ?_
 (rw [A5l hcx zS] at hlk; rw [← hlk]; exact ⟨rfl, _, _, rfl, hr1, fun t ht => by cases ht; rfl⟩)
 refine B4 ?_
 refine sP (R9 rfl rfl zV zV) rfl rfl ?_
 refine A3 ?_
 refine I6 j ?_ ?_ ?_
 exact E3
 (rw [A5m hcx zS] at hlk; exact ⟨by omega, hlk⟩)
 (show _ < _ + 1; omega)
 refine K0 ?_
 refine C5 (rC rfl (A1 rfl rfl)) (rT rfl) ?_
 (obtain rfl : i = 0 := zV; rw [U3] at hlk; rw [← hlk]; exact ⟨rfl, _, C6, rfl, N9 _ ⟨by omega, by omega⟩, fun t ht => by cases ht⟩)
theorem B2m {xs ys : List Ty} (h : xs.length = 2) (h' : ys.length = 2) : Q7 xs ys = [R5 (xs[0]'zV) (ys[0]'zV), R5 (xs[1]'zV) (ys[1]'zV)] := by
 match xs, ys, h, h' with
 | [a, b], [c, d], _, _ => rfl
theorem B2n {k k' : Int} {ks bs : List Ty} (h : J0 (.mk k ks) (.mk k' bs) = true) (hk : k ≠ 1) (hk' : k' ≠ 1) : k = k' ∧ M3 ks bs = true := by
 rw [P6] at h
 simpa [hk, hk'] using h
theorem A7Z : ∀ (a b : Ty) (G : IM) (ca cb : List Value), J0 a b = true → H1 a → H1 b → C7 G a ca → C7 G b cb →
  Fn Tryz.prog 117 [.agg ⟨ca⟩, .agg ⟨cb⟩] [] G (A5v (R5 a b) G) := by
 refine Ty.ind fun k ks ih b G ca cb hc haa hab hra hrb => ?_
 have hsa := haa.small
 have hsb := hab.small
 obtain ⟨bk, bks⟩ := b
 have hra0 := hra
 have hrb0 := hrb
 have ha2 := haa
 have hb2 := hab
 rw [H1] at ha2 hb2
 have hkida := haa.kid
 have hkidb := hab.kid
 obtain ⟨p, c, es, rfl, hk, hsl, hkl⟩ := hra.open
 obtain ⟨p', c', es', rfl, hk', hsl', hkl'⟩ := hrb.open
 simp only [Ty.k, Ty.ks] at hk hsl hkl hk' hsl' hkl' ⊢
 have hn := hsl.le
 rw [A2n]
 refine D5 Tryz.func117 rfl Tryz.ntmps117 Tryz.results117 rfl ?_
 intro w0
 refine A3 ?_
 refine sE (D8 rfl rfl) rfl (fun b3 => ?_)
 refine sE (D8 rfl rfl) rfl (fun b4 => ?_)
 refine sE (A4 rfl) rfl (fun b5 => ?_)
 refine B2 ?_
 refine B7 ?_
 refine C3 ?_
 refine sB (qE rfl rfl) rfl rfl (fun h14 => ?_) (fun h14 => ?_)
 refine A8 ?_
 (refine E7 rfl (A2o _ _ _ hsb hrb0) rfl rfl (fun v G1 hle1 hh => ?_); obtain ⟨cs1, F1, rfl, hs1, hn1⟩ := hh; obtain ⟨p1, c1, rfl, _⟩ := hs1.open; have hr1 := hs1.R.mono (E2.le G1 _))
 refine A7 ?_
 refine I7 (rC rfl (A1 rfl rfl)) ?_
 (rw [if_pos zV]; exact ⟨rfl, _, rfl, hr1⟩)
 refine B4 ?_
 refine sB (qE rfl rfl) rfl rfl (fun h39 => ?_) (fun h39 => ?_)
 refine G9 ?_
 (refine E7 rfl (A2o _ _ _ hsa hra0) rfl rfl (fun v G1 hle1 hh => ?_); obtain ⟨cs1, F1, rfl, hs1, hn1⟩ := hh; obtain ⟨p1, c1, rfl, _⟩ := hs1.open; have hr1 := hs1.R.mono (E2.le G1 _))
 refine A7 ?_
 refine I7 (rC rfl (A1 rfl rfl)) ?_
 (rw [if_neg zV]; split <;> first | exact ⟨rfl, _, rfl, hr1⟩ | (obtain rfl : ks = [] := List.length_eq_zero_iff.1 zV; rw [Q7]; exact ⟨rfl, _, rfl, hr1⟩; simp))
 refine C3 ?_
 refine sB (qE rfl rfl) rfl rfl (fun h66 => ?_) (fun h66 => ?_)
 refine B4 ?_
 (refine E7 rfl (A2o _ _ _ hsa hra0) rfl rfl (fun v G1 hle1 hh => ?_); obtain ⟨cs1, F1, rfl, hs1, hn1⟩ := hh; obtain ⟨p1, c1, rfl, _⟩ := hs1.open; have hr1 := hs1.R.mono (E2.le G1 _))
 refine A7 ?_
 refine I7 (rC rfl (A1 rfl rfl)) ?_
 (rw [if_neg zV]; split <;> first | exact ⟨rfl, _, rfl, hr1⟩ | (obtain rfl : ks = [] := List.length_eq_zero_iff.1 zV; rw [Q7]; exact ⟨rfl, _, rfl, hr1⟩; simp))
 refine C2 ?_
 (obtain ⟨hkk, hcl0⟩ := B2n hc zV zV; subst hkk; have hcl := (A1q _ _).1 hcl0; have hlen : ks.length = 2 := (by have := ha2.2.1; have := ha2.1; omega); have hlen' : bks.length = 2 := zV; obtain ⟨b0, o0, q0, d0, hp0, hat0, hre0, hg0⟩ := hsl.kidTy hkl (i := 0) zV zV; obtain ⟨b1, o1, q1, d1, hp1, hat1, hre1, hg1⟩ := hsl.kidTy hkl (i := 1) zV zV; subst hp0; cases hp1; obtain ⟨b2, o2, q2, d2, hp2, hat2, hre2, hg2⟩ := hsl'.kidTy hkl' (i := 0) zV zV; obtain ⟨b3, o3, q3, d3, hp3, hat3, hre3, hg3⟩ := hsl'.kidTy hkl' (i := 1) zV zV; subst hp2; cases hp3; have hM1 := ih ks[0] (List.getElem_mem zV) bks[0] G _ _ (hcl.2 0 zV zV) (hkida _ (List.getElem_mem zV)) (hkidb _ (List.getElem_mem zV)) hre0 hre2; refine D3 D4 rfl ?_)
 refine E9 (i := 0) (l' := [tt,ff,ff,ff,ff,ff,ff,ff,ff,ff,ff,ff,ff,ff,ff,ff,ff,ff,ff,ff,ff,ff]) rfl C1 (B0 rfl) rfl zT rfl rfl ?_
 refine aL 1 rfl (B3 rfl rfl) rfl ?_
 refine aP 2 rfl (B0 rfl) rfl ?_
 refine aL 3 rfl (B3 rfl rfl) rfl ?_
 refine aP 4 rfl (A6 (j := 0) rfl rfl rfl zV) rfl ?_
 refine aL 5 rfl (A2 rfl rfl (hat0 _) rfl) rfl ?_
 refine aP 6 rfl (B0 rfl) rfl ?_
 refine aL 7 rfl (B3 rfl rfl) rfl ?_
 refine aP 8 rfl (A6 (j := 0) rfl rfl rfl zV) rfl ?_
 refine aL 9 rfl (A2 rfl rfl (hat2 _) rfl) rfl ?_
 refine aP 11 rfl (B0 rfl) rfl ?_
 refine aL 12 rfl (B3 rfl rfl) rfl ?_
 refine aP 13 rfl (A6 (j := 1) rfl rfl rfl zV) rfl ?_
 refine aL 14 rfl (A2 rfl rfl (hat1 _) rfl) rfl ?_
 refine aP 15 rfl (B0 rfl) rfl ?_
 refine aL 16 rfl (B3 rfl rfl) rfl ?_
 refine aP 17 rfl (A6 (j := 1) rfl rfl rfl zV) rfl ?_
 refine aL 18 rfl (A2 rfl rfl (hat3 _) rfl) rfl ?_
 refine A0 10 ?_
 (refine D6 rfl rfl hM1 rfl rfl rfl (fun v G1 hle1 hh => ?_); obtain ⟨cm1, rfl, hm1⟩ := hh; have hM2 := ih ks[1] (List.getElem_mem zV) bks[1] G1 _ _ (hcl.2 1 zV zV) (hkida _ (List.getElem_mem zV)) (hkidb _ (List.getElem_mem zV)) (hre1.mono hle1) (hre3.mono hle1))
 refine A0 19 ?_
 (refine D6 rfl rfl hM2 rfl rfl rfl (fun v G2 hle2 hh => ?_); obtain ⟨cm2, rfl, hm2⟩ := hh; have hB := A1y k _ _ G2 _ _ hk (hm1.mono hle2) hm2)
 refine A0 20 ?_
 (refine D6 rfl rfl hB rfl rfl rfl (fun v G3 hle3 hh => ?_); obtain ⟨cm3, rfl, hm3⟩ := hh; obtain ⟨p5, c5, e5, rfl, _⟩ := hm3.open)
 refine A0 21 ?_
 refine B8 rfl ?_
 refine B2 ?_
 refine I7 (rC rfl (A1 rfl rfl)) ?_
 (rw [if_neg zV, if_neg zV]; rw [B2m hlen hlen']; exact ⟨rfl, _, rfl, hm3⟩)
def TmP (t : Tm) : IM → Value → List A5 → Prop := K9 fun G' v => ∃ cells, v = .agg ⟨cells⟩ ∧ D1 G' t cells
theorem TmP.mk {G : IM} {t : Tm} {cells : List Value} (h : D1 G t cells) : TmP t G (.agg ⟨cells⟩) [] := ⟨rfl, cells, rfl, h⟩
def mGk (k : Int) : Ty := if k = 4 ∨ k = 5 then .mk k [P7, P7] else .mk k []
theorem A70 {G : IM} {k : Int} {ks : List Tm} {p : Option Addr} {n c : Nat} {es : List (List Value)} (hk : F9 k) (hn : n = ks.length) (hs : C8 G p n c 9 es) (hr : H4 G ks es) : D1 G (A0c k ks) [.int .i64 k, .string ⟨⟨[]⟩⟩, .int .i64 0, .int .i64 0, .slice none 0 0, .int .i64 0, .slice none 0 0, .int .i64 0, .slice p n c] := by
 subst hn
 simp only [A0c, D1]
 exact ⟨[.int .i64 0, .slice none 0 0], [.int .i64 0, .slice none 0 0], p, c, es, rfl, hk, ⟨by decide, by decide⟩, ⟨by decide, by decide⟩, A2q G, A2q G, hs, hr⟩
theorem A71 (k : Int) (G : IM) (hk : F9 k) : Fn Tryz.prog 119 [.int .i64 k] [] G (K9 fun G' v => ∃ cells, v = .agg ⟨cells⟩ ∧ C7 G' (mGk k) cells) := by
 have hB := A1y k P7 P7 G _ _ hk (A1Y G) (A1Y G)
 refine D5 Tryz.func119 rfl Tryz.ntmps119 Tryz.results119 rfl ?_
 intro w0
 refine A3 ?_
 refine sE (A4 rfl) rfl (fun b3 => ?_)
 refine A7 ?_
 refine sB (qE rfl rfl) rfl rfl (fun h10 => ?_) (fun h10 => ?_)
 refine H3 ?_
 refine E5 rfl ((A1c _ _)) rfl rfl ?_
 refine E5 rfl ((A1c _ _)) rfl rfl ?_
 (refine E7 rfl hB rfl rfl (fun v G1 hle1 hh => ?_); obtain ⟨cb, rfl, hrb⟩ := hh; obtain ⟨p1, c1, e1, rfl, _⟩ := hrb.open)
 refine A9 ?_
 refine I7 (rC rfl (A1 rfl rfl)) ?_
 (exact ⟨rfl, _, rfl, by unfold mGk; rw [if_pos zV]; exact hrb⟩)
 refine A3 ?_
 refine sB (qE rfl rfl) rfl rfl (fun h33 => ?_) (fun h33 => ?_)
 refine A8 ?_
 refine E5 rfl ((A1c _ _)) rfl rfl ?_
 refine E5 rfl ((A1c _ _)) rfl rfl ?_
 (refine E7 rfl hB rfl rfl (fun v G1 hle1 hh => ?_); obtain ⟨cb, rfl, hrb⟩ := hh; obtain ⟨p1, c1, e1, rfl, _⟩ := hrb.open)
 refine A9 ?_
 refine I7 (rC rfl (A1 rfl rfl)) ?_
 (exact ⟨rfl, _, rfl, by unfold mGk; rw [if_pos zV]; exact hrb⟩)
 refine C2 ?_
 refine E5 rfl ((A1c _ _)) rfl rfl ?_
 refine C3 ?_
 refine I7 (rC rfl (A1 rfl rfl)) ?_
 (exact ⟨rfl, _, rfl, by unfold mGk; rw [if_neg zV]; exact N9 _ hk⟩)
theorem B2o (t : Tm) (G : IM) (cells : List Value) (hr : D1 G t cells) : Fn Tryz.prog 122 [.agg ⟨cells⟩] [] G (F8 (.bool (decide (t.k = 2 ∨ t.k = 3 ∨ t.k = 4 ∨ t.k = 5))) G) := by
 obtain ⟨k, nm, num, ⟨tk, tks⟩, ⟨fk, fks⟩, lb, ks⟩ := t
 obtain ⟨pt, ct, pf, cf, p, c, es, rfl, hk, hnum, hlb, hty, hfr, hsl, hkl⟩ := hr.open9
 rw [show (Tm.mk k nm num (.mk tk tks) (.mk fk fks) lb ks).k = k from rfl]
 refine D5 Tryz.func122 rfl Tryz.ntmps122 Tryz.results122 rfl ?_
 intro w0
 refine A3 ?_
 refine sE (D8 rfl rfl) rfl (fun b3 => ?_)
 refine A8 ?_
 refine sB (qE rfl rfl) rfl rfl (fun h11 => ?_) (fun h11 => ?_)
 refine Z0 ?_
 (exact ⟨rfl, by rw [decide_eq_true zV], rfl⟩)
 refine B2 ?_
 refine sB (qE rfl rfl) rfl rfl (fun h36 => ?_) (fun h36 => ?_)
 refine K0 ?_
 (exact ⟨rfl, by rw [decide_eq_true zV], rfl⟩)
 refine C3 ?_
 refine sB (qE rfl rfl) rfl rfl (fun h58 => ?_) (fun h58 => ?_)
 refine E8 ?_
 (exact ⟨rfl, by rw [decide_eq_true zV], rfl⟩)
 refine C3 ?_
 refine sB (qE rfl rfl) rfl rfl (fun h75 => ?_) (fun h75 => ?_)
 refine A7 ?_
 (exact ⟨rfl, by rw [decide_eq_true zV], rfl⟩)
 refine A7 ?_
 (exact ⟨rfl, by rw [decide_eq_false zV], rfl⟩)
theorem D1.put {G : IM} {k : Int} {nm : ByteArray} {num tk fk lb : Int} {tks fks : List Ty} {us : List Tm} {pt pf p : Option Addr} {ct cf n c : Nat} {es : List (List Value)} (hk : F9 k) (hnum : F9 num) (hlb : F9 lb) (hty : C7 G (.mk tk tks) [.int .i64 tk, .slice pt tks.length ct]) (hfr : C7 G (.mk fk fks) [.int .i64 fk, .slice pf fks.length cf])
  (hn : n = us.length) (hs : C8 G p n c 9 es) (hr : H4 G us es) : D1 G (.mk k nm num (.mk tk tks) (.mk fk fks) lb us) [.int .i64 k, .string nm, .int .i64 num, .int .i64 tk, .slice pt tks.length ct, .int .i64 fk, .slice pf fks.length cf, .int .i64 lb, .slice p n c] := by
 subst hn
 simp only [D1]
 exact ⟨_, _, p, c, es, rfl, hk, hnum, hlb, hty, hfr, hs, hr⟩
theorem A3Z {uc : List Value} (h : uc.length = 9) : ∃ v1 v2 v3 v4 v5 v6 v7 v8 v9, uc = [v1, v2, v3, v4, v5, v6, v7, v8, v9] := by
 match uc, h with
 | [a, b, c, d, e, f, g, i, j], _ => exact ⟨a, b, c, d, e, f, g, i, j, rfl⟩
theorem A72 (k : Int) (p : Option Addr) (n c : Nat) (G : IM) : Fn Tryz.prog 168 [.int .i64 k, .slice p n c] [] G (F8 (.agg ⟨[.int .i64 k, .string ⟨⟨[]⟩⟩, .int .i64 0, .int .i64 0, .slice none 0 0, .int .i64 0, .slice none 0 0, .int .i64 0, .slice p n c]⟩) G) := by
 refine D5 Tryz.func168 rfl Tryz.ntmps168 Tryz.results168 rfl ?_
 intro w0
 refine A3 ?_
 refine sE (A4 rfl) rfl (fun b3 => ?_)
 refine E8 ?_
 refine I7 (rC rfl (A1 rfl rfl)) ?_
 (exact ⟨rfl, rfl, rfl⟩)
theorem A30 (G : IM) {k : Int} (hk : F9 k) : D1 G (A0c k []) [.int .i64 k, .string ⟨⟨[]⟩⟩, .int .i64 0, .int .i64 0, .slice none 0 0, .int .i64 0, .slice none 0 0, .int .i64 0, .slice none 0 0] := A70 hk rfl (C8.nil _ _) rfl
theorem B2p (G : IM) : Fn Tryz.prog 129 [.bool true] [] G (TmP (T7 (true = true))) := by
 refine D5 Tryz.func129 rfl Tryz.ntmps129 Tryz.results129 rfl ?_
 intro w0
 refine A3 ?_
 refine sE (A4 rfl) rfl (fun b3 => ?_)
 refine E8 ?_
 refine E5 rfl ((A72 _ _ _ _ _)) rfl rfl ?_
 refine A9 ?_
 refine I7 (rC rfl (A1 rfl rfl)) ?_
 (exact TmP.mk (A30 _ ⟨by decide, by decide⟩))
theorem B2q (G : IM) : Fn Tryz.prog 129 [.bool false] [] G (TmP (T7 (false = true))) := by
 refine D5 Tryz.func129 rfl Tryz.ntmps129 Tryz.results129 rfl ?_
 intro w0
 refine A3 ?_
 refine sE (A4 rfl) rfl (fun b3 => ?_)
 refine G9 ?_
 refine E5 rfl ((A72 _ _ _ _ _)) rfl rfl ?_
 refine C3 ?_
 refine I7 (rC rfl (A1 rfl rfl)) ?_
 (exact TmP.mk (A30 _ ⟨by decide, by decide⟩))
theorem A73 (b : Bool) (G : IM) : Fn Tryz.prog 129 [.bool b] [] G (TmP (T7 (b = true))) := by
 cases b
 ·exact B2q G
 ·exact B2p G
theorem A74 {a b : Int} (h : 0 ≤ a ∧ a ≤ 999) (h' : 0 ≤ b ∧ b ≤ 999) : (a + b).tmod 1000 = (a + b) % 1000 := by
 rw [Int.tmod_eq_emod_of_nonneg zV]
def B47 (k : Int) (ks : List Tm) : Option Tm :=
 if k = 6 then (if (kd ks 0).k = 5 then some (A5u (kd ks 0).nm (kd ks 1) (kd (kd ks 0).ks 0)) else none)
 else if k = 7 ∨ k = 8 then (if (kd ks 0).k = 2 ∧ (kd ks 1).k = 2 then some (if k = 7 then A2s (((kd ks 0).num + (kd ks 1).num) % 1000) else T7 ((kd ks 0).num < (kd ks 1).num)) else none)
 else if k = 9 then (if (kd ks 0).k = 3 then some (kd ks 1) else if (kd ks 0).k = 4 then some (kd ks 2) else none)
 else if k = 11 ∨ k = 12 then (if (kd ks 0).k = 10 then some (kd (kd ks 0).ks (k - 11).toNat) else none)
 else none
def B48 (o : Option Tm) : IM → Value → List A5 → Prop := K9 fun G' v => ∃ u cells c, v = .tuple ⟨[.agg ⟨cells⟩, .int .i64 c]⟩ ∧ D1 G' u cells ∧ (∀ x, o = some x → c = 1 ∧ u = x) ∧ (o = none → c = 3)
theorem A1j (G : IM) : D1 G P2 [.int .i64 0, .string ⟨⟨[]⟩⟩, .int .i64 0, .int .i64 0, .slice none 0 0, .int .i64 0, .slice none 0 0, .int .i64 0, .slice none 0 0] := (O2.zero G).R
section
variable {P : Program} {Γ : K7} {K : Po} {ops : Array Oper} {env : L4} {hp : List A5} {G : IM}
theorem Y2 {H : List (Nat × Nat)} {fuel j : Nat} {listed : List Bool} {hp' : List A5} {p : Option Addr} {c el sz n : Nat} {cs : List Value} (hk : Pk hp (.slc p c el sz n cs) hp')
  (h : ∀ G', D2 G G' → Sl G' p n c sz cs → (∀ b ∈ I2 p, G b = none ∧ G' b ≠ none) → Q9 P Γ ops K H fuel listed j ⟨env, hp', G'⟩) : Q9 P Γ ops K H fuel listed j ⟨env, hp, G⟩ :=
 ⟨fun a w hs => let ⟨G', h1, h2, h3, h4⟩ := hs.freeze hk; (h G' h2 h3 h4).run a w h1⟩
end
def B49 (k : Int) (ty fr : Ty) (lb : Int) (ks : List Tm) : Stp :=
 if k = 6 then
  (if prx (kd ks 0) = true ∧ (kd ks 0).ty.k = 4 then (P3 (A0c 6 [kd (kd ks 0).ks 0, P3 (kd ks 1) (kt (kd ks 0).ty.ks 0) (kt (kd ks 0).fr.ks 0) (-(kd ks 0).lb)]) (kt (kd ks 0).fr.ks 1) (kt (kd ks 0).ty.ks 1) (kd ks 0).lb, 1, 0) else A0d)
 else if k = 11 ∨ k = 12 then
  (if prx (kd ks 0) = true ∧ (kd ks 0).ty.k = 5 then (P3 (A0c k [kd (kd ks 0).ks 0]) (kt (kd ks 0).fr.ks (k - 11).toNat) (kt (kd ks 0).ty.ks (k - 11).toNat) (kd ks 0).lb, 1, 0) else A0d)
 else if k = 14 then
  (if fr.k = ty.k then (kd ks 0, 1, 0)
   else if ty.k = 1 then (P3 (P3 (kd ks 0) fr (A0m fr) lb) (A0m fr) ty lb, 1, 0)
   else if A3X ty = false then (P3 (P3 (kd ks 0) fr (A0m ty) lb) (A0m ty) ty lb, 1, 0)
   else if inj (kd ks 0) = false then A0d
   else if (kd ks 0).fr.k = ty.k then (kd (kd ks 0).ks 0, 1, 0)
   else (P2, 2, lb))
 else A0d
def B5a (r : Stp) : IM → Value → List A5 → Prop := K9 fun G' v => ∃ u cells, v = .tuple ⟨[.agg ⟨cells⟩, .int .i64 r.2.1, .int .i64 r.2.2]⟩ ∧ D1 G' u cells ∧ (r.2.1 = 1 → u = r.1)
inductive Cn where
 | mk (k tg lb : Int) (ks : List Cn)
inductive Nt where
 | mk (k : Int) (nm : ByteArray) (num : Int) (co : Cn) (ks : List Nt)
def Nt.k : Nt → Int | .mk k _ _ _ _ => k
def Nt.ks : Nt → List Nt | .mk _ _ _ _ ks => ks
def K5 : Cn := .mk 0 0 0 []
def nt0 : Nt := .mk 0 ⟨⟨[]⟩⟩ 0 K5 []
def GK.cn : GK → Cn
 | .ida => .mk 1 1 0 []
 | .idi => .mk 1 2 0 []
 | .idb => .mk 1 3 0 []
 | .fn c d => .mk 2 0 0 [c.cn, d.cn]
 | .pr c d => .mk 3 0 0 [c.cn, d.cn]
 | .inj c => .mk 4 0 0 [c.cn]
 | .prj l c => .mk 5 0 l [c.cn]
 | .fl l t => .mk 6 t l []
def TH.nt : TH → Nt
 | .var x => .mk 1 x 0 K5 []
 | .num n => .mk 2 ⟨⟨[]⟩⟩ n K5 []
 | .tru b => .mk (if b = true then 3 else 4) ⟨⟨[]⟩⟩ 0 K5 []
 | .lam x _ e => .mk 5 x 0 K5 [e.nt]
 | .app f a => .mk 6 ⟨⟨[]⟩⟩ 0 K5 [f.nt, a.nt]
 | .ar s a b => .mk (if s = true then 8 else 7) ⟨⟨[]⟩⟩ 0 K5 [a.nt, b.nt]
 | .ite c a b => .mk 9 ⟨⟨[]⟩⟩ 0 K5 [c.nt, a.nt, b.nt]
 | .pair a b => .mk 10 ⟨⟨[]⟩⟩ 0 K5 [a.nt, b.nt]
 | .part s e => .mk (if s = true then 12 else 11) ⟨⟨[]⟩⟩ 0 K5 [e.nt]
 | .conv c e => .mk 14 ⟨⟨[]⟩⟩ 0 c.cn [e.nt]
def KR {α : Type} (R : α → List Value → Prop) (ks : List α) (es : List (List Value)) : Prop := ∀ (i : Nat) (a : α) (e : List Value), ks[i]? = some a → es[i]? = some e → R a e
theorem KR.nil {α : Type} {R : α → List Value → Prop} : KR R [] [] := fun i a e h _ => by simp at h
theorem KR.cons {α : Type} {R : α → List Value → Prop} {a : α} {e : List Value} {ks : List α} {es : List (List Value)} (h1 : R a e) (h2 : KR R ks es) : KR R (a :: ks) (e :: es) := by
 intro i b f hb hf
 cases i with
 | zero => simp at hb hf; subst hb hf; exact h1
 | succ i => exact h2 i b f (by simpa using hb) (by simpa using hf)
theorem KR.snoc {α : Type} {R : α → List Value → Prop} {a : α} {e : List Value} {ks : List α} {es : List (List Value)} (h2 : KR R ks es) (hl : ks.length = es.length) (h1 : R a e) : KR R (ks ++ [a]) (es ++ [e]) := by
 intro i b f hb hf
 rw [List.getElem?_append] at hb hf
 by_cases hi : i < ks.length
 ·rw [if_pos hi] at hb; rw [if_pos zV] at hf; exact h2 i b f hb hf
 ·rw [if_neg hi] at hb; rw [if_neg zV] at hf
  rw [← hl] at hf
  cases hj : i - ks.length with
  | zero => rw [hj] at hb hf; simp at hb hf; subst hb hf; exact h1
  | succ j => rw [hj] at hb; simp at hb
theorem KR.set {α : Type} {R : α → List Value → Prop} {a : α} {e : List Value} {ks : List α} {es : List (List Value)} {j : Nat} (h2 : KR R ks es) (h1 : R a e) : KR R (ks.set j a) (es.set j e) := by
 intro i b f hb hf
 rw [List.getElem?_set] at hb hf
 by_cases hj : j = i
 ·rw [if_pos hj] at hb hf
  split at hb
  ·split at hf
   ·cases hb; cases hf; exact h1
   ·cases hf
  ·cases hb
 ·rw [if_neg hj] at hb hf; exact h2 i b f hb hf
theorem KR.imp {α : Type} {R R' : α → List Value → Prop} {ks : List α} {es : List (List Value)} (h : KR R ks es) (hi : ∀ a e, R a e → R' a e) : KR R' ks es := fun i a e h1 h2 => hi a e (h i a e h1 h2)
inductive E6 (G : IM) : Cn → List Value → Prop
 | mk {k tg lb ks p c es} : F9 k → F9 tg → F9 lb → ks.length ≤ 2 → (k = 2 ∨ k = 3 → ks.length = 2) → (k = 4 ∨ k = 5 → ks.length = 1) → C8 G p ks.length c 4 es → (∀ (i : Nat) a e, ks[i]? = some a → es[i]? = some e → E6 G a e) →
  E6 G (.mk k tg lb ks) [.int .i64 k, .int .i64 tg, .int .i64 lb, .slice p ks.length c]
inductive B1 (G : IM) : Nt → List Value → Prop
 | mk {k nm num tk tks fk fks lb pt ct pf cf p0 c0 co cc ks p c es} : D1 G (.mk k nm num (.mk tk tks) (.mk fk fks) lb []) [.int .i64 k, .string nm, .int .i64 num, .int .i64 tk, .slice pt tks.length ct, .int .i64 fk, .slice pf fks.length cf, .int .i64 lb, .slice p0 0 c0] →
  E6 G co cc → ks.length ≤ 3 → (k = 14 → ks.length = 1) → C8 G p ks.length c 14 es → (∀ (i : Nat) a e, ks[i]? = some a → es[i]? = some e → B1 G a e) →
  B1 G (.mk k nm num co ks) ([.int .i64 k, .string nm, .int .i64 num, .int .i64 tk, .slice pt tks.length ct, .int .i64 fk, .slice pf fks.length cf, .int .i64 lb, .slice p0 0 c0] ++ cc ++ [.slice p ks.length c])
theorem E6.mono {G G' : IM} (hg : D2 G G') {c : Cn} {cells : List Value} (h : E6 G c cells) : E6 G' c cells := by
 induction h with
 | mk h1 h2 h3 h4 h5 h6 h7 _ ih => exact .mk h1 h2 h3 h4 h5 h6 (h7.mono hg) ih
theorem B1.mono {G G' : IM} (hg : D2 G G') {c : Nt} {cells : List Value} (h : B1 G c cells) : B1 G' c cells := by
 induction h with
 | mk h1 h2 h3 h4 h5 _ ih => exact .mk (h1.mono hg) (h2.mono hg) h3 h4 (h5.mono hg) ih
theorem E6.len {G : IM} {c : Cn} {cells : List Value} (h : E6 G c cells) : cells.length = 4 := by cases h; rfl
theorem E6.one {G : IM} {c : Cn} {cells : List Value} (h : E6 G c cells) : cells.all (·.oneCell') = true := by cases h; rfl
theorem B1.len {G : IM} {c : Nt} {cells : List Value} (h : B1 G c cells) : cells.length = 14 := by
 cases h with
 | mk h1 h2 => have := h2.len; simp [this]
theorem B1.one {G : IM} {c : Nt} {cells : List Value} (h : B1 G c cells) : cells.all (·.oneCell') = true := by
 cases h with
 | mk h1 h2 => rw [List.all_append, List.all_append, h2.one]; rfl
theorem E6.open4 {G : IM} {k tg lb : Int} {ks : List Cn} {cells : List Value} (h : E6 G (.mk k tg lb ks) cells) :
  ∃ p c es, cells = [.int .i64 k, .int .i64 tg, .int .i64 lb, .slice p ks.length c] ∧ F9 k ∧ F9 tg ∧ F9 lb ∧ ks.length ≤ 2 ∧ (k = 2 ∨ k = 3 → ks.length = 2) ∧ (k = 4 ∨ k = 5 → ks.length = 1) ∧ C8 G p ks.length c 4 es ∧ KR (E6 G) ks es := by
 cases h with
 | mk h1 h2 h3 h4 h5 h6 h7 h8 => exact ⟨_, _, _, rfl, h1, h2, h3, h4, h5, h6, h7, h8⟩
theorem B1.open14 {G : IM} {k : Int} {nm : ByteArray} {num : Int} {ck ctg clb : Int} {cks : List Cn} {ks : List Nt} {cells : List Value} (h : B1 G (.mk k nm num (.mk ck ctg clb cks) ks) cells) :
  ∃ (tk : Int) (tks : List Ty) (fk : Int) (fks : List Ty) (lb : Int) (pt : Option Addr) (ct : Nat) (pf : Option Addr) (cf : Nat) (p0 : Option Addr) (c0 : Nat) (pc : Option Addr) (cc : Nat) (p : Option Addr) (c : Nat) (es : List (List Value)),
   cells = [.int .i64 k, .string nm, .int .i64 num, .int .i64 tk, .slice pt tks.length ct, .int .i64 fk, .slice pf fks.length cf, .int .i64 lb, .slice p0 0 c0, .int .i64 ck, .int .i64 ctg, .int .i64 clb, .slice pc cks.length cc, .slice p ks.length c] ∧
   D1 G (.mk k nm num (.mk tk tks) (.mk fk fks) lb []) [.int .i64 k, .string nm, .int .i64 num, .int .i64 tk, .slice pt tks.length ct, .int .i64 fk, .slice pf fks.length cf, .int .i64 lb, .slice p0 0 c0] ∧
   E6 G (.mk ck ctg clb cks) [.int .i64 ck, .int .i64 ctg, .int .i64 clb, .slice pc cks.length cc] ∧ ks.length ≤ 3 ∧ (k = 14 → ks.length = 1) ∧ C8 G p ks.length c 14 es ∧ KR (B1 G) ks es := by
 cases h with
 | mk h1 h2 h3 h4 h5 h6 =>
  obtain ⟨pc, cc, _, rfl, _⟩ := h2.open4
  exact ⟨_, _, _, _, _, _, _, _, _, _, _, pc, cc, _, _, _, rfl, h1, h2, h3, h4, h5, h6⟩
theorem C8.kidR {α : Type} {R : α → List Value → Prop} {G : IM} {p : Option Addr} {n c sz : Nat} {es : List (List Value)} {ks : List α} (h : C8 G p n c sz es) (hk : KR R ks es) {i : Nat} (hi : i < n) (hn : i < ks.length) :
  ∃ b o e, p = some ⟨b, o, none⟩ ∧ e.length = sz ∧ e.all (·.oneCell') = true ∧ (∀ hp, At hp G b (o + i * sz) e) ∧ R ks[i] e ∧ es[i]? = some e ∧ G b ≠ none := by
 obtain ⟨e, b, o, he, hp, hl, ho, hat, hg⟩ := h.get hi
 exact ⟨b, o, e, hp, hl, ho, hat, hk i _ e (List.getElem?_eq_getElem hn) he, he, hg⟩
theorem B1.put {G : IM} {k : Int} {nm : ByteArray} {num tk fk lb : Int} {tks fks : List Ty} {ck ctg clb : Int} {cks : List Cn} {us : List Nt} {pt pf p0 pc p : Option Addr} {ct cf c0 cc n m c : Nat} {es : List (List Value)}
  (h1 : D1 G (.mk k nm num (.mk tk tks) (.mk fk fks) lb []) [.int .i64 k, .string nm, .int .i64 num, .int .i64 tk, .slice pt tks.length ct, .int .i64 fk, .slice pf fks.length cf, .int .i64 lb, .slice p0 0 c0])
  (h2 : E6 G (.mk ck ctg clb cks) [.int .i64 ck, .int .i64 ctg, .int .i64 clb, .slice pc m cc]) (h3 : us.length ≤ 3) (h4 : k = 14 → us.length = 1) (hn : n = us.length) (h5 : C8 G p n c 14 es) (h6 : KR (B1 G) us es) :
  B1 G (.mk k nm num (.mk ck ctg clb cks) us) [.int .i64 k, .string nm, .int .i64 num, .int .i64 tk, .slice pt tks.length ct, .int .i64 fk, .slice pf fks.length cf, .int .i64 lb, .slice p0 0 c0, .int .i64 ck, .int .i64 ctg, .int .i64 clb, .slice pc m cc, .slice p n c] := by
 subst hn
 exact .mk h1 h2 h3 h4 h5 h6
theorem E6.put {G : IM} {k tg lb : Int} {ks : List Cn} {p : Option Addr} {n c : Nat} {es : List (List Value)} (h1 : F9 k) (h2 : F9 tg) (h3 : F9 lb) (h4 : ks.length ≤ 2) (h5 : k = 2 ∨ k = 3 → ks.length = 2) (h6 : k = 4 ∨ k = 5 → ks.length = 1) (hn : n = ks.length) (h7 : C8 G p n c 4 es) (h8 : KR (E6 G) ks es) :
  E6 G (.mk k tg lb ks) [.int .i64 k, .int .i64 tg, .int .i64 lb, .slice p n c] := by
 subst hn
 exact .mk h1 h2 h3 h4 h5 h6 h7 h8
theorem X3 (G : IM) : E6 G K5 [.int .i64 0, .int .i64 0, .int .i64 0, .slice none 0 0] :=
 E6.put (ks := []) ⟨by decide, by decide⟩ ⟨by decide, by decide⟩ ⟨by decide, by decide⟩ zU zU zU rfl (C8.nil _ _) KR.nil
theorem A29 {G : IM} {k num : Int} (nm : ByteArray) (hk : F9 k) (hn : F9 num) : D1 G (.mk k nm num (.mk 0 []) (.mk 0 []) 0 []) [.int .i64 k, .string nm, .int .i64 num, .int .i64 0, .slice none 0 0, .int .i64 0, .slice none 0 0, .int .i64 0, .slice none 0 0] := by
 have h0 : F9 0 := ⟨by decide, by decide⟩
 exact D1.put (us := []) hk hn h0 (by simp only [C7]; exact ⟨none, 0, [], rfl, h0, C8.nil _ _, by simp only [F4]⟩) (by simp only [C7]; exact ⟨none, 0, [], rfl, h0, C8.nil _ _, by simp only [F4]⟩) rfl (C8.nil _ _) (by simp only [H4])
theorem A31 (G : IM) : B1 G nt0 [.int .i64 0, .string ⟨⟨[]⟩⟩, .int .i64 0, .int .i64 0, .slice none 0 0, .int .i64 0, .slice none 0 0, .int .i64 0, .slice none 0 0, .int .i64 0, .int .i64 0, .int .i64 0, .slice none 0 0, .slice none 0 0] :=
 B1.put (tks := []) (fks := []) (cks := []) (us := []) (A29 _ ⟨by decide, by decide⟩ ⟨by decide, by decide⟩) (X3 G) zU zU rfl (C8.nil _ _) KR.nil
theorem X4 {uc : List Value} (h : uc.length = 14) : ∃ v1 v2 v3 v4 v5 v6 v7 v8 v9 w1 w2 w3 w4 w5, uc = [v1, v2, v3, v4, v5, v6, v7, v8, v9, w1, w2, w3, w4, w5] := by
 match uc, h with
 | [a, b, c, d, e, f, g, i, j, a1, a2, a3, a4, a5], _ => exact ⟨a, b, c, d, e, f, g, i, j, a1, a2, a3, a4, a5, rfl⟩
theorem W3 {uc : List Value} (h : uc.length = 4) : ∃ v1 v2 v3 v4, uc = [v1, v2, v3, v4] := by
 match uc, h with
 | [a, b, c, d], _ => exact ⟨a, b, c, d, rfl⟩
theorem Cn.ind {P : Cn → Prop} (h : ∀ k tg lb ks, (∀ c ∈ ks, P c) → P (.mk k tg lb ks)) : ∀ c, P c := by
 intro c
 exact Cn.rec (motive_1 := P) (motive_2 := fun ks => ∀ c ∈ ks, P c) (fun k tg lb ks ih => h k tg lb ks ih) (fun c hc => by cases hc) (fun a b i j c hc => by rcases List.mem_cons.1 hc with rfl | hc; exact i; exact j c hc) c
theorem Nt.ind {P : Nt → Prop} (h : ∀ k nm num co ks, (∀ c ∈ ks, P c) → P (.mk k nm num co ks)) : ∀ c, P c := by
 intro c
 exact Nt.rec (motive_1 := P) (motive_2 := fun ks => ∀ c ∈ ks, P c) (fun k nm num co ks ih => h k nm num co ks ih) (fun c hc => by cases hc) (fun a b i j c hc => by rcases List.mem_cons.1 hc with rfl | hc; exact i; exact j c hc) c
mutual
def Nt.sz : Nt → Nat
 | .mk _ _ _ _ ks => Nt.szL ks + 1
def Nt.szL : List Nt → Nat
 | [] => 0
 | t :: ts => t.sz + Nt.szL ts
end
theorem A75 : ∀ (a : List Nt) (t : Nt), Nt.szL (a ++ [t]) = Nt.szL a + t.sz
 | [], t => by simp [Nt.szL]
 | x :: xs, t => by rw [List.cons_append, Nt.szL, Nt.szL, A75 xs t]; omega
theorem A5w {ks : List Nt} {i : Nat} (h : i < ks.length) : Nt.szL (ks.take (i + 1)) = Nt.szL (ks.take i) + ks[i].sz := by
 rw [List.take_succ_eq_append_getElem h, A75]
theorem A5x : ∀ (ks : List Nt) (i : Nat), Nt.szL (ks.take i) ≤ Nt.szL ks
 | [], i => by simp [Nt.szL]
 | x :: xs, 0 => by simp [Nt.szL]
 | x :: xs, i + 1 => by rw [List.take_succ_cons, Nt.szL, Nt.szL]; have := A5x xs i; omega
theorem A76 {ks : List Nt} {i : Nat} (h : i < ks.length) : Nt.szL (ks.take i) + ks[i].sz ≤ Nt.szL ks := by
 have := A5x ks (i + 1)
 rw [A5w h] at this
 exact this
theorem Nt.sz_pos (t : Nt) : 1 ≤ t.sz := by cases t; rw [Nt.sz]; omega
def Z5 (m n : Int) : Int := if m < n then n else m
mutual
def Cn.ht : Cn → Int
 | .mk k _ _ ks => if k = 4 ∨ k = 5 then Cn.htL 0 ks else IntKind.i64.wrap (Cn.htL 0 ks + 1)
def Cn.htL (m : Int) : List Cn → Int
 | [] => m
 | t :: ts => Cn.htL (Z5 m t.ht) ts
end
mutual
def Nt.ht : Nt → Int
 | .mk k _ _ co ks => Nt.htL (if k = 14 then co.ht else 0) ks
def Nt.htL (m : Int) : List Nt → Int
 | [] => m
 | t :: ts => Nt.htL (Z5 m t.ht) ts
end
theorem A77 : ∀ (a : List Cn) (m : Int) (t : Cn), Cn.htL m (a ++ [t]) = Z5 (Cn.htL m a) t.ht
 | [], m, t => by simp [Cn.htL]
 | x :: xs, m, t => by rw [List.cons_append, Cn.htL, Cn.htL, A77 xs]
theorem B2r {ks : List Cn} {m : Int} {i : Nat} (h : i < ks.length) : Cn.htL m (ks.take (i + 1)) = Z5 (Cn.htL m (ks.take i)) ks[i].ht := by
 rw [List.take_succ_eq_append_getElem h, A77]
theorem A78 : ∀ (a : List Nt) (m : Int) (t : Nt), Nt.htL m (a ++ [t]) = Z5 (Nt.htL m a) t.ht
 | [], m, t => by simp [Nt.htL]
 | x :: xs, m, t => by rw [List.cons_append, Nt.htL, Nt.htL, A78 xs]
theorem A79 {ks : List Nt} {m : Int} {i : Nat} (h : i < ks.length) : Nt.htL m (ks.take (i + 1)) = Z5 (Nt.htL m (ks.take i)) ks[i].ht := by
 rw [List.take_succ_eq_append_getElem h, A78]
mutual
def U4 (x : ByteArray) (v : Nt) : Nt → Nt
 | .mk k nm num co ks => if k = 1 ∧ nm = x then v else if k = 5 ∧ nm = x then .mk k nm num co ks else .mk k nm num co (N3 x v ks)
def N3 (x : ByteArray) (v : Nt) : List Nt → List Nt
 | [] => []
 | t :: ts => U4 x v t :: N3 x v ts
end
theorem A5y (x : ByteArray) (v : Nt) : ∀ ks, N3 x v ks = ks.map (U4 x v)
 | [] => rfl
 | t :: ts => by rw [N3, A5y x v ts, List.map_cons]
theorem M7 (x : ByteArray) (v : Nt) (ks : List Nt) : (N3 x v ks).length = ks.length := by rw [A5y, List.length_map]
theorem A2w {x : ByteArray} {v : Nt} {ks : List Nt} {i : Nat} (h : i < ks.length) : (N3 x v ks).take (i + 1) = (N3 x v ks).take i ++ [U4 x v ks[i]] := by
 rw [A5y, List.take_succ_eq_append_getElem (by rw [List.length_map]; exact h), List.getElem_map]
theorem A8a (x : ByteArray) (v : TH) : ∀ t : TH, (t.sub x v).nt = U4 x v.nt t.nt := by
 intro t
 induction t with
 | var y =>
  rw [TH.sub, TH.nt, U4]
  by_cases h : y = x
  ·rw [if_pos h, if_pos ⟨rfl, h⟩]
  ·rw [if_neg h, if_neg (fun c => h c.2), if_neg (by rintro ⟨h, _⟩; exact absurd h zU), TH.nt, N3]
 | num n => rw [TH.sub, TH.nt, U4, if_neg (by rintro ⟨h, _⟩; exact absurd h zU), if_neg (by rintro ⟨h, _⟩; exact absurd h zU), N3]
 | tru b => rw [TH.sub, TH.nt, U4]; cases b <;> simp [N3]
 | lam y A e i =>
  by_cases h : y = x
  ·rw [TH.sub, if_pos h, TH.nt, U4, if_neg (by rintro ⟨h, _⟩; exact absurd h zU), if_pos ⟨rfl, h⟩]
  ·rw [TH.sub, if_neg h, TH.nt, TH.nt, U4, if_neg (by rintro ⟨h, _⟩; exact absurd h zU), if_neg (fun c => h c.2), i, N3, N3]
 | app f a i j => rw [TH.sub, TH.nt, TH.nt, U4, i, j, if_neg (by rintro ⟨h, _⟩; exact absurd h zU), if_neg (by rintro ⟨h, _⟩; exact absurd h zU), N3, N3, N3]
 | ar s a b i j => rw [TH.sub, TH.nt, TH.nt, U4, i, j]; cases s <;> simp [N3]
 | ite c a b i j k => rw [TH.sub, TH.nt, TH.nt, U4, i, j, k, if_neg (by rintro ⟨h, _⟩; exact absurd h zU), if_neg (by rintro ⟨h, _⟩; exact absurd h zU), N3, N3, N3, N3]
 | pair a b i j => rw [TH.sub, TH.nt, TH.nt, U4, i, j, if_neg (by rintro ⟨h, _⟩; exact absurd h zU), if_neg (by rintro ⟨h, _⟩; exact absurd h zU), N3, N3, N3]
 | part s e i => rw [TH.sub, TH.nt, TH.nt, U4, i]; cases s <;> simp [N3]
 | conv c e i => rw [TH.sub, TH.nt, TH.nt, U4, i, if_neg (by rintro ⟨h, _⟩; exact absurd h zU), if_neg (by rintro ⟨h, _⟩; exact absurd h zU), N3, N3]
def kn (ks : List Nt) (i : Nat) : Nt := ks.getD i nt0
def Nt.co : Nt → Cn | .mk _ _ _ c _ => c
def Cn.k : Cn → Int | .mk k _ _ _ => k
def A8b (k : Int) (c : Cn) : Prop := k = 14 ∧ (c.k = 4 ∨ c.k = 2 ∨ c.k = 3)
instance (k : Int) (c : Cn) : Decidable (A8b k c) := by unfold A8b; infer_instance
theorem A32 (c : GK) : (c.cn.k = 4 ∨ c.cn.k = 2 ∨ c.cn.k = 3) ↔ c.vl = true := by
 cases c <;> simp [GK.cn, Cn.k, GK.vl]
theorem A8c {t : TH} {k : Int} {nm : ByteArray} {num : Int} {co : Cn} {ks : List Nt} (h : t.nt = .mk k nm num co ks) (hc : k ≠ 10) : t.pln = decide (k = 2 ∨ k = 3 ∨ k = 4 ∨ k = 5) := by
 cases t <;> simp only [TH.nt, Nt.mk.injEq] at h <;> obtain ⟨rfl, rfl, rfl, rfl, rfl⟩ := h <;> rw [TH.pln] <;> first | rfl | (rename_i b _ _; cases b <;> rfl) | (rename_i b; cases b <;> rfl) | (rename_i b _; cases b <;> rfl) | exact absurd rfl hc
theorem A8d {t : TH} {nm : ByteArray} {num : Int} {co : Cn} {ks : List Nt} (h : t.nt = .mk 10 nm num co ks) : ∃ a b, t = .pair a b ∧ ks = [a.nt, b.nt] := by
 cases t <;> simp only [TH.nt, Nt.mk.injEq] at h <;> first | exact ⟨_, _, rfl, h.2.2.2.2.symm⟩ | (exfalso; (try split at h) <;> (try omega) <;> (have := h.1; split at this <;> omega))
theorem A2x {t : TH} {nm : ByteArray} {num : Int} {co : Cn} {ks : List Nt} (h : t.nt = .mk 14 nm num co ks) : ∃ c e, t = .conv c e ∧ ks = [e.nt] ∧ co = c.cn := by
 cases t <;> simp only [TH.nt, Nt.mk.injEq] at h <;> first | exact ⟨_, _, rfl, h.2.2.2.2.symm, h.2.2.2.1.symm⟩ | (exfalso; (try split at h) <;> (try omega) <;> (have := h.1; split at this <;> omega))
theorem A11 {t : TH} {k : Int} {nm : ByteArray} {num : Int} {co : Cn} {ks : List Nt} (h : t.nt = .mk k nm num co ks) (hk : k ≠ 14) : t.cnv = false := by
 cases t <;> simp only [TH.nt, Nt.mk.injEq] at h <;> first | rfl | exact absurd h.1.symm hk
theorem A8e {t : TH} (h : t.cnv = false) : t.val = t.pln := by
 cases t <;> first | (rw [TH.val, TH.pln]; done) | cases h
def pAt (t : Tm) (label : Int) (l : List Int) : Bool := match tAt t l with
 | some x => decide (x.k = 14 ∧ x.lb = label)
 | none => false
def A3a (t : Tm) (label : Int) : List Int × Bool := match (B0S t).find? (pAt t label) with
 | some l => (l, true)
 | none => ([], false)
def SP1 (G : IM) (l : List Int) (p : Option Addr) (c : Nat) : Prop := Sl G p l.length c 1 (ints l) ∧ ∀ b ∈ I2 p, G b ≠ none
def CpP (t : Tm) (label : Int) (G : IM) : IM → Value → List A5 → Prop := K9 fun G' v => ∃ p c, v = .tuple ⟨[.slice p (A3a t label).1.length c, .bool (A3a t label).2]⟩ ∧ SP1 (E2 G' G) (A3a t label).1 p c
theorem At.mono' {hp : List A5} {G G' : IM} {b o : Nat} {vs : List Value} (hg : D2 G G') (h : At [] G b o vs) : At hp G' b o vs := by
 rcases h with ⟨cs, hm, hv⟩ | ⟨n, c, el, sz, cs, hm, hv⟩ | ⟨full, hx, hv⟩
 ·cases hm
 ·cases hm
 ·exact .inr (.inr ⟨full, hg _ _ hx, hv⟩)
theorem C8.kidD {G : IM} {p : Option Addr} {n c : Nat} {es : List (List Value)} {ks : List Ty} (h : C8 G p n c 2 es) (hk : F4 G ks es) {i : Nat} (hi : i < n) (hn : i < ks.length) :
  ∃ b o q d, p = some ⟨b, o, none⟩ ∧ (∀ hp, At hp G b (o + i * 2) [.int .i64 (ks.getD i C6).k, .slice q (ks.getD i C6).ks.length d]) ∧ C7 G (ks.getD i C6) [.int .i64 (ks.getD i C6).k, .slice q (ks.getD i C6).ks.length d] ∧ G b ≠ none := by
 obtain ⟨b, o, q, d, h1, h2, h3, h4⟩ := h.kidTy hk hi hn
 rw [List.getD_eq_getElem?_getD, List.getElem?_eq_getElem hn, Option.getD_some]
 exact ⟨b, o, q, d, h1, h2, h3, h4⟩
theorem A2y {hs : List Ty} (h : ∀ t ∈ hs, H1 t) {i : Nat} (hi : i < hs.length) : H1 (hs.getD i C6) := by
 rw [List.getD_eq_getElem?_getD, List.getElem?_eq_getElem hi, Option.getD_some]
 exact h _ (List.getElem_mem hi)
def J9 (r : Option (List Ty × Ty)) (G : IM) : IM → Value → List A5 → Prop := K9 fun G' v => ∃ p n c es w cu u, v = .tuple ⟨[.slice p n c, .agg ⟨cu⟩, .bool r.isSome]⟩ ∧ n = w.length ∧ C8 G' p n c 2 es ∧ F4 G' w es ∧ C7 G' u cu ∧ ∀ q, r = some q → q = (w, u)
theorem J9.mk {r : Option (List Ty × Ty)} {G G' : IM} {p : Option Addr} {n c : Nat} {es : List (List Value)} {w : List Ty} {cu : List Value} {u : Ty} {b : Bool} (hl : n = w.length) (hs : Sl G' p n c 2 es.flatten) (hw : F4 G' w es) (hu : C7 G' u cu) (h : r = if b = true then some (w, u) else none) :
  J9 r G G' (.tuple ⟨[.slice p n c, .agg ⟨cu⟩, .bool b]⟩) [] := by
 refine ⟨rfl, p, n, c, es, w, cu, u, ?_, hl, C8.of hs (by rw [hw.len, hl]) hw.all (fun e he => (hw.each e he).2), hw, hu, ?_⟩
 ·subst h; cases b <;> rfl
 ·subst h; cases b
  ·simp
  ·intro q hq; simpa using hq.symm
theorem J9.nil {r : Option (List Ty × Ty)} {G G' : IM} {cu : List Value} {u : Ty} {b : Bool} (hu : C7 G' u cu) (h : r = if b = true then some ([], u) else none) :
  J9 r G G' (.tuple ⟨[.slice none 0 0, .agg ⟨cu⟩, .bool b]⟩) [] := J9.mk (es := []) rfl (Sl.nil _ _) (by simp [F4]) hu h
theorem J9.one {r : Option (List Ty × Ty)} {G G' : IM} {p : Option Addr} {c : Nat} {a : Ty} {ca : List Value} {cu : List Value} {u : Ty} {b : Bool} (hs : Sl G' p 1 c 2 ca) (ha : C7 G' a ca) (hu : C7 G' u cu) (h : r = if b = true then some ([a], u) else none) :
  J9 r G G' (.tuple ⟨[.slice p 1 c, .agg ⟨cu⟩, .bool b]⟩) [] := J9.mk (es := [ca]) (w := [a]) rfl (by simpa using hs) ⟨_, _, rfl, ha, rfl⟩ hu h
theorem J9.two {r : Option (List Ty × Ty)} {G G' : IM} {p : Option Addr} {c : Nat} {a a2 : Ty} {ca ca2 : List Value} {cu : List Value} {u : Ty} {b : Bool} (hs : Sl G' p 2 c 2 (ca ++ ca2)) (ha : C7 G' a ca) (ha2 : C7 G' a2 ca2) (hu : C7 G' u cu) (h : r = if b = true then some ([a, a2], u) else none) :
  J9 r G G' (.tuple ⟨[.slice p 2 c, .agg ⟨cu⟩, .bool b]⟩) [] := J9.mk (es := [ca, ca2]) (w := [a, a2]) rfl (by simpa using hs) ⟨_, _, rfl, ha, _, _, rfl, ha2, rfl⟩ hu h
theorem J9.three {r : Option (List Ty × Ty)} {G G' : IM} {p : Option Addr} {c : Nat} {a a2 a3 : Ty} {ca ca2 ca3 : List Value} {cu : List Value} {u : Ty} {b : Bool} (hs : Sl G' p 3 c 2 (ca ++ (ca2 ++ ca3))) (ha : C7 G' a ca) (ha2 : C7 G' a2 ca2) (ha3 : C7 G' a3 ca3) (hu : C7 G' u cu) (h : r = if b = true then some ([a, a2, a3], u) else none) :
  J9 r G G' (.tuple ⟨[.slice p 3 c, .agg ⟨cu⟩, .bool b]⟩) [] := J9.mk (es := [ca, ca2, ca3]) (w := [a, a2, a3]) rfl (by simpa using hs) ⟨_, _, rfl, ha, _, _, rfl, ha2, _, _, rfl, ha3, rfl⟩ hu h
section
variable {cx : Cx} {nm : ByteArray} {ty : Ty} {h : List Ty}
theorem mW1 : L6 cx 1 nm ty h = match W1 cx nm with | some t => some ([], t) | none => none := rfl
theorem mW2 : L6 cx 2 nm ty h = some ([], O4) := rfl
theorem A3b {k : Int} (hk : k = 3 ∨ k = 4) : L6 cx k nm ty h = some ([], T0) := by rcases hk with rfl | rfl <;> rfl
theorem mW5 : L6 cx 5 nm ty h = some ([], .mk 4 [ty, h.getD 0 C6]) := rfl
theorem mW6 : L6 cx 6 nm ty h = match O8 4 (h.getD 0 C6) with | some (a, b) => if J0 (h.getD 1 C6) a = true then some ([.mk 4 [a, b], a], b) else none | none => none := rfl
theorem S3 {k : Int} (hk : k = 7 ∨ k = 8) : L6 cx k nm ty h = if J0 (h.getD 0 C6) O4 = true ∧ J0 (h.getD 1 C6) O4 = true then some ([O4, O4], if k = 8 then T0 else O4) else none := by rcases hk with rfl | rfl <;> rfl
theorem mW9 : L6 cx 9 nm ty h = if J0 (h.getD 0 C6) T0 = true ∧ J0 (h.getD 1 C6) (h.getD 2 C6) = true then some ([T0, R5 (h.getD 1 C6) (h.getD 2 C6), R5 (h.getD 1 C6) (h.getD 2 C6)], R5 (h.getD 1 C6) (h.getD 2 C6)) else none := rfl
theorem A33 : L6 cx 10 nm ty h = some ([], .mk 5 [h.getD 0 C6, h.getD 1 C6]) := rfl
theorem A12 : L6 cx 13 nm ty h = if J0 (h.getD 0 C6) ty = true then some ([ty], ty) else none := rfl
theorem A2z {k : Int} (hk : k = 11 ∨ k = 12) : L6 cx k nm ty h = match O8 5 (h.getD 0 C6) with | some (a, b) => some ([.mk 5 [a, b]], if k = 12 then b else a) | none => none := by rcases hk with rfl | rfl <;> rfl
end
theorem J2 (G : IM) : C7 G O4 [.int .i64 2, .slice none 0 0] := N9 G ⟨by omega, by omega⟩
theorem W4 (G : IM) : C7 G T0 [.int .i64 3, .slice none 0 0] := N9 G ⟨by omega, by omega⟩
theorem B2s (cx : Cx) (k : Int) (nm : ByteArray) (num : Int) (ty fr : Ty) (lb : Int) (ks : List Tm) (h : List Ty) (G : IM) (pc : Option Addr) (nc cc : Nat) (cells : List Value) (p : Option Addr) (n c : Nat) (es : List (List Value))
  (hx : O9 G cx pc nc cc) (hops : H8 k = n) (hnl : n = h.length) (hk14 : k ≠ 14) (hta : H1 ty) (hr : D1 G (.mk k nm num ty fr lb ks) cells) (hsl : C8 G p n c 2 es) (hkl : F4 G h es) (har : ∀ t ∈ h, H1 t) :
  Fn Tryz.prog 63 [.slice pc nc cc, .agg ⟨cells⟩, .slice p n c] [] G (J9 (L6 cx k nm ty h) G) := by
 have hone := hr.one
 have hop := A2r hops
 have hkr : 1 ≤ k ∧ k ≤ 14 := by
  apply Classical.byContradiction
  intro hc
  rw [A3E hc] at hops; omega
 obtain ⟨tyk, tyks⟩ := ty
 obtain ⟨fk, fks⟩ := fr
 obtain ⟨pt, ct, pf, cf, pk, ck, ek, rfl, hk, hnum, hlb, hrty, hrfr, _, _⟩ := hr.open9
 refine D5 Tryz.func63 rfl Tryz.ntmps63 Tryz.results63 rfl ?_
 intro w0
 refine A3 ?_
 refine sE (D8 rfl rfl) rfl (fun b3 => ?_)
 refine I0 ?_
 refine sE (A4 rfl) rfl (fun b5 => ?_)
 refine A9 ?_
 refine E5 rfl ((A1c _ _)) rfl rfl ?_
 refine E5 rfl ((A1c _ _)) rfl rfl ?_
 refine sE (A4 rfl) rfl (fun b13 => ?_)
 refine sE (A4 rfl) rfl (fun b14 => ?_)
 refine E8 ?_
 refine B7 (tS (tR (sB (qE rfl rfl) rfl rfl (fun h29 => ?_) (fun h29 => ?_))))
 refine C2 ?_
 (refine E7 rfl (B2l G cx pc nc cc nm hx) rfl rfl (fun v G1 hle1 hh => ?_); obtain ⟨cu, u, rfl, hru, hu⟩ := hh; obtain ⟨p1, c1, e1, rfl, _⟩ := hru.open)
 refine B2 ?_
 refine sE (A4 rfl) rfl (fun b43 => ?_)
 refine A9 ?_
 refine D3 D4 rfl ?_
 refine K3 (i := 0) (l' := [tt,ff,ff,ff,ff]) rfl C1 (A1 rfl rfl) rfl zT rfl rfl ?_
 refine aP 1 rfl (qM rfl) rfl ?_
 refine aP 2 rfl (qA rfl) rfl ?_
 refine A0 3 ?_
 refine B8 rfl ?_
 refine aP 4 rfl (qA rfl) rfl ?_
 refine A9 ?_
 refine E4 (rT rfl) (rC rfl (A1 rfl rfl)) (rT rfl) ?_
 (have hk1 : k = 1 := zV; subst hk1; rw [mW1]; refine J9.nil hru ?_; generalize W1 cx nm = r at hu ⊢; cases r with | none => rfl | some t => (rw [hu t rfl]; rfl))
 refine A7 ?_
 refine sB (qE rfl rfl) rfl rfl (fun h69 => ?_) (fun h69 => ?_)
 refine A9 ?_
 refine D3 D4 rfl ?_
 refine K3 (i := 0) (l' := [tt,ff,ff,ff]) rfl C1 (A1 rfl rfl) rfl zT rfl rfl ?_
 refine aP 1 rfl (qA rfl) rfl ?_
 refine A0 2 ?_
 refine B8 rfl ?_
 refine aP 3 rfl (qA rfl) rfl ?_
 refine A9 ?_
 refine E4 (rT rfl) (rC rfl (A1 rfl rfl)) (rT rfl) ?_
 (have hk1 : k = 2 := zV; subst hk1; exact J9.nil (J2 _) mW2)
 refine A8 ?_
 refine sB (qE rfl rfl) rfl rfl (fun h95 => ?_) (fun h95 => ?_)
 refine B4 ?_
 refine D3 D4 rfl ?_
 refine K3 (i := 0) (l' := [tt,ff,ff,ff]) rfl C1 (A1 rfl rfl) rfl zT rfl rfl ?_
 refine aP 1 rfl (qA rfl) rfl ?_
 refine A0 2 ?_
 refine B8 rfl ?_
 refine aP 3 rfl (qA rfl) rfl ?_
 refine A9 ?_
 refine E4 (rT rfl) (rC rfl (A1 rfl rfl)) (rT rfl) ?_
 (exact J9.nil (W4 _) (by rw [A3b zV]; rfl))
 refine A9 ?_
 refine sB (qE rfl rfl) rfl rfl (fun h122 => ?_) (fun h122 => ?_)
 refine A9 ?_
 refine D3 D4 rfl ?_
 refine K3 (i := 0) (l' := [tt,ff,ff,ff]) rfl C1 (A1 rfl rfl) rfl zT rfl rfl ?_
 refine aP 1 rfl (qA rfl) rfl ?_
 refine A0 2 ?_
 refine B8 rfl ?_
 refine aP 3 rfl (qA rfl) rfl ?_
 refine A9 ?_
 refine E4 (rT rfl) (rC rfl (A1 rfl rfl)) (rT rfl) ?_
 (exact J9.nil (W4 _) (by rw [A3b zV]; rfl))
 refine A7 ?_
 refine sB (qE rfl rfl) rfl rfl (fun h147 => ?_) (fun h147 => ?_)
 refine A9 ?_
 (have hl1 : n = 1 := hop.2.2 zV; obtain ⟨b0, o0, q0, d0, hp0, hat0, hre0, hg0⟩ := hsl.kidD hkl (i := 0) zV zV; cases hp0; refine D3 D4 rfl ?_)
 refine E9 (i := 0) (l' := [tt,ff,ff,ff,ff,ff,ff,ff,ff]) rfl C1 (B0 rfl) rfl zT rfl rfl ?_
 refine aL 1 rfl (A1 rfl rfl) rfl ?_
 refine aP 2 rfl (qM rfl) rfl ?_
 refine aP 3 rfl (A6 (j := 0) rfl rfl rfl zV) rfl ?_
 refine aL 4 rfl (A2 rfl rfl (hat0 _) rfl) rfl ?_
 refine A0 5 ?_
 (refine D6 rfl rfl (A1y 4 _ _ _ _ _ ⟨by omega, by omega⟩ hrty hre0) rfl rfl rfl (fun v GB hleB hh => ?_); obtain ⟨cB, rfl, hrB⟩ := hh; obtain ⟨p7, c7, e7, rfl, _⟩ := hrB.open)
 refine aP 6 rfl (qA rfl) rfl ?_
 refine A0 7 ?_
 refine B8 rfl ?_
 refine aP 8 rfl (qA rfl) rfl ?_
 refine A9 ?_
 refine E4 (rT rfl) (rC rfl (A1 rfl rfl)) (rT rfl) ?_
 (have hk1 : k = 5 := zV; subst hk1; exact J9.nil hrB mW5)
 refine A7 ?_
 refine sB (qE rfl rfl) rfl rfl (fun h178 => ?_) (fun h178 => ?_)
 refine A8 ?_
 (have hl2 : n = 2 := hop.1 zV; obtain ⟨b0, o0, q0, d0, hp0, hat0, hre0, hg0⟩ := hsl.kidD hkl (i := 0) zV zV; cases hp0; refine sP (A6 (j := 0) rfl rfl rfl zV) rfl rfl ?_)
 refine sL (A2 rfl rfl (hat0 _) rfl) rfl rfl ?_
 (refine E7 rfl (A7Y 4 (h.getD 0 C6) G _ (.inl rfl) (A2y har zV) hre0) rfl rfl (fun v G1 hle1 hh => ?_); obtain ⟨ma, mca, mb, mcb, rfl, hma, hmb, hma2, hmb2, hmm⟩ := hh; obtain ⟨p1, c1, e1, rfl, _⟩ := hma.open; obtain ⟨p2, c2, e2, rfl, _⟩ := hmb.open; replace hsl := hsl.mono hle1; replace hkl := hkl.mono hle1; generalize hmi : (O8 4 (h.getD 0 C6)).isSome = mi; cases mi)
 refine C3 ?_
 refine sE (A4 rfl) rfl (fun b193 => ?_)
 refine sE (A4 rfl) rfl (fun b194 => ?_)
 refine A7 ?_
 (have hl2 : n = 2 := hop.1 zV; obtain ⟨b0, o0, q0, d0, hp0, hat0, hre0, hg0⟩ := hsl.kidD hkl (i := 0) zV zV; obtain ⟨b1, o1, q1, d1, hp1, hat1, hre1, hg1⟩ := hsl.kidD hkl (i := 1) zV zV; cases hp0; cases hp1; refine D3 D4 rfl ?_)
 refine K3 (i := 0) (l' := [tt,ff,ff,ff,ff,ff,ff,ff,ff,ff,ff,ff,ff,ff,ff,ff,ff]) rfl C1 (A1 rfl rfl) rfl zT rfl rfl ?_
 refine aL 1 rfl (A1 rfl rfl) rfl ?_
 refine aL 3 rfl (A1 rfl rfl) rfl ?_
 refine aL 5 rfl (A1 rfl rfl) rfl ?_
 refine aP 6 rfl (qM rfl) rfl ?_
 refine A0 2 ?_
 (refine D6 rfl rfl (A1y _ ma mb _ _ _ ⟨by omega, by omega⟩ hma hmb) rfl rfl rfl (fun v GB hleB hh => ?_); obtain ⟨cB, rfl, hrB⟩ := hh; obtain ⟨p7, c7, e7, rfl, _⟩ := hrB.open; have hma' := hma.mono hleB; have hmb' := hmb.mono hleB)
 refine aP 7 rfl (qM rfl) rfl ?_
 refine C4 8 rfl rfl rfl ?_
 refine C4 9 rfl rfl rfl ?_
 refine C4 10 rfl rfl rfl ?_
 refine C4 11 rfl rfl rfl ?_
 refine J8 (j := 4) (j' := 12) zT ?_ ?_
 (refine B6 rfl (C0 rfl rfl rfl zV zQ rfl) rfl rfl ?_; rintro _ ⟨b215, rfl⟩)
 refine C4 12 rfl rfl rfl ?_
 refine aP 13 rfl (N7 rfl rfl) rfl ?_
 refine aP 14 rfl (qA rfl) rfl ?_
 refine A0 15 ?_
 refine B8 rfl ?_
 refine aP 16 rfl (qA rfl) rfl ?_
 refine A3 ?_
 (refine E0 Pk.here (fun G5 hle5 hsl5 hno5 => ?_))
 refine B2 ?_
 refine E4 (rT rfl) (rC rfl (A1 rfl rfl)) (rT rfl) ?_
 (have hk1 : k = 6 := zV; subst hk1; refine J9.two hsl5 (hrB.mono hle5) (hma'.mono hle5) (hmb'.mono hle5) ?_; rw [mW6]; cases hq : O8 4 (h.getD 0 C6) with | none => rfl | some q => (rw [hq] at hmi; cases hmi))
 refine A4X (l' := [tt,tt,tt,tt,ff,tt,tt,tt,tt,tt,tt,tt,tt,ff,ff,ff,ff]) rfl rfl rfl rfl ?_
 refine aP 13 rfl (N7 rfl rfl) rfl ?_
 refine A0 4 ?_
 (refine B6 rfl (C0 rfl rfl rfl zV zQ rfl) rfl rfl ?_; rintro _ ⟨b233, rfl⟩)
 refine aP 14 rfl (qA rfl) rfl ?_
 refine A0 15 ?_
 refine B8 rfl ?_
 refine aP 16 rfl (qA rfl) rfl ?_
 refine A3 ?_
 (refine E0 Pk.here (fun G5 hle5 hsl5 hno5 => ?_))
 refine B2 ?_
 refine E4 (rT rfl) (rC rfl (A1 rfl rfl)) (rT rfl) ?_
 (have hk1 : k = 6 := zV; subst hk1; refine J9.two hsl5 (hrB.mono hle5) (hma'.mono hle5) (hmb'.mono hle5) ?_; rw [mW6]; cases hq : O8 4 (h.getD 0 C6) with | none => rfl | some q => (rw [hq] at hmi; cases hmi))
 refine C3 ?_
 refine sE (A4 rfl) rfl (fun b250 => ?_)
 refine sE (A4 rfl) rfl (fun b251 => ?_)
 refine A7 ?_
 (have hl2 : n = 2 := hop.1 zV; obtain ⟨b0, o0, q0, d0, hp0, hat0, hre0, hg0⟩ := hsl.kidD hkl (i := 0) zV zV; obtain ⟨b1, o1, q1, d1, hp1, hat1, hre1, hg1⟩ := hsl.kidD hkl (i := 1) zV zV; cases hp0; cases hp1; refine D3 D4 rfl ?_)
 refine K3 (i := 0) (l' := [tt,ff,ff,ff,ff,ff,ff,ff,ff,ff,ff,ff,ff,ff,ff,ff,ff]) rfl C1 (A1 rfl rfl) rfl zT rfl rfl ?_
 refine aL 1 rfl (A1 rfl rfl) rfl ?_
 refine aL 3 rfl (A1 rfl rfl) rfl ?_
 refine aL 5 rfl (A1 rfl rfl) rfl ?_
 refine aP 6 rfl (qM rfl) rfl ?_
 refine A0 2 ?_
 (refine D6 rfl rfl (A1y _ ma mb _ _ _ ⟨by omega, by omega⟩ hma hmb) rfl rfl rfl (fun v GB hleB hh => ?_); obtain ⟨cB, rfl, hrB⟩ := hh; obtain ⟨p7, c7, e7, rfl, _⟩ := hrB.open; have hma' := hma.mono hleB; have hmb' := hmb.mono hleB)
 refine aP 7 rfl (qM rfl) rfl ?_
 refine aP 8 rfl (qM rfl) rfl ?_
 refine aP 9 rfl (A6 (j := 1) rfl rfl rfl zV) rfl ?_
 refine aL 10 rfl (A2 rfl rfl (At.mono' hleB (hat1 _)) rfl) rfl ?_
 refine aL 11 rfl (A1 rfl rfl) rfl ?_
 refine J8 (j := 4) (j' := 12) zT ?_ ?_
 (refine B6 rfl (C0 rfl rfl rfl zV zQ rfl) rfl rfl ?_; rintro _ ⟨b272, rfl⟩)
 refine A0 12 ?_
 refine Q3 rfl rfl ((W0 _ _ _ _ _ (hre1.mono hleB) hma')) rfl rfl rfl (fun h274 => ?_) (fun h274 => ?_)
 refine aP 13 rfl (M2 rfl rfl) rfl ?_
 refine aP 14 rfl (qA rfl) rfl ?_
 refine A0 15 ?_
 refine B8 rfl ?_
 refine aP 16 rfl (qA rfl) rfl ?_
 refine A3 ?_
 (refine E0 Pk.here (fun G5 hle5 hsl5 hno5 => ?_))
 refine B2 ?_
 refine E4 (rT rfl) (rC rfl (A1 rfl rfl)) (rT rfl) ?_
 (have hk1 : k = 6 := zV; subst hk1; refine J9.two hsl5 (hrB.mono hle5) (hma'.mono hle5) (hmb'.mono hle5) ?_; rw [mW6]; cases hq : O8 4 (h.getD 0 C6) with | none => (rw [hq] at hmi; cases hmi) | some q => (have hq2 := hmm q hq; subst hq2; dsimp only; split <;> first | rfl | (exfalso; simp_all; done)))
 refine aP 13 rfl (M2 rfl rfl) rfl ?_
 refine aP 14 rfl (qA rfl) rfl ?_
 refine A0 15 ?_
 refine B8 rfl ?_
 refine aP 16 rfl (qA rfl) rfl ?_
 refine A3 ?_
 (refine E0 Pk.here (fun G5 hle5 hsl5 hno5 => ?_))
 refine B2 ?_
 refine E4 (rT rfl) (rC rfl (A1 rfl rfl)) (rT rfl) ?_
 (have hk1 : k = 6 := zV; subst hk1; refine J9.two hsl5 (hrB.mono hle5) (hma'.mono hle5) (hmb'.mono hle5) ?_; rw [mW6]; cases hq : O8 4 (h.getD 0 C6) with | none => (rw [hq] at hmi; cases hmi) | some q => (have hq2 := hmm q hq; subst hq2; dsimp only; split <;> first | rfl | (exfalso; simp_all; done)))
 refine Q3 rfl rfl ((W0 _ _ _ _ _ (hre1.mono hleB) hma')) rfl rfl rfl (fun h301 => ?_) (fun h301 => ?_)
 refine aP 13 rfl (M2 rfl rfl) rfl ?_
 refine A0 4 ?_
 (refine B6 rfl (C0 rfl rfl rfl zV zQ rfl) rfl rfl ?_; rintro _ ⟨b304, rfl⟩)
 refine aP 14 rfl (qA rfl) rfl ?_
 refine A0 15 ?_
 refine B8 rfl ?_
 refine aP 16 rfl (qA rfl) rfl ?_
 refine A3 ?_
 (refine E0 Pk.here (fun G5 hle5 hsl5 hno5 => ?_))
 refine B2 ?_
 refine E4 (rT rfl) (rC rfl (A1 rfl rfl)) (rT rfl) ?_
 (have hk1 : k = 6 := zV; subst hk1; refine J9.two hsl5 (hrB.mono hle5) (hma'.mono hle5) (hmb'.mono hle5) ?_; rw [mW6]; cases hq : O8 4 (h.getD 0 C6) with | none => (rw [hq] at hmi; cases hmi) | some q => (have hq2 := hmm q hq; subst hq2; dsimp only; split <;> first | rfl | (exfalso; simp_all; done)))
 refine aP 13 rfl (M2 rfl rfl) rfl ?_
 refine A0 4 ?_
 (refine B6 rfl (C0 rfl rfl rfl zV zQ rfl) rfl rfl ?_; rintro _ ⟨b319, rfl⟩)
 refine aP 14 rfl (qA rfl) rfl ?_
 refine A0 15 ?_
 refine B8 rfl ?_
 refine aP 16 rfl (qA rfl) rfl ?_
 refine A3 ?_
 (refine E0 Pk.here (fun G5 hle5 hsl5 hno5 => ?_))
 refine B2 ?_
 refine E4 (rT rfl) (rC rfl (A1 rfl rfl)) (rT rfl) ?_
 (have hk1 : k = 6 := zV; subst hk1; refine J9.two hsl5 (hrB.mono hle5) (hma'.mono hle5) (hmb'.mono hle5) ?_; rw [mW6]; cases hq : O8 4 (h.getD 0 C6) with | none => (rw [hq] at hmi; cases hmi) | some q => (have hq2 := hmm q hq; subst hq2; dsimp only; split <;> first | rfl | (exfalso; simp_all; done)))
 refine A8 ?_
 refine sB (qE rfl rfl) rfl rfl (fun h339 => ?_) (fun h339 => ?_)
 refine H3 ?_
 refine sE (A4 rfl) rfl (fun b350 => ?_)
 refine B4 ?_
 refine sP (E1 rfl rfl zV) rfl rfl ?_
 refine A7 ?_
 (have hl2 : n = 2 := hop.1 zV; obtain ⟨b0, o0, q0, d0, hp0, hat0, hre0, hg0⟩ := hsl.kidD hkl (i := 0) zV zV; obtain ⟨b1, o1, q1, d1, hp1, hat1, hre1, hg1⟩ := hsl.kidD hkl (i := 1) zV zV; cases hp0; cases hp1; refine D3 D4 rfl ?_)
 refine K3 (i := 0) (l' := [tt,ff,ff,ff,ff,ff,ff,ff,ff,ff,ff,ff,ff,ff,ff,ff,ff,ff,ff]) rfl C1 (A1 rfl rfl) rfl zT rfl rfl ?_
 refine aL 1 rfl (A1 rfl rfl) rfl ?_
 refine aL 3 rfl (A1 rfl rfl) rfl ?_
 refine aP 4 rfl (qM rfl) rfl ?_
 refine aP 5 rfl (A6 (j := 0) rfl rfl rfl zV) rfl ?_
 refine aL 6 rfl (A2 rfl rfl (hat0 _) rfl) rfl ?_
 refine aL 7 rfl (A1 rfl rfl) rfl ?_
 refine J8 (j := 2) (j' := 8) zT ?_ ?_
 (refine B6 rfl (C0 rfl rfl rfl zV zQ rfl) rfl rfl ?_; rintro _ ⟨b375, rfl⟩)
 refine A0 8 ?_
 refine Q3 rfl rfl ((W0 _ _ _ _ _ hre0 (J2 _))) rfl rfl rfl (fun h377 => ?_) (fun h377 => ?_)
 refine aP 9 rfl (qM rfl) rfl ?_
 refine aP 10 rfl (qM rfl) rfl ?_
 refine aP 11 rfl (A6 (j := 1) rfl rfl rfl zV) rfl ?_
 refine aL 12 rfl (A2 rfl rfl (hat1 _) rfl) rfl ?_
 refine aL 13 rfl (A1 rfl rfl) rfl ?_
 refine A0 14 ?_
 refine Q3 rfl rfl ((W0 _ _ _ _ _ hre1 (J2 _))) rfl rfl rfl (fun h384 => ?_) (fun h384 => ?_)
 refine aP 15 rfl (M2 rfl rfl) rfl ?_
 refine aP 16 rfl (qA rfl) rfl ?_
 refine A0 17 ?_
 refine B8 rfl ?_
 refine aP 18 rfl (qA rfl) rfl ?_
 refine A3 ?_
 (refine E0 Pk.here (fun G5 hle5 hsl5 hno5 => ?_))
 refine B2 ?_
 refine E4 (rT rfl) (rC rfl (A1 rfl rfl)) (rT rfl) ?_
 (refine J9.two hsl5 (J2 _) (J2 _) (J2 _) ?_; rw [S3 zV]; first | (rw [if_pos ⟨by assumption, by assumption⟩, if_neg zV]; rfl) | (rw [if_neg (fun hc => by first | exact Bool.noConfusion (hc.1.symm.trans zS) | exact Bool.noConfusion (hc.2.symm.trans zS) | exact Bool.noConfusion (hc.symm.trans zS))]; rfl))
 refine aP 15 rfl (M2 rfl rfl) rfl ?_
 refine aP 16 rfl (qA rfl) rfl ?_
 refine A0 17 ?_
 refine B8 rfl ?_
 refine aP 18 rfl (qA rfl) rfl ?_
 refine A3 ?_
 (refine E0 Pk.here (fun G5 hle5 hsl5 hno5 => ?_))
 refine B2 ?_
 refine E4 (rT rfl) (rC rfl (A1 rfl rfl)) (rT rfl) ?_
 (refine J9.two hsl5 (J2 _) (J2 _) (J2 _) ?_; rw [S3 zV]; first | (rw [if_pos ⟨by assumption, by assumption⟩, if_neg zV]; rfl) | (rw [if_neg (fun hc => by first | exact Bool.noConfusion (hc.1.symm.trans zS) | exact Bool.noConfusion (hc.2.symm.trans zS) | exact Bool.noConfusion (hc.symm.trans zS))]; rfl))
 refine aP 9 rfl (qM rfl) rfl ?_
 refine C4 10 rfl rfl rfl ?_
 refine C4 11 rfl rfl rfl ?_
 refine C4 12 rfl rfl rfl ?_
 refine C4 13 rfl rfl rfl ?_
 refine C4 14 rfl rfl rfl ?_
 refine aP 15 rfl (N7 rfl rfl) rfl ?_
 refine aP 16 rfl (qA rfl) rfl ?_
 refine A0 17 ?_
 refine B8 rfl ?_
 refine aP 18 rfl (qA rfl) rfl ?_
 refine A3 ?_
 (refine E0 Pk.here (fun G5 hle5 hsl5 hno5 => ?_))
 refine B2 ?_
 refine E4 (rT rfl) (rC rfl (A1 rfl rfl)) (rT rfl) ?_
 (refine J9.two hsl5 (J2 _) (J2 _) (J2 _) ?_; rw [S3 zV]; first | (rw [if_pos ⟨by assumption, by assumption⟩, if_neg zV]; rfl) | (rw [if_neg (fun hc => by first | exact Bool.noConfusion (hc.1.symm.trans zS) | exact Bool.noConfusion (hc.2.symm.trans zS) | exact Bool.noConfusion (hc.symm.trans zS))]; rfl))
 refine Q3 rfl rfl ((W0 _ _ _ _ _ hre0 (J2 _))) rfl rfl rfl (fun h430 => ?_) (fun h430 => ?_)
 refine aP 9 rfl (qM rfl) rfl ?_
 refine aP 10 rfl (qM rfl) rfl ?_
 refine aP 11 rfl (A6 (j := 1) rfl rfl rfl zV) rfl ?_
 refine aL 12 rfl (A2 rfl rfl (hat1 _) rfl) rfl ?_
 refine aL 13 rfl (A1 rfl rfl) rfl ?_
 refine J8 (j := 2) (j' := 14) zT ?_ ?_
 (refine B6 rfl (C0 rfl rfl rfl zV zQ rfl) rfl rfl ?_; rintro _ ⟨b437, rfl⟩)
 refine A0 14 ?_
 refine Q3 rfl rfl ((W0 _ _ _ _ _ hre1 (J2 _))) rfl rfl rfl (fun h439 => ?_) (fun h439 => ?_)
 refine aP 15 rfl (M2 rfl rfl) rfl ?_
 refine aP 16 rfl (qA rfl) rfl ?_
 refine A0 17 ?_
 refine B8 rfl ?_
 refine aP 18 rfl (qA rfl) rfl ?_
 refine A3 ?_
 (refine E0 Pk.here (fun G5 hle5 hsl5 hno5 => ?_))
 refine B2 ?_
 refine E4 (rT rfl) (rC rfl (A1 rfl rfl)) (rT rfl) ?_
 (refine J9.two hsl5 (J2 _) (J2 _) (J2 _) ?_; rw [S3 zV]; first | (rw [if_pos ⟨by assumption, by assumption⟩, if_neg zV]; rfl) | (rw [if_neg (fun hc => by first | exact Bool.noConfusion (hc.1.symm.trans zS) | exact Bool.noConfusion (hc.2.symm.trans zS) | exact Bool.noConfusion (hc.symm.trans zS))]; rfl))
 refine aP 15 rfl (M2 rfl rfl) rfl ?_
 refine aP 16 rfl (qA rfl) rfl ?_
 refine A0 17 ?_
 refine B8 rfl ?_
 refine aP 18 rfl (qA rfl) rfl ?_
 refine A3 ?_
 (refine E0 Pk.here (fun G5 hle5 hsl5 hno5 => ?_))
 refine B2 ?_
 refine E4 (rT rfl) (rC rfl (A1 rfl rfl)) (rT rfl) ?_
 (refine J9.two hsl5 (J2 _) (J2 _) (J2 _) ?_; rw [S3 zV]; first | (rw [if_pos ⟨by assumption, by assumption⟩, if_neg zV]; rfl) | (rw [if_neg (fun hc => by first | exact Bool.noConfusion (hc.1.symm.trans zS) | exact Bool.noConfusion (hc.2.symm.trans zS) | exact Bool.noConfusion (hc.symm.trans zS))]; rfl))
 refine Q3 rfl rfl ((W0 _ _ _ _ _ hre1 (J2 _))) rfl rfl rfl (fun h466 => ?_) (fun h466 => ?_)
 refine aP 15 rfl (M2 rfl rfl) rfl ?_
 refine A0 2 ?_
 (refine B6 rfl (C0 rfl rfl rfl zV zQ rfl) rfl rfl ?_; rintro _ ⟨b469, rfl⟩)
 refine aP 16 rfl (qA rfl) rfl ?_
 refine A0 17 ?_
 refine B8 rfl ?_
 refine aP 18 rfl (qA rfl) rfl ?_
 refine A3 ?_
 (refine E0 Pk.here (fun G5 hle5 hsl5 hno5 => ?_))
 refine B2 ?_
 refine E4 (rT rfl) (rC rfl (A1 rfl rfl)) (rT rfl) ?_
 (refine J9.two hsl5 (J2 _) (J2 _) (J2 _) ?_; rw [S3 zV]; first | (rw [if_pos ⟨by assumption, by assumption⟩, if_neg zV]; rfl) | (rw [if_neg (fun hc => by first | exact Bool.noConfusion (hc.1.symm.trans zS) | exact Bool.noConfusion (hc.2.symm.trans zS) | exact Bool.noConfusion (hc.symm.trans zS))]; rfl))
 refine aP 15 rfl (M2 rfl rfl) rfl ?_
 refine A0 2 ?_
 (refine B6 rfl (C0 rfl rfl rfl zV zQ rfl) rfl rfl ?_; rintro _ ⟨b484, rfl⟩)
 refine aP 16 rfl (qA rfl) rfl ?_
 refine A0 17 ?_
 refine B8 rfl ?_
 refine aP 18 rfl (qA rfl) rfl ?_
 refine A3 ?_
 (refine E0 Pk.here (fun G5 hle5 hsl5 hno5 => ?_))
 refine B2 ?_
 refine E4 (rT rfl) (rC rfl (A1 rfl rfl)) (rT rfl) ?_
 (refine J9.two hsl5 (J2 _) (J2 _) (J2 _) ?_; rw [S3 zV]; first | (rw [if_pos ⟨by assumption, by assumption⟩, if_neg zV]; rfl) | (rw [if_neg (fun hc => by first | exact Bool.noConfusion (hc.1.symm.trans zS) | exact Bool.noConfusion (hc.2.symm.trans zS) | exact Bool.noConfusion (hc.symm.trans zS))]; rfl))
 refine aP 9 rfl (qM rfl) rfl ?_
 refine C4 10 rfl rfl rfl ?_
 refine C4 11 rfl rfl rfl ?_
 refine C4 12 rfl rfl rfl ?_
 refine C4 13 rfl rfl rfl ?_
 refine J8 (j := 2) (j' := 14) zT ?_ ?_
 (refine B6 rfl (C0 rfl rfl rfl zV zQ rfl) rfl rfl ?_; rintro _ ⟨b503, rfl⟩)
 refine C4 14 rfl rfl rfl ?_
 refine aP 15 rfl (N7 rfl rfl) rfl ?_
 refine aP 16 rfl (qA rfl) rfl ?_
 refine A0 17 ?_
 refine B8 rfl ?_
 refine aP 18 rfl (qA rfl) rfl ?_
 refine A3 ?_
 (refine E0 Pk.here (fun G5 hle5 hsl5 hno5 => ?_))
 refine B2 ?_
 refine E4 (rT rfl) (rC rfl (A1 rfl rfl)) (rT rfl) ?_
 (refine J9.two hsl5 (J2 _) (J2 _) (J2 _) ?_; rw [S3 zV]; first | (rw [if_pos ⟨by assumption, by assumption⟩, if_neg zV]; rfl) | (rw [if_neg (fun hc => by first | exact Bool.noConfusion (hc.1.symm.trans zS) | exact Bool.noConfusion (hc.2.symm.trans zS) | exact Bool.noConfusion (hc.symm.trans zS))]; rfl))
 refine A4X (l' := [tt,tt,ff,tt,tt,tt,tt,tt,tt,tt,tt,tt,tt,tt,tt,ff,ff,ff,ff]) rfl rfl rfl rfl ?_
 refine aP 15 rfl (N7 rfl rfl) rfl ?_
 refine A0 2 ?_
 (refine B6 rfl (C0 rfl rfl rfl zV zQ rfl) rfl rfl ?_; rintro _ ⟨b521, rfl⟩)
 refine aP 16 rfl (qA rfl) rfl ?_
 refine A0 17 ?_
 refine B8 rfl ?_
 refine aP 18 rfl (qA rfl) rfl ?_
 refine A3 ?_
 (refine E0 Pk.here (fun G5 hle5 hsl5 hno5 => ?_))
 refine B2 ?_
 refine E4 (rT rfl) (rC rfl (A1 rfl rfl)) (rT rfl) ?_
 (refine J9.two hsl5 (J2 _) (J2 _) (J2 _) ?_; rw [S3 zV]; first | (rw [if_pos ⟨by assumption, by assumption⟩, if_neg zV]; rfl) | (rw [if_neg (fun hc => by first | exact Bool.noConfusion (hc.1.symm.trans zS) | exact Bool.noConfusion (hc.2.symm.trans zS) | exact Bool.noConfusion (hc.symm.trans zS))]; rfl))
 refine A9 ?_
 refine sB (qE rfl rfl) rfl rfl (fun h539 => ?_) (fun h539 => ?_)
 refine A8 ?_
 refine sE (A4 rfl) rfl (fun b547 => ?_)
 refine B4 ?_
 refine sP (I1 rfl rfl zV) rfl rfl ?_
 refine C2 ?_
 (have hl2 : n = 2 := hop.1 zV; obtain ⟨b0, o0, q0, d0, hp0, hat0, hre0, hg0⟩ := hsl.kidD hkl (i := 0) zV zV; obtain ⟨b1, o1, q1, d1, hp1, hat1, hre1, hg1⟩ := hsl.kidD hkl (i := 1) zV zV; cases hp0; cases hp1; refine D3 D4 rfl ?_)
 refine K3 (i := 0) (l' := [tt,ff,ff,ff,ff,ff,ff,ff,ff,ff,ff,ff,ff,ff,ff,ff,ff,ff,ff]) rfl C1 (A1 rfl rfl) rfl zT rfl rfl ?_
 refine aL 1 rfl (A1 rfl rfl) rfl ?_
 refine aL 3 rfl (A1 rfl rfl) rfl ?_
 refine aP 4 rfl (qM rfl) rfl ?_
 refine aP 5 rfl (A6 (j := 0) rfl rfl rfl zV) rfl ?_
 refine aL 6 rfl (A2 rfl rfl (hat0 _) rfl) rfl ?_
 refine aL 7 rfl (A1 rfl rfl) rfl ?_
 refine J8 (j := 2) (j' := 8) zT ?_ ?_
 (refine B6 rfl (C0 rfl rfl rfl zV zQ rfl) rfl rfl ?_; rintro _ ⟨b575, rfl⟩)
 refine A0 8 ?_
 refine Q3 rfl rfl ((W0 _ _ _ _ _ hre0 (J2 _))) rfl rfl rfl (fun h577 => ?_) (fun h577 => ?_)
 refine aP 9 rfl (qM rfl) rfl ?_
 refine aP 10 rfl (qM rfl) rfl ?_
 refine aP 11 rfl (A6 (j := 1) rfl rfl rfl zV) rfl ?_
 refine aL 12 rfl (A2 rfl rfl (hat1 _) rfl) rfl ?_
 refine aL 13 rfl (A1 rfl rfl) rfl ?_
 refine A0 14 ?_
 refine Q3 rfl rfl ((W0 _ _ _ _ _ hre1 (J2 _))) rfl rfl rfl (fun h584 => ?_) (fun h584 => ?_)
 refine aP 15 rfl (M2 rfl rfl) rfl ?_
 refine aP 16 rfl (qA rfl) rfl ?_
 refine A0 17 ?_
 refine B8 rfl ?_
 refine aP 18 rfl (qA rfl) rfl ?_
 refine A3 ?_
 (refine E0 Pk.here (fun G5 hle5 hsl5 hno5 => ?_))
 refine B2 ?_
 refine E4 (rT rfl) (rC rfl (A1 rfl rfl)) (rT rfl) ?_
 (refine J9.two hsl5 (J2 _) (J2 _) (W4 _) ?_; rw [S3 zV]; first | (rw [if_pos ⟨by assumption, by assumption⟩, if_pos zV]; rfl) | (rw [if_neg (fun hc => by first | exact Bool.noConfusion (hc.1.symm.trans zS) | exact Bool.noConfusion (hc.2.symm.trans zS) | exact Bool.noConfusion (hc.symm.trans zS))]; rfl))
 refine aP 15 rfl (M2 rfl rfl) rfl ?_
 refine aP 16 rfl (qA rfl) rfl ?_
 refine A0 17 ?_
 refine B8 rfl ?_
 refine aP 18 rfl (qA rfl) rfl ?_
 refine A3 ?_
 (refine E0 Pk.here (fun G5 hle5 hsl5 hno5 => ?_))
 refine B2 ?_
 refine E4 (rT rfl) (rC rfl (A1 rfl rfl)) (rT rfl) ?_
 (refine J9.two hsl5 (J2 _) (J2 _) (W4 _) ?_; rw [S3 zV]; first | (rw [if_pos ⟨by assumption, by assumption⟩, if_pos zV]; rfl) | (rw [if_neg (fun hc => by first | exact Bool.noConfusion (hc.1.symm.trans zS) | exact Bool.noConfusion (hc.2.symm.trans zS) | exact Bool.noConfusion (hc.symm.trans zS))]; rfl))
 refine aP 9 rfl (qM rfl) rfl ?_
 refine C4 10 rfl rfl rfl ?_
 refine C4 11 rfl rfl rfl ?_
 refine C4 12 rfl rfl rfl ?_
 refine C4 13 rfl rfl rfl ?_
 refine C4 14 rfl rfl rfl ?_
 refine aP 15 rfl (N7 rfl rfl) rfl ?_
 refine aP 16 rfl (qA rfl) rfl ?_
 refine A0 17 ?_
 refine B8 rfl ?_
 refine aP 18 rfl (qA rfl) rfl ?_
 refine A3 ?_
 (refine E0 Pk.here (fun G5 hle5 hsl5 hno5 => ?_))
 refine B2 ?_
 refine E4 (rT rfl) (rC rfl (A1 rfl rfl)) (rT rfl) ?_
 (refine J9.two hsl5 (J2 _) (J2 _) (W4 _) ?_; rw [S3 zV]; first | (rw [if_pos ⟨by assumption, by assumption⟩, if_pos zV]; rfl) | (rw [if_neg (fun hc => by first | exact Bool.noConfusion (hc.1.symm.trans zS) | exact Bool.noConfusion (hc.2.symm.trans zS) | exact Bool.noConfusion (hc.symm.trans zS))]; rfl))
 refine Q3 rfl rfl ((W0 _ _ _ _ _ hre0 (J2 _))) rfl rfl rfl (fun h630 => ?_) (fun h630 => ?_)
 refine aP 9 rfl (qM rfl) rfl ?_
 refine aP 10 rfl (qM rfl) rfl ?_
 refine aP 11 rfl (A6 (j := 1) rfl rfl rfl zV) rfl ?_
 refine aL 12 rfl (A2 rfl rfl (hat1 _) rfl) rfl ?_
 refine aL 13 rfl (A1 rfl rfl) rfl ?_
 refine J8 (j := 2) (j' := 14) zT ?_ ?_
 (refine B6 rfl (C0 rfl rfl rfl zV zQ rfl) rfl rfl ?_; rintro _ ⟨b637, rfl⟩)
 refine A0 14 ?_
 refine Q3 rfl rfl ((W0 _ _ _ _ _ hre1 (J2 _))) rfl rfl rfl (fun h639 => ?_) (fun h639 => ?_)
 refine aP 15 rfl (M2 rfl rfl) rfl ?_
 refine aP 16 rfl (qA rfl) rfl ?_
 refine A0 17 ?_
 refine B8 rfl ?_
 refine aP 18 rfl (qA rfl) rfl ?_
 refine A3 ?_
 (refine E0 Pk.here (fun G5 hle5 hsl5 hno5 => ?_))
 refine B2 ?_
 refine E4 (rT rfl) (rC rfl (A1 rfl rfl)) (rT rfl) ?_
 (refine J9.two hsl5 (J2 _) (J2 _) (W4 _) ?_; rw [S3 zV]; first | (rw [if_pos ⟨by assumption, by assumption⟩, if_pos zV]; rfl) | (rw [if_neg (fun hc => by first | exact Bool.noConfusion (hc.1.symm.trans zS) | exact Bool.noConfusion (hc.2.symm.trans zS) | exact Bool.noConfusion (hc.symm.trans zS))]; rfl))
 refine aP 15 rfl (M2 rfl rfl) rfl ?_
 refine aP 16 rfl (qA rfl) rfl ?_
 refine A0 17 ?_
 refine B8 rfl ?_
 refine aP 18 rfl (qA rfl) rfl ?_
 refine A3 ?_
 (refine E0 Pk.here (fun G5 hle5 hsl5 hno5 => ?_))
 refine B2 ?_
 refine E4 (rT rfl) (rC rfl (A1 rfl rfl)) (rT rfl) ?_
 (refine J9.two hsl5 (J2 _) (J2 _) (W4 _) ?_; rw [S3 zV]; first | (rw [if_pos ⟨by assumption, by assumption⟩, if_pos zV]; rfl) | (rw [if_neg (fun hc => by first | exact Bool.noConfusion (hc.1.symm.trans zS) | exact Bool.noConfusion (hc.2.symm.trans zS) | exact Bool.noConfusion (hc.symm.trans zS))]; rfl))
 refine Q3 rfl rfl ((W0 _ _ _ _ _ hre1 (J2 _))) rfl rfl rfl (fun h666 => ?_) (fun h666 => ?_)
 refine aP 15 rfl (M2 rfl rfl) rfl ?_
 refine A0 2 ?_
 (refine B6 rfl (C0 rfl rfl rfl zV zQ rfl) rfl rfl ?_; rintro _ ⟨b669, rfl⟩)
 refine aP 16 rfl (qA rfl) rfl ?_
 refine A0 17 ?_
 refine B8 rfl ?_
 refine aP 18 rfl (qA rfl) rfl ?_
 refine A3 ?_
 (refine E0 Pk.here (fun G5 hle5 hsl5 hno5 => ?_))
 refine B2 ?_
 refine E4 (rT rfl) (rC rfl (A1 rfl rfl)) (rT rfl) ?_
 (refine J9.two hsl5 (J2 _) (J2 _) (W4 _) ?_; rw [S3 zV]; first | (rw [if_pos ⟨by assumption, by assumption⟩, if_pos zV]; rfl) | (rw [if_neg (fun hc => by first | exact Bool.noConfusion (hc.1.symm.trans zS) | exact Bool.noConfusion (hc.2.symm.trans zS) | exact Bool.noConfusion (hc.symm.trans zS))]; rfl))
 refine aP 15 rfl (M2 rfl rfl) rfl ?_
 refine A0 2 ?_
 (refine B6 rfl (C0 rfl rfl rfl zV zQ rfl) rfl rfl ?_; rintro _ ⟨b684, rfl⟩)
 refine aP 16 rfl (qA rfl) rfl ?_
 refine A0 17 ?_
 refine B8 rfl ?_
 refine aP 18 rfl (qA rfl) rfl ?_
 refine A3 ?_
 (refine E0 Pk.here (fun G5 hle5 hsl5 hno5 => ?_))
 refine B2 ?_
 refine E4 (rT rfl) (rC rfl (A1 rfl rfl)) (rT rfl) ?_
 (refine J9.two hsl5 (J2 _) (J2 _) (W4 _) ?_; rw [S3 zV]; first | (rw [if_pos ⟨by assumption, by assumption⟩, if_pos zV]; rfl) | (rw [if_neg (fun hc => by first | exact Bool.noConfusion (hc.1.symm.trans zS) | exact Bool.noConfusion (hc.2.symm.trans zS) | exact Bool.noConfusion (hc.symm.trans zS))]; rfl))
 refine aP 9 rfl (qM rfl) rfl ?_
 refine C4 10 rfl rfl rfl ?_
 refine C4 11 rfl rfl rfl ?_
 refine C4 12 rfl rfl rfl ?_
 refine C4 13 rfl rfl rfl ?_
 refine J8 (j := 2) (j' := 14) zT ?_ ?_
 (refine B6 rfl (C0 rfl rfl rfl zV zQ rfl) rfl rfl ?_; rintro _ ⟨b703, rfl⟩)
 refine C4 14 rfl rfl rfl ?_
 refine aP 15 rfl (N7 rfl rfl) rfl ?_
 refine aP 16 rfl (qA rfl) rfl ?_
 refine A0 17 ?_
 refine B8 rfl ?_
 refine aP 18 rfl (qA rfl) rfl ?_
 refine A3 ?_
 (refine E0 Pk.here (fun G5 hle5 hsl5 hno5 => ?_))
 refine B2 ?_
 refine E4 (rT rfl) (rC rfl (A1 rfl rfl)) (rT rfl) ?_
 (refine J9.two hsl5 (J2 _) (J2 _) (W4 _) ?_; rw [S3 zV]; first | (rw [if_pos ⟨by assumption, by assumption⟩, if_pos zV]; rfl) | (rw [if_neg (fun hc => by first | exact Bool.noConfusion (hc.1.symm.trans zS) | exact Bool.noConfusion (hc.2.symm.trans zS) | exact Bool.noConfusion (hc.symm.trans zS))]; rfl))
 refine A4X (l' := [tt,tt,ff,tt,tt,tt,tt,tt,tt,tt,tt,tt,tt,tt,tt,ff,ff,ff,ff]) rfl rfl rfl rfl ?_
 refine aP 15 rfl (N7 rfl rfl) rfl ?_
 refine A0 2 ?_
 (refine B6 rfl (C0 rfl rfl rfl zV zQ rfl) rfl rfl ?_; rintro _ ⟨b721, rfl⟩)
 refine aP 16 rfl (qA rfl) rfl ?_
 refine A0 17 ?_
 refine B8 rfl ?_
 refine aP 18 rfl (qA rfl) rfl ?_
 refine A3 ?_
 (refine E0 Pk.here (fun G5 hle5 hsl5 hno5 => ?_))
 refine B2 ?_
 refine E4 (rT rfl) (rC rfl (A1 rfl rfl)) (rT rfl) ?_
 (refine J9.two hsl5 (J2 _) (J2 _) (W4 _) ?_; rw [S3 zV]; first | (rw [if_pos ⟨by assumption, by assumption⟩, if_pos zV]; rfl) | (rw [if_neg (fun hc => by first | exact Bool.noConfusion (hc.1.symm.trans zS) | exact Bool.noConfusion (hc.2.symm.trans zS) | exact Bool.noConfusion (hc.symm.trans zS))]; rfl))
 refine A7 ?_
 refine sB (qE rfl rfl) rfl rfl (fun h740 => ?_) (fun h740 => ?_)
 refine A7 ?_
 (have hl3 : n = 3 := hop.2.1 zV; obtain ⟨b0, o0, q0, d0, hp0, hat0, hre0, hg0⟩ := hsl.kidD hkl (i := 0) zV zV; obtain ⟨b1, o1, q1, d1, hp1, hat1, hre1, hg1⟩ := hsl.kidD hkl (i := 1) zV zV; cases hp0; cases hp1; obtain ⟨b2, o2, q2, d2, hp2, hat2, hre2, hg2⟩ := hsl.kidD hkl (i := 2) zV zV; cases hp2; refine D3 D4 rfl ?_)
 refine E9 (i := 0) (l' := [tt,ff,ff,ff,ff,ff,ff,ff,ff,ff,ff,ff,ff,ff,ff,ff]) rfl C1 (qM rfl) rfl zT rfl rfl ?_
 refine aP 1 rfl (A6 (j := 0) rfl rfl rfl zV) rfl ?_
 refine aL 2 rfl (A2 rfl rfl (hat0 _) rfl) rfl ?_
 refine aL 3 rfl (A1 rfl rfl) rfl ?_
 refine A0 4 ?_
 refine Q3 rfl rfl ((W0 _ _ _ _ _ hre0 (W4 _))) rfl rfl rfl (fun h753 => ?_) (fun h753 => ?_)
 refine aP 5 rfl (Z6 rfl) rfl ?_
 refine aP 6 rfl (qM rfl) rfl ?_
 refine aP 7 rfl (qM rfl) rfl ?_
 refine aP 8 rfl (A6 (j := 1) rfl rfl rfl zV) rfl ?_
 refine aL 9 rfl (A2 rfl rfl (hat1 _) rfl) rfl ?_
 refine aP 10 rfl (qM rfl) rfl ?_
 refine aP 11 rfl (A6 (j := 2) rfl rfl rfl zV) rfl ?_
 refine aL 12 rfl (A2 rfl rfl (hat2 _) rfl) rfl ?_
 refine A0 13 ?_
 refine Q3 rfl rfl ((W0 _ _ _ _ _ hre1 hre2)) rfl rfl rfl (fun h763 => ?_) (fun h763 => ?_)
 refine aP 14 rfl (Z6 rfl) rfl ?_
 refine aP 15 rfl (N7 rfl rfl) rfl ?_
 refine A7 ?_
 (have hl3 : n = 3 := hop.2.1 zV; obtain ⟨b0, o0, q0, d0, hp0, hat0, hre0, hg0⟩ := hsl.kidD hkl (i := 0) zV zV; obtain ⟨b1, o1, q1, d1, hp1, hat1, hre1, hg1⟩ := hsl.kidD hkl (i := 1) zV zV; cases hp0; cases hp1; obtain ⟨b2, o2, q2, d2, hp2, hat2, hre2, hg2⟩ := hsl.kidD hkl (i := 2) zV zV; cases hp2; refine D3 D4 rfl ?_)
 refine E9 (i := 0) (l' := [tt,ff,ff,ff,ff,ff,ff,ff,ff]) rfl C1 (qM rfl) rfl zT rfl rfl ?_
 refine aP 1 rfl (A6 (j := 1) rfl rfl rfl zV) rfl ?_
 refine aL 2 rfl (A2 rfl rfl (hat1 _) rfl) rfl ?_
 refine aP 3 rfl (qM rfl) rfl ?_
 refine aP 4 rfl (A6 (j := 2) rfl rfl rfl zV) rfl ?_
 refine aL 5 rfl (A2 rfl rfl (hat2 _) rfl) rfl ?_
 refine J8 (j := 6) (j' := 7) zT ?_ ?_
 (refine D6 rfl rfl (A7Z _ _ _ _ _ zS (A2y har zV) (A2y har zV) hre1 hre2) rfl rfl rfl (fun v GM hleM hh => ?_); obtain ⟨cM, rfl, hrM⟩ := hh; obtain ⟨p7, c7, e7, rfl, _⟩ := hrM.open)
 refine A0 7 ?_
 (refine B6 rfl (A4 rfl) rfl rfl ?_; rintro _ ⟨b782, rfl⟩)
 refine A0 8 ?_
 refine B8 rfl ?_
 refine B2 ?_
 (have hl3 : n = 3 := hop.2.1 zV; obtain ⟨b0, o0, q0, d0, hp0, hat0, hre0, hg0⟩ := hsl.kidD hkl (i := 0) zV zV; obtain ⟨b1, o1, q1, d1, hp1, hat1, hre1, hg1⟩ := hsl.kidD hkl (i := 1) zV zV; cases hp0; cases hp1; obtain ⟨b2, o2, q2, d2, hp2, hat2, hre2, hg2⟩ := hsl.kidD hkl (i := 2) zV zV; cases hp2; refine D3 D4 rfl ?_)
 refine K3 (i := 0) (l' := [tt,ff,ff,ff,ff,ff,ff,ff]) rfl C1 (A1 rfl rfl) rfl zT rfl rfl ?_
 refine aL 1 rfl (A1 rfl rfl) rfl ?_
 refine aL 2 rfl (A1 rfl rfl) rfl ?_
 refine aL 4 rfl (A1 rfl rfl) rfl ?_
 refine A0 3 ?_
 (refine B6 rfl (C0 rfl rfl rfl zV zQ rfl) rfl rfl ?_; rintro _ ⟨b794, rfl⟩)
 refine aP 5 rfl (qA rfl) rfl ?_
 refine A0 6 ?_
 refine B8 rfl ?_
 refine aP 7 rfl (qA rfl) rfl ?_
 refine A3 ?_
 (refine E0 Pk.here (fun G5 hle5 hsl5 hno5 => ?_))
 refine B2 ?_
 refine E4 (rT rfl) (rC rfl (A1 rfl rfl)) (rT rfl) ?_
 (have hk1 : k = 9 := zV; subst hk1; exact J9.three hsl5 (W4 _) (hrM.mono hle5) (hrM.mono hle5) (hrM.mono hle5) (by rw [mW9, if_pos ⟨by assumption, by assumption⟩]; rfl))
 (refine B6 rfl (A4 rfl) rfl rfl ?_; rintro _ ⟨b807, rfl⟩)
 refine A0 6 ?_
 (refine D6 rfl rfl (A7Z _ _ _ _ _ zS (A2y har zV) (A2y har zV) hre1 hre2) rfl rfl rfl (fun v GM hleM hh => ?_); obtain ⟨cM, rfl, hrM⟩ := hh; obtain ⟨p7, c7, e7, rfl, _⟩ := hrM.open)
 refine A0 8 ?_
 refine B8 rfl ?_
 refine B2 ?_
 (have hl3 : n = 3 := hop.2.1 zV; obtain ⟨b0, o0, q0, d0, hp0, hat0, hre0, hg0⟩ := hsl.kidD hkl (i := 0) zV zV; obtain ⟨b1, o1, q1, d1, hp1, hat1, hre1, hg1⟩ := hsl.kidD hkl (i := 1) zV zV; cases hp0; cases hp1; obtain ⟨b2, o2, q2, d2, hp2, hat2, hre2, hg2⟩ := hsl.kidD hkl (i := 2) zV zV; cases hp2; refine D3 D4 rfl ?_)
 refine K3 (i := 0) (l' := [tt,ff,ff,ff,ff,ff,ff,ff]) rfl C1 (A1 rfl rfl) rfl zT rfl rfl ?_
 refine aL 1 rfl (A1 rfl rfl) rfl ?_
 refine aL 2 rfl (A1 rfl rfl) rfl ?_
 refine aL 4 rfl (A1 rfl rfl) rfl ?_
 refine A0 3 ?_
 (refine B6 rfl (C0 rfl rfl rfl zV zQ rfl) rfl rfl ?_; rintro _ ⟨b821, rfl⟩)
 refine aP 5 rfl (qA rfl) rfl ?_
 refine A0 6 ?_
 refine B8 rfl ?_
 refine aP 7 rfl (qA rfl) rfl ?_
 refine A3 ?_
 (refine E0 Pk.here (fun G5 hle5 hsl5 hno5 => ?_))
 refine B2 ?_
 refine E4 (rT rfl) (rC rfl (A1 rfl rfl)) (rT rfl) ?_
 (have hk1 : k = 9 := zV; subst hk1; exact J9.three hsl5 (W4 _) (hrM.mono hle5) (hrM.mono hle5) (hrM.mono hle5) (by rw [mW9, if_pos ⟨by assumption, by assumption⟩]; rfl))
 refine aP 14 rfl (pNf rfl) rfl ?_
 refine aP 15 rfl (N7 rfl rfl) rfl ?_
 refine I9 ?_
 refine E4 (rT rfl) (rC rfl (A1 rfl rfl)) (rT rfl) ?_
 (have hk1 : k = 9 := zV; subst hk1; exact J9.nil (u := C6) (N9 _ ⟨by omega, by omega⟩) (by rw [mW9, if_neg (fun hc => by first | exact Bool.noConfusion (hc.1.symm.trans zS) | exact Bool.noConfusion (hc.2.symm.trans zS) | exact Bool.noConfusion (hc.symm.trans zS))]; rfl))
 refine aP 5 rfl (pNf rfl) rfl ?_
 refine aP 6 rfl (qM rfl) rfl ?_
 refine C4 7 rfl rfl rfl ?_
 refine C4 8 rfl rfl rfl ?_
 refine C4 9 rfl rfl rfl ?_
 refine C4 10 rfl rfl rfl ?_
 refine C4 11 rfl rfl rfl ?_
 refine C4 12 rfl rfl rfl ?_
 refine C4 13 rfl rfl rfl ?_
 refine C4 14 rfl rfl rfl ?_
 refine aP 15 rfl (M2 rfl rfl) rfl ?_
 refine I9 ?_
 refine E4 (rT rfl) (rC rfl (A1 rfl rfl)) (rT rfl) ?_
 (have hk1 : k = 9 := zV; subst hk1; exact J9.nil (u := C6) (N9 _ ⟨by omega, by omega⟩) (by rw [mW9, if_neg (fun hc => by first | exact Bool.noConfusion (hc.1.symm.trans zS) | exact Bool.noConfusion (hc.2.symm.trans zS) | exact Bool.noConfusion (hc.symm.trans zS))]; rfl))
 refine A7 ?_
 refine sB (qE rfl rfl) rfl rfl (fun h887 => ?_) (fun h887 => ?_)
 refine A9 ?_
 (have hl2 : n = 2 := hop.1 zV; obtain ⟨b0, o0, q0, d0, hp0, hat0, hre0, hg0⟩ := hsl.kidD hkl (i := 0) zV zV; obtain ⟨b1, o1, q1, d1, hp1, hat1, hre1, hg1⟩ := hsl.kidD hkl (i := 1) zV zV; cases hp0; cases hp1; refine D3 D4 rfl ?_)
 refine E9 (i := 0) (l' := [tt,ff,ff,ff,ff,ff,ff,ff,ff,ff]) rfl C1 (qM rfl) rfl zT rfl rfl ?_
 refine aP 1 rfl (A6 (j := 0) rfl rfl rfl zV) rfl ?_
 refine aL 2 rfl (A2 rfl rfl (hat0 _) rfl) rfl ?_
 refine aP 3 rfl (qM rfl) rfl ?_
 refine aP 4 rfl (A6 (j := 1) rfl rfl rfl zV) rfl ?_
 refine aL 5 rfl (A2 rfl rfl (hat1 _) rfl) rfl ?_
 refine A0 6 ?_
 (refine D6 rfl rfl (A1y 5 _ _ _ _ _ ⟨by omega, by omega⟩ hre0 hre1) rfl rfl rfl (fun v GB hleB hh => ?_); obtain ⟨cB, rfl, hrB⟩ := hh; obtain ⟨p7, c7, e7, rfl, _⟩ := hrB.open)
 refine aP 7 rfl (qA rfl) rfl ?_
 refine A0 8 ?_
 refine B8 rfl ?_
 refine aP 9 rfl (qA rfl) rfl ?_
 refine A9 ?_
 refine E4 (rT rfl) (rC rfl (A1 rfl rfl)) (rT rfl) ?_
 (have hk1 : k = 10 := zV; subst hk1; exact J9.nil hrB A33)
 refine A7 ?_
 refine sB (qE rfl rfl) rfl rfl (fun h919 => ?_) (fun h919 => ?_)
 refine A9 ?_
 (have hl1 : n = 1 := hop.2.2 zV; obtain ⟨b0, o0, q0, d0, hp0, hat0, hre0, hg0⟩ := hsl.kidD hkl (i := 0) zV zV; cases hp0; refine D3 D4 rfl ?_)
 refine E9 (i := 0) (l' := [tt,ff,ff,ff,ff,ff,ff,ff,ff,ff,ff,ff,ff,ff]) rfl C1 (B0 rfl) rfl zT rfl rfl ?_
 refine aL 1 rfl (A1 rfl rfl) rfl ?_
 refine aP 3 rfl (B0 rfl) rfl ?_
 refine aL 4 rfl (A1 rfl rfl) rfl ?_
 refine aP 5 rfl (qM rfl) rfl ?_
 refine aP 6 rfl (A6 (j := 0) rfl rfl rfl zV) rfl ?_
 refine aL 7 rfl (A2 rfl rfl (hat0 _) rfl) rfl ?_
 refine aP 8 rfl (B0 rfl) rfl ?_
 refine aL 9 rfl (A1 rfl rfl) rfl ?_
 refine J8 (j := 2) (j' := 10) zT ?_ ?_
 (refine B6 rfl (C0 rfl rfl rfl zV zQ rfl) rfl rfl ?_; rintro _ ⟨b936, rfl⟩)
 refine A0 10 ?_
 refine Q3 rfl rfl ((W0 _ _ _ _ _ hre0 hrty)) rfl rfl rfl (fun h938 => ?_) (fun h938 => ?_)
 refine aP 11 rfl (qA rfl) rfl ?_
 refine A0 12 ?_
 refine B8 rfl ?_
 refine aP 13 rfl (qA rfl) rfl ?_
 refine A3 ?_
 (refine E0 Pk.here (fun G5 hle5 hsl5 hno5 => ?_))
 refine B2 ?_
 refine E4 (rT rfl) (rC rfl (A1 rfl rfl)) (rT rfl) ?_
 (have hk1 : k = 13 := zV; subst hk1; refine J9.one hsl5 (hrty.mono hle5) (hrty.mono hle5) ?_; rw [A12]; split <;> first | rfl | (exfalso; simp_all; done))
 refine aP 11 rfl (qA rfl) rfl ?_
 refine A0 12 ?_
 refine B8 rfl ?_
 refine aP 13 rfl (qA rfl) rfl ?_
 refine A3 ?_
 (refine E0 Pk.here (fun G5 hle5 hsl5 hno5 => ?_))
 refine B2 ?_
 refine E4 (rT rfl) (rC rfl (A1 rfl rfl)) (rT rfl) ?_
 (have hk1 : k = 13 := zV; subst hk1; refine J9.one hsl5 (hrty.mono hle5) (hrty.mono hle5) ?_; rw [A12]; split <;> first | rfl | (exfalso; simp_all; done))
 refine Q3 rfl rfl ((W0 _ _ _ _ _ hre0 hrty)) rfl rfl rfl (fun h963 => ?_) (fun h963 => ?_)
 refine A0 2 ?_
 (refine B6 rfl (C0 rfl rfl rfl zV zQ rfl) rfl rfl ?_; rintro _ ⟨b965, rfl⟩)
 refine aP 11 rfl (qA rfl) rfl ?_
 refine A0 12 ?_
 refine B8 rfl ?_
 refine aP 13 rfl (qA rfl) rfl ?_
 refine A3 ?_
 (refine E0 Pk.here (fun G5 hle5 hsl5 hno5 => ?_))
 refine B2 ?_
 refine E4 (rT rfl) (rC rfl (A1 rfl rfl)) (rT rfl) ?_
 (have hk1 : k = 13 := zV; subst hk1; refine J9.one hsl5 (hrty.mono hle5) (hrty.mono hle5) ?_; rw [A12]; split <;> first | rfl | (exfalso; simp_all; done))
 refine A0 2 ?_
 (refine B6 rfl (C0 rfl rfl rfl zV zQ rfl) rfl rfl ?_; rintro _ ⟨b979, rfl⟩)
 refine aP 11 rfl (qA rfl) rfl ?_
 refine A0 12 ?_
 refine B8 rfl ?_
 refine aP 13 rfl (qA rfl) rfl ?_
 refine A3 ?_
 (refine E0 Pk.here (fun G5 hle5 hsl5 hno5 => ?_))
 refine B2 ?_
 refine E4 (rT rfl) (rC rfl (A1 rfl rfl)) (rT rfl) ?_
 (have hk1 : k = 13 := zV; subst hk1; refine J9.one hsl5 (hrty.mono hle5) (hrty.mono hle5) ?_; rw [A12]; split <;> first | rfl | (exfalso; simp_all; done))
 refine H3 ?_
 (have hk11 : k = 11 ∨ k = 12 := zV; have hl1 : n = 1 := hop.2.2 zV; obtain ⟨b0, o0, q0, d0, hp0, hat0, hre0, hg0⟩ := hsl.kidD hkl (i := 0) zV zV; cases hp0; refine sP (A6 (j := 0) rfl rfl rfl zV) rfl rfl ?_)
 refine sL (A2 rfl rfl (hat0 _) rfl) rfl rfl ?_
 (refine E7 rfl (A7Y 5 (h.getD 0 C6) G _ (.inr rfl) (A2y har zV) hre0) rfl rfl (fun v G1 hle1 hh => ?_); obtain ⟨ma, mca, mb, mcb, rfl, hma, hmb, hma2, hmb2, hmm⟩ := hh; obtain ⟨p1, c1, e1, rfl, _⟩ := hma.open; obtain ⟨p2, c2, e2, rfl, _⟩ := hmb.open)
 refine C3 ?_
 refine sE (A4 rfl) rfl (fun b1009 => ?_)
 refine sE (A4 rfl) rfl (fun b1010 => ?_)
 refine B4 ?_
 refine sE (A4 rfl) rfl (fun b1019 => ?_)
 refine B4 ?_
 refine sB (qE rfl rfl) rfl rfl (fun h1028 => ?_) (fun h1028 => ?_)
 refine C2 ?_
 (have hl1 : n = 1 := hop.2.2 zV; obtain ⟨b0, o0, q0, d0, hp0, hat0, hre0, hg0⟩ := hsl.kidD hkl (i := 0) zV zV; cases hp0; refine D3 D4 rfl ?_)
 refine K3 (i := 0) (l' := [tt,ff,ff,ff,ff,ff,ff,ff,ff]) rfl C1 (A1 rfl rfl) rfl zT rfl rfl ?_
 refine aL 1 rfl (A1 rfl rfl) rfl ?_
 refine aL 4 rfl (A1 rfl rfl) rfl ?_
 refine aP 5 rfl (qM rfl) rfl ?_
 refine A0 2 ?_
 (refine D6 rfl rfl (A1y _ ma mb _ _ _ ⟨by omega, by omega⟩ hma hmb) rfl rfl rfl (fun v GB hleB hh => ?_); obtain ⟨cB, rfl, hrB⟩ := hh; obtain ⟨p7, c7, e7, rfl, _⟩ := hrB.open; have hma' := hma.mono hleB; have hmb' := hmb.mono hleB)
 refine A0 3 ?_
 (refine B6 rfl (C0 rfl rfl rfl zV zQ rfl) rfl rfl ?_; rintro _ ⟨b1046, rfl⟩)
 refine aP 6 rfl (qA rfl) rfl ?_
 refine A0 7 ?_
 refine B8 rfl ?_
 refine aP 8 rfl (qA rfl) rfl ?_
 refine A3 ?_
 (refine E0 Pk.here (fun G5 hle5 hsl5 hno5 => ?_))
 refine tT ?_
 refine E4 (rT rfl) (rC rfl (A1 rfl rfl)) (rT rfl) ?_
 (refine J9.one hsl5 (hrB.mono hle5) (hmb'.mono hle5) ?_; rw [A2z zV]; cases hq : O8 5 (h.getD 0 C6) with | none => rfl | some q => (have hq2 := hmm q hq; subst hq2; dsimp only; rw [if_pos zV]; rfl))
 refine A7 ?_
 (have hl1 : n = 1 := hop.2.2 zV; obtain ⟨b0, o0, q0, d0, hp0, hat0, hre0, hg0⟩ := hsl.kidD hkl (i := 0) zV zV; cases hp0; refine D3 D4 rfl ?_)
 refine K3 (i := 0) (l' := [tt,ff,ff,ff,ff,ff,ff,ff,ff]) rfl C1 (A1 rfl rfl) rfl zT rfl rfl ?_
 refine aL 1 rfl (A1 rfl rfl) rfl ?_
 refine aL 4 rfl (A1 rfl rfl) rfl ?_
 refine aP 5 rfl (qM rfl) rfl ?_
 refine A0 2 ?_
 (refine D6 rfl rfl (A1y _ ma mb _ _ _ ⟨by omega, by omega⟩ hma hmb) rfl rfl rfl (fun v GB hleB hh => ?_); obtain ⟨cB, rfl, hrB⟩ := hh; obtain ⟨p7, c7, e7, rfl, _⟩ := hrB.open; have hma' := hma.mono hleB; have hmb' := hmb.mono hleB)
 refine A0 3 ?_
 (refine B6 rfl (C0 rfl rfl rfl zV zQ rfl) rfl rfl ?_; rintro _ ⟨b1071, rfl⟩)
 refine aP 6 rfl (qA rfl) rfl ?_
 refine A0 7 ?_
 refine B8 rfl ?_
 refine aP 8 rfl (qA rfl) rfl ?_
 refine A3 ?_
 (refine E0 Pk.here (fun G5 hle5 hsl5 hno5 => ?_))
 refine tT ?_
 refine E4 (rT rfl) (rC rfl (A1 rfl rfl)) (rT rfl) ?_
 (refine J9.one hsl5 (hrB.mono hle5) (hma'.mono hle5) ?_; rw [A2z zV]; cases hq : O8 5 (h.getD 0 C6) with | none => rfl | some q => (have hq2 := hmm q hq; subst hq2; dsimp only; rw [if_neg zV]; rfl))
theorem A5z {cx : Cx} {k : Int} {nm : ByteArray} {ty : Ty} {h w : List Ty} {t : Ty} (he : W2 cx k nm ty h = some (w, t)) : H0 t = true ∧ L6 cx k nm ty h = some (w, t) := by
 unfold W2 at he
 split at he
 ·rename_i w' t' hw
  split at he
  ·cases he; exact ⟨by assumption, hw⟩
  ·cases he
 ·cases he
theorem B2t {cx : Cx} {k : Int} {nm : ByteArray} {ty : Ty} {h w : List Ty} {t : Ty} (hop : (k = 6 ∨ k = 7 ∨ k = 8 ∨ k = 10 → h.length = 2) ∧ (k = 9 → h.length = 3) ∧ (k = 5 ∨ k = 11 ∨ k = 12 ∨ k = 13 → h.length = 1)) (hk : 1 ≤ k ∧ k ≤ 14) (h14 : k ≠ 14) (he : L6 cx k nm ty h = some (w, t)) : w.length ≤ h.length := by
 have hkk : k = 1 ∨ k = 2 ∨ (k = 3 ∨ k = 4) ∨ k = 5 ∨ k = 6 ∨ (k = 7 ∨ k = 8) ∨ k = 9 ∨ k = 10 ∨ (k = 11 ∨ k = 12) ∨ k = 13 := by omega
 rcases hkk with rfl | rfl | hk | rfl | rfl | hk | rfl | rfl | hk | rfl
 ·rw [mW1] at he; split at he <;> cases he; simp
 ·rw [mW2] at he; cases he; simp
 ·rw [A3b hk] at he; cases he; simp
 ·rw [mW5] at he; cases he; simp
 ·rw [mW6] at he
  split at he
  ·split at he <;> cases he
   have := hop.1 zV; simp [this]
  ·cases he
 ·rw [S3 hk] at he
  split at he <;> cases he
  have := hop.1 zV; simp [this]
 ·rw [mW9] at he
  split at he <;> cases he
  have := hop.2.1 zV; simp [this]
 ·rw [A33] at he; cases he; simp
 ·rw [A2z hk] at he
  split at he
  ·cases he; have := hop.2.2 zV; simp [this]
  ·cases he
 ·rw [A12] at he
  split at he <;> cases he
  have := hop.2.2 zV; simp [this]
theorem O9.snoc {G G' : IM} {cx : Cx} {n : Nat} {p' : Option Addr} {c' : Nat} {es : List (List Value)} {e : List Value} {nm : ByteArray} {t : Ty} (h1 : n = cx.length) (hl : es.length = n) (h2 : ∀ x ∈ es, x.length = 3) (h3 : ∀ x ∈ es, x.all (·.oneCell') = true)
  (h4 : ∀ (i : Nat) (b : ByteArray × Ty), cx[i]? = some b → ∃ e, es[i]? = some e ∧ A2v G b e) (hg : D2 G G') (he : A2v G' (nm, t) e) (hs : Sl G' p' (n + 1) c' 3 (es.flatten ++ e)) : O9 G' (cx ++ [(nm, t)]) p' (n + 1) c' := by
 have hel : e.length = 3 ∧ e.all (·.oneCell') = true := by obtain ⟨q, d, rfl, _⟩ := he; exact ⟨rfl, rfl⟩
 refine ⟨by simp [h1], es ++ [e], C8.of (by simpa using hs) (by simp [hl]) ?_ ?_, ?_⟩
 ·simp only [List.forall_mem_append, List.forall_mem_singleton]; exact ⟨h2, hel.1⟩
 ·simp only [List.forall_mem_append, List.forall_mem_singleton]; exact ⟨h3, hel.2⟩
 ·intro i b hb
  rw [List.getElem?_append] at hb ⊢
  split at hb
  ·rename_i hi
   obtain ⟨e', he', hr⟩ := h4 i b hb
   rw [if_pos zV]
   exact ⟨e', he', hr.mono hg⟩
  ·rename_i hi
   have : i - cx.length = 0 := by
    apply Classical.byContradiction; intro hc
    rw [List.getElem?_eq_none (by simp; omega)] at hb; cases hb
   rw [this] at hb
   simp only [List.getElem?_cons_zero, Option.some.injEq] at hb
   subst hb
   rw [if_neg zV]
   exact ⟨e, by rw [show i - es.length = 0 by omega]; rfl, he⟩
theorem B2u (G : IM) (p : Option Addr) (n c : Nat) (es : List (List Value)) (h : C8 G p n c 3 es) (hn : n ≤ 4294967296) :
  Fn Tryz.prog 62 [.slice p n c] [] G (fun G' v outs => G' = G ∧ ∃ p' c', v = .slice p' n c' ∧ outs = [.slc p' c' 98 3 n es.flatten]) := by
 have hp := h.sl.nn
 have hS := h.sl
 have hone : ∀ u ∈ es.flatten, u.oneCell' = true := by
  intro u hu
  obtain ⟨e, he, hue⟩ := List.mem_flatten.1 hu
  exact List.all_eq_true.1 (h.one e he) u hue
 refine D5 Tryz.func62 rfl Tryz.ntmps62 Tryz.results62 rfl ?_
 intro w0
 cases p with
 | none =>
  obtain rfl := hp rfl
  obtain rfl : es = [] := List.length_eq_zero_iff.1 h.len
  refine S7 98 3 ?_
  refine C2 ?_
  refine sQ (B0e rfl rfl rfl) rfl ?_
  refine H3 ?_
  refine S1 (rT rfl) D0.refl ?_
  exact ⟨rfl, _, _, rfl, rfl⟩
 | some a =>
  refine C2 ?_
  refine sQ (A6a rfl rfl rfl) rfl ?_
  refine A8 ?_
  (refine F0 (C0 rfl rfl rfl zV zQ rfl) rfl ?_; rintro _ ⟨b18, rfl⟩)
  refine I0 ?_
  refine B13 rfl rfl rfl rfl rfl (fun _ _ => by repeat (first | exact Sw.here | apply Sw.there)) hS hone (Nat.zero_le _) zQ zV rfl (fun pn cn => ?_)
  refine C3 ?_
  refine S1 (rT rfl) D0.refl ?_
  exact ⟨rfl, _, _, by rw [Nat.zero_add], by rw [Nat.zero_add]; rfl⟩
theorem A1h.no {r : Option Ty} {G G' : IM} {cu : List Value} {u : Ty} {b : Bool} (hu : C7 G' u cu) (hb : b = false) (h : r = none) : A1h r G G' (.tuple ⟨[.agg ⟨cu⟩, .bool b]⟩) [] := by
 subst hb h
 exact ⟨rfl, cu, u, rfl, hu, by simp⟩
section
variable {cx : Cx} {k : Int} {nm : ByteArray} {num : Int} {ty fr : Ty} {lb : Int} {ks : List Tm}
theorem A3c {us w : List Ty} {t : Ty} (h : L6 cx k nm ty us = some (w, t)) {b : Bool} (hb : H0 t = b) : W2 cx k nm ty us = if b = true then some (w, t) else none := by
 unfold W2; rw [h]; simp only [hb]
theorem B2v {us : List Ty} (h : L6 cx k nm ty us = none) : W2 cx k nm ty us = none := by
 unfold W2; rw [h]
end
def B2w (r : Tm) : Tm × Bool := if T5 r = true then (r, true) else (P2, false)
def B5b (t : Tm) (path : List Int) (x : Tm) : Tm × Bool := if T5 t = true ∧ T5 x = true ∧ tAt t path ≠ none then B2w (A7P t path x) else (P2, false)
mutual
theorem A5A (D N : Int) : ∀ (t : Tm) (d d' : Int), d' ≤ d → N1 D N t d = true → N1 D N t d' = true
 | .mk k nm num ty fr lb ks, d, d', hd, h => by
  obtain ⟨h1, h2, h3, h4⟩ := A0Q h
  rw [A0O zV h2 h3]
  exact A34 D N ks _ _ zV h4
theorem A34 (D N : Int) : ∀ (ts : List Tm) (d d' : Int), d' ≤ d → N2 D N ts d = true → N2 D N ts d' = true
 | [], d, d', hd, h => by rw [N2]
 | t :: ts, d, d', hd, h => by
  rw [N2, Bool.and_eq_true] at h ⊢
  exact ⟨A5A D N t d d' hd h.1, A34 D N ts d d' hd h.2⟩
end
def H7 : List Tm → List Ty → List Ty → Int → List Tm × Int
 | u :: us, a :: h, b :: w, l => if M5 a b = true then (u :: (H7 us h w l).1, (H7 us h w l).2) else (P3 u a b (l + 1) :: (H7 us h w (l + 1)).1, (H7 us h w (l + 1)).2)
 | us, _, _, l => (us, l)
def A1k (cx : Cx) (k : Int) (nm : ByteArray) (num : Int) (ty fr : Ty) (lb : Int) (us : List Tm) (h : List Ty) (l : Int) : Option (Tm × Ty × Int) :=
 match W2 cx k nm ty h with
 | none => none
 | some (w, t) => some (if k = 13 then (H7 us h w l).1.getD 0 P2 else .mk k nm num ty fr lb (H7 us h w l).1, t, (H7 us h w l).2)
mutual
def N0 (cx : Cx) : Tm → Int → Option (Tm × Ty × Int)
 | .mk k nm num ty fr lb ks, l => match M4 (M6 cx k nm ty) ks l with
  | none => none
  | some (us, h, l') => A1k cx k nm num ty fr lb us h l'
def M4 (cx : Cx) : List Tm → Int → Option (List Tm × List Ty × Int)
 | [], l => some ([], [], l)
 | t :: ts, l => match N0 cx t l with
  | none => none
  | some (u, a, l') => match M4 cx ts l' with
   | none => none
   | some (us, h, l'') => some (u :: us, a :: h, l'')
end
def S4 (e : Tm) : Option (Tm × Ty) := if V7 e = true then (match N0 [] e 0 with | some (u, t, _) => some (u, t) | none => none) else none
def T8 (cx : Cx) (k : Int) (nm : ByteArray) (ty : Ty) (h : List Ty) : Option Ty := match L6 cx k nm ty h with
 | some (_, t) => if (k = 5 ∨ k = 10) ∧ H0 t = false then none else some t
 | none => none
mutual
def O0 (cx : Cx) : Tm → Option Ty
 | .mk k nm num ty fr lb ks => match S5 (M6 cx k nm ty) ks with
  | none => none
  | some h => T8 cx k nm ty h
def S5 (cx : Cx) : List Tm → Option (List Ty)
 | [] => some []
 | t :: ts => match O0 cx t with
  | none => none
  | some a => match S5 cx ts with
   | none => none
   | some h => some (a :: h)
end
theorem A3d (k : Int) (ks : List Ty) (d : Int) : J6 (.mk k ks) d = (decide (d ≤ 4) && decide (Z9 k = ks.length) && R2 ks (d + 1)) := by rw [J6]
mutual
theorem A3e : ∀ (t : Ty) (d e : Int), e ≤ d → J6 t d = true → J6 t e = true
 | .mk k ks, d, e, h, hs => by
  rw [A3d, Bool.and_eq_true, Bool.and_eq_true, decide_eq_true_eq, decide_eq_true_eq] at hs ⊢
  exact ⟨⟨by omega, hs.1.2⟩, A8f ks (d + 1) (e + 1) zV hs.2⟩
theorem A8f : ∀ (ts : List Ty) (d e : Int), e ≤ d → R2 ts d = true → R2 ts e = true
 | [], d, e, h, hs => by rw [R2]
 | t :: ts, d, e, h, hs => by
  rw [R2, Bool.and_eq_true] at hs ⊢
  exact ⟨A3e t d e h hs.1, A8f ts d e h hs.2⟩
end
mutual
theorem A5B : ∀ (a b : Ty) (d : Int), J0 a b = true → J6 a d = true → J6 b d = true → J6 (R5 a b) d = true
 | .mk k ks, .mk k' ks', d, hc, ha, hb => by
  rw [A2n]
  split
  ·exact hb
  ·split
   ·exact ha
   ·rw [P6] at hc
    rw [A3d, Bool.and_eq_true, Bool.and_eq_true, decide_eq_true_eq, decide_eq_true_eq] at ha hb ⊢
    simp only [Bool.or_eq_true, Bool.and_eq_true, decide_eq_true_eq] at hc
    obtain ⟨hk, hl⟩ : k = k' ∧ M3 ks ks' = true := by
     rcases hc with (h | h) | h
     ·contradiction
     ·contradiction
     ·exact h
    subst hk
    obtain ⟨m1, m2⟩ := A8g ks ks' (d + 1) hl ha.2 hb.2
    exact ⟨⟨ha.1.1, by rw [m2]; exact ha.1.2⟩, m1⟩
theorem A8g : ∀ (xs ys : List Ty) (d : Int), M3 xs ys = true → R2 xs d = true → R2 ys d = true → R2 (Q7 xs ys) d = true ∧ (Q7 xs ys).length = xs.length
 | [], [], d, _, _, _ => by simp [Q7, R2]
 | [], b :: ys, d, hc, _, _ => by simp [M3] at hc
 | a :: xs, [], d, hc, _, _ => by simp [M3] at hc
 | a :: xs, b :: ys, d, hc, ha, hb => by
  rw [M3, Bool.and_eq_true] at hc
  rw [R2, Bool.and_eq_true] at ha hb
  obtain ⟨m1, m2⟩ := A8g xs ys d hc.2 ha.2 hb.2
  rw [Q7, R2, Bool.and_eq_true]
  exact ⟨⟨A5B a b d hc.1 ha.1 hb.1, m1⟩, by simp [m2]⟩
end
theorem A5C {cx : Cx} (h : ∀ b ∈ cx, H0 b.2 = true) {nm : ByteArray} {t : Ty} : ∀ {n : Nat}, U3 cx nm n = some t → H0 t = true
 | 0, hl => by simp [U3] at hl
 | n + 1, hl => by
  rw [U3] at hl
  split at hl
  ·rename_i b hb
   split at hl
   ·cases hl; exact h b (List.mem_of_getElem? hb)
   ·exact A5C h hl
  ·exact A5C h hl
theorem A8h {k : Int} {t a b : Ty} (hk : k = 4 ∨ k = 5) (ht : H0 t = true) (h : O8 k t = some (a, b)) : H0 a = true ∧ H0 b = true := by
 obtain ⟨tk, ks⟩ := t
 rw [show O8 k (.mk tk ks) = (if tk = k then some (ks.getD 0 C6, ks.getD 1 C6) else if tk = 1 then some (P7, P7) else none) from rfl] at h
 by_cases he : tk = k
 ·rw [if_pos he] at h
  cases h
  unfold H0 at ht ⊢
  rw [A3d, Bool.and_eq_true, Bool.and_eq_true, decide_eq_true_eq, decide_eq_true_eq] at ht
  have h2 : ks.length = 2 := by
   have : Z9 tk = 2 := by rw [he]; rcases hk with rfl | rfl <;> rfl
   omega
  match ks, h2, ht.2 with
  | [x, y], _, hL =>
   simp only [R2, Bool.and_eq_true] at hL
   exact ⟨A3e _ 2 1 zV hL.1, A3e _ 2 1 zV hL.2.1⟩
 ·rw [if_neg he] at h
  by_cases h1 : tk = 1
  ·rw [if_pos h1] at h
   cases h
   exact ⟨by decide, by decide⟩
  ·rw [if_neg h1] at h; cases h
theorem B2x {l : List Ty} {i : Nat} (h : i < l.length) : l.getD i C6 ∈ l := by
 rw [List.getD_eq_getElem?_getD, List.getElem?_eq_getElem h, Option.getD_some]; exact List.getElem_mem h
theorem B2y {cx : Cx} {k : Int} {nm : ByteArray} {ty : Ty} {h w : List Ty} {t : Ty} (hcx : ∀ b ∈ cx, H0 b.2 = true) (hh : ∀ a ∈ h, H0 a = true) (hd : H0 (h.getD 0 C6) = true ∨ h = []) (hty : k = 13 → H0 ty = true) (hn : H8 k = (h.length : Int)) (hw : L6 cx k nm ty h = some (w, t)) (h510 : k ≠ 5 ∧ k ≠ 10) : H0 t = true := by
 have hg : ∀ i, i < h.length → H0 (h.getD i C6) = true := fun i hi => hh _ (B2x hi)
 unfold L6 at hw
 split at hw
 ·split at hw
  ·rename_i u hu; cases hw; exact A5C hcx hu
  ·cases hw
 split at hw
 ·cases hw; decide
 split at hw
 ·cases hw; decide
 split at hw
 ·exact absurd zS h510.1
 split at hw
 ·rename_i hk6
  have hl : h.length = 2 := by have : H8 k = 2 := (by rw [hk6]; rfl); omega
  split at hw
  ·rename_i a b hm
   split at hw
   ·cases hw; exact (A8h (.inl rfl) (hg 0 zV) hm).2
   ·cases hw
  ·cases hw
 split at hw
 ·split at hw
  ·cases hw; split <;> decide
  ·cases hw
 split at hw
 ·rename_i hk9
  have hl : h.length = 3 := by have : H8 k = 3 := (by rw [hk9]; rfl); omega
  split at hw
  ·rename_i hc
   cases hw
   exact A5B _ _ 1 hc.2 (hg 1 zV) (hg 2 zV)
  ·cases hw
 split at hw
 ·exact absurd zS h510.2
 split at hw
 ·split at hw
  ·cases hw; exact hty zS
  ·cases hw
 ·split at hw
  ·rename_i a b hm
   have hl : h.length ≠ 0 := by
    intro h0
    rw [List.length_eq_zero_iff] at h0
    subst h0
    rw [show O8 5 (([] : List Ty).getD 0 C6) = none from rfl] at hm
    cases hm
   cases hw
   have := A8h (.inr rfl) (hg 0 zV) hm
   split
   ·exact this.2
   ·exact this.1
  ·cases hw
end Gw
end Go.Proofs.YtmceanphadildaaGreatDoor
