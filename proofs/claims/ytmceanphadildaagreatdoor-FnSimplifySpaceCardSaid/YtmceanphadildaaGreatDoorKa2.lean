/-
  The scan of a term, CastValid, TermValid.
-/
import Derived.Test.YtmceanphadildaaGreatDoorKa1
import Derived.Test.YtmceanphadildaaGreatDoorKa0
set_option linter.unusedVariables false
set_option linter.unusedSimpArgs false
set_option maxHeartbeats 0
set_option maxRecDepth 100000
set_option synthInstance.maxSize 4000
set_option synthInstance.maxHeartbeats 0
namespace Go.Proofs.YtmceanphadildaaGreatDoor
open Go Go.RowKit
namespace Gw
theorem y2 {p : Prop} (h : p := by
  refine aP 16 rfl (qM rfl) rfl ?_
  refine B9 17 rfl rfl rfl ?_
  refine B9 18 rfl rfl rfl ?_
  refine B9 19 rfl rfl rfl ?_
  refine B9 20 rfl rfl rfl ?_
  refine B9 21 rfl rfl rfl ?_
  refine B9 22 rfl rfl rfl ?_
  refine B9 23 rfl rfl rfl ?_
  refine B9 24 rfl rfl rfl ?_
  refine aP 25 rfl (M4 rfl rfl) rfl ?_
  refine aP 26 rfl (qM rfl) rfl ?_
  refine B9 27 rfl rfl rfl ?_
  refine B9 28 rfl rfl rfl ?_
  refine B9 29 rfl rfl rfl ?_
  refine B9 30 rfl rfl rfl ?_
  refine B9 31 rfl rfl rfl ?_
  refine B9 32 rfl rfl rfl ?_
  refine B9 33 rfl rfl rfl ?_
  refine B9 34 rfl rfl rfl ?_
  refine aP 35 rfl (M4 rfl rfl) rfl ?_
  refine I3 ?_
  (rw [A1g (by rw [hR]; first | omega | exact .inr (.inr zT) | exact .inr (.inr (by cases R with | false => rfl | true => exact absurd (har rfl) zW)))]; exact ⟨rfl, rfl, rfl⟩)
) : p := h
theorem y3 {p : Prop} (h : p := by
  refine A9 ?_
  exact ⟨rfl, by rw [hi.2 ⟨fun _ => by (first | assumption | (exfalso; omega)), fun _ => zL, fun _ => by (first | assumption | (exfalso; omega)), fun _ => by (first | assumption | (exfalso; omega)), fun _ => ⟨by (first | assumption | (exfalso; omega)), by (first | assumption | omega)⟩, by omega, by omega⟩], rfl⟩
) : p := h
theorem y4 {p : Prop} (h : p := by
  refine I3 ?_
  (rw [A1g (by rw [hR]; first | omega | exact .inr (.inr zT) | exact .inr (.inr (by cases R with | false => rfl | true => exact absurd (har rfl) zW)))]; exact ⟨rfl, rfl, rfl⟩)
) : p := h
theorem y5 {p : Prop} (h : p := by
  refine D2 D3 rfl ?_
  refine H1 (i := 0) (l' := [tt,ff,ff,ff,ff,ff,ff,ff,ff,ff]) rfl C8 (qM rfl) rfl zU rfl rfl ?_
  refine aP 1 rfl (qM rfl) rfl ?_
  refine aP 2 rfl (A83 rfl rfl rfl zW) rfl ?_
  refine aP 3 rfl (qM rfl) rfl ?_
  refine aP 4 rfl (A4x rfl rfl (by simp only [ByteArray.size_extract, ByteArray.size_append]; omega)) rfl ?_
  refine aP 5 rfl (qM rfl) rfl ?_
  refine aP 6 rfl (qM rfl) rfl ?_
  refine aP 7 rfl (A84 rfl rfl rfl zW) rfl ?_
  refine aP 8 rfl (A4x rfl rfl (by simp only [ByteArray.size_extract, ByteArray.size_append]; omega)) rfl ?_
  refine aP 9 rfl (qA rfl) rfl ?_
  refine B3 ?_
  refine H7 (outs := []) (rT rfl) A2.nil ?_
  (exact ⟨rfl, rfl, _, rfl, by simp only [ByteArray.size_extract, ByteArray.size_append]; omega⟩)
) : p := h
theorem y6 {p : Prop} (h : p := by
  refine H7 (outs := [.blk bc [.int .i64 _]]) (rT rfl) (A2.cons zN A2.nil) ?_
  (rw [A4J (by rw [hR]; first | omega | exact Or.inr (Or.inr (Or.inr zT))) ]; exact ⟨rfl, rfl, rfl⟩)
) : p := h
theorem y7 {p : Prop} (h : p := by
  refine I3 ?_
  (refine I0 rfl (S2 G br pb nb cb p bs (n : Int) hb hnb hp) (List.Perm.refl _) rfl rfl (fun v G1 outs hle1 hh => ?_); obtain ⟨rfl, rfl, k, rfl, hk0, hkn⟩ := hh; obtain ⟨j, rfl⟩ := Int.eq_ofNat_of_zero_le hk0)
  (obtain ⟨b, o, v, rfl, hv, hat, _⟩ := hx.kid (i := j) zW; refine sP (B1 rfl rfl rfl zW) rfl rfl ?_)
  refine sL (S0 rfl rfl (hat _)) rfl rfl ?_
  refine C3 ?_
  refine H7 (rT rfl) A2.refl ?_
  exact ⟨rfl, rfl, List.mem_of_getElem? hv⟩
) : p := h
theorem y8 {p : Prop} (h : p := by
  refine aP 11 rfl (qM rfl) rfl ?_
  refine B9 12 rfl rfl rfl ?_
  refine B9 13 rfl rfl rfl ?_
  refine B9 14 rfl rfl rfl ?_
  refine aP 15 rfl (M4 rfl rfl) rfl ?_
  refine aP 16 rfl (qM rfl) rfl ?_
  refine B9 17 rfl rfl rfl ?_
  refine B9 18 rfl rfl rfl ?_
  refine B9 19 rfl rfl rfl ?_
  refine aP 20 rfl (M4 rfl rfl) rfl ?_
  exact y4
) : p := h
theorem y9 {p : Prop} (h : p := by
  refine N4 ?_
  exact ⟨rfl, zD, rfl⟩
) : p := h
theorem B3G (M D N : Int) (hM : 0 ≤ M ∧ M ≤ 1000) (hD : 0 ≤ D ∧ D ≤ 1000) (bc : Nat) : ∀ (t : Tm) (deep c : Int) (G : IM) (cells : List Value), 0 ≤ deep ∧ deep ≤ D + 1 → 0 ≤ c ∧ c ≤ M → B6 G t cells →
  Fn Tryz.prog 56 [.agg ⟨cells⟩, .int .i64 deep, .int .i64 M, .int .i64 D, .int .i64 N, .pointer (some ⟨bc, 0, none⟩)] [.blk bc [.int .i64 c]] G
   (T8 (.bool (R3 M D N t deep c).1) [.blk bc [.int .i64 (R3 M D N t deep c).2]] G) := by
 refine Tm.ind fun k nm num ty fr lb ks ih deep c G cells hd hc hr => ?_
 have hno := B3F k nm num ty fr lb ks G cells hr
 obtain ⟨tk, tks⟩ := ty
 obtain ⟨fk, fks⟩ := fr
 obtain ⟨pt, ct, pf, cf, p, cp, es, rfl, hk, hnum, hlb, hty, hfr, hsl, hkl⟩ := hr.open9
 have hn := hsl.le
 obtain ⟨R, hR⟩ : ∃ R, T3 k nm num (.mk tk tks) (.mk fk fks) lb ks.length = R := ⟨_, rfl⟩
 rw [hR] at hno
 refine C7 Tryz.func56 rfl Tryz.ntmps56 Tryz.results56 rfl ?_
 intro w0
 refine A4 ?_
 refine sE (D5 rfl rfl) rfl (fun b3 => ?_)
 refine A7 ?_
 refine sQ (A0k rfl) rfl ?_
 refine F8 ?_
 refine sP (K9 rfl rfl zW zW) rfl rfl ?_
 refine sQ (A0k rfl) rfl ?_
 refine B5 ?_
 refine sQ (A0k rfl) rfl ?_
 refine A4 ?_
 refine sB (A0l rfl rfl) rfl rfl (fun h24 => ?_) (fun h24 => ?_)
 refine A4F ?_
 exact y6
 refine B3 ?_
 refine sB (A0l rfl rfl) rfl rfl (fun h56 => ?_) (fun h56 => ?_)
 refine A5Y ?_
 exact y6
 refine A9 ?_
 refine sB (qE rfl rfl) rfl rfl (fun h86 => ?_) (fun h86 => ?_)
 refine N4 ?_
 exact y6
 refine B3 ?_
 refine J0 rfl (hno) rfl rfl (fun h108 => ?_) (fun h108 => ?_)
 refine N4 ?_
 refine C2 ?_
 (have hmk := B25 (M := M) (D := D) (N := N) (deep := deep) (c := c) zW (hR.trans zT); refine L4 (fun (x : Nat × Int) => ⟨[(44, .int .i64 x.1), (43, .int .i64 ks.length), (42, .slice p ks.length cp), (5, .pointer (some ⟨bc, 0, none⟩)), (4, .int .i64 N), (3, .int .i64 D), (2, .int .i64 M), (1, .int .i64 deep)], [.blk bc [.int .i64 x.2]], G⟩) (fun x => x.1 ≤ ks.length ∧ 0 ≤ x.2 ∧ x.2 ≤ M ∧ S1 M D N ks (deep + 1) (c + 1) = S1 M D N (ks.drop x.1) (deep + 1) x.2) (fun x => ks.length - x.1) (0, c + 1) ?_ ?_ ?_)
 (simp only [J7]; exact E3)
 exact ⟨by simp, by simp; omega, by simp; omega, by simp⟩
 (rintro ⟨i, ci⟩ ⟨hi, hc0, hc1, hst⟩; simp only [] at hi hc0 hc1 hst ⊢)
 refine A4 ?_
 refine sB (K6 rfl rfl) rfl rfl (fun h132 => ?_) (fun h132 => ?_)
 refine B5 ?_
 refine C2 ?_
 refine A4 ?_
 (obtain ⟨b, o, e, rfl, hl, hat, hre, hgb⟩ := hsl.kidTm hkl (i := i) zW zW; have hone := hre.one; have hle := A8i M D N ks[i] (deep + 1) ci hc0 hc1; refine sP (B1 rfl rfl rfl zW) rfl rfl ?_)
 refine sL (A5 rfl rfl (hat _) hl) rfl rfl ?_
 refine sE (A8 rfl) rfl (fun b145 => ?_)
 refine P3 rfl rfl rfl zT zT rfl zO (by exact C6 (by symm; assumption)) ?_
 refine C3 ?_
 refine sL (A5 rfl rfl (B7 zP) zT) rfl rfl ?_
 refine F8 ?_
 refine sP (K9 rfl rfl zW zW) rfl rfl ?_
 refine C3 ?_
 refine B2U rfl (ih ks[i] (List.getElem_mem _) (deep + 1) ci G e zW zW hre) (Pk.perm zN) rfl rfl (fun h158 => ?_) (fun h158 => ?_)
 refine E7 ?_
 refine sP (K9 rfl rfl zW zW) rfl rfl ?_
 refine A4 ?_
 refine K3 (i + 1, (R3 M D N ks[i] (deep + 1) ci).2) ?_ ?_ ?_
 (simp only [J7]; exact E3)
 exact ⟨by omega, by omega, hle.2.2 zT, by rw [hst, B26 zW zT]⟩
 (show ks.length - (i + 1) < ks.length - i; omega)
 refine K4 ?_
 refine H7 (outs := [.blk bc [.int .i64 _]]) (rT rfl) (A2.cons zN A2.nil) ?_
 (rw [hmk, hst, B27 zW zT]; exact ⟨rfl, rfl, rfl⟩)
 refine K4 ?_
 refine H7 (outs := [.blk bc [.int .i64 _]]) (rT rfl) (A2.cons zN A2.nil) ?_
 (rw [hmk, hst, B28 zW]; exact ⟨rfl, rfl, rfl⟩)
 refine N8 ?_
 exact y6
theorem A4T (t : Tm) (G : IM) (cells : List Value) (hr : B6 G t cells) : Fn Tryz.prog 22 [.agg ⟨cells⟩] [] G (J5 (.bool (K2 t)) G) := by
 have hl := hr.len
 refine C7 Tryz.func22 rfl Tryz.ntmps22 Tryz.results22 rfl ?_
 intro w0
 refine A4 ?_
 refine sE (D5 rfl rfl) rfl (fun b3 => ?_)
 refine A9 ?_
 refine sE (A8 rfl) rfl (fun b9 => ?_)
 refine A9 ?_
 refine sL (A5 rfl rfl (B7 zP) zT) rfl rfl ?_
 refine A5X rfl (B3G 200 40 13 zW zW _ t 1 0 G cells zW zW hr) A00 rfl rfl ?_
 refine A9 ?_
 exact ⟨rfl, rfl, rfl⟩
theorem A8I (k : Int) (G : IM) : Fn Tryz.prog 184 [.int .i64 k] [] G (J5 (.int .i64 (U2 k)) G) := by
 refine C7 Tryz.func184 rfl Tryz.ntmps184 Tryz.results184 rfl ?_
 intro w0
 refine I3 ?_
 refine C2 ?_
 refine B3 ?_
 refine sB (qE rfl rfl) rfl rfl (fun h16 => ?_) (fun h16 => ?_)
 refine N4 ?_
 exact ⟨rfl, by (first | rw [(M8 k).1 zW] | rw [(M8 k).2.1 zW] | rw [(M8 k).2.2 zW zW zW zW zW]), rfl⟩
 refine A7 ?_
 refine sB (qE rfl rfl) rfl rfl (fun h40 => ?_) (fun h40 => ?_)
 refine N4 ?_
 exact ⟨rfl, by (first | rw [(M8 k).1 zW] | rw [(M8 k).2.1 zW] | rw [(M8 k).2.2 zW zW zW zW zW]), rfl⟩
 refine A9 ?_
 refine sB (qE rfl rfl) rfl rfl (fun h63 => ?_) (fun h63 => ?_)
 refine J2 ?_
 exact ⟨rfl, by (first | rw [(M8 k).1 zW] | rw [(M8 k).2.1 zW] | rw [(M8 k).2.2 zW zW zW zW zW]), rfl⟩
 refine B5 ?_
 refine sB (qE rfl rfl) rfl rfl (fun h85 => ?_) (fun h85 => ?_)
 refine N4 ?_
 exact ⟨rfl, by (first | rw [(M8 k).1 zW] | rw [(M8 k).2.1 zW] | rw [(M8 k).2.2 zW zW zW zW zW]), rfl⟩
 refine A9 ?_
 refine sB (qE rfl rfl) rfl rfl (fun h108 => ?_) (fun h108 => ?_)
 refine J2 ?_
 exact ⟨rfl, by (first | rw [(M8 k).1 zW] | rw [(M8 k).2.1 zW] | rw [(M8 k).2.2 zW zW zW zW zW]), rfl⟩
 refine N1 ?_
 exact ⟨rfl, by (first | rw [(M8 k).1 zW] | rw [(M8 k).2.1 zW] | rw [(M8 k).2.2 zW zW zW zW zW]), rfl⟩
theorem A4U (k : Int) (G : IM) : Fn Tryz.prog 109 [.int .i64 k] [] G (J5 (.int .i64 (F7 k)) G) := by
 refine C7 Tryz.func109 rfl Tryz.ntmps109 Tryz.results109 rfl ?_
 intro w0
 refine I3 ?_
 refine C2 ?_
 refine B3 ?_
 refine sB (qE rfl rfl) rfl rfl (fun h16 => ?_) (fun h16 => ?_)
 exact y9
 refine A7 ?_
 refine sB (qE rfl rfl) rfl rfl (fun h40 => ?_) (fun h40 => ?_)
 exact y9
 refine A7 ?_
 refine sB (qE rfl rfl) rfl rfl (fun h64 => ?_) (fun h64 => ?_)
 exact y9
 refine A9 ?_
 refine sB (qE rfl rfl) rfl rfl (fun h87 => ?_) (fun h87 => ?_)
 refine J2 ?_
 exact ⟨rfl, zD, rfl⟩
 refine B5 ?_
 refine sB (qE rfl rfl) rfl rfl (fun h109 => ?_) (fun h109 => ?_)
 exact y9
 refine A7 ?_
 refine sB (qE rfl rfl) rfl rfl (fun h133 => ?_) (fun h133 => ?_)
 exact y9
 refine A7 ?_
 refine sB (qE rfl rfl) rfl rfl (fun h157 => ?_) (fun h157 => ?_)
 exact y9
 refine A7 ?_
 refine sB (qE rfl rfl) rfl rfl (fun h181 => ?_) (fun h181 => ?_)
 exact y9
 refine A9 ?_
 refine sB (qE rfl rfl) rfl rfl (fun h204 => ?_) (fun h204 => ?_)
 refine J2 ?_
 exact ⟨rfl, zD, rfl⟩
 refine B5 ?_
 refine sB (qE rfl rfl) rfl rfl (fun h226 => ?_) (fun h226 => ?_)
 exact y9
 refine A7 ?_
 refine sB (qE rfl rfl) rfl rfl (fun h250 => ?_) (fun h250 => ?_)
 exact y9
 refine A7 ?_
 refine sB (qE rfl rfl) rfl rfl (fun h274 => ?_) (fun h274 => ?_)
 exact y9
 refine A9 ?_
 refine sB (qE rfl rfl) rfl rfl (fun h297 => ?_) (fun h297 => ?_)
 refine J2 ?_
 exact ⟨rfl, zD, rfl⟩
 refine A7 ?_
 refine sB (qE rfl rfl) rfl rfl (fun h318 => ?_) (fun h318 => ?_)
 refine J2 ?_
 exact ⟨rfl, zD, rfl⟩
 refine N1 ?_
 exact ⟨rfl, zD, rfl⟩
theorem B3H (s : ByteArray) (G : IM) : Fn Tryz.prog 158 [.string s] [] G (J5 (.bool (X3 s)) G) := by
 refine C7 Tryz.func158 rfl Tryz.ntmps158 Tryz.results158 rfl ?_
 intro w0
 refine E7 ?_
 refine sQ (A2o rfl rfl) rfl (sB (qE rfl rfl) rfl rfl (fun h10 => ?_) (fun h10 => ?_))
 refine A4 ?_
 refine sP (A4w rfl rfl rfl zW (A4I zW)) rfl rfl ?_
 refine sB (A0W rfl rfl) rfl rfl (fun h14 => ?_) (fun h14 => ?_)
 refine B3 ?_
 refine sP (A4w rfl rfl rfl zW (A4I zW)) rfl rfl ?_
 refine sB (A0b rfl rfl) rfl rfl (fun h19 => ?_) (fun h19 => ?_)
 refine A7 ?_
 exact ⟨rfl, by simp only [X3]; (try simp only [Int.toNat_zero] at *); (first | rw [decide_eq_true zW] | rw [decide_eq_false zW]), rfl⟩
 refine A7 ?_
 exact ⟨rfl, by simp only [X3]; (try simp only [Int.toNat_zero] at *); (first | rw [decide_eq_true zW] | rw [decide_eq_false zW]), rfl⟩
 refine I3 ?_
 exact ⟨rfl, by simp only [X3]; (try simp only [Int.toNat_zero] at *); (first | rw [decide_eq_true zW] | rw [decide_eq_false zW]), rfl⟩
 refine K4 ?_
 exact ⟨rfl, by simp only [X3]; (try simp only [Int.toNat_zero] at *); (first | rw [decide_eq_true zW] | rw [decide_eq_false zW]), rfl⟩
theorem A8J (t : Ty) (G : IM) (cells : List Value) (hr : B8 G t cells) : Fn Tryz.prog 159 [.agg ⟨cells⟩] [] G (J5 (.bool (X2 t)) G) := by
 obtain ⟨p, c, es, rfl, hk, hsl, hkl⟩ := hr.open
 refine C7 Tryz.func159 rfl Tryz.ntmps159 Tryz.results159 rfl ?_
 intro w0
 refine A4 ?_
 refine sE (D5 rfl rfl) rfl (fun b3 => ?_)
 refine B5 ?_
 refine sB (qE rfl rfl) rfl rfl (fun h11 => ?_) (fun h11 => ?_)
 refine C3 ?_
 refine sB (qE rfl rfl) rfl rfl (fun h16 => ?_) (fun h16 => ?_)
 refine A7 ?_
 exact ⟨rfl, by simp only [X2]; (first | rw [decide_eq_true zW] | rw [decide_eq_false zW]), rfl⟩
 refine A7 ?_
 exact ⟨rfl, by simp only [X2]; (first | rw [decide_eq_true zW] | rw [decide_eq_false zW]), rfl⟩
 refine I3 ?_
 exact ⟨rfl, by simp only [X2]; (first | rw [decide_eq_true zW] | rw [decide_eq_false zW]), rfl⟩
def A0o (n : Int) : Int := if n < -99 ∨ n > 99 then 0 else if n < 0 then -n else n
theorem B3I (n : Int) (G : IM) : Fn Tryz.prog 156 [.int .i64 n] [] G (J5 (.int .i64 (A0o n)) G) := by
 refine C7 Tryz.func156 rfl Tryz.ntmps156 Tryz.results156 rfl ?_
 intro w0
 refine D9 ?_
 refine sB (K6 rfl rfl) rfl rfl (fun h10 => ?_) (fun h10 => ?_)
 refine K4 ?_
 exact ⟨rfl, by (unfold A0o; first | rw [if_pos zW] | rw [if_neg zW, if_pos zW] | rw [if_neg zW, if_neg zW]), rfl⟩
 refine A4 ?_
 refine sB (A0l rfl rfl) rfl rfl (fun h29 => ?_) (fun h29 => ?_)
 refine N8 ?_
 exact ⟨rfl, by (unfold A0o; first | rw [if_pos zW] | rw [if_neg zW, if_pos zW] | rw [if_neg zW, if_neg zW]), rfl⟩
 refine I2 ?_
 refine sB (K6 rfl rfl) rfl rfl (fun h53 => ?_) (fun h53 => ?_)
 refine A7 ?_
 refine sP (A3F rfl zW zW) rfl rfl ?_
 refine A7 ?_
 exact ⟨rfl, by (unfold A0o; first | rw [if_pos zW] | rw [if_neg zW, if_pos zW] | rw [if_neg zW, if_neg zW]), rfl⟩
 refine J2 ?_
 exact ⟨rfl, by (unfold A0o; first | rw [if_pos zW] | rw [if_neg zW, if_pos zW] | rw [if_neg zW, if_neg zW]), rfl⟩
def Q5 : Ty := .mk 1 []
def P9 : Nat → Ty → Prop
 | 0, .mk k ks => ks = [] ∧ k ≠ 4 ∧ k ≠ 5
 | n + 1, .mk k ks => (k = 4 ∨ k = 5 → ks.length = 2) ∧ (k ≠ 4 → k ≠ 5 → ks.length = 0) ∧ ∀ t ∈ ks, P9 n t
mutual
def E5 : Ty → Prop
 | .mk k ks => (k = 4 ∨ k = 5 → ks.length = 2) ∧ (k ≠ 4 → k ≠ 5 → ks.length = 0) ∧ A0H ks
def A0H : List Ty → Prop
 | [] => True
 | t :: ts => E5 t ∧ A0H ts
end
theorem A3S : ∀ {ts : List Ty}, A0H ts ↔ ∀ t ∈ ts, E5 t
 | [] => by simp [A0H]
 | t :: ts => by simp only [A0H, A3S (ts := ts), List.forall_mem_cons]
theorem P9.ar : ∀ {n : Nat} {t : Ty}, P9 n t → E5 t
 | 0, .mk k ks, h => by
  obtain ⟨rfl, h1, h2⟩ := h
  rw [E5]
  exact ⟨fun h => by omega, fun _ _ => rfl, by rw [A0H]; trivial⟩
 | n + 1, .mk k ks, h => by
  obtain ⟨h1, h2, h3⟩ := h
  rw [E5]
  exact ⟨h1, h2, A3S.2 fun t ht => (h3 t ht).ar⟩
theorem P9.up : ∀ {n : Nat} {t : Ty}, P9 n t → P9 (n + 1) t
 | 0, .mk k ks, h => by
  obtain ⟨rfl, h1, h2⟩ := h
  exact ⟨fun h => by omega, fun _ _ => rfl, by simp⟩
 | n + 1, .mk k ks, h => by
  obtain ⟨h1, h2, h3⟩ := h
  exact ⟨h1, h2, fun t ht => (h3 t ht).up⟩
theorem P9.le {n m : Nat} {t : Ty} (h : P9 n t) (hm : n ≤ m) : P9 m t := by
 induction hm with
 | refl => exact h
 | step _ ih => exact ih.up
theorem B3J {d : Nat} {k : Int} {ts : List Ty} (h0 : d = 0 → k < 4) (hl : (ts.length : Int) = U2 k) (h1 : 1 ≤ k) (h5 : k ≤ 5) (ha : ∀ u ∈ ts, P9 (d - 1) u) : P9 d (.mk k ts) := by
 have hk : k = 1 ∨ k = 2 ∨ k = 3 ∨ k = 4 ∨ k = 5 := by omega
 cases d with
 | zero =>
  have hk4 := h0 rfl
  refine ⟨?_, by omega, by omega⟩
  have : U2 k = 0 := by
   rcases hk with rfl | rfl | rfl | rfl | rfl <;> first | rfl | omega
  exact List.length_eq_zero_iff.1 zW
 | succ d =>
  refine ⟨?_, ?_, ha⟩
  ·rintro (rfl | rfl)
   ·have : U2 4 = 2 := rfl
    omega
   ·have : U2 5 = 2 := rfl
    omega
  ·intro h4 h5
   have : U2 k = 0 := by
    rcases hk with rfl | rfl | rfl | rfl | rfl <;> first | rfl | omega
   omega
theorem A8K (n : Nat) : P9 n Q5 := by
 refine P9.le (n := 0) ⟨rfl, by decide, by decide⟩ (Nat.zero_le n)
theorem A2Z (n : Nat) {k : Int} (h4 : k ≠ 4) (h5 : k ≠ 5) : P9 n (.mk k []) := P9.le (n := 0) ⟨rfl, h4, h5⟩ (Nat.zero_le n)
theorem A3T : E5 Q5 := (A8K 0).ar
mutual
theorem E5.small : ∀ {t : Ty}, E5 t → t.small
 | .mk k ks, h => by
  rw [E5] at h
  rw [Ty.small]
  exact ⟨by have h1 := h.1; have h2 := h.2.1; omega, A0H.small h.2.2⟩
theorem A0H.small : ∀ {ts : List Ty}, A0H ts → Ty.smallL ts
 | [], _ => by rw [Ty.smallL]; trivial
 | t :: ts, h => by
  rw [A0H] at h
  rw [Ty.smallL]
  exact ⟨h.1.small, A0H.small h.2⟩
end
theorem A4V : ∀ {n : Nat} {t : Ty}, P9 n t → H6 t ≤ ((2 ^ (n + 1) - 2 : Nat) : Int)
 | 0, .mk k ks, h => by
  obtain ⟨rfl, h1, h2⟩ := h
  rw [H6, L5]; simp
 | n + 1, .mk k ks, h => by
  obtain ⟨h1, h2, h3⟩ := h
  have hp : 2 ≤ 2 ^ (n + 1) := by
   have := Nat.pow_le_pow_right (n := 2) zW (show 1 ≤ n + 1 by omega)
   simpa using this
  have e : 2 ^ (n + 1 + 1) = 2 ^ (n + 1) * 2 := Nat.pow_succ ..
  have hl : ks.length = 0 ∨ ks.length = 2 := by omega
  rw [H6]
  match ks, hl, h3 with
  | [], _, _ => rw [L5]; simp
  | [a, b], _, h3 =>
   have := A4V (h3 a zX)
   have := A4V (h3 b zX)
   simp only [L5, List.length_cons, List.length_nil]; omega
theorem B3K {k : Int} {ks us : List Ty} : ∀ {n : Nat}, P9 n (.mk k ks) → us.length = ks.length → (∀ u ∈ us, P9 (n - 1) u) → P9 n (.mk k us)
 | 0, h, hl, _ => by
  obtain ⟨rfl, h1, h2⟩ := h
  exact ⟨List.length_eq_zero_iff.1 (by simpa using hl), h1, h2⟩
 | n + 1, h, hl, hu => by
  obtain ⟨h1, h2, h3⟩ := h
  exact ⟨fun hk => by rw [hl]; exact h1 hk, fun a b => by rw [hl]; exact h2 a b, hu⟩
theorem A6i {k : Int} {ks : List Ty} {t : Ty} : ∀ {n : Nat}, P9 n (.mk k ks) → t ∈ ks → P9 (n - 1) t
 | 0, h, ht => by
  obtain ⟨rfl, h1, h2⟩ := h
  simp at ht
 | n + 1, h, ht => h.2.2 t ht
theorem A8L {k : Int} {ks : List Ty} {d : Int} (h : 4 < d ∨ U2 k ≠ ks.length) : L8 (.mk k ks) d = false := by
 rw [L8]
 rcases h with h | h
 ·rw [decide_eq_false zW]; rfl
 ·rw [decide_eq_false (p := U2 k = ks.length) h, Bool.and_false]; rfl
theorem A8M {k : Int} {ks : List Ty} {d : Int} (h : d ≤ 4) (h2 : U2 k = ks.length) : L8 (.mk k ks) d = Y7 ks (d + 1) := by
 rw [L8, decide_eq_true h, decide_eq_true h2]; rfl
theorem B3L {ks : List Ty} {d : Int} {i : Nat} (hi : i < ks.length) (h : L8 ks[i] d = false) : Y7 ks d = false := by
 cases hx : Y7 ks d with
 | false => rfl
 | true => rw [(A4H ks d).1 hx i hi] at h; cases h
theorem B3M : ∀ (t : Ty) (d : Int) (G : IM) (cells : List Value), 0 ≤ d ∧ d ≤ 4 → B8 G t cells →
  Fn Tryz.prog 190 [.agg ⟨cells⟩, .int .i64 d] [] G (J5 (.bool (L8 t (5 - d))) G) := by
 refine Ty.ind fun k ks ih d G cells hd hr => ?_
 obtain ⟨p, c, es, rfl, hk, hsl, hkl⟩ := hr.open
 simp only [Ty.k, Ty.ks] at hk hsl hkl ⊢
 have hn := hsl.le
 have hk1 := A8I k G
 refine C7 Tryz.func190 rfl Tryz.ntmps190 Tryz.results190 rfl ?_
 intro w0
 refine A4 ?_
 refine sE (D5 rfl rfl) rfl (fun b3 => ?_)
 refine A9 ?_
 refine D2 D3 rfl ?_
 refine H1 (i := 0) (l' := [tt,ff,ff,ff,ff,ff,ff,ff,ff,ff,ff]) rfl C8 (qM rfl) rfl zU rfl rfl ?_
 refine A0x (i := 1) (l' := [tt,tt,ff,ff,ff,ff,ff,ff,ff,ff,ff]) rfl C8 (K6 rfl rfl) rfl zU rfl rfl (fun h11 => ?_) (fun h11 => ?_)
 refine aP 2 rfl (qM rfl) rfl ?_
 refine B9 3 rfl rfl rfl ?_
 refine B9 4 rfl rfl rfl ?_
 refine B9 6 rfl rfl rfl ?_
 refine B9 7 rfl rfl rfl ?_
 refine B9 8 rfl rfl rfl ?_
 refine B9 5 rfl rfl rfl ?_
 refine B9 9 rfl rfl rfl ?_
 refine aP 10 rfl (M4 rfl rfl) rfl ?_
 refine I3 ?_
 (rw [A8L zW]; exact ⟨rfl, rfl, rfl⟩)
 refine aP 2 rfl (qM rfl) rfl ?_
 refine aP 3 rfl (C0 rfl) rfl ?_
 refine aL 4 rfl (D4 rfl rfl) rfl ?_
 refine aP 6 rfl (C0 rfl) rfl ?_
 refine aL 7 rfl (D4 rfl rfl) rfl ?_
 refine aP 8 rfl (pLn rfl rfl) rfl ?_
 refine A1 5 ?_
 refine L1 rfl rfl (hk1) rfl rfl rfl ?_
 refine A0x (i := 9) (l' := [tt,tt,tt,tt,tt,tt,tt,tt,tt,tt,ff]) rfl C8 (R7 rfl rfl) rfl zU rfl rfl (fun h41 => ?_) (fun h41 => ?_)
 refine aP 10 rfl (O2 rfl rfl) rfl ?_
 refine I3 ?_
 (rw [A8L zW]; exact ⟨rfl, rfl, rfl⟩)
 refine aP 10 rfl (O2 rfl rfl) rfl ?_
 refine I3 ?_
 refine C2 ?_
 (refine L4 (fun (i : Nat) => ⟨[(5, .int .i64 i), (2, .pointer (some ⟨b3, 0, none⟩)), (1, .int .i64 d)], [.blk b3 [.int .i64 k, .slice p ks.length c]], G⟩) (fun i => i ≤ ks.length ∧ ∀ j (h : j < ks.length), j < i → L8 ks[j] (5 - d + 1) = true) (fun i => ks.length - i) 0 ?_ ?_ ?_)
 exact E3
 exact ⟨by omega, by omega⟩
 (rintro i ⟨hi, hf⟩)
 refine B5 ?_
 refine sB (K6 rfl rfl) rfl rfl (fun h79 => ?_) (fun h79 => ?_)
 refine A7 ?_
 refine C2 ?_
 refine A9 ?_
 (obtain ⟨b, o, p2, c2, rfl, hat, hre, hgb⟩ := hsl.kidTy hkl (i := i) zW zW; refine sP (B1 rfl rfl rfl zW) rfl rfl ?_)
 refine sL (A5 rfl rfl (hat _) rfl) rfl rfl ?_
 refine F8 ?_
 refine sP (O7 rfl rfl zW zW) rfl rfl ?_
 (have hih := ih ks[i] (List.getElem_mem zW) (d - 1) G _ zW hre; rw [show 5 - (d - 1) = 5 - d + 1 by omega] at hih; refine J0 rfl hih rfl rfl (fun h96 => ?_) (fun h96 => ?_))
 refine D9 ?_
 refine sP (K9 rfl rfl zW zW) rfl rfl ?_
 refine A4 ?_
 refine K3 (i + 1) ?_ ?_ ?_
 exact E3
 exact ⟨by omega, fun j hj hji => by (by_cases he : j = i; (subst he; assumption); exact hf j hj zW)⟩
 omega
 refine N4 ?_
 (rw [A8M zW zW, B3L (i := i) zW zT]; exact ⟨rfl, rfl, rfl⟩)
 refine K4 ?_
 (rw [A8M zW zW, (A4H ks _).2 (fun j hj => hf j hj zW)]; exact ⟨rfl, rfl, rfl⟩)
theorem A0I (t : Ty) (G : IM) (cells : List Value) (hr : B8 G t cells) : Fn Tryz.prog 157 [.agg ⟨cells⟩] [] G (J5 (.bool (M1 t)) G) := by
 have hl := hr.len
 have hv := B3M t 4 G cells zW hr
 refine C7 Tryz.func157 rfl Tryz.ntmps157 Tryz.results157 rfl ?_
 intro w0
 refine A4 ?_
 refine sE (D5 rfl rfl) rfl (fun b3 => ?_)
 refine A9 ?_
 refine sL (A5 rfl rfl (B7 zP) zT) rfl rfl ?_
 refine E6 rfl (hv) rfl rfl ?_
 refine A9 ?_
 exact ⟨rfl, rfl, rfl⟩
theorem A3U {k : Int} {ks : List Ty} {d : Int} (h : L8 (.mk k ks) d = true) : U2 k = ks.length ∧ ∀ i, (hi : i < ks.length) → L8 ks[i] (d + 1) = true := by
 rw [L8] at h
 simp only [Bool.and_eq_true, decide_eq_true_eq] at h
 exact ⟨h.1.2, (A4H ks _).1 h.2⟩
theorem A4W {k k' : Int} {ks ks' : List Ty} (h : k = 1 ∨ k' = 1) : O8 (.mk k ks) (.mk k' ks') = true := by
 rw [V1]
 rcases h with h | h
 ·rw [decide_eq_true (p := k = 1) h]; rfl
 ·rw [decide_eq_true (p := k' = 1) h]; simp
theorem A8N {k k' : Int} {ks ks' : List Ty} (h : k ≠ 1) (h' : k' ≠ 1) (hk : k ≠ k') : O8 (.mk k ks) (.mk k' ks') = false := by
 rw [V1, decide_eq_false h, decide_eq_false h', decide_eq_false hk]; rfl
theorem A4X {k k' : Int} {ks ks' : List Ty} (h : k ≠ 1) (h' : k' ≠ 1) (hk : k = k') : O8 (.mk k ks) (.mk k' ks') = T0 ks ks' := by
 rw [V1, decide_eq_false h, decide_eq_false h', decide_eq_true hk]; rfl
theorem A8O {ks ks' : List Ty} {i : Nat} (hi : i < ks.length) (hi' : i < ks'.length) (h : O8 ks[i] ks'[i] = false) : T0 ks ks' = false := by
 cases hx : T0 ks ks' with
 | false => rfl
 | true => rw [((A2u ks ks').1 hx).2 i hi hi'] at h; cases h
theorem B3N : ∀ (t t' : Ty) (G : IM) (cells cells' : List Value) (d d' : Int), L8 t d = true → L8 t' d' = true → B8 G t cells → B8 G t' cells' →
  Fn Tryz.prog 101 [.agg ⟨cells⟩, .agg ⟨cells'⟩] [] G (J5 (.bool (O8 t t')) G) := by
 refine Ty.ind fun k ks ih t' G cells cells' d d' hv hv' hr hr' => ?_
 obtain ⟨k', ks'⟩ := t'
 obtain ⟨p, c, es, rfl, hk, hsl, hkl⟩ := hr.open
 obtain ⟨p', c', es', rfl, hk', hsl', hkl'⟩ := hr'.open
 simp only [Ty.k, Ty.ks] at hk hsl hkl hk' hsl' hkl' ⊢
 have hn := hsl.le
 have hn' := hsl'.le
 obtain ⟨hv1, hv2⟩ := A3U hv
 obtain ⟨hv1', hv2'⟩ := A3U hv'
 have hle : k = k' → ks.length = ks'.length := by rintro rfl; omega
 refine C7 Tryz.func101 rfl Tryz.ntmps101 Tryz.results101 rfl ?_
 intro w0
 refine A4 ?_
 refine sE (D5 rfl rfl) rfl (fun b3 => ?_)
 refine sE (D5 rfl rfl) rfl (fun b4 => ?_)
 refine E7 ?_
 refine sB (qE rfl rfl) rfl rfl (fun h13 => ?_) (fun h13 => ?_)
 refine N4 ?_
 (rw [A4W zW]; exact ⟨rfl, rfl, rfl⟩)
 refine B3 ?_
 refine sB (qE rfl rfl) rfl rfl (fun h34 => ?_) (fun h34 => ?_)
 refine N8 ?_
 (rw [A4W zW]; exact ⟨rfl, rfl, rfl⟩)
 refine J2 ?_
 refine sB (R7 rfl rfl) rfl rfl (fun h61 => ?_) (fun h61 => ?_)
 refine I3 ?_
 (rw [A8N zW zW zW]; exact ⟨rfl, rfl, rfl⟩)
 refine I3 ?_
 refine C2 ?_
 (have hll : ks.length = ks'.length := hle zW; refine L4 (fun (i : Nat) => ⟨[(5, .int .i64 i), (3, .pointer (some ⟨b4, 0, none⟩)), (2, .pointer (some ⟨b3, 0, none⟩))], [.blk b3 [.int .i64 k, .slice p ks.length c], .blk b4 [.int .i64 k', .slice p' ks'.length c']], G⟩) (fun i => i ≤ ks.length ∧ ∀ j (h : j < ks.length) (h' : j < ks'.length), j < i → O8 ks[j] ks'[j] = true) (fun i => ks.length - i) 0 ?_ ?_ ?_)
 exact E3
 exact ⟨by omega, by omega⟩
 (rintro i ⟨hi, hf⟩)
 refine B5 ?_
 refine sB (K6 rfl rfl) rfl rfl (fun h97 => ?_) (fun h97 => ?_)
 refine A7 ?_
 refine C2 ?_
 refine tS ?_
 (obtain ⟨b, o, p2, c2, rfl, hat, hre, hgb⟩ := hsl.kidTy hkl (i := i) zW zW; obtain ⟨b', o', p2', c2', rfl, hat', hre', hgb'⟩ := hsl'.kidTy hkl' (i := i) zW zW; refine D2 D3 rfl ?_)
 refine H1 (i := 0) (l' := [tt,ff,ff,ff,ff,ff,ff,ff,ff,ff,ff,ff]) rfl C8 (C0 rfl) rfl zU rfl rfl ?_
 refine aL 1 rfl (D4 rfl rfl) rfl ?_
 refine aP 2 rfl (qM rfl) rfl ?_
 refine aP 3 rfl (B1 rfl rfl rfl zW) rfl ?_
 refine aL 4 rfl (A5 rfl rfl (hat _) rfl) rfl ?_
 refine aP 5 rfl (C0 rfl) rfl ?_
 refine aL 6 rfl (D4 rfl rfl) rfl ?_
 refine aP 7 rfl (qM rfl) rfl ?_
 refine aP 8 rfl (B1 rfl rfl rfl zW) rfl ?_
 refine aL 9 rfl (A5 rfl rfl (hat' _) rfl) rfl ?_
 refine A1 10 ?_
 refine Q3 rfl rfl (ih ks[i] (List.getElem_mem zW) ks'[i] G _ _ _ _ (hv2 i zW) (hv2' i zW) hre hre') rfl rfl rfl (fun h118 => ?_) (fun h118 => ?_)
 refine aP 11 rfl (pNt rfl) rfl ?_
 refine E7 ?_
 refine sP (K9 rfl rfl zW zW) rfl rfl ?_
 refine A4 ?_
 refine K3 (i + 1) ?_ ?_ ?_
 exact E3
 exact ⟨by omega, fun j hj hj' hji => by (by_cases he : j = i; (subst he; assumption); exact hf j hj hj' zW)⟩
 omega
 refine aP 11 rfl (pNf rfl) rfl ?_
 refine K4 ?_
 (rw [A4X zW zW zW, A8O (i := i) zW zW zT]; exact ⟨rfl, rfl, rfl⟩)
 refine K4 ?_
 (rw [A4X zW zW zW, (A2u ks _).2 ⟨hll, fun j hj hj' => hf j hj hj' zW⟩]; exact ⟨rfl, rfl, rfl⟩)
section blaws
variable {P : Program} {Γ : L3} {env : M0} {hp : List A6} {G : IM} {ty : TypeId}
theorem A1H {x y : Operand} {t t' : TypeId} {i : L6} [hI : I1 P t i] (hd : i.desc = .bool) {r : Bool} (hx : evo env x = some (.bool r)) (hy : evo env y = some (.bool r)) :
  I5 P Γ ⟨env, hp, G⟩ (.binOp .neq t x y t') ty (.bool false) := by
 have h := A5O (P := P) (Γ := Γ) (hp := hp) (G := G) (t := t) (t' := t') (ty := ty) hd hx hy
 rwa [decide_eq_false zX] at h
theorem A8P {x y : Operand} {t t' : TypeId} {i : L6} [hI : I1 P t i] (hd : i.desc = .bool) (hx : evo env x = some (.bool true)) (hy : evo env y = some (.bool false)) :
  I5 P Γ ⟨env, hp, G⟩ (.binOp .neq t x y t') ty (.bool true) := A5O hd hx hy
theorem A6j {x y : Operand} {t t' : TypeId} {i : L6} [hI : I1 P t i] (hd : i.desc = .bool) (hx : evo env x = some (.bool false)) (hy : evo env y = some (.bool true)) :
  I5 P Γ ⟨env, hp, G⟩ (.binOp .neq t x y t') ty (.bool true) := A5O hd hx hy
end blaws
theorem B3O (n : Int) : ((1 ≤ A0o n ∧ A0o n ≤ 99) ↔ A0e n = true) := by
 unfold A0o A0e U1
 simp only [Bool.or_eq_true, decide_eq_true_eq]
 split
 ·omega
 ·split <;> omega
theorem B3P (k : Int) (nm : ByteArray) (num : Int) (ty fr : Ty) (lb : Int) (ks : List Tm) (G : IM) (cells : List Value) (hr : B6 G (.mk k nm num ty fr lb ks) cells) (R : Bool)
  (hi : R = true ↔ nm = ⟨#[]⟩ ∧ num = 0 ∧ (1 ≤ A0o lb ∧ A0o lb ≤ 99) ∧ M1 ty = true ∧ M1 fr = true ∧ O8 fr ty = true) :
  Fn Tryz.prog 110 [.agg ⟨cells⟩] [] G (J5 (.bool R) G) := by
 obtain ⟨tk, tks⟩ := ty
 obtain ⟨fk, fks⟩ := fr
 obtain ⟨pt, ct, pf, cf, p, c, es, rfl, hk, hnum, hlb, hty, hfr, hsl, hkl⟩ := hr.open9
 clear hr
 have o3 := A0I _ G _ hty
 have o4 := A0I _ G _ hfr
 have o6 := B3I lb G
 refine C7 Tryz.func110 rfl Tryz.ntmps110 Tryz.results110 rfl ?_
 intro w0
 refine A4 ?_
 refine sE (D5 rfl rfl) rfl (fun b3 => ?_)
 refine B5 ?_
 refine E6 rfl (o6) rfl rfl ?_
 refine B5 ?_
 refine sB (A1S rfl rfl) rfl rfl (fun h19 => ?_) (fun h19 => ?_)
 refine B3 ?_
 refine sB (qE rfl rfl) rfl rfl (fun h23 => ?_) (fun h23 => ?_)
 refine B3 ?_
 refine sB (A0W rfl rfl) rfl rfl (fun h27 => ?_) (fun h27 => ?_)
 refine B3 ?_
 refine sB (A0b rfl rfl) rfl rfl (fun h31 => ?_) (fun h31 => ?_)
 refine C3 ?_
 refine J0 rfl (o3) rfl rfl (fun h36 => ?_) (fun h36 => ?_)
 refine C3 ?_
 refine J0 rfl (o4) rfl rfl (fun h41 => ?_) (fun h41 => ?_)
 refine A7 ?_
 refine J0 rfl (B3N _ _ G _ _ _ _ zT zT hfr hty) rfl rfl (fun h48 => ?_) (fun h48 => ?_)
 refine A7 ?_
 exact ⟨rfl, by rw [hi.2 ⟨by (first | assumption | exact Classical.not_not.1 zT), by omega, by omega, by assumption, by assumption, by assumption⟩], rfl⟩
 refine A7 ?_
 exact ⟨rfl, by (cases R with | false => rfl | true => (exfalso; obtain ⟨i1, i2, i3, i4, i5, i6⟩ := hi.1 rfl; first | omega | (simp_all; done))), rfl⟩
 refine J2 ?_
 exact ⟨rfl, by (cases R with | false => rfl | true => (exfalso; obtain ⟨i1, i2, i3, i4, i5, i6⟩ := hi.1 rfl; first | omega | (simp_all; done))), rfl⟩
 refine X8 ?_
 exact ⟨rfl, by (cases R with | false => rfl | true => (exfalso; obtain ⟨i1, i2, i3, i4, i5, i6⟩ := hi.1 rfl; first | omega | (simp_all; done))), rfl⟩
 refine A2s ?_
 exact ⟨rfl, by (cases R with | false => rfl | true => (exfalso; obtain ⟨i1, i2, i3, i4, i5, i6⟩ := hi.1 rfl; first | omega | (simp_all; done))), rfl⟩
 refine A8a ?_
 exact ⟨rfl, by (cases R with | false => rfl | true => (exfalso; obtain ⟨i1, i2, i3, i4, i5, i6⟩ := hi.1 rfl; first | omega | (simp_all; done))), rfl⟩
 refine X9 ?_
 refine F8 ?_
 exact ⟨rfl, by (cases R with | false => rfl | true => (exfalso; obtain ⟨i1, i2, i3, i4, i5, i6⟩ := hi.1 rfl; first | omega | (simp_all; done))), rfl⟩
 refine X9 ?_
 refine A9 ?_
 exact ⟨rfl, by (cases R with | false => rfl | true => (exfalso; obtain ⟨i1, i2, i3, i4, i5, i6⟩ := hi.1 rfl; first | omega | (simp_all; done))), rfl⟩
theorem A8Q (k : Int) (nm : ByteArray) (num : Int) (ty fr : Ty) (lb : Int) (ks : List Tm) (G : IM) (cells : List Value) (hr : B6 G (.mk k nm num ty fr lb ks) cells) (R : Bool)
  (hi : R = true ↔ (k = 1 ∨ k = 5 → X3 nm = true) ∧ (¬(k = 1 ∨ k = 5) → nm = ⟨#[]⟩) ∧ (k = 5 ∨ k = 13 ∨ k = 14 → M1 ty = true) ∧ (¬(k = 5 ∨ k = 13 ∨ k = 14) → X2 ty = true) ∧ (k ≠ 14 → X2 fr = true ∧ lb = 0) ∧ (k = 2 → 0 ≤ num ∧ num ≤ 999) ∧ (k ≠ 2 → num = 0)) :
  Fn Tryz.prog 111 [.agg ⟨cells⟩] [] G (J5 (.bool R) G) := by
 have he : nm = ⟨#[]⟩ → X3 nm = false := by rintro rfl; rfl
 obtain ⟨tk, tks⟩ := ty
 obtain ⟨fk, fks⟩ := fr
 obtain ⟨pt, ct, pf, cf, p, c, es, rfl, hk, hnum, hlb, hty, hfr, hsl, hkl⟩ := hr.open9
 clear hr
 have o2 := B3H nm G
 have o3 := A0I _ G _ hty
 have o4 := A8J _ G _ hty
 have o7 := A8J _ G _ hfr
 refine C7 Tryz.func111 rfl Tryz.ntmps111 Tryz.results111 rfl ?_
 intro w0
 refine A4 ?_
 refine sE (D5 rfl rfl) rfl (fun b3 => ?_)
 refine B5 ?_
 refine sB (qE rfl rfl) rfl rfl (fun h11 => ?_) (fun h11 => ?_)
 refine N8 ?_
 refine sP (F0 rfl rfl zW) rfl rfl ?_
 refine B3 ?_
 refine sP (F0 rfl rfl zW) rfl rfl ?_
 refine C3 ?_
 refine sP (F0 rfl rfl zW) rfl rfl ?_
 refine I2 ?_
 refine J0 rfl (o2) rfl rfl (fun h44 => ?_) (fun h44 => ?_)
 refine sQ (A1H rfl rfl rfl) rfl ?_
 refine A1U ?_
 refine J0 rfl (o4) rfl rfl (fun h70 => ?_) (fun h70 => ?_)
 refine J2 ?_
 refine sP (A1C rfl rfl zW) rfl rfl ?_
 refine B3 ?_
 refine J0 rfl (o7) rfl rfl (fun h88 => ?_) (fun h88 => ?_)
 refine C3 ?_
 refine sB (R7 rfl rfl) rfl rfl (fun h93 => ?_) (fun h93 => ?_)
 refine J2 ?_
 exact ⟨rfl, zC, rfl⟩
 refine N8 ?_
 refine sP (F0 rfl rfl zW) rfl rfl ?_
 refine D9 ?_
 refine sB (qE rfl rfl) rfl rfl (fun h130 => ?_) (fun h130 => ?_)
 exact y3
 refine A9 ?_
 exact ⟨rfl, zC, rfl⟩
 refine X8 ?_
 exact ⟨rfl, zC, rfl⟩
 refine N1 ?_
 exact ⟨rfl, zC, rfl⟩
 refine sQ (A8P rfl rfl rfl) rfl ?_
 refine X9 ?_
 refine D9 ?_
 exact ⟨rfl, zC, rfl⟩
 refine B3 ?_
 refine sB (qE rfl rfl) rfl rfl (fun h221 => ?_) (fun h221 => ?_)
 refine E7 ?_
 refine sP (L9 rfl rfl zW) rfl rfl ?_
 refine A01 ?_
 refine J0 rfl (o2) rfl rfl (fun h250 => ?_) (fun h250 => ?_)
 refine sQ (A1H rfl rfl rfl) rfl ?_
 refine N1 ?_
 refine J0 rfl (o3) rfl rfl (fun h266 => ?_) (fun h266 => ?_)
 refine A2s ?_
 refine sP (A1C rfl rfl zW) rfl rfl ?_
 refine B3 ?_
 refine J0 rfl (o7) rfl rfl (fun h294 => ?_) (fun h294 => ?_)
 refine C3 ?_
 refine sB (R7 rfl rfl) rfl rfl (fun h299 => ?_) (fun h299 => ?_)
 refine J2 ?_
 exact ⟨rfl, zC, rfl⟩
 refine N8 ?_
 refine sP (F0 rfl rfl zW) rfl rfl ?_
 refine D9 ?_
 refine sB (qE rfl rfl) rfl rfl (fun h336 => ?_) (fun h336 => ?_)
 exact y3
 refine A9 ?_
 exact ⟨rfl, zC, rfl⟩
 refine X8 ?_
 exact ⟨rfl, zC, rfl⟩
 refine A1U ?_
 exact ⟨rfl, zC, rfl⟩
 refine sQ (A8P rfl rfl rfl) rfl ?_
 refine X9 ?_
 refine D9 ?_
 exact ⟨rfl, zC, rfl⟩
 refine E7 ?_
 refine sP (F0 rfl rfl zW) rfl rfl ?_
 refine B3 ?_
 refine sB (qE rfl rfl) rfl rfl (fun h446 => ?_) (fun h446 => ?_)
 refine K4 ?_
 refine J0 rfl (o2) rfl rfl (fun h462 => ?_) (fun h462 => ?_)
 refine sQ (A6j rfl rfl rfl) rfl ?_
 refine X9 ?_
 refine D9 ?_
 exact ⟨rfl, zC, rfl⟩
 refine sQ (A1H rfl rfl rfl) rfl ?_
 refine A7 ?_
 refine sB (A2p rfl rfl) rfl rfl (fun h511 => ?_) (fun h511 => ?_)
 refine X9 ?_
 refine A4 ?_
 exact ⟨rfl, zC, rfl⟩
 refine B5 ?_
 refine J0 rfl (o3) rfl rfl (fun h552 => ?_) (fun h552 => ?_)
 refine A2s ?_
 refine sP (A1C rfl rfl zW) rfl rfl ?_
 refine B3 ?_
 refine J0 rfl (o7) rfl rfl (fun h580 => ?_) (fun h580 => ?_)
 refine C3 ?_
 refine sB (R7 rfl rfl) rfl rfl (fun h585 => ?_) (fun h585 => ?_)
 refine J2 ?_
 exact ⟨rfl, zC, rfl⟩
 refine N8 ?_
 refine sP (F0 rfl rfl zW) rfl rfl ?_
 refine D9 ?_
 refine sB (qE rfl rfl) rfl rfl (fun h622 => ?_) (fun h622 => ?_)
 exact y3
 refine A9 ?_
 exact ⟨rfl, zC, rfl⟩
 refine X8 ?_
 exact ⟨rfl, zC, rfl⟩
 refine A1U ?_
 exact ⟨rfl, zC, rfl⟩
 refine C3 ?_
 refine sB (qE rfl rfl) rfl rfl (fun h683 => ?_) (fun h683 => ?_)
 refine I2 ?_
 refine J0 rfl (o2) rfl rfl (fun h694 => ?_) (fun h694 => ?_)
 refine sQ (A6j rfl rfl rfl) rfl ?_
 refine X9 ?_
 refine D9 ?_
 exact ⟨rfl, zC, rfl⟩
 refine sQ (A1H rfl rfl rfl) rfl ?_
 refine A7 ?_
 refine sB (A2p rfl rfl) rfl rfl (fun h743 => ?_) (fun h743 => ?_)
 refine X9 ?_
 refine A4 ?_
 exact ⟨rfl, zC, rfl⟩
 refine B5 ?_
 refine J0 rfl (o3) rfl rfl (fun h784 => ?_) (fun h784 => ?_)
 refine A2s ?_
 refine sP (A0Z rfl rfl zW) rfl rfl ?_
 refine A0c ?_
 refine sP (F0 rfl rfl zW) rfl rfl ?_
 refine D9 ?_
 refine sB (qE rfl rfl) rfl rfl (fun h840 => ?_) (fun h840 => ?_)
 exact y3
 refine A9 ?_
 exact ⟨rfl, zC, rfl⟩
 refine A1U ?_
 exact ⟨rfl, zC, rfl⟩
 refine I2 ?_
 refine J0 rfl (o2) rfl rfl (fun h888 => ?_) (fun h888 => ?_)
 refine sQ (A6j rfl rfl rfl) rfl ?_
 refine X9 ?_
 refine D9 ?_
 exact ⟨rfl, zC, rfl⟩
 refine sQ (A1H rfl rfl rfl) rfl ?_
 refine A7 ?_
 refine sB (A2p rfl rfl) rfl rfl (fun h937 => ?_) (fun h937 => ?_)
 refine X9 ?_
 refine A4 ?_
 exact ⟨rfl, zC, rfl⟩
 refine P6 ?_
 refine J0 rfl (o4) rfl rfl (fun h988 => ?_) (fun h988 => ?_)
 refine J2 ?_
 refine sP (A1C rfl rfl zW) rfl rfl ?_
 refine B3 ?_
 refine J0 rfl (o7) rfl rfl (fun h1006 => ?_) (fun h1006 => ?_)
 refine C3 ?_
 refine sB (R7 rfl rfl) rfl rfl (fun h1011 => ?_) (fun h1011 => ?_)
 refine J2 ?_
 exact ⟨rfl, zC, rfl⟩
 refine N8 ?_
 refine sB (qE rfl rfl) rfl rfl (fun h1038 => ?_) (fun h1038 => ?_)
 refine B5 ?_
 refine sB (A0W rfl rfl) rfl rfl (fun h1046 => ?_) (fun h1046 => ?_)
 refine B3 ?_
 refine sB (A0b rfl rfl) rfl rfl (fun h1050 => ?_) (fun h1050 => ?_)
 refine B5 ?_
 exact ⟨rfl, by rw [hi.2 ⟨fun _ => by (first | assumption | (exfalso; omega)), fun _ => zL, fun _ => by (first | assumption | (exfalso; omega)), fun _ => by (first | assumption | (exfalso; omega)), fun _ => ⟨by (first | assumption | (exfalso; omega)), by (first | assumption | omega)⟩, by omega, by omega⟩], rfl⟩
 refine B5 ?_
 exact ⟨rfl, zC, rfl⟩
 refine I3 ?_
 exact ⟨rfl, zC, rfl⟩
 refine D9 ?_
 refine sB (qE rfl rfl) rfl rfl (fun h1088 => ?_) (fun h1088 => ?_)
 exact y3
 refine A9 ?_
 exact ⟨rfl, zC, rfl⟩
 refine X8 ?_
 exact ⟨rfl, zC, rfl⟩
 refine N1 ?_
 exact ⟨rfl, zC, rfl⟩
mutual
def K8 (D N : Int) : Tm → Int → Bool
 | .mk k nm num ty fr lb ks, deep => decide (deep ≤ D) && decide (k ≠ N) && T3 k nm num ty fr lb ks.length && O1 D N ks (deep + 1)
def O1 (D N : Int) : List Tm → Int → Bool
 | [], _ => true
 | t :: ts, deep => K8 D N t deep && O1 D N ts deep
end
theorem A04 (D N : Int) : ∀ (ts : List Tm) (d : Int), O1 D N ts d = true ↔ ∀ i, (h : i < ts.length) → K8 D N ts[i] d = true
 | [], d => by simp [O1]
 | t :: ts, d => by
  simp only [O1, Bool.and_eq_true, A04 D N ts d]
  constructor
  ·rintro ⟨h1, h2⟩ i hi
   cases i with
   | zero => exact h1
   | succ i => exact h2 i (by simpa using hi)
  ·intro h
   exact ⟨h 0 zX, fun i hi => h (i + 1) (by simpa using hi)⟩
theorem A1g {D N : Int} {k : Int} {nm : ByteArray} {num : Int} {ty fr : Ty} {lb : Int} {ks : List Tm} {d : Int} (h : D < d ∨ k = N ∨ T3 k nm num ty fr lb ks.length = false) : K8 D N (.mk k nm num ty fr lb ks) d = false := by
 rw [K8]
 rcases h with h | h | h
 ·rw [decide_eq_false zW]; rfl
 ·rw [decide_eq_false (p := k ≠ N) zW, Bool.and_false]; rfl
 ·rw [h, Bool.and_false]; rfl
theorem A2w {D N : Int} {k : Int} {nm : ByteArray} {num : Int} {ty fr : Ty} {lb : Int} {ks : List Tm} {d : Int} (h1 : d ≤ D) (h2 : k ≠ N) (h3 : T3 k nm num ty fr lb ks.length = true) : K8 D N (.mk k nm num ty fr lb ks) d = O1 D N ks (d + 1) := by
 rw [K8, decide_eq_true h1, decide_eq_true h2, h3]; rfl
theorem A6k {D N : Int} {ks : List Tm} {d : Int} {i : Nat} (hi : i < ks.length) (h : K8 D N ks[i] d = false) : O1 D N ks d = false := by
 cases hx : O1 D N ks d with
 | false => rfl
 | true => rw [(A04 D N ks d).1 hx i hi] at h; cases h
theorem B3Q {k : Int} {nm : ByteArray} {num : Int} {ty fr : Ty} {lb : Int} {n : Nat} (hk : k = 14) (ha : F7 k = n) : T3 k nm num ty fr lb n = true ↔ nm = ⟨#[]⟩ ∧ num = 0 ∧ (1 ≤ A0o lb ∧ A0o lb ≤ 99) ∧ M1 ty = true ∧ M1 fr = true ∧ O8 fr ty = true := by
 rw [X4, B3O]
 simp only [U1, A0F, decide_eq_true_eq, Bool.and_eq_true]
 constructor
 ·rintro ⟨_, _, h3, _, h5, h6, _, h8, _⟩
  have h8 := h8 hk
  exact ⟨h3 zW, by have := h5 zW; omega, h8.2, h6 zW, h8.1.1.1, h8.1.2⟩
 ·rintro ⟨h1, h2, h3, h4, h5, h6⟩
  exact ⟨ha, fun h => absurd h zW, fun _ => h1, fun h => absurd h zW, fun _ => by omega, fun _ => h4, fun h => absurd h zW, fun _ => ⟨⟨⟨h5, h4⟩, h6⟩, h3⟩, fun h => absurd hk h⟩
theorem A8R {k : Int} {nm : ByteArray} {num : Int} {ty fr : Ty} {lb : Int} {n : Nat} (hk : k ≠ 14) (ha : F7 k = n) : T3 k nm num ty fr lb n = true ↔
  (k = 1 ∨ k = 5 → X3 nm = true) ∧ (¬(k = 1 ∨ k = 5) → nm = ⟨#[]⟩) ∧ (k = 5 ∨ k = 13 ∨ k = 14 → M1 ty = true) ∧ (¬(k = 5 ∨ k = 13 ∨ k = 14) → X2 ty = true) ∧ (k ≠ 14 → X2 fr = true ∧ lb = 0) ∧ (k = 2 → 0 ≤ num ∧ num ≤ 999) ∧ (k ≠ 2 → num = 0) := by
 rw [X4]
 simp only [U1, decide_eq_true_eq]
 constructor
 ·rintro ⟨_, h2, h3, h4, h5, h6, h7, _, h9⟩
  exact ⟨h2, h3, h6, h7, h9, h4, fun h => by have := h5 h; omega⟩
 ·rintro ⟨h2, h3, h6, h7, h9, h4, h5⟩
  exact ⟨ha, h2, h3, h4, fun h => by have := h5 h; omega, h6, h7, fun h => absurd h hk, h9⟩
theorem B3R : ∀ (t : Tm) (d : Int) (G : IM) (cells : List Value), 0 ≤ d ∧ d ≤ 40 → B6 G t cells →
  Fn Tryz.prog 57 [.agg ⟨cells⟩, .int .i64 d] [] G (J5 (.bool (K8 40 13 t (41 - d))) G) := by
 refine Tm.ind fun k nm num ty fr lb ks ih d G cells hd hr => ?_
 have hr0 := hr
 have h14 := fun h : k = 14 => @B3Q k nm num ty fr lb ks.length h
 have hne := fun h : k ≠ 14 => @A8R k nm num ty fr lb ks.length h
 have har := fun h : T3 k nm num ty fr lb ks.length = true => (X4.1 h).1
 obtain ⟨R, hR⟩ : ∃ R, T3 k nm num ty fr lb ks.length = R := ⟨_, rfl⟩
 rw [hR] at h14 hne har
 have hlo := B3P k nm num ty fr lb ks G cells hr0 R
 have hl2 := A8Q k nm num ty fr lb ks G cells hr0 R
 have hk1 := A4U k G
 obtain ⟨tk, tks⟩ := ty
 obtain ⟨fk, fks⟩ := fr
 obtain ⟨pt, ct, pf, cf, p, c, es, rfl, hk, hnum, hlb, hty, hfr, hsl, hkl⟩ := hr.open9
 have hn := hsl.le
 clear hr hr0
 refine C7 Tryz.func57 rfl Tryz.ntmps57 Tryz.results57 rfl ?_
 intro w0
 refine A4 ?_
 refine sE (D5 rfl rfl) rfl (fun b3 => ?_)
 refine A9 ?_
 refine D2 D3 rfl ?_
 refine H1 (i := 0) (l' := [tt,ff,ff,ff,ff,ff,ff,ff,ff,ff,ff,ff,ff,ff,ff,ff,ff,ff,ff,ff,ff,ff,ff,ff,ff,ff,ff,ff,ff,ff,ff,ff,ff,ff,ff,ff]) rfl C8 (qM rfl) rfl zU rfl rfl ?_
 refine A0x (i := 1) (l' := [tt,tt,ff,ff,ff,ff,ff,ff,ff,ff,ff,ff,ff,ff,ff,ff,ff,ff,ff,ff,ff,ff,ff,ff,ff,ff,ff,ff,ff,ff,ff,ff,ff,ff,ff,ff]) rfl C8 (K6 rfl rfl) rfl zU rfl rfl (fun h11 => ?_) (fun h11 => ?_)
 refine aP 2 rfl (qM rfl) rfl ?_
 refine B9 3 rfl rfl rfl ?_
 refine B9 4 rfl rfl rfl ?_
 refine B9 6 rfl rfl rfl ?_
 refine B9 7 rfl rfl rfl ?_
 refine B9 8 rfl rfl rfl ?_
 refine B9 5 rfl rfl rfl ?_
 refine B9 9 rfl rfl rfl ?_
 refine aP 10 rfl (M4 rfl rfl) rfl ?_
 refine aP 11 rfl (qM rfl) rfl ?_
 refine B9 12 rfl rfl rfl ?_
 refine B9 13 rfl rfl rfl ?_
 refine B9 14 rfl rfl rfl ?_
 refine aP 15 rfl (M4 rfl rfl) rfl ?_
 exact y2
 refine aP 2 rfl (qM rfl) rfl ?_
 refine aP 3 rfl (C0 rfl) rfl ?_
 refine aL 4 rfl (D4 rfl rfl) rfl ?_
 refine aP 6 rfl (C0 rfl) rfl ?_
 refine aL 7 rfl (D4 rfl rfl) rfl ?_
 refine aP 8 rfl (pLn rfl rfl) rfl ?_
 refine A1 5 ?_
 refine L1 rfl rfl (hk1) rfl rfl rfl ?_
 refine A0x (i := 9) (l' := [tt,tt,tt,tt,tt,tt,tt,tt,tt,tt,ff,ff,ff,ff,ff,ff,ff,ff,ff,ff,ff,ff,ff,ff,ff,ff,ff,ff,ff,ff,ff,ff,ff,ff,ff,ff]) rfl C8 (R7 rfl rfl) rfl zU rfl rfl (fun h66 => ?_) (fun h66 => ?_)
 refine aP 10 rfl (O2 rfl rfl) rfl ?_
 refine aP 11 rfl (qM rfl) rfl ?_
 refine B9 12 rfl rfl rfl ?_
 refine B9 13 rfl rfl rfl ?_
 refine B9 14 rfl rfl rfl ?_
 refine aP 15 rfl (M4 rfl rfl) rfl ?_
 exact y2
 refine aP 10 rfl (O2 rfl rfl) rfl ?_
 refine aP 11 rfl (qM rfl) rfl ?_
 refine aP 12 rfl (C0 rfl) rfl ?_
 refine aL 13 rfl (D4 rfl rfl) rfl ?_
 refine A0x (i := 14) (l' := [tt,tt,tt,tt,tt,tt,tt,tt,tt,tt,tt,tt,tt,tt,tt,ff,ff,ff,ff,ff,ff,ff,ff,ff,ff,ff,ff,ff,ff,ff,ff,ff,ff,ff,ff,ff]) rfl C8 (qE rfl rfl) rfl zU rfl rfl (fun h109 => ?_) (fun h109 => ?_)
 refine aP 15 rfl (O2 rfl rfl) rfl ?_
 exact y2
 refine aP 15 rfl (O2 rfl rfl) rfl ?_
 refine aP 16 rfl (qM rfl) rfl ?_
 refine aP 17 rfl (C0 rfl) rfl ?_
 refine aL 18 rfl (D4 rfl rfl) rfl ?_
 refine A0x (i := 19) (l' := [tt,tt,tt,tt,tt,tt,tt,tt,tt,tt,tt,tt,tt,tt,tt,tt,tt,tt,tt,tt,ff,ff,ff,ff,ff,ff,ff,ff,ff,ff,ff,ff,ff,ff,ff,ff]) rfl C8 (qE rfl rfl) rfl zU rfl rfl (fun h147 => ?_) (fun h147 => ?_)
 refine aP 20 rfl (qM rfl) rfl ?_
 refine aL 21 rfl (A3 rfl rfl) rfl ?_
 refine A1 22 ?_
 refine Q3 rfl rfl (hlo (h14 zW zW)) rfl rfl rfl (fun h151 => ?_) (fun h151 => ?_)
 refine aP 23 rfl (pNt rfl) rfl ?_
 refine aP 24 rfl (M4 rfl rfl) rfl ?_
 refine aP 25 rfl (O2 rfl rfl) rfl ?_
 refine aP 26 rfl (qM rfl) rfl ?_
 refine aP 27 rfl (C0 rfl) rfl ?_
 refine aL 28 rfl (D4 rfl rfl) rfl ?_
 refine aP 29 rfl (A0Z rfl rfl zW) rfl ?_
 refine aP 30 rfl (qM rfl) rfl ?_
 refine B9 31 rfl rfl rfl ?_
 refine B9 32 rfl rfl rfl ?_
 refine B9 33 rfl rfl rfl ?_
 refine aP 34 rfl (O2 rfl rfl) rfl ?_
 refine aP 35 rfl (O2 rfl rfl) rfl ?_
 refine I3 ?_
 refine C2 ?_
 (refine L4 (fun (i : Nat) => ⟨[(5, .int .i64 i), (2, .pointer (some ⟨b3, 0, none⟩)), (1, .int .i64 d)], [.blk b3 [.int .i64 k, .string nm, .int .i64 num, .int .i64 tk, .slice pt tks.length ct, .int .i64 fk, .slice pf fks.length cf, .int .i64 lb, .slice p ks.length c]], G⟩) (fun i => i ≤ ks.length ∧ ∀ j (h : j < ks.length), j < i → K8 40 13 ks[j] (41 - d + 1) = true) (fun i => ks.length - i) 0 ?_ ?_ ?_)
 exact E3
 exact ⟨by omega, by omega⟩
 (rintro i ⟨hi, hf⟩)
 refine B5 ?_
 refine sB (K6 rfl rfl) rfl rfl (fun h188 => ?_) (fun h188 => ?_)
 refine A7 ?_
 refine C2 ?_
 refine A9 ?_
 (obtain ⟨b, o, e, rfl, hl, hat, hre, hgb⟩ := hsl.kidTm hkl (i := i) zW zW; refine sP (B1 rfl rfl rfl zW) rfl rfl ?_)
 refine sL (A5 rfl rfl (hat _) hl) rfl rfl ?_
 refine F8 ?_
 refine sP (O7 rfl rfl zW zW) rfl rfl ?_
 (have hih := ih ks[i] (List.getElem_mem zW) (d - 1) G _ zW hre; rw [show 41 - (d - 1) = 41 - d + 1 by omega] at hih; refine J0 rfl hih rfl rfl (fun h205 => ?_) (fun h205 => ?_))
 refine D9 ?_
 refine sP (K9 rfl rfl zW zW) rfl rfl ?_
 refine A4 ?_
 refine K3 (i + 1) ?_ ?_ ?_
 exact E3
 exact ⟨by omega, fun j hj hji => by (by_cases he : j = i; (subst he; assumption); exact hf j hj zW)⟩
 omega
 refine N4 ?_
 (rw [A2w zW zW (hR.trans zT), A6k (i := i) zW zT]; exact ⟨rfl, rfl, rfl⟩)
 refine K4 ?_
 (rw [A2w zW zW (hR.trans zT), (A04 40 13 ks _).2 (fun j hj => hf j hj zW)]; exact ⟨rfl, rfl, rfl⟩)
 refine aP 23 rfl (pNf rfl) rfl ?_
 refine aP 24 rfl (M4 rfl rfl) rfl ?_
 refine aP 25 rfl (O2 rfl rfl) rfl ?_
 refine aP 26 rfl (qM rfl) rfl ?_
 refine B9 27 rfl rfl rfl ?_
 refine B9 28 rfl rfl rfl ?_
 refine B9 29 rfl rfl rfl ?_
 refine B9 30 rfl rfl rfl ?_
 refine B9 31 rfl rfl rfl ?_
 refine B9 32 rfl rfl rfl ?_
 refine B9 33 rfl rfl rfl ?_
 refine B9 34 rfl rfl rfl ?_
 refine aP 35 rfl (M4 rfl rfl) rfl ?_
 exact y4
 refine aP 20 rfl (qM rfl) rfl ?_
 refine B9 21 rfl rfl rfl ?_
 refine B9 22 rfl rfl rfl ?_
 refine B9 23 rfl rfl rfl ?_
 refine aP 24 rfl (O2 rfl rfl) rfl ?_
 refine aP 25 rfl (O2 rfl rfl) rfl ?_
 refine aP 26 rfl (qM rfl) rfl ?_
 refine aP 27 rfl (C0 rfl) rfl ?_
 refine aL 28 rfl (D4 rfl rfl) rfl ?_
 refine aP 29 rfl (A1C rfl rfl zW) rfl ?_
 refine aP 30 rfl (qM rfl) rfl ?_
 refine aL 31 rfl (A3 rfl rfl) rfl ?_
 refine A1 32 ?_
 refine Q3 rfl rfl (hl2 (hne zW zW)) rfl rfl rfl (fun h293 => ?_) (fun h293 => ?_)
 refine aP 33 rfl (pNt rfl) rfl ?_
 refine aP 34 rfl (M4 rfl rfl) rfl ?_
 refine aP 35 rfl (O2 rfl rfl) rfl ?_
 refine I3 ?_
 refine C2 ?_
 (refine L4 (fun (i : Nat) => ⟨[(5, .int .i64 i), (2, .pointer (some ⟨b3, 0, none⟩)), (1, .int .i64 d)], [.blk b3 [.int .i64 k, .string nm, .int .i64 num, .int .i64 tk, .slice pt tks.length ct, .int .i64 fk, .slice pf fks.length cf, .int .i64 lb, .slice p ks.length c]], G⟩) (fun i => i ≤ ks.length ∧ ∀ j (h : j < ks.length), j < i → K8 40 13 ks[j] (41 - d + 1) = true) (fun i => ks.length - i) 0 ?_ ?_ ?_)
 exact E3
 exact ⟨by omega, by omega⟩
 (rintro i ⟨hi, hf⟩)
 refine B5 ?_
 refine sB (K6 rfl rfl) rfl rfl (fun h320 => ?_) (fun h320 => ?_)
 refine A7 ?_
 refine C2 ?_
 refine A9 ?_
 (obtain ⟨b, o, e, rfl, hl, hat, hre, hgb⟩ := hsl.kidTm hkl (i := i) zW zW; refine sP (B1 rfl rfl rfl zW) rfl rfl ?_)
 refine sL (A5 rfl rfl (hat _) hl) rfl rfl ?_
 refine F8 ?_
 refine sP (O7 rfl rfl zW zW) rfl rfl ?_
 (have hih := ih ks[i] (List.getElem_mem zW) (d - 1) G _ zW hre; rw [show 41 - (d - 1) = 41 - d + 1 by omega] at hih; refine J0 rfl hih rfl rfl (fun h337 => ?_) (fun h337 => ?_))
 refine D9 ?_
 refine sP (K9 rfl rfl zW zW) rfl rfl ?_
 refine A4 ?_
 refine K3 (i + 1) ?_ ?_ ?_
 exact E3
 exact ⟨by omega, fun j hj hji => by (by_cases he : j = i; (subst he; assumption); exact hf j hj zW)⟩
 omega
 refine N4 ?_
 (rw [A2w zW zW (hR.trans zT), A6k (i := i) zW zT]; exact ⟨rfl, rfl, rfl⟩)
 refine K4 ?_
 (rw [A2w zW zW (hR.trans zT), (A04 40 13 ks _).2 (fun j hj => hf j hj zW)]; exact ⟨rfl, rfl, rfl⟩)
 refine aP 33 rfl (pNf rfl) rfl ?_
 refine aP 34 rfl (M4 rfl rfl) rfl ?_
 refine aP 35 rfl (O2 rfl rfl) rfl ?_
 exact y4
def N2 : Ty := .mk 2 []
def R8 : Ty := .mk 3 []
mutual
def H9 : Ty → Ty → Bool
 | .mk k ks, t => decide (k = t.k) && Z0 ks t.ks
def Z0 : List Ty → List Ty → Bool
 | [], [] => true
 | a :: xs, b :: ys => H9 a b && Z0 xs ys
 | _, _ => false
end
theorem A2x (k k' : Int) (ks ks' : List Ty) : H9 (.mk k ks) (.mk k' ks') = (decide (k = k') && Z0 ks ks') := by rw [H9]; rfl
mutual
theorem S3 : ∀ (a b : Ty), H9 a b = true ↔ a = b
 | .mk k ks, .mk k' ks' => by
  rw [A2x, Bool.and_eq_true, decide_eq_true_eq, A8S ks ks', Ty.mk.injEq]
theorem A8S : ∀ (xs ys : List Ty), Z0 xs ys = true ↔ xs = ys
 | [], [] => by simp [Z0]
 | [], b :: ys => by simp [Z0]
 | a :: xs, [] => by simp [Z0]
 | a :: xs, b :: ys => by
  rw [Z0, Bool.and_eq_true, S3 a b, A8S xs ys, List.cons.injEq]
end
theorem A3V (a : Ty) : H9 a a = true := (S3 a a).2 rfl
theorem A3W : ∀ (xs ys : List Ty), Z0 xs ys = true ↔ xs.length = ys.length ∧ ∀ i, (h : i < xs.length) → (h' : i < ys.length) → H9 xs[i] ys[i] = true
 | [], [] => by simp [Z0]
 | [], b :: ys => by simp [Z0]
 | a :: xs, [] => by simp [Z0]
 | a :: xs, b :: ys => by
  simp only [Z0, Bool.and_eq_true, A3W xs ys, List.length_cons]
  constructor
  ·rintro ⟨h1, h2, h3⟩
   refine ⟨by omega, fun i hi hi' => ?_⟩
   cases i with
   | zero => exact h1
   | succ i => exact h3 i (by simpa using hi) (by simpa using hi')
  ·rintro ⟨h1, h2⟩
   exact ⟨h2 0 zX zX, by omega, fun i hi hi' => h2 (i + 1) (by simpa using hi) (by simpa using hi')⟩

abbrev Cx := List (ByteArray × Ty)
def U4 (cx : Cx) (nm : ByteArray) : Nat → Option Ty
 | 0 => none
 | n + 1 => match cx[n]? with
  | some b => if b.1 = nm then some b.2 else U4 cx nm n
  | none => U4 cx nm n
def O9 (cx : Cx) (nm : ByteArray) : Option Ty := U4 cx nm cx.length
theorem A20 {cx : Cx} {nm x : ByteArray} {n : Nat} {t : Ty} (h : cx[n]? = some (x, t)) (he : x = nm) : U4 cx nm (n + 1) = some t := by
 rw [U4, h]; simp only [he, if_true]
theorem A21 {cx : Cx} {nm x : ByteArray} {n : Nat} {t : Ty} (h : cx[n]? = some (x, t)) (he : ¬x = nm) : U4 cx nm (n + 1) = U4 cx nm n := by
 rw [U4, h]; simp only [he, if_false]

mutual
def A0z : Ty → Ty → Ty
 | .mk k ks, b => if k = 1 then b else if b.k = 1 then .mk k ks else .mk k (A1X ks b.ks)
def A1X : List Ty → List Ty → List Ty
 | a :: xs, b :: ys => A0z a b :: A1X xs ys
 | _, _ => []
end
theorem A8T (k k' : Int) (ks ks' : List Ty) : A0z (.mk k ks) (.mk k' ks') = if k = 1 then .mk k' ks' else if k' = 1 then .mk k ks else .mk k (A1X ks ks') := by rw [A0z]; rfl
def Z1 (kind : Int) (t : Ty) : Option (Ty × Ty) :=
 if t.k = kind then some (t.ks.getD 0 B4, t.ks.getD 1 B4) else if t.k = 1 then some (Q5, Q5) else none
def O4 (cx : Cx) (k : Int) (nm : ByteArray) (ty : Ty) (h : List Ty) : Option (List Ty × Ty) :=
 if k = 1 then (match O9 cx nm with | some t => some ([], t) | none => none)
 else if k = 2 then some ([], N2)
 else if k = 3 ∨ k = 4 then some ([], R8)
 else if k = 5 then some ([], .mk 4 [ty, h.getD 0 B4])
 else if k = 6 then (match Z1 4 (h.getD 0 B4) with | some (a, b) => if O8 (h.getD 1 B4) a = true then some ([.mk 4 [a, b], a], b) else none | none => none)
 else if k = 7 ∨ k = 8 then (if O8 (h.getD 0 B4) N2 = true ∧ O8 (h.getD 1 B4) N2 = true then some ([N2, N2], if k = 8 then R8 else N2) else none)
 else if k = 9 then (if O8 (h.getD 0 B4) R8 = true ∧ O8 (h.getD 1 B4) (h.getD 2 B4) = true then some ([R8, A0z (h.getD 1 B4) (h.getD 2 B4), A0z (h.getD 1 B4) (h.getD 2 B4)], A0z (h.getD 1 B4) (h.getD 2 B4)) else none)
 else if k = 10 then some ([], .mk 5 [h.getD 0 B4, h.getD 1 B4])
 else if k = 13 then (if O8 (h.getD 0 B4) ty = true then some ([ty], ty) else none)
 else (match Z1 5 (h.getD 0 B4) with | some (a, b) => some ([.mk 5 [a, b]], if k = 12 then b else a) | none => none)
def V2 (cx : Cx) (k : Int) (nm : ByteArray) (ty : Ty) (h : List Ty) : Option (List Ty × Ty) := match O4 cx k nm ty h with
 | some (w, t) => if M1 t = true then some (w, t) else none
 | none => none
def Q8 : List Ty → List Ty → Bool
 | [], _ => true
 | a :: xs, b :: ys => H9 a b && Q8 xs ys
 | _ :: _, [] => false
def M7 (cx : Cx) (k : Int) (nm : ByteArray) (ty : Ty) : Cx := if k = 5 then cx ++ [(nm, ty)] else cx
mutual
def C5 (cx : Cx) : Tm → Option Ty
 | .mk k nm num ty fr lb ks => match J6 (M7 cx k nm ty) ks with
  | none => none
  | some h => if k = 14 then (if H9 (h.getD 0 B4) fr = true then some ty else none)
   else match V2 cx k nm ty h with
    | none => none
    | some (w, t) => if Q8 w h = true then some t else none
def J6 (cx : Cx) : List Tm → Option (List Ty)
 | [] => some []
 | t :: ts => match C5 cx t with
  | none => none
  | some u => match J6 cx ts with
   | none => none
   | some us => some (u :: us)
end
def Y1 (e : Tm) : Option Ty := if K2 e = true then C5 [] e else none
theorem B3S {D N : Int} {k : Int} {nm : ByteArray} {num : Int} {ty fr : Ty} {lb : Int} {ks : List Tm} {d : Int} (h : K8 D N (.mk k nm num ty fr lb ks) d = true) : d ≤ D ∧ ∀ i, (hi : i < ks.length) → K8 D N ks[i] (d + 1) = true := by
 rw [K8] at h
 simp only [Bool.and_eq_true, decide_eq_true_eq] at h
 exact ⟨h.1.1.1, (A04 D N ks _).1 h.2⟩
mutual
theorem A6l (M D N : Int) : ∀ (t : Tm) (deep c : Int), c ≤ M → ((R3 M D N t deep c).1 = true ↔ K8 D N t deep = true ∧ c + F4 t ≤ M)
 | .mk k nm num ty fr lb ks, deep, c, hc => by
  rw [R3, F4]
  by_cases h : c + 1 > M ∨ deep > D ∨ k = N ∨ T3 k nm num ty fr lb ks.length = false
  ·rw [if_pos h]
   constructor
   ·intro h; cases h
   ·rintro ⟨h1, h2⟩
    rcases h with h | h
    ·omega
    ·rw [A1g h] at h1; cases h1
  ·rw [if_neg h]
   have hn : T3 k nm num ty fr lb ks.length = true := by
    cases hx : T3 k nm num ty fr lb ks.length with
    | true => rfl
    | false => exact absurd (Or.inr (Or.inr (Or.inr hx))) h
   rw [A2w zW zW hn, A8U M D N ks (deep + 1) (c + 1) zW]
   constructor
   ·rintro ⟨a, b⟩; exact ⟨a, by omega⟩
   ·rintro ⟨a, b⟩; exact ⟨a, by omega⟩
theorem A8U (M D N : Int) : ∀ (ts : List Tm) (deep c : Int), c ≤ M → ((S1 M D N ts deep c).1 = true ↔ O1 D N ts deep = true ∧ c + H4 ts ≤ M)
 | [], deep, c, hc => by simp [S1, O1, H4]; omega
 | t :: ts, deep, c, hc => by
  have h0 := A6l M D N t deep c hc
  rw [S1, O1, H4, Bool.and_eq_true]
  by_cases h : (R3 M D N t deep c).1 = true
  ·rw [if_pos h, A8p M D N t deep c h, A8U M D N ts deep _ (h0.1 h).2]
   have := h0.1 h
   constructor
   ·rintro ⟨a, b⟩; exact ⟨⟨this.1, a⟩, by omega⟩
   ·rintro ⟨⟨_, a⟩, b⟩; exact ⟨a, by omega⟩
  ·rw [if_neg h]
   constructor
   ·intro h'; cases h'
   ·rintro ⟨⟨a, _⟩, b⟩
    exact absurd (h0.2 ⟨a, by omega⟩) h
end
theorem A1Y (t : Tm) : K2 t = true ↔ K8 40 13 t 1 = true ∧ F4 t ≤ 200 := by
 have := A6l 200 40 13 t 1 0 zW
 rw [K2, this]
 constructor
 ·rintro ⟨a, b⟩; exact ⟨a, by omega⟩
 ·rintro ⟨a, b⟩; exact ⟨a, by omega⟩
theorem A8V (D N : Int) : ∀ (t : Tm) (d : Int) (G : IM) (cells : List Value), d ≤ 40 → K8 D N t (D + 1 - d) = true → F4 t ≤ 4294967296 → B6 G t cells →
  Fn Tryz.prog 58 [.agg ⟨cells⟩, .int .i64 d] [] G (J5 (.int .i64 (F4 t : Int)) G) := by
 refine Tm.ind fun k nm num ty fr lb ks ih d G cells hd hv hcnt hr => ?_
 have hone := hr.one
 obtain ⟨hv1, hv2⟩ := B3S hv
 obtain ⟨tk, tks⟩ := ty
 obtain ⟨fk, fks⟩ := fr
 obtain ⟨pt, ct, pf, cf, p, c, es, rfl, hk, hnum, hlb, hty, hfr, hsl, hkl⟩ := hr.open9
 have hn := hsl.le
 clear hr
 rw [F4] at hcnt ⊢
 refine C7 Tryz.func58 rfl Tryz.ntmps58 Tryz.results58 rfl ?_
 intro w0
 refine A4 ?_
 refine sE (D5 rfl rfl) rfl (fun b3 => ?_)
 refine N1 ?_
 refine C2 ?_
 (refine L4 (fun (i : Nat) => ⟨[(6, .int .i64 i), (5, .int .i64 ((H4 (ks.take i) + 1 : Nat) : Int)), (2, .pointer (some ⟨b3, 0, none⟩)), (1, .int .i64 d)], [.blk b3 [.int .i64 k, .string nm, .int .i64 num, .int .i64 tk, .slice pt tks.length ct, .int .i64 fk, .slice pf fks.length cf, .int .i64 lb, .slice p ks.length c]], G⟩) (fun i => i ≤ ks.length) (fun i => ks.length - i) 0 ?_ ?_ ?_)
 exact E3
 exact Nat.zero_le _
 (rintro i hi)
 refine B5 ?_
 refine sB (K6 rfl rfl) rfl rfl (fun h30 => ?_) (fun h30 => ?_)
 refine A4 ?_
 refine sP (A72 rfl rfl zW) rfl rfl ?_
 refine B5 ?_
 refine C2 ?_
 refine A9 ?_
 (obtain ⟨b, o, e, rfl, hl, hat, hre, hgb⟩ := hsl.kidTm hkl (i := i) zW zW; have htk := A55 (ks := ks) (i := i) zW; refine sP (B1 rfl rfl rfl zW) rfl rfl ?_)
 refine sL (A5 rfl rfl (hat _) hl) rfl rfl ?_
 refine F8 ?_
 refine sP (O7 rfl rfl zW zW) rfl rfl ?_
 (have hvk := hv2 i zW; rw [show D + 1 - d + 1 = D + 1 - (d - 1) by omega] at hvk; refine E6 rfl (ih ks[i] (List.getElem_mem zW) (d - 1) G _ zW hvk zW hre) rfl rfl ?_)
 refine sP (K9 rfl rfl zW zW) rfl rfl ?_
 refine A7 ?_
 refine sP (K9 rfl rfl zW zW) rfl rfl ?_
 refine A4 ?_
 (refine K3 (i + 1) ?_ ?_ ?_; rw [show ((H4 (ks.take (i + 1)) + 1 : Nat) : Int) = ((H4 (ks.take i) + 1 : Nat) : Int) + (F4 ks[i] : Int) from by rw [A4N zW]; omega])
 exact E3
 omega
 omega
 refine A0n ?_
 (obtain rfl : i = ks.length := zW; rw [List.take_length]; exact ⟨rfl, rfl, rfl⟩)
theorem A8W (t : Tm) (G : IM) (cells : List Value) (hcnt : F4 t ≤ 4294967296) (hr : B6 G t cells) :
  Fn Tryz.prog 25 [.agg ⟨cells⟩] [] G (J5 (.bool (K2 t)) G) := by
 have hl := hr.len
 have hv := B3R t 40 G cells zW hr
 have hc := fun h => A8V 40 13 t 40 G cells zW h hcnt hr
 have hi := A1Y t
 obtain ⟨R, hR⟩ : ∃ R, K2 t = R := ⟨_, rfl⟩
 rw [hR] at hi ⊢
 refine C7 Tryz.func25 rfl Tryz.ntmps25 Tryz.results25 rfl ?_
 intro w0
 refine A4 ?_
 refine sE (D5 rfl rfl) rfl (fun b3 => ?_)
 refine A9 ?_
 refine sL (A5 rfl rfl (B7 zP) zT) rfl rfl ?_
 refine J0 rfl (hv) rfl rfl (fun h10 => ?_) (fun h10 => ?_)
 refine F8 ?_
 refine sL (A5 rfl rfl (B7 zP) zT) rfl rfl ?_
 refine E6 rfl (hc zT) rfl rfl ?_
 refine sB (A0b rfl rfl) rfl rfl (fun h14 => ?_) (fun h14 => ?_)
 refine A7 ?_
 exact ⟨rfl, by rw [hi.2 ⟨by assumption, by omega⟩], rfl⟩
 refine A7 ?_
 exact ⟨rfl, by (cases R with | false => rfl | true => (exfalso; have h0 := hi.1 rfl; first | omega | simp_all)), rfl⟩
 refine I2 ?_
 exact ⟨rfl, by (cases R with | false => rfl | true => (exfalso; have h0 := hi.1 rfl; first | omega | simp_all)), rfl⟩
theorem A4Y (t : Tm) : A0G t = true ↔ K8 12 14 t 1 = true ∧ F4 t ≤ 30 := by
 have := A6l 30 12 14 t 1 0 zW
 rw [A0G, this]
 constructor
 ·rintro ⟨a, b⟩; exact ⟨a, by omega⟩
 ·rintro ⟨a, b⟩; exact ⟨a, by omega⟩
theorem B3T : ∀ (t : Tm) (d : Int) (G : IM) (cells : List Value), 0 ≤ d ∧ d ≤ 12 → B6 G t cells →
  Fn Tryz.prog 193 [.agg ⟨cells⟩, .int .i64 d] [] G (J5 (.bool (K8 12 14 t (13 - d))) G) := by
 refine Tm.ind fun k nm num ty fr lb ks ih d G cells hd hr => ?_
 have hr0 := hr
 have hne := fun h : k ≠ 14 => @A8R k nm num ty fr lb ks.length h
 have har := fun h : T3 k nm num ty fr lb ks.length = true => (X4.1 h).1
 obtain ⟨R, hR⟩ : ∃ R, T3 k nm num ty fr lb ks.length = R := ⟨_, rfl⟩
 rw [hR] at hne har
 have hl2 := A8Q k nm num ty fr lb ks G cells hr0 R
 have hk1 := A4U k G
 obtain ⟨tk, tks⟩ := ty
 obtain ⟨fk, fks⟩ := fr
 obtain ⟨pt, ct, pf, cf, p, c, es, rfl, hk, hnum, hlb, hty, hfr, hsl, hkl⟩ := hr.open9
 have hn := hsl.le
 clear hr hr0
 refine C7 Tryz.func193 rfl Tryz.ntmps193 Tryz.results193 rfl ?_
 intro w0
 refine A4 ?_
 refine sE (D5 rfl rfl) rfl (fun b3 => ?_)
 refine A9 ?_
 refine D2 D3 rfl ?_
 refine H1 (i := 0) (l' := [tt,ff,ff,ff,ff,ff,ff,ff,ff,ff,ff,ff,ff,ff,ff,ff,ff,ff,ff,ff,ff]) rfl C8 (qM rfl) rfl zU rfl rfl ?_
 refine A0x (i := 1) (l' := [tt,tt,ff,ff,ff,ff,ff,ff,ff,ff,ff,ff,ff,ff,ff,ff,ff,ff,ff,ff,ff]) rfl C8 (K6 rfl rfl) rfl zU rfl rfl (fun h11 => ?_) (fun h11 => ?_)
 refine aP 2 rfl (qM rfl) rfl ?_
 refine B9 3 rfl rfl rfl ?_
 refine B9 4 rfl rfl rfl ?_
 refine B9 6 rfl rfl rfl ?_
 refine B9 7 rfl rfl rfl ?_
 refine B9 8 rfl rfl rfl ?_
 refine B9 5 rfl rfl rfl ?_
 refine B9 9 rfl rfl rfl ?_
 refine aP 10 rfl (M4 rfl rfl) rfl ?_
 exact y8
 refine aP 2 rfl (qM rfl) rfl ?_
 refine aP 3 rfl (C0 rfl) rfl ?_
 refine aL 4 rfl (D4 rfl rfl) rfl ?_
 refine aP 6 rfl (C0 rfl) rfl ?_
 refine aL 7 rfl (D4 rfl rfl) rfl ?_
 refine aP 8 rfl (pLn rfl rfl) rfl ?_
 refine A1 5 ?_
 refine L1 rfl rfl (hk1) rfl rfl rfl ?_
 refine A0x (i := 9) (l' := [tt,tt,tt,tt,tt,tt,tt,tt,tt,tt,ff,ff,ff,ff,ff,ff,ff,ff,ff,ff,ff]) rfl C8 (R7 rfl rfl) rfl zU rfl rfl (fun h51 => ?_) (fun h51 => ?_)
 refine aP 10 rfl (O2 rfl rfl) rfl ?_
 exact y8
 refine aP 10 rfl (O2 rfl rfl) rfl ?_
 refine aP 11 rfl (qM rfl) rfl ?_
 refine aP 12 rfl (C0 rfl) rfl ?_
 refine aL 13 rfl (D4 rfl rfl) rfl ?_
 refine A0x (i := 14) (l' := [tt,tt,tt,tt,tt,tt,tt,tt,tt,tt,tt,tt,tt,tt,tt,ff,ff,ff,ff,ff,ff]) rfl C8 (qE rfl rfl) rfl zU rfl rfl (fun h79 => ?_) (fun h79 => ?_)
 refine aP 15 rfl (O2 rfl rfl) rfl ?_
 refine aP 16 rfl (qM rfl) rfl ?_
 refine B9 17 rfl rfl rfl ?_
 refine B9 18 rfl rfl rfl ?_
 refine B9 19 rfl rfl rfl ?_
 refine aP 20 rfl (M4 rfl rfl) rfl ?_
 exact y4
 refine aP 15 rfl (O2 rfl rfl) rfl ?_
 refine aP 16 rfl (qM rfl) rfl ?_
 refine aL 17 rfl (A3 rfl rfl) rfl ?_
 refine A1 18 ?_
 refine Q3 rfl rfl (hl2 (hne zW zW)) rfl rfl rfl (fun h102 => ?_) (fun h102 => ?_)
 refine aP 19 rfl (pNt rfl) rfl ?_
 refine aP 20 rfl (O2 rfl rfl) rfl ?_
 refine I3 ?_
 refine C2 ?_
 (refine L4 (fun (i : Nat) => ⟨[(5, .int .i64 i), (2, .pointer (some ⟨b3, 0, none⟩)), (1, .int .i64 d)], [.blk b3 [.int .i64 k, .string nm, .int .i64 num, .int .i64 tk, .slice pt tks.length ct, .int .i64 fk, .slice pf fks.length cf, .int .i64 lb, .slice p ks.length c]], G⟩) (fun i => i ≤ ks.length ∧ ∀ j (h : j < ks.length), j < i → K8 12 14 ks[j] (13 - d + 1) = true) (fun i => ks.length - i) 0 ?_ ?_ ?_)
 exact E3
 exact ⟨by omega, by omega⟩
 (rintro i ⟨hi, hf⟩)
 refine B5 ?_
 refine sB (K6 rfl rfl) rfl rfl (fun h128 => ?_) (fun h128 => ?_)
 refine A7 ?_
 refine C2 ?_
 refine A9 ?_
 (obtain ⟨b, o, e, rfl, hl, hat, hre, hgb⟩ := hsl.kidTm hkl (i := i) zW zW; refine sP (B1 rfl rfl rfl zW) rfl rfl ?_)
 refine sL (A5 rfl rfl (hat _) hl) rfl rfl ?_
 refine F8 ?_
 refine sP (O7 rfl rfl zW zW) rfl rfl ?_
 (have hih := ih ks[i] (List.getElem_mem zW) (d - 1) G _ zW hre; rw [show 13 - (d - 1) = 13 - d + 1 by omega] at hih; refine J0 rfl hih rfl rfl (fun h145 => ?_) (fun h145 => ?_))
 refine D9 ?_
 refine sP (K9 rfl rfl zW zW) rfl rfl ?_
 refine A4 ?_
 refine K3 (i + 1) ?_ ?_ ?_
 exact E3
 exact ⟨by omega, fun j hj hji => by (by_cases he : j = i; (subst he; assumption); exact hf j hj zW)⟩
 omega
 refine N4 ?_
 (rw [A2w zW zW (hR.trans zT), A6k (i := i) zW zT]; exact ⟨rfl, rfl, rfl⟩)
 refine K4 ?_
 (rw [A2w zW zW (hR.trans zT), (A04 12 14 ks _).2 (fun j hj => hf j hj zW)]; exact ⟨rfl, rfl, rfl⟩)
 refine aP 19 rfl (pNf rfl) rfl ?_
 refine aP 20 rfl (O2 rfl rfl) rfl ?_
 exact y4
theorem A8X (t : Tm) (G : IM) (cells : List Value) (hcnt : F4 t ≤ 4294967296) (hr : B6 G t cells) :
  Fn Tryz.prog 170 [.agg ⟨cells⟩] [] G (J5 (.bool (A0G t)) G) := by
 have hl := hr.len
 have hv := B3T t 12 G cells zW hr
 have hc := fun h => A8V 12 14 t 12 G cells zW h hcnt hr
 have hi := A4Y t
 obtain ⟨R, hR⟩ : ∃ R, A0G t = R := ⟨_, rfl⟩
 rw [hR] at hi ⊢
 refine C7 Tryz.func170 rfl Tryz.ntmps170 Tryz.results170 rfl ?_
 intro w0
 refine A4 ?_
 refine sE (D5 rfl rfl) rfl (fun b3 => ?_)
 refine A9 ?_
 refine sL (A5 rfl rfl (B7 zP) zT) rfl rfl ?_
 refine J0 rfl (hv) rfl rfl (fun h10 => ?_) (fun h10 => ?_)
 refine F8 ?_
 refine sL (A5 rfl rfl (B7 zP) zT) rfl rfl ?_
 refine E6 rfl (hc zT) rfl rfl ?_
 refine sB (A0b rfl rfl) rfl rfl (fun h14 => ?_) (fun h14 => ?_)
 refine A7 ?_
 exact ⟨rfl, by rw [hi.2 ⟨by assumption, by omega⟩], rfl⟩
 refine A7 ?_
 exact ⟨rfl, by (cases R with | false => rfl | true => (exfalso; have h0 := hi.1 rfl; first | omega | simp_all)), rfl⟩
 refine I2 ?_
 exact ⟨rfl, by (cases R with | false => rfl | true => (exfalso; have h0 := hi.1 rfl; first | omega | simp_all)), rfl⟩
theorem Sw.same {hp hp' : List A6} {e : A6} (h : Sw hp e e hp') : hp' = hp := by
 generalize he : e = e' at h
 have : ∀ {hp e e' hp'}, Sw hp e e' hp' → e = e' → hp' = hp := by
  intro hp e e' hp' h
  induction h with
  | here => rintro rfl; rfl
  | there _ ih => intro he; rw [ih he]
 subst he
 exact this h rfl
section
variable {P : Program} {Γ : L3} {env : M0} {hp : List A6} {G : IM} {ty : TypeId}
theorem A8Y {d : Nat} {x y : Operand} {t el : TypeId} {i : L6} {sz by' : Nat} {zs : List Value} [hI : I1 P t i] {ie : L6} [hEl : I1 P el ie] (hd' : i.desc = .slice el) [hE : V6 P el sz by' zs] {p q : Option Addr} {c n m c2 : Nat} {cs news : List Value} {hp' : Option Addr → Nat → List A6}
  (hd : Nat.blt d Γ.n = true) (hx : evo env x = some (.slice p n c)) (hy : evo env y = some (.slice q m c2)) (hsz : Nat.blt 0 sz = true)
  (hm : ∀ p' c', Sw hp (.slc p c el sz n cs) (.slc p' c' el sz (n + m) (cs ++ news)) (hp' p' c'))
  (hS : Sl G q m c2 sz news) (h1 : ∀ u ∈ news, u.oneCell' = true) (hc : n ≤ c)
  (h63 : n + m ≤ maxLen) (hb : (n + m) * by' ≤ 140737488355328) :
  W3 P Γ ⟨env, hp, G⟩ (some d) (.call ⟨.builtin .append, ⟨[x, y]⟩, ⟨[t, t]⟩⟩) ty (J9 p) (fun σ' => ∃ p' c', σ' = ⟨(d, .slice p' (n + m) c') :: env, hp' p' c', G⟩) := by
 obtain ⟨hl, _, _, hat⟩ := hS
 rcases Nat.eq_zero_or_pos m with rfl | hm0
 ·obtain rfl : news = [] := List.length_eq_zero_iff.1 zW
  have hpu := B2R (P := P) (Γ := Γ) (hp := hp) (G := G) (ty := ty) (t := t) (el := el) hd' hx hy hc
  refine ⟨fun a w hs pos af gd Q next hn => ?_⟩
  simp only [Oper.wp, hpu.run a w hs, Oper.upon]
  refine hn _ _ _ (hs.put d _ (by simpa using hd) hs.res) (Ext.refl _ _) ⟨p, c, ?_⟩
  have h0 := hm p c
  simp only [Nat.add_zero, List.append_nil] at h0 ⊢
  rw [h0.same]
 ·obtain ⟨b, o, full, rfl, hg, hv⟩ := hat.resolve_left zW
  exact A5W hd' hd hx hy hsz hm (A4v hg hv) hl h1 h63 hb
variable {K : Po} {ops : Array Oper} {rest : List Oper} {pos : String} {af : Array Edge} {gd : Option (Nat × Bool)}
theorem B3U {d : Nat} {x y : Operand} {t el : TypeId} {i : L6} {sz by' : Nat} {zs : List Value} [hI : I1 P t i] {ie : L6} [hEl : I1 P el ie] [hE : V6 P el sz by' zs] {p q : Option Addr} {c n m c2 : Nat} {cs news : List Value} {hp' : Option Addr → Nat → List A6}
  (hd' : i.desc = .slice el) (hd : Nat.blt d Γ.n = true) (hx : evo env x = some (.slice p n c)) (hy : evo env y = some (.slice q m c2)) (hsz : Nat.blt 0 sz = true)
  (hm : ∀ p' c', Sw hp (.slc p c el sz n cs) (.slc p' c' el sz (n + m) (cs ++ news)) (hp' p' c'))
  (hS : Sl G q m c2 sz news) (h1 : ∀ u ∈ news, u.oneCell' = true) (hc : n ≤ c)
  (h63 : n + m ≤ maxLen) (hb : (n + m) * by' ≤ 140737488355328) (hw : M2 ops env gd = some true)
  (k : ∀ p' c', I4 P Γ ops rest K ⟨(d, .slice p' (n + m) c') :: env, hp' p' c', G⟩) : I4 P Γ ops (⟨some d, .call ⟨.builtin .append, ⟨[x, y]⟩, ⟨[t, t]⟩⟩, ty, pos, af, gd⟩ :: rest) K ⟨env, hp, G⟩ :=
 J1 (A8Y hd' hd hx hy hsz hm hS h1 hc h63 hb) hw (by rintro _ ⟨p', c', rfl⟩; exact k p' c')
theorem A22 {H : List (Nat × Nat)} {fuel : Nat} {listed l' : List Bool} {j d : Nat} {cs : List Value} {x y : Operand} {t el : TypeId} {i : L6} {sz by' : Nat} {zs : List Value} [hI : I1 P t i] {ie : L6} [hEl : I1 P el ie] [hE : V6 P el sz by' zs] {p q : Option Addr} {c n m c2 : Nat} {news : List Value} {hp' : Option Addr → Nat → List A6} {H' : List (Nat × Nat)}
  (hi : ops[j]? = some ⟨some d, .call ⟨.builtin .append, ⟨[x, y]⟩, ⟨[t, t]⟩⟩, ty, pos, af, gd⟩) (hd' : i.desc = .slice el)
  (hd : Nat.blt d Γ.n = true) (hx : evo env x = some (.slice p n c)) (hy : evo env y = some (.slice q m c2)) (hsz : Nat.blt 0 sz = true)
  (hm : ∀ p' c', Sw hp (.slc p c el sz n cs) (.slc p' c' el sz (n + m) (cs ++ news)) (hp' p' c'))
  (hS : Sl G q m c2 sz news) (h1 : ∀ u ∈ news, u.oneCell' = true) (hc : n ≤ c)
  (h63 : n + m ≤ maxLen) (hb : (n + m) * by' ≤ 140737488355328) (hw : M2 ops env gd = some true) (hl : listed.set j true = l')
  (hok : B2 ops j hp G (.slc p c el sz n cs) H H')
  (k : ∀ p' c', N0 P Γ ops K H' fuel l' ⟨(d, .slice p' (n + m) c') :: env, hp' p' c', G⟩) : T6 P Γ ops K H fuel listed j ⟨env, hp, G⟩ :=
 A3K hi (A8Y hd' hd hx hy hsz hm hS h1 hc h63 hb) hw hl (fun _ _ hs => hok.spec hs) hok.filter (by rintro _ ⟨p', c', rfl⟩; exact k p' c')
theorem Z2 {H H' : List (Nat × Nat)} {fuel : Nat} {listed l' : List Bool} {j d : Nat} {f : FuncId} [hF : C4 P f] {xs : List Operand} {ats : Array TypeId} {vs : List Value} {e : A6} {rst : List A6} {post : IM → Value → List A6 → Prop}
  (hi : ops[j]? = some ⟨some d, .call ⟨.value (.func f), ⟨xs⟩, ats⟩, ty, pos, af, gd⟩) (hx : evl env xs = some vs) (h : Fn P f vs [e] G post) (hp' : hp.Perm ([e] ++ rst)) (hw : M2 ops env gd = some true) (hd : Nat.blt d Γ.n = true) (hl : listed.set j true = l')
  (hok : B2 ops j hp G e H H')
  (k : ∀ v G' outs, C1 G G' → post G' v outs → N0 P Γ ops K H' fuel l' ⟨(d, v) :: env, outs ++ rst, G'⟩) : T6 P Γ ops K H fuel listed j ⟨env, hp, G⟩ :=
 A3K hi (A4y hx h hp' hd) hw hl (fun _ _ hs => by simpa [Fp] using hok.spec hs) hok.filter (by rintro _ ⟨v, G', outs, rfl, hle, hq⟩; exact k v G' outs hle hq)
end
section forget
variable {P : Program} {Γ : L3} {env : M0} {hp : List A6} {G : IM} {K : Po} {ops : Array Oper} {rest : List Oper} {ty : TypeId} {pos : String} {af : Array Edge} {gd : Option (Nat × Bool)}
end forget
def tAt : Tm → List Int → Option Tm
 | t, [] => some t
 | .mk _ _ _ _ _ _ ks, i :: is => if h : 0 ≤ i ∧ i < ks.length then tAt (ks[i.toNat]'zW) is else none
def z9 : List Value := [.int .i64 0, .string ⟨⟨[]⟩⟩, .int .i64 0, .int .i64 0, .slice none 0 0, .int .i64 0, .slice none 0 0, .int .i64 0, .slice none 0 0]
def AtP (t : Tm) (path : List Int) (G : IM) : IM → Value → List A6 → Prop := fun G' v outs => G' = G ∧ outs = [] ∧
 ((∃ x cells, tAt t path = some x ∧ B6 G x cells ∧ v = .tuple ⟨[.agg ⟨cells⟩, .bool true]⟩) ∨ (tAt t path = none ∧ v = .tuple ⟨[.agg ⟨z9⟩, .bool false]⟩))
def K5 : Tm := .mk 0 ⟨⟨[]⟩⟩ 0 (.mk 0 []) (.mk 0 []) 0 []
theorem Q4.zero (G : IM) : Q4 G K5 z9 [] := by
 simp only [K5, Q4, P0, M5, O6, z9]
 refine ⟨[.int .i64 0, .slice none 0 0], [.int .i64 0, .slice none 0 0], none, 0, [], [], [], [], rfl, ⟨by omega, by omega⟩, ⟨by omega, by omega⟩, ⟨by omega, by omega⟩, ?_, ?_, D0.nil _ _, ⟨rfl, rfl⟩, rfl, by simp [J9]⟩
 ·exact ⟨none, 0, [], [], rfl, ⟨by omega, by omega⟩, D0.nil _ _, ⟨rfl, rfl⟩, rfl, by simp [J9]⟩
 ·exact ⟨none, 0, [], [], rfl, ⟨by omega, by omega⟩, D0.nil _ _, ⟨rfl, rfl⟩, rfl, by simp [J9]⟩
def B8u (t : Tm) (path : List Int) : Tm × Bool := if K2 t = true then (match tAt t path with | some x => (x, true) | none => (K5, false)) else (K5, false)
def TbP (r : Tm × Bool) (G : IM) : IM → Value → List A6 → Prop := K1 fun G' v => ∃ cells F, v = .tuple ⟨[.agg ⟨cells⟩, .bool r.2]⟩ ∧ Q4 (D7 G' G) r.1 cells F ∧ F.Nodup
theorem B3V {b : Bool} (h : b = false) : ¬ b = true := by rw [h]; simp
structure A4Z {ι : Type} (S : ι → Sy) (φ : ι → Prop) (e : Exit) (σ : Sy) : Prop where
 run : match e with
  | .normal => ∃ i, φ i ∧ Sub σ (S i)
  | _ => False
section cut
variable {P : Program} {Γ : L3} {K : Po} {σ : Sy} {ι : Type}
theorem Z3 {c y : Code} (S : ι → Sy) (φ : ι → Prop) (h : I9 P Γ c (A4Z S φ) σ) (k : ∀ i, φ i → I9 P Γ y K (S i)) : I9 P Γ c (A0T P Γ y K) σ := by
 refine tri_post h ?_
 rintro e σ ⟨hk⟩
 cases e with
 | normal => obtain ⟨i, hi, hs⟩ := hk; exact ⟨A7P hs (k i hi)⟩
 | _ => exact hk.elim
where
 tri_post {c : Code} {K K' : Po} {σ : Sy} (h : I9 P Γ c K σ) (hk : ∀ e σ, K e σ → K' e σ) : I9 P Γ c K' σ := A5L h hk
theorem P1 {S : ι → Sy} {φ : ι → Prop} {σ : Sy} (i : ι) (hs : Sub σ (S i)) (h : φ i) : A4Z S φ .normal σ := ⟨⟨i, h, hs⟩⟩
theorem B3W {S : ι → Sy} {φ : ι → Prop} : X7 (A4Z S φ) := fun _ _ h => h.run
instance npC5 {S : ι → Sy} {φ : ι → Prop} : NpC (A4Z S φ) := ⟨B3W⟩
end cut
section take
variable {P : Program} {Γ : L3} {env : M0} {hp : List A6} {G : IM} {K : Po} {ops : Array Oper} {rest : List Oper} {ty : TypeId} {pos : String} {af : Array Edge} {gd : Option (Nat × Bool)}
theorem I0 {d : Nat} {f : FuncId} [hF : C4 P f] {xs : List Operand} {ats : Array TypeId} {vs : List Value} {ins rst : List A6} {post : IM → Value → List A6 → Prop}
  (hx : evl env xs = some vs) (h : Fn P f vs ins G post) (hp' : hp.Perm (ins ++ rst)) (hw : M2 ops env gd = some true) (hd : Nat.blt d Γ.n = true)
  (k : ∀ v G' outs, C1 G G' → post G' v outs → I4 P Γ ops rest K ⟨(d, v) :: env, outs ++ rst, G'⟩) : I4 P Γ ops (⟨some d, .call ⟨.value (.func f), ⟨xs⟩, ats⟩, ty, pos, af, gd⟩ :: rest) K ⟨env, hp, G⟩ :=
 J1 (A4y hx h hp' hd) hw (by rintro _ ⟨v, G', outs, rfl, hle, hq⟩; exact k v G' outs hle hq)
end take
theorem Z4 (G : IM) (br : Nat) (pb : Option Addr) (nb cb p : Nat) (bs : List UInt8) (q : Option Addr) (n c : Nat) (xs : List Value) (hb : Sl G pb nb cb 1 (N5 bs)) (hnb : nb ≤ 2000) (hp : p < 1099511627776) (hx : Sl G q n c 1 xs) (hn : 0 < n) :
  Fn Tryz.prog 106 [.pointer (some ⟨br, 0, none⟩), .slice q n c] [rd br pb nb cb p] G (fun G' v outs => G' = G ∧ outs = [rd br pb nb cb (p + 1)] ∧ v ∈ xs) := by
 refine C7 Tryz.func106 rfl Tryz.ntmps106 Tryz.results106 rfl ?_
 intro w0
 exact y7
theorem A6m (G : IM) (br : Nat) (pb : Option Addr) (nb cb p : Nat) (bs : List UInt8) (q : Option Addr) (n c : Nat) (xs : List Value) (hb : Sl G pb nb cb 1 (N5 bs)) (hnb : nb ≤ 2000) (hp : p < 1099511627776) (hx : Sl G q n c 1 xs) (hn : 0 < n) :
  Fn Tryz.prog 142 [.pointer (some ⟨br, 0, none⟩), .slice q n c] [rd br pb nb cb p] G (fun G' v outs => G' = G ∧ outs = [rd br pb nb cb (p + 1)] ∧ v ∈ xs) := by
 refine C7 Tryz.func142 rfl Tryz.ntmps142 Tryz.results142 rfl ?_
 intro w0
 exact y7
theorem A0J (G : IM) : Fn Tryz.prog 54 [] [] G (J5 (.agg ⟨[.int .i64 1, .slice none 0 0]⟩) G) := by
 refine C7 Tryz.func54 rfl Tryz.ntmps54 Tryz.results54 rfl ?_
 intro w0
 refine A4 ?_
 refine sE (A8 rfl) rfl (fun b3 => ?_)
 refine D9 ?_
 refine L0 (rC rfl (A3 rfl rfl)) ?_
 exact ⟨rfl, rfl, rfl⟩
def dB : Nat → Nat
 | 0 => 0
 | d + 1 => 2 * dB d + 2
theorem B3X {d : Nat} (h : d ≤ 3) : dB (d + 1) ≤ 30 := by
 have : d = 0 ∨ d = 1 ∨ d = 2 ∨ d = 3 := by omega
 rcases this with rfl | rfl | rfl | rfl <;> decide
theorem B3Y (k : Int) : U2 k ≤ 2 := by
 unfold U2; split <;> try split
 all_goals omega
theorem A23 : ∀ (ts : List Ty) (t : Ty), L5 (ts ++ [t]) = L5 ts + H6 t
 | [], t => by simp [L5]
 | a :: ts, t => by simp only [List.cons_append, L5, A23 ts t]; omega
theorem E9.ty {G : IM} {k : Int} {ts : List Ty} {es : List (List Value)} {p : Option Addr} {n c : Nat} (h : E9 G ts es) (hn : ts.length = n) (hs : Sl G p n c 2 es.flatten) (hk : E8 k) : B8 G (.mk k ts) [.int .i64 k, .slice p n c] := by
 subst hn
 simp only [B8]
 exact ⟨p, c, es, rfl, hk, D0.of hs h.len h.all (fun e he => (h.each e he).2), h⟩
theorem A3X (br : Nat) (pb : Option Addr) (nb cb : Nat) (bs : List UInt8) (hnb : nb ≤ 2000) : ∀ (d p : Nat) (G : IM), d ≤ 1000 → Sl G pb nb cb 1 (N5 bs) → p + dB (d + 1) < 1099511627776 →
  Fn Tryz.prog 144 [.pointer (some ⟨br, 0, none⟩), .int .i64 ((d + 1 : Nat) : Int)] [rd br pb nb cb p] G
   (Y9 br pb nb cb p (dB (d + 1)) (fun G' v => ∃ t cells, v = .agg ⟨cells⟩ ∧ B8 G' t cells ∧ H6 t ≤ ((dB (d + 1) : Nat) : Int) ∧ P9 d t)) := by
 refine fun d => Nat.strongRecOn d fun d ih p G hd hb hp => ?_
 rw [dB] at hp ⊢
 refine C7 Tryz.func144 rfl Tryz.ntmps144 Tryz.results144 rfl ?_
 intro w0
 refine A4 ?_
 refine sE (A8 rfl) rfl (fun b3 => ?_)
 refine A9 ?_
 (refine J1 (C9 rfl rfl rfl zW zR rfl) rfl ?_; rintro _ ⟨b9, rfl⟩)
 (refine S9 zN (fun G1 hle1 hsl1 _ => ?_); refine I0 rfl (Z4 G1 br pb nb cb p bs _ _ _ _ (hb.mono hle1) hnb zW hsl1 zV) (Pk.perm zN) rfl rfl (fun v G2 outs hle2 hh => ?_); obtain ⟨rfl, rfl, hv⟩ := hh; replace hb := hb.mono hle1; obtain ⟨k, rfl, hk1⟩ : ∃ k, v = .int .i64 k ∧ 1 ≤ k ∧ k ≤ 5 := (by simp only [List.mem_cons, List.not_mem_nil, or_false] at hv; rcases hv with rfl | rfl | rfl | rfl | rfl | rfl | rfl <;> exact ⟨_, rfl, by decide, by decide⟩))
 refine A9 ?_
 (have hv' := hv; refine Z3 (fun (x : Bool) => ⟨(16, .bool x) :: [(5, .int .i64 k), (4, .pointer (some ⟨b3, 0, none⟩)), (0, .pointer (some ⟨br, 0, none⟩)), (1, .int .i64 ((d + 1 : Nat) : Int))], [rd br pb nb cb (p + 1), .blk b3 [.int .i64 0, .slice none 0 0]], G2⟩) (fun x => x = false → d = 0 → k < 4) ?_ ?_)
 refine A4 ?_
 refine sB (K6 rfl rfl) rfl rfl (fun h19 => ?_) (fun h19 => ?_)
 refine A4 ?_
 refine sB (A0W rfl rfl) rfl rfl (fun h22 => ?_) (fun h22 => ?_)
 refine A4 ?_
 refine P1 true (O3 zM zI) ?_
 (show _ = false → d = 0 → k < 4; intro hf h0; first | exact absurd hf zV | omega)
 refine A4 ?_
 refine P1 false (O3 zM zI) ?_
 (show _ = false → d = 0 → k < 4; intro hf h0; first | exact absurd hf zV | omega)
 refine A9 ?_
 refine P1 false (O3 zM zI) ?_
 (show _ = false → d = 0 → k < 4; intro hf h0; first | exact absurd hf zV | omega)
 (rintro x hx; clear hv)
 (show I9 _ _ (.cond (.tmp 16) _ _) _ _; refine Z3 (fun (x : Int) => ⟨[(5, .int .i64 x), (4, .pointer (some ⟨b3, 0, none⟩)), (0, .pointer (some ⟨br, 0, none⟩)), (1, .int .i64 ((d + 1 : Nat) : Int))], [rd br pb nb cb (p + 1), .blk b3 [.int .i64 0, .slice none 0 0]], G2⟩) (fun x => 1 ≤ x ∧ x ≤ 5 ∧ (d = 0 → x < 4)) (A3C rfl (fun hxt => ?_) (fun hxf => ?_)) ?_)
 refine B3 ?_
 refine P1 1 (O3 zM zI) ?_
 (first | exact ⟨by omega, by omega, by omega⟩ | exact ⟨by omega, by omega, fun h0 => by have := hx hxf h0; omega⟩)
 refine tK ?_
 refine P1 k (O3 zM zI) ?_
 (first | exact ⟨by omega, by omega, by omega⟩ | exact ⟨by omega, by omega, fun h0 => by have := hx hxf h0; omega⟩)
 (rintro kk ⟨hk2, hk3, hk4⟩; have hop := B3Y kk; have hk5 := (M8 kk).1; have hk6 := (M8 kk).2.1; have hK := A8I kk)
 refine C3 ?_
 refine sE (A8 rfl) rfl (fun b53 => ?_)
 refine D9 ?_
 refine C2 ?_
 (refine X0 25 2 ?_; refine L4 (fun (x : Nat × Option Addr × Nat × List Ty × List (List Value) × Nat × IM) => ⟨[(7, .int .i64 x.1), (5, .int .i64 kk), (6, .pointer (some ⟨b53, 0, none⟩)), (4, .pointer (some ⟨b3, 0, none⟩)), (0, .pointer (some ⟨br, 0, none⟩)), (1, .int .i64 ((d + 1 : Nat) : Int))], [.blk b53 [.int .i64 kk, .slice x.2.1 x.1 x.2.2.1], .slc x.2.1 x.2.2.1 25 2 x.1 x.2.2.2.2.1.flatten, rd br pb nb cb x.2.2.2.2.2.1, .blk b3 [.int .i64 0, .slice none 0 0]], x.2.2.2.2.2.2⟩) (fun x => (∀ u ∈ x.2.2.2.1, P9 (d - 1) u) ∧ (x.1 : Int) ≤ U2 kk ∧ C1 G2 x.2.2.2.2.2.2 ∧ x.2.2.2.1.length = x.1 ∧ E9 x.2.2.2.2.2.2 x.2.2.2.1 x.2.2.2.2.1 ∧ L5 x.2.2.2.1 ≤ ((x.1 * dB d : Nat) : Int) ∧ p + 1 ≤ x.2.2.2.2.2.1 ∧ x.2.2.2.2.2.1 ≤ p + 1 + x.1 * dB d) (fun x => (U2 kk).toNat - x.1) (0, none, 0, [], [], p + 1, G2) ?_ ?_ ?_)
 (simp only [J7]; exact E3)
 (exact ⟨by simp, by dsimp only; omega, C1.refl _, rfl, by simp [E9], by simp [L5], by dsimp only; omega, by dsimp only; omega⟩)
 (rintro ⟨i, pn, cn, ts, es', p', Gi⟩ ⟨hah, hi, hle, hlt, hst, hsum, hq1, hq2⟩; simp only [] at hah hi hle hlt hst hsum hq1 hq2 ⊢; have hid : i * dB d ≤ 2 * dB d := Nat.mul_le_mul_right _ zW)
 refine A9 ?_
 refine E6 rfl ((hK _)) rfl rfl ?_
 refine sB (K6 rfl rfl) rfl rfl (fun h74 => ?_) (fun h74 => ?_)
 refine A7 ?_
 refine C2 ?_
 (obtain ⟨d', rfl⟩ : ∃ d', d = d' + 1 := ⟨d - 1, by omega⟩; have hih := ih d' zW p' Gi zW (hb.mono hle) (by have := Nat.mul_le_mul_right (dB (d' + 1)) (show i + 1 ≤ 2 by omega); rw [Nat.succ_mul] at this; omega); refine D2 D3 rfl ?_)
 refine H1 (i := 0) (l' := [tt,ff,ff,ff,ff,ff,ff,ff,ff,ff]) rfl C8 (C0 rfl) rfl zU rfl rfl ?_
 refine aL 1 rfl (D4 rfl rfl) rfl ?_
 refine aP 2 rfl (qM rfl) rfl ?_
 refine aP 3 rfl (qM rfl) rfl ?_
 refine aP 4 rfl (A1e rfl rfl zW) rfl ?_
 refine A1 5 ?_
 (refine Z2 (l' := [tt,tt,tt,tt,tt,tt,ff,ff,ff,ff]) rfl rfl hih (Pk.perm zN) rfl rfl rfl zG (fun v G3 outs hle3 hh => ?_); obtain ⟨p3, hp31, hp32, rfl, t3, cells3, rfl, hr3, hs3, ha3⟩ := hh; obtain ⟨q3, c3, es3, rfl, _⟩ := hr3.open)
 refine A1 6 ?_
 (refine D1 rfl (C9 rfl rfl rfl zW zR rfl) rfl rfl ?_; rintro _ ⟨b91, rfl⟩)
 refine A1 7 ?_
 refine T9 rfl rfl rfl rfl rfl rfl (fun _ _ => by repeat (first | exact Sw.here | apply Sw.there)) (R2 zP) rfl zQ zR zW rfl rfl zG (fun pn' cn' => ?_)
 refine aP 8 rfl (C0 rfl) rfl ?_
 refine A1 9 ?_
 refine N9 rfl rfl rfl rfl rfl rfl rfl rfl zU zO (by rfl) ?_
 refine A9 ?_
 refine sP (K9 rfl rfl zW zW) rfl rfl ?_
 refine A4 ?_
 refine K3 (i + 1, pn', cn', ts ++ [t3], es' ++ [[.int .i64 t3.k, .slice q3 t3.ks.length c3]], p3, G3) ?_ ?_ ?_
 (simp only [J7]; exact E3)
 (dsimp only; have e1 : (i + 1) * dB (d' + 1) = i * dB (d' + 1) + dB (d' + 1) := Nat.succ_mul _ _; have e2 := A23 ts t3; exact ⟨by simp only [List.forall_mem_append, List.forall_mem_singleton]; exact ⟨hah, ha3⟩, by omega, hle.trans hle3, by simp [hlt], E9.snoc (hst.mono hle3) hr3, by omega, by omega, by omega⟩)
 (show (U2 kk).toNat - (i + 1) < (U2 kk).toNat - i; omega)
 refine N1 ?_
 (refine F6 zN (fun G5 hle5 hsl5 hno5 => ?_))
 refine tT ?_
 refine H7 (outs := [rd br pb nb cb p']) (rC rfl (A3 rfl rfl)) zK ?_
 (refine ⟨p', by omega, by omega, rfl, .mk kk ts, _, rfl, (hst.mono hle5).ty hlt hsl5 ⟨by omega, by omega⟩, ?_, B3J hk4 zW hk2 hk3 hah⟩; rw [H6]; omega)
theorem A8Z (br : Nat) (pb : Option Addr) (nb cb : Nat) (bs : List UInt8) (hnb : nb ≤ 2000) (d p : Nat) (G : IM) (hd : d ≤ 1000) (hb : Sl G pb nb cb 1 (N5 bs)) (hp : p + dB (d + 1) < 1099511627776) :
  Fn Tryz.prog 144 [.pointer (some ⟨br, 0, none⟩), .int .i64 ((d + 1 : Nat) : Int)] [rd br pb nb cb p] G
   (Y9 br pb nb cb p (dB (d + 1)) (fun G' v => ∃ t cells, v = .agg ⟨cells⟩ ∧ B8 G' t cells ∧ H6 t ≤ ((dB (d + 1) : Nat) : Int))) :=
 (A3X br pb nb cb bs hnb d p G hd hb hp).mono fun G' v outs _ ⟨p', h1, h2, h3, t, cells, h4, h5, h6, _⟩ => ⟨p', h1, h2, h3, t, cells, h4, h5, h6⟩
theorem A80 (br : Nat) (pb : Option Addr) (nb cb : Nat) (bs : List UInt8) (hnb : nb ≤ 2000) (p : Nat) (G : IM) (hb : Sl G pb nb cb 1 (N5 bs)) (hp : p + 31 < 1099511627776) :
  Fn Tryz.prog 100 [.pointer (some ⟨br, 0, none⟩)] [rd br pb nb cb p] G
   (Y9 br pb nb cb p 31 (fun G' v => ∃ t cells, v = .agg ⟨cells⟩ ∧ B8 G' t cells ∧ H6 t ≤ 30 ∧ P9 3 t)) := by
 refine C7 Tryz.func100 rfl Tryz.ntmps100 Tryz.results100 rfl ?_
 intro w0
 refine A4 ?_
 refine sE (A8 rfl) rfl (fun b3 => ?_)
 refine A7 ?_
 (refine J1 (C9 rfl rfl rfl zW zR rfl) rfl ?_; rintro _ ⟨b10, rfl⟩)
 (refine S9 zN (fun G1 hle1 hsl1 _ => ?_); refine I0 rfl (Z4 G1 br pb nb cb p bs _ _ _ _ (hb.mono hle1) hnb zW hsl1 zV) (Pk.perm zN) rfl rfl (fun v G2 outs hle2 hh => ?_); obtain ⟨rfl, rfl, hv⟩ := hh; replace hb := hb.mono hle1; obtain ⟨d, rfl, hd⟩ : ∃ d : Nat, v = .int .i64 ((d + 1 : Nat) : Int) ∧ d ≤ 3 := (by simp only [List.mem_cons, List.not_mem_nil, or_false] at hv; rcases hv with rfl | rfl | rfl | rfl | rfl <;> first | exact ⟨0, rfl, by decide⟩ | exact ⟨1, rfl, by decide⟩ | exact ⟨2, rfl, by decide⟩ | exact ⟨3, rfl, by decide⟩))
 (have hdB := B3X hd; refine I0 rfl (A3X br pb nb cb bs hnb d (p + 1) G2 zW hb zW) (Pk.perm zN) rfl rfl (fun v G3 outs hle3 hh => ?_); obtain ⟨p3, hp31, hp32, rfl, t3, cells3, rfl, hr3, hs3, ha3⟩ := hh; obtain ⟨q3, c3, es3, rfl, _⟩ := hr3.open)
 refine C3 ?_
 refine H7 (outs := [rd br pb nb cb p3]) (rC rfl (A3 rfl rfl)) zK ?_
 exact ⟨p3, by omega, by omega, rfl, t3, _, rfl, hr3, by omega, ha3.le hd⟩
theorem A81 (br : Nat) (pb : Option Addr) (nb cb : Nat) (bs : List UInt8) (hnb : nb ≤ 2000) (p : Nat) (G : IM) (hb : Sl G pb nb cb 1 (N5 bs)) (hp : p + 31 < 1099511627776) :
  Fn Tryz.prog 100 [.pointer (some ⟨br, 0, none⟩)] [rd br pb nb cb p] G
   (Y9 br pb nb cb p 31 (fun G' v => ∃ t cells, v = .agg ⟨cells⟩ ∧ B8 G' t cells ∧ H6 t ≤ 30)) :=
 (A80 br pb nb cb bs hnb p G hb hp).mono fun G' v outs _ ⟨p', h1, h2, h3, t, cells, h4, h5, h6, _⟩ => ⟨p', h1, h2, h3, t, cells, h4, h5, h6⟩
theorem B3Z (k : Int) (ks : List Ty) (G : IM) (p : Option Addr) (c : Nat) (hts : (Ty.mk k ks).small) (hr : B8 G (.mk k ks) [.int .i64 k, .slice p ks.length c]) : Fn Tryz.prog 105 [.agg ⟨[.int .i64 k, .slice p ks.length c]⟩] [] G
  (fun G' v outs => ∃ p c es, v = .agg ⟨[.int .i64 k, .slice p ks.length c]⟩ ∧ outs = [.slc p c 25 2 ks.length es.flatten] ∧ E9 G' ks es) := by
 simp only [Ty.small] at hts
 obtain ⟨hsm, hks⟩ := hts
 obtain ⟨p', c', es, he, hk, hsl, hkl⟩ := hr.open
 simp only [Ty.k, Ty.ks, List.cons.injEq, Value.slice.injEq, true_and, and_true] at he hk hsl hkl
 obtain ⟨rfl, rfl⟩ := he
 have hn := hsl.le
 refine C7 Tryz.func105 rfl Tryz.ntmps105 Tryz.results105 rfl ?_
 intro w0
 refine A4 ?_
 refine sE (D5 rfl rfl) rfl (fun b3 => ?_)
 refine sE (A8 rfl) rfl (fun b4 => ?_)
 refine B5 ?_
 refine sE (A8 rfl) rfl (fun b12 => ?_)
 refine D9 ?_
 refine C2 ?_
 (refine X0 25 2 ?_; refine L4 (fun (x : Nat × Option Addr × Nat × List (List Value) × IM) => ⟨[(4, .int .i64 x.1), (3, .pointer (some ⟨b12, 0, none⟩)), (1, .pointer (some ⟨b3, 0, none⟩)), (2, .pointer (some ⟨b4, 0, none⟩))], [.blk b12 [.int .i64 k, .slice x.2.1 x.1 x.2.2.1], .slc x.2.1 x.2.2.1 25 2 x.1 x.2.2.2.1.flatten, .blk b4 [.int .i64 0, .slice none 0 0], .blk b3 [.int .i64 k, .slice p ks.length c]], x.2.2.2.2⟩) (fun x => x.1 ≤ ks.length ∧ C1 G x.2.2.2.2 ∧ E9 x.2.2.2.2 (ks.take x.1) x.2.2.2.1) (fun x => ks.length - x.1) (0, none, 0, [], G) ?_ ?_ ?_)
 (simp only [J7]; exact E3)
 exact ⟨by simp, C1.refl _, by simp [E9]⟩
 (rintro ⟨i, pn, cn, es', Gi⟩ ⟨hi, hle, hst⟩; simp only [] at hi hle hst ⊢; replace hsl := hsl.mono hle; replace hkl := hkl.mono hle)
 refine B5 ?_
 refine sB (K6 rfl rfl) rfl rfl (fun h34 => ?_) (fun h34 => ?_)
 refine A7 ?_
 refine C2 ?_
 (obtain ⟨b, o, p2, c2, rfl, hat, hre, hgb⟩ := hsl.kidTy hkl (i := i) zW zW; refine D2 D3 rfl ?_)
 refine H1 (i := 0) (l' := [tt,ff,ff,ff,ff,ff,ff,ff,ff,ff,ff,ff]) rfl C8 (C0 rfl) rfl zU rfl rfl ?_
 refine aL 1 rfl (D4 rfl rfl) rfl ?_
 refine aP 2 rfl (C0 rfl) rfl ?_
 refine aL 3 rfl (D4 rfl rfl) rfl ?_
 refine aP 4 rfl (qM rfl) rfl ?_
 refine aP 5 rfl (B1 rfl rfl rfl zW) rfl ?_
 refine aL 6 rfl (A5 rfl rfl (hat _) rfl) rfl ?_
 refine A1 7 ?_
 (refine E1 rfl rfl (P8 ks[i] _ _ (Ty.smallL_mem hks _ (List.getElem_mem zW)) hre) rfl rfl rfl (fun v G1 hle1 hh => ?_); obtain ⟨cells', F', rfl, hs', hnd'⟩ := hh; have hr' := hs'.R.mono (D7.le _ _); obtain ⟨p3, c3, es3, rfl, _⟩ := hr'.open)
 refine A1 8 ?_
 (refine D1 rfl (C9 rfl rfl rfl zW zR rfl) rfl rfl ?_; rintro _ ⟨b53, rfl⟩)
 refine A1 9 ?_
 refine T9 rfl rfl rfl rfl rfl rfl (fun _ _ => by repeat (first | exact Sw.here | apply Sw.there)) (R2 zP) rfl zQ zR zW rfl rfl zG (fun pn' cn' => ?_)
 refine aP 10 rfl (C0 rfl) rfl ?_
 refine A1 11 ?_
 refine N9 rfl rfl rfl rfl rfl rfl rfl rfl zU zO (by rfl) ?_
 refine A9 ?_
 refine sP (K9 rfl rfl zW zW) rfl rfl ?_
 refine A4 ?_
 refine K3 (i + 1, pn', cn', es' ++ [[.int .i64 ks[i].k, .slice p3 ks[i].ks.length c3]], G1) ?_ ?_ ?_
 (simp only [J7]; exact E3)
 (dsimp only; exact ⟨by omega, hle.trans hle1, by rw [List.take_succ_eq_append_getElem zW]; exact E9.snoc (hst.mono hle1) hr'⟩)
 (show ks.length - (i + 1) < ks.length - i; omega)
 refine K4 ?_
 (obtain rfl : i = ks.length := zW; refine H7 (outs := [.slc pn cn 25 2 ks.length es'.flatten]) (rC rfl (A3 rfl rfl)) zK ?_)
 (rw [List.take_length] at hst; exact ⟨pn, cn, es', rfl, rfl, hst⟩)
theorem A0K (G : IM) : B8 G Q5 [.int .i64 1, .slice none 0 0] := by
 simp only [Q5, B8]
 exact ⟨none, 0, [], rfl, ⟨by omega, by omega⟩, D0.of (Sl.nil _ _) rfl zX zX, by simp [E9]⟩
theorem A6n : H6 Q5 = 0 := rfl
theorem A82 (br : Nat) (pb : Option Addr) (nb cb : Nat) (bs : List UInt8) (hnb : nb ≤ 2000) (p : Nat) (G : IM) (hb : Sl G pb nb cb 1 (N5 bs)) (hp : p + 31 < 1099511627776) (t : Ty) (cells : List Value) (hr : B8 G t cells) (hsz : H6 t ≤ 30) :
  Fn Tryz.prog 107 [.pointer (some ⟨br, 0, none⟩), .agg ⟨cells⟩] [rd br pb nb cb p] G
   (Y9 br pb nb cb p 2 (fun G' v => ∃ t cells, v = .agg ⟨cells⟩ ∧ B8 G' t cells ∧ H6 t ≤ 38)) := by
 have hts := A2Y t zW
 obtain ⟨k, ks⟩ := t
 rw [H6] at hsz
 have hsn := A1c ks
 obtain ⟨q0, c0, es0, rfl, hk, _⟩ := hr.open
 simp only [Ty.k, Ty.ks] at hk hr ⊢
 refine C7 Tryz.func107 rfl Tryz.ntmps107 Tryz.results107 rfl ?_
 intro w0
 refine A4 ?_
 refine sE (D5 rfl rfl) rfl (fun b3 => ?_)
 refine sE (A8 rfl) rfl (fun b4 => ?_)
 refine A9 ?_
 (refine A4D rfl (B3Z k ks G q0 c0 hts hr) rfl rfl (fun v G1 outs hle1 hh => ?_); obtain ⟨q, c, es, rfl, rfl, hst⟩ := hh)
 refine sE (A8 rfl) rfl (fun b11 => ?_)
 refine B5 ?_
 (refine I0 rfl (S2 G1 br pb nb cb p bs 40 (hb.mono hle1) hnb zW) (Pk.perm zN) rfl rfl (fun v G2 outs hle2 hh => ?_); obtain ⟨rfl, rfl, j, rfl, hj0, hj1⟩ := hh; replace hb := hb.mono hle1)
 refine A4 ?_
 (show I9 _ _ (.block 0 _) _ _; refine Z3 (fun (x : Ty × Option Addr × Nat × Nat × IM) => ⟨[(5, .pointer (some ⟨b11, 0, none⟩)), (4, .pointer (some ⟨b4, 0, none⟩))], [.blk b11 [.int .i64 x.1.k, .slice x.2.1 x.1.ks.length x.2.2.1], .blk b4 [.int .i64 0, .slice none 0 0], rd br pb nb cb x.2.2.2.1], x.2.2.2.2⟩) (fun x => C1 G2 x.2.2.2.2 ∧ B8 x.2.2.2.2 x.1 [.int .i64 x.1.k, .slice x.2.1 x.1.ks.length x.2.2.1] ∧ H6 x.1 ≤ 38 ∧ p ≤ x.2.2.2.1 ∧ x.2.2.2.1 ≤ p + 2) ?_ ?_)
 refine C2 (tS (tR (sB (qE rfl rfl) rfl rfl (fun h26 => ?_) (fun h26 => ?_))))
 refine A7 ?_
 (refine J1 (C9 rfl rfl rfl zW zR rfl) rfl ?_; rintro _ ⟨b33, rfl⟩)
 (refine S9 zN (fun G3 hle3 hsl3 _ => ?_); refine S9 zN (fun G4 hle4 hsl4 _ => ?_); refine I0 rfl (Z4 G4 br pb nb cb (p + 1) bs _ _ _ _ (hb.mono (hle3.trans hle4)) hnb zW (hsl3.mono hle4) zV) (Pk.perm zN) rfl rfl (fun v G5 outs hle5 hh => ?_); obtain ⟨rfl, rfl, hv⟩ := hh; obtain ⟨k', rfl, hk'⟩ : ∃ k', v = .int .i64 k' ∧ E8 k' := (by simp only [List.mem_cons, List.not_mem_nil, or_false] at hv; rcases hv with rfl | rfl | rfl | rfl | rfl <;> exact ⟨_, rfl, by unfold E8; omega⟩))
 refine C3 ?_
 refine P1 (.mk k' ks, q, c, p + 2, G5) ?_ ?_
 (simp only [J7]; exact E3)
 (dsimp only; exact ⟨hle3.trans hle4, (hst.mono (hle3.trans hle4)).ty rfl hsl4 hk', by (rw [H6]; omega), by omega, by omega⟩)
 refine A7 ?_
 refine sB (qE rfl rfl) rfl rfl (fun h48 => ?_) (fun h48 => ?_)
 refine C3 ?_
 refine D2 D3 rfl ?_
 refine H1 (i := 0) (l' := [tt,ff,ff,ff,ff,ff,ff]) rfl C8 (C0 rfl) rfl zU rfl rfl ?_
 refine aL 1 rfl (D4 rfl rfl) rfl ?_
 refine A1 2 ?_
 refine L1 rfl rfl ((A0J _)) rfl rfl rfl ?_
 refine A1 3 ?_
 (refine D1 rfl (C9 rfl rfl rfl zW zR rfl) rfl rfl ?_; rintro _ ⟨b59, rfl⟩)
 refine A1 4 ?_
 refine T9 rfl rfl rfl rfl rfl rfl (fun _ _ => by repeat (first | exact Sw.here | apply Sw.there)) (R2 zP) rfl zQ zR zW rfl rfl zG (fun qn cn => ?_)
 (refine A4C (cs := es.flatten ++ [.int .i64 1, .slice none 0 0]) zN (fun G6 hle6 hsl6 _ => ?_))
 refine aP 5 rfl (C0 rfl) rfl ?_
 refine A1 6 ?_
 refine N9 rfl rfl rfl rfl rfl rfl rfl rfl zU zO (by rfl) ?_
 refine A4 ?_
 refine P1 (.mk k (ks ++ [Q5]), qn, cn, p + 1, G6) (by rw [show (Ty.mk k (ks ++ [Q5])).ks.length = ks.length + 1 from by simp [Ty.ks]]; exact E3) ?_
 (dsimp only; refine ⟨hle6, E9.ty (ts := ks ++ [Q5]) (es := es ++ [[.int .i64 1, .slice none 0 0]]) (E9.snoc (hst.mono hle6) (A0K _)) rfl (by simpa [Ty.ks] using hsl6) hk, ?_, by omega, by omega⟩; rw [H6, A23, A6n, List.length_append]; simp only [List.length_singleton]; omega)
 refine A7 ?_
 refine sB (qE rfl rfl) rfl rfl (fun h76 => ?_) (fun h76 => ?_)
 refine D9 ?_
 refine C2 ?_
 (refine A0y zN (fun G3 hle3 hsl3 _ => ?_); refine L4 (fun (x : Nat × Ty × Option Addr × Nat × IM) => ⟨[(6, .int .i64 x.1), (5, .pointer (some ⟨b11, 0, none⟩)), (4, .pointer (some ⟨b4, 0, none⟩))], [.blk b11 [.int .i64 x.2.1.k, .slice x.2.2.1 x.2.1.ks.length x.2.2.2.1], .blk b4 [.int .i64 0, .slice none 0 0], rd br pb nb cb (p + 1)], x.2.2.2.2⟩) (fun x => x.1 ≤ 4 ∧ C1 G3 x.2.2.2.2 ∧ B8 x.2.2.2.2 x.2.1 [.int .i64 x.2.1.k, .slice x.2.2.1 x.2.1.ks.length x.2.2.2.1] ∧ H6 x.2.1 ≤ 30 + 2 * x.1) (fun x => 4 - x.1) (0, .mk k ks, q, c, G3) ?_ ?_ ?_)
 (simp only [J7]; exact E3)
 (dsimp only; exact ⟨by omega, C1.refl _, (hst.mono hle3).ty rfl hsl3 hk, by (rw [H6]; omega)⟩)
 (rintro ⟨i, ⟨tk, tks⟩, qi, ci, Gi⟩ ⟨hi, hlei, hri, hsi⟩; simp only [Ty.k, Ty.ks] at hi hlei hri hsi ⊢)
 refine C3 ?_
 refine sB (K6 rfl rfl) rfl rfl (fun h95 => ?_) (fun h95 => ?_)
 refine A7 ?_
 refine C2 ?_
 refine D2 D3 rfl ?_
 refine M3 (i := 1) (l' := [ff,tt,ff,ff,ff]) rfl C8 (A3 rfl rfl) rfl zU rfl rfl ?_
 refine A1 0 ?_
 refine L1 rfl rfl ((A0J _)) rfl rfl rfl ?_
 refine A1 2 ?_
 (refine D1 rfl (C9 rfl rfl rfl zW zR rfl) rfl rfl ?_; rintro _ ⟨b108, rfl⟩)
 (refine A4C (cs := [.int .i64 1, .slice none 0 0, .int .i64 tk, .slice qi tks.length ci]) zN (fun G7 hle7 hsl7 _ => ?_))
 refine aP 3 rfl (N7 rfl rfl) rfl ?_
 refine A1 4 ?_
 refine N9 rfl rfl rfl rfl rfl rfl rfl rfl zU zO (by rfl) ?_
 refine A9 ?_
 refine sP (K9 rfl rfl zW zW) rfl rfl ?_
 refine A4 ?_
 refine K3 (i + 1, .mk 4 [Q5, .mk tk tks], some ⟨b108, 0, none⟩, 2, G7) ?_ ?_ ?_
 (simp only [J7]; exact E3)
 (dsimp only; refine ⟨by omega, hlei.trans hle7, E9.ty (ts := [Q5, .mk tk tks]) (es := [[.int .i64 1, .slice none 0 0], [.int .i64 tk, .slice qi tks.length ci]]) ⟨_, _, rfl, A0K _, _, _, rfl, hri.mono hle7, rfl⟩ rfl hsl7 ⟨by omega, by omega⟩, ?_⟩; rw [H6, L5, L5, L5, A6n]; simp only [List.length_cons, List.length_nil]; omega)
 (show 4 - (i + 1) < 4 - i; omega)
 refine E7 ?_
 refine P1 (.mk tk tks, qi, ci, p + 1, Gi) ?_ ?_
 (simp only [J7]; exact E3)
 (dsimp only; exact ⟨hle3.trans hlei, hri, by omega, by omega, by omega⟩)
 refine C3 ?_
 (refine A0y zN (fun G8 hle8 hsl8 _ => ?_); refine tK ?_)
 refine F8 ?_
 refine P1 (.mk k ks, q, c, p + 1, G8) ?_ ?_
 (simp only [J7]; exact E3)
 (dsimp only; exact ⟨hle8, (hst.mono hle8).ty rfl hsl8 hk, by (rw [H6]; omega), by omega, by omega⟩)
 (rintro ⟨t', q', c', p', G'⟩ ⟨hle9, hr9, hs9, hp9, hp9'⟩; simp only [] at hle9 hr9 hs9 hp9 hp9' ⊢)
 refine B5 ?_
 refine H7 (outs := [rd br pb nb cb p']) (rC rfl (A3 rfl rfl)) zK ?_
 (exact ⟨p', by omega, by omega, rfl, t', _, rfl, hr9, by omega⟩)
mutual
def B30 : Tm → Tm
 | .mk k nm num ty fr lb ks => if k = 13 ∨ k = 14 then (A6o ks).headD K5 else .mk k nm num (if k = 5 then Q5 else B4) B4 0 (A6o ks)
def A6o : List Tm → List Tm
 | [] => []
 | t :: ts => B30 t :: A6o ts
end
def B8v : Tm → Tm
 | .mk k nm num ty fr lb ks => if k = 13 ∨ k = 14 then ks.headD K5 else if k = 5 then .mk k nm num Q5 fr lb ks else .mk k nm num ty fr lb ks
def B8w : Tm → Prop
 | .mk k _ _ _ _ _ ks => k = 13 ∨ k = 14 → ks ≠ []
theorem A2y {t : Ty} (h : X2 t = true) : t = B4 := by
 obtain ⟨k, ks⟩ := t
 obtain ⟨h1, h2⟩ : (Ty.mk k ks).k = 0 ∧ (Ty.mk k ks).ks.length = 0 := of_decide_eq_true h
 simp only [Ty.k, Ty.ks] at h1 h2
 have h3 : ks = [] := List.length_eq_zero_iff.1 zW
 rw [h3, B4]
 congr
theorem Z5 {D N : Int} {k : Int} {nm : ByteArray} {num : Int} {ty fr : Ty} {lb : Int} {ks : List Tm} {d : Int} (h : K8 D N (.mk k nm num ty fr lb ks) d = true) : d ≤ D ∧ k ≠ N ∧ T3 k nm num ty fr lb ks.length = true ∧ O1 D N ks (d + 1) = true := by
 rw [K8] at h
 simp only [Bool.and_eq_true, decide_eq_true_eq] at h
 exact ⟨h.1.1.1, h.1.1.2, h.1.2, h.2⟩
section slaws
variable {P : Program} {Γ : L3} {env : M0} {hp : List A6} {G : IM} {ty : TypeId}
theorem A40 {P : Program} {w : World} {l c : Nat} (hl : l ≤ c) (code : BoundsCode) : (Instr.sliceBound (.int .i64 (l : Int)) c code).run P w = .ok l w := by
 unfold Instr.sliceBound
 simp only [asIntOf, Sem.run_bind, Sem.run_pure, Result.andThen_ok]
 rw [if_pos ⟨by omega, by omega⟩]
 simp
theorem A6p {x y z : Operand} {t : TypeId} {i : L6} [hI : I1 P t i] (hd' : i.desc = .string) {s : ByteArray} {l h : Nat}
  (hx : evo env x = some (.string s)) (hy : evo env y = some (.int .i64 (l : Int))) (hz : evo env z = some (.int .i64 (h : Int))) (hl : l ≤ h) (hh : h ≤ s.size) :
  I5 P Γ ⟨env, hp, G⟩ (.slice t x (some y) (some z) none) ty (.string (s.extract l h)) := by
 refine ⟨fun a _ hs _ _ _ _ w => ?_⟩
 have hu := hI.und
 rw [hd'] at hu
 simp [execOp, (hs.evo hx : a.eval x = _), (hs.evo hy : a.eval y = _), (hs.evo hz : a.eval z = _), Instr.sliceAt, Sem.run_bind, run_underlying hu, Instr.slice, Instr.sliceBounds, A40 hl, A40 hh]
theorem A83 {x z : Operand} {t : TypeId} {i : L6} [hI : I1 P t i] (hd' : i.desc = .string) {s : ByteArray} {h : Nat}
  (hx : evo env x = some (.string s)) (hz : evo env z = some (.int .i64 (h : Int))) (hh : h ≤ s.size) :
  I5 P Γ ⟨env, hp, G⟩ (.slice t x none (some z) none) ty (.string (s.extract 0 h)) := by
 refine ⟨fun a _ hs _ _ _ _ w => ?_⟩
 have hu := hI.und
 rw [hd'] at hu
 simp [execOp, (hs.evo hx : a.eval x = _), (hs.evo hz : a.eval z = _), Instr.sliceAt, Sem.run_bind, run_underlying hu, Instr.slice, Instr.sliceBounds, A40 hh]
theorem A84 {x y : Operand} {t : TypeId} {i : L6} [hI : I1 P t i] (hd' : i.desc = .string) {s : ByteArray} {l : Nat}
  (hx : evo env x = some (.string s)) (hy : evo env y = some (.int .i64 (l : Int))) (hl : l ≤ s.size) :
  I5 P Γ ⟨env, hp, G⟩ (.slice t x (some y) none none) ty (.string (s.extract l s.size)) := by
 refine ⟨fun a _ hs _ _ _ _ w => ?_⟩
 have hu := hI.und
 rw [hd'] at hu
 simp [execOp, (hs.evo hx : a.eval x = _), (hs.evo hy : a.eval y = _), Instr.sliceAt, Sem.run_bind, run_underlying hu, Instr.slice, Instr.sliceBounds, A40 hl]
theorem B31 {x y : Operand} {t t' : TypeId} {r s : ByteArray} (hx : evo env x = some (.string r)) (hy : evo env y = some (.string s)) :
  I5 P Γ ⟨env, hp, G⟩ (.binOp .lss t x y t') ty (.bool (decide (Op.bytesLess r.toList s.toList = true))) := by
 refine ⟨fun a _ hs _ _ _ _ w => ?_⟩
 simp only [execOp, eqGuard, binOp, Op.stringOp, (hs.evo hx : a.eval x = _), (hs.evo hy : a.eval y = _)]
 simp
end slaws
theorem B32 (s nm : ByteArray) (G : IM) (hs : s.size ≤ 1000) (hn : nm.size ≤ 1000) :
  Fn Tryz.prog 200 [.string s, .string nm] [] G (fun G' v outs => G' = G ∧ outs = [] ∧ ∃ r, v = .string r ∧ r.size ≤ s.size + nm.size) := by
 refine C7 Tryz.func200 rfl Tryz.ntmps200 Tryz.results200 rfl ?_
 intro w0
 refine I3 ?_
 refine C2 ?_
 (refine L4 (fun (i : Nat) => ⟨[(5, .int .i64 (i : Int)), (0, .string s), (1, .string nm)], [], G⟩) (fun i => i ≤ s.size) (fun i => s.size - i) 0 ?_ ?_ ?_)
 exact E3
 exact Nat.zero_le _
 (intro i hi)
 refine A9 ?_
 refine sQ (A2o rfl rfl) rfl (sB (K6 rfl rfl) rfl rfl (fun h23 => ?_) (fun h23 => ?_))
 refine C3 ?_
 refine sP (A1F (n := 1) rfl rfl zW) rfl rfl ?_
 refine sP (A6p (h := i + 1) rfl rfl rfl rfl zW zW) rfl rfl ?_
 refine F8 ?_
 refine sB (B31 rfl rfl) rfl rfl (fun h31 => ?_) (fun h31 => ?_)
 refine A7 ?_
 refine C2 ?_
 refine A4 ?_
 refine sP (A1F (n := 1) rfl rfl zW) rfl rfl ?_
 refine B3 ?_
 refine K3 (i + 1) ?_ ?_ ?_
 exact E3
 (show _ ≤ s.size; omega)
 (show s.size - _ < s.size - _; omega)
 refine N1 ?_
 refine sQ (A2o rfl rfl) rfl ?_
 refine sP (B2L rfl rfl zW) rfl rfl ?_
 refine C3 ?_
 refine sP (A1F (n := 1) rfl rfl zW) rfl rfl ?_
 refine sP (A6p (h := i + 1) rfl rfl rfl rfl zW zW) rfl rfl ?_
 refine F8 ?_
 refine sB (A1S rfl rfl) rfl rfl (fun h72 => ?_) (fun h72 => ?_)
 refine N8 ?_
 refine H7 (outs := []) (rT rfl) A2.nil ?_
 (exact ⟨rfl, rfl, _, rfl, Nat.le_add_right _ _⟩)
 refine B5 ?_
 exact y5
 refine A5Y ?_
 refine sQ (A2o rfl rfl) rfl ?_
 refine sP (A4A rfl rfl zW) rfl rfl ?_
 refine K4 ?_
 exact y5
theorem A1Z (G : IM) : B8 G B4 [.int .i64 0, .slice none 0 0] := by
 simp only [B4, B8]
 exact ⟨none, 0, [], rfl, ⟨by omega, by omega⟩, D0.of (Sl.nil _ _) rfl zX zX, by simp [E9]⟩
theorem A6q : H6 B4 = 0 := rfl
theorem H3.tm {G : IM} {k : Int} {nm : ByteArray} {num : Int} {t : Ty} {q : Option Addr} {d : Nat} {ts : List Tm} {es : List (List Value)} {p : Option Addr} {n c : Nat} (h : H3 G ts es) (hn : ts.length = n) (hs : Sl G p n c 9 es.flatten) (hk : E8 k) (hm : E8 num)
  (ht : B8 G t [.int .i64 t.k, .slice q t.ks.length d]) : B6 G (.mk k nm num t B4 0 ts) [.int .i64 k, .string nm, .int .i64 num, .int .i64 t.k, .slice q t.ks.length d, .int .i64 0, .slice none 0 0, .int .i64 0, .slice p n c] := by
 subst hn
 simp only [B6]
 exact ⟨_, _, p, c, es, rfl, hk, hm, ⟨by omega, by omega⟩, ht, A1Z G, D0.of hs h.len h.all (fun e he => (h.each e he).2), h⟩
theorem A1h {G : IM} {k : Int} {nm : ByteArray} {num : Int} (hk : E8 k) (hm : E8 num) :
  B6 G (.mk k nm num B4 B4 0 []) [.int .i64 k, .string nm, .int .i64 num, .int .i64 0, .slice none 0 0, .int .i64 0, .slice none 0 0, .int .i64 0, .slice none 0 0] :=
 H3.tm (ts := []) (es := []) (t := B4) (by simp [H3]) rfl (Sl.nil _ _) hk hm (A1Z G)
theorem A1I (k : Int) (nm : ByteArray) (num : Int) : A0f (.mk k nm num B4 B4 0 []) = nm.size := by
 rw [A0f, A6q, W4]; simp
theorem A6r : ∀ (ts : List Tm) (t : Tm), W4 (ts ++ [t]) = W4 ts + A0f t
 | [], t => by simp [W4]
 | a :: ts, t => by simp only [List.cons_append, W4, A6r ts t]; omega
theorem A1J (k : Int) : F7 k ≤ 3 := by
 unfold F7; repeat (split; omega)
 omega
theorem A6s {d : Nat} (h : d ≤ 2) : dB (d + 1) ≤ 14 := by
 have : d = 0 ∨ d = 1 ∨ d = 2 := by omega
 rcases this with rfl | rfl | rfl <;> decide
theorem A2z (n : Int) (G : IM) : Fn Tryz.prog 98 [.int .i64 n] [] G (J5 (.agg ⟨[.int .i64 2, .string ⟨⟨[]⟩⟩, .int .i64 n, .int .i64 0, .slice none 0 0, .int .i64 0, .slice none 0 0, .int .i64 0, .slice none 0 0]⟩) G) := by
 refine C7 Tryz.func98 rfl Tryz.ntmps98 Tryz.results98 rfl ?_
 intro w0
 refine A4 ?_
 refine sE (A8 rfl) rfl (fun b3 => ?_)
 refine I2 ?_
 refine L0 (rC rfl (A3 rfl rfl)) ?_
 exact ⟨rfl, rfl, rfl⟩
theorem A85 (br : Nat) (pb : Option Addr) (nb cb : Nat) (bs : List UInt8) (hnb : nb ≤ 2000) (p : Nat) (G : IM) (hb : Sl G pb nb cb 1 (N5 bs)) (hp : p + 3 < 1099511627776) (s : ByteArray) (hs : s.size ≤ 1000) :
  Fn Tryz.prog 199 [.pointer (some ⟨br, 0, none⟩), .string s] [rd br pb nb cb p] G
   (Y9 br pb nb cb p 3 (fun G' v => ∃ t cells, v = .agg ⟨cells⟩ ∧ B6 G' t cells ∧ A0f t ≤ 1)) := by
 refine C7 Tryz.func199 rfl Tryz.ntmps199 Tryz.results199 rfl ?_
 intro w0
 refine A4 ?_
 refine sE (A8 rfl) rfl (fun b3 => ?_)
 refine A7 ?_
 refine sQ (A2o rfl rfl) rfl ?_
 refine sB (A0l rfl rfl) rfl rfl (fun h11 => ?_) (fun h11 => ?_)
 refine A4 ?_
 (refine I0 rfl (S2 _ br pb nb cb p bs _ hb hnb zW) (Pk.perm zN) rfl rfl (fun v14 G14 outs14 hle14 hh => ?_); obtain ⟨rfl, rfl, j14, rfl, hj14, hk14⟩ := hh; obtain ⟨i14, rfl⟩ := Int.eq_ofNat_of_zero_le hj14)
 replace hb := hb.mono hle14
 refine sB (A0l rfl rfl) rfl rfl (fun h15 => ?_) (fun h15 => ?_)
 refine E7 ?_
 refine sQ (A2o rfl rfl) rfl ?_
 (refine I0 rfl (S2 _ br pb nb cb (p + 1) bs _ hb hnb zW) (Pk.perm zN) rfl rfl (fun v25 G25 outs25 hle25 hh => ?_); obtain ⟨rfl, rfl, j25, rfl, hj25, hk25⟩ := hh; obtain ⟨i25, rfl⟩ := Int.eq_ofNat_of_zero_le hj25)
 replace hb := hb.mono hle25
 refine E7 ?_
 refine sP (A1F (n := 1) rfl rfl zW) rfl rfl ?_
 refine sP (A6p rfl rfl rfl rfl zW zW) rfl rfl ?_
 refine A7 ?_
 refine H7 (outs := [rd br pb nb cb (p + 1 + 1)]) (rC rfl (A3 rfl rfl)) zH ?_
 focus (refine ⟨_, ?_, ?_, rfl, _, _, rfl, A1h ⟨by omega, by omega⟩ ⟨by omega, by omega⟩, ?_⟩; all_goals (try rw [A1I]); all_goals (first | omega | (simp only [ByteArray.size_extract]; omega) | decide))
 refine I2 ?_
 (refine I0 rfl (S2 _ br pb nb cb (p + 1) bs _ hb hnb zW) (Pk.perm zN) rfl rfl (fun v54 G54 outs54 hle54 hh => ?_); obtain ⟨rfl, rfl, j54, rfl, hj54, hk54⟩ := hh; obtain ⟨i54, rfl⟩ := Int.eq_ofNat_of_zero_le hj54)
 replace hb := hb.mono hle54
 refine A4 ?_
 refine C2 (tS (tR (sB (qE rfl rfl) rfl rfl (fun h60 => ?_) (fun h60 => ?_))))
 refine J2 ?_
 refine H7 (outs := [rd br pb nb cb (p + 1 + 1)]) (rC rfl (A3 rfl rfl)) zH ?_
 focus (refine ⟨_, ?_, ?_, rfl, _, _, rfl, A1h ⟨by omega, by omega⟩ ⟨by omega, by omega⟩, ?_⟩; all_goals (try rw [A1I]); all_goals (first | omega | (simp only [ByteArray.size_extract]; omega) | decide))
 refine A7 ?_
 refine sB (qE rfl rfl) rfl rfl (fun h82 => ?_) (fun h82 => ?_)
 refine J2 ?_
 refine H7 (outs := [rd br pb nb cb (p + 1 + 1)]) (rC rfl (A3 rfl rfl)) zH ?_
 focus (refine ⟨_, ?_, ?_, rfl, _, _, rfl, A1h ⟨by omega, by omega⟩ ⟨by omega, by omega⟩, ?_⟩; all_goals (try rw [A1I]); all_goals (first | omega | (simp only [ByteArray.size_extract]; omega) | decide))
 refine I2 ?_
 (refine J1 (C9 rfl rfl rfl zW zR rfl) rfl ?_; rintro _ ⟨b108, rfl⟩)
 (refine S9 zN (fun Gf hlef hslf _ => ?_); refine I0 rfl (Z4 Gf br pb nb cb (p + 1 + 1) bs _ _ _ _ (hb.mono hlef) hnb zW hslf zV) (Pk.perm zN) rfl rfl (fun v Gn outs hlen hh => ?_); obtain ⟨rfl, rfl, hv⟩ := hh; obtain ⟨kn, rfl, hkn⟩ : ∃ k, v = .int .i64 k ∧ E8 k := (by simp only [List.mem_cons, List.not_mem_nil, or_false] at hv; rcases hv with rfl | rfl | rfl | rfl | rfl | rfl <;> exact ⟨_, rfl, by unfold E8; omega⟩))
 refine E6 rfl ((A2z _ _)) rfl rfl ?_
 refine C3 ?_
 refine H7 (outs := [rd br pb nb cb (p + 1 + 1 + 1)]) (rC rfl (A3 rfl rfl)) zH ?_
 focus (refine ⟨_, ?_, ?_, rfl, _, _, rfl, A1h ⟨by omega, by omega⟩ hkn, ?_⟩; all_goals (try rw [A1I]); all_goals (first | omega | decide))
 refine N1 ?_
 (refine I0 rfl (S2 _ br pb nb cb p bs _ hb hnb zW) (Pk.perm zN) rfl rfl (fun v131 G131 outs131 hle131 hh => ?_); obtain ⟨rfl, rfl, j131, rfl, hj131, hk131⟩ := hh; obtain ⟨i131, rfl⟩ := Int.eq_ofNat_of_zero_le hj131)
 replace hb := hb.mono hle131
 refine A4 ?_
 refine C2 (tS (tR (sB (qE rfl rfl) rfl rfl (fun h137 => ?_) (fun h137 => ?_))))
 refine J2 ?_
 refine H7 (outs := [rd br pb nb cb (p + 1)]) (rC rfl (A3 rfl rfl)) zH ?_
 focus (refine ⟨_, ?_, ?_, rfl, _, _, rfl, A1h ⟨by omega, by omega⟩ ⟨by omega, by omega⟩, ?_⟩; all_goals (try rw [A1I]); all_goals (first | omega | (simp only [ByteArray.size_extract]; omega) | decide))
 refine A7 ?_
 refine sB (qE rfl rfl) rfl rfl (fun h159 => ?_) (fun h159 => ?_)
 refine J2 ?_
 refine H7 (outs := [rd br pb nb cb (p + 1)]) (rC rfl (A3 rfl rfl)) zH ?_
 focus (refine ⟨_, ?_, ?_, rfl, _, _, rfl, A1h ⟨by omega, by omega⟩ ⟨by omega, by omega⟩, ?_⟩; all_goals (try rw [A1I]); all_goals (first | omega | (simp only [ByteArray.size_extract]; omega) | decide))
 refine I2 ?_
 (refine J1 (C9 rfl rfl rfl zW zR rfl) rfl ?_; rintro _ ⟨b185, rfl⟩)
 (refine S9 zN (fun Gf hlef hslf _ => ?_); refine I0 rfl (Z4 Gf br pb nb cb (p + 1) bs _ _ _ _ (hb.mono hlef) hnb zW hslf zV) (Pk.perm zN) rfl rfl (fun v Gn outs hlen hh => ?_); obtain ⟨rfl, rfl, hv⟩ := hh; obtain ⟨kn, rfl, hkn⟩ : ∃ k, v = .int .i64 k ∧ E8 k := (by simp only [List.mem_cons, List.not_mem_nil, or_false] at hv; rcases hv with rfl | rfl | rfl | rfl | rfl | rfl <;> exact ⟨_, rfl, by unfold E8; omega⟩))
 refine E6 rfl ((A2z _ _)) rfl rfl ?_
 refine C3 ?_
 refine H7 (outs := [rd br pb nb cb (p + 1 + 1)]) (rC rfl (A3 rfl rfl)) zH ?_
 focus (refine ⟨_, ?_, ?_, rfl, _, _, rfl, A1h ⟨by omega, by omega⟩ hkn, ?_⟩; all_goals (try rw [A1I]); all_goals (first | omega | decide))
end Gw
end Go.Proofs.YtmceanphadildaaGreatDoor
