/-
  The scan of a term, CastValid, TermValid.
-/
import Derived.Test.YtbdacdnffkhgeaaGreatDoorKz511
import Derived.Test.YtbdacdnffkhgeaaGreatDoorKz510
import Derived.LaidEqlPtr
set_option linter.unusedVariables false
set_option linter.unusedSimpArgs false
set_option maxHeartbeats 0
set_option maxRecDepth 100000
set_option synthInstance.maxSize 4000
set_option synthInstance.maxHeartbeats 0
namespace Go.Proofs.YtbdacdnffkhgeaaGreatDoor
open Go Go.RowKit
namespace Gw
theorem y2 {p : Prop} (h : p := by
  refine A8 ?_
  exact ⟨rfl, by rw [hi.2 ⟨fun _ => zH0, fun _ => zB0, fun _ => zH0, fun _ => zH0, fun _ => ⟨zH0, by (first | assumption | omega)⟩, by omega, by omega⟩], rfl⟩
) : p := h
theorem y3 {p : Prop} (h : p := by
  refine H8 (outs := [.blk bc [.int .i64 _]]) (rT rfl) (A0.cons zD0 A0.nil) ?_
  (rw [A5H (by rw [hR]; first | omega | exact Or.inr (Or.inr (Or.inr zO0))) ]; exact ⟨rfl, rfl, rfl⟩)
) : p := h
theorem y4 {p : Prop} (h : p := by
  refine M7 ?_
  (refine L5 rfl (A0C G br pb nb cb p bs (n : Int) hb hnb hp) (List.Perm.refl _) rfl rfl (fun v G1 outs hle1 hh => ?_); obtain ⟨rfl, rfl, k, rfl, hk0, hkn⟩ := hh; obtain ⟨j, rfl⟩ := Int.eq_ofNat_of_zero_le hk0)
  (obtain ⟨b, o, v, rfl, hv, hat, _⟩ := hx.kid (i := j) zR0; refine sP (B8 rfl rfl rfl zR0) rfl rfl ?_)
  refine sL (I7 rfl rfl (hat _)) rfl rfl ?_
  refine B5 ?_
  refine H8 (rT rfl) A0.refl ?_
  exact ⟨rfl, rfl, List.mem_of_getElem? hv⟩
) : p := h
theorem y5 {p : Prop} (h : p := by
  refine aP 16 rfl (qM rfl) rfl ?_
  refine D6 17 rfl rfl rfl ?_
  refine D6 18 rfl rfl rfl ?_
  refine D6 19 rfl rfl rfl ?_
  refine aP 20 rfl (R8 rfl rfl) rfl ?_
  refine M7 ?_
  (rw [A4R zT]; exact ⟨rfl, rfl, rfl⟩)
) : p := h
theorem y6 {p : Prop} (h : p := by
  refine N3 ?_
  exact ⟨rfl, zG, rfl⟩
) : p := h
theorem A9s (M D N : Int) (hM : 0 ≤ M ∧ M ≤ 1000) (hD : 0 ≤ D ∧ D ≤ 1000) (bc : Nat) : ∀ (t : Tm) (deep c : Int) (G : IM) (cells : List Value), 0 ≤ deep ∧ deep ≤ D + 1 → 0 ≤ c ∧ c ≤ M → B7 G t cells →
  Fn Tryz.prog 40 [.agg ⟨cells⟩, .int .i64 deep, .int .i64 M, .int .i64 D, .int .i64 N, .pointer (some ⟨bc, 0, none⟩)] [.blk bc [.int .i64 c]] G
   (X2 (.bool (W0 M D N t deep c).1) [.blk bc [.int .i64 (W0 M D N t deep c).2]] G) := by
 refine Tm.ind fun k nm num ty fr lb ks ih deep c G cells hd hc hr => ?_
 have hno := B37 k nm num ty fr lb ks G cells hr
 obtain ⟨tk, tks⟩ := ty
 obtain ⟨fk, fks⟩ := fr
 obtain ⟨pt, ct, pf, cf, p, cp, es, rfl, hk, hnum, hlb, hty, hfr, hsl, hkl⟩ := hr.open9
 have hn := hsl.le
 obtain ⟨R, hR⟩ : ∃ R, Z2 k nm num (.mk tk tks) (.mk fk fks) lb ks.length = R := ⟨_, rfl⟩
 rw [hR] at hno
 refine C0 Tryz.func40 rfl Tryz.ntmps40 Tryz.results40 rfl ?_
 intro w0
 refine A4 ?_
 refine sE (B6 rfl rfl) rfl (fun b3 => ?_)
 refine A9 ?_
 refine sQ (K6 rfl) rfl ?_
 refine D8 ?_
 refine sP (K0 rfl rfl zR0 zR0) rfl rfl ?_
 refine sQ (K6 rfl) rfl ?_
 refine B0 ?_
 refine sQ (K6 rfl) rfl ?_
 refine A4 ?_
 refine sB (A0K rfl rfl) rfl rfl (fun h24 => ?_) (fun h24 => ?_)
 refine A4E ?_
 exact y3
 refine C1 ?_
 refine sB (A0K rfl rfl) rfl rfl (fun h56 => ?_) (fun h56 => ?_)
 refine A5B ?_
 exact y3
 refine A8 ?_
 refine sB (qE rfl rfl) rfl rfl (fun h86 => ?_) (fun h86 => ?_)
 refine N3 ?_
 exact y3
 refine C1 ?_
 refine J5 rfl (hno) rfl rfl (fun h108 => ?_) (fun h108 => ?_)
 refine N3 ?_
 refine C2 ?_
 (have hmk := B3x (M := M) (D := D) (N := N) (deep := deep) (c := c) zR0 (hR.trans zO0); refine L8 (fun (x : Nat × Int) => ⟨[(44, .int .i64 x.1), (43, .int .i64 ks.length), (42, .slice p ks.length cp), (5, .pointer (some ⟨bc, 0, none⟩)), (4, .int .i64 N), (3, .int .i64 D), (2, .int .i64 M), (1, .int .i64 deep)], [.blk bc [.int .i64 x.2]], G⟩) (fun x => x.1 ≤ ks.length ∧ 0 ≤ x.2 ∧ x.2 ≤ M ∧ Y1 M D N ks (deep + 1) (c + 1) = Y1 M D N (ks.drop x.1) (deep + 1) x.2) (fun x => ks.length - x.1) (0, c + 1) ?_ ?_ ?_)
 (simp only [I9]; exact F8)
 exact ⟨by simp, by simp; omega, by simp; omega, by simp⟩
 (rintro ⟨i, ci⟩ ⟨hi, hc0, hc1, hst⟩; simp only [] at hi hc0 hc1 hst ⊢)
 refine A4 ?_
 refine sB (N5 rfl rfl) rfl rfl (fun h132 => ?_) (fun h132 => ?_)
 refine B0 ?_
 refine C2 ?_
 refine A4 ?_
 (obtain ⟨b, o, e, rfl, hl, hat, hre, hgb⟩ := hsl.kidTm hkl (i := i) zR0 zR0; have hone := hre.one; have hle := A82 M D N ks[i] (deep + 1) ci hc0 hc1; refine sP (B8 rfl rfl rfl zR0) rfl rfl ?_)
 refine sL (A5 rfl rfl (hat _) hl) rfl rfl ?_
 refine sE (A6 rfl) rfl (fun b145 => ?_)
 refine Q1 rfl rfl rfl zO0 zO0 rfl zF0 (by exact C6 (by symm; assumption)) ?_
 refine B5 ?_
 refine sL (A5 rfl rfl (B3 zI0) zO0) rfl rfl ?_
 refine D8 ?_
 refine sP (K0 rfl rfl zR0 zR0) rfl rfl ?_
 refine B5 ?_
 refine B3n rfl (ih ks[i] (List.getElem_mem _) (deep + 1) ci G e zR0 zR0 hre) (Pk.perm zD0) rfl rfl (fun h158 => ?_) (fun h158 => ?_)
 refine E1 ?_
 refine sP (K0 rfl rfl zR0 zR0) rfl rfl ?_
 refine A4 ?_
 refine J7 (i + 1, (W0 M D N ks[i] (deep + 1) ci).2) ?_ ?_ ?_
 (simp only [I9]; exact F8)
 exact ⟨by omega, by omega, hle.2.2 zO0, by rw [hst, B3y zR0 zO0]⟩
 (show ks.length - (i + 1) < ks.length - i; omega)
 refine J0 ?_
 refine H8 (outs := [.blk bc [.int .i64 _]]) (rT rfl) (A0.cons zD0 A0.nil) ?_
 (rw [hmk, hst, B3z zR0 zO0]; exact ⟨rfl, rfl, rfl⟩)
 refine J0 ?_
 refine H8 (outs := [.blk bc [.int .i64 _]]) (rT rfl) (A0.cons zD0 A0.nil) ?_
 (rw [hmk, hst, B3A zR0]; exact ⟨rfl, rfl, rfl⟩)
 refine O3 ?_
 exact y3
theorem A5Q (t : Tm) (G : IM) (cells : List Value) (hr : B7 G t cells) : Fn Tryz.prog 68 [.agg ⟨cells⟩] [] G (K7 (.bool (O9 t)) G) := by
 have hl := hr.len
 refine C0 Tryz.func68 rfl Tryz.ntmps68 Tryz.results68 rfl ?_
 intro w0
 refine A4 ?_
 refine sE (B6 rfl rfl) rfl (fun b3 => ?_)
 refine A8 ?_
 refine sE (A6 rfl) rfl (fun b9 => ?_)
 refine A8 ?_
 refine sL (A5 rfl rfl (B3 zI0) zO0) rfl rfl ?_
 refine A5A rfl (A9s 200 40 13 zR0 zR0 _ t 1 0 G cells zR0 zR0 hr) A0S rfl rfl ?_
 refine A8 ?_
 exact ⟨rfl, rfl, rfl⟩
theorem A5R (t : Tm) (G : IM) (cells : List Value) (hr : B7 G t cells) : Fn Tryz.prog 13 [.agg ⟨cells⟩] [] G (K7 (.bool (M3 t)) G) := by
 have hl := hr.len
 refine C0 Tryz.func13 rfl Tryz.ntmps13 Tryz.results13 rfl ?_
 intro w0
 refine A4 ?_
 refine sE (B6 rfl rfl) rfl (fun b3 => ?_)
 refine A8 ?_
 refine sE (A6 rfl) rfl (fun b9 => ?_)
 refine A8 ?_
 refine sL (A5 rfl rfl (B3 zI0) zO0) rfl rfl ?_
 refine A5A rfl (A9s 30 12 14 zR0 zR0 _ t 1 0 G cells zR0 zR0 hr) A0S rfl rfl ?_
 refine A8 ?_
 exact ⟨rfl, rfl, rfl⟩
theorem A9t (k : Int) (G : IM) : Fn Tryz.prog 110 [.int .i64 k] [] G (K7 (.int .i64 (Y6 k)) G) := by
 refine C0 Tryz.func110 rfl Tryz.ntmps110 Tryz.results110 rfl ?_
 intro w0
 refine M7 ?_
 refine C2 ?_
 refine C1 ?_
 refine sB (qE rfl rfl) rfl rfl (fun h16 => ?_) (fun h16 => ?_)
 refine N3 ?_
 exact ⟨rfl, zW, rfl⟩
 refine A9 ?_
 refine sB (qE rfl rfl) rfl rfl (fun h40 => ?_) (fun h40 => ?_)
 refine N3 ?_
 exact ⟨rfl, zW, rfl⟩
 refine A8 ?_
 refine sB (qE rfl rfl) rfl rfl (fun h63 => ?_) (fun h63 => ?_)
 refine N0 ?_
 exact ⟨rfl, zW, rfl⟩
 refine B0 ?_
 refine sB (qE rfl rfl) rfl rfl (fun h85 => ?_) (fun h85 => ?_)
 refine N3 ?_
 exact ⟨rfl, zW, rfl⟩
 refine A8 ?_
 refine sB (qE rfl rfl) rfl rfl (fun h108 => ?_) (fun h108 => ?_)
 refine N0 ?_
 exact ⟨rfl, zW, rfl⟩
 refine M8 ?_
 exact ⟨rfl, zW, rfl⟩
theorem A7e (k : Int) (G : IM) : Fn Tryz.prog 83 [.int .i64 k] [] G (K7 (.int .i64 (E8 k)) G) := by
 refine C0 Tryz.func83 rfl Tryz.ntmps83 Tryz.results83 rfl ?_
 intro w0
 refine M7 ?_
 refine C2 ?_
 refine C1 ?_
 refine sB (qE rfl rfl) rfl rfl (fun h16 => ?_) (fun h16 => ?_)
 exact y6
 refine A9 ?_
 refine sB (qE rfl rfl) rfl rfl (fun h40 => ?_) (fun h40 => ?_)
 exact y6
 refine A9 ?_
 refine sB (qE rfl rfl) rfl rfl (fun h64 => ?_) (fun h64 => ?_)
 exact y6
 refine A8 ?_
 refine sB (qE rfl rfl) rfl rfl (fun h87 => ?_) (fun h87 => ?_)
 refine N0 ?_
 exact ⟨rfl, zG, rfl⟩
 refine B0 ?_
 refine sB (qE rfl rfl) rfl rfl (fun h109 => ?_) (fun h109 => ?_)
 exact y6
 refine A9 ?_
 refine sB (qE rfl rfl) rfl rfl (fun h133 => ?_) (fun h133 => ?_)
 exact y6
 refine A9 ?_
 refine sB (qE rfl rfl) rfl rfl (fun h157 => ?_) (fun h157 => ?_)
 exact y6
 refine A9 ?_
 refine sB (qE rfl rfl) rfl rfl (fun h181 => ?_) (fun h181 => ?_)
 exact y6
 refine A8 ?_
 refine sB (qE rfl rfl) rfl rfl (fun h204 => ?_) (fun h204 => ?_)
 refine N0 ?_
 exact ⟨rfl, zG, rfl⟩
 refine B0 ?_
 refine sB (qE rfl rfl) rfl rfl (fun h226 => ?_) (fun h226 => ?_)
 exact y6
 refine A9 ?_
 refine sB (qE rfl rfl) rfl rfl (fun h250 => ?_) (fun h250 => ?_)
 exact y6
 refine A9 ?_
 refine sB (qE rfl rfl) rfl rfl (fun h274 => ?_) (fun h274 => ?_)
 exact y6
 refine A8 ?_
 refine sB (qE rfl rfl) rfl rfl (fun h297 => ?_) (fun h297 => ?_)
 refine N0 ?_
 exact ⟨rfl, zG, rfl⟩
 refine A9 ?_
 refine sB (qE rfl rfl) rfl rfl (fun h318 => ?_) (fun h318 => ?_)
 refine N0 ?_
 exact ⟨rfl, zG, rfl⟩
 refine M8 ?_
 exact ⟨rfl, zG, rfl⟩
theorem B38 (s : ByteArray) (G : IM) : Fn Tryz.prog 120 [.string s] [] G (K7 (.bool (A0B s)) G) := by
 refine C0 Tryz.func120 rfl Tryz.ntmps120 Tryz.results120 rfl ?_
 intro w0
 refine E1 ?_
 refine sQ (A2E rfl rfl) rfl (sB (qE rfl rfl) rfl rfl (fun h10 => ?_) (fun h10 => ?_))
 refine A4 ?_
 refine sP (A5w rfl rfl rfl zR0 (A5F zR0)) rfl rfl ?_
 refine sB (A1w rfl rfl) rfl rfl (fun h14 => ?_) (fun h14 => ?_)
 refine C1 ?_
 refine sP (A5w rfl rfl rfl zR0 (A5F zR0)) rfl rfl ?_
 refine sB (A1k rfl rfl) rfl rfl (fun h19 => ?_) (fun h19 => ?_)
 refine A9 ?_
 exact ⟨rfl, by simp only [A0B]; (try simp only [Int.toNat_zero] at *); (first | rw [decide_eq_true zR0] | rw [decide_eq_false zR0]), rfl⟩
 refine A9 ?_
 exact ⟨rfl, by simp only [A0B]; (try simp only [Int.toNat_zero] at *); (first | rw [decide_eq_true zR0] | rw [decide_eq_false zR0]), rfl⟩
 refine M7 ?_
 exact ⟨rfl, by simp only [A0B]; (try simp only [Int.toNat_zero] at *); (first | rw [decide_eq_true zR0] | rw [decide_eq_false zR0]), rfl⟩
 refine J0 ?_
 exact ⟨rfl, by simp only [A0B]; (try simp only [Int.toNat_zero] at *); (first | rw [decide_eq_true zR0] | rw [decide_eq_false zR0]), rfl⟩
theorem A9u (t : Ty) (G : IM) (cells : List Value) (hr : C7 G t cells) : Fn Tryz.prog 121 [.agg ⟨cells⟩] [] G (K7 (.bool (A0A t)) G) := by
 obtain ⟨p, c, es, rfl, hk, hsl, hkl⟩ := hr.open
 refine C0 Tryz.func121 rfl Tryz.ntmps121 Tryz.results121 rfl ?_
 intro w0
 refine A4 ?_
 refine sE (B6 rfl rfl) rfl (fun b3 => ?_)
 refine B0 ?_
 refine sB (qE rfl rfl) rfl rfl (fun h11 => ?_) (fun h11 => ?_)
 refine B5 ?_
 refine sB (qE rfl rfl) rfl rfl (fun h16 => ?_) (fun h16 => ?_)
 refine A9 ?_
 exact ⟨rfl, by simp only [A0A]; (first | rw [decide_eq_true zR0] | rw [decide_eq_false zR0]), rfl⟩
 refine A9 ?_
 exact ⟨rfl, by simp only [A0A]; (first | rw [decide_eq_true zR0] | rw [decide_eq_false zR0]), rfl⟩
 refine M7 ?_
 exact ⟨rfl, by simp only [A0A]; (first | rw [decide_eq_true zR0] | rw [decide_eq_false zR0]), rfl⟩
def B9s (n : Int) : Int := if n < -99 ∨ n > 99 then 0 else if n < 0 then -n else n
theorem Sw.same {hp hp' : List A7} {e : A7} (h : Sw hp e e hp') : hp' = hp := by
 generalize he : e = e' at h
 have : ∀ {hp e e' hp'}, Sw hp e e' hp' → e = e' → hp' = hp := by
  intro hp e e' hp' h
  induction h with
  | here => rintro rfl; rfl
  | there _ ih => intro he; rw [ih he]
 subst he
 exact this h rfl
section
variable {P : Program} {Γ : N7} {env : O6} {hp : List A7} {G : IM} {ty : TypeId}
theorem A9v {d : Nat} {x y : Operand} {t el : TypeId} {i : M6} {sz by' : Nat} {zs : List Value} [hI : I3 P t i] {ie : M6} [hEl : I3 P el ie] (hd' : i.desc = .slice el) [hE : Z7 P el sz by' zs] {p q : Option Addr} {c n m c2 : Nat} {cs news : List Value} {hp' : Option Addr → Nat → List A7}
  (hd : Nat.blt d Γ.n = true) (hx : evo env x = some (.slice p n c)) (hy : evo env y = some (.slice q m c2)) (hsz : Nat.blt 0 sz = true)
  (hm : ∀ p' c', Sw hp (.slc p c el sz n cs) (.slc p' c' el sz (n + m) (cs ++ news)) (hp' p' c'))
  (hS : Sl G q m c2 sz news) (h1 : ∀ u ∈ news, u.oneCell' = true) (hc : n ≤ c)
  (h63 : n + m ≤ maxLen) (hb : (n + m) * by' ≤ 140737488355328) :
  A0f P Γ ⟨env, hp, G⟩ (some d) (.call ⟨.builtin .append, ⟨[x, y]⟩, ⟨[t, t]⟩⟩) ty (K5 p) (fun σ' => ∃ p' c', σ' = ⟨(d, .slice p' (n + m) c') :: env, hp' p' c', G⟩) := by
 obtain ⟨hl, _, _, hat⟩ := hS
 rcases Nat.eq_zero_or_pos m with rfl | hm0
 ·obtain rfl : news = [] := List.length_eq_zero_iff.1 zR0
  have hpu := B3j (P := P) (Γ := Γ) (hp := hp) (G := G) (ty := ty) (t := t) (el := el) hd' hx hy hc
  refine ⟨fun a w hs pos af gd Q next hn => ?_⟩
  simp only [Oper.wp, hpu.run a w hs, Oper.upon]
  refine hn _ _ _ (hs.put d _ (by simpa using hd) hs.res) (Ext.refl _ _) ⟨p, c, ?_⟩
  have h0 := hm p c
  simp only [Nat.add_zero, List.append_nil] at h0 ⊢
  rw [h0.same]
 ·obtain ⟨b, o, full, rfl, hg, hv⟩ := hat.resolve_left zR0
  exact A6U hd' hd hx hy hsz hm (A2Z hg hv) hl h1 h63 hb
variable {K : Po} {ops : Array Oper} {rest : List Oper} {pos : String} {af : Array Edge} {gd : Option (Nat × Bool)}
theorem A7f {d : Nat} {x y : Operand} {t el : TypeId} {i : M6} {sz by' : Nat} {zs : List Value} [hI : I3 P t i] {ie : M6} [hEl : I3 P el ie] [hE : Z7 P el sz by' zs] {p q : Option Addr} {c n m c2 : Nat} {cs news : List Value} {hp' : Option Addr → Nat → List A7}
  (hd' : i.desc = .slice el) (hd : Nat.blt d Γ.n = true) (hx : evo env x = some (.slice p n c)) (hy : evo env y = some (.slice q m c2)) (hsz : Nat.blt 0 sz = true)
  (hm : ∀ p' c', Sw hp (.slc p c el sz n cs) (.slc p' c' el sz (n + m) (cs ++ news)) (hp' p' c'))
  (hS : Sl G q m c2 sz news) (h1 : ∀ u ∈ news, u.oneCell' = true) (hc : n ≤ c)
  (h63 : n + m ≤ maxLen) (hb : (n + m) * by' ≤ 140737488355328) (hw : O2 ops env gd = some true)
  (k : ∀ p' c', I1 P Γ ops rest K ⟨(d, .slice p' (n + m) c') :: env, hp' p' c', G⟩) : I1 P Γ ops (⟨some d, .call ⟨.builtin .append, ⟨[x, y]⟩, ⟨[t, t]⟩⟩, ty, pos, af, gd⟩ :: rest) K ⟨env, hp, G⟩ :=
 J8 (A9v hd' hd hx hy hsz hm hS h1 hc h63 hb) hw (by rintro _ ⟨p', c', rfl⟩; exact k p' c')
theorem Z3 {H : List (Nat × Nat)} {fuel : Nat} {listed l' : List Bool} {j d : Nat} {cs : List Value} {x y : Operand} {t el : TypeId} {i : M6} {sz by' : Nat} {zs : List Value} [hI : I3 P t i] {ie : M6} [hEl : I3 P el ie] [hE : Z7 P el sz by' zs] {p q : Option Addr} {c n m c2 : Nat} {news : List Value} {hp' : Option Addr → Nat → List A7} {H' : List (Nat × Nat)}
  (hi : ops[j]? = some ⟨some d, .call ⟨.builtin .append, ⟨[x, y]⟩, ⟨[t, t]⟩⟩, ty, pos, af, gd⟩) (hd' : i.desc = .slice el)
  (hd : Nat.blt d Γ.n = true) (hx : evo env x = some (.slice p n c)) (hy : evo env y = some (.slice q m c2)) (hsz : Nat.blt 0 sz = true)
  (hm : ∀ p' c', Sw hp (.slc p c el sz n cs) (.slc p' c' el sz (n + m) (cs ++ news)) (hp' p' c'))
  (hS : Sl G q m c2 sz news) (h1 : ∀ u ∈ news, u.oneCell' = true) (hc : n ≤ c)
  (h63 : n + m ≤ maxLen) (hb : (n + m) * by' ≤ 140737488355328) (hw : O2 ops env gd = some true) (hl : listed.set j true = l')
  (hok : A1 ops j hp G (.slc p c el sz n cs) H H')
  (k : ∀ p' c', N4 P Γ ops K H' fuel l' ⟨(d, .slice p' (n + m) c') :: env, hp' p' c', G⟩) : W5 P Γ ops K H fuel listed j ⟨env, hp, G⟩ :=
 A3W hi (A9v hd' hd hx hy hsz hm hS h1 hc h63 hb) hw hl (fun _ _ hs => hok.spec hs) hok.filter (by rintro _ ⟨p', c', rfl⟩; exact k p' c')
theorem A0M {H H' : List (Nat × Nat)} {fuel : Nat} {listed l' : List Bool} {j d : Nat} {f : FuncId} [hF : C4 P f] {xs : List Operand} {ats : Array TypeId} {vs : List Value} {e : A7} {rst : List A7} {post : IM → Value → List A7 → Prop}
  (hi : ops[j]? = some ⟨some d, .call ⟨.value (.func f), ⟨xs⟩, ats⟩, ty, pos, af, gd⟩) (hx : evl env xs = some vs) (h : Fn P f vs [e] G post) (hp' : hp.Perm ([e] ++ rst)) (hw : O2 ops env gd = some true) (hd : Nat.blt d Γ.n = true) (hl : listed.set j true = l')
  (hok : A1 ops j hp G e H H')
  (k : ∀ v G' outs, B9 G G' → post G' v outs → N4 P Γ ops K H' fuel l' ⟨(d, v) :: env, outs ++ rst, G'⟩) : W5 P Γ ops K H fuel listed j ⟨env, hp, G⟩ :=
 A3W hi (A4B hx h hp' hd) hw hl (fun _ _ hs => by simpa [Fp] using hok.spec hs) hok.filter (by rintro _ ⟨v, G', outs, rfl, hle, hq⟩; exact k v G' outs hle hq)
end
structure A5S {ι : Type} (S : ι → Sy) (φ : ι → Prop) (e : Exit) (σ : Sy) : Prop where
 run : match e with
  | .normal => ∃ i, φ i ∧ Sub σ (S i)
  | _ => False
section cut
variable {P : Program} {Γ : N7} {K : Po} {σ : Sy} {ι : Type}
theorem A0V {c y : Code} (S : ι → Sy) (φ : ι → Prop) (h : L3 P Γ c (A5S S φ) σ) (k : ∀ i, φ i → L3 P Γ y K (S i)) : L3 P Γ c (A1Q P Γ y K) σ := by
 refine tri_post h ?_
 rintro e σ ⟨hk⟩
 cases e with
 | normal => obtain ⟨i, hi, hs⟩ := hk; exact ⟨A8z hs (k i hi)⟩
 | _ => exact hk.elim
where
 tri_post {c : Code} {K K' : Po} {σ : Sy} (h : L3 P Γ c K σ) (hk : ∀ e σ, K e σ → K' e σ) : L3 P Γ c K' σ := A6H h hk
theorem O7 {S : ι → Sy} {φ : ι → Prop} {σ : Sy} (i : ι) (hs : Sub σ (S i)) (h : φ i) : A5S S φ .normal σ := ⟨⟨i, h, hs⟩⟩
theorem B39 {S : ι → Sy} {φ : ι → Prop} : A0J (A5S S φ) := fun _ _ h => h.run
instance npC5 {S : ι → Sy} {φ : ι → Prop} : NpC (A5S S φ) := ⟨B39⟩
end cut
theorem A21 : ∀ (t : Ty) (G : IM) (cells : List Value), t.small → C7 G t cells →
  Fn Tryz.prog 44 [.agg ⟨cells⟩] [] G (N8 fun G' v => ∃ cells' F, v = .agg ⟨cells'⟩ ∧ R9 (E0 G' G) t cells' F ∧ F.Nodup) := by
 refine Ty.ind fun k ks ih G cells hts hr => ?_
 simp only [Ty.small] at hts
 obtain ⟨hsm, hks⟩ := hts
 obtain ⟨p, c, es, rfl, hk, hsl, hkl⟩ := hr.open
 simp only [Ty.k, Ty.ks] at hk hsl hkl ⊢
 have hn := hsl.le
 refine C0 Tryz.func44 rfl Tryz.ntmps44 Tryz.results44 rfl ?_
 intro w0
 refine A4 ?_
 refine sE (B6 rfl rfl) rfl (fun b3 => ?_)
 refine sE (A6 rfl) rfl (fun b4 => ?_)
 refine B0 ?_
 refine sE (A6 rfl) rfl (fun b12 => ?_)
 refine O3 ?_
 refine C2 ?_
 (refine X1 25 2 ?_; refine L8 (fun (x : Nat × Option Addr × Nat × List (List Value) × List Nat × IM) => ⟨[(12, .int .i64 x.1), (11, .int .i64 ks.length), (10, .slice p ks.length c), (3, .pointer (some ⟨b12, 0, none⟩)), (2, .pointer (some ⟨b4, 0, none⟩))], [.blk b12 [.int .i64 k, .slice x.2.1 x.1 x.2.2.1], .slc x.2.1 x.2.2.1 25 2 x.1 x.2.2.2.1.flatten, .blk b4 [.int .i64 0, .slice none 0 0]], x.2.2.2.2.2⟩) (fun x => x.1 ≤ ks.length ∧ B9 G x.2.2.2.2.2 ∧ Q2 (E0 x.2.2.2.2.2 G) (ks.take x.1) x.2.2.2.1 x.2.2.2.2.1 ∧ x.2.2.2.2.1.Nodup) (fun x => ks.length - x.1) (0, none, 0, [], [], G) ?_ ?_ ?_)
 (simp only [I9]; exact I6 zC0 zZ)
 exact ⟨by simp, B9.refl _, by simp [Q2], by simp⟩
 (rintro ⟨i, pn, cn, es', F, Gi⟩ ⟨hi, hle, hst, hnd⟩; simp only [] at hi hle hst hnd ⊢; replace hsl := hsl.mono hle; replace hkl := hkl.mono hle)
 refine A4 ?_
 refine sB (N5 rfl rfl) rfl rfl (fun h32 => ?_) (fun h32 => ?_)
 refine B0 ?_
 refine C2 ?_
 refine A4 ?_
 (obtain ⟨b, o, p2, c2, rfl, hat, hre, hgb⟩ := hsl.kidTy hkl (i := i) zR0 zR0; refine sP (B8 rfl rfl rfl zR0) rfl rfl ?_)
 refine sL (A5 rfl rfl (hat _) rfl) rfl rfl ?_
 refine sE (A6 rfl) rfl (fun b45 => ?_)
 refine C1 ?_
 refine D3 D4 rfl ?_
 refine J4 (i := 0) (l' := [tt,ff,ff,ff,ff,ff,ff,ff]) rfl C8 (C3 rfl) rfl zP0 rfl rfl ?_
 refine aL 1 rfl (F0 rfl rfl) rfl ?_
 refine aL 2 rfl (A3 rfl rfl) rfl ?_
 refine A2 3 ?_
 (refine H1 rfl rfl (ih _ (List.getElem_mem zR0) _ _ (Ty.smallL_mem hks _ (List.getElem_mem zR0)) hre) rfl rfl rfl (fun v G1 hle1 hh => ?_); obtain ⟨cells', F', rfl, hs', hnd'⟩ := hh; obtain ⟨p3, c3, es3, rfl, _⟩ := hs'.R.open)
 refine A2 4 ?_
 (refine D2 rfl (D1 rfl rfl rfl zR0 zL0 rfl) rfl rfl ?_; rintro _ ⟨b56, rfl⟩)
 refine A2 5 ?_
 refine P0 rfl rfl rfl rfl rfl rfl (fun _ _ => by repeat (first | exact Sw.here | apply Sw.there)) (K4 zI0) rfl zK0 zL0 zR0 rfl rfl (by repeat (first | exact A1.nil | apply A1.dep zP0 | apply A1.blk zP0 zD0 zI0)) (fun pn' cn' => ?_)
 refine aP 6 rfl (C3 rfl) rfl ?_
 refine A2 7 ?_
 refine T7 rfl rfl rfl rfl rfl rfl rfl rfl zP0 zF0 (by rfl) ?_
 refine B5 ?_
 refine sP (K0 rfl rfl zR0 zR0) rfl rfl ?_
 refine A4 ?_
 refine J7 (i + 1, pn', cn', es' ++ [[.int .i64 ks[i].k, .slice p3 ks[i].ks.length c3]], F ++ F', G1) ?_ ?_ ?_
 (simp only [I9]; exact I6 zC0 zZ)
 exact ⟨by omega, hle.trans hle1, Q2.step hst hnd hle hle1 zR0 hs' hnd'⟩
 (show ks.length - (i + 1) < ks.length - i; omega)
 refine J0 ?_
 (refine J6 zD0 (fun G2 hle2 hsl2 hno2 => ?_); obtain rfl : i = ks.length := by omega)
 refine tT ?_
 refine P5 (rC rfl (A3 rfl rfl)) ?_
 (rw [List.take_length] at hst; obtain ⟨F2, hf1, hf2⟩ := R9.fin hst hnd hle hle2 hsl2 hno2 hk; exact ⟨rfl, _, F2, rfl, hf1, hf2⟩)
def B4a (t : Ty) (G : IM) : IM → Value → List A7 → Prop := N8 fun G' v => ∃ cells' F, v = .agg ⟨cells'⟩ ∧ R9 (E0 G' G) t cells' F ∧ F.Nodup
def B9t (ks : List Ty) (G : IM) : IM → Value → List A7 → Prop := N8 fun G' v => ∃ p c F, v = .slice p ks.length c ∧ A84 (E0 G' G) ks p c F ∧ F.Nodup
def A4K (t : Tm) (G : IM) : IM → Value → List A7 → Prop := N8 fun G' v => ∃ cells' F, v = .agg ⟨cells'⟩ ∧ Q3 (E0 G' G) t cells' F ∧ F.Nodup
def B9u (ks : List Tm) (G : IM) : IM → Value → List A7 → Prop := N8 fun G' v => ∃ p c F, v = .slice p ks.length c ∧ A1V (E0 G' G) ks p c F ∧ F.Nodup
theorem Z9 : ∀ (t : Ty) (G : IM) (cells : List Value), t.small → C7 G t cells → Fn Tryz.prog 89 [.agg ⟨cells⟩] [] G (B4a t G) := by
 refine Ty.ind fun k ks ih G cells hts hr => ?_
 simp only [Ty.small] at hts
 obtain ⟨hsm, hks⟩ := hts
 obtain ⟨p, c, es, rfl, hk, hsl, hkl⟩ := hr.open
 simp only [Ty.k, Ty.ks] at hk hsl hkl ⊢
 have hn := hsl.le
 refine C0 Tryz.func89 rfl Tryz.ntmps89 Tryz.results89 rfl ?_
 intro w0
 refine A4 ?_
 refine sE (B6 rfl rfl) rfl (fun b3 => ?_)
 refine sE (A6 rfl) rfl (fun b4 => ?_)
 refine B0 ?_
 refine sE (A6 rfl) rfl (fun b12 => ?_)
 refine E7 ?_
 refine C2 ?_
 (refine X1 25 2 ?_; refine L8 (fun (x : Nat × Option Addr × Nat × List (List Value) × List Nat × IM) => ⟨[(4, .int .i64 x.1), (3, .pointer (some ⟨b12, 0, none⟩)), (1, .pointer (some ⟨b3, 0, none⟩)), (2, .pointer (some ⟨b4, 0, none⟩))], [.blk b12 [.int .i64 k, .slice x.2.1 x.1 x.2.2.1], .slc x.2.1 x.2.2.1 25 2 x.1 x.2.2.2.1.flatten, .blk b4 [.int .i64 0, .slice none 0 0], .blk b3 [.int .i64 k, .slice p ks.length c]], x.2.2.2.2.2⟩) (fun x => x.1 ≤ ks.length ∧ B9 G x.2.2.2.2.2 ∧ Q2 (E0 x.2.2.2.2.2 G) (ks.take x.1) x.2.2.2.1 x.2.2.2.2.1 ∧ x.2.2.2.2.1.Nodup) (fun x => ks.length - x.1) (0, none, 0, [], [], G) ?_ ?_ ?_)
 (simp only [I9]; exact F8)
 exact ⟨by simp, B9.refl _, by simp [Q2], by simp⟩
 (rintro ⟨i, pn, cn, es', F, Gi⟩ ⟨hi, hle, hst, hnd⟩; simp only [] at hi hle hst hnd ⊢; replace hsl := hsl.mono hle; replace hkl := hkl.mono hle)
 refine B0 ?_
 refine sB (N5 rfl rfl) rfl rfl (fun h34 => ?_) (fun h34 => ?_)
 refine A9 ?_
 refine C2 ?_
 (obtain ⟨b, o, p2, c2, rfl, hat, hre, hgb⟩ := hsl.kidTy hkl (i := i) zR0 zR0; refine D3 D4 rfl ?_)
 refine J4 (i := 0) (l' := [tt,ff,ff,ff,ff,ff,ff,ff,ff,ff,ff,ff]) rfl C8 (C3 rfl) rfl zP0 rfl rfl ?_
 refine aL 1 rfl (F0 rfl rfl) rfl ?_
 refine aP 2 rfl (C3 rfl) rfl ?_
 refine aL 3 rfl (F0 rfl rfl) rfl ?_
 refine aP 4 rfl (qM rfl) rfl ?_
 refine aP 5 rfl (B8 rfl rfl rfl zR0) rfl ?_
 refine aL 6 rfl (A5 rfl rfl (hat _) rfl) rfl ?_
 refine A2 7 ?_
 (refine H1 rfl rfl (ih ks[i] (List.getElem_mem zR0) _ _ (Ty.smallL_mem hks _ (List.getElem_mem zR0)) hre) rfl rfl rfl (fun v G1 hle1 hh => ?_); obtain ⟨cells', F', rfl, hs', hnd'⟩ := hh; obtain ⟨p3, c3, es3, rfl, _⟩ := hs'.R.open)
 refine A2 8 ?_
 (refine D2 rfl (D1 rfl rfl rfl zR0 zL0 rfl) rfl rfl ?_; rintro _ ⟨b53, rfl⟩)
 refine A2 9 ?_
 refine P0 rfl rfl rfl rfl rfl rfl (fun _ _ => by repeat (first | exact Sw.here | apply Sw.there)) (K4 zI0) rfl zK0 zL0 zR0 rfl rfl zR (fun pn' cn' => ?_)
 refine aP 10 rfl (C3 rfl) rfl ?_
 refine A2 11 ?_
 refine T7 rfl rfl rfl rfl rfl rfl rfl rfl zP0 zF0 (by rfl) ?_
 refine A8 ?_
 refine sP (K0 rfl rfl zR0 zR0) rfl rfl ?_
 refine A4 ?_
 refine J7 (i + 1, pn', cn', es' ++ [[.int .i64 ks[i].k, .slice p3 ks[i].ks.length c3]], F ++ F', G1) ?_ ?_ ?_
 (simp only [I9]; exact F8)
 exact ⟨by omega, hle.trans hle1, Q2.step hst hnd hle hle1 zR0 hs' hnd'⟩
 (show ks.length - (i + 1) < ks.length - i; omega)
 refine M8 ?_
 (refine J6 zD0 (fun G2 hle2 hsl2 hno2 => ?_); obtain rfl : i = ks.length := zR0)
 refine tT ?_
 refine P5 (rC rfl (A3 rfl rfl)) ?_
 (rw [List.take_length] at hst; obtain ⟨F2, hf1, hf2⟩ := R9.fin hst hnd hle hle2 hsl2 hno2 hk; exact ⟨rfl, _, F2, rfl, hf1, hf2⟩)
theorem B4b : ∀ (t : Tm) (G : IM) (cells : List Value), t.small → B7 G t cells → Fn Tryz.prog 70 [.agg ⟨cells⟩] [] G (A4K t G) := by
 refine Tm.ind fun k nm num ty fr lb ks ih G cells hts hr => ?_
 have hone := hr.one
 simp only [Tm.small] at hts
 obtain ⟨hnm, hty', hfr', hsm, hks⟩ := hts
 obtain ⟨tk, tks⟩ := ty
 obtain ⟨fk, fks⟩ := fr
 obtain ⟨pt, ct, pf, cf, p, c, es, rfl, hk, hnum, hlb, hty, hfr, hsl, hkl⟩ := hr.open9
 have hn := hsl.le
 have hT := Z9 (.mk tk tks) G _ hty' hty
 refine C0 Tryz.func70 rfl Tryz.ntmps70 Tryz.results70 rfl ?_
 intro w0
 refine A4 ?_
 refine sE (B6 rfl rfl) rfl (fun b3 => ?_)
 refine sE (A6 rfl) rfl (fun b4 => ?_)
 refine A8 ?_
 refine sE (A6 rfl) rfl (fun b10 => ?_)
 refine B0 ?_
 (refine F4 rfl hT rfl rfl (fun v G1 hle1 hh => ?_); obtain ⟨cs1, F1, rfl, hs1, hn1⟩ := hh; obtain ⟨p1, c1, rfl, _⟩ := hs1.open; have hF := Z9 (.mk fk fks) G1 _ hfr' (hfr.mono hle1))
 refine E1 ?_
 (refine F4 rfl hF rfl rfl (fun v G2 hle2 hh => ?_); obtain ⟨cs2, F2, rfl, hs2, hn2⟩ := hh; obtain ⟨p2, c2, rfl, _⟩ := hs2.open; replace hsl := hsl.mono (hle1.trans hle2); replace hkl := hkl.mono (hle1.trans hle2))
 refine N3 ?_
 refine C2 ?_
 (refine X1 28 9 ?_; refine L8 (fun (x : Nat × Option Addr × Nat × List (List Value) × List Nat × IM) => ⟨[(4, .int .i64 x.1), (3, .pointer (some ⟨b10, 0, none⟩)), (1, .pointer (some ⟨b3, 0, none⟩)), (2, .pointer (some ⟨b4, 0, none⟩))], [.blk b10 [.int .i64 k, .string nm, .int .i64 num, .int .i64 tk, .slice p1 tks.length c1, .int .i64 fk, .slice p2 fks.length c2, .int .i64 lb, .slice x.2.1 x.1 x.2.2.1], .slc x.2.1 x.2.2.1 28 9 x.1 x.2.2.2.1.flatten, .blk b4 [.int .i64 0, .string ⟨⟨[]⟩⟩, .int .i64 0, .int .i64 0, .slice none 0 0, .int .i64 0, .slice none 0 0, .int .i64 0, .slice none 0 0], .blk b3 [.int .i64 k, .string nm, .int .i64 num, .int .i64 tk, .slice pt tks.length ct, .int .i64 fk, .slice pf fks.length cf, .int .i64 lb, .slice p ks.length c]], x.2.2.2.2.2⟩) (fun x => x.1 ≤ ks.length ∧ B9 G2 x.2.2.2.2.2 ∧ P1 (E0 x.2.2.2.2.2 G2) (ks.take x.1) x.2.2.2.1 x.2.2.2.2.1 ∧ x.2.2.2.2.1.Nodup) (fun x => ks.length - x.1) (0, none, 0, [], [], G2) ?_ ?_ ?_)
 (simp only [I9]; exact F8)
 exact ⟨by simp, B9.refl _, by simp [P1], by simp⟩
 (rintro ⟨i, pn, cn, es', F, Gi⟩ ⟨hi, hle, hst, hnd⟩; simp only [] at hi hle hst hnd ⊢; replace hsl := hsl.mono hle; replace hkl := hkl.mono hle)
 refine B0 ?_
 refine sB (N5 rfl rfl) rfl rfl (fun h56 => ?_) (fun h56 => ?_)
 refine A9 ?_
 refine C2 ?_
 (obtain ⟨b, o, e, rfl, hl, hat, hre, hgb⟩ := hsl.kidTm hkl (i := i) zR0 zR0; have hone := hre.one; refine D3 D4 rfl ?_)
 refine J4 (i := 0) (l' := [tt,ff,ff,ff,ff,ff,ff,ff,ff,ff,ff,ff]) rfl C8 (C3 rfl) rfl zP0 rfl rfl ?_
 refine aL 1 rfl (F0 rfl rfl) rfl ?_
 refine aP 2 rfl (C3 rfl) rfl ?_
 refine aL 3 rfl (F0 rfl rfl) rfl ?_
 refine aP 4 rfl (qM rfl) rfl ?_
 refine aP 5 rfl (B8 rfl rfl rfl zR0) rfl ?_
 refine aL 6 rfl (A5 rfl rfl (hat _) hl) rfl ?_
 refine A2 7 ?_
 (refine H1 rfl rfl (ih ks[i] (List.getElem_mem zR0) _ _ (Tm.smallL_mem hks _ (List.getElem_mem zR0)) hre) rfl rfl rfl (fun v G3 hle3 hh => ?_); obtain ⟨cells', F', rfl, hs', hnd'⟩ := hh; obtain ⟨qt, dt, et', qf, df, ef', q3, d3, es3, rfl, _⟩ := hs'.R.open)
 refine A2 8 ?_
 (refine D2 rfl (D1 rfl rfl rfl zR0 zL0 rfl) rfl rfl ?_; rintro _ ⟨b75, rfl⟩)
 refine A2 9 ?_
 refine P0 rfl rfl rfl rfl rfl rfl (fun _ _ => by repeat (first | exact Sw.here | apply Sw.there)) (K4 zI0) rfl zK0 zL0 zR0 rfl rfl zR (fun pn' cn' => ?_)
 refine aP 10 rfl (C3 rfl) rfl ?_
 refine A2 11 ?_
 refine T7 rfl rfl rfl rfl rfl rfl rfl rfl zP0 zF0 (by rfl) ?_
 refine A8 ?_
 refine sP (K0 rfl rfl zR0 zR0) rfl rfl ?_
 refine A4 ?_
 refine J7 (i + 1, pn', cn', es' ++ [[.int .i64 ks[i].k, .string ks[i].nm, .int .i64 ks[i].num, .int .i64 ks[i].ty.k, .slice qt ks[i].ty.ks.length dt, .int .i64 ks[i].fr.k, .slice qf ks[i].fr.ks.length df, .int .i64 ks[i].lb, .slice q3 ks[i].ks.length d3]], F ++ F', G3) ?_ ?_ ?_
 (simp only [I9]; exact F8)
 exact ⟨by omega, hle.trans hle3, P1.step hst hnd hle hle3 zR0 hs' hnd'⟩
 (show ks.length - (i + 1) < ks.length - i; omega)
 refine M8 ?_
 (refine J6 zD0 (fun G4 hle4 hsl4 hno4 => ?_); obtain rfl : i = ks.length := zR0)
 refine tT ?_
 refine P5 (rC rfl (A3 rfl rfl)) ?_
 (rw [List.take_length] at hst; obtain ⟨F3, hf1, hf2⟩ := A1V.fin hst hnd hle hle4 hsl4 hno4; obtain ⟨F5, hg1, hg2⟩ := Q3.mk3 (nm := nm) hk hnum hlb hle1 hle2 (hle.trans hle4) hs1 hn1 hs2 hn2 hf1 hf2; exact ⟨rfl, _, F5, rfl, hg1, hg2⟩)
def S0 : Ty := .mk 1 []
def T8 : Nat → Ty → Prop
 | 0, .mk k ks => ks = [] ∧ k ≠ 4 ∧ k ≠ 5
 | n + 1, .mk k ks => (k = 4 ∨ k = 5 → ks.length = 2) ∧ (k ≠ 4 → k ≠ 5 → ks.length = 0) ∧ ∀ t ∈ ks, T8 n t
mutual
def I4 : Ty → Prop
 | .mk k ks => (k = 4 ∨ k = 5 → ks.length = 2) ∧ (k ≠ 4 → k ≠ 5 → ks.length = 0) ∧ A1C ks
def A1C : List Ty → Prop
 | [] => True
 | t :: ts => I4 t ∧ A1C ts
end
theorem A4L : ∀ {ts : List Ty}, A1C ts ↔ ∀ t ∈ ts, I4 t
 | [] => by simp [A1C]
 | t :: ts => by simp only [A1C, A4L (ts := ts), List.forall_mem_cons]
theorem T8.ar : ∀ {n : Nat} {t : Ty}, T8 n t → I4 t
 | 0, .mk k ks, h => by
  obtain ⟨rfl, h1, h2⟩ := h
  rw [I4]
  exact ⟨fun h => by omega, fun _ _ => rfl, by rw [A1C]; trivial⟩
 | n + 1, .mk k ks, h => by
  obtain ⟨h1, h2, h3⟩ := h
  rw [I4]
  exact ⟨h1, h2, A4L.2 fun t ht => (h3 t ht).ar⟩
theorem T8.up : ∀ {n : Nat} {t : Ty}, T8 n t → T8 (n + 1) t
 | 0, .mk k ks, h => by
  obtain ⟨rfl, h1, h2⟩ := h
  exact ⟨fun h => by omega, fun _ _ => rfl, by simp⟩
 | n + 1, .mk k ks, h => by
  obtain ⟨h1, h2, h3⟩ := h
  exact ⟨h1, h2, fun t ht => (h3 t ht).up⟩
theorem T8.le {n m : Nat} {t : Ty} (h : T8 n t) (hm : n ≤ m) : T8 m t := by
 induction hm with
 | refl => exact h
 | step _ ih => exact ih.up
theorem B4c {d : Nat} {k : Int} {ts : List Ty} (h0 : d = 0 → k < 4) (hl : (ts.length : Int) = Y6 k) (h1 : 1 ≤ k) (h5 : k ≤ 5) (ha : ∀ u ∈ ts, T8 (d - 1) u) : T8 d (.mk k ts) := by
 have hk : k = 1 ∨ k = 2 ∨ k = 3 ∨ k = 4 ∨ k = 5 := by omega
 cases d with
 | zero =>
  have hk4 := h0 rfl
  refine ⟨?_, by omega, by omega⟩
  have : Y6 k = 0 := by
   rcases hk with rfl | rfl | rfl | rfl | rfl <;> first | rfl | omega
  exact List.length_eq_zero_iff.1 zR0
 | succ d =>
  refine ⟨?_, ?_, ha⟩
  ·rintro (rfl | rfl)
   ·have : Y6 4 = 2 := rfl
    omega
   ·have : Y6 5 = 2 := rfl
    omega
  ·intro h4 h5
   have : Y6 k = 0 := by
    rcases hk with rfl | rfl | rfl | rfl | rfl <;> first | rfl | omega
   omega
theorem A9w (n : Nat) : T8 n S0 := by
 refine T8.le (n := 0) ⟨rfl, by decide, by decide⟩ (Nat.zero_le n)
theorem A31 (n : Nat) {k : Int} (h4 : k ≠ 4) (h5 : k ≠ 5) : T8 n (.mk k []) := T8.le (n := 0) ⟨rfl, h4, h5⟩ (Nat.zero_le n)
theorem A4M : I4 S0 := (A9w 0).ar
mutual
theorem I4.small : ∀ {t : Ty}, I4 t → t.small
 | .mk k ks, h => by
  rw [I4] at h
  rw [Ty.small]
  exact ⟨by have h1 := h.1; have h2 := h.2.1; omega, A1C.small h.2.2⟩
theorem A1C.small : ∀ {ts : List Ty}, A1C ts → Ty.smallL ts
 | [], _ => by rw [Ty.smallL]; trivial
 | t :: ts, h => by
  rw [A1C] at h
  rw [Ty.smallL]
  exact ⟨h.1.small, A1C.small h.2⟩
end
theorem A5T : ∀ {n : Nat} {t : Ty}, T8 n t → M4 t ≤ ((2 ^ (n + 1) - 2 : Nat) : Int)
 | 0, .mk k ks, h => by
  obtain ⟨rfl, h1, h2⟩ := h
  rw [M4, Q8]; simp
 | n + 1, .mk k ks, h => by
  obtain ⟨h1, h2, h3⟩ := h
  have hp : 2 ≤ 2 ^ (n + 1) := by
   have := Nat.pow_le_pow_right (n := 2) zR0 (show 1 ≤ n + 1 by omega)
   simpa using this
  have e : 2 ^ (n + 1 + 1) = 2 ^ (n + 1) * 2 := Nat.pow_succ ..
  have hl : ks.length = 0 ∨ ks.length = 2 := by omega
  rw [M4]
  match ks, hl, h3 with
  | [], _, _ => rw [Q8]; simp
  | [a, b], _, h3 =>
   have := A5T (h3 a zS0)
   have := A5T (h3 b zS0)
   simp only [Q8, List.length_cons, List.length_nil]; omega
theorem B4d {k : Int} {ks us : List Ty} : ∀ {n : Nat}, T8 n (.mk k ks) → us.length = ks.length → (∀ u ∈ us, T8 (n - 1) u) → T8 n (.mk k us)
 | 0, h, hl, _ => by
  obtain ⟨rfl, h1, h2⟩ := h
  exact ⟨List.length_eq_zero_iff.1 (by simpa using hl), h1, h2⟩
 | n + 1, h, hl, hu => by
  obtain ⟨h1, h2, h3⟩ := h
  exact ⟨fun hk => by rw [hl]; exact h1 hk, fun a b => by rw [hl]; exact h2 a b, hu⟩
theorem A7g {k : Int} {ks : List Ty} {t : Ty} : ∀ {n : Nat}, T8 n (.mk k ks) → t ∈ ks → T8 (n - 1) t
 | 0, h, ht => by
  obtain ⟨rfl, h1, h2⟩ := h
  simp at ht
 | n + 1, h, ht => h.2.2 t ht
section take
variable {P : Program} {Γ : N7} {env : O6} {hp : List A7} {G : IM} {K : Po} {ops : Array Oper} {rest : List Oper} {ty : TypeId} {pos : String} {af : Array Edge} {gd : Option (Nat × Bool)}
theorem L5 {d : Nat} {f : FuncId} [hF : C4 P f] {xs : List Operand} {ats : Array TypeId} {vs : List Value} {ins rst : List A7} {post : IM → Value → List A7 → Prop}
  (hx : evl env xs = some vs) (h : Fn P f vs ins G post) (hp' : hp.Perm (ins ++ rst)) (hw : O2 ops env gd = some true) (hd : Nat.blt d Γ.n = true)
  (k : ∀ v G' outs, B9 G G' → post G' v outs → I1 P Γ ops rest K ⟨(d, v) :: env, outs ++ rst, G'⟩) : I1 P Γ ops (⟨some d, .call ⟨.value (.func f), ⟨xs⟩, ats⟩, ty, pos, af, gd⟩ :: rest) K ⟨env, hp, G⟩ :=
 J8 (A4B hx h hp' hd) hw (by rintro _ ⟨v, G', outs, rfl, hle, hq⟩; exact k v G' outs hle hq)
end take
theorem A08 (G : IM) (br : Nat) (pb : Option Addr) (nb cb p : Nat) (bs : List UInt8) (q : Option Addr) (n c : Nat) (xs : List Value) (hb : Sl G pb nb cb 1 (R4 bs)) (hnb : nb ≤ 2000) (hp : p < 1099511627776) (hx : Sl G q n c 1 xs) (hn : 0 < n) :
  Fn Tryz.prog 72 [.pointer (some ⟨br, 0, none⟩), .slice q n c] [rd br pb nb cb p] G (fun G' v outs => G' = G ∧ outs = [rd br pb nb cb (p + 1)] ∧ v ∈ xs) := by
 refine C0 Tryz.func72 rfl Tryz.ntmps72 Tryz.results72 rfl ?_
 intro w0
 exact y4
theorem A7h (G : IM) (br : Nat) (pb : Option Addr) (nb cb p : Nat) (bs : List UInt8) (q : Option Addr) (n c : Nat) (xs : List Value) (hb : Sl G pb nb cb 1 (R4 bs)) (hnb : nb ≤ 2000) (hp : p < 1099511627776) (hx : Sl G q n c 1 xs) (hn : 0 < n) :
  Fn Tryz.prog 73 [.pointer (some ⟨br, 0, none⟩), .slice q n c] [rd br pb nb cb p] G (fun G' v outs => G' = G ∧ outs = [rd br pb nb cb (p + 1)] ∧ v ∈ xs) := by
 refine C0 Tryz.func73 rfl Tryz.ntmps73 Tryz.results73 rfl ?_
 intro w0
 exact y4
theorem A2M (G : IM) : Fn Tryz.prog 50 [] [] G (K7 (.agg ⟨[.int .i64 1, .slice none 0 0]⟩) G) := by
 refine C0 Tryz.func50 rfl Tryz.ntmps50 Tryz.results50 rfl ?_
 intro w0
 refine A4 ?_
 refine sE (A6 rfl) rfl (fun b3 => ?_)
 refine E7 ?_
 refine P5 (rC rfl (A3 rfl rfl)) ?_
 exact ⟨rfl, rfl, rfl⟩
def dB : Nat → Nat
 | 0 => 0
 | d + 1 => 2 * dB d + 2
theorem B4e {d : Nat} (h : d ≤ 3) : dB (d + 1) ≤ 30 := by
 have : d = 0 ∨ d = 1 ∨ d = 2 ∨ d = 3 := by omega
 rcases this with rfl | rfl | rfl | rfl <;> decide
theorem B4f (k : Int) : Y6 k ≤ 2 := by
 unfold Y6; split <;> try split
 all_goals omega
theorem A5U : ∀ (ts : List Ty) (t : Ty), Q8 (ts ++ [t]) = Q8 ts + M4 t
 | [], t => by simp [Q8]
 | a :: ts, t => by simp only [List.cons_append, Q8, A5U ts t]; omega
theorem D9.ty {G : IM} {k : Int} {ts : List Ty} {es : List (List Value)} {p : Option Addr} {n c : Nat} (h : D9 G ts es) (hn : ts.length = n) (hs : Sl G p n c 2 es.flatten) (hk : H6 k) : C7 G (.mk k ts) [.int .i64 k, .slice p n c] := by
 subst hn
 simp only [C7]
 exact ⟨p, c, es, rfl, hk, D7.of hs h.len h.all (fun e he => (h.each e he).2), h⟩
theorem A4N (br : Nat) (pb : Option Addr) (nb cb : Nat) (bs : List UInt8) (hnb : nb ≤ 2000) : ∀ (d p : Nat) (G : IM), d ≤ 1000 → Sl G pb nb cb 1 (R4 bs) → p + dB (d + 1) < 1099511627776 →
  Fn Tryz.prog 77 [.pointer (some ⟨br, 0, none⟩), .int .i64 ((d + 1 : Nat) : Int)] [rd br pb nb cb p] G
   (A1o br pb nb cb p (dB (d + 1)) (fun G' v => ∃ t cells, v = .agg ⟨cells⟩ ∧ C7 G' t cells ∧ M4 t ≤ ((dB (d + 1) : Nat) : Int) ∧ T8 d t)) := by
 refine fun d => Nat.strongRecOn d fun d ih p G hd hb hp => ?_
 rw [dB] at hp ⊢
 refine C0 Tryz.func77 rfl Tryz.ntmps77 Tryz.results77 rfl ?_
 intro w0
 refine A4 ?_
 refine sE (A6 rfl) rfl (fun b3 => ?_)
 refine A8 ?_
 (refine J8 (D1 rfl rfl rfl zR0 zL0 rfl) rfl ?_; rintro _ ⟨b9, rfl⟩)
 (refine X9 zD0 (fun G1 hle1 hsl1 _ => ?_); refine L5 rfl (A08 G1 br pb nb cb p bs _ _ _ _ (hb.mono hle1) hnb zR0 hsl1 zQ0) (Pk.perm zD0) rfl rfl (fun v G2 outs hle2 hh => ?_); obtain ⟨rfl, rfl, hv⟩ := hh; replace hb := hb.mono hle1; obtain ⟨k, rfl, hk1⟩ : ∃ k, v = .int .i64 k ∧ 1 ≤ k ∧ k ≤ 5 := (by simp only [List.mem_cons, List.not_mem_nil, or_false] at hv; rcases hv with rfl | rfl | rfl | rfl | rfl | rfl | rfl <;> exact ⟨_, rfl, by decide, by decide⟩))
 refine A8 ?_
 (have hv' := hv; refine A0V (fun (x : Bool) => ⟨(16, .bool x) :: [(5, .int .i64 k), (4, .pointer (some ⟨b3, 0, none⟩)), (0, .pointer (some ⟨br, 0, none⟩)), (1, .int .i64 ((d + 1 : Nat) : Int))], [rd br pb nb cb (p + 1), .blk b3 [.int .i64 0, .slice none 0 0]], G2⟩) (fun x => x = false → d = 0 → k < 4) ?_ ?_)
 refine A4 ?_
 refine sB (N5 rfl rfl) rfl rfl (fun h19 => ?_) (fun h19 => ?_)
 refine A4 ?_
 refine sB (A1w rfl rfl) rfl rfl (fun h22 => ?_) (fun h22 => ?_)
 refine A4 ?_
 refine O7 true (I6 zC0 zV) ?_
 (show _ = false → d = 0 → k < 4; intro hf h0; first | exact absurd hf zQ0 | omega)
 refine A4 ?_
 refine O7 false (I6 zC0 zV) ?_
 (show _ = false → d = 0 → k < 4; intro hf h0; first | exact absurd hf zQ0 | omega)
 refine A8 ?_
 refine O7 false (I6 zC0 zV) ?_
 (show _ = false → d = 0 → k < 4; intro hf h0; first | exact absurd hf zQ0 | omega)
 (rintro x hx; clear hv)
 (show L3 _ _ (.cond (.tmp 16) _ _) _ _; refine A0V (fun (x : Int) => ⟨[(5, .int .i64 x), (4, .pointer (some ⟨b3, 0, none⟩)), (0, .pointer (some ⟨br, 0, none⟩)), (1, .int .i64 ((d + 1 : Nat) : Int))], [rd br pb nb cb (p + 1), .blk b3 [.int .i64 0, .slice none 0 0]], G2⟩) (fun x => 1 ≤ x ∧ x ≤ 5 ∧ (d = 0 → x < 4)) (A5r rfl (fun hxt => ?_) (fun hxf => ?_)) ?_)
 refine C1 ?_
 refine O7 1 (I6 zC0 zV) ?_
 (first | exact ⟨by omega, by omega, by omega⟩ | exact ⟨by omega, by omega, fun h0 => by have := hx hxf h0; omega⟩)
 refine tK ?_
 refine O7 k (I6 zC0 zV) ?_
 (first | exact ⟨by omega, by omega, by omega⟩ | exact ⟨by omega, by omega, fun h0 => by have := hx hxf h0; omega⟩)
 (rintro kk ⟨hk2, hk3, hk4⟩; have hop := B4f kk; have hk5 := (Q0 kk).1; have hk6 := (Q0 kk).2.1; have hK := A9t kk)
 refine B5 ?_
 refine sE (A6 rfl) rfl (fun b53 => ?_)
 refine E7 ?_
 refine C2 ?_
 (refine X1 25 2 ?_; refine L8 (fun (x : Nat × Option Addr × Nat × List Ty × List (List Value) × Nat × IM) => ⟨[(7, .int .i64 x.1), (5, .int .i64 kk), (6, .pointer (some ⟨b53, 0, none⟩)), (4, .pointer (some ⟨b3, 0, none⟩)), (0, .pointer (some ⟨br, 0, none⟩)), (1, .int .i64 ((d + 1 : Nat) : Int))], [.blk b53 [.int .i64 kk, .slice x.2.1 x.1 x.2.2.1], .slc x.2.1 x.2.2.1 25 2 x.1 x.2.2.2.2.1.flatten, rd br pb nb cb x.2.2.2.2.2.1, .blk b3 [.int .i64 0, .slice none 0 0]], x.2.2.2.2.2.2⟩) (fun x => (∀ u ∈ x.2.2.2.1, T8 (d - 1) u) ∧ (x.1 : Int) ≤ Y6 kk ∧ B9 G2 x.2.2.2.2.2.2 ∧ x.2.2.2.1.length = x.1 ∧ D9 x.2.2.2.2.2.2 x.2.2.2.1 x.2.2.2.2.1 ∧ Q8 x.2.2.2.1 ≤ ((x.1 * dB d : Nat) : Int) ∧ p + 1 ≤ x.2.2.2.2.2.1 ∧ x.2.2.2.2.2.1 ≤ p + 1 + x.1 * dB d) (fun x => (Y6 kk).toNat - x.1) (0, none, 0, [], [], p + 1, G2) ?_ ?_ ?_)
 (simp only [I9]; exact F8)
 (exact ⟨by simp, by dsimp only; omega, B9.refl _, rfl, by simp [D9], by simp [Q8], by dsimp only; omega, by dsimp only; omega⟩)
 (rintro ⟨i, pn, cn, ts, es', p', Gi⟩ ⟨hah, hi, hle, hlt, hst, hsum, hq1, hq2⟩; simp only [] at hah hi hle hlt hst hsum hq1 hq2 ⊢; have hid : i * dB d ≤ 2 * dB d := Nat.mul_le_mul_right _ zR0)
 refine A8 ?_
 refine H4 rfl ((hK _)) rfl rfl ?_
 refine sB (N5 rfl rfl) rfl rfl (fun h74 => ?_) (fun h74 => ?_)
 refine A9 ?_
 refine C2 ?_
 (obtain ⟨d', rfl⟩ : ∃ d', d = d' + 1 := ⟨d - 1, by omega⟩; have hih := ih d' zR0 p' Gi zR0 (hb.mono hle) (by have := Nat.mul_le_mul_right (dB (d' + 1)) (show i + 1 ≤ 2 by omega); rw [Nat.succ_mul] at this; omega); refine D3 D4 rfl ?_)
 refine J4 (i := 0) (l' := [tt,ff,ff,ff,ff,ff,ff,ff,ff,ff]) rfl C8 (C3 rfl) rfl zP0 rfl rfl ?_
 refine aL 1 rfl (F0 rfl rfl) rfl ?_
 refine aP 2 rfl (qM rfl) rfl ?_
 refine aP 3 rfl (qM rfl) rfl ?_
 refine aP 4 rfl (A5N rfl rfl zR0) rfl ?_
 refine A2 5 ?_
 (refine A0M (l' := [tt,tt,tt,tt,tt,tt,ff,ff,ff,ff]) rfl rfl hih (Pk.perm zD0) rfl rfl rfl zR (fun v G3 outs hle3 hh => ?_); obtain ⟨p3, hp31, hp32, rfl, t3, cells3, rfl, hr3, hs3, ha3⟩ := hh; obtain ⟨q3, c3, es3, rfl, _⟩ := hr3.open)
 refine A2 6 ?_
 (refine D2 rfl (D1 rfl rfl rfl zR0 zL0 rfl) rfl rfl ?_; rintro _ ⟨b91, rfl⟩)
 refine A2 7 ?_
 refine P0 rfl rfl rfl rfl rfl rfl (fun _ _ => by repeat (first | exact Sw.here | apply Sw.there)) (K4 zI0) rfl zK0 zL0 zR0 rfl rfl zR (fun pn' cn' => ?_)
 refine aP 8 rfl (C3 rfl) rfl ?_
 refine A2 9 ?_
 refine T7 rfl rfl rfl rfl rfl rfl rfl rfl zP0 zF0 (by rfl) ?_
 refine A8 ?_
 refine sP (K0 rfl rfl zR0 zR0) rfl rfl ?_
 refine A4 ?_
 refine J7 (i + 1, pn', cn', ts ++ [t3], es' ++ [[.int .i64 t3.k, .slice q3 t3.ks.length c3]], p3, G3) ?_ ?_ ?_
 (simp only [I9]; exact F8)
 (dsimp only; have e1 : (i + 1) * dB (d' + 1) = i * dB (d' + 1) + dB (d' + 1) := Nat.succ_mul _ _; have e2 := A5U ts t3; exact ⟨by simp only [List.forall_mem_append, List.forall_mem_singleton]; exact ⟨hah, ha3⟩, by omega, hle.trans hle3, by simp [hlt], D9.snoc (hst.mono hle3) hr3, by omega, by omega, by omega⟩)
 (show (Y6 kk).toNat - (i + 1) < (Y6 kk).toNat - i; omega)
 refine M8 ?_
 (refine J6 zD0 (fun G5 hle5 hsl5 hno5 => ?_))
 refine tT ?_
 refine H8 (outs := [rd br pb nb cb p']) (rC rfl (A3 rfl rfl)) zA0 ?_
 (refine ⟨p', by omega, by omega, rfl, .mk kk ts, _, rfl, (hst.mono hle5).ty hlt hsl5 ⟨by omega, by omega⟩, ?_, B4c hk4 zR0 hk2 hk3 hah⟩; rw [M4]; omega)
theorem A9x (br : Nat) (pb : Option Addr) (nb cb : Nat) (bs : List UInt8) (hnb : nb ≤ 2000) (d p : Nat) (G : IM) (hd : d ≤ 1000) (hb : Sl G pb nb cb 1 (R4 bs)) (hp : p + dB (d + 1) < 1099511627776) :
  Fn Tryz.prog 77 [.pointer (some ⟨br, 0, none⟩), .int .i64 ((d + 1 : Nat) : Int)] [rd br pb nb cb p] G
   (A1o br pb nb cb p (dB (d + 1)) (fun G' v => ∃ t cells, v = .agg ⟨cells⟩ ∧ C7 G' t cells ∧ M4 t ≤ ((dB (d + 1) : Nat) : Int))) :=
 (A4N br pb nb cb bs hnb d p G hd hb hp).mono fun G' v outs _ ⟨p', h1, h2, h3, t, cells, h4, h5, h6, _⟩ => ⟨p', h1, h2, h3, t, cells, h4, h5, h6⟩
abbrev pt (b : Nat) : Value := .pointer (some ⟨b, 0, none⟩)
def ev : Option Nat → Value
 | none => .pointer none
 | some b => pt b
inductive NC where
 | vr (n : Nat)
 | bs (c : Bool)
 | tw (c : Bool) (x y : Nat)
abbrev VM := List (Nat × NC)
def A1D (E : Nat → Option Nat) : NC → List Value
 | .vr n => [.int .i64 0, ev (E n), .pointer none, .pointer none]
 | .bs c => [.int .i64 (if c = true then 3 else 2), .pointer none, .pointer none, .pointer none]
 | .tw c x y => [.int .i64 (if c = true then 5 else 4), .pointer none, pt x, pt y]
def H5 (M : VM) (E : Nat → Option Nat) : List A7 := A0T (M.map fun q => (q.1, A1D E q.2))
def K9 (M : VM) : SV → Nat → Prop
 | .v n, b => (b, .vr n) ∈ M
 | .b c, b => (b, .bs c) ∈ M
 | .t c x y, b => ∃ bx bz, (b, .tw c bx bz) ∈ M ∧ K9 M x bx ∧ K9 M y bz
def A09 (M : VM) (B : BV) (E : Nat → Option Nat) : Prop := ∀ b n, (b, NC.vr n) ∈ M → (B n = none ∧ E n = none) ∨ ∃ s b', B n = some s ∧ E n = some b' ∧ K9 M s b'
theorem K9.mono {M M' : VM} (hM : ∀ q ∈ M, q ∈ M') : ∀ {s : SV} {b : Nat}, K9 M s b → K9 M' s b
 | .v _, _, h => hM _ h
 | .b _, _, h => hM _ h
 | .t _ _ _, _, h => by
  obtain ⟨bx, bz, h1, h2, h3⟩ := h
  exact ⟨bx, bz, hM _ h1, K9.mono hM h2, K9.mono hM h3⟩
theorem B4g (M : VM) (E : Nat → Option Nat) : Fp (H5 M E) = M.map Prod.fst := by
 unfold H5
 rw [A3X, List.map_map]; rfl
theorem W1 {M : VM} {E : Nat → Option Nat} {q : Nat × NC} (h : q ∈ M) : A7.blk q.1 (A1D E q.2) ∈ H5 M E :=
 A8W (p := (q.1, A1D E q.2)) (List.mem_map.2 ⟨q, h, rfl⟩)
theorem B4h {P : Program} {f : FuncId} {args : List Value} {M : VM} {E : Nat → Option Nat} (X : List A7) {G : IM} {post : IM → Value → List A7 → Prop}
  (h : (M.map Prod.fst).Nodup → Fn P f args (X ++ H5 M E) G post) : Fn P f args (X ++ H5 M E) G post :=
 ⟨fun w hw => (h (by
   have := hw.nodup
   rw [A0I, B4g, List.nodup_append] at this
   exact this.2.1)).run w hw⟩
theorem A1E {α β : Type} {M : List (α × β)} (h : (M.map Prod.fst).Nodup) : ∀ {b : α} {n m : β}, (b, n) ∈ M → (b, m) ∈ M → n = m := by
 induction M with
 | nil => intro n m b h1; cases h1
 | cons q M ih =>
  intro b n m h1 h2
  simp only [List.map_cons, List.nodup_cons] at h
  rcases List.mem_cons.1 h1 with e1 | g1 <;> rcases List.mem_cons.1 h2 with e2 | g2
  ·rw [← e1] at e2; cases e2; rfl
  ·exact absurd (List.mem_map_of_mem (f := Prod.fst) g2) (by rw [← e1] at h; exact h.1)
  ·exact absurd (List.mem_map_of_mem (f := Prod.fst) g1) (by rw [← e2] at h; exact h.1)
  ·exact ih h.2 g1 g2
theorem K9.inj {M : VM} (hK : (M.map Prod.fst).Nodup) : ∀ {s s' : SV} {b : Nat}, K9 M s b → K9 M s' b → s = s'
 | .v n, .v m, b, h, h' => by cases A1E hK h h'; rfl
 | .v n, .b c, b, h, h' => by cases A1E hK h h'
 | .v n, .t c x y, b, h, h' => by obtain ⟨_, _, h2, _⟩ := h'; cases A1E hK h h2
 | .b c, .v m, b, h, h' => by cases A1E hK h h'
 | .t c x y, .v m, b, h, h' => by obtain ⟨_, _, h2, _⟩ := h; cases A1E hK h2 h'
 | .b c, .b c', b, h, h' => by cases A1E hK h h'; rfl
 | .b c, .t c' x y, b, h, h' => by obtain ⟨_, _, h2, _⟩ := h'; cases A1E hK h h2
 | .t c x y, .b c', b, h, h' => by obtain ⟨_, _, h2, _⟩ := h; cases A1E hK h2 h'
 | .t c x y, .t c' x' y', b, h, h' => by
  obtain ⟨p, q, h1, h2, h3⟩ := h
  obtain ⟨p', q', h1', h2', h3'⟩ := h'
  cases A1E hK h1 h1'
  rw [K9.inj hK h2 h2', K9.inj hK h3 h3']
inductive HdN (B : BV) : Nat → SV → SV → Prop
 | free {n} : B n = none → HdN B 0 (.v n) (.v n)
 | link {k n s r} : B n = some s → HdN B k s r → HdN B (k + 1) (.v n) r
 | nv {s} : s.nv = true → HdN B 0 s s
theorem Hd.n {B : BV} {s r : SV} (h : Hd B s r) : ∃ k, HdN B k s r := by
 induction h with
 | free h => exact ⟨0, .free h⟩
 | link h _ i => obtain ⟨k, hk⟩ := i; exact ⟨k + 1, .link h hk⟩
 | nv h => exact ⟨0, .nv h⟩
theorem K9.rd {M : VM} {B : BV} {E : Nat → Option Nat} (hV : A09 M B E) {s : SV} {b : Nat} (h : K9 M s b) :
  ∃ e pa pb, A7.blk b [.int .i64 s.kd, ev e, ev pa, ev pb] ∈ H5 M E ∧
   ((∃ n, s = .v n ∧ B n = none ∧ e = none ∧ pa = none ∧ pb = none) ∨ (∃ n u b', s = .v n ∧ B n = some u ∧ e = some b' ∧ K9 M u b' ∧ pa = none ∧ pb = none) ∨
    (∃ c, s = .b c ∧ e = none ∧ pa = none ∧ pb = none) ∨ ∃ c x y bx bz, s = .t c x y ∧ e = none ∧ pa = some bx ∧ pb = some bz ∧ K9 M x bx ∧ K9 M y bz) := by
 cases s with
 | v n =>
  have hm : (b, .vr n) ∈ M := h
  refine ⟨E n, none, none, W1 hm, ?_⟩
  rcases hV _ _ hm with ⟨h1, h2⟩ | ⟨u, b', h1, h2, h3⟩
  ·exact .inl ⟨n, rfl, h1, h2, rfl, rfl⟩
  ·exact .inr (.inl ⟨n, u, b', rfl, h1, h2, h3, rfl, rfl⟩)
 | b c =>
  have hm : (b, .bs c) ∈ M := h
  exact ⟨none, none, none, W1 hm, .inr (.inr (.inl ⟨c, rfl, rfl, rfl, rfl⟩))⟩
 | t c x y =>
  obtain ⟨bx, bz, h1, h2, h3⟩ := h
  exact ⟨none, some bx, some bz, W1 h1, .inr (.inr (.inr ⟨c, x, y, bx, bz, rfl, rfl, rfl, rfl, h2, h3⟩))⟩
theorem K9.blk {M : VM} {E : Nat → Option Nat} {s : SV} {b : Nat} (h : K9 M s b) : ∃ cs, A7.blk b cs ∈ H5 M E := by
 cases s with
 | v n => exact ⟨_, W1 (q := (b, .vr n)) h⟩
 | b c => exact ⟨_, W1 (q := (b, .bs c)) h⟩
 | t c x y => obtain ⟨bx, bz, h1, _⟩ := h; exact ⟨_, W1 h1⟩
def A1F (E : Nat → Option Nat) (n b : Nat) : Nat → Option Nat := fun m => if m = n then some b else E m
def Nm1 (M : VM) : Prop := ∀ b b' n, (b, NC.vr n) ∈ M → (b', NC.vr n) ∈ M → b = b'
theorem A9y {E : Nat → Option Nat} {n b bs : Nat} : ∀ {M : VM}, (M.map Prod.fst).Nodup → Nm1 M → (b, NC.vr n) ∈ M →
  Sw (H5 M E) (.blk b [.int .i64 0, ev (E n), .pointer none, .pointer none]) (.blk b [.int .i64 0, pt bs, .pointer none, .pointer none]) (H5 M (A1F E n bs))
 | [], _, _, h => by cases h
 | q :: M, hn, h1, h => by
  simp only [List.map_cons, List.nodup_cons] at hn
  have key : ∀ c : NC, c ≠ .vr n → A1D (A1F E n bs) c = A1D E c := fun c hc => by
   cases c with
   | vr m =>
    have : m ≠ n := fun e => hc (by rw [e])
    simp [A1D, A1F, this]
   | bs c => rfl
   | tw c x y => rfl
  rcases List.mem_cons.1 h with he0 | hm
  ·subst he0
   have he : H5 M (A1F E n bs) = H5 M E := by
    unfold H5
    congr 1
    apply List.map_congr_left
    intro q hq
    rw [key]
    intro hc
    obtain ⟨b', c'⟩ := q
    dsimp only at hc
    subst hc
    have := h1 b b' n List.mem_cons_self (List.mem_cons_of_mem _ hq)
    subst this
    exact hn.1 (List.mem_map_of_mem (f := Prod.fst) hq)
   have h2 : H5 ((b, NC.vr n) :: M) (A1F E n bs) = .blk b [.int .i64 0, pt bs, .pointer none, .pointer none] :: H5 M (A1F E n bs) := by
    simp [H5, A0T, A1D, A1F, ev]
   rw [h2, he]
   exact Sw.here
  ·have hq : q.2 ≠ .vr n := fun hc => by
    obtain ⟨b', c'⟩ := q
    dsimp only at hc
    subst hc
    have := h1 b' b n List.mem_cons_self (List.mem_cons_of_mem _ hm)
    subst this
    exact hn.1 (List.mem_map_of_mem (f := Prod.fst) hm)
   have h2 : H5 (q :: M) (A1F E n bs) = .blk q.1 (A1D E q.2) :: H5 M (A1F E n bs) := by
    rw [← key _ hq]; rfl
   rw [h2]
   exact Sw.there (A9y hn.2 (fun a a' m ha ha' => h1 a a' m (List.mem_cons_of_mem _ ha) (List.mem_cons_of_mem _ ha')) hm)
theorem A09.put {M : VM} {B : BV} {E : Nat → Option Nat} {n bs : Nat} {s : SV} (h : A09 M B E) (hs : K9 M s bs) : A09 M (A01 B n s) (A1F E n bs) := by
 intro b m hq
 unfold A01 A1F
 by_cases hn : m = n
 ·exact .inr ⟨s, bs, by rw [if_pos hn], by rw [if_pos hn], hs⟩
 ·rw [if_neg hn, if_neg hn]; exact h b m hq
section tail
variable {P : Program} {Γ : N7} {env : O6} {hp : List A7} {G : IM} {K : Po} {ops : Array Oper} {rest : List Oper} {ty : TypeId} {pos : String} {af : Array Edge} {gd : Option (Nat × Bool)}
theorem R0 {d : Nat} {f : FuncId} [hF : C4 P f] {xs : List Operand} {ats : Array TypeId} {vs : List Value} (X : List A7) {T R : List A7} {post : IM → Value → List A7 → Prop}
  (hx : evl env xs = some vs) (h : Fn P f vs T G post) (hR : R = X ++ T) (hw : O2 ops env gd = some true) (hd : Nat.blt d Γ.n = true)
  (k : ∀ v G' outs, B9 G G' → post G' v outs → I1 P Γ ops rest K ⟨(d, v) :: env, X ++ outs, G'⟩) : I1 P Γ ops (⟨some d, .call ⟨.value (.func f), ⟨xs⟩, ats⟩, ty, pos, af, gd⟩ :: rest) K ⟨env, R, G⟩ := by
 subst hR
 exact L5 hx h List.perm_append_comm hw hd (fun v G' outs hle hh => A3U List.perm_append_comm (k v G' outs hle hh))
inductive HmT (ops : Array Oper) (j : Nat) (G : IM) : List (Nat × Nat) → List (Nat × Nat) → Prop
 | nil : HmT ops j G [] []
 | dep {i b : Nat} {H H' : List (Nat × Nat)} : A0l ops j i = true → HmT ops j G H H' → HmT ops j G ((i, b) :: H) H'
 | im {i b : Nat} {H H' : List (Nat × Nat)} : A0l ops j i = false → G b ≠ none → HmT ops j G H H' → HmT ops j G ((i, b) :: H) ((i, b) :: H')
theorem HmT.spec {j : Nat} {H H' : List (Nat × Nat)} (h : HmT ops j G H H') : ∀ p ∈ H, A0l ops j p.1 = true ∨ G p.2 ≠ none := by
 induction h with
 | nil => intro p hp; cases hp
 | dep h1 _ i =>
  intro p hp
  rcases List.mem_cons.1 hp with rfl | hp
  ·exact .inl h1
  ·exact i p hp
 | im _ h2 _ i =>
  intro p hp
  rcases List.mem_cons.1 hp with rfl | hp
  ·exact .inr h2
  ·exact i p hp
theorem HmT.filter {j : Nat} {H H' : List (Nat × Nat)} (h : HmT ops j G H H') : H.filter (fun p => !A0l ops j p.1) = H' := by
 induction h with
 | nil => rfl
 | dep h1 _ i => rw [List.filter_cons, h1]; simpa using i
 | im h1 _ _ i => rw [List.filter_cons, h1]; simpa using i
theorem A22 {H H' : List (Nat × Nat)} {fuel : Nat} {listed l' : List Bool} {j d : Nat} {f : FuncId} [hF : C4 P f] {xs : List Operand} {ats : Array TypeId} {vs : List Value} {T R : List A7} {post : IM → Value → List A7 → Prop}
  (hi : ops[j]? = some ⟨some d, .call ⟨.value (.func f), ⟨xs⟩, ats⟩, ty, pos, af, gd⟩) (X : List A7)
  (hx : evl env xs = some vs) (h : Fn P f vs T G post) (hR : R = X ++ T) (hw : O2 ops env gd = some true) (hd : Nat.blt d Γ.n = true) (hl : listed.set j true = l')
  (k : ∀ v G' outs, B9 G G' → post G' v outs → N4 P Γ ops K H' fuel l' ⟨(d, v) :: env, X ++ outs, G'⟩)
  (hm : HmT ops j G H H' := by repeat (first | exact HmT.nil | apply HmT.dep zM0 | apply HmT.im zM0 zO0)) : W5 P Γ ops K H fuel listed j ⟨env, R, G⟩ := by
 subst hR
 refine A3W hi (A4B hx h List.perm_append_comm hd) hw hl (fun a w hs p hp => (hm.spec p hp).imp id fun hg hb => hg (hs.res.own.disj _ ?_)) hm.filter (by rintro _ ⟨v, G', outs, rfl, hle, hq⟩; exact A8U List.perm_append_comm (k v G' outs hle hq))
 rw [A0I]
 exact List.mem_append_right _ hb
theorem A9z {e : A7} (Y : List A7) {T : List A7} (k : I1 P Γ ops rest K ⟨env, Y ++ e :: T, G⟩) : I1 P Γ ops rest K ⟨env, e :: (Y ++ T), G⟩ :=
 A3U List.perm_middle.symm k
theorem A9A {H : List (Nat × Nat)} {fuel : Nat} {listed : List Bool} {e : A7} (Y : List A7) {T : List A7} (k : N4 P Γ ops K H fuel listed ⟨env, Y ++ e :: T, G⟩) : N4 P Γ ops K H fuel listed ⟨env, e :: (Y ++ T), G⟩ :=
 A8U List.perm_middle.symm k
theorem A9B {t el : TypeId} {i : M6} [hI : I3 P t i] (hd : i.desc = .pointer el) (p : Option Addr) (w : World) : (Op.equal t (.pointer p) (.pointer none)).run P w = .ok p.isNone w := by
 have hu := hI.und
 rw [hd] at hu
 have h : ∀ d, (Op.equalIn (d + 1) t (.pointer p) (.pointer none)).run P w = .ok p.isNone w := fun d => by
  cases p <;> simp [Op.equalIn, Sem.run_bind, run_underlying hu]
 exact h 9999
theorem A4O {x y : Operand} {t t' el : TypeId} {i : M6} [hI : I3 P t i] (hd : i.desc = .pointer el) {p : Option Addr} (hx : evo env x = some (.pointer p)) (hy : evo env y = some (.pointer none)) :
  J9 P Γ ⟨env, hp, G⟩ (.binOp .eql t x y t') ty (.bool p.isNone) := by
 refine ⟨fun a _ hs _ _ _ _ w => ?_⟩
 simp only [execOp, eqGuard, binOp, (hs.evo hx : a.eval x = _), (hs.evo hy : a.eval y = _), Sem.run_bind, A9B hd, Sem.run_pure, Result.andThen_ok]
 cases p <;> rfl
theorem A3x {x y : Operand} {t t' el : TypeId} {i : M6} [hI : I3 P t i] (hd : i.desc = .pointer el) {p : Option Addr} (hx : evo env x = some (.pointer p)) (hy : evo env y = some (.pointer none)) :
  J9 P Γ ⟨env, hp, G⟩ (.binOp .neq t x y t') ty (.bool p.isSome) := by
 refine ⟨fun a _ hs _ _ _ _ w => ?_⟩
 simp only [execOp, eqGuard, binOp, (hs.evo hx : a.eval x = _), (hs.evo hy : a.eval y = _), Sem.run_bind, A9B hd, Sem.run_pure, Result.andThen_ok]
 cases p <;> rfl
theorem B4i {d : Nat} {x y : Operand} {t t' el : TypeId} {i ie : M6} [hI : I3 P t i] (hd0 : i.desc = .pointer el) [hE : I3 P el ie] (hz : ie.size ≠ 0) {b b' : Nat} {cs cs' : List Value}
  (hd : Nat.blt d Γ.n = true) (hx : evo env x = some (pt b)) (hy : evo env y = some (pt b')) (h1 : A7.blk b cs ∈ hp) (h2 : A7.blk b' cs' ∈ hp) :
  A0f P Γ ⟨env, hp, G⟩ (some d) (.binOp .eql t x y t') ty [] (fun σ' => σ' = ⟨(d, .bool (decide (b = b'))) :: env, hp, G⟩) := by
 refine ⟨fun a w hs pos af gd Q next hn => ?_⟩
 have hu := hI.und
 rw [hd0] at hu
 obtain ⟨inf, hinf, hsz, _⟩ := hE.info
 obtain ⟨e1, k1⟩ := hs.res.own.ok _ h1
 obtain ⟨e2, k2⟩ := hs.res.own.ok _ h2
 have hr : (binOp .eql t (pt b) (pt b')).run P w = .ok (.bool (decide (b = b'))) w := by
  by_cases hb : b = b'
  ·subst hb
   rw [decide_eq_true rfl]
   exact run_eql_ptr_same w _ hu hinf
  ·rw [decide_eq_false hb]
   exact run_eql_ptr_other w hu hinf (by rw [hsz]; exact hz) (fun he => hb (by cases he; rfl)) k1 k2
 have hrun : (execOp a.eval ⟨some d, .binOp .eql t x y t', ty, pos, af, gd⟩).run P w = .ok (.value (.bool (decide (b = b')))) w := by
  simp only [execOp, eqGuard, (hs.evo hx : a.eval x = _), (hs.evo hy : a.eval y = _), Sem.run_bind, hr, Sem.run_pure, Result.andThen_ok]
  simp only [pt] at hr ⊢
  simp [hr]
 simp only [Oper.wp, hrun, Oper.upon]
 exact hn _ _ _ (hs.put d _ (by simpa using hd) hs.res) (Ext.refl _ _) rfl
theorem A1Z {d : Nat} {x y : Operand} {t t' el : TypeId} {i ie : M6} [hI : I3 P t i] (hd0 : i.desc = .pointer el) [hE : I3 P el ie] (hz : ie.size ≠ 0) {b b' : Nat} {cs cs' : List Value}
  (hd : Nat.blt d Γ.n = true) (hx : evo env x = some (pt b)) (hy : evo env y = some (pt b')) (h1 : A7.blk b cs ∈ hp) (h2 : A7.blk b' cs' ∈ hp) (hw : O2 ops env gd = some true)
  (kt : b = b' → I1 P Γ ops rest K ⟨(d, .bool true) :: env, hp, G⟩) (kf : b ≠ b' → I1 P Γ ops rest K ⟨(d, .bool false) :: env, hp, G⟩) : I1 P Γ ops (⟨some d, .binOp .eql t x y t', ty, pos, af, gd⟩ :: rest) K ⟨env, hp, G⟩ := by
 refine J8 (B4i hd0 hz hd hx hy h1 h2) hw ?_
 rintro _ rfl
 by_cases hb : b = b'
 ·rw [decide_eq_true hb]; exact kt hb
 ·rw [decide_eq_false hb]; exact kf hb
end tail
theorem K9.lk {M : VM} {B : BV} {E : Nat → Option Nat} (hV : A09 M B E) {s r : SV} {b k : Nat} (h : K9 M s b) (hd : HdN B k s r) :
  ∃ e pa pb, A7.blk b [.int .i64 s.kd, ev e, ev pa, ev pb] ∈ H5 M E ∧ ((e = none ∧ s = r) ∨ ∃ b' k' u, e = some b' ∧ k = k' + 1 ∧ HdN B k' u r ∧ K9 M u b') := by
 obtain ⟨e, pa, pb, hm, hc⟩ := h.rd hV
 refine ⟨e, pa, pb, hm, ?_⟩
 cases hd with
 | free hb =>
  rcases hc with ⟨n, h1, h2, h3, _⟩ | ⟨n, u, b', h1, h2, h3, _⟩ | ⟨c, h1, _⟩ | ⟨c, x, y, bx, bz, h1, _⟩
  ·exact .inl ⟨h3, rfl⟩
  ·cases h1; rw [hb] at h2; cases h2
  ·cases h1
  ·cases h1
 | link hb hk =>
  rcases hc with ⟨n, h1, h2, h3, _⟩ | ⟨n, u, b', h1, h2, h3, h4, _⟩ | ⟨c, h1, _⟩ | ⟨c, x, y, bx, bz, h1, _⟩
  ·cases h1; rw [hb] at h2; cases h2
  ·cases h1; rw [hb] at h2; cases h2; exact .inr ⟨b', _, _, h3, rfl, hk, h4⟩
  ·cases h1
  ·cases h1
 | nv hn =>
  rcases hc with ⟨n, h1, h2, h3, _⟩ | ⟨n, u, b', h1, h2, h3, h4, _⟩ | ⟨c, h1, h3, _⟩ | ⟨c, x, y, bx, bz, h1, h3, _⟩
  ·cases h1; cases hn
  ·cases h1; cases hn
  ·exact .inl ⟨h3, rfl⟩
  ·exact .inl ⟨h3, rfl⟩
def B4j (M : VM) (E : Nat → Option Nat) (G : IM) (r : SV) : IM → Value → List A7 → Prop := fun G' v outs => G' = G ∧ outs = H5 M E ∧ ∃ b', v = pt b' ∧ K9 M r b'
theorem A0a (M : VM) (B : BV) (E : Nat → Option Nat) (s r : SV) (b : Nat) (G : IM) (hV : A09 M B E) (h : Hd B s r) (hr : K9 M s b) :
  Fn Tryz.prog 42 [pt b] (H5 M E) G (B4j M E G r) := by
 obtain ⟨k0, hk0⟩ := h.n
 refine C0 Tryz.func42 rfl Tryz.ntmps42 Tryz.results42 rfl ?_
 intro w0
 refine A9 ?_
 refine C2 ?_
 (refine L8 (fun (x : Nat × SV × Nat) => ⟨[(0, pt x.2.2)], H5 M E, G⟩) (fun x => HdN B x.1 x.2.1 r ∧ K9 M x.2.1 x.2.2) (fun x => x.1) (k0, s, b) ?_ ?_ ?_)
 (simp only [I9]; exact F8)
 (exact ⟨hk0, hr⟩)
 (rintro ⟨(k : Nat), u, (bu : Nat)⟩ ⟨hk, hru⟩; simp only [] at hk hru ⊢; obtain ⟨e, pa, pb, hm, hc⟩ := hru.lk hV hk; rcases hc with ⟨rfl, hur⟩ | ⟨b', k', u', rfl, hkk, hk', hr'⟩)
 refine B5 ?_
 refine sQ (K6 rfl) rfl ?_
 refine D8 ?_
 refine sL (I7 rfl rfl (P2 hm rfl)) rfl rfl ?_
 refine sQ (A3x rfl rfl rfl) rfl ?_
 refine J0 ?_
 refine H8 (outs := H5 M E) (rT rfl) A0.refl ?_
 (rw [← hur]; exact ⟨rfl, rfl, bu, rfl, hru⟩)
 refine B5 ?_
 refine sQ (K6 rfl) rfl ?_
 refine D8 ?_
 refine sL (I7 rfl rfl (P2 hm rfl)) rfl rfl ?_
 refine sQ (A3x rfl rfl rfl) rfl ?_
 refine A8 ?_
 refine C2 ?_
 refine A4 ?_
 refine sQ (K6 rfl) rfl ?_
 refine D8 ?_
 refine sL (I7 rfl rfl (P2 hm rfl)) rfl rfl ?_
 refine C1 ?_
 refine J7 (k', u', b') ?_ ?_ ?_
 (simp only [I9]; exact F8)
 (exact ⟨hk', hr'⟩)
 (show k' < k; omega)
theorem K9.v2 {M : VM} {n b : Nat} (h : K9 M (.v n) b) : (b, NC.vr n) ∈ M := h
theorem K9.b2 {M : VM} {c : Bool} {b : Nat} (h : K9 M (.b c) b) : (b, NC.bs c) ∈ M := h
theorem K9.t2 {M : VM} {c : Bool} {x y : SV} {b : Nat} (h : K9 M (.t c x y) b) : ∃ bx bz, (b, NC.tw c bx bz) ∈ M ∧ K9 M x bx ∧ K9 M y bz := h
theorem B4k (M : VM) (B : BV) (E : Nat → Option Nat) (n bn : Nat) (G : IM) (hV : A09 M B E) (hnd : (M.map Prod.fst).Nodup) (hN : Nm1 M) (hn : (bn, NC.vr n) ∈ M) :
  ∀ (t s : SV) (b : Nat), Q9 B s t → K9 M s b → Fn Tryz.prog 117 [pt b, pt bn] (H5 M E) G (X2 (.bool (occ n t)) (H5 M E) G) := by
 intro t
 induction t with
 | v m =>
  intro s b hd hr
  obtain ⟨h, hh, rfl, hB⟩ := hd.hd
  have hF := A0a M B E s _ b G hV hh hr
  refine C0 Tryz.func117 rfl Tryz.ntmps117 Tryz.results117 rfl ?_
  intro w0
  refine E1 ?_
  (refine R0 [] rfl hF rfl rfl rfl (fun v G1 outs hle1 hh => ?_); obtain ⟨hG, rfl, b1, rfl, hr1⟩ := hh; replace hG := hG.symm; subst hG; replace hr1 := hr1.v2)
  refine B0 ?_
  refine A1Z rfl zQ0 rfl rfl rfl (W1 hr1) (W1 hn) rfl (fun hb => ?_) (fun hb => ?_)
  refine A5C ?_
  refine H8 (outs := H5 M E) (rT rfl) A0.refl ?_
  (subst hb; cases A1E hnd hr1 hn; exact ⟨rfl, by rw [occ, decide_eq_true rfl], rfl⟩)
  refine A4 ?_
  refine sQ (K6 rfl) rfl ?_
  refine D8 ?_
  refine sL (I7 rfl rfl (P2 (W1 hr1) rfl)) rfl rfl ?_
  refine sQ (A3x rfl rfl rfl) rfl ?_
  refine Z0 ?_
  refine H8 (outs := H5 M E) (rT rfl) A0.refl ?_
  (exact ⟨rfl, by rw [occ, decide_eq_false (fun he => hb (hN _ _ _ hr1 (by rw [he]; exact hn)))], rfl⟩)
 | b c =>
  intro s b hd hr
  obtain ⟨h, hh, rfl⟩ := hd.hd
  have hF := A0a M B E s _ b G hV hh hr
  refine C0 Tryz.func117 rfl Tryz.ntmps117 Tryz.results117 rfl ?_
  intro w0
  refine E1 ?_
  (refine R0 [] rfl hF rfl rfl rfl (fun v G1 outs hle1 hh => ?_); obtain ⟨hG, rfl, b1, rfl, hr1⟩ := hh; replace hG := hG.symm; subst hG; replace hr1 := hr1.b2)
  refine B0 ?_
  refine A1Z rfl zQ0 rfl rfl rfl (W1 hr1) (W1 hn) rfl (fun hb => ?_) (fun hb => ?_)
  refine A5C ?_
  refine H8 (outs := H5 M E) (rT rfl) A0.refl ?_
  (subst hb; cases A1E hnd hr1 hn)
  refine A4 ?_
  refine sQ (K6 rfl) rfl ?_
  refine D8 ?_
  refine sL (I7 rfl rfl (P2 (W1 hr1) rfl)) rfl rfl ?_
  refine sQ (A3x rfl rfl rfl) rfl ?_
  refine Z0 ?_
  refine H8 (outs := H5 M E) (rT rfl) A0.refl ?_
  (exact ⟨rfl, rfl, rfl⟩)
 | t c p q ihp ihq =>
  intro s b hd hr
  obtain ⟨h, hh, x, y, rfl, hx, hy⟩ := hd.hd
  have hF := A0a M B E s _ b G hV hh hr
  refine C0 Tryz.func117 rfl Tryz.ntmps117 Tryz.results117 rfl ?_
  intro w0
  refine E1 ?_
  (refine R0 [] rfl hF rfl rfl rfl (fun v G1 outs hle1 hh => ?_); obtain ⟨hG, rfl, b1, rfl, hr1⟩ := hh; replace hG := hG.symm; subst hG; obtain ⟨bx, bz, hm1, hrx, hry⟩ := hr1.t2; have hp := ihp x bx hx hrx; have hq := ihq y bz hy hry; obtain ⟨o1, ho1⟩ : ∃ o, occ n p = o := ⟨_, rfl⟩; rw [ho1] at hp)
  refine B0 ?_
  refine A1Z rfl zQ0 rfl rfl rfl (W1 hm1) (W1 hn) rfl (fun hb => ?_) (fun hb => ?_)
  refine A5C ?_
  refine H8 (outs := H5 M E) (rT rfl) A0.refl ?_
  (subst hb; cases A1E hnd hm1 hn)
  refine A4 ?_
  refine sQ (K6 rfl) rfl ?_
  refine D8 ?_
  refine sL (I7 rfl rfl (P2 (W1 hm1) rfl)) rfl rfl ?_
  refine sQ (A3x rfl rfl rfl) rfl ?_
  refine A4 ?_
  refine sQ (K6 rfl) rfl ?_
  refine D8 ?_
  refine sL (I7 rfl rfl (P2 (W1 hm1) rfl)) rfl rfl ?_
  refine D8 ?_
  (refine R0 [] rfl hp rfl rfl rfl (fun v G1 outs hle1 hh => ?_); obtain ⟨hG, rfl, rfl⟩ := hh; replace hG := hG.symm; subst hG; clear hp; cases o1)
  refine A4 ?_
  refine sQ (K6 rfl) rfl ?_
  refine D8 ?_
  refine sL (I7 rfl rfl (P2 (W1 hm1) rfl)) rfl rfl ?_
  refine D8 ?_
  (refine R0 [] rfl hq rfl rfl rfl (fun v G1 outs hle1 hh => ?_); obtain ⟨hG, rfl, rfl⟩ := hh; replace hG := hG.symm; subst hG)
  refine B0 ?_
  refine H8 (outs := H5 M E) (rT rfl) A0.refl ?_
  (exact ⟨rfl, by rw [occ, ho1]; rfl, rfl⟩)
  refine M8 ?_
  refine H8 (outs := H5 M E) (rT rfl) A0.refl ?_
  (exact ⟨rfl, by rw [occ, ho1]; rfl, rfl⟩)
def A4P (M : VM) (G : IM) (B : BV) (ok : Bool) : IM → Value → List A7 → Prop := fun G' v outs => G' = G ∧ v = .bool ok ∧ ∃ E', outs = H5 M E' ∧ A09 M B E'
theorem A1p {s : SV} (h : s.nv = true) : s.kd ≠ 0 := by
 cases s with
 | v n => cases h
 | b c => cases c <;> simp [SV.kd]
 | t c x y => cases c <;> simp [SV.kd]
theorem A5V (M : VM) (B : BV) (E : Nat → Option Nat) (n : Nat) (s r a b : SV) (pa pb : Nat) (G : IM) (hV : A09 M B E) (hnd : (M.map Prod.fst).Nodup) (hN : Nm1 M)
  (ha : Hd B a (.v n)) (hb : Hd B b s) (hs : s ≠ .v n) (hd : Q9 B s r) (hra : K9 M a pa) (hrb : K9 M b pb) :
  Fn Tryz.prog 80 [pt pa, pt pb] (H5 M E) G (A4P M G (if occ n r = true then B else A01 B n s) (!occ n r)) := by
 have hF1 := A0a M B E a _ pa G hV ha hra
 have hF2 := A0a M B E b _ pb G hV hb hrb
 obtain ⟨o, ho⟩ : ∃ o, occ n r = o := ⟨_, rfl⟩
 refine C0 Tryz.func80 rfl Tryz.ntmps80 Tryz.results80 rfl ?_
 intro w0
 refine E1 ?_
 (refine R0 [] rfl hF1 rfl rfl rfl (fun v G1 outs hle1 hh => ?_); clear hF1; obtain ⟨hG, rfl, b1, rfl, hr1⟩ := hh; replace hG := hG.symm; subst hG; replace hr1 := hr1.v2)
 refine D8 ?_
 (refine R0 [] rfl hF2 rfl rfl rfl (fun v G1 outs hle1 hh => ?_); clear hF2; obtain ⟨hG, rfl, b2, rfl, hr2⟩ := hh; replace hG := hG.symm; subst hG; obtain ⟨c2, hm2⟩ := hr2.blk (E := E); have hne : b1 ≠ b2 := (fun he => hs (hr2.inj hnd (by rw [← he]; exact hr1))); have hO := B4k M B E n b1 G hV hnd hN hr1 r s b2 hd hr2; rw [ho] at hO)
 refine A8 ?_
 refine C2 ?_
 refine B5 ?_
 refine A1Z rfl zQ0 rfl rfl rfl (W1 hr1) hm2 rfl (fun hb => absurd hb hne) (fun hb => ?_)
 refine B0 ?_
 refine sQ (K6 rfl) rfl ?_
 refine D8 ?_
 refine sL (I7 rfl rfl (P2 (W1 hr1) rfl)) rfl rfl ?_
 refine sP (O1 rfl rfl zR0) rfl rfl ?_
 refine E7 ?_
 (refine R0 [] rfl hO rfl rfl rfl (fun v G1 outs hle1 hh => ?_); obtain ⟨hG, rfl, rfl⟩ := hh; replace hG := hG.symm; subst hG; clear hO; cases o)
 refine E7 ?_
 refine sQ (K6 rfl) rfl ?_
 refine D8 ?_
 refine Q1 rfl rfl rfl rfl rfl rfl (A9y hnd hN hr1) (by rfl) ?_
 refine J2 ?_
 refine H8 (outs := H5 M (A1F E n b2)) (rT rfl) A0.refl ?_
 (rw [ho]; exact ⟨rfl, rfl, _, rfl, hV.put hr2⟩)
 refine O3 ?_
 refine H8 (outs := H5 M E) (rT rfl) A0.refl ?_
 (rw [ho]; exact ⟨rfl, rfl, E, rfl, hV⟩)
theorem A4Q {M : VM} {b x y : Nat} {c : Bool} {K : Int} (hK : (if c = true then 5 else 4) = K) (h : (b, NC.tw c x y) ∈ M) (E : Nat → Option Nat) : A7.blk b [.int .i64 K, .pointer none, pt x, pt y] ∈ H5 M E := by
 rw [← hK]; exact W1 h
theorem A7i {M : VM} {b : Nat} {c : Bool} {K : Int} (hK : (if c = true then 3 else 2) = K) (h : (b, NC.bs c) ∈ M) (E : Nat → Option Nat) : A7.blk b [.int .i64 K, .pointer none, .pointer none, .pointer none] ∈ H5 M E := by
 rw [← hK]; exact W1 h
theorem B4l {B B' : BV} {a b : SV} {ok : Bool} (h : Q4 B a b B' ok) : ∀ (M : VM) (E : Nat → Option Nat) (pa pb : Nat) (G : IM), A09 M B E → (M.map Prod.fst).Nodup → Nm1 M → K9 M a pa → K9 M b pb →
  Fn Tryz.prog 80 [pt pa, pt pb] (H5 M E) G (A4P M G B' ok) := by
 induction h with
 | @self B a b n h1 h2 =>
  intro M E pa pb G hV hnd hN hra hrb
  have hF1 := A0a M B E _ _ pa G hV h1 hra
  have hF2 := A0a M B E _ _ pb G hV h2 hrb
  refine C0 Tryz.func80 rfl Tryz.ntmps80 Tryz.results80 rfl ?_
  intro w0
  refine E1 ?_
  (refine R0 [] rfl hF1 rfl rfl rfl (fun v G1 outs hle1 hh => ?_); clear hF1; obtain ⟨hG, rfl, b1, rfl, hr1⟩ := hh; replace hG := hG.symm; subst hG; replace hr1 := hr1.v2)
  refine D8 ?_
  (refine R0 [] rfl hF2 rfl rfl rfl (fun v G1 outs hle1 hh => ?_); clear hF2; obtain ⟨hG, rfl, b2, rfl, hr2⟩ := hh; replace hG := hG.symm; subst hG; replace hr2 := hr2.v2; have he := hN _ _ _ hr1 hr2; subst he)
  refine A8 ?_
  refine C2 ?_
  refine B5 ?_
  refine A1Z rfl zQ0 rfl rfl rfl (W1 hr1) (W1 hr1) rfl (fun hb => ?_) (fun hb => absurd rfl hb)
  refine O3 ?_
  refine H8 (outs := H5 M E) (rT rfl) A0.refl ?_
  (exact ⟨rfl, rfl, E, rfl, hV⟩)
 | @occ B a b n s r h1 h2 h3 h4 h5 =>
  intro M E pa pb G hV hnd hN hra hrb
  have := A5V M B E n s r a b pa pb G hV hnd hN h1 h2 h3 h4 hra hrb
  rw [h5] at this
  exact this
 | @bind B a b n s r h1 h2 h3 h4 h5 =>
  intro M E pa pb G hV hnd hN hra hrb
  have := A5V M B E n s r a b pa pb G hV hnd hN h1 h2 h3 h4 hra hrb
  rw [h5] at this
  exact this
 | @occ' B a b n s r h1 h3 h2 h4 h5 =>
  intro M E pa pb G hV hnd hN hra hrb
  have hs : s ≠ .v n := fun he => by rw [he] at h3; cases h3
  have hk := A1p h3
  have hU := fun b1 b2 (hr1 : K9 M s b1) (hr2 : K9 M (.v n) b2) => A5V M B E n s r (.v n) s b2 b1 G hV hnd hN (.free h2.fr) (.nv h3) hs h4 hr2 hr1
  rw [h5] at hU
  replace hU : ∀ b1 b2, K9 M s b1 → K9 M (.v n) b2 → Fn Tryz.prog 80 [pt b2, pt b1] (H5 M E) G (A4P M G B false) := hU
  have hF1 := A0a M B E _ _ pa G hV h1 hra
  have hF2 := A0a M B E _ _ pb G hV h2 hrb
  refine C0 Tryz.func80 rfl Tryz.ntmps80 Tryz.results80 rfl ?_
  intro w0
  refine E1 ?_
  (refine R0 [] rfl hF1 rfl rfl rfl (fun v G1 outs hle1 hh => ?_); clear hF1; obtain ⟨hG, rfl, b1, rfl, hr1⟩ := hh; replace hG := hG.symm; subst hG; obtain ⟨e1, x1, y1, hm1, _⟩ := hr1.rd hV; obtain ⟨K, hK⟩ : ∃ K, s.kd = K := ⟨_, rfl⟩; rw [hK] at hm1 hk)
  refine D8 ?_
  (refine R0 [] rfl hF2 rfl rfl rfl (fun v G1 outs hle1 hh => ?_); clear hF2; obtain ⟨hG, rfl, b2, rfl, hr2⟩ := hh; replace hG := hG.symm; subst hG; have hne : b1 ≠ b2 := (fun he => hs (hr1.inj hnd (by rw [he]; exact hr2))); have hUU := hU b1 b2 hr1 hr2; replace hr2 := hr2.v2)
  refine A8 ?_
  refine C2 ?_
  refine B5 ?_
  refine A1Z rfl zQ0 rfl rfl rfl hm1 (W1 hr2) rfl (fun hb => absurd hb hne) (fun hb => ?_)
  refine B0 ?_
  refine sQ (K6 rfl) rfl ?_
  refine D8 ?_
  refine sL (I7 rfl rfl (P2 hm1 rfl)) rfl rfl ?_
  refine sP (D0 rfl rfl zR0) rfl rfl ?_
  refine B0 ?_
  refine sQ (K6 rfl) rfl ?_
  refine D8 ?_
  refine sL (I7 rfl rfl (P2 (W1 hr2) rfl)) rfl rfl ?_
  refine sP (O1 rfl rfl zR0) rfl rfl ?_
  refine E1 ?_
  (refine R0 [] rfl hUU rfl rfl rfl (fun v G1 outs hle1 hh => ?_); obtain ⟨hG, rfl, E2, rfl, hV2⟩ := hh; replace hG := hG.symm; subst hG)
  refine A9 ?_
  refine H8 (outs := H5 M E2) (rT rfl) A0.refl ?_
  (exact ⟨rfl, rfl, E2, rfl, hV2⟩)
 | @bind' B a b n s r h1 h3 h2 h4 h5 =>
  intro M E pa pb G hV hnd hN hra hrb
  have hs : s ≠ .v n := fun he => by rw [he] at h3; cases h3
  have hk := A1p h3
  have hU := fun b1 b2 (hr1 : K9 M s b1) (hr2 : K9 M (.v n) b2) => A5V M B E n s r (.v n) s b2 b1 G hV hnd hN (.free h2.fr) (.nv h3) hs h4 hr2 hr1
  rw [h5] at hU
  replace hU : ∀ b1 b2, K9 M s b1 → K9 M (.v n) b2 → Fn Tryz.prog 80 [pt b2, pt b1] (H5 M E) G (A4P M G (A01 B n s) true) := hU
  have hF1 := A0a M B E _ _ pa G hV h1 hra
  have hF2 := A0a M B E _ _ pb G hV h2 hrb
  refine C0 Tryz.func80 rfl Tryz.ntmps80 Tryz.results80 rfl ?_
  intro w0
  refine E1 ?_
  (refine R0 [] rfl hF1 rfl rfl rfl (fun v G1 outs hle1 hh => ?_); clear hF1; obtain ⟨hG, rfl, b1, rfl, hr1⟩ := hh; replace hG := hG.symm; subst hG; obtain ⟨e1, x1, y1, hm1, _⟩ := hr1.rd hV; obtain ⟨K, hK⟩ : ∃ K, s.kd = K := ⟨_, rfl⟩; rw [hK] at hm1 hk)
  refine D8 ?_
  (refine R0 [] rfl hF2 rfl rfl rfl (fun v G1 outs hle1 hh => ?_); clear hF2; obtain ⟨hG, rfl, b2, rfl, hr2⟩ := hh; replace hG := hG.symm; subst hG; have hne : b1 ≠ b2 := (fun he => hs (hr1.inj hnd (by rw [he]; exact hr2))); have hUU := hU b1 b2 hr1 hr2; replace hr2 := hr2.v2)
  refine A8 ?_
  refine C2 ?_
  refine B5 ?_
  refine A1Z rfl zQ0 rfl rfl rfl hm1 (W1 hr2) rfl (fun hb => absurd hb hne) (fun hb => ?_)
  refine B0 ?_
  refine sQ (K6 rfl) rfl ?_
  refine D8 ?_
  refine sL (I7 rfl rfl (P2 hm1 rfl)) rfl rfl ?_
  refine sP (D0 rfl rfl zR0) rfl rfl ?_
  refine B0 ?_
  refine sQ (K6 rfl) rfl ?_
  refine D8 ?_
  refine sL (I7 rfl rfl (P2 (W1 hr2) rfl)) rfl rfl ?_
  refine sP (O1 rfl rfl zR0) rfl rfl ?_
  refine E1 ?_
  (refine R0 [] rfl hUU rfl rfl rfl (fun v G1 outs hle1 hh => ?_); obtain ⟨hG, rfl, E2, rfl, hV2⟩ := hh; replace hG := hG.symm; subst hG)
  refine A9 ?_
  refine H8 (outs := H5 M E2) (rT rfl) A0.refl ?_
  (exact ⟨rfl, rfl, E2, rfl, hV2⟩)
 | @clash B a b s s' h1 h3 h2 h4 h5 =>
  intro M E pa pb G hV hnd hN hra hrb
  have hk := A1p h3
  have hk' := A1p h4
  have hF1 := A0a M B E _ _ pa G hV h1 hra
  have hF2 := A0a M B E _ _ pb G hV h2 hrb
  refine C0 Tryz.func80 rfl Tryz.ntmps80 Tryz.results80 rfl ?_
  intro w0
  refine E1 ?_
  (refine R0 [] rfl hF1 rfl rfl rfl (fun v G1 outs hle1 hh => ?_); clear hF1; obtain ⟨hG, rfl, b1, rfl, hr1⟩ := hh; replace hG := hG.symm; subst hG; obtain ⟨e1, x1, y1, hm1, _⟩ := hr1.rd hV)
  refine D8 ?_
  (refine R0 [] rfl hF2 rfl rfl rfl (fun v G1 outs hle1 hh => ?_); clear hF2; obtain ⟨hG, rfl, b2, rfl, hr2⟩ := hh; replace hG := hG.symm; subst hG; obtain ⟨e2, x2, y2, hm2, _⟩ := hr2.rd hV; have hne : b1 ≠ b2 := (fun he => h5 (by rw [hr1.inj hnd (by rw [he]; exact hr2)])); obtain ⟨K, hK⟩ : ∃ K, s.kd = K := ⟨_, rfl⟩; obtain ⟨K', hK'⟩ : ∃ K, s'.kd = K := ⟨_, rfl⟩; rw [hK] at hm1 hk h5; rw [hK'] at hm2 hk' h5)
  refine A8 ?_
  refine C2 ?_
  refine B5 ?_
  refine A1Z rfl zQ0 rfl rfl rfl hm1 hm2 rfl (fun hb => absurd hb hne) (fun hb => ?_)
  refine B0 ?_
  refine sQ (K6 rfl) rfl ?_
  refine D8 ?_
  refine sL (I7 rfl rfl (P2 hm1 rfl)) rfl rfl ?_
  refine sP (D0 rfl rfl zR0) rfl rfl ?_
  refine B0 ?_
  refine sQ (K6 rfl) rfl ?_
  refine D8 ?_
  refine sL (I7 rfl rfl (P2 hm2 rfl)) rfl rfl ?_
  refine sP (D0 rfl rfl zR0) rfl rfl ?_
  refine A8 ?_
  refine D3 D4 rfl ?_
  refine J4 (i := 0) (l' := [tt,ff,ff,ff,ff,ff,ff,ff,ff,ff]) rfl C8 (qM rfl) rfl zP0 rfl rfl ?_
  refine aP 1 rfl (K6 rfl) rfl ?_
  refine aP 2 rfl (C3 rfl) rfl ?_
  refine aL 3 rfl (I7 rfl rfl (P2 hm1 rfl)) rfl ?_
  refine aP 4 rfl (qM rfl) rfl ?_
  refine aP 5 rfl (K6 rfl) rfl ?_
  refine aP 6 rfl (C3 rfl) rfl ?_
  refine aL 7 rfl (I7 rfl rfl (P2 hm2 rfl)) rfl ?_
  refine aP 8 rfl (A0R rfl rfl zR0) rfl ?_
  refine aP 9 rfl (qA rfl) rfl ?_
  refine M7 ?_
  refine H8 (outs := H5 M E) (rT rfl) A0.refl ?_
  (exact ⟨rfl, rfl, E, rfl, hV⟩)
 | @base B a b c h1 h2 =>
  intro M E pa pb G hV hnd hN hra hrb
  obtain ⟨K, hK⟩ : ∃ K : Int, (if c = true then 3 else 2) = K := ⟨_, rfl⟩
  have hk0 : K ≠ 0 := by rw [← hK]; cases c <;> decide
  have hF1 := A0a M B E _ _ pa G hV h1 hra
  have hF2 := A0a M B E _ _ pb G hV h2 hrb
  refine C0 Tryz.func80 rfl Tryz.ntmps80 Tryz.results80 rfl ?_
  intro w0
  refine E1 ?_
  (refine R0 [] rfl hF1 rfl rfl rfl (fun v G1 outs hle1 hh => ?_); clear hF1; obtain ⟨hG, rfl, b1, rfl, hr1⟩ := hh; replace hG := hG.symm; subst hG; have hm1 := A7i hK hr1.b2 E)
  refine D8 ?_
  (refine R0 [] rfl hF2 rfl rfl rfl (fun v G1 outs hle1 hh => ?_); clear hF2; obtain ⟨hG, rfl, b2, rfl, hr2⟩ := hh; replace hG := hG.symm; subst hG; have hm2 := A7i hK hr2.b2 E)
  refine A8 ?_
  refine C2 ?_
  refine B5 ?_
  refine A1Z rfl zQ0 rfl rfl rfl hm1 hm2 rfl (fun hb => ?_) (fun hb => ?_)
  refine O3 ?_
  refine H8 (outs := H5 M E) (rT rfl) A0.refl ?_
  (exact ⟨rfl, rfl, E, rfl, hV⟩)
  refine B0 ?_
  refine sQ (K6 rfl) rfl ?_
  refine D8 ?_
  refine sL (I7 rfl rfl (P2 hm1 rfl)) rfl rfl ?_
  refine sP (D0 rfl rfl zR0) rfl rfl ?_
  refine B0 ?_
  refine sQ (K6 rfl) rfl ?_
  refine D8 ?_
  refine sL (I7 rfl rfl (P2 hm2 rfl)) rfl rfl ?_
  refine sP (D0 rfl rfl zR0) rfl rfl ?_
  refine A8 ?_
  refine D3 D4 rfl ?_
  refine J4 (i := 0) (l' := [tt,ff,ff,ff,ff,ff,ff,ff,ff,ff]) rfl C8 (qM rfl) rfl zP0 rfl rfl ?_
  refine aP 1 rfl (K6 rfl) rfl ?_
  refine aP 2 rfl (C3 rfl) rfl ?_
  refine aL 3 rfl (I7 rfl rfl (P2 hm1 rfl)) rfl ?_
  refine aP 4 rfl (qM rfl) rfl ?_
  refine aP 5 rfl (K6 rfl) rfl ?_
  refine aP 6 rfl (C3 rfl) rfl ?_
  refine aL 7 rfl (I7 rfl rfl (P2 hm2 rfl)) rfl ?_
  refine aP 8 rfl (A2H rfl rfl zR0) rfl ?_
  refine aP 9 rfl (qA rfl) rfl ?_
  refine B0 ?_
  refine D3 D4 rfl ?_
  refine J4 (i := 0) (l' := [tt,ff,ff,ff,ff,ff,ff,ff,ff,ff,ff,ff,ff,ff,ff,ff,ff,ff,ff,ff,ff,ff,ff,ff,ff,ff,ff,ff]) rfl C8 (qM rfl) rfl zP0 rfl rfl ?_
  refine aP 1 rfl (K6 rfl) rfl ?_
  refine aP 2 rfl (C3 rfl) rfl ?_
  refine aL 3 rfl (I7 rfl rfl (P2 hm1 rfl)) rfl ?_
  refine aP 4 rfl (A4O rfl rfl rfl) rfl ?_
  refine aP 5 rfl (qM rfl) rfl ?_
  refine D6 6 rfl rfl rfl ?_
  refine D6 7 rfl rfl rfl ?_
  refine D6 8 rfl rfl rfl ?_
  refine D6 9 rfl rfl rfl ?_
  refine D6 10 rfl rfl rfl ?_
  refine D6 11 rfl rfl rfl ?_
  refine D6 12 rfl rfl rfl ?_
  refine D6 13 rfl rfl rfl ?_
  refine D6 14 rfl rfl rfl ?_
  refine D6 15 rfl rfl rfl ?_
  refine D6 16 rfl rfl rfl ?_
  refine D6 17 rfl rfl rfl ?_
  refine D6 18 rfl rfl rfl ?_
  refine D6 19 rfl rfl rfl ?_
  refine D6 20 rfl rfl rfl ?_
  refine D6 21 rfl rfl rfl ?_
  refine D6 22 rfl rfl rfl ?_
  refine D6 23 rfl rfl rfl ?_
  refine D6 24 rfl rfl rfl ?_
  refine D6 25 rfl rfl rfl ?_
  refine aP 26 rfl (R8 rfl rfl) rfl ?_
  refine aP 27 rfl (qA rfl) rfl ?_
  refine C1 ?_
  refine H8 (outs := H5 M E) (rT rfl) A0.refl ?_
  (exact ⟨rfl, rfl, E, rfl, hV⟩)
 | @two0 B a b c x y x' y' B1 h1 h2 h3 ih =>
  intro M E pa pb G hV hnd hN hra hrb
  have hsame := (Q4.two0 h1 h2 h3).same _ h1
  have hU1 := fun p q => ih M E p q G hV hnd hN
  obtain ⟨K, hK⟩ : ∃ K : Int, (if c = true then 5 else 4) = K := ⟨_, rfl⟩
  have hk0 : K ≠ 0 := by rw [← hK]; cases c <;> decide
  have hF1 := A0a M B E _ _ pa G hV h1 hra
  have hF2 := A0a M B E _ _ pb G hV h2 hrb
  refine C0 Tryz.func80 rfl Tryz.ntmps80 Tryz.results80 rfl ?_
  intro w0
  refine E1 ?_
  (refine R0 [] rfl hF1 rfl rfl rfl (fun v G1 outs hle1 hh => ?_); clear hF1; obtain ⟨hG, rfl, b1, rfl, hr1⟩ := hh; replace hG := hG.symm; subst hG; obtain ⟨bx, bz, hmM, hrx, hry⟩ := hr1.t2; have hmA := A4Q hK hmM)
  refine D8 ?_
  (refine R0 [] rfl hF2 rfl rfl rfl (fun v G1 outs hle1 hh => ?_); clear hF2; obtain ⟨hG, rfl, b2, rfl, hr2⟩ := hh; replace hG := hG.symm; subst hG; have hne : b1 ≠ b2 := (fun he => by have := hr2.inj hnd (by rw [← he]; exact hr1); have h9 := (hsame (by rw [← this]; exact h2)).2; cases h9); obtain ⟨bx', bz', hmM', hrx', hry'⟩ := hr2.t2; have hmB := A4Q hK hmM'; have hU1 := hU1 bx bx' hrx hrx')
  refine A8 ?_
  refine C2 ?_
  refine B5 ?_
  refine A1Z rfl zQ0 rfl rfl rfl (hmA E) (hmB E) rfl (fun hb => absurd hb hne) (fun hb => ?_)
  refine B0 ?_
  refine sQ (K6 rfl) rfl ?_
  refine D8 ?_
  refine sL (I7 rfl rfl (P2 (hmA _) rfl)) rfl rfl ?_
  refine sP (D0 rfl rfl zR0) rfl rfl ?_
  refine B0 ?_
  refine sQ (K6 rfl) rfl ?_
  refine D8 ?_
  refine sL (I7 rfl rfl (P2 (hmB _) rfl)) rfl rfl ?_
  refine sP (D0 rfl rfl zR0) rfl rfl ?_
  refine A8 ?_
  refine D3 D4 rfl ?_
  refine J4 (i := 0) (l' := [tt,ff,ff,ff,ff,ff,ff,ff,ff,ff]) rfl C8 (qM rfl) rfl zP0 rfl rfl ?_
  refine aP 1 rfl (K6 rfl) rfl ?_
  refine aP 2 rfl (C3 rfl) rfl ?_
  refine aL 3 rfl (I7 rfl rfl (P2 (hmA _) rfl)) rfl ?_
  refine aP 4 rfl (qM rfl) rfl ?_
  refine aP 5 rfl (K6 rfl) rfl ?_
  refine aP 6 rfl (C3 rfl) rfl ?_
  refine aL 7 rfl (I7 rfl rfl (P2 (hmB _) rfl)) rfl ?_
  refine aP 8 rfl (A2H rfl rfl zR0) rfl ?_
  refine aP 9 rfl (qA rfl) rfl ?_
  refine B0 ?_
  refine D3 D4 rfl ?_
  refine J4 (i := 0) (l' := [tt,ff,ff,ff,ff,ff,ff,ff,ff,ff,ff,ff,ff,ff,ff,ff,ff,ff,ff,ff,ff,ff,ff,ff,ff,ff,ff,ff]) rfl C8 (qM rfl) rfl zP0 rfl rfl ?_
  refine aP 1 rfl (K6 rfl) rfl ?_
  refine aP 2 rfl (C3 rfl) rfl ?_
  refine aL 3 rfl (I7 rfl rfl (P2 (hmA _) rfl)) rfl ?_
  refine aP 4 rfl (A4O rfl rfl rfl) rfl ?_
  refine aP 5 rfl (qM rfl) rfl ?_
  refine aP 6 rfl (qM rfl) rfl ?_
  refine aP 7 rfl (K6 rfl) rfl ?_
  refine aP 8 rfl (C3 rfl) rfl ?_
  refine aL 9 rfl (I7 rfl rfl (P2 (hmA _) rfl)) rfl ?_
  refine aP 10 rfl (qM rfl) rfl ?_
  refine aP 11 rfl (K6 rfl) rfl ?_
  refine aP 12 rfl (C3 rfl) rfl ?_
  refine aL 13 rfl (I7 rfl rfl (P2 (hmB _) rfl)) rfl ?_
  refine A2 14 ?_
  (refine A22 (l' := [tt,tt,tt,tt,tt,tt,tt,tt,tt,tt,tt,tt,tt,tt,tt,ff,ff,ff,ff,ff,ff,ff,ff,ff,ff,ff,ff,ff]) rfl [] rfl hU1 rfl rfl rfl rfl (fun v G1 outs hle1 hh => ?_); obtain ⟨hG, rfl, E2, rfl, hV2⟩ := hh; replace hG := hG.symm; subst hG)
  refine aP 15 rfl (qM rfl) rfl ?_
  refine D6 16 rfl rfl rfl ?_
  refine D6 17 rfl rfl rfl ?_
  refine D6 18 rfl rfl rfl ?_
  refine D6 19 rfl rfl rfl ?_
  refine D6 20 rfl rfl rfl ?_
  refine D6 21 rfl rfl rfl ?_
  refine D6 22 rfl rfl rfl ?_
  refine D6 23 rfl rfl rfl ?_
  refine D6 24 rfl rfl rfl ?_
  refine aP 25 rfl (T6 rfl rfl) rfl ?_
  refine aP 26 rfl (T6 rfl rfl) rfl ?_
  refine aP 27 rfl (qA rfl) rfl ?_
  refine C1 ?_
  refine H8 (outs := H5 M E2) (rT rfl) A0.refl ?_
  (exact ⟨rfl, rfl, E2, rfl, hV2⟩)
 | @two B a b c x y x' y' B1 B2 ok h1 h2 h3 h4 ih1 ih2 =>
  intro M E pa pb G hV hnd hN hra hrb
  have hsame := (Q4.two h1 h2 h3 h4).same _ h1
  have hU1 := fun p q => ih1 M E p q G hV hnd hN
  obtain ⟨K, hK⟩ : ∃ K : Int, (if c = true then 5 else 4) = K := ⟨_, rfl⟩
  have hk0 : K ≠ 0 := by rw [← hK]; cases c <;> decide
  have hF1 := A0a M B E _ _ pa G hV h1 hra
  have hF2 := A0a M B E _ _ pb G hV h2 hrb
  refine C0 Tryz.func80 rfl Tryz.ntmps80 Tryz.results80 rfl ?_
  intro w0
  refine E1 ?_
  (refine R0 [] rfl hF1 rfl rfl rfl (fun v G1 outs hle1 hh => ?_); clear hF1; obtain ⟨hG, rfl, b1, rfl, hr1⟩ := hh; replace hG := hG.symm; subst hG; obtain ⟨bx, bz, hmM, hrx, hry⟩ := hr1.t2; have hmA := A4Q hK hmM)
  refine D8 ?_
  (refine R0 [] rfl hF2 rfl rfl rfl (fun v G1 outs hle1 hh => ?_); clear hF2; obtain ⟨hG, rfl, b2, rfl, hr2⟩ := hh; replace hG := hG.symm; subst hG; have hbs : b1 = b2 → B2 = B ∧ ok = true := (fun he => hsame (by have := hr2.inj hnd (by rw [← he]; exact hr1); rw [← this]; exact h2)); obtain ⟨bx', bz', hmM', hrx', hry'⟩ := hr2.t2; have hmB := A4Q hK hmM'; have hU1 := hU1 bx bx' hrx hrx')
  refine A8 ?_
  refine C2 ?_
  refine B5 ?_
  refine A1Z rfl zQ0 rfl rfl rfl (hmA E) (hmB E) rfl (fun hb => ?_) (fun hb => ?_)
  refine O3 ?_
  refine H8 (outs := H5 M E) (rT rfl) A0.refl ?_
  (obtain ⟨e1, e2⟩ := hbs hb; subst e1 e2; exact ⟨rfl, rfl, E, rfl, hV⟩)
  refine B0 ?_
  refine sQ (K6 rfl) rfl ?_
  refine D8 ?_
  refine sL (I7 rfl rfl (P2 (hmA _) rfl)) rfl rfl ?_
  refine sP (D0 rfl rfl zR0) rfl rfl ?_
  refine B0 ?_
  refine sQ (K6 rfl) rfl ?_
  refine D8 ?_
  refine sL (I7 rfl rfl (P2 (hmB _) rfl)) rfl rfl ?_
  refine sP (D0 rfl rfl zR0) rfl rfl ?_
  refine A8 ?_
  refine D3 D4 rfl ?_
  refine J4 (i := 0) (l' := [tt,ff,ff,ff,ff,ff,ff,ff,ff,ff]) rfl C8 (qM rfl) rfl zP0 rfl rfl ?_
  refine aP 1 rfl (K6 rfl) rfl ?_
  refine aP 2 rfl (C3 rfl) rfl ?_
  refine aL 3 rfl (I7 rfl rfl (P2 (hmA _) rfl)) rfl ?_
  refine aP 4 rfl (qM rfl) rfl ?_
  refine aP 5 rfl (K6 rfl) rfl ?_
  refine aP 6 rfl (C3 rfl) rfl ?_
  refine aL 7 rfl (I7 rfl rfl (P2 (hmB _) rfl)) rfl ?_
  refine aP 8 rfl (A2H rfl rfl zR0) rfl ?_
  refine aP 9 rfl (qA rfl) rfl ?_
  refine B0 ?_
  refine D3 D4 rfl ?_
  refine J4 (i := 0) (l' := [tt,ff,ff,ff,ff,ff,ff,ff,ff,ff,ff,ff,ff,ff,ff,ff,ff,ff,ff,ff,ff,ff,ff,ff,ff,ff,ff,ff]) rfl C8 (qM rfl) rfl zP0 rfl rfl ?_
  refine aP 1 rfl (K6 rfl) rfl ?_
  refine aP 2 rfl (C3 rfl) rfl ?_
  refine aL 3 rfl (I7 rfl rfl (P2 (hmA _) rfl)) rfl ?_
  refine aP 4 rfl (A4O rfl rfl rfl) rfl ?_
  refine aP 5 rfl (qM rfl) rfl ?_
  refine aP 6 rfl (qM rfl) rfl ?_
  refine aP 7 rfl (K6 rfl) rfl ?_
  refine aP 8 rfl (C3 rfl) rfl ?_
  refine aL 9 rfl (I7 rfl rfl (P2 (hmA _) rfl)) rfl ?_
  refine aP 10 rfl (qM rfl) rfl ?_
  refine aP 11 rfl (K6 rfl) rfl ?_
  refine aP 12 rfl (C3 rfl) rfl ?_
  refine aL 13 rfl (I7 rfl rfl (P2 (hmB _) rfl)) rfl ?_
  refine A2 14 ?_
  (refine A22 (l' := [tt,tt,tt,tt,tt,tt,tt,tt,tt,tt,tt,tt,tt,tt,tt,ff,ff,ff,ff,ff,ff,ff,ff,ff,ff,ff,ff,ff]) rfl [] rfl hU1 rfl rfl rfl rfl (fun v G1 outs hle1 hh => ?_); clear hU1; obtain ⟨hG, rfl, E2, rfl, hV2⟩ := hh; replace hG := hG.symm; subst hG; have hU2 := ih2 M E2 bz bz' G hV2 hnd hN hry hry')
  refine aP 15 rfl (qM rfl) rfl ?_
  refine aP 16 rfl (qM rfl) rfl ?_
  refine aP 17 rfl (K6 rfl) rfl ?_
  refine aP 18 rfl (C3 rfl) rfl ?_
  refine aL 19 rfl (I7 rfl rfl (P2 (hmA _) rfl)) rfl ?_
  refine aP 20 rfl (qM rfl) rfl ?_
  refine aP 21 rfl (K6 rfl) rfl ?_
  refine aP 22 rfl (C3 rfl) rfl ?_
  refine aL 23 rfl (I7 rfl rfl (P2 (hmB _) rfl)) rfl ?_
  refine A2 24 ?_
  (refine A22 (l' := [tt,tt,tt,tt,tt,tt,tt,tt,tt,tt,tt,tt,tt,tt,tt,tt,tt,tt,tt,tt,tt,tt,tt,tt,tt,ff,ff,ff]) rfl [] rfl hU2 rfl rfl rfl rfl (fun v G1 outs hle1 hh => ?_); clear hU2; obtain ⟨hG, rfl, E3, rfl, hV3⟩ := hh; replace hG := hG.symm; subst hG)
  refine aP 25 rfl (R8 rfl rfl) rfl ?_
  refine aP 26 rfl (T6 rfl rfl) rfl ?_
  refine aP 27 rfl (qA rfl) rfl ?_
  refine C1 ?_
  refine H8 (outs := H5 M E3) (rT rfl) A0.refl ?_
  (exact ⟨rfl, rfl, E3, rfl, hV3⟩)
mutual
def A2i (g : Tm → Tm) : Tm → Tm
 | .mk k nm num ty fr lb ks => g (.mk k nm num ty fr lb (A1a g ks))
def A1a (g : Tm → Tm) : List Tm → List Tm
 | [] => []
 | t :: ts => A2i g t :: A1a g ts
end
theorem A7j (g : Tm → Tm) : ∀ ks, A1a g ks = ks.map (A2i g)
 | [] => rfl
 | t :: ts => by rw [A1a, A7j g ts, List.map_cons]
mutual
theorem A9C : ∀ t, A2i id t = t
 | .mk k nm num ty fr lb ks => by rw [A2i, A9D ks]; rfl
theorem A9D : ∀ ks, A1a id ks = ks
 | [] => rfl
 | t :: ts => by rw [A1a, A9C t, A9D ts]
end
theorem Q3.mk3k {G G1 G2 G3 : IM} {k : Int} {nm : ByteArray} {num : Int} {ty fr : Ty} {lb : Int} {ks : List Tm} {tc fc : List Value} {p : Option Addr} {c : Nat} {F1 F2 F3 : List Nat} (hk : H6 k) (hnum : H6 num) (hlb : H6 lb)
  (hl1 : B9 G G1) (hl2 : B9 G1 G2) (hl3 : B9 G2 G3) (h3 : A1V (E0 G1 G) ks p c F3) (n3 : F3.Nodup) (h1 : R9 (E0 G2 G1) ty tc F1) (n1 : F1.Nodup) (h2 : R9 (E0 G3 G2) fr fc F2) (n2 : F2.Nodup) :
  ∃ F, Q3 (E0 G3 G) (.mk k nm num ty fr lb ks) ([.int .i64 k, .string nm, .int .i64 num] ++ tc ++ fc ++ [.int .i64 lb, .slice p ks.length c]) F ∧ F.Nodup := by
 obtain ⟨es, Fs, e1, e2, rfl, e4⟩ := h3
 have i3 : ∀ b ∈ K5 p ++ Fs, E0 G1 G b ≠ none := by
  intro b hb
  rcases List.mem_append.1 hb with hb | hb
  ·exact e4 b hb
  ·exact e2.inG b hb
 have a1 : B9 (E0 G1 G) (E0 G3 G) := E0.mono (hl2.trans hl3)
 have a2 : B9 (E0 G2 G1) (E0 G3 G) := fun b l h => E0.mono hl3 b l (E0.anti hl1 b l h)
 have a3 : B9 (E0 G3 G2) (E0 G3 G) := E0.anti (hl1.trans hl2)
 refine ⟨F1 ++ (F2 ++ (K5 p ++ Fs)), ?_, ?_⟩
 ·simp only [Q3]
  exact ⟨tc, fc, p, c, es, F1, F2, Fs, rfl, hk, hnum, hlb, h1.mono a2, h2.mono a3, e1.mono a1, e2.mono a1, rfl, A3Z a1 e4⟩
 ·rw [List.nodup_append, List.nodup_append]
  refine ⟨n1, ⟨n2, n3, ?_⟩, ?_⟩
  ·rintro x hx y hy rfl
   exact A3w (A3Z (E0.mono hl2) i3) h2.inG x hy x hx rfl
  ·rintro x hx y hy rfl
   rcases List.mem_append.1 hy with hy | hy
   ·exact A3w (A3Z (E0.anti hl1) h1.inG) h2.inG x hx x hy rfl
   ·exact A3w i3 h1.inG x hy x hx rfl
mutual
def mOk (Q : Tm → Prop) (g : Tm → Tm) : Tm → Prop
 | .mk k nm num ty fr lb ks => A2j Q g ks ∧ Q (.mk k nm num ty fr lb (A1a g ks))
def A2j (Q : Tm → Prop) (g : Tm → Tm) : List Tm → Prop
 | [] => True
 | t :: ts => mOk Q g t ∧ A2j Q g ts
end
theorem A9E {Q : Tm → Prop} {g : Tm → Tm} : ∀ {ts : List Tm}, A2j Q g ts → ∀ t ∈ ts, mOk Q g t
 | [], _, t, h => by simp at h
 | t' :: ts, h, t, ht => by
  simp only [A2j] at h
  rcases List.mem_cons.1 ht with rfl | ht
  ·exact h.1
  ·exact A9E h.2 t ht
mutual
theorem A9F (g : Tm → Tm) : ∀ t, mOk (fun _ => True) g t
 | .mk k nm num ty fr lb ks => by rw [mOk]; exact ⟨A9G g ks, trivial⟩
theorem A9G (g : Tm → Tm) : ∀ ts, A2j (fun _ => True) g ts
 | [] => by rw [A2j]; trivial
 | t :: ts => by rw [A2j]; exact ⟨A9F g t, A9G g ts⟩
end
def A7k (g : Tm → Tm) (Q : Tm → Prop) (fid : FuncId) (us cs : List Value) : Prop := ∀ (t : Tm) (G0 G1 : IM) (cells : List Value) (F : List Nat), Q t → B9 G0 G1 → Q3 (E0 G1 G0) t cells F → F.Nodup →
 Fn Tryz.prog fid (us ++ [.agg ⟨cells⟩] ++ cs) [] G1 (N8 fun G2 v => ∃ cells' F', v = .agg ⟨cells'⟩ ∧ Q3 (E0 G2 G0) (g t) cells' F' ∧ F'.Nodup)
theorem A9H (g : Tm → Tm) (Q : Tm → Prop) (fid : FuncId) [C4 Tryz.prog fid] (us cs : List Value) (hg : A7k g Q fid us cs) : ∀ (t : Tm) (G : IM) (cells : List Value), mOk Q g t → t.small → B7 G t cells →
  Fn Tryz.prog 28 [.agg ⟨cells⟩, .func (.func fid) ⟨us⟩ ⟨cs⟩] [] G (A4K (A2i g t) G) := by
 refine Tm.ind fun k nm num ty fr lb ks ih G cells hmo hts hr => ?_
 have hone := hr.one
 simp only [mOk] at hmo
 obtain ⟨hmoL, hQ⟩ := hmo
 simp only [Tm.small] at hts
 obtain ⟨hnm, hty', hfr', hsm, hks⟩ := hts
 obtain ⟨tk, tks⟩ := ty
 obtain ⟨fk, fks⟩ := fr
 obtain ⟨pt, ct, pf, cf, p, c, es, rfl, hk, hnum, hlb, hty, hfr, hsl, hkl⟩ := hr.open9
 have hn := hsl.le
 have hlen : (A1a g ks).length = ks.length := by rw [A7j, List.length_map]
 have hget : ∀ i (h : i < ks.length) (h' : i < (A1a g ks).length), (A1a g ks)[i] = A2i g ks[i] := fun i h h' => by simp [A7j]
 refine C0 Tryz.func28 rfl Tryz.ntmps28 Tryz.results28 rfl ?_
 intro w0
 refine A4 ?_
 refine sE (B6 rfl rfl) rfl (fun b3 => ?_)
 refine sE (A6 rfl) rfl (fun b4 => ?_)
 refine N3 ?_
 refine C2 ?_
 (refine X1 28 9 ?_; refine L8 (fun (x : Nat × Option Addr × Nat × List (List Value) × List Nat × IM) => ⟨[(11, .int .i64 x.1), (10, .int .i64 ks.length), (9, .slice p ks.length c), (5, .slice x.2.1 x.1 x.2.2.1), (2, .pointer (some ⟨b3, 0, none⟩)), (1, .func (.func fid) ⟨us⟩ ⟨cs⟩), (4, .pointer (some ⟨b4, 0, none⟩))], [.slc x.2.1 x.2.2.1 28 9 x.1 x.2.2.2.1.flatten, .blk b4 [.int .i64 0, .string ⟨⟨[]⟩⟩, .int .i64 0, .int .i64 0, .slice none 0 0, .int .i64 0, .slice none 0 0, .int .i64 0, .slice none 0 0], .blk b3 [.int .i64 k, .string nm, .int .i64 num, .int .i64 tk, .slice pt tks.length ct, .int .i64 fk, .slice pf fks.length cf, .int .i64 lb, .slice p ks.length c]], x.2.2.2.2.2⟩) (fun x => x.1 ≤ ks.length ∧ B9 G x.2.2.2.2.2 ∧ P1 (E0 x.2.2.2.2.2 G) ((A1a g ks).take x.1) x.2.2.2.1 x.2.2.2.2.1 ∧ x.2.2.2.2.1.Nodup) (fun x => ks.length - x.1) (0, none, 0, [], [], G) ?_ ?_ ?_)
 (simp only [I9]; exact F8)
 exact ⟨by simp, B9.refl _, by simp [P1], by simp⟩
 (rintro ⟨i, pn, cn, es', F, Gi⟩ ⟨hi, hle, hst, hnd⟩; simp only [] at hi hle hst hnd ⊢; replace hsl := hsl.mono hle; replace hkl := hkl.mono hle)
 refine A4 ?_
 refine sB (N5 rfl rfl) rfl rfl (fun h28 => ?_) (fun h28 => ?_)
 refine B0 ?_
 refine C2 ?_
 refine A4 ?_
 (obtain ⟨b, o, e, rfl, hl, hat, hre, hgb⟩ := hsl.kidTm hkl (i := i) zR0 zR0; have hone := hre.one; refine sP (B8 rfl rfl rfl zR0) rfl rfl ?_)
 refine sL (A5 rfl rfl (hat _) hl) rfl rfl ?_
 refine sE (A6 rfl) rfl (fun b41 => ?_)
 refine sS rfl rfl rfl hl hone rfl ?_ (hu := by exact C6 hl.symm)
 refine B5 ?_
 refine sL (A5 rfl rfl (B3 zI0) zO0) rfl rfl ?_
 refine D8 ?_
 (refine F4 rfl (ih ks[i] (List.getElem_mem zR0) _ _ (A9E hmoL _ (List.getElem_mem zR0)) (Tm.smallL_mem hks _ (List.getElem_mem zR0)) hre) rfl rfl (fun v G3 hle3 hh => ?_); obtain ⟨cells', F', rfl, hs', hnd'⟩ := hh; rw [← hget i zR0 zR0] at hs'; have hlc := hs'.R.len; have hoc := hs'.R.one)
 (obtain ⟨v1, v2, v3, v4, v5, v6, v7, v8, v9, rfl⟩ : ∃ v1 v2 v3 v4 v5 v6 v7 v8 v9, cells' = [v1, v2, v3, v4, v5, v6, v7, v8, v9] := by obtain ⟨_, _, _, _, _, _, _, _, _, rfl, _⟩ := hs'.R.open; exact ⟨_, _, _, _, _, _, _, _, _, rfl⟩)
 (refine J8 (D1 rfl rfl rfl zR0 zL0 rfl) rfl ?_; rintro _ ⟨b51, rfl⟩)
 refine Y0 rfl rfl rfl rfl rfl (fun _ _ => by repeat (first | exact Sw.here | apply Sw.there)) (K4 zI0) rfl (fun u hu => List.all_eq_true.1 hoc u hu) zL0 zR0 rfl (fun pn' cn' => ?_)
 refine A8 ?_
 refine sP (K0 rfl rfl zR0 zR0) rfl rfl ?_
 refine A4 ?_
 refine J7 (i + 1, pn', cn', es' ++ [[v1, v2, v3, v4, v5, v6, v7, v8, v9]], F ++ F', G3) ?_ ?_ ?_
 (simp only [I9]; exact F8)
 exact ⟨by omega, hle.trans hle3, P1.step hst hnd hle hle3 zR0 hs' hnd'⟩
 (show ks.length - (i + 1) < ks.length - i; omega)
 refine J2 ?_
 (obtain rfl : i = ks.length := zR0; refine A2c zD0 (fun G2 hle2 hsl2 hno2 => ?_); rw [← hlen, List.take_length] at hst; rw [← hlen] at hsl2; obtain ⟨F3, hf1, hf2⟩ := A1V.fin hst hnd hle hle2 hsl2 hno2; have hleG := hle.trans hle2; have hT := A21 (.mk tk tks) G2 _ hty' (hty.mono hleG); refine D3 D4 rfl ?_)
 refine J4 (i := 0) (l' := [tt,ff,ff,ff,ff,ff,ff,ff,ff,ff,ff,ff,ff]) rfl C8 (C3 rfl) rfl zP0 rfl rfl ?_
 refine aL 1 rfl (A3 rfl rfl) rfl ?_
 refine aP 3 rfl (C3 rfl) rfl ?_
 refine aL 4 rfl (A3 rfl rfl) rfl ?_
 refine aP 6 rfl (qM rfl) rfl ?_
 refine A2 2 ?_
 (refine H1 rfl rfl hT rfl rfl rfl (fun v G4 hle4 hh => ?_); obtain ⟨cs1, F1, rfl, hs1, hn1⟩ := hh; obtain ⟨p1, c1, rfl, _⟩ := hs1.open; have hF := A21 (.mk fk fks) G4 _ hfr' (hfr.mono (hleG.trans hle4)))
 refine aP 7 rfl (C3 rfl) rfl ?_
 refine A2 5 ?_
 (refine H1 rfl rfl hF rfl rfl rfl (fun v G5 hle5 hh => ?_); obtain ⟨cs2, F2, rfl, hs2, hn2⟩ := hh; obtain ⟨p2, c2, rfl, _⟩ := hs2.open; obtain ⟨F6, hg1, hg2⟩ := Q3.mk3k (nm := nm) hk hnum hlb hleG hle4 hle5 hf1 hf2 hs1 hn1 hs2 hn2; rw [hlen] at hg1; have hch := hg _ G G5 _ F6 hQ (hleG.trans (hle4.trans hle5)) hg1 hg2)
 refine A2 8 ?_
 refine T7 rfl rfl rfl rfl rfl rfl rfl rfl zP0 zF0 (by rfl) ?_
 refine aP 9 rfl (C3 rfl) rfl ?_
 refine A2 10 ?_
 refine T7 rfl rfl rfl rfl rfl rfl rfl rfl zP0 zF0 (by rfl) ?_
 refine aP 11 rfl (C3 rfl) rfl ?_
 refine A2 12 ?_
 refine T7 rfl rfl rfl rfl rfl rfl rfl rfl zP0 zF0 (by rfl) ?_
 refine A9 ?_
 (refine J8 (A6O rfl rfl hch (List.Perm.refl _) rfl) rfl ?_; rintro _ ⟨v, G7, outs, rfl, hle7, rfl, cells7, F7, rfl, hs7, hn7⟩; have hl7 := hs7.R.len; have ho7 := hs7.R.one)
 refine sS rfl rfl rfl hl7 ho7 rfl ?_ (hu := by exact C6 hl7.symm)
 refine C1 ?_
 refine P5 (rC rfl (A5 rfl rfl (B3 zI0) hl7)) ?_
 (rw [A2i]; exact ⟨rfl, cells7, F7, rfl, hs7, hn7⟩)
theorem B4m (G : IM) (cells : List Value) (hl : cells.length = 9) (hone : cells.all (·.oneCell') = true) : Fn Tryz.prog 47 [.agg ⟨cells⟩] [] G (K7 (.agg ⟨cells⟩) G) := by
 refine C0 Tryz.func47 rfl Tryz.ntmps47 Tryz.results47 rfl ?_
 intro w0
 refine A4 ?_
 refine sE (B6 rfl rfl) rfl (fun b3 => ?_)
 refine sE (A6 rfl) rfl (fun b4 => ?_)
 refine B5 ?_
 refine sL (A5 rfl rfl (B3 zI0) zO0) rfl rfl ?_
 refine sS rfl rfl rfl hl hone rfl ?_ (hu := by exact C6 hl.symm)
 refine C1 ?_
 refine P5 (rC rfl (A5 rfl rfl (B3 zI0) hl)) ?_
 exact ⟨rfl, rfl, rfl⟩
theorem B4n : A7k id (fun _ => True) 47 [] [] := fun t G0 G1 cells F _ hle hs hn =>
 (B4m G1 cells hs.R.len hs.R.one).mono fun G' v outs _ ⟨h1, h2, h3⟩ => ⟨h3, cells, F, h2, by rw [h1]; exact hs, hn⟩
theorem A32 (t : Tm) (G : IM) (cells : List Value) (hts : t.small) (hr : B7 G t cells) : Fn Tryz.prog 19 [.agg ⟨cells⟩] [] G (A4K t G) := by
 have hl := hr.len
 have hone := hr.one
 have hM := A9H id (fun _ => True) 47 [] [] B4n t G cells (A9F _ t) hts hr
 rw [A9C] at hM
 refine C0 Tryz.func19 rfl Tryz.ntmps19 Tryz.results19 rfl ?_
 intro w0
 refine A4 ?_
 refine sE (B6 rfl rfl) rfl (fun b3 => ?_)
 refine sE (A6 rfl) rfl (fun b4 => ?_)
 refine B5 ?_
 refine sL (A5 rfl rfl (B3 zI0) zO0) rfl rfl ?_
 (refine F4 rfl hM rfl rfl (fun v G3 hle3 hh => ?_); obtain ⟨cells', F', rfl, hs', hnd'⟩ := hh; have hl' := hs'.R.len; have ho' := hs'.R.one)
 refine sS rfl rfl rfl hl' ho' rfl ?_ (hu := by exact C6 hl'.symm)
 refine C1 ?_
 refine P5 (rC rfl (A5 rfl rfl (B3 zI0) hl')) ?_
 exact ⟨rfl, cells', F', rfl, hs', hnd'⟩
theorem A9I {k : Int} {ks : List Ty} {d : Int} (h : 4 < d ∨ Y6 k ≠ ks.length) : M9 (.mk k ks) d = false := by
 rw [M9]
 rcases h with h | h
 ·rw [decide_eq_false zR0]; rfl
 ·rw [decide_eq_false (p := Y6 k = ks.length) h, Bool.and_false]; rfl
theorem A9J {k : Int} {ks : List Ty} {d : Int} (h : d ≤ 4) (h2 : Y6 k = ks.length) : M9 (.mk k ks) d = U4 ks (d + 1) := by
 rw [M9, decide_eq_true h, decide_eq_true h2]; rfl
theorem B4o {ks : List Ty} {d : Int} {i : Nat} (hi : i < ks.length) (h : M9 ks[i] d = false) : U4 ks d = false := by
 cases hx : U4 ks d with
 | false => rfl
 | true => rw [(A5E ks d).1 hx i hi] at h; cases h
theorem B4p : ∀ (t : Ty) (d : Int) (G : IM) (cells : List Value), 0 ≤ d ∧ d ≤ 4 → C7 G t cells →
  Fn Tryz.prog 88 [.agg ⟨cells⟩, .int .i64 d] [] G (K7 (.bool (M9 t (5 - d))) G) := by
 refine Ty.ind fun k ks ih d G cells hd hr => ?_
 obtain ⟨p, c, es, rfl, hk, hsl, hkl⟩ := hr.open
 simp only [Ty.k, Ty.ks] at hk hsl hkl ⊢
 have hn := hsl.le
 have hk1 := A9t k G
 refine C0 Tryz.func88 rfl Tryz.ntmps88 Tryz.results88 rfl ?_
 intro w0
 refine A4 ?_
 refine sE (B6 rfl rfl) rfl (fun b3 => ?_)
 refine A8 ?_
 refine D3 D4 rfl ?_
 refine J4 (i := 0) (l' := [tt,ff,ff,ff,ff,ff,ff,ff,ff,ff,ff]) rfl C8 (qM rfl) rfl zP0 rfl rfl ?_
 refine A2B (i := 1) (l' := [tt,tt,ff,ff,ff,ff,ff,ff,ff,ff,ff]) rfl C8 (N5 rfl rfl) rfl zP0 rfl rfl (fun h11 => ?_) (fun h11 => ?_)
 refine aP 2 rfl (qM rfl) rfl ?_
 refine D6 3 rfl rfl rfl ?_
 refine D6 4 rfl rfl rfl ?_
 refine D6 6 rfl rfl rfl ?_
 refine D6 7 rfl rfl rfl ?_
 refine D6 8 rfl rfl rfl ?_
 refine D6 5 rfl rfl rfl ?_
 refine D6 9 rfl rfl rfl ?_
 refine aP 10 rfl (R8 rfl rfl) rfl ?_
 refine M7 ?_
 (rw [A9I zR0]; exact ⟨rfl, rfl, rfl⟩)
 refine aP 2 rfl (qM rfl) rfl ?_
 refine aP 3 rfl (C3 rfl) rfl ?_
 refine aL 4 rfl (F0 rfl rfl) rfl ?_
 refine aP 6 rfl (C3 rfl) rfl ?_
 refine aL 7 rfl (F0 rfl rfl) rfl ?_
 refine aP 8 rfl (pLn rfl rfl) rfl ?_
 refine A2 5 ?_
 refine T2 rfl rfl (hk1) rfl rfl rfl ?_
 refine A2B (i := 9) (l' := [tt,tt,tt,tt,tt,tt,tt,tt,tt,tt,ff]) rfl C8 (U3 rfl rfl) rfl zP0 rfl rfl (fun h41 => ?_) (fun h41 => ?_)
 refine aP 10 rfl (T6 rfl rfl) rfl ?_
 refine M7 ?_
 (rw [A9I zR0]; exact ⟨rfl, rfl, rfl⟩)
 refine aP 10 rfl (T6 rfl rfl) rfl ?_
 refine M7 ?_
 refine C2 ?_
 (refine L8 (fun (i : Nat) => ⟨[(5, .int .i64 i), (2, .pointer (some ⟨b3, 0, none⟩)), (1, .int .i64 d)], [.blk b3 [.int .i64 k, .slice p ks.length c]], G⟩) (fun i => i ≤ ks.length ∧ ∀ j (h : j < ks.length), j < i → M9 ks[j] (5 - d + 1) = true) (fun i => ks.length - i) 0 ?_ ?_ ?_)
 exact F8
 exact ⟨by omega, by omega⟩
 (rintro i ⟨hi, hf⟩)
 refine B0 ?_
 refine sB (N5 rfl rfl) rfl rfl (fun h79 => ?_) (fun h79 => ?_)
 refine A9 ?_
 refine C2 ?_
 refine A8 ?_
 (obtain ⟨b, o, p2, c2, rfl, hat, hre, hgb⟩ := hsl.kidTy hkl (i := i) zR0 zR0; refine sP (B8 rfl rfl rfl zR0) rfl rfl ?_)
 refine sL (A5 rfl rfl (hat _) rfl) rfl rfl ?_
 refine D8 ?_
 refine sP (Q7 rfl rfl zR0 zR0) rfl rfl ?_
 (have hih := ih ks[i] (List.getElem_mem zR0) (d - 1) G _ zR0 hre; rw [show 5 - (d - 1) = 5 - d + 1 by omega] at hih; refine J5 rfl hih rfl rfl (fun h96 => ?_) (fun h96 => ?_))
 refine E7 ?_
 refine sP (K0 rfl rfl zR0 zR0) rfl rfl ?_
 refine A4 ?_
 refine J7 (i + 1) ?_ ?_ ?_
 exact F8
 exact ⟨by omega, fun j hj hji => by (by_cases he : j = i; (subst he; assumption); exact hf j hj zR0)⟩
 omega
 refine N3 ?_
 (rw [A9J zR0 zR0, B4o (i := i) zR0 zO0]; exact ⟨rfl, rfl, rfl⟩)
 refine J0 ?_
 (rw [A9J zR0 zR0, (A5E ks _).2 (fun j hj => hf j hj zR0)]; exact ⟨rfl, rfl, rfl⟩)
theorem A3y (t : Ty) (G : IM) (cells : List Value) (hr : C7 G t cells) : Fn Tryz.prog 58 [.agg ⟨cells⟩] [] G (K7 (.bool (H9 t)) G) := by
 have hl := hr.len
 have hv := B4p t 4 G cells zR0 hr
 refine C0 Tryz.func58 rfl Tryz.ntmps58 Tryz.results58 rfl ?_
 intro w0
 refine A4 ?_
 refine sE (B6 rfl rfl) rfl (fun b3 => ?_)
 refine A8 ?_
 refine sL (A5 rfl rfl (B3 zI0) zO0) rfl rfl ?_
 refine H4 rfl (hv) rfl rfl ?_
 refine A8 ?_
 exact ⟨rfl, rfl, rfl⟩
theorem A7l {k : Int} {ks : List Ty} {d : Int} (h : M9 (.mk k ks) d = true) : Y6 k = ks.length ∧ ∀ i, (hi : i < ks.length) → M9 ks[i] (d + 1) = true := by
 rw [M9] at h
 simp only [Bool.and_eq_true, decide_eq_true_eq] at h
 exact ⟨h.1.2, (A5E ks _).1 h.2⟩
theorem A9K {k k' : Int} {ks ks' : List Ty} (h : k = 1 ∨ k' = 1) : N6 (.mk k ks) (.mk k' ks') = true := by
 rw [V9]
 rcases h with h | h
 ·rw [decide_eq_true (p := k = 1) h]; rfl
 ·rw [decide_eq_true (p := k' = 1) h]; simp
theorem B4q {k k' : Int} {ks ks' : List Ty} (h : k ≠ 1) (h' : k' ≠ 1) (hk : k ≠ k') : N6 (.mk k ks) (.mk k' ks') = false := by
 rw [V9, decide_eq_false h, decide_eq_false h', decide_eq_false hk]; rfl
theorem A9L {k k' : Int} {ks ks' : List Ty} (h : k ≠ 1) (h' : k' ≠ 1) (hk : k = k') : N6 (.mk k ks) (.mk k' ks') = P7 ks ks' := by
 rw [V9, decide_eq_false h, decide_eq_false h', decide_eq_true hk]; rfl
theorem B4r {ks ks' : List Ty} {i : Nat} (hi : i < ks.length) (hi' : i < ks'.length) (h : N6 ks[i] ks'[i] = false) : P7 ks ks' = false := by
 cases hx : P7 ks ks' with
 | false => rfl
 | true => rw [((A3v ks ks').1 hx).2 i hi hi'] at h; cases h
section blaws
variable {P : Program} {Γ : N7} {env : O6} {hp : List A7} {G : IM} {ty : TypeId}
theorem A3z {x y : Operand} {t t' : TypeId} {i : M6} [hI : I3 P t i] (hd : i.desc = .bool) {r : Bool} (hx : evo env x = some (.bool r)) (hy : evo env y = some (.bool r)) :
  J9 P Γ ⟨env, hp, G⟩ (.binOp .neq t x y t') ty (.bool false) := by
 have h := A6K (P := P) (Γ := Γ) (hp := hp) (G := G) (t := t) (t' := t') (ty := ty) hd hx hy
 rwa [decide_eq_false zS0] at h
theorem A9M {x y : Operand} {t t' : TypeId} {i : M6} [hI : I3 P t i] (hd : i.desc = .bool) (hx : evo env x = some (.bool true)) (hy : evo env y = some (.bool false)) :
  J9 P Γ ⟨env, hp, G⟩ (.binOp .neq t x y t') ty (.bool true) := A6K hd hx hy
theorem A7m {x y : Operand} {t t' : TypeId} {i : M6} [hI : I3 P t i] (hd : i.desc = .bool) (hx : evo env x = some (.bool false)) (hy : evo env y = some (.bool true)) :
  J9 P Γ ⟨env, hp, G⟩ (.binOp .neq t x y t') ty (.bool true) := A6K hd hx hy
end blaws
theorem B4s (k : Int) (nm : ByteArray) (num : Int) (ty fr : Ty) (lb : Int) (ks : List Tm) (G : IM) (cells : List Value) (hr : B7 G (.mk k nm num ty fr lb ks) cells) (R : Bool)
  (hi : R = true ↔ (k = 1 ∨ k = 5 → A0B nm = true) ∧ (¬(k = 1 ∨ k = 5) → nm = ⟨#[]⟩) ∧ (k = 5 ∨ k = 13 ∨ k = 14 → H9 ty = true) ∧ (¬(k = 5 ∨ k = 13 ∨ k = 14) → A0A ty = true) ∧ (k ≠ 14 → A0A fr = true ∧ lb = 0) ∧ (k = 2 → 0 ≤ num ∧ num ≤ 999) ∧ (k ≠ 2 → num = 0)) :
  Fn Tryz.prog 84 [.agg ⟨cells⟩] [] G (K7 (.bool R) G) := by
 have he : nm = ⟨#[]⟩ → A0B nm = false := by rintro rfl; rfl
 obtain ⟨tk, tks⟩ := ty
 obtain ⟨fk, fks⟩ := fr
 obtain ⟨pt, ct, pf, cf, p, c, es, rfl, hk, hnum, hlb, hty, hfr, hsl, hkl⟩ := hr.open9
 clear hr
 have o2 := B38 nm G
 have o3 := A3y _ G _ hty
 have o4 := A9u _ G _ hty
 have o7 := A9u _ G _ hfr
 refine C0 Tryz.func84 rfl Tryz.ntmps84 Tryz.results84 rfl ?_
 intro w0
 refine A4 ?_
 refine sE (B6 rfl rfl) rfl (fun b3 => ?_)
 refine B0 ?_
 refine sB (qE rfl rfl) rfl rfl (fun h11 => ?_) (fun h11 => ?_)
 refine O3 ?_
 refine sP (D0 rfl rfl zR0) rfl rfl ?_
 refine C1 ?_
 refine sP (D0 rfl rfl zR0) rfl rfl ?_
 refine B5 ?_
 refine sP (D0 rfl rfl zR0) rfl rfl ?_
 refine J2 ?_
 refine J5 rfl (o2) rfl rfl (fun h44 => ?_) (fun h44 => ?_)
 refine sQ (A3z rfl rfl rfl) rfl ?_
 refine A2e ?_
 refine J5 rfl (o4) rfl rfl (fun h70 => ?_) (fun h70 => ?_)
 refine N0 ?_
 refine sP (A0R rfl rfl zR0) rfl rfl ?_
 refine C1 ?_
 refine J5 rfl (o7) rfl rfl (fun h88 => ?_) (fun h88 => ?_)
 refine B5 ?_
 refine sB (U3 rfl rfl) rfl rfl (fun h93 => ?_) (fun h93 => ?_)
 refine N0 ?_
 exact ⟨rfl, zD, rfl⟩
 refine O3 ?_
 refine sP (D0 rfl rfl zR0) rfl rfl ?_
 refine E7 ?_
 refine sB (qE rfl rfl) rfl rfl (fun h130 => ?_) (fun h130 => ?_)
 exact y2
 refine A8 ?_
 exact ⟨rfl, zD, rfl⟩
 refine Z8 ?_
 exact ⟨rfl, zD, rfl⟩
 refine M8 ?_
 exact ⟨rfl, zD, rfl⟩
 refine sQ (A9M rfl rfl rfl) rfl ?_
 refine A07 ?_
 refine E7 ?_
 exact ⟨rfl, zD, rfl⟩
 refine C1 ?_
 refine sB (qE rfl rfl) rfl rfl (fun h221 => ?_) (fun h221 => ?_)
 refine E1 ?_
 refine sP (O1 rfl rfl zR0) rfl rfl ?_
 refine A1m ?_
 refine J5 rfl (o2) rfl rfl (fun h250 => ?_) (fun h250 => ?_)
 refine sQ (A3z rfl rfl rfl) rfl ?_
 refine M8 ?_
 refine J5 rfl (o3) rfl rfl (fun h266 => ?_) (fun h266 => ?_)
 refine A2d ?_
 refine sP (A0R rfl rfl zR0) rfl rfl ?_
 refine C1 ?_
 refine J5 rfl (o7) rfl rfl (fun h294 => ?_) (fun h294 => ?_)
 refine B5 ?_
 refine sB (U3 rfl rfl) rfl rfl (fun h299 => ?_) (fun h299 => ?_)
 refine N0 ?_
 exact ⟨rfl, zD, rfl⟩
 refine O3 ?_
 refine sP (D0 rfl rfl zR0) rfl rfl ?_
 refine E7 ?_
 refine sB (qE rfl rfl) rfl rfl (fun h336 => ?_) (fun h336 => ?_)
 exact y2
 refine A8 ?_
 exact ⟨rfl, zD, rfl⟩
 refine Z8 ?_
 exact ⟨rfl, zD, rfl⟩
 refine A2e ?_
 exact ⟨rfl, zD, rfl⟩
 refine sQ (A9M rfl rfl rfl) rfl ?_
 refine A07 ?_
 refine E7 ?_
 exact ⟨rfl, zD, rfl⟩
 refine E1 ?_
 refine sP (D0 rfl rfl zR0) rfl rfl ?_
 refine C1 ?_
 refine sB (qE rfl rfl) rfl rfl (fun h446 => ?_) (fun h446 => ?_)
 refine J0 ?_
 refine J5 rfl (o2) rfl rfl (fun h462 => ?_) (fun h462 => ?_)
 refine sQ (A7m rfl rfl rfl) rfl ?_
 refine A07 ?_
 refine E7 ?_
 exact ⟨rfl, zD, rfl⟩
 refine sQ (A3z rfl rfl rfl) rfl ?_
 refine A9 ?_
 refine sB (A3s rfl rfl) rfl rfl (fun h511 => ?_) (fun h511 => ?_)
 refine A07 ?_
 refine A4 ?_
 exact ⟨rfl, zD, rfl⟩
 refine B0 ?_
 refine J5 rfl (o3) rfl rfl (fun h552 => ?_) (fun h552 => ?_)
 refine A2d ?_
 refine sP (A0R rfl rfl zR0) rfl rfl ?_
 refine C1 ?_
 refine J5 rfl (o7) rfl rfl (fun h580 => ?_) (fun h580 => ?_)
 refine B5 ?_
 refine sB (U3 rfl rfl) rfl rfl (fun h585 => ?_) (fun h585 => ?_)
 refine N0 ?_
 exact ⟨rfl, zD, rfl⟩
 refine O3 ?_
 refine sP (D0 rfl rfl zR0) rfl rfl ?_
 refine E7 ?_
 refine sB (qE rfl rfl) rfl rfl (fun h622 => ?_) (fun h622 => ?_)
 exact y2
 refine A8 ?_
 exact ⟨rfl, zD, rfl⟩
 refine Z8 ?_
 exact ⟨rfl, zD, rfl⟩
 refine A2e ?_
 exact ⟨rfl, zD, rfl⟩
 refine B5 ?_
 refine sB (qE rfl rfl) rfl rfl (fun h683 => ?_) (fun h683 => ?_)
 refine J2 ?_
 refine J5 rfl (o2) rfl rfl (fun h694 => ?_) (fun h694 => ?_)
 refine sQ (A7m rfl rfl rfl) rfl ?_
 refine A07 ?_
 refine E7 ?_
 exact ⟨rfl, zD, rfl⟩
 refine sQ (A3z rfl rfl rfl) rfl ?_
 refine A9 ?_
 refine sB (A3s rfl rfl) rfl rfl (fun h743 => ?_) (fun h743 => ?_)
 refine A07 ?_
 refine A4 ?_
 exact ⟨rfl, zD, rfl⟩
 refine B0 ?_
 refine J5 rfl (o3) rfl rfl (fun h784 => ?_) (fun h784 => ?_)
 refine A2d ?_
 refine sP (A2H rfl rfl zR0) rfl rfl ?_
 refine Z0 ?_
 refine sP (D0 rfl rfl zR0) rfl rfl ?_
 refine E7 ?_
 refine sB (qE rfl rfl) rfl rfl (fun h840 => ?_) (fun h840 => ?_)
 exact y2
 refine A8 ?_
 exact ⟨rfl, zD, rfl⟩
 refine A2e ?_
 exact ⟨rfl, zD, rfl⟩
 refine J2 ?_
 refine J5 rfl (o2) rfl rfl (fun h888 => ?_) (fun h888 => ?_)
 refine sQ (A7m rfl rfl rfl) rfl ?_
 refine A07 ?_
 refine E7 ?_
 exact ⟨rfl, zD, rfl⟩
 refine sQ (A3z rfl rfl rfl) rfl ?_
 refine A9 ?_
 refine sB (A3s rfl rfl) rfl rfl (fun h937 => ?_) (fun h937 => ?_)
 refine A07 ?_
 refine A4 ?_
 exact ⟨rfl, zD, rfl⟩
 refine V0 ?_
 refine J5 rfl (o4) rfl rfl (fun h988 => ?_) (fun h988 => ?_)
 refine N0 ?_
 refine sP (A0R rfl rfl zR0) rfl rfl ?_
 refine C1 ?_
 refine J5 rfl (o7) rfl rfl (fun h1006 => ?_) (fun h1006 => ?_)
 refine B5 ?_
 refine sB (U3 rfl rfl) rfl rfl (fun h1011 => ?_) (fun h1011 => ?_)
 refine N0 ?_
 exact ⟨rfl, zD, rfl⟩
 refine O3 ?_
 refine sB (qE rfl rfl) rfl rfl (fun h1038 => ?_) (fun h1038 => ?_)
 refine B0 ?_
 refine sB (A1w rfl rfl) rfl rfl (fun h1046 => ?_) (fun h1046 => ?_)
 refine C1 ?_
 refine sB (A1k rfl rfl) rfl rfl (fun h1050 => ?_) (fun h1050 => ?_)
 refine B0 ?_
 exact ⟨rfl, by rw [hi.2 ⟨fun _ => zH0, fun _ => zB0, fun _ => zH0, fun _ => zH0, fun _ => ⟨zH0, by (first | assumption | omega)⟩, by omega, by omega⟩], rfl⟩
 refine B0 ?_
 exact ⟨rfl, zD, rfl⟩
 refine M7 ?_
 exact ⟨rfl, zD, rfl⟩
 refine E7 ?_
 refine sB (qE rfl rfl) rfl rfl (fun h1088 => ?_) (fun h1088 => ?_)
 exact y2
 refine A8 ?_
 exact ⟨rfl, zD, rfl⟩
 refine Z8 ?_
 exact ⟨rfl, zD, rfl⟩
 refine M8 ?_
 exact ⟨rfl, zD, rfl⟩
mutual
def L6 (D N : Int) : Tm → Int → Bool
 | .mk k nm num ty fr lb ks, deep => decide (deep ≤ D) && decide (k ≠ N) && Z2 k nm num ty fr lb ks.length && I2 D N ks (deep + 1)
def I2 (D N : Int) : List Tm → Int → Bool
 | [], _ => true
 | t :: ts, deep => L6 D N t deep && I2 D N ts deep
end
theorem A2N (D N : Int) : ∀ (ts : List Tm) (d : Int), I2 D N ts d = true ↔ ∀ i, (h : i < ts.length) → L6 D N ts[i] d = true
 | [], d => by simp [I2]
 | t :: ts, d => by
  simp only [I2, Bool.and_eq_true, A2N D N ts d]
  constructor
  ·rintro ⟨h1, h2⟩ i hi
   cases i with
   | zero => exact h1
   | succ i => exact h2 i (by simpa using hi)
  ·intro h
   exact ⟨h 0 zS0, fun i hi => h (i + 1) (by simpa using hi)⟩
theorem A4R {D N : Int} {k : Int} {nm : ByteArray} {num : Int} {ty fr : Ty} {lb : Int} {ks : List Tm} {d : Int} (h : D < d ∨ k = N ∨ Z2 k nm num ty fr lb ks.length = false) : L6 D N (.mk k nm num ty fr lb ks) d = false := by
 rw [L6]
 rcases h with h | h | h
 ·rw [decide_eq_false zR0]; rfl
 ·rw [decide_eq_false (p := k ≠ N) zR0, Bool.and_false]; rfl
 ·rw [h, Bool.and_false]; rfl
theorem A23 {D N : Int} {k : Int} {nm : ByteArray} {num : Int} {ty fr : Ty} {lb : Int} {ks : List Tm} {d : Int} (h1 : d ≤ D) (h2 : k ≠ N) (h3 : Z2 k nm num ty fr lb ks.length = true) : L6 D N (.mk k nm num ty fr lb ks) d = I2 D N ks (d + 1) := by
 rw [L6, decide_eq_true h1, decide_eq_true h2, h3]; rfl
theorem B4t {D N : Int} {ks : List Tm} {d : Int} {i : Nat} (hi : i < ks.length) (h : L6 D N ks[i] d = false) : I2 D N ks d = false := by
 cases hx : I2 D N ks d with
 | false => rfl
 | true => rw [(A2N D N ks d).1 hx i hi] at h; cases h
theorem B4u {k : Int} {nm : ByteArray} {num : Int} {ty fr : Ty} {lb : Int} {n : Nat} (hk : k ≠ 14) (ha : E8 k = n) : Z2 k nm num ty fr lb n = true ↔
  (k = 1 ∨ k = 5 → A0B nm = true) ∧ (¬(k = 1 ∨ k = 5) → nm = ⟨#[]⟩) ∧ (k = 5 ∨ k = 13 ∨ k = 14 → H9 ty = true) ∧ (¬(k = 5 ∨ k = 13 ∨ k = 14) → A0A ty = true) ∧ (k ≠ 14 → A0A fr = true ∧ lb = 0) ∧ (k = 2 → 0 ≤ num ∧ num ≤ 999) ∧ (k ≠ 2 → num = 0) := by
 rw [X5]
 simp only [V1, decide_eq_true_eq]
 constructor
 ·rintro ⟨_, h2, h3, h4, h5, h6, h7, _, h9⟩
  exact ⟨h2, h3, h6, h7, h9, h4, fun h => by have := h5 h; omega⟩
 ·rintro ⟨h2, h3, h6, h7, h9, h4, h5⟩
  exact ⟨ha, h2, h3, h4, fun h => by have := h5 h; omega, h6, h7, fun h => absurd h hk, h9⟩
theorem B4v {D N : Int} {k : Int} {nm : ByteArray} {num : Int} {ty fr : Ty} {lb : Int} {ks : List Tm} {d : Int} (h : L6 D N (.mk k nm num ty fr lb ks) d = true) : d ≤ D ∧ ∀ i, (hi : i < ks.length) → L6 D N ks[i] (d + 1) = true := by
 rw [L6] at h
 simp only [Bool.and_eq_true, decide_eq_true_eq] at h
 exact ⟨h.1.1.1, (A2N D N ks _).1 h.2⟩
mutual
theorem A7n (M D N : Int) : ∀ (t : Tm) (deep c : Int), c ≤ M → ((W0 M D N t deep c).1 = true ↔ L6 D N t deep = true ∧ c + E4 t ≤ M)
 | .mk k nm num ty fr lb ks, deep, c, hc => by
  rw [W0, E4]
  by_cases h : c + 1 > M ∨ deep > D ∨ k = N ∨ Z2 k nm num ty fr lb ks.length = false
  ·rw [if_pos h]
   constructor
   ·intro h; cases h
   ·rintro ⟨h1, h2⟩
    rcases h with h | h
    ·omega
    ·rw [A4R h] at h1; cases h1
  ·rw [if_neg h]
   have hn : Z2 k nm num ty fr lb ks.length = true := by
    cases hx : Z2 k nm num ty fr lb ks.length with
    | true => rfl
    | false => exact absurd (Or.inr (Or.inr (Or.inr hx))) h
   rw [A23 zR0 zR0 hn, A9N M D N ks (deep + 1) (c + 1) zR0]
   constructor
   ·rintro ⟨a, b⟩; exact ⟨a, by omega⟩
   ·rintro ⟨a, b⟩; exact ⟨a, by omega⟩
theorem A9N (M D N : Int) : ∀ (ts : List Tm) (deep c : Int), c ≤ M → ((Y1 M D N ts deep c).1 = true ↔ I2 D N ts deep = true ∧ c + H0 ts ≤ M)
 | [], deep, c, hc => by simp [Y1, I2, H0]; omega
 | t :: ts, deep, c, hc => by
  have h0 := A7n M D N t deep c hc
  rw [Y1, I2, H0, Bool.and_eq_true]
  by_cases h : (W0 M D N t deep c).1 = true
  ·rw [if_pos h, A9a M D N t deep c h, A9N M D N ts deep _ (h0.1 h).2]
   have := h0.1 h
   constructor
   ·rintro ⟨a, b⟩; exact ⟨⟨this.1, a⟩, by omega⟩
   ·rintro ⟨⟨_, a⟩, b⟩; exact ⟨a, by omega⟩
  ·rw [if_neg h]
   constructor
   ·intro h'; cases h'
   ·rintro ⟨⟨a, _⟩, b⟩
    exact absurd (h0.2 ⟨a, by omega⟩) h
end
theorem A33 (t : Tm) : O9 t = true ↔ L6 40 13 t 1 = true ∧ E4 t ≤ 200 := by
 have := A7n 200 40 13 t 1 0 zR0
 rw [O9, this]
 constructor
 ·rintro ⟨a, b⟩; exact ⟨a, by omega⟩
 ·rintro ⟨a, b⟩; exact ⟨a, by omega⟩
theorem B4w (D N : Int) : ∀ (t : Tm) (d : Int) (G : IM) (cells : List Value), d ≤ 40 → L6 D N t (D + 1 - d) = true → E4 t ≤ 4294967296 → B7 G t cells →
  Fn Tryz.prog 49 [.agg ⟨cells⟩, .int .i64 d] [] G (K7 (.int .i64 (E4 t : Int)) G) := by
 refine Tm.ind fun k nm num ty fr lb ks ih d G cells hd hv hcnt hr => ?_
 have hone := hr.one
 obtain ⟨hv1, hv2⟩ := B4v hv
 obtain ⟨tk, tks⟩ := ty
 obtain ⟨fk, fks⟩ := fr
 obtain ⟨pt, ct, pf, cf, p, c, es, rfl, hk, hnum, hlb, hty, hfr, hsl, hkl⟩ := hr.open9
 have hn := hsl.le
 clear hr
 rw [E4] at hcnt ⊢
 refine C0 Tryz.func49 rfl Tryz.ntmps49 Tryz.results49 rfl ?_
 intro w0
 refine A4 ?_
 refine sE (B6 rfl rfl) rfl (fun b3 => ?_)
 refine M8 ?_
 refine C2 ?_
 (refine L8 (fun (i : Nat) => ⟨[(6, .int .i64 i), (5, .int .i64 ((H0 (ks.take i) + 1 : Nat) : Int)), (2, .pointer (some ⟨b3, 0, none⟩)), (1, .int .i64 d)], [.blk b3 [.int .i64 k, .string nm, .int .i64 num, .int .i64 tk, .slice pt tks.length ct, .int .i64 fk, .slice pf fks.length cf, .int .i64 lb, .slice p ks.length c]], G⟩) (fun i => i ≤ ks.length) (fun i => ks.length - i) 0 ?_ ?_ ?_)
 exact F8
 exact Nat.zero_le _
 (rintro i hi)
 refine B0 ?_
 refine sB (N5 rfl rfl) rfl rfl (fun h30 => ?_) (fun h30 => ?_)
 refine A4 ?_
 refine sP (A4C rfl rfl zR0) rfl rfl ?_
 refine B0 ?_
 refine C2 ?_
 refine A8 ?_
 (obtain ⟨b, o, e, rfl, hl, hat, hre, hgb⟩ := hsl.kidTm hkl (i := i) zR0 zR0; have htk := A1z (ks := ks) (i := i) zR0; refine sP (B8 rfl rfl rfl zR0) rfl rfl ?_)
 refine sL (A5 rfl rfl (hat _) hl) rfl rfl ?_
 refine D8 ?_
 refine sP (Q7 rfl rfl zR0 zR0) rfl rfl ?_
 (have hvk := hv2 i zR0; rw [show D + 1 - d + 1 = D + 1 - (d - 1) by omega] at hvk; refine H4 rfl (ih ks[i] (List.getElem_mem zR0) (d - 1) G _ zR0 hvk zR0 hre) rfl rfl ?_)
 refine sP (K0 rfl rfl zR0 zR0) rfl rfl ?_
 refine A9 ?_
 refine sP (K0 rfl rfl zR0 zR0) rfl rfl ?_
 refine A4 ?_
 (refine J7 (i + 1) ?_ ?_ ?_; rw [show ((H0 (ks.take (i + 1)) + 1 : Nat) : Int) = ((H0 (ks.take i) + 1 : Nat) : Int) + (E4 ks[i] : Int) from by rw [A1A zR0]; omega])
 exact F8
 omega
 omega
 refine X3 ?_
 (obtain rfl : i = ks.length := zR0; rw [List.take_length]; exact ⟨rfl, rfl, rfl⟩)
theorem V2 (t : Tm) : M3 t = true ↔ L6 12 14 t 1 = true ∧ E4 t ≤ 30 := by
 have := A7n 30 12 14 t 1 0 zR0
 rw [M3, this]
 constructor
 ·rintro ⟨a, b⟩; exact ⟨a, by omega⟩
 ·rintro ⟨a, b⟩; exact ⟨a, by omega⟩
theorem B4x : ∀ (t : Tm) (d : Int) (G : IM) (cells : List Value), 0 ≤ d ∧ d ≤ 12 → B7 G t cells →
  Fn Tryz.prog 48 [.agg ⟨cells⟩, .int .i64 d] [] G (K7 (.bool (L6 12 14 t (13 - d))) G) := by
 refine Tm.ind fun k nm num ty fr lb ks ih d G cells hd hr => ?_
 have hr0 := hr
 have hne := fun h : k ≠ 14 => @B4u k nm num ty fr lb ks.length h
 have har := fun h : Z2 k nm num ty fr lb ks.length = true => (X5.1 h).1
 obtain ⟨R, hR⟩ : ∃ R, Z2 k nm num ty fr lb ks.length = R := ⟨_, rfl⟩
 rw [hR] at hne har
 have hl2 := B4s k nm num ty fr lb ks G cells hr0 R
 have hk1 := A7e k G
 obtain ⟨tk, tks⟩ := ty
 obtain ⟨fk, fks⟩ := fr
 obtain ⟨pt, ct, pf, cf, p, c, es, rfl, hk, hnum, hlb, hty, hfr, hsl, hkl⟩ := hr.open9
 have hn := hsl.le
 clear hr hr0
 refine C0 Tryz.func48 rfl Tryz.ntmps48 Tryz.results48 rfl ?_
 intro w0
 refine A4 ?_
 refine sE (B6 rfl rfl) rfl (fun b3 => ?_)
 refine A8 ?_
 refine D3 D4 rfl ?_
 refine J4 (i := 0) (l' := [tt,ff,ff,ff,ff,ff,ff,ff,ff,ff,ff,ff,ff,ff,ff,ff,ff,ff,ff,ff,ff]) rfl C8 (qM rfl) rfl zP0 rfl rfl ?_
 refine A2B (i := 1) (l' := [tt,tt,ff,ff,ff,ff,ff,ff,ff,ff,ff,ff,ff,ff,ff,ff,ff,ff,ff,ff,ff]) rfl C8 (N5 rfl rfl) rfl zP0 rfl rfl (fun h11 => ?_) (fun h11 => ?_)
 refine aP 2 rfl (qM rfl) rfl ?_
 refine D6 3 rfl rfl rfl ?_
 refine D6 4 rfl rfl rfl ?_
 refine D6 6 rfl rfl rfl ?_
 refine D6 7 rfl rfl rfl ?_
 refine D6 8 rfl rfl rfl ?_
 refine D6 5 rfl rfl rfl ?_
 refine D6 9 rfl rfl rfl ?_
 refine aP 10 rfl (R8 rfl rfl) rfl ?_
 refine aP 11 rfl (qM rfl) rfl ?_
 refine D6 12 rfl rfl rfl ?_
 refine D6 13 rfl rfl rfl ?_
 refine D6 14 rfl rfl rfl ?_
 refine aP 15 rfl (R8 rfl rfl) rfl ?_
 exact y5
 refine aP 2 rfl (qM rfl) rfl ?_
 refine aP 3 rfl (C3 rfl) rfl ?_
 refine aL 4 rfl (F0 rfl rfl) rfl ?_
 refine aP 6 rfl (C3 rfl) rfl ?_
 refine aL 7 rfl (F0 rfl rfl) rfl ?_
 refine aP 8 rfl (pLn rfl rfl) rfl ?_
 refine A2 5 ?_
 refine T2 rfl rfl (hk1) rfl rfl rfl ?_
 refine A2B (i := 9) (l' := [tt,tt,tt,tt,tt,tt,tt,tt,tt,tt,ff,ff,ff,ff,ff,ff,ff,ff,ff,ff,ff]) rfl C8 (U3 rfl rfl) rfl zP0 rfl rfl (fun h51 => ?_) (fun h51 => ?_)
 refine aP 10 rfl (T6 rfl rfl) rfl ?_
 refine aP 11 rfl (qM rfl) rfl ?_
 refine D6 12 rfl rfl rfl ?_
 refine D6 13 rfl rfl rfl ?_
 refine D6 14 rfl rfl rfl ?_
 refine aP 15 rfl (R8 rfl rfl) rfl ?_
 exact y5
 refine aP 10 rfl (T6 rfl rfl) rfl ?_
 refine aP 11 rfl (qM rfl) rfl ?_
 refine aP 12 rfl (C3 rfl) rfl ?_
 refine aL 13 rfl (F0 rfl rfl) rfl ?_
 refine A2B (i := 14) (l' := [tt,tt,tt,tt,tt,tt,tt,tt,tt,tt,tt,tt,tt,tt,tt,ff,ff,ff,ff,ff,ff]) rfl C8 (qE rfl rfl) rfl zP0 rfl rfl (fun h79 => ?_) (fun h79 => ?_)
 refine aP 15 rfl (T6 rfl rfl) rfl ?_
 exact y5
 refine aP 15 rfl (T6 rfl rfl) rfl ?_
 refine aP 16 rfl (qM rfl) rfl ?_
 refine aL 17 rfl (A3 rfl rfl) rfl ?_
 refine A2 18 ?_
 refine A0g rfl rfl (hl2 (hne zR0 zR0)) rfl rfl rfl (fun h102 => ?_) (fun h102 => ?_)
 refine aP 19 rfl (pNt rfl) rfl ?_
 refine aP 20 rfl (T6 rfl rfl) rfl ?_
 refine M7 ?_
 refine C2 ?_
 (refine L8 (fun (i : Nat) => ⟨[(5, .int .i64 i), (2, .pointer (some ⟨b3, 0, none⟩)), (1, .int .i64 d)], [.blk b3 [.int .i64 k, .string nm, .int .i64 num, .int .i64 tk, .slice pt tks.length ct, .int .i64 fk, .slice pf fks.length cf, .int .i64 lb, .slice p ks.length c]], G⟩) (fun i => i ≤ ks.length ∧ ∀ j (h : j < ks.length), j < i → L6 12 14 ks[j] (13 - d + 1) = true) (fun i => ks.length - i) 0 ?_ ?_ ?_)
 exact F8
 exact ⟨by omega, by omega⟩
 (rintro i ⟨hi, hf⟩)
 refine B0 ?_
 refine sB (N5 rfl rfl) rfl rfl (fun h128 => ?_) (fun h128 => ?_)
 refine A9 ?_
 refine C2 ?_
 refine A8 ?_
 (obtain ⟨b, o, e, rfl, hl, hat, hre, hgb⟩ := hsl.kidTm hkl (i := i) zR0 zR0; refine sP (B8 rfl rfl rfl zR0) rfl rfl ?_)
 refine sL (A5 rfl rfl (hat _) hl) rfl rfl ?_
 refine D8 ?_
 refine sP (Q7 rfl rfl zR0 zR0) rfl rfl ?_
 (have hih := ih ks[i] (List.getElem_mem zR0) (d - 1) G _ zR0 hre; rw [show 13 - (d - 1) = 13 - d + 1 by omega] at hih; refine J5 rfl hih rfl rfl (fun h145 => ?_) (fun h145 => ?_))
 refine E7 ?_
 refine sP (K0 rfl rfl zR0 zR0) rfl rfl ?_
 refine A4 ?_
 refine J7 (i + 1) ?_ ?_ ?_
 exact F8
 exact ⟨by omega, fun j hj hji => by (by_cases he : j = i; (subst he; assumption); exact hf j hj zR0)⟩
 omega
 refine N3 ?_
 (rw [A23 zR0 zR0 (hR.trans zO0), B4t (i := i) zR0 zO0]; exact ⟨rfl, rfl, rfl⟩)
 refine J0 ?_
 (rw [A23 zR0 zR0 (hR.trans zO0), (A2N 12 14 ks _).2 (fun j hj => hf j hj zR0)]; exact ⟨rfl, rfl, rfl⟩)
 refine aP 19 rfl (pNf rfl) rfl ?_
 refine aP 20 rfl (T6 rfl rfl) rfl ?_
 refine M7 ?_
 (rw [A4R zT]; exact ⟨rfl, rfl, rfl⟩)
theorem A4S (t : Tm) (G : IM) (cells : List Value) (hcnt : E4 t ≤ 4294967296) (hr : B7 G t cells) :
  Fn Tryz.prog 20 [.agg ⟨cells⟩] [] G (K7 (.bool (M3 t)) G) := by
 have hl := hr.len
 have hv := B4x t 12 G cells zR0 hr
 have hc := fun h => B4w 12 14 t 12 G cells zR0 h hcnt hr
 have hi := V2 t
 obtain ⟨R, hR⟩ : ∃ R, M3 t = R := ⟨_, rfl⟩
 rw [hR] at hi ⊢
 refine C0 Tryz.func20 rfl Tryz.ntmps20 Tryz.results20 rfl ?_
 intro w0
 refine A4 ?_
 refine sE (B6 rfl rfl) rfl (fun b3 => ?_)
 refine A8 ?_
 refine sL (A5 rfl rfl (B3 zI0) zO0) rfl rfl ?_
 refine J5 rfl (hv) rfl rfl (fun h10 => ?_) (fun h10 => ?_)
 refine D8 ?_
 refine sL (A5 rfl rfl (B3 zI0) zO0) rfl rfl ?_
 refine H4 rfl (hc zO0) rfl rfl ?_
 refine sB (A1k rfl rfl) rfl rfl (fun h14 => ?_) (fun h14 => ?_)
 refine A9 ?_
 exact ⟨rfl, by rw [hi.2 ⟨by assumption, by omega⟩], rfl⟩
 refine A9 ?_
 exact ⟨rfl, by (cases R with | false => rfl | true => (exfalso; have h0 := hi.1 rfl; first | omega | simp_all)), rfl⟩
 refine J2 ?_
 exact ⟨rfl, by (cases R with | false => rfl | true => (exfalso; have h0 := hi.1 rfl; first | omega | simp_all)), rfl⟩
section forget
variable {P : Program} {Γ : N7} {env : O6} {hp : List A7} {G : IM} {K : Po} {ops : Array Oper} {rest : List Oper} {ty : TypeId} {pos : String} {af : Array Edge} {gd : Option (Nat × Bool)}
end forget
def tAt : Tm → List Int → Option Tm
 | t, [] => some t
 | .mk _ _ _ _ _ _ ks, i :: is => if h : 0 ≤ i ∧ i < ks.length then tAt (ks[i.toNat]'zR0) is else none
def z9 : List Value := [.int .i64 0, .string ⟨⟨[]⟩⟩, .int .i64 0, .int .i64 0, .slice none 0 0, .int .i64 0, .slice none 0 0, .int .i64 0, .slice none 0 0]
def AtP (t : Tm) (path : List Int) (G : IM) : IM → Value → List A7 → Prop := fun G' v outs => G' = G ∧ outs = [] ∧
 ((∃ x cells, tAt t path = some x ∧ B7 G x cells ∧ v = .tuple ⟨[.agg ⟨cells⟩, .bool true]⟩) ∨ (tAt t path = none ∧ v = .tuple ⟨[.agg ⟨z9⟩, .bool false]⟩))
def I8 : Tm := .mk 0 ⟨⟨[]⟩⟩ 0 (.mk 0 []) (.mk 0 []) 0 []
theorem Q3.zero (G : IM) : Q3 G I8 z9 [] := by
 simp only [I8, Q3, R9, Q2, P1, z9]
 refine ⟨[.int .i64 0, .slice none 0 0], [.int .i64 0, .slice none 0 0], none, 0, [], [], [], [], rfl, ⟨by omega, by omega⟩, ⟨by omega, by omega⟩, ⟨by omega, by omega⟩, ?_, ?_, D7.nil _ _, ⟨rfl, rfl⟩, rfl, by simp [K5]⟩
 ·exact ⟨none, 0, [], [], rfl, ⟨by omega, by omega⟩, D7.nil _ _, ⟨rfl, rfl⟩, rfl, by simp [K5]⟩
 ·exact ⟨none, 0, [], [], rfl, ⟨by omega, by omega⟩, D7.nil _ _, ⟨rfl, rfl⟩, rfl, by simp [K5]⟩
def B9v (t : Tm) (path : List Int) : Tm × Bool := if O9 t = true then (match tAt t path with | some x => (x, true) | none => (I8, false)) else (I8, false)
def TbP (r : Tm × Bool) (G : IM) : IM → Value → List A7 → Prop := N8 fun G' v => ∃ cells F, v = .tuple ⟨[.agg ⟨cells⟩, .bool r.2]⟩ ∧ Q3 (E0 G' G) r.1 cells F ∧ F.Nodup
theorem TbP.mk {r : Tm × Bool} {x : Tm} {b : Bool} {G G' : IM} {cells : List Value} {F : List Nat} (h : r = (x, b)) (hs : Q3 (E0 G' G) x cells F) (hn : F.Nodup) : TbP r G G' (.tuple ⟨[.agg ⟨cells⟩, .bool b]⟩) [] := by
 subst h; exact ⟨rfl, cells, F, rfl, hs, hn⟩
end Gw
end Go.Proofs.YtbdacdnffkhgeaaGreatDoor
