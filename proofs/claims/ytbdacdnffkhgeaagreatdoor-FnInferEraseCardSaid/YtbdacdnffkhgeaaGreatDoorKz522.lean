/-
  The scan of a term, CastValid, TermValid.
-/
import Derived.Test.YtbdacdnffkhgeaaGreatDoorKz521
import Derived.Test.YtbdacdnffkhgeaaGreatDoorKz520
import Derived.LaidEqlPtr
set_option linter.unusedVariables false
set_option linter.unusedSimpArgs false
set_option maxHeartbeats 0
set_option maxRecDepth 100000
set_option synthInstance.maxSize 4000
set_option synthInstance.maxHeartbeats 0
namespace Go.Proofs.YtbdacdnffkhgeaaGreatDoor
open Go Go.RowKit
namespace Gw
theorem A8V (M D N : Int) (hM : 0 ≤ M ∧ M ≤ 1000) (hD : 0 ≤ D ∧ D ≤ 1000) (bc : Nat) : ∀ (t : Tm) (deep c : Int) (G : IM) (cells : List Value), 0 ≤ deep ∧ deep ≤ D + 1 → 0 ≤ c ∧ c ≤ M → B8 G t cells →
  Fn Tryz.prog 40 [.agg ⟨cells⟩, .int .i64 deep, .int .i64 M, .int .i64 D, .int .i64 N, .pointer (some ⟨bc, 0, none⟩)] [.blk bc [.int .i64 c]] G
   (X0 (.bool (V2 M D N t deep c).1) [.blk bc [.int .i64 (V2 M D N t deep c).2]] G) := by
 refine Tm.ind fun k nm num ty fr lb ks ih deep c G cells hd hc hr => ?_
 have hno := B3o k nm num ty fr lb ks G cells hr
 obtain ⟨tk, tks⟩ := ty
 obtain ⟨fk, fks⟩ := fr
 obtain ⟨pt, ct, pf, cf, p, cp, es, rfl, hk, hnum, hlb, hty, hfr, hsl, hkl⟩ := hr.open9
 have hn := hsl.le
 obtain ⟨R, hR⟩ : ∃ R, Z8 k nm num (.mk tk tks) (.mk fk fks) lb ks.length = R := ⟨_, rfl⟩
 rw [hR] at hno
 refine C0 Tryz.func40 rfl Tryz.ntmps40 Tryz.results40 rfl ?_
 intro w0
 refine A4 ?_
 refine sE (B5 rfl rfl) rfl (fun b3 => ?_)
 refine A9 ?_
 refine sQ (K0 rfl) rfl ?_
 refine E0 ?_
 refine sP (J9 rfl rfl zZ zZ) rfl rfl ?_
 refine sQ (K0 rfl) rfl ?_
 refine B0 ?_
 refine sQ (K0 rfl) rfl ?_
 refine A4 ?_
 refine sB (A0w rfl rfl) rfl rfl (fun h24 => ?_) (fun h24 => ?_)
 refine A4h ?_
 refine H6 (outs := [.blk bc [.int .i64 _]]) (rT rfl) (A0.cons zP A0.nil) ?_
 (rw [A5d (by rw [hR]; first | omega | exact Or.inr (Or.inr (Or.inr zW))) ]; exact ⟨rfl, rfl, rfl⟩)
 refine C1 ?_
 refine sB (A0w rfl rfl) rfl rfl (fun h56 => ?_) (fun h56 => ?_)
 refine A6p ?_
 refine H6 (outs := [.blk bc [.int .i64 _]]) (rT rfl) (A0.cons zP A0.nil) ?_
 (rw [A5d (by rw [hR]; first | omega | exact Or.inr (Or.inr (Or.inr zW))) ]; exact ⟨rfl, rfl, rfl⟩)
 refine A8 ?_
 refine sB (qE rfl rfl) rfl rfl (fun h86 => ?_) (fun h86 => ?_)
 refine N7 ?_
 refine H6 (outs := [.blk bc [.int .i64 _]]) (rT rfl) (A0.cons zP A0.nil) ?_
 (rw [A5d (by rw [hR]; first | omega | exact Or.inr (Or.inr (Or.inr zW))) ]; exact ⟨rfl, rfl, rfl⟩)
 refine C1 ?_
 refine K3 rfl (hno) rfl rfl (fun h108 => ?_) (fun h108 => ?_)
 refine N7 ?_
 refine C2 ?_
 (have hmk := B2O (M := M) (D := D) (N := N) (deep := deep) (c := c) zZ (hR.trans zW); refine L4 (fun (x : Nat × Int) => ⟨[(44, .int .i64 x.1), (43, .int .i64 ks.length), (42, .slice p ks.length cp), (5, .pointer (some ⟨bc, 0, none⟩)), (4, .int .i64 N), (3, .int .i64 D), (2, .int .i64 M), (1, .int .i64 deep)], [.blk bc [.int .i64 x.2]], G⟩) (fun x => x.1 ≤ ks.length ∧ 0 ≤ x.2 ∧ x.2 ≤ M ∧ X2 M D N ks (deep + 1) (c + 1) = X2 M D N (ks.drop x.1) (deep + 1) x.2) (fun x => ks.length - x.1) (0, c + 1) ?_ ?_ ?_)
 (simp only [I6]; exact F9)
 exact ⟨by simp, by simp; omega, by simp; omega, by simp⟩
 (rintro ⟨i, ci⟩ ⟨hi, hc0, hc1, hst⟩; simp only [] at hi hc0 hc1 hst ⊢)
 refine A4 ?_
 refine sB (N0 rfl rfl) rfl rfl (fun h132 => ?_) (fun h132 => ?_)
 refine B0 ?_
 refine C2 ?_
 refine A4 ?_
 (obtain ⟨b, o, e, rfl, hl, hat, hre, hgb⟩ := hsl.kidTm hkl (i := i) zZ zZ; have hone := hre.one; have hle := A8u M D N ks[i] (deep + 1) ci hc0 hc1; refine sP (B6 rfl rfl rfl zZ) rfl rfl ?_)
 refine sL (A5 rfl rfl (hat _) hl) rfl rfl ?_
 refine sE (A6 rfl) rfl (fun b145 => ?_)
 refine Q3 rfl rfl rfl zW zW rfl zR (by exact C7 (by symm; assumption)) ?_
 refine B4 ?_
 refine sL (A5 rfl rfl (B7 zS) zW) rfl rfl ?_
 refine E0 ?_
 refine sP (J9 rfl rfl zZ zZ) rfl rfl ?_
 refine B4 ?_
 refine B2E rfl (ih ks[i] (List.getElem_mem _) (deep + 1) ci G e zZ zZ hre) (Pk.perm zP) rfl rfl (fun h158 => ?_) (fun h158 => ?_)
 refine E4 ?_
 refine sP (J9 rfl rfl zZ zZ) rfl rfl ?_
 refine A4 ?_
 refine J6 (i + 1, (V2 M D N ks[i] (deep + 1) ci).2) ?_ ?_ ?_
 (simp only [I6]; exact F9)
 exact ⟨by omega, by omega, hle.2.2 zW, by rw [hst, B2P zZ zW]⟩
 (show ks.length - (i + 1) < ks.length - i; omega)
 refine I5 ?_
 refine H6 (outs := [.blk bc [.int .i64 _]]) (rT rfl) (A0.cons zP A0.nil) ?_
 (rw [hmk, hst, B2Q zZ zW]; exact ⟨rfl, rfl, rfl⟩)
 refine I5 ?_
 refine H6 (outs := [.blk bc [.int .i64 _]]) (rT rfl) (A0.cons zP A0.nil) ?_
 (rw [hmk, hst, B2R zZ]; exact ⟨rfl, rfl, rfl⟩)
 refine O3 ?_
 refine H6 (outs := [.blk bc [.int .i64 _]]) (rT rfl) (A0.cons zP A0.nil) ?_
 (rw [A5d (by rw [hR]; first | omega | exact Or.inr (Or.inr (Or.inr zW))) ]; exact ⟨rfl, rfl, rfl⟩)
theorem A8W (t : Tm) (G : IM) (cells : List Value) (hr : B8 G t cells) : Fn Tryz.prog 68 [.agg ⟨cells⟩] [] G (K5 (.bool (S0 t)) G) := by
 have hl := hr.len
 refine C0 Tryz.func68 rfl Tryz.ntmps68 Tryz.results68 rfl ?_
 intro w0
 refine A4 ?_
 refine sE (B5 rfl rfl) rfl (fun b3 => ?_)
 refine A8 ?_
 refine sE (A6 rfl) rfl (fun b9 => ?_)
 refine A8 ?_
 refine sL (A5 rfl rfl (B7 zS) zW) rfl rfl ?_
 refine A47 rfl (A8V 200 40 13 zZ zZ _ t 1 0 G cells zZ zZ hr) A0V rfl rfl ?_
 refine A8 ?_
 exact ⟨rfl, rfl, rfl⟩
theorem A5m (t : Tm) (G : IM) (cells : List Value) (hr : B8 G t cells) : Fn Tryz.prog 13 [.agg ⟨cells⟩] [] G (K5 (.bool (N8 t)) G) := by
 have hl := hr.len
 refine C0 Tryz.func13 rfl Tryz.ntmps13 Tryz.results13 rfl ?_
 intro w0
 refine A4 ?_
 refine sE (B5 rfl rfl) rfl (fun b3 => ?_)
 refine A8 ?_
 refine sE (A6 rfl) rfl (fun b9 => ?_)
 refine A8 ?_
 refine sL (A5 rfl rfl (B7 zS) zW) rfl rfl ?_
 refine A47 rfl (A8V 30 12 14 zZ zZ _ t 1 0 G cells zZ zZ hr) A0V rfl rfl ?_
 refine A8 ?_
 exact ⟨rfl, rfl, rfl⟩
theorem A8X (k : Int) (G : IM) : Fn Tryz.prog 110 [.int .i64 k] [] G (K5 (.int .i64 (X6 k)) G) := by
 refine C0 Tryz.func110 rfl Tryz.ntmps110 Tryz.results110 rfl ?_
 intro w0
 refine M3 ?_
 refine C2 ?_
 refine C1 ?_
 refine sB (qE rfl rfl) rfl rfl (fun h16 => ?_) (fun h16 => ?_)
 refine N7 ?_
 exact ⟨rfl, by (first | rw [(P6 k).1 zZ] | rw [(P6 k).2.1 zZ] | rw [(P6 k).2.2 zZ zZ zZ zZ zZ]), rfl⟩
 refine A9 ?_
 refine sB (qE rfl rfl) rfl rfl (fun h40 => ?_) (fun h40 => ?_)
 refine N7 ?_
 exact ⟨rfl, by (first | rw [(P6 k).1 zZ] | rw [(P6 k).2.1 zZ] | rw [(P6 k).2.2 zZ zZ zZ zZ zZ]), rfl⟩
 refine A8 ?_
 refine sB (qE rfl rfl) rfl rfl (fun h63 => ?_) (fun h63 => ?_)
 refine O5 ?_
 exact ⟨rfl, by (first | rw [(P6 k).1 zZ] | rw [(P6 k).2.1 zZ] | rw [(P6 k).2.2 zZ zZ zZ zZ zZ]), rfl⟩
 refine B0 ?_
 refine sB (qE rfl rfl) rfl rfl (fun h85 => ?_) (fun h85 => ?_)
 refine N7 ?_
 exact ⟨rfl, by (first | rw [(P6 k).1 zZ] | rw [(P6 k).2.1 zZ] | rw [(P6 k).2.2 zZ zZ zZ zZ zZ]), rfl⟩
 refine A8 ?_
 refine sB (qE rfl rfl) rfl rfl (fun h108 => ?_) (fun h108 => ?_)
 refine O5 ?_
 exact ⟨rfl, by (first | rw [(P6 k).1 zZ] | rw [(P6 k).2.1 zZ] | rw [(P6 k).2.2 zZ zZ zZ zZ zZ]), rfl⟩
 refine M8 ?_
 exact ⟨rfl, by (first | rw [(P6 k).1 zZ] | rw [(P6 k).2.1 zZ] | rw [(P6 k).2.2 zZ zZ zZ zZ zZ]), rfl⟩
theorem A6I (k : Int) (G : IM) : Fn Tryz.prog 83 [.int .i64 k] [] G (K5 (.int .i64 (E7 k)) G) := by
 refine C0 Tryz.func83 rfl Tryz.ntmps83 Tryz.results83 rfl ?_
 intro w0
 refine M3 ?_
 refine C2 ?_
 refine C1 ?_
 refine sB (qE rfl rfl) rfl rfl (fun h16 => ?_) (fun h16 => ?_)
 refine N7 ?_
 exact ⟨rfl, zE, rfl⟩
 refine A9 ?_
 refine sB (qE rfl rfl) rfl rfl (fun h40 => ?_) (fun h40 => ?_)
 refine N7 ?_
 exact ⟨rfl, zE, rfl⟩
 refine A9 ?_
 refine sB (qE rfl rfl) rfl rfl (fun h64 => ?_) (fun h64 => ?_)
 refine N7 ?_
 exact ⟨rfl, zE, rfl⟩
 refine A8 ?_
 refine sB (qE rfl rfl) rfl rfl (fun h87 => ?_) (fun h87 => ?_)
 refine O5 ?_
 exact ⟨rfl, zE, rfl⟩
 refine B0 ?_
 refine sB (qE rfl rfl) rfl rfl (fun h109 => ?_) (fun h109 => ?_)
 refine N7 ?_
 exact ⟨rfl, zE, rfl⟩
 refine A9 ?_
 refine sB (qE rfl rfl) rfl rfl (fun h133 => ?_) (fun h133 => ?_)
 refine N7 ?_
 exact ⟨rfl, zE, rfl⟩
 refine A9 ?_
 refine sB (qE rfl rfl) rfl rfl (fun h157 => ?_) (fun h157 => ?_)
 refine N7 ?_
 exact ⟨rfl, zE, rfl⟩
 refine A9 ?_
 refine sB (qE rfl rfl) rfl rfl (fun h181 => ?_) (fun h181 => ?_)
 refine N7 ?_
 exact ⟨rfl, zE, rfl⟩
 refine A8 ?_
 refine sB (qE rfl rfl) rfl rfl (fun h204 => ?_) (fun h204 => ?_)
 refine O5 ?_
 exact ⟨rfl, zE, rfl⟩
 refine B0 ?_
 refine sB (qE rfl rfl) rfl rfl (fun h226 => ?_) (fun h226 => ?_)
 refine N7 ?_
 exact ⟨rfl, zE, rfl⟩
 refine A9 ?_
 refine sB (qE rfl rfl) rfl rfl (fun h250 => ?_) (fun h250 => ?_)
 refine N7 ?_
 exact ⟨rfl, zE, rfl⟩
 refine A9 ?_
 refine sB (qE rfl rfl) rfl rfl (fun h274 => ?_) (fun h274 => ?_)
 refine N7 ?_
 exact ⟨rfl, zE, rfl⟩
 refine A8 ?_
 refine sB (qE rfl rfl) rfl rfl (fun h297 => ?_) (fun h297 => ?_)
 refine O5 ?_
 exact ⟨rfl, zE, rfl⟩
 refine A9 ?_
 refine sB (qE rfl rfl) rfl rfl (fun h318 => ?_) (fun h318 => ?_)
 refine O5 ?_
 exact ⟨rfl, zE, rfl⟩
 refine M8 ?_
 exact ⟨rfl, zE, rfl⟩
theorem B3p (s : ByteArray) (G : IM) : Fn Tryz.prog 120 [.string s] [] G (K5 (.bool (A0o s)) G) := by
 refine C0 Tryz.func120 rfl Tryz.ntmps120 Tryz.results120 rfl ?_
 intro w0
 refine E4 ?_
 refine sQ (A2t rfl rfl) rfl (sB (qE rfl rfl) rfl rfl (fun h10 => ?_) (fun h10 => ?_))
 refine A4 ?_
 refine sP (A43 rfl rfl rfl zZ (A5b zZ)) rfl rfl ?_
 refine sB (A1j rfl rfl) rfl rfl (fun h14 => ?_) (fun h14 => ?_)
 refine C1 ?_
 refine sP (A43 rfl rfl rfl zZ (A5b zZ)) rfl rfl ?_
 refine sB (A08 rfl rfl) rfl rfl (fun h19 => ?_) (fun h19 => ?_)
 refine A9 ?_
 exact ⟨rfl, by simp only [A0o]; (try simp only [Int.toNat_zero] at *); (first | rw [decide_eq_true zZ] | rw [decide_eq_false zZ]), rfl⟩
 refine A9 ?_
 exact ⟨rfl, by simp only [A0o]; (try simp only [Int.toNat_zero] at *); (first | rw [decide_eq_true zZ] | rw [decide_eq_false zZ]), rfl⟩
 refine M3 ?_
 exact ⟨rfl, by simp only [A0o]; (try simp only [Int.toNat_zero] at *); (first | rw [decide_eq_true zZ] | rw [decide_eq_false zZ]), rfl⟩
 refine I5 ?_
 exact ⟨rfl, by simp only [A0o]; (try simp only [Int.toNat_zero] at *); (first | rw [decide_eq_true zZ] | rw [decide_eq_false zZ]), rfl⟩
theorem A8Y (t : Ty) (G : IM) (cells : List Value) (hr : C6 G t cells) : Fn Tryz.prog 121 [.agg ⟨cells⟩] [] G (K5 (.bool (A0n t)) G) := by
 obtain ⟨p, c, es, rfl, hk, hsl, hkl⟩ := hr.open
 refine C0 Tryz.func121 rfl Tryz.ntmps121 Tryz.results121 rfl ?_
 intro w0
 refine A4 ?_
 refine sE (B5 rfl rfl) rfl (fun b3 => ?_)
 refine B0 ?_
 refine sB (qE rfl rfl) rfl rfl (fun h11 => ?_) (fun h11 => ?_)
 refine B4 ?_
 refine sB (qE rfl rfl) rfl rfl (fun h16 => ?_) (fun h16 => ?_)
 refine A9 ?_
 exact ⟨rfl, by simp only [A0n]; (first | rw [decide_eq_true zZ] | rw [decide_eq_false zZ]), rfl⟩
 refine A9 ?_
 exact ⟨rfl, by simp only [A0n]; (first | rw [decide_eq_true zZ] | rw [decide_eq_false zZ]), rfl⟩
 refine M3 ?_
 exact ⟨rfl, by simp only [A0n]; (first | rw [decide_eq_true zZ] | rw [decide_eq_false zZ]), rfl⟩
def B8g (n : Int) : Int := if n < -99 ∨ n > 99 then 0 else if n < 0 then -n else n
theorem Sw.same {hp hp' : List A7} {e : A7} (h : Sw hp e e hp') : hp' = hp := by
 generalize he : e = e' at h
 have : ∀ {hp e e' hp'}, Sw hp e e' hp' → e = e' → hp' = hp := by
  intro hp e e' hp' h
  induction h with
  | here => rintro rfl; rfl
  | there _ ih => intro he; rw [ih he]
 subst he
 exact this h rfl
section
variable {P : Program} {Γ : M9} {env : O2} {hp : List A7} {G : IM} {ty : TypeId}
theorem A8Z {d : Nat} {x y : Operand} {t el : TypeId} {i : L7} {sz by' : Nat} {zs : List Value} [hI : H9 P t i] {ie : L7} [hEl : H9 P el ie] (hd' : i.desc = .slice el) [hE : Y6 P el sz by' zs] {p q : Option Addr} {c n m c2 : Nat} {cs news : List Value} {hp' : Option Addr → Nat → List A7}
  (hd : Nat.blt d Γ.n = true) (hx : evo env x = some (.slice p n c)) (hy : evo env y = some (.slice q m c2)) (hsz : Nat.blt 0 sz = true)
  (hm : ∀ p' c', Sw hp (.slc p c el sz n cs) (.slc p' c' el sz (n + m) (cs ++ news)) (hp' p' c'))
  (hS : Sl G q m c2 sz news) (h1 : ∀ u ∈ news, u.oneCell' = true) (hc : n ≤ c)
  (h63 : n + m ≤ maxLen) (hb : (n + m) * by' ≤ 140737488355328) :
  Z1 P Γ ⟨env, hp, G⟩ (some d) (.call ⟨.builtin .append, ⟨[x, y]⟩, ⟨[t, t]⟩⟩) ty (J5 p) (fun σ' => ∃ p' c', σ' = ⟨(d, .slice p' (n + m) c') :: env, hp' p' c', G⟩) := by
 obtain ⟨hl, _, _, hat⟩ := hS
 rcases Nat.eq_zero_or_pos m with rfl | hm0
 ·obtain rfl : news = [] := List.length_eq_zero_iff.1 zZ
  have hpu := B2A (P := P) (Γ := Γ) (hp := hp) (G := G) (ty := ty) (t := t) (el := el) hd' hx hy hc
  refine ⟨fun a w hs pos af gd Q next hn => ?_⟩
  simp only [Oper.wp, hpu.run a w hs, Oper.upon]
  refine hn _ _ _ (hs.put d _ (by simpa using hd) hs.res) (Ext.refl _ _) ⟨p, c, ?_⟩
  have h0 := hm p c
  simp only [Nat.add_zero, List.append_nil] at h0 ⊢
  rw [h0.same]
 ·obtain ⟨b, o, full, rfl, hg, hv⟩ := hat.resolve_left zZ
  exact A6o hd' hd hx hy hsz hm (A2I hg hv) hl h1 h63 hb
variable {K : Po} {ops : Array Oper} {rest : List Oper} {pos : String} {af : Array Edge} {gd : Option (Nat × Bool)}
theorem A6J {d : Nat} {x y : Operand} {t el : TypeId} {i : L7} {sz by' : Nat} {zs : List Value} [hI : H9 P t i] {ie : L7} [hEl : H9 P el ie] [hE : Y6 P el sz by' zs] {p q : Option Addr} {c n m c2 : Nat} {cs news : List Value} {hp' : Option Addr → Nat → List A7}
  (hd' : i.desc = .slice el) (hd : Nat.blt d Γ.n = true) (hx : evo env x = some (.slice p n c)) (hy : evo env y = some (.slice q m c2)) (hsz : Nat.blt 0 sz = true)
  (hm : ∀ p' c', Sw hp (.slc p c el sz n cs) (.slc p' c' el sz (n + m) (cs ++ news)) (hp' p' c'))
  (hS : Sl G q m c2 sz news) (h1 : ∀ u ∈ news, u.oneCell' = true) (hc : n ≤ c)
  (h63 : n + m ≤ maxLen) (hb : (n + m) * by' ≤ 140737488355328) (hw : N9 ops env gd = some true)
  (k : ∀ p' c', H8 P Γ ops rest K ⟨(d, .slice p' (n + m) c') :: env, hp' p' c', G⟩) : H8 P Γ ops (⟨some d, .call ⟨.builtin .append, ⟨[x, y]⟩, ⟨[t, t]⟩⟩, ty, pos, af, gd⟩ :: rest) K ⟨env, hp, G⟩ :=
 J2 (A8Z hd' hd hx hy hsz hm hS h1 hc h63 hb) hw (by rintro _ ⟨p', c', rfl⟩; exact k p' c')
theorem Y3 {H : List (Nat × Nat)} {fuel : Nat} {listed l' : List Bool} {j d : Nat} {cs : List Value} {x y : Operand} {t el : TypeId} {i : L7} {sz by' : Nat} {zs : List Value} [hI : H9 P t i] {ie : L7} [hEl : H9 P el ie] [hE : Y6 P el sz by' zs] {p q : Option Addr} {c n m c2 : Nat} {news : List Value} {hp' : Option Addr → Nat → List A7} {H' : List (Nat × Nat)}
  (hi : ops[j]? = some ⟨some d, .call ⟨.builtin .append, ⟨[x, y]⟩, ⟨[t, t]⟩⟩, ty, pos, af, gd⟩) (hd' : i.desc = .slice el)
  (hd : Nat.blt d Γ.n = true) (hx : evo env x = some (.slice p n c)) (hy : evo env y = some (.slice q m c2)) (hsz : Nat.blt 0 sz = true)
  (hm : ∀ p' c', Sw hp (.slc p c el sz n cs) (.slc p' c' el sz (n + m) (cs ++ news)) (hp' p' c'))
  (hS : Sl G q m c2 sz news) (h1 : ∀ u ∈ news, u.oneCell' = true) (hc : n ≤ c)
  (h63 : n + m ≤ maxLen) (hb : (n + m) * by' ≤ 140737488355328) (hw : N9 ops env gd = some true) (hl : listed.set j true = l')
  (hok : A1 ops j hp G (.slc p c el sz n cs) H H')
  (k : ∀ p' c', M7 P Γ ops K H' fuel l' ⟨(d, .slice p' (n + m) c') :: env, hp' p' c', G⟩) : V7 P Γ ops K H fuel listed j ⟨env, hp, G⟩ :=
 A3I hi (A8Z hd' hd hx hy hsz hm hS h1 hc h63 hb) hw hl (fun _ _ hs => hok.spec hs) hok.filter (by rintro _ ⟨p', c', rfl⟩; exact k p' c')
theorem A0y {H H' : List (Nat × Nat)} {fuel : Nat} {listed l' : List Bool} {j d : Nat} {f : FuncId} [hF : C5 P f] {xs : List Operand} {ats : Array TypeId} {vs : List Value} {e : A7} {rst : List A7} {post : IM → Value → List A7 → Prop}
  (hi : ops[j]? = some ⟨some d, .call ⟨.value (.func f), ⟨xs⟩, ats⟩, ty, pos, af, gd⟩) (hx : evl env xs = some vs) (h : Fn P f vs [e] G post) (hp' : hp.Perm ([e] ++ rst)) (hw : N9 ops env gd = some true) (hd : Nat.blt d Γ.n = true) (hl : listed.set j true = l')
  (hok : A1 ops j hp G e H H')
  (k : ∀ v G' outs, B9 G G' → post G' v outs → M7 P Γ ops K H' fuel l' ⟨(d, v) :: env, outs ++ rst, G'⟩) : V7 P Γ ops K H fuel listed j ⟨env, hp, G⟩ :=
 A3I hi (A4e hx h hp' hd) hw hl (fun _ _ hs => by simpa [Fp] using hok.spec hs) hok.filter (by rintro _ ⟨v, G', outs, rfl, hle, hq⟩; exact k v G' outs hle hq)
end
structure A5n {ι : Type} (S : ι → Sy) (φ : ι → Prop) (e : Exit) (σ : Sy) : Prop where
 run : match e with
  | .normal => ∃ i, φ i ∧ Sub σ (S i)
  | _ => False
section cut
variable {P : Program} {Γ : M9} {K : Po} {σ : Sy} {ι : Type}
theorem A0H {c y : Code} (S : ι → Sy) (φ : ι → Prop) (h : K7 P Γ c (A5n S φ) σ) (k : ∀ i, φ i → K7 P Γ y K (S i)) : K7 P Γ c (A1F P Γ y K) σ := by
 refine tri_post h ?_
 rintro e σ ⟨hk⟩
 cases e with
 | normal => obtain ⟨i, hi, hs⟩ := hk; exact ⟨A70 hs (k i hi)⟩
 | _ => exact hk.elim
where
 tri_post {c : Code} {K K' : Po} {σ : Sy} (h : K7 P Γ c K σ) (hk : ∀ e σ, K e σ → K' e σ) : K7 P Γ c K' σ := A6b h hk
theorem O4 {S : ι → Sy} {φ : ι → Prop} {σ : Sy} (i : ι) (hs : Sub σ (S i)) (h : φ i) : A5n S φ .normal σ := ⟨⟨i, h, hs⟩⟩
theorem B3q {S : ι → Sy} {φ : ι → Prop} : A0v (A5n S φ) := fun _ _ h => h.run
instance npC5 {S : ι → Sy} {φ : ι → Prop} : NpC (A5n S φ) := ⟨B3q⟩
end cut
theorem A2M : ∀ (t : Ty) (G : IM) (cells : List Value), t.small → C6 G t cells →
  Fn Tryz.prog 44 [.agg ⟨cells⟩] [] G (M5 fun G' v => ∃ cells' F, v = .agg ⟨cells'⟩ ∧ R4 (D9 G' G) t cells' F ∧ F.Nodup) := by
 refine Ty.ind fun k ks ih G cells hts hr => ?_
 simp only [Ty.small] at hts
 obtain ⟨hsm, hks⟩ := hts
 obtain ⟨p, c, es, rfl, hk, hsl, hkl⟩ := hr.open
 simp only [Ty.k, Ty.ks] at hk hsl hkl ⊢
 have hn := hsl.le
 refine C0 Tryz.func44 rfl Tryz.ntmps44 Tryz.results44 rfl ?_
 intro w0
 refine A4 ?_
 refine sE (B5 rfl rfl) rfl (fun b3 => ?_)
 refine sE (A6 rfl) rfl (fun b4 => ?_)
 refine B0 ?_
 refine sE (A6 rfl) rfl (fun b12 => ?_)
 refine O3 ?_
 refine C2 ?_
 (refine W4 25 2 ?_; refine L4 (fun (x : Nat × Option Addr × Nat × List (List Value) × List Nat × IM) => ⟨[(12, .int .i64 x.1), (11, .int .i64 ks.length), (10, .slice p ks.length c), (3, .pointer (some ⟨b12, 0, none⟩)), (2, .pointer (some ⟨b4, 0, none⟩))], [.blk b12 [.int .i64 k, .slice x.2.1 x.1 x.2.2.1], .slc x.2.1 x.2.2.1 25 2 x.1 x.2.2.2.1.flatten, .blk b4 [.int .i64 0, .slice none 0 0]], x.2.2.2.2.2⟩) (fun x => x.1 ≤ ks.length ∧ B9 G x.2.2.2.2.2 ∧ P8 (D9 x.2.2.2.2.2 G) (ks.take x.1) x.2.2.2.1 x.2.2.2.2.1 ∧ x.2.2.2.2.1.Nodup) (fun x => ks.length - x.1) (0, none, 0, [], [], G) ?_ ?_ ?_)
 (simp only [I6]; exact I1 zO zL)
 exact ⟨by simp, B9.refl _, by simp [P8], by simp⟩
 (rintro ⟨i, pn, cn, es', F, Gi⟩ ⟨hi, hle, hst, hnd⟩; simp only [] at hi hle hst hnd ⊢; replace hsl := hsl.mono hle; replace hkl := hkl.mono hle)
 refine A4 ?_
 refine sB (N0 rfl rfl) rfl rfl (fun h32 => ?_) (fun h32 => ?_)
 refine B0 ?_
 refine C2 ?_
 refine A4 ?_
 (obtain ⟨b, o, p2, c2, rfl, hat, hre, hgb⟩ := hsl.kidTy hkl (i := i) zZ zZ; refine sP (B6 rfl rfl rfl zZ) rfl rfl ?_)
 refine sL (A5 rfl rfl (hat _) rfl) rfl rfl ?_
 refine sE (A6 rfl) rfl (fun b45 => ?_)
 refine C1 ?_
 refine D3 D4 rfl ?_
 refine I9 (i := 0) (l' := [tt,ff,ff,ff,ff,ff,ff,ff]) rfl C8 (C3 rfl) rfl zX rfl rfl ?_
 refine aL 1 rfl (E9 rfl rfl) rfl ?_
 refine aL 2 rfl (A3 rfl rfl) rfl ?_
 refine A2 3 ?_
 (refine H0 rfl rfl (ih _ (List.getElem_mem zZ) _ _ (Ty.smallL_mem hks _ (List.getElem_mem zZ)) hre) rfl rfl rfl (fun v G1 hle1 hh => ?_); obtain ⟨cells', F', rfl, hs', hnd'⟩ := hh; obtain ⟨p3, c3, es3, rfl, _⟩ := hs'.R.open)
 refine A2 4 ?_
 (refine D2 rfl (D1 rfl rfl rfl zZ zU rfl) rfl rfl ?_; rintro _ ⟨b56, rfl⟩)
 refine A2 5 ?_
 refine O8 rfl rfl rfl rfl rfl rfl (fun _ _ => by repeat (first | exact Sw.here | apply Sw.there)) (J7 zS) rfl zT zU zZ rfl rfl (by repeat (first | exact A1.nil | apply A1.dep zX | apply A1.blk zX zP zS)) (fun pn' cn' => ?_)
 refine aP 6 rfl (C3 rfl) rfl ?_
 refine A2 7 ?_
 refine T3 rfl rfl rfl rfl rfl rfl rfl rfl zX zR (by rfl) ?_
 refine B4 ?_
 refine sP (J9 rfl rfl zZ zZ) rfl rfl ?_
 refine A4 ?_
 refine J6 (i + 1, pn', cn', es' ++ [[.int .i64 ks[i].k, .slice p3 ks[i].ks.length c3]], F ++ F', G1) ?_ ?_ ?_
 (simp only [I6]; exact I1 zO zL)
 exact ⟨by omega, hle.trans hle1, P8.step hst hnd hle hle1 zZ hs' hnd'⟩
 (show ks.length - (i + 1) < ks.length - i; omega)
 refine I5 ?_
 (refine J0 zP (fun G2 hle2 hsl2 hno2 => ?_); obtain rfl : i = ks.length := by omega)
 refine tT ?_
 refine O7 (rC rfl (A3 rfl rfl)) ?_
 (rw [List.take_length] at hst; obtain ⟨F2, hf1, hf2⟩ := R4.fin hst hnd hle hle2 hsl2 hno2 hk; exact ⟨rfl, _, F2, rfl, hf1, hf2⟩)
def B3r (t : Ty) (G : IM) : IM → Value → List A7 → Prop := M5 fun G' v => ∃ cells' F, v = .agg ⟨cells'⟩ ∧ R4 (D9 G' G) t cells' F ∧ F.Nodup
def B8h (ks : List Ty) (G : IM) : IM → Value → List A7 → Prop := M5 fun G' v => ∃ p c F, v = .slice p ks.length c ∧ A8w (D9 G' G) ks p c F ∧ F.Nodup
def A4n (t : Tm) (G : IM) : IM → Value → List A7 → Prop := M5 fun G' v => ∃ cells' F, v = .agg ⟨cells'⟩ ∧ P3 (D9 G' G) t cells' F ∧ F.Nodup
def B8i (ks : List Tm) (G : IM) : IM → Value → List A7 → Prop := M5 fun G' v => ∃ p c F, v = .slice p ks.length c ∧ A1M (D9 G' G) ks p c F ∧ F.Nodup
theorem Y8 : ∀ (t : Ty) (G : IM) (cells : List Value), t.small → C6 G t cells → Fn Tryz.prog 89 [.agg ⟨cells⟩] [] G (B3r t G) := by
 refine Ty.ind fun k ks ih G cells hts hr => ?_
 simp only [Ty.small] at hts
 obtain ⟨hsm, hks⟩ := hts
 obtain ⟨p, c, es, rfl, hk, hsl, hkl⟩ := hr.open
 simp only [Ty.k, Ty.ks] at hk hsl hkl ⊢
 have hn := hsl.le
 refine C0 Tryz.func89 rfl Tryz.ntmps89 Tryz.results89 rfl ?_
 intro w0
 refine A4 ?_
 refine sE (B5 rfl rfl) rfl (fun b3 => ?_)
 refine sE (A6 rfl) rfl (fun b4 => ?_)
 refine B0 ?_
 refine sE (A6 rfl) rfl (fun b12 => ?_)
 refine E8 ?_
 refine C2 ?_
 (refine W4 25 2 ?_; refine L4 (fun (x : Nat × Option Addr × Nat × List (List Value) × List Nat × IM) => ⟨[(4, .int .i64 x.1), (3, .pointer (some ⟨b12, 0, none⟩)), (1, .pointer (some ⟨b3, 0, none⟩)), (2, .pointer (some ⟨b4, 0, none⟩))], [.blk b12 [.int .i64 k, .slice x.2.1 x.1 x.2.2.1], .slc x.2.1 x.2.2.1 25 2 x.1 x.2.2.2.1.flatten, .blk b4 [.int .i64 0, .slice none 0 0], .blk b3 [.int .i64 k, .slice p ks.length c]], x.2.2.2.2.2⟩) (fun x => x.1 ≤ ks.length ∧ B9 G x.2.2.2.2.2 ∧ P8 (D9 x.2.2.2.2.2 G) (ks.take x.1) x.2.2.2.1 x.2.2.2.2.1 ∧ x.2.2.2.2.1.Nodup) (fun x => ks.length - x.1) (0, none, 0, [], [], G) ?_ ?_ ?_)
 (simp only [I6]; exact F9)
 exact ⟨by simp, B9.refl _, by simp [P8], by simp⟩
 (rintro ⟨i, pn, cn, es', F, Gi⟩ ⟨hi, hle, hst, hnd⟩; simp only [] at hi hle hst hnd ⊢; replace hsl := hsl.mono hle; replace hkl := hkl.mono hle)
 refine B0 ?_
 refine sB (N0 rfl rfl) rfl rfl (fun h34 => ?_) (fun h34 => ?_)
 refine A9 ?_
 refine C2 ?_
 (obtain ⟨b, o, p2, c2, rfl, hat, hre, hgb⟩ := hsl.kidTy hkl (i := i) zZ zZ; refine D3 D4 rfl ?_)
 refine I9 (i := 0) (l' := [tt,ff,ff,ff,ff,ff,ff,ff,ff,ff,ff,ff]) rfl C8 (C3 rfl) rfl zX rfl rfl ?_
 refine aL 1 rfl (E9 rfl rfl) rfl ?_
 refine aP 2 rfl (C3 rfl) rfl ?_
 refine aL 3 rfl (E9 rfl rfl) rfl ?_
 refine aP 4 rfl (qM rfl) rfl ?_
 refine aP 5 rfl (B6 rfl rfl rfl zZ) rfl ?_
 refine aL 6 rfl (A5 rfl rfl (hat _) rfl) rfl ?_
 refine A2 7 ?_
 (refine H0 rfl rfl (ih ks[i] (List.getElem_mem zZ) _ _ (Ty.smallL_mem hks _ (List.getElem_mem zZ)) hre) rfl rfl rfl (fun v G1 hle1 hh => ?_); obtain ⟨cells', F', rfl, hs', hnd'⟩ := hh; obtain ⟨p3, c3, es3, rfl, _⟩ := hs'.R.open)
 refine A2 8 ?_
 (refine D2 rfl (D1 rfl rfl rfl zZ zU rfl) rfl rfl ?_; rintro _ ⟨b53, rfl⟩)
 refine A2 9 ?_
 refine O8 rfl rfl rfl rfl rfl rfl (fun _ _ => by repeat (first | exact Sw.here | apply Sw.there)) (J7 zS) rfl zT zU zZ rfl rfl zH (fun pn' cn' => ?_)
 refine aP 10 rfl (C3 rfl) rfl ?_
 refine A2 11 ?_
 refine T3 rfl rfl rfl rfl rfl rfl rfl rfl zX zR (by rfl) ?_
 refine A8 ?_
 refine sP (J9 rfl rfl zZ zZ) rfl rfl ?_
 refine A4 ?_
 refine J6 (i + 1, pn', cn', es' ++ [[.int .i64 ks[i].k, .slice p3 ks[i].ks.length c3]], F ++ F', G1) ?_ ?_ ?_
 (simp only [I6]; exact F9)
 exact ⟨by omega, hle.trans hle1, P8.step hst hnd hle hle1 zZ hs' hnd'⟩
 (show ks.length - (i + 1) < ks.length - i; omega)
 refine M8 ?_
 (refine J0 zP (fun G2 hle2 hsl2 hno2 => ?_); obtain rfl : i = ks.length := zZ)
 refine tT ?_
 refine O7 (rC rfl (A3 rfl rfl)) ?_
 (rw [List.take_length] at hst; obtain ⟨F2, hf1, hf2⟩ := R4.fin hst hnd hle hle2 hsl2 hno2 hk; exact ⟨rfl, _, F2, rfl, hf1, hf2⟩)
theorem B3s : ∀ (t : Tm) (G : IM) (cells : List Value), t.small → B8 G t cells → Fn Tryz.prog 70 [.agg ⟨cells⟩] [] G (A4n t G) := by
 refine Tm.ind fun k nm num ty fr lb ks ih G cells hts hr => ?_
 have hone := hr.one
 simp only [Tm.small] at hts
 obtain ⟨hnm, hty', hfr', hsm, hks⟩ := hts
 obtain ⟨tk, tks⟩ := ty
 obtain ⟨fk, fks⟩ := fr
 obtain ⟨pt, ct, pf, cf, p, c, es, rfl, hk, hnum, hlb, hty, hfr, hsl, hkl⟩ := hr.open9
 have hn := hsl.le
 have hT := Y8 (.mk tk tks) G _ hty' hty
 refine C0 Tryz.func70 rfl Tryz.ntmps70 Tryz.results70 rfl ?_
 intro w0
 refine A4 ?_
 refine sE (B5 rfl rfl) rfl (fun b3 => ?_)
 refine sE (A6 rfl) rfl (fun b4 => ?_)
 refine A8 ?_
 refine sE (A6 rfl) rfl (fun b10 => ?_)
 refine B0 ?_
 (refine F4 rfl hT rfl rfl (fun v G1 hle1 hh => ?_); obtain ⟨cs1, F1, rfl, hs1, hn1⟩ := hh; obtain ⟨p1, c1, rfl, _⟩ := hs1.open; have hF := Y8 (.mk fk fks) G1 _ hfr' (hfr.mono hle1))
 refine E4 ?_
 (refine F4 rfl hF rfl rfl (fun v G2 hle2 hh => ?_); obtain ⟨cs2, F2, rfl, hs2, hn2⟩ := hh; obtain ⟨p2, c2, rfl, _⟩ := hs2.open; replace hsl := hsl.mono (hle1.trans hle2); replace hkl := hkl.mono (hle1.trans hle2))
 refine N7 ?_
 refine C2 ?_
 (refine W4 28 9 ?_; refine L4 (fun (x : Nat × Option Addr × Nat × List (List Value) × List Nat × IM) => ⟨[(4, .int .i64 x.1), (3, .pointer (some ⟨b10, 0, none⟩)), (1, .pointer (some ⟨b3, 0, none⟩)), (2, .pointer (some ⟨b4, 0, none⟩))], [.blk b10 [.int .i64 k, .string nm, .int .i64 num, .int .i64 tk, .slice p1 tks.length c1, .int .i64 fk, .slice p2 fks.length c2, .int .i64 lb, .slice x.2.1 x.1 x.2.2.1], .slc x.2.1 x.2.2.1 28 9 x.1 x.2.2.2.1.flatten, .blk b4 [.int .i64 0, .string ⟨⟨[]⟩⟩, .int .i64 0, .int .i64 0, .slice none 0 0, .int .i64 0, .slice none 0 0, .int .i64 0, .slice none 0 0], .blk b3 [.int .i64 k, .string nm, .int .i64 num, .int .i64 tk, .slice pt tks.length ct, .int .i64 fk, .slice pf fks.length cf, .int .i64 lb, .slice p ks.length c]], x.2.2.2.2.2⟩) (fun x => x.1 ≤ ks.length ∧ B9 G2 x.2.2.2.2.2 ∧ O9 (D9 x.2.2.2.2.2 G2) (ks.take x.1) x.2.2.2.1 x.2.2.2.2.1 ∧ x.2.2.2.2.1.Nodup) (fun x => ks.length - x.1) (0, none, 0, [], [], G2) ?_ ?_ ?_)
 (simp only [I6]; exact F9)
 exact ⟨by simp, B9.refl _, by simp [O9], by simp⟩
 (rintro ⟨i, pn, cn, es', F, Gi⟩ ⟨hi, hle, hst, hnd⟩; simp only [] at hi hle hst hnd ⊢; replace hsl := hsl.mono hle; replace hkl := hkl.mono hle)
 refine B0 ?_
 refine sB (N0 rfl rfl) rfl rfl (fun h56 => ?_) (fun h56 => ?_)
 refine A9 ?_
 refine C2 ?_
 (obtain ⟨b, o, e, rfl, hl, hat, hre, hgb⟩ := hsl.kidTm hkl (i := i) zZ zZ; have hone := hre.one; refine D3 D4 rfl ?_)
 refine I9 (i := 0) (l' := [tt,ff,ff,ff,ff,ff,ff,ff,ff,ff,ff,ff]) rfl C8 (C3 rfl) rfl zX rfl rfl ?_
 refine aL 1 rfl (E9 rfl rfl) rfl ?_
 refine aP 2 rfl (C3 rfl) rfl ?_
 refine aL 3 rfl (E9 rfl rfl) rfl ?_
 refine aP 4 rfl (qM rfl) rfl ?_
 refine aP 5 rfl (B6 rfl rfl rfl zZ) rfl ?_
 refine aL 6 rfl (A5 rfl rfl (hat _) hl) rfl ?_
 refine A2 7 ?_
 (refine H0 rfl rfl (ih ks[i] (List.getElem_mem zZ) _ _ (Tm.smallL_mem hks _ (List.getElem_mem zZ)) hre) rfl rfl rfl (fun v G3 hle3 hh => ?_); obtain ⟨cells', F', rfl, hs', hnd'⟩ := hh; obtain ⟨qt, dt, et', qf, df, ef', q3, d3, es3, rfl, _⟩ := hs'.R.open)
 refine A2 8 ?_
 (refine D2 rfl (D1 rfl rfl rfl zZ zU rfl) rfl rfl ?_; rintro _ ⟨b75, rfl⟩)
 refine A2 9 ?_
 refine O8 rfl rfl rfl rfl rfl rfl (fun _ _ => by repeat (first | exact Sw.here | apply Sw.there)) (J7 zS) rfl zT zU zZ rfl rfl zH (fun pn' cn' => ?_)
 refine aP 10 rfl (C3 rfl) rfl ?_
 refine A2 11 ?_
 refine T3 rfl rfl rfl rfl rfl rfl rfl rfl zX zR (by rfl) ?_
 refine A8 ?_
 refine sP (J9 rfl rfl zZ zZ) rfl rfl ?_
 refine A4 ?_
 refine J6 (i + 1, pn', cn', es' ++ [[.int .i64 ks[i].k, .string ks[i].nm, .int .i64 ks[i].num, .int .i64 ks[i].ty.k, .slice qt ks[i].ty.ks.length dt, .int .i64 ks[i].fr.k, .slice qf ks[i].fr.ks.length df, .int .i64 ks[i].lb, .slice q3 ks[i].ks.length d3]], F ++ F', G3) ?_ ?_ ?_
 (simp only [I6]; exact F9)
 exact ⟨by omega, hle.trans hle3, O9.step hst hnd hle hle3 zZ hs' hnd'⟩
 (show ks.length - (i + 1) < ks.length - i; omega)
 refine M8 ?_
 (refine J0 zP (fun G4 hle4 hsl4 hno4 => ?_); obtain rfl : i = ks.length := zZ)
 refine tT ?_
 refine O7 (rC rfl (A3 rfl rfl)) ?_
 (rw [List.take_length] at hst; obtain ⟨F3, hf1, hf2⟩ := A1M.fin hst hnd hle hle4 hsl4 hno4; obtain ⟨F5, hg1, hg2⟩ := P3.mk3 (nm := nm) hk hnum hlb hle1 hle2 (hle.trans hle4) hs1 hn1 hs2 hn2 hf1 hf2; exact ⟨rfl, _, F5, rfl, hg1, hg2⟩)
def R6 : Ty := .mk 1 []
def T4 : Nat → Ty → Prop
 | 0, .mk k ks => ks = [] ∧ k ≠ 4 ∧ k ≠ 5
 | n + 1, .mk k ks => (k = 4 ∨ k = 5 → ks.length = 2) ∧ (k ≠ 4 → k ≠ 5 → ks.length = 0) ∧ ∀ t ∈ ks, T4 n t
mutual
def I0 : Ty → Prop
 | .mk k ks => (k = 4 ∨ k = 5 → ks.length = 2) ∧ (k ≠ 4 → k ≠ 5 → ks.length = 0) ∧ A1o ks
def A1o : List Ty → Prop
 | [] => True
 | t :: ts => I0 t ∧ A1o ts
end
theorem A4o : ∀ {ts : List Ty}, A1o ts ↔ ∀ t ∈ ts, I0 t
 | [] => by simp [A1o]
 | t :: ts => by simp only [A1o, A4o (ts := ts), List.forall_mem_cons]
theorem T4.ar : ∀ {n : Nat} {t : Ty}, T4 n t → I0 t
 | 0, .mk k ks, h => by
  obtain ⟨rfl, h1, h2⟩ := h
  rw [I0]
  exact ⟨fun h => by omega, fun _ _ => rfl, by rw [A1o]; trivial⟩
 | n + 1, .mk k ks, h => by
  obtain ⟨h1, h2, h3⟩ := h
  rw [I0]
  exact ⟨h1, h2, A4o.2 fun t ht => (h3 t ht).ar⟩
theorem T4.up : ∀ {n : Nat} {t : Ty}, T4 n t → T4 (n + 1) t
 | 0, .mk k ks, h => by
  obtain ⟨rfl, h1, h2⟩ := h
  exact ⟨fun h => by omega, fun _ _ => rfl, by simp⟩
 | n + 1, .mk k ks, h => by
  obtain ⟨h1, h2, h3⟩ := h
  exact ⟨h1, h2, fun t ht => (h3 t ht).up⟩
theorem T4.le {n m : Nat} {t : Ty} (h : T4 n t) (hm : n ≤ m) : T4 m t := by
 induction hm with
 | refl => exact h
 | step _ ih => exact ih.up
theorem B3t {d : Nat} {k : Int} {ts : List Ty} (h0 : d = 0 → k < 4) (hl : (ts.length : Int) = X6 k) (h1 : 1 ≤ k) (h5 : k ≤ 5) (ha : ∀ u ∈ ts, T4 (d - 1) u) : T4 d (.mk k ts) := by
 have hk : k = 1 ∨ k = 2 ∨ k = 3 ∨ k = 4 ∨ k = 5 := by omega
 cases d with
 | zero =>
  have hk4 := h0 rfl
  refine ⟨?_, by omega, by omega⟩
  have : X6 k = 0 := by
   rcases hk with rfl | rfl | rfl | rfl | rfl <;> first | rfl | omega
  exact List.length_eq_zero_iff.1 zZ
 | succ d =>
  refine ⟨?_, ?_, ha⟩
  ·rintro (rfl | rfl)
   ·have : X6 4 = 2 := rfl
    omega
   ·have : X6 5 = 2 := rfl
    omega
  ·intro h4 h5
   have : X6 k = 0 := by
    rcases hk with rfl | rfl | rfl | rfl | rfl <;> first | rfl | omega
   omega
theorem A80 (n : Nat) : T4 n R6 := by
 refine T4.le (n := 0) ⟨rfl, by decide, by decide⟩ (Nat.zero_le n)
theorem A3M (n : Nat) {k : Int} (h4 : k ≠ 4) (h5 : k ≠ 5) : T4 n (.mk k []) := T4.le (n := 0) ⟨rfl, h4, h5⟩ (Nat.zero_le n)
theorem A4p : I0 R6 := (A80 0).ar
mutual
theorem I0.small : ∀ {t : Ty}, I0 t → t.small
 | .mk k ks, h => by
  rw [I0] at h
  rw [Ty.small]
  exact ⟨by have h1 := h.1; have h2 := h.2.1; omega, A1o.small h.2.2⟩
theorem A1o.small : ∀ {ts : List Ty}, A1o ts → Ty.smallL ts
 | [], _ => by rw [Ty.smallL]; trivial
 | t :: ts, h => by
  rw [A1o] at h
  rw [Ty.smallL]
  exact ⟨h.1.small, A1o.small h.2⟩
end
theorem A5o : ∀ {n : Nat} {t : Ty}, T4 n t → L8 t ≤ ((2 ^ (n + 1) - 2 : Nat) : Int)
 | 0, .mk k ks, h => by
  obtain ⟨rfl, h1, h2⟩ := h
  rw [L8, R5]; simp
 | n + 1, .mk k ks, h => by
  obtain ⟨h1, h2, h3⟩ := h
  have hp : 2 ≤ 2 ^ (n + 1) := by
   have := Nat.pow_le_pow_right (n := 2) zZ (show 1 ≤ n + 1 by omega)
   simpa using this
  have e : 2 ^ (n + 1 + 1) = 2 ^ (n + 1) * 2 := Nat.pow_succ ..
  have hl : ks.length = 0 ∨ ks.length = 2 := by omega
  rw [L8]
  match ks, hl, h3 with
  | [], _, _ => rw [R5]; simp
  | [a, b], _, h3 =>
   have := A5o (h3 a zA0)
   have := A5o (h3 b zA0)
   simp only [R5, List.length_cons, List.length_nil]; omega
theorem B3u {k : Int} {ks us : List Ty} : ∀ {n : Nat}, T4 n (.mk k ks) → us.length = ks.length → (∀ u ∈ us, T4 (n - 1) u) → T4 n (.mk k us)
 | 0, h, hl, _ => by
  obtain ⟨rfl, h1, h2⟩ := h
  exact ⟨List.length_eq_zero_iff.1 (by simpa using hl), h1, h2⟩
 | n + 1, h, hl, hu => by
  obtain ⟨h1, h2, h3⟩ := h
  exact ⟨fun hk => by rw [hl]; exact h1 hk, fun a b => by rw [hl]; exact h2 a b, hu⟩
theorem A6K {k : Int} {ks : List Ty} {t : Ty} : ∀ {n : Nat}, T4 n (.mk k ks) → t ∈ ks → T4 (n - 1) t
 | 0, h, ht => by
  obtain ⟨rfl, h1, h2⟩ := h
  simp at ht
 | n + 1, h, ht => h.2.2 t ht
section take
variable {P : Program} {Γ : M9} {env : O2} {hp : List A7} {G : IM} {K : Po} {ops : Array Oper} {rest : List Oper} {ty : TypeId} {pos : String} {af : Array Edge} {gd : Option (Nat × Bool)}
theorem K9 {d : Nat} {f : FuncId} [hF : C5 P f] {xs : List Operand} {ats : Array TypeId} {vs : List Value} {ins rst : List A7} {post : IM → Value → List A7 → Prop}
  (hx : evl env xs = some vs) (h : Fn P f vs ins G post) (hp' : hp.Perm (ins ++ rst)) (hw : N9 ops env gd = some true) (hd : Nat.blt d Γ.n = true)
  (k : ∀ v G' outs, B9 G G' → post G' v outs → H8 P Γ ops rest K ⟨(d, v) :: env, outs ++ rst, G'⟩) : H8 P Γ ops (⟨some d, .call ⟨.value (.func f), ⟨xs⟩, ats⟩, ty, pos, af, gd⟩ :: rest) K ⟨env, hp, G⟩ :=
 J2 (A4e hx h hp' hd) hw (by rintro _ ⟨v, G', outs, rfl, hle, hq⟩; exact k v G' outs hle hq)
end take
theorem A0X (G : IM) (br : Nat) (pb : Option Addr) (nb cb p : Nat) (bs : List UInt8) (q : Option Addr) (n c : Nat) (xs : List Value) (hb : Sl G pb nb cb 1 (R2 bs)) (hnb : nb ≤ 2000) (hp : p < 1099511627776) (hx : Sl G q n c 1 xs) (hn : 0 < n) :
  Fn Tryz.prog 72 [.pointer (some ⟨br, 0, none⟩), .slice q n c] [rd br pb nb cb p] G (fun G' v outs => G' = G ∧ outs = [rd br pb nb cb (p + 1)] ∧ v ∈ xs) := by
 refine C0 Tryz.func72 rfl Tryz.ntmps72 Tryz.results72 rfl ?_
 intro w0
 refine M3 ?_
 (refine K9 rfl (A0p G br pb nb cb p bs (n : Int) hb hnb hp) (List.Perm.refl _) rfl rfl (fun v G1 outs hle1 hh => ?_); obtain ⟨rfl, rfl, k, rfl, hk0, hkn⟩ := hh; obtain ⟨j, rfl⟩ := Int.eq_ofNat_of_zero_le hk0)
 (obtain ⟨b, o, v, rfl, hv, hat, _⟩ := hx.kid (i := j) zZ; refine sP (B6 rfl rfl rfl zZ) rfl rfl ?_)
 refine sL (I2 rfl rfl (hat _)) rfl rfl ?_
 refine B4 ?_
 refine H6 (rT rfl) A0.refl ?_
 exact ⟨rfl, rfl, List.mem_of_getElem? hv⟩
theorem A6L (G : IM) (br : Nat) (pb : Option Addr) (nb cb p : Nat) (bs : List UInt8) (q : Option Addr) (n c : Nat) (xs : List Value) (hb : Sl G pb nb cb 1 (R2 bs)) (hnb : nb ≤ 2000) (hp : p < 1099511627776) (hx : Sl G q n c 1 xs) (hn : 0 < n) :
  Fn Tryz.prog 73 [.pointer (some ⟨br, 0, none⟩), .slice q n c] [rd br pb nb cb p] G (fun G' v outs => G' = G ∧ outs = [rd br pb nb cb (p + 1)] ∧ v ∈ xs) := by
 refine C0 Tryz.func73 rfl Tryz.ntmps73 Tryz.results73 rfl ?_
 intro w0
 refine M3 ?_
 (refine K9 rfl (A0p G br pb nb cb p bs (n : Int) hb hnb hp) (List.Perm.refl _) rfl rfl (fun v G1 outs hle1 hh => ?_); obtain ⟨rfl, rfl, k, rfl, hk0, hkn⟩ := hh; obtain ⟨j, rfl⟩ := Int.eq_ofNat_of_zero_le hk0)
 (obtain ⟨b, o, v, rfl, hv, hat, _⟩ := hx.kid (i := j) zZ; refine sP (B6 rfl rfl rfl zZ) rfl rfl ?_)
 refine sL (I2 rfl rfl (hat _)) rfl rfl ?_
 refine B4 ?_
 refine H6 (rT rfl) A0.refl ?_
 exact ⟨rfl, rfl, List.mem_of_getElem? hv⟩
theorem A2y (G : IM) : Fn Tryz.prog 50 [] [] G (K5 (.agg ⟨[.int .i64 1, .slice none 0 0]⟩) G) := by
 refine C0 Tryz.func50 rfl Tryz.ntmps50 Tryz.results50 rfl ?_
 intro w0
 refine A4 ?_
 refine sE (A6 rfl) rfl (fun b3 => ?_)
 refine E8 ?_
 refine O7 (rC rfl (A3 rfl rfl)) ?_
 exact ⟨rfl, rfl, rfl⟩
def dB : Nat → Nat
 | 0 => 0
 | d + 1 => 2 * dB d + 2
theorem B3v {d : Nat} (h : d ≤ 3) : dB (d + 1) ≤ 30 := by
 have : d = 0 ∨ d = 1 ∨ d = 2 ∨ d = 3 := by omega
 rcases this with rfl | rfl | rfl | rfl <;> decide
theorem B3w (k : Int) : X6 k ≤ 2 := by
 unfold X6; split <;> try split
 all_goals omega
theorem A5p : ∀ (ts : List Ty) (t : Ty), R5 (ts ++ [t]) = R5 ts + L8 t
 | [], t => by simp [R5]
 | a :: ts, t => by simp only [List.cons_append, R5, A5p ts t]; omega
theorem D8.ty {G : IM} {k : Int} {ts : List Ty} {es : List (List Value)} {p : Option Addr} {n c : Nat} (h : D8 G ts es) (hn : ts.length = n) (hs : Sl G p n c 2 es.flatten) (hk : H5 k) : C6 G (.mk k ts) [.int .i64 k, .slice p n c] := by
 subst hn
 simp only [C6]
 exact ⟨p, c, es, rfl, hk, D6.of hs h.len h.all (fun e he => (h.each e he).2), h⟩
theorem A4q (br : Nat) (pb : Option Addr) (nb cb : Nat) (bs : List UInt8) (hnb : nb ≤ 2000) : ∀ (d p : Nat) (G : IM), d ≤ 1000 → Sl G pb nb cb 1 (R2 bs) → p + dB (d + 1) < 1099511627776 →
  Fn Tryz.prog 77 [.pointer (some ⟨br, 0, none⟩), .int .i64 ((d + 1 : Nat) : Int)] [rd br pb nb cb p] G
   (A1b br pb nb cb p (dB (d + 1)) (fun G' v => ∃ t cells, v = .agg ⟨cells⟩ ∧ C6 G' t cells ∧ L8 t ≤ ((dB (d + 1) : Nat) : Int) ∧ T4 d t)) := by
 refine fun d => Nat.strongRecOn d fun d ih p G hd hb hp => ?_
 rw [dB] at hp ⊢
 refine C0 Tryz.func77 rfl Tryz.ntmps77 Tryz.results77 rfl ?_
 intro w0
 refine A4 ?_
 refine sE (A6 rfl) rfl (fun b3 => ?_)
 refine A8 ?_
 (refine J2 (D1 rfl rfl rfl zZ zU rfl) rfl ?_; rintro _ ⟨b9, rfl⟩)
 (refine W9 zP (fun G1 hle1 hsl1 _ => ?_); refine K9 rfl (A0X G1 br pb nb cb p bs _ _ _ _ (hb.mono hle1) hnb zZ hsl1 zY) (Pk.perm zP) rfl rfl (fun v G2 outs hle2 hh => ?_); obtain ⟨rfl, rfl, hv⟩ := hh; replace hb := hb.mono hle1; obtain ⟨k, rfl, hk1⟩ : ∃ k, v = .int .i64 k ∧ 1 ≤ k ∧ k ≤ 5 := (by simp only [List.mem_cons, List.not_mem_nil, or_false] at hv; rcases hv with rfl | rfl | rfl | rfl | rfl | rfl | rfl <;> exact ⟨_, rfl, by decide, by decide⟩))
 refine A8 ?_
 (have hv' := hv; refine A0H (fun (x : Bool) => ⟨(16, .bool x) :: [(5, .int .i64 k), (4, .pointer (some ⟨b3, 0, none⟩)), (0, .pointer (some ⟨br, 0, none⟩)), (1, .int .i64 ((d + 1 : Nat) : Int))], [rd br pb nb cb (p + 1), .blk b3 [.int .i64 0, .slice none 0 0]], G2⟩) (fun x => x = false → d = 0 → k < 4) ?_ ?_)
 refine A4 ?_
 refine sB (N0 rfl rfl) rfl rfl (fun h19 => ?_) (fun h19 => ?_)
 refine A4 ?_
 refine sB (A1j rfl rfl) rfl rfl (fun h22 => ?_) (fun h22 => ?_)
 refine A4 ?_
 refine O4 true (I1 zO zJ) ?_
 (show _ = false → d = 0 → k < 4; intro hf h0; first | exact absurd hf zY | omega)
 refine A4 ?_
 refine O4 false (I1 zO zJ) ?_
 (show _ = false → d = 0 → k < 4; intro hf h0; first | exact absurd hf zY | omega)
 refine A8 ?_
 refine O4 false (I1 zO zJ) ?_
 (show _ = false → d = 0 → k < 4; intro hf h0; first | exact absurd hf zY | omega)
 (rintro x hx; clear hv)
 (show K7 _ _ (.cond (.tmp 16) _ _) _ _; refine A0H (fun (x : Int) => ⟨[(5, .int .i64 x), (4, .pointer (some ⟨b3, 0, none⟩)), (0, .pointer (some ⟨br, 0, none⟩)), (1, .int .i64 ((d + 1 : Nat) : Int))], [rd br pb nb cb (p + 1), .blk b3 [.int .i64 0, .slice none 0 0]], G2⟩) (fun x => 1 ≤ x ∧ x ≤ 5 ∧ (d = 0 → x < 4)) (A4Y rfl (fun hxt => ?_) (fun hxf => ?_)) ?_)
 refine C1 ?_
 refine O4 1 (I1 zO zJ) ?_
 (first | exact ⟨by omega, by omega, by omega⟩ | exact ⟨by omega, by omega, fun h0 => by have := hx hxf h0; omega⟩)
 refine tK ?_
 refine O4 k (I1 zO zJ) ?_
 (first | exact ⟨by omega, by omega, by omega⟩ | exact ⟨by omega, by omega, fun h0 => by have := hx hxf h0; omega⟩)
 (rintro kk ⟨hk2, hk3, hk4⟩; have hop := B3w kk; have hk5 := (P6 kk).1; have hk6 := (P6 kk).2.1; have hK := A8X kk)
 refine B4 ?_
 refine sE (A6 rfl) rfl (fun b53 => ?_)
 refine E8 ?_
 refine C2 ?_
 (refine W4 25 2 ?_; refine L4 (fun (x : Nat × Option Addr × Nat × List Ty × List (List Value) × Nat × IM) => ⟨[(7, .int .i64 x.1), (5, .int .i64 kk), (6, .pointer (some ⟨b53, 0, none⟩)), (4, .pointer (some ⟨b3, 0, none⟩)), (0, .pointer (some ⟨br, 0, none⟩)), (1, .int .i64 ((d + 1 : Nat) : Int))], [.blk b53 [.int .i64 kk, .slice x.2.1 x.1 x.2.2.1], .slc x.2.1 x.2.2.1 25 2 x.1 x.2.2.2.2.1.flatten, rd br pb nb cb x.2.2.2.2.2.1, .blk b3 [.int .i64 0, .slice none 0 0]], x.2.2.2.2.2.2⟩) (fun x => (∀ u ∈ x.2.2.2.1, T4 (d - 1) u) ∧ (x.1 : Int) ≤ X6 kk ∧ B9 G2 x.2.2.2.2.2.2 ∧ x.2.2.2.1.length = x.1 ∧ D8 x.2.2.2.2.2.2 x.2.2.2.1 x.2.2.2.2.1 ∧ R5 x.2.2.2.1 ≤ ((x.1 * dB d : Nat) : Int) ∧ p + 1 ≤ x.2.2.2.2.2.1 ∧ x.2.2.2.2.2.1 ≤ p + 1 + x.1 * dB d) (fun x => (X6 kk).toNat - x.1) (0, none, 0, [], [], p + 1, G2) ?_ ?_ ?_)
 (simp only [I6]; exact F9)
 (exact ⟨by simp, by dsimp only; omega, B9.refl _, rfl, by simp [D8], by simp [R5], by dsimp only; omega, by dsimp only; omega⟩)
 (rintro ⟨i, pn, cn, ts, es', p', Gi⟩ ⟨hah, hi, hle, hlt, hst, hsum, hq1, hq2⟩; simp only [] at hah hi hle hlt hst hsum hq1 hq2 ⊢; have hid : i * dB d ≤ 2 * dB d := Nat.mul_le_mul_right _ zZ)
 refine A8 ?_
 refine H1 rfl ((hK _)) rfl rfl ?_
 refine sB (N0 rfl rfl) rfl rfl (fun h74 => ?_) (fun h74 => ?_)
 refine A9 ?_
 refine C2 ?_
 (obtain ⟨d', rfl⟩ : ∃ d', d = d' + 1 := ⟨d - 1, by omega⟩; have hih := ih d' zZ p' Gi zZ (hb.mono hle) (by have := Nat.mul_le_mul_right (dB (d' + 1)) (show i + 1 ≤ 2 by omega); rw [Nat.succ_mul] at this; omega); refine D3 D4 rfl ?_)
 refine I9 (i := 0) (l' := [tt,ff,ff,ff,ff,ff,ff,ff,ff,ff]) rfl C8 (C3 rfl) rfl zX rfl rfl ?_
 refine aL 1 rfl (E9 rfl rfl) rfl ?_
 refine aP 2 rfl (qM rfl) rfl ?_
 refine aP 3 rfl (qM rfl) rfl ?_
 refine aP 4 rfl (A5j rfl rfl zZ) rfl ?_
 refine A2 5 ?_
 (refine A0y (l' := [tt,tt,tt,tt,tt,tt,ff,ff,ff,ff]) rfl rfl hih (Pk.perm zP) rfl rfl rfl zH (fun v G3 outs hle3 hh => ?_); obtain ⟨p3, hp31, hp32, rfl, t3, cells3, rfl, hr3, hs3, ha3⟩ := hh; obtain ⟨q3, c3, es3, rfl, _⟩ := hr3.open)
 refine A2 6 ?_
 (refine D2 rfl (D1 rfl rfl rfl zZ zU rfl) rfl rfl ?_; rintro _ ⟨b91, rfl⟩)
 refine A2 7 ?_
 refine O8 rfl rfl rfl rfl rfl rfl (fun _ _ => by repeat (first | exact Sw.here | apply Sw.there)) (J7 zS) rfl zT zU zZ rfl rfl zH (fun pn' cn' => ?_)
 refine aP 8 rfl (C3 rfl) rfl ?_
 refine A2 9 ?_
 refine T3 rfl rfl rfl rfl rfl rfl rfl rfl zX zR (by rfl) ?_
 refine A8 ?_
 refine sP (J9 rfl rfl zZ zZ) rfl rfl ?_
 refine A4 ?_
 refine J6 (i + 1, pn', cn', ts ++ [t3], es' ++ [[.int .i64 t3.k, .slice q3 t3.ks.length c3]], p3, G3) ?_ ?_ ?_
 (simp only [I6]; exact F9)
 (dsimp only; have e1 : (i + 1) * dB (d' + 1) = i * dB (d' + 1) + dB (d' + 1) := Nat.succ_mul _ _; have e2 := A5p ts t3; exact ⟨by simp only [List.forall_mem_append, List.forall_mem_singleton]; exact ⟨hah, ha3⟩, by omega, hle.trans hle3, by simp [hlt], D8.snoc (hst.mono hle3) hr3, by omega, by omega, by omega⟩)
 (show (X6 kk).toNat - (i + 1) < (X6 kk).toNat - i; omega)
 refine M8 ?_
 (refine J0 zP (fun G5 hle5 hsl5 hno5 => ?_))
 refine tT ?_
 refine H6 (outs := [rd br pb nb cb p']) (rC rfl (A3 rfl rfl)) zM ?_
 (refine ⟨p', by omega, by omega, rfl, .mk kk ts, _, rfl, (hst.mono hle5).ty hlt hsl5 ⟨by omega, by omega⟩, ?_, B3t hk4 zZ hk2 hk3 hah⟩; rw [L8]; omega)
theorem A81 (br : Nat) (pb : Option Addr) (nb cb : Nat) (bs : List UInt8) (hnb : nb ≤ 2000) (d p : Nat) (G : IM) (hd : d ≤ 1000) (hb : Sl G pb nb cb 1 (R2 bs)) (hp : p + dB (d + 1) < 1099511627776) :
  Fn Tryz.prog 77 [.pointer (some ⟨br, 0, none⟩), .int .i64 ((d + 1 : Nat) : Int)] [rd br pb nb cb p] G
   (A1b br pb nb cb p (dB (d + 1)) (fun G' v => ∃ t cells, v = .agg ⟨cells⟩ ∧ C6 G' t cells ∧ L8 t ≤ ((dB (d + 1) : Nat) : Int))) :=
 (A4q br pb nb cb bs hnb d p G hd hb hp).mono fun G' v outs _ ⟨p', h1, h2, h3, t, cells, h4, h5, h6, _⟩ => ⟨p', h1, h2, h3, t, cells, h4, h5, h6⟩
abbrev pt (b : Nat) : Value := .pointer (some ⟨b, 0, none⟩)
def ev : Option Nat → Value
 | none => .pointer none
 | some b => pt b
inductive NC where
 | vr (n : Nat)
 | bs (c : Bool)
 | tw (c : Bool) (x y : Nat)
abbrev VM := List (Nat × NC)
def A1p (E : Nat → Option Nat) : NC → List Value
 | .vr n => [.int .i64 0, ev (E n), .pointer none, .pointer none]
 | .bs c => [.int .i64 (if c = true then 3 else 2), .pointer none, .pointer none, .pointer none]
 | .tw c x y => [.int .i64 (if c = true then 5 else 4), .pointer none, pt x, pt y]
def H4 (M : VM) (E : Nat → Option Nat) : List A7 := A0F (M.map fun q => (q.1, A1p E q.2))
def K6 (M : VM) : SV → Nat → Prop
 | .v n, b => (b, .vr n) ∈ M
 | .b c, b => (b, .bs c) ∈ M
 | .t c x y, b => ∃ bx bz, (b, .tw c bx bz) ∈ M ∧ K6 M x bx ∧ K6 M y bz
def A0Y (M : VM) (B : BV) (E : Nat → Option Nat) : Prop := ∀ b n, (b, NC.vr n) ∈ M → (B n = none ∧ E n = none) ∨ ∃ s b', B n = some s ∧ E n = some b' ∧ K6 M s b'
theorem K6.mono {M M' : VM} (hM : ∀ q ∈ M, q ∈ M') : ∀ {s : SV} {b : Nat}, K6 M s b → K6 M' s b
 | .v _, _, h => hM _ h
 | .b _, _, h => hM _ h
 | .t _ _ _, _, h => by
  obtain ⟨bx, bz, h1, h2, h3⟩ := h
  exact ⟨bx, bz, hM _ h1, K6.mono hM h2, K6.mono hM h3⟩
theorem B3x (M : VM) (E : Nat → Option Nat) : Fp (H4 M E) = M.map Prod.fst := by
 unfold H4
 rw [A3J, List.map_map]; rfl
theorem V3 {M : VM} {E : Nat → Option Nat} {q : Nat × NC} (h : q ∈ M) : A7.blk q.1 (A1p E q.2) ∈ H4 M E :=
 A8n (p := (q.1, A1p E q.2)) (List.mem_map.2 ⟨q, h, rfl⟩)
theorem B3y {P : Program} {f : FuncId} {args : List Value} {M : VM} {E : Nat → Option Nat} (X : List A7) {G : IM} {post : IM → Value → List A7 → Prop}
  (h : (M.map Prod.fst).Nodup → Fn P f args (X ++ H4 M E) G post) : Fn P f args (X ++ H4 M E) G post :=
 ⟨fun w hw => (h (by
   have := hw.nodup
   rw [A0u, B3x, List.nodup_append] at this
   exact this.2.1)).run w hw⟩
theorem A1q {α β : Type} {M : List (α × β)} (h : (M.map Prod.fst).Nodup) : ∀ {b : α} {n m : β}, (b, n) ∈ M → (b, m) ∈ M → n = m := by
 induction M with
 | nil => intro n m b h1; cases h1
 | cons q M ih =>
  intro b n m h1 h2
  simp only [List.map_cons, List.nodup_cons] at h
  rcases List.mem_cons.1 h1 with e1 | g1 <;> rcases List.mem_cons.1 h2 with e2 | g2
  ·rw [← e1] at e2; cases e2; rfl
  ·exact absurd (List.mem_map_of_mem (f := Prod.fst) g2) (by rw [← e1] at h; exact h.1)
  ·exact absurd (List.mem_map_of_mem (f := Prod.fst) g1) (by rw [← e2] at h; exact h.1)
  ·exact ih h.2 g1 g2
theorem K6.inj {M : VM} (hK : (M.map Prod.fst).Nodup) : ∀ {s s' : SV} {b : Nat}, K6 M s b → K6 M s' b → s = s'
 | .v n, .v m, b, h, h' => by cases A1q hK h h'; rfl
 | .v n, .b c, b, h, h' => by cases A1q hK h h'
 | .v n, .t c x y, b, h, h' => by obtain ⟨_, _, h2, _⟩ := h'; cases A1q hK h h2
 | .b c, .v m, b, h, h' => by cases A1q hK h h'
 | .t c x y, .v m, b, h, h' => by obtain ⟨_, _, h2, _⟩ := h; cases A1q hK h2 h'
 | .b c, .b c', b, h, h' => by cases A1q hK h h'; rfl
 | .b c, .t c' x y, b, h, h' => by obtain ⟨_, _, h2, _⟩ := h'; cases A1q hK h h2
 | .t c x y, .b c', b, h, h' => by obtain ⟨_, _, h2, _⟩ := h; cases A1q hK h2 h'
 | .t c x y, .t c' x' y', b, h, h' => by
  obtain ⟨p, q, h1, h2, h3⟩ := h
  obtain ⟨p', q', h1', h2', h3'⟩ := h'
  cases A1q hK h1 h1'
  rw [K6.inj hK h2 h2', K6.inj hK h3 h3']
inductive HdN (B : BV) : Nat → SV → SV → Prop
 | free {n} : B n = none → HdN B 0 (.v n) (.v n)
 | link {k n s r} : B n = some s → HdN B k s r → HdN B (k + 1) (.v n) r
 | nv {s} : s.nv = true → HdN B 0 s s
theorem Hd.n {B : BV} {s r : SV} (h : Hd B s r) : ∃ k, HdN B k s r := by
 induction h with
 | free h => exact ⟨0, .free h⟩
 | link h _ i => obtain ⟨k, hk⟩ := i; exact ⟨k + 1, .link h hk⟩
 | nv h => exact ⟨0, .nv h⟩
theorem K6.rd {M : VM} {B : BV} {E : Nat → Option Nat} (hV : A0Y M B E) {s : SV} {b : Nat} (h : K6 M s b) :
  ∃ e pa pb, A7.blk b [.int .i64 s.kd, ev e, ev pa, ev pb] ∈ H4 M E ∧
   ((∃ n, s = .v n ∧ B n = none ∧ e = none ∧ pa = none ∧ pb = none) ∨ (∃ n u b', s = .v n ∧ B n = some u ∧ e = some b' ∧ K6 M u b' ∧ pa = none ∧ pb = none) ∨
    (∃ c, s = .b c ∧ e = none ∧ pa = none ∧ pb = none) ∨ ∃ c x y bx bz, s = .t c x y ∧ e = none ∧ pa = some bx ∧ pb = some bz ∧ K6 M x bx ∧ K6 M y bz) := by
 cases s with
 | v n =>
  have hm : (b, .vr n) ∈ M := h
  refine ⟨E n, none, none, V3 hm, ?_⟩
  rcases hV _ _ hm with ⟨h1, h2⟩ | ⟨u, b', h1, h2, h3⟩
  ·exact .inl ⟨n, rfl, h1, h2, rfl, rfl⟩
  ·exact .inr (.inl ⟨n, u, b', rfl, h1, h2, h3, rfl, rfl⟩)
 | b c =>
  have hm : (b, .bs c) ∈ M := h
  exact ⟨none, none, none, V3 hm, .inr (.inr (.inl ⟨c, rfl, rfl, rfl, rfl⟩))⟩
 | t c x y =>
  obtain ⟨bx, bz, h1, h2, h3⟩ := h
  exact ⟨none, some bx, some bz, V3 h1, .inr (.inr (.inr ⟨c, x, y, bx, bz, rfl, rfl, rfl, rfl, h2, h3⟩))⟩
theorem K6.blk {M : VM} {E : Nat → Option Nat} {s : SV} {b : Nat} (h : K6 M s b) : ∃ cs, A7.blk b cs ∈ H4 M E := by
 cases s with
 | v n => exact ⟨_, V3 (q := (b, .vr n)) h⟩
 | b c => exact ⟨_, V3 (q := (b, .bs c)) h⟩
 | t c x y => obtain ⟨bx, bz, h1, _⟩ := h; exact ⟨_, V3 h1⟩
def A1r (E : Nat → Option Nat) (n b : Nat) : Nat → Option Nat := fun m => if m = n then some b else E m
def Nm1 (M : VM) : Prop := ∀ b b' n, (b, NC.vr n) ∈ M → (b', NC.vr n) ∈ M → b = b'
theorem A82 {E : Nat → Option Nat} {n b bs : Nat} : ∀ {M : VM}, (M.map Prod.fst).Nodup → Nm1 M → (b, NC.vr n) ∈ M →
  Sw (H4 M E) (.blk b [.int .i64 0, ev (E n), .pointer none, .pointer none]) (.blk b [.int .i64 0, pt bs, .pointer none, .pointer none]) (H4 M (A1r E n bs))
 | [], _, _, h => by cases h
 | q :: M, hn, h1, h => by
  simp only [List.map_cons, List.nodup_cons] at hn
  have key : ∀ c : NC, c ≠ .vr n → A1p (A1r E n bs) c = A1p E c := fun c hc => by
   cases c with
   | vr m =>
    have : m ≠ n := fun e => hc (by rw [e])
    simp [A1p, A1r, this]
   | bs c => rfl
   | tw c x y => rfl
  rcases List.mem_cons.1 h with he0 | hm
  ·subst he0
   have he : H4 M (A1r E n bs) = H4 M E := by
    unfold H4
    congr 1
    apply List.map_congr_left
    intro q hq
    rw [key]
    intro hc
    obtain ⟨b', c'⟩ := q
    dsimp only at hc
    subst hc
    have := h1 b b' n List.mem_cons_self (List.mem_cons_of_mem _ hq)
    subst this
    exact hn.1 (List.mem_map_of_mem (f := Prod.fst) hq)
   have h2 : H4 ((b, NC.vr n) :: M) (A1r E n bs) = .blk b [.int .i64 0, pt bs, .pointer none, .pointer none] :: H4 M (A1r E n bs) := by
    simp [H4, A0F, A1p, A1r, ev]
   rw [h2, he]
   exact Sw.here
  ·have hq : q.2 ≠ .vr n := fun hc => by
    obtain ⟨b', c'⟩ := q
    dsimp only at hc
    subst hc
    have := h1 b' b n List.mem_cons_self (List.mem_cons_of_mem _ hm)
    subst this
    exact hn.1 (List.mem_map_of_mem (f := Prod.fst) hm)
   have h2 : H4 (q :: M) (A1r E n bs) = .blk q.1 (A1p E q.2) :: H4 M (A1r E n bs) := by
    rw [← key _ hq]; rfl
   rw [h2]
   exact Sw.there (A82 hn.2 (fun a a' m ha ha' => h1 a a' m (List.mem_cons_of_mem _ ha) (List.mem_cons_of_mem _ ha')) hm)
theorem A0Y.put {M : VM} {B : BV} {E : Nat → Option Nat} {n bs : Nat} {s : SV} (h : A0Y M B E) (hs : K6 M s bs) : A0Y M (A0N B n s) (A1r E n bs) := by
 intro b m hq
 unfold A0N A1r
 by_cases hn : m = n
 ·exact .inr ⟨s, bs, by rw [if_pos hn], by rw [if_pos hn], hs⟩
 ·rw [if_neg hn, if_neg hn]; exact h b m hq
section tail
variable {P : Program} {Γ : M9} {env : O2} {hp : List A7} {G : IM} {K : Po} {ops : Array Oper} {rest : List Oper} {ty : TypeId} {pos : String} {af : Array Edge} {gd : Option (Nat × Bool)}
theorem Q9 {d : Nat} {f : FuncId} [hF : C5 P f] {xs : List Operand} {ats : Array TypeId} {vs : List Value} (X : List A7) {T R : List A7} {post : IM → Value → List A7 → Prop}
  (hx : evl env xs = some vs) (h : Fn P f vs T G post) (hR : R = X ++ T) (hw : N9 ops env gd = some true) (hd : Nat.blt d Γ.n = true)
  (k : ∀ v G' outs, B9 G G' → post G' v outs → H8 P Γ ops rest K ⟨(d, v) :: env, X ++ outs, G'⟩) : H8 P Γ ops (⟨some d, .call ⟨.value (.func f), ⟨xs⟩, ats⟩, ty, pos, af, gd⟩ :: rest) K ⟨env, R, G⟩ := by
 subst hR
 exact K9 hx h List.perm_append_comm hw hd (fun v G' outs hle hh => A3G List.perm_append_comm (k v G' outs hle hh))
inductive HmT (ops : Array Oper) (j : Nat) (G : IM) : List (Nat × Nat) → List (Nat × Nat) → Prop
 | nil : HmT ops j G [] []
 | dep {i b : Nat} {H H' : List (Nat × Nat)} : Z7 ops j i = true → HmT ops j G H H' → HmT ops j G ((i, b) :: H) H'
 | im {i b : Nat} {H H' : List (Nat × Nat)} : Z7 ops j i = false → G b ≠ none → HmT ops j G H H' → HmT ops j G ((i, b) :: H) ((i, b) :: H')
theorem HmT.spec {j : Nat} {H H' : List (Nat × Nat)} (h : HmT ops j G H H') : ∀ p ∈ H, Z7 ops j p.1 = true ∨ G p.2 ≠ none := by
 induction h with
 | nil => intro p hp; cases hp
 | dep h1 _ i =>
  intro p hp
  rcases List.mem_cons.1 hp with rfl | hp
  ·exact .inl h1
  ·exact i p hp
 | im _ h2 _ i =>
  intro p hp
  rcases List.mem_cons.1 hp with rfl | hp
  ·exact .inr h2
  ·exact i p hp
theorem HmT.filter {j : Nat} {H H' : List (Nat × Nat)} (h : HmT ops j G H H') : H.filter (fun p => !Z7 ops j p.1) = H' := by
 induction h with
 | nil => rfl
 | dep h1 _ i => rw [List.filter_cons, h1]; simpa using i
 | im h1 _ _ i => rw [List.filter_cons, h1]; simpa using i
theorem A2N {H H' : List (Nat × Nat)} {fuel : Nat} {listed l' : List Bool} {j d : Nat} {f : FuncId} [hF : C5 P f] {xs : List Operand} {ats : Array TypeId} {vs : List Value} {T R : List A7} {post : IM → Value → List A7 → Prop}
  (hi : ops[j]? = some ⟨some d, .call ⟨.value (.func f), ⟨xs⟩, ats⟩, ty, pos, af, gd⟩) (X : List A7)
  (hx : evl env xs = some vs) (h : Fn P f vs T G post) (hR : R = X ++ T) (hw : N9 ops env gd = some true) (hd : Nat.blt d Γ.n = true) (hl : listed.set j true = l')
  (k : ∀ v G' outs, B9 G G' → post G' v outs → M7 P Γ ops K H' fuel l' ⟨(d, v) :: env, X ++ outs, G'⟩)
  (hm : HmT ops j G H H' := by repeat (first | exact HmT.nil | apply HmT.dep zV | apply HmT.im zV zW)) : V7 P Γ ops K H fuel listed j ⟨env, R, G⟩ := by
 subst hR
 refine A3I hi (A4e hx h List.perm_append_comm hd) hw hl (fun a w hs p hp => (hm.spec p hp).imp id fun hg hb => hg (hs.res.own.disj _ ?_)) hm.filter (by rintro _ ⟨v, G', outs, rfl, hle, hq⟩; exact A8l List.perm_append_comm (k v G' outs hle hq))
 rw [A0u]
 exact List.mem_append_right _ hb
theorem A83 {e : A7} (Y : List A7) {T : List A7} (k : H8 P Γ ops rest K ⟨env, Y ++ e :: T, G⟩) : H8 P Γ ops rest K ⟨env, e :: (Y ++ T), G⟩ :=
 A3G List.perm_middle.symm k
theorem A84 {H : List (Nat × Nat)} {fuel : Nat} {listed : List Bool} {e : A7} (Y : List A7) {T : List A7} (k : M7 P Γ ops K H fuel listed ⟨env, Y ++ e :: T, G⟩) : M7 P Γ ops K H fuel listed ⟨env, e :: (Y ++ T), G⟩ :=
 A8l List.perm_middle.symm k
theorem A85 {t el : TypeId} {i : L7} [hI : H9 P t i] (hd : i.desc = .pointer el) (p : Option Addr) (w : World) : (Op.equal t (.pointer p) (.pointer none)).run P w = .ok p.isNone w := by
 have hu := hI.und
 rw [hd] at hu
 have h : ∀ d, (Op.equalIn (d + 1) t (.pointer p) (.pointer none)).run P w = .ok p.isNone w := fun d => by
  cases p <;> simp [Op.equalIn, Sem.run_bind, run_underlying hu]
 exact h 9999
theorem A4r {x y : Operand} {t t' el : TypeId} {i : L7} [hI : H9 P t i] (hd : i.desc = .pointer el) {p : Option Addr} (hx : evo env x = some (.pointer p)) (hy : evo env y = some (.pointer none)) :
  J3 P Γ ⟨env, hp, G⟩ (.binOp .eql t x y t') ty (.bool p.isNone) := by
 refine ⟨fun a _ hs _ _ _ _ w => ?_⟩
 simp only [execOp, eqGuard, binOp, (hs.evo hx : a.eval x = _), (hs.evo hy : a.eval y = _), Sem.run_bind, A85 hd, Sem.run_pure, Result.andThen_ok]
 cases p <;> rfl
theorem A3h {x y : Operand} {t t' el : TypeId} {i : L7} [hI : H9 P t i] (hd : i.desc = .pointer el) {p : Option Addr} (hx : evo env x = some (.pointer p)) (hy : evo env y = some (.pointer none)) :
  J3 P Γ ⟨env, hp, G⟩ (.binOp .neq t x y t') ty (.bool p.isSome) := by
 refine ⟨fun a _ hs _ _ _ _ w => ?_⟩
 simp only [execOp, eqGuard, binOp, (hs.evo hx : a.eval x = _), (hs.evo hy : a.eval y = _), Sem.run_bind, A85 hd, Sem.run_pure, Result.andThen_ok]
 cases p <;> rfl
theorem B3z {d : Nat} {x y : Operand} {t t' el : TypeId} {i ie : L7} [hI : H9 P t i] (hd0 : i.desc = .pointer el) [hE : H9 P el ie] (hz : ie.size ≠ 0) {b b' : Nat} {cs cs' : List Value}
  (hd : Nat.blt d Γ.n = true) (hx : evo env x = some (pt b)) (hy : evo env y = some (pt b')) (h1 : A7.blk b cs ∈ hp) (h2 : A7.blk b' cs' ∈ hp) :
  Z1 P Γ ⟨env, hp, G⟩ (some d) (.binOp .eql t x y t') ty [] (fun σ' => σ' = ⟨(d, .bool (decide (b = b'))) :: env, hp, G⟩) := by
 refine ⟨fun a w hs pos af gd Q next hn => ?_⟩
 have hu := hI.und
 rw [hd0] at hu
 obtain ⟨inf, hinf, hsz, _⟩ := hE.info
 obtain ⟨e1, k1⟩ := hs.res.own.ok _ h1
 obtain ⟨e2, k2⟩ := hs.res.own.ok _ h2
 have hr : (binOp .eql t (pt b) (pt b')).run P w = .ok (.bool (decide (b = b'))) w := by
  by_cases hb : b = b'
  ·subst hb
   rw [decide_eq_true rfl]
   exact run_eql_ptr_same w _ hu hinf
  ·rw [decide_eq_false hb]
   exact run_eql_ptr_other w hu hinf (by rw [hsz]; exact hz) (fun he => hb (by cases he; rfl)) k1 k2
 have hrun : (execOp a.eval ⟨some d, .binOp .eql t x y t', ty, pos, af, gd⟩).run P w = .ok (.value (.bool (decide (b = b')))) w := by
  simp only [execOp, eqGuard, (hs.evo hx : a.eval x = _), (hs.evo hy : a.eval y = _), Sem.run_bind, hr, Sem.run_pure, Result.andThen_ok]
  simp only [pt] at hr ⊢
  simp [hr]
 simp only [Oper.wp, hrun, Oper.upon]
 exact hn _ _ _ (hs.put d _ (by simpa using hd) hs.res) (Ext.refl _ _) rfl
theorem A1P {d : Nat} {x y : Operand} {t t' el : TypeId} {i ie : L7} [hI : H9 P t i] (hd0 : i.desc = .pointer el) [hE : H9 P el ie] (hz : ie.size ≠ 0) {b b' : Nat} {cs cs' : List Value}
  (hd : Nat.blt d Γ.n = true) (hx : evo env x = some (pt b)) (hy : evo env y = some (pt b')) (h1 : A7.blk b cs ∈ hp) (h2 : A7.blk b' cs' ∈ hp) (hw : N9 ops env gd = some true)
  (kt : b = b' → H8 P Γ ops rest K ⟨(d, .bool true) :: env, hp, G⟩) (kf : b ≠ b' → H8 P Γ ops rest K ⟨(d, .bool false) :: env, hp, G⟩) : H8 P Γ ops (⟨some d, .binOp .eql t x y t', ty, pos, af, gd⟩ :: rest) K ⟨env, hp, G⟩ := by
 refine J2 (B3z hd0 hz hd hx hy h1 h2) hw ?_
 rintro _ rfl
 by_cases hb : b = b'
 ·rw [decide_eq_true hb]; exact kt hb
 ·rw [decide_eq_false hb]; exact kf hb
end tail
theorem K6.lk {M : VM} {B : BV} {E : Nat → Option Nat} (hV : A0Y M B E) {s r : SV} {b k : Nat} (h : K6 M s b) (hd : HdN B k s r) :
  ∃ e pa pb, A7.blk b [.int .i64 s.kd, ev e, ev pa, ev pb] ∈ H4 M E ∧ ((e = none ∧ s = r) ∨ ∃ b' k' u, e = some b' ∧ k = k' + 1 ∧ HdN B k' u r ∧ K6 M u b') := by
 obtain ⟨e, pa, pb, hm, hc⟩ := h.rd hV
 refine ⟨e, pa, pb, hm, ?_⟩
 cases hd with
 | free hb =>
  rcases hc with ⟨n, h1, h2, h3, _⟩ | ⟨n, u, b', h1, h2, h3, _⟩ | ⟨c, h1, _⟩ | ⟨c, x, y, bx, bz, h1, _⟩
  ·exact .inl ⟨h3, rfl⟩
  ·cases h1; rw [hb] at h2; cases h2
  ·cases h1
  ·cases h1
 | link hb hk =>
  rcases hc with ⟨n, h1, h2, h3, _⟩ | ⟨n, u, b', h1, h2, h3, h4, _⟩ | ⟨c, h1, _⟩ | ⟨c, x, y, bx, bz, h1, _⟩
  ·cases h1; rw [hb] at h2; cases h2
  ·cases h1; rw [hb] at h2; cases h2; exact .inr ⟨b', _, _, h3, rfl, hk, h4⟩
  ·cases h1
  ·cases h1
 | nv hn =>
  rcases hc with ⟨n, h1, h2, h3, _⟩ | ⟨n, u, b', h1, h2, h3, h4, _⟩ | ⟨c, h1, h3, _⟩ | ⟨c, x, y, bx, bz, h1, h3, _⟩
  ·cases h1; cases hn
  ·cases h1; cases hn
  ·exact .inl ⟨h3, rfl⟩
  ·exact .inl ⟨h3, rfl⟩
def B3A (M : VM) (E : Nat → Option Nat) (G : IM) (r : SV) : IM → Value → List A7 → Prop := fun G' v outs => G' = G ∧ outs = H4 M E ∧ ∃ b', v = pt b' ∧ K6 M r b'
theorem Y9 (M : VM) (B : BV) (E : Nat → Option Nat) (s r : SV) (b : Nat) (G : IM) (hV : A0Y M B E) (h : Hd B s r) (hr : K6 M s b) :
  Fn Tryz.prog 42 [pt b] (H4 M E) G (B3A M E G r) := by
 obtain ⟨k0, hk0⟩ := h.n
 refine C0 Tryz.func42 rfl Tryz.ntmps42 Tryz.results42 rfl ?_
 intro w0
 refine A9 ?_
 refine C2 ?_
 (refine L4 (fun (x : Nat × SV × Nat) => ⟨[(0, pt x.2.2)], H4 M E, G⟩) (fun x => HdN B x.1 x.2.1 r ∧ K6 M x.2.1 x.2.2) (fun x => x.1) (k0, s, b) ?_ ?_ ?_)
 (simp only [I6]; exact F9)
 (exact ⟨hk0, hr⟩)
 (rintro ⟨(k : Nat), u, (bu : Nat)⟩ ⟨hk, hru⟩; simp only [] at hk hru ⊢; obtain ⟨e, pa, pb, hm, hc⟩ := hru.lk hV hk; rcases hc with ⟨rfl, hur⟩ | ⟨b', k', u', rfl, hkk, hk', hr'⟩)
 refine B4 ?_
 refine sQ (K0 rfl) rfl ?_
 refine E0 ?_
 refine sL (I2 rfl rfl (P0 hm rfl)) rfl rfl ?_
 refine sQ (A3h rfl rfl rfl) rfl ?_
 refine I5 ?_
 refine H6 (outs := H4 M E) (rT rfl) A0.refl ?_
 (rw [← hur]; exact ⟨rfl, rfl, bu, rfl, hru⟩)
 refine B4 ?_
 refine sQ (K0 rfl) rfl ?_
 refine E0 ?_
 refine sL (I2 rfl rfl (P0 hm rfl)) rfl rfl ?_
 refine sQ (A3h rfl rfl rfl) rfl ?_
 refine A8 ?_
 refine C2 ?_
 refine A4 ?_
 refine sQ (K0 rfl) rfl ?_
 refine E0 ?_
 refine sL (I2 rfl rfl (P0 hm rfl)) rfl rfl ?_
 refine C1 ?_
 refine J6 (k', u', b') ?_ ?_ ?_
 (simp only [I6]; exact F9)
 (exact ⟨hk', hr'⟩)
 (show k' < k; omega)
theorem K6.v2 {M : VM} {n b : Nat} (h : K6 M (.v n) b) : (b, NC.vr n) ∈ M := h
theorem K6.b2 {M : VM} {c : Bool} {b : Nat} (h : K6 M (.b c) b) : (b, NC.bs c) ∈ M := h
theorem K6.t2 {M : VM} {c : Bool} {x y : SV} {b : Nat} (h : K6 M (.t c x y) b) : ∃ bx bz, (b, NC.tw c bx bz) ∈ M ∧ K6 M x bx ∧ K6 M y bz := h
theorem B3B (M : VM) (B : BV) (E : Nat → Option Nat) (n bn : Nat) (G : IM) (hV : A0Y M B E) (hnd : (M.map Prod.fst).Nodup) (hN : Nm1 M) (hn : (bn, NC.vr n) ∈ M) :
  ∀ (t s : SV) (b : Nat), Q8 B s t → K6 M s b → Fn Tryz.prog 117 [pt b, pt bn] (H4 M E) G (X0 (.bool (occ n t)) (H4 M E) G) := by
 intro t
 induction t with
 | v m =>
  intro s b hd hr
  obtain ⟨h, hh, rfl, hB⟩ := hd.hd
  have hF := Y9 M B E s _ b G hV hh hr
  refine C0 Tryz.func117 rfl Tryz.ntmps117 Tryz.results117 rfl ?_
  intro w0
  refine E4 ?_
  (refine Q9 [] rfl hF rfl rfl rfl (fun v G1 outs hle1 hh => ?_); obtain ⟨hG, rfl, b1, rfl, hr1⟩ := hh; replace hG := hG.symm; subst hG; replace hr1 := hr1.v2)
  refine B0 ?_
  refine A1P rfl zY rfl rfl rfl (V3 hr1) (V3 hn) rfl (fun hb => ?_) (fun hb => ?_)
  refine A48 ?_
  refine H6 (outs := H4 M E) (rT rfl) A0.refl ?_
  (subst hb; cases A1q hnd hr1 hn; exact ⟨rfl, by rw [occ, decide_eq_true rfl], rfl⟩)
  refine A4 ?_
  refine sQ (K0 rfl) rfl ?_
  refine E0 ?_
  refine sL (I2 rfl rfl (P0 (V3 hr1) rfl)) rfl rfl ?_
  refine sQ (A3h rfl rfl rfl) rfl ?_
  refine Y1 ?_
  refine H6 (outs := H4 M E) (rT rfl) A0.refl ?_
  (exact ⟨rfl, by rw [occ, decide_eq_false (fun he => hb (hN _ _ _ hr1 (by rw [he]; exact hn)))], rfl⟩)
 | b c =>
  intro s b hd hr
  obtain ⟨h, hh, rfl⟩ := hd.hd
  have hF := Y9 M B E s _ b G hV hh hr
  refine C0 Tryz.func117 rfl Tryz.ntmps117 Tryz.results117 rfl ?_
  intro w0
  refine E4 ?_
  (refine Q9 [] rfl hF rfl rfl rfl (fun v G1 outs hle1 hh => ?_); obtain ⟨hG, rfl, b1, rfl, hr1⟩ := hh; replace hG := hG.symm; subst hG; replace hr1 := hr1.b2)
  refine B0 ?_
  refine A1P rfl zY rfl rfl rfl (V3 hr1) (V3 hn) rfl (fun hb => ?_) (fun hb => ?_)
  refine A48 ?_
  refine H6 (outs := H4 M E) (rT rfl) A0.refl ?_
  (subst hb; cases A1q hnd hr1 hn)
  refine A4 ?_
  refine sQ (K0 rfl) rfl ?_
  refine E0 ?_
  refine sL (I2 rfl rfl (P0 (V3 hr1) rfl)) rfl rfl ?_
  refine sQ (A3h rfl rfl rfl) rfl ?_
  refine Y1 ?_
  refine H6 (outs := H4 M E) (rT rfl) A0.refl ?_
  (exact ⟨rfl, rfl, rfl⟩)
 | t c p q ihp ihq =>
  intro s b hd hr
  obtain ⟨h, hh, x, y, rfl, hx, hy⟩ := hd.hd
  have hF := Y9 M B E s _ b G hV hh hr
  refine C0 Tryz.func117 rfl Tryz.ntmps117 Tryz.results117 rfl ?_
  intro w0
  refine E4 ?_
  (refine Q9 [] rfl hF rfl rfl rfl (fun v G1 outs hle1 hh => ?_); obtain ⟨hG, rfl, b1, rfl, hr1⟩ := hh; replace hG := hG.symm; subst hG; obtain ⟨bx, bz, hm1, hrx, hry⟩ := hr1.t2; have hp := ihp x bx hx hrx; have hq := ihq y bz hy hry; obtain ⟨o1, ho1⟩ : ∃ o, occ n p = o := ⟨_, rfl⟩; rw [ho1] at hp)
  refine B0 ?_
  refine A1P rfl zY rfl rfl rfl (V3 hm1) (V3 hn) rfl (fun hb => ?_) (fun hb => ?_)
  refine A48 ?_
  refine H6 (outs := H4 M E) (rT rfl) A0.refl ?_
  (subst hb; cases A1q hnd hm1 hn)
  refine A4 ?_
  refine sQ (K0 rfl) rfl ?_
  refine E0 ?_
  refine sL (I2 rfl rfl (P0 (V3 hm1) rfl)) rfl rfl ?_
  refine sQ (A3h rfl rfl rfl) rfl ?_
  refine A4 ?_
  refine sQ (K0 rfl) rfl ?_
  refine E0 ?_
  refine sL (I2 rfl rfl (P0 (V3 hm1) rfl)) rfl rfl ?_
  refine E0 ?_
  (refine Q9 [] rfl hp rfl rfl rfl (fun v G1 outs hle1 hh => ?_); obtain ⟨hG, rfl, rfl⟩ := hh; replace hG := hG.symm; subst hG; clear hp; cases o1)
  refine A4 ?_
  refine sQ (K0 rfl) rfl ?_
  refine E0 ?_
  refine sL (I2 rfl rfl (P0 (V3 hm1) rfl)) rfl rfl ?_
  refine E0 ?_
  (refine Q9 [] rfl hq rfl rfl rfl (fun v G1 outs hle1 hh => ?_); obtain ⟨hG, rfl, rfl⟩ := hh; replace hG := hG.symm; subst hG)
  refine B0 ?_
  refine H6 (outs := H4 M E) (rT rfl) A0.refl ?_
  (exact ⟨rfl, by rw [occ, ho1]; rfl, rfl⟩)
  refine M8 ?_
  refine H6 (outs := H4 M E) (rT rfl) A0.refl ?_
  (exact ⟨rfl, by rw [occ, ho1]; rfl, rfl⟩)
def A4s (M : VM) (G : IM) (B : BV) (ok : Bool) : IM → Value → List A7 → Prop := fun G' v outs => G' = G ∧ v = .bool ok ∧ ∃ E', outs = H4 M E' ∧ A0Y M B E'
theorem A1d {s : SV} (h : s.nv = true) : s.kd ≠ 0 := by
 cases s with
 | v n => cases h
 | b c => cases c <;> simp [SV.kd]
 | t c x y => cases c <;> simp [SV.kd]
theorem A5q (M : VM) (B : BV) (E : Nat → Option Nat) (n : Nat) (s r a b : SV) (pa pb : Nat) (G : IM) (hV : A0Y M B E) (hnd : (M.map Prod.fst).Nodup) (hN : Nm1 M)
  (ha : Hd B a (.v n)) (hb : Hd B b s) (hs : s ≠ .v n) (hd : Q8 B s r) (hra : K6 M a pa) (hrb : K6 M b pb) :
  Fn Tryz.prog 80 [pt pa, pt pb] (H4 M E) G (A4s M G (if occ n r = true then B else A0N B n s) (!occ n r)) := by
 have hF1 := Y9 M B E a _ pa G hV ha hra
 have hF2 := Y9 M B E b _ pb G hV hb hrb
 obtain ⟨o, ho⟩ : ∃ o, occ n r = o := ⟨_, rfl⟩
 refine C0 Tryz.func80 rfl Tryz.ntmps80 Tryz.results80 rfl ?_
 intro w0
 refine E4 ?_
 (refine Q9 [] rfl hF1 rfl rfl rfl (fun v G1 outs hle1 hh => ?_); clear hF1; obtain ⟨hG, rfl, b1, rfl, hr1⟩ := hh; replace hG := hG.symm; subst hG; replace hr1 := hr1.v2)
 refine E0 ?_
 (refine Q9 [] rfl hF2 rfl rfl rfl (fun v G1 outs hle1 hh => ?_); clear hF2; obtain ⟨hG, rfl, b2, rfl, hr2⟩ := hh; replace hG := hG.symm; subst hG; obtain ⟨c2, hm2⟩ := hr2.blk (E := E); have hne : b1 ≠ b2 := (fun he => hs (hr2.inj hnd (by rw [← he]; exact hr1))); have hO := B3B M B E n b1 G hV hnd hN hr1 r s b2 hd hr2; rw [ho] at hO)
 refine A8 ?_
 refine C2 ?_
 refine B4 ?_
 refine A1P rfl zY rfl rfl rfl (V3 hr1) hm2 rfl (fun hb => absurd hb hne) (fun hb => ?_)
 refine B0 ?_
 refine sQ (K0 rfl) rfl ?_
 refine E0 ?_
 refine sL (I2 rfl rfl (P0 (V3 hr1) rfl)) rfl rfl ?_
 refine sP (N6 rfl rfl zZ) rfl rfl ?_
 refine E8 ?_
 (refine Q9 [] rfl hO rfl rfl rfl (fun v G1 outs hle1 hh => ?_); obtain ⟨hG, rfl, rfl⟩ := hh; replace hG := hG.symm; subst hG; clear hO; cases o)
 refine E8 ?_
 refine sQ (K0 rfl) rfl ?_
 refine E0 ?_
 refine Q3 rfl rfl rfl rfl rfl rfl (A82 hnd hN hr1) (by rfl) ?_
 refine J4 ?_
 refine H6 (outs := H4 M (A1r E n b2)) (rT rfl) A0.refl ?_
 (rw [ho]; exact ⟨rfl, rfl, _, rfl, hV.put hr2⟩)
 refine O3 ?_
 refine H6 (outs := H4 M E) (rT rfl) A0.refl ?_
 (rw [ho]; exact ⟨rfl, rfl, E, rfl, hV⟩)
theorem A4t {M : VM} {b x y : Nat} {c : Bool} {K : Int} (hK : (if c = true then 5 else 4) = K) (h : (b, NC.tw c x y) ∈ M) (E : Nat → Option Nat) : A7.blk b [.int .i64 K, .pointer none, pt x, pt y] ∈ H4 M E := by
 rw [← hK]; exact V3 h
theorem A6M {M : VM} {b : Nat} {c : Bool} {K : Int} (hK : (if c = true then 3 else 2) = K) (h : (b, NC.bs c) ∈ M) (E : Nat → Option Nat) : A7.blk b [.int .i64 K, .pointer none, .pointer none, .pointer none] ∈ H4 M E := by
 rw [← hK]; exact V3 h
theorem B3C {B B' : BV} {a b : SV} {ok : Bool} (h : Q2 B a b B' ok) : ∀ (M : VM) (E : Nat → Option Nat) (pa pb : Nat) (G : IM), A0Y M B E → (M.map Prod.fst).Nodup → Nm1 M → K6 M a pa → K6 M b pb →
  Fn Tryz.prog 80 [pt pa, pt pb] (H4 M E) G (A4s M G B' ok) := by
 induction h with
 | @self B a b n h1 h2 =>
  intro M E pa pb G hV hnd hN hra hrb
  have hF1 := Y9 M B E _ _ pa G hV h1 hra
  have hF2 := Y9 M B E _ _ pb G hV h2 hrb
  refine C0 Tryz.func80 rfl Tryz.ntmps80 Tryz.results80 rfl ?_
  intro w0
  refine E4 ?_
  (refine Q9 [] rfl hF1 rfl rfl rfl (fun v G1 outs hle1 hh => ?_); clear hF1; obtain ⟨hG, rfl, b1, rfl, hr1⟩ := hh; replace hG := hG.symm; subst hG; replace hr1 := hr1.v2)
  refine E0 ?_
  (refine Q9 [] rfl hF2 rfl rfl rfl (fun v G1 outs hle1 hh => ?_); clear hF2; obtain ⟨hG, rfl, b2, rfl, hr2⟩ := hh; replace hG := hG.symm; subst hG; replace hr2 := hr2.v2; have he := hN _ _ _ hr1 hr2; subst he)
  refine A8 ?_
  refine C2 ?_
  refine B4 ?_
  refine A1P rfl zY rfl rfl rfl (V3 hr1) (V3 hr1) rfl (fun hb => ?_) (fun hb => absurd rfl hb)
  refine O3 ?_
  refine H6 (outs := H4 M E) (rT rfl) A0.refl ?_
  (exact ⟨rfl, rfl, E, rfl, hV⟩)
 | @occ B a b n s r h1 h2 h3 h4 h5 =>
  intro M E pa pb G hV hnd hN hra hrb
  have := A5q M B E n s r a b pa pb G hV hnd hN h1 h2 h3 h4 hra hrb
  rw [h5] at this
  exact this
 | @bind B a b n s r h1 h2 h3 h4 h5 =>
  intro M E pa pb G hV hnd hN hra hrb
  have := A5q M B E n s r a b pa pb G hV hnd hN h1 h2 h3 h4 hra hrb
  rw [h5] at this
  exact this
 | @occ' B a b n s r h1 h3 h2 h4 h5 =>
  intro M E pa pb G hV hnd hN hra hrb
  have hs : s ≠ .v n := fun he => by rw [he] at h3; cases h3
  have hk := A1d h3
  have hU := fun b1 b2 (hr1 : K6 M s b1) (hr2 : K6 M (.v n) b2) => A5q M B E n s r (.v n) s b2 b1 G hV hnd hN (.free h2.fr) (.nv h3) hs h4 hr2 hr1
  rw [h5] at hU
  replace hU : ∀ b1 b2, K6 M s b1 → K6 M (.v n) b2 → Fn Tryz.prog 80 [pt b2, pt b1] (H4 M E) G (A4s M G B false) := hU
  have hF1 := Y9 M B E _ _ pa G hV h1 hra
  have hF2 := Y9 M B E _ _ pb G hV h2 hrb
  refine C0 Tryz.func80 rfl Tryz.ntmps80 Tryz.results80 rfl ?_
  intro w0
  refine E4 ?_
  (refine Q9 [] rfl hF1 rfl rfl rfl (fun v G1 outs hle1 hh => ?_); clear hF1; obtain ⟨hG, rfl, b1, rfl, hr1⟩ := hh; replace hG := hG.symm; subst hG; obtain ⟨e1, x1, y1, hm1, _⟩ := hr1.rd hV; obtain ⟨K, hK⟩ : ∃ K, s.kd = K := ⟨_, rfl⟩; rw [hK] at hm1 hk)
  refine E0 ?_
  (refine Q9 [] rfl hF2 rfl rfl rfl (fun v G1 outs hle1 hh => ?_); clear hF2; obtain ⟨hG, rfl, b2, rfl, hr2⟩ := hh; replace hG := hG.symm; subst hG; have hne : b1 ≠ b2 := (fun he => hs (hr1.inj hnd (by rw [he]; exact hr2))); have hUU := hU b1 b2 hr1 hr2; replace hr2 := hr2.v2)
  refine A8 ?_
  refine C2 ?_
  refine B4 ?_
  refine A1P rfl zY rfl rfl rfl hm1 (V3 hr2) rfl (fun hb => absurd hb hne) (fun hb => ?_)
  refine B0 ?_
  refine sQ (K0 rfl) rfl ?_
  refine E0 ?_
  refine sL (I2 rfl rfl (P0 hm1 rfl)) rfl rfl ?_
  refine sP (D0 rfl rfl zZ) rfl rfl ?_
  refine B0 ?_
  refine sQ (K0 rfl) rfl ?_
  refine E0 ?_
  refine sL (I2 rfl rfl (P0 (V3 hr2) rfl)) rfl rfl ?_
  refine sP (N6 rfl rfl zZ) rfl rfl ?_
  refine E4 ?_
  (refine Q9 [] rfl hUU rfl rfl rfl (fun v G1 outs hle1 hh => ?_); obtain ⟨hG, rfl, E2, rfl, hV2⟩ := hh; replace hG := hG.symm; subst hG)
  refine A9 ?_
  refine H6 (outs := H4 M E2) (rT rfl) A0.refl ?_
  (exact ⟨rfl, rfl, E2, rfl, hV2⟩)
 | @bind' B a b n s r h1 h3 h2 h4 h5 =>
  intro M E pa pb G hV hnd hN hra hrb
  have hs : s ≠ .v n := fun he => by rw [he] at h3; cases h3
  have hk := A1d h3
  have hU := fun b1 b2 (hr1 : K6 M s b1) (hr2 : K6 M (.v n) b2) => A5q M B E n s r (.v n) s b2 b1 G hV hnd hN (.free h2.fr) (.nv h3) hs h4 hr2 hr1
  rw [h5] at hU
  replace hU : ∀ b1 b2, K6 M s b1 → K6 M (.v n) b2 → Fn Tryz.prog 80 [pt b2, pt b1] (H4 M E) G (A4s M G (A0N B n s) true) := hU
  have hF1 := Y9 M B E _ _ pa G hV h1 hra
  have hF2 := Y9 M B E _ _ pb G hV h2 hrb
  refine C0 Tryz.func80 rfl Tryz.ntmps80 Tryz.results80 rfl ?_
  intro w0
  refine E4 ?_
  (refine Q9 [] rfl hF1 rfl rfl rfl (fun v G1 outs hle1 hh => ?_); clear hF1; obtain ⟨hG, rfl, b1, rfl, hr1⟩ := hh; replace hG := hG.symm; subst hG; obtain ⟨e1, x1, y1, hm1, _⟩ := hr1.rd hV; obtain ⟨K, hK⟩ : ∃ K, s.kd = K := ⟨_, rfl⟩; rw [hK] at hm1 hk)
  refine E0 ?_
  (refine Q9 [] rfl hF2 rfl rfl rfl (fun v G1 outs hle1 hh => ?_); clear hF2; obtain ⟨hG, rfl, b2, rfl, hr2⟩ := hh; replace hG := hG.symm; subst hG; have hne : b1 ≠ b2 := (fun he => hs (hr1.inj hnd (by rw [he]; exact hr2))); have hUU := hU b1 b2 hr1 hr2; replace hr2 := hr2.v2)
  refine A8 ?_
  refine C2 ?_
  refine B4 ?_
  refine A1P rfl zY rfl rfl rfl hm1 (V3 hr2) rfl (fun hb => absurd hb hne) (fun hb => ?_)
  refine B0 ?_
  refine sQ (K0 rfl) rfl ?_
  refine E0 ?_
  refine sL (I2 rfl rfl (P0 hm1 rfl)) rfl rfl ?_
  refine sP (D0 rfl rfl zZ) rfl rfl ?_
  refine B0 ?_
  refine sQ (K0 rfl) rfl ?_
  refine E0 ?_
  refine sL (I2 rfl rfl (P0 (V3 hr2) rfl)) rfl rfl ?_
  refine sP (N6 rfl rfl zZ) rfl rfl ?_
  refine E4 ?_
  (refine Q9 [] rfl hUU rfl rfl rfl (fun v G1 outs hle1 hh => ?_); obtain ⟨hG, rfl, E2, rfl, hV2⟩ := hh; replace hG := hG.symm; subst hG)
  refine A9 ?_
  refine H6 (outs := H4 M E2) (rT rfl) A0.refl ?_
  (exact ⟨rfl, rfl, E2, rfl, hV2⟩)
 | @clash B a b s s' h1 h3 h2 h4 h5 =>
  intro M E pa pb G hV hnd hN hra hrb
  have hk := A1d h3
  have hk' := A1d h4
  have hF1 := Y9 M B E _ _ pa G hV h1 hra
  have hF2 := Y9 M B E _ _ pb G hV h2 hrb
  refine C0 Tryz.func80 rfl Tryz.ntmps80 Tryz.results80 rfl ?_
  intro w0
  refine E4 ?_
  (refine Q9 [] rfl hF1 rfl rfl rfl (fun v G1 outs hle1 hh => ?_); clear hF1; obtain ⟨hG, rfl, b1, rfl, hr1⟩ := hh; replace hG := hG.symm; subst hG; obtain ⟨e1, x1, y1, hm1, _⟩ := hr1.rd hV)
  refine E0 ?_
  (refine Q9 [] rfl hF2 rfl rfl rfl (fun v G1 outs hle1 hh => ?_); clear hF2; obtain ⟨hG, rfl, b2, rfl, hr2⟩ := hh; replace hG := hG.symm; subst hG; obtain ⟨e2, x2, y2, hm2, _⟩ := hr2.rd hV; have hne : b1 ≠ b2 := (fun he => h5 (by rw [hr1.inj hnd (by rw [he]; exact hr2)])); obtain ⟨K, hK⟩ : ∃ K, s.kd = K := ⟨_, rfl⟩; obtain ⟨K', hK'⟩ : ∃ K, s'.kd = K := ⟨_, rfl⟩; rw [hK] at hm1 hk h5; rw [hK'] at hm2 hk' h5)
  refine A8 ?_
  refine C2 ?_
  refine B4 ?_
  refine A1P rfl zY rfl rfl rfl hm1 hm2 rfl (fun hb => absurd hb hne) (fun hb => ?_)
  refine B0 ?_
  refine sQ (K0 rfl) rfl ?_
  refine E0 ?_
  refine sL (I2 rfl rfl (P0 hm1 rfl)) rfl rfl ?_
  refine sP (D0 rfl rfl zZ) rfl rfl ?_
  refine B0 ?_
  refine sQ (K0 rfl) rfl ?_
  refine E0 ?_
  refine sL (I2 rfl rfl (P0 hm2 rfl)) rfl rfl ?_
  refine sP (D0 rfl rfl zZ) rfl rfl ?_
  refine A8 ?_
  refine D3 D4 rfl ?_
  refine I9 (i := 0) (l' := [tt,ff,ff,ff,ff,ff,ff,ff,ff,ff]) rfl C8 (qM rfl) rfl zX rfl rfl ?_
  refine aP 1 rfl (K0 rfl) rfl ?_
  refine aP 2 rfl (C3 rfl) rfl ?_
  refine aL 3 rfl (I2 rfl rfl (P0 hm1 rfl)) rfl ?_
  refine aP 4 rfl (qM rfl) rfl ?_
  refine aP 5 rfl (K0 rfl) rfl ?_
  refine aP 6 rfl (C3 rfl) rfl ?_
  refine aL 7 rfl (I2 rfl rfl (P0 hm2 rfl)) rfl ?_
  refine aP 8 rfl (A0U rfl rfl zZ) rfl ?_
  refine aP 9 rfl (qA rfl) rfl ?_
  refine M3 ?_
  refine H6 (outs := H4 M E) (rT rfl) A0.refl ?_
  (exact ⟨rfl, rfl, E, rfl, hV⟩)
 | @base B a b c h1 h2 =>
  intro M E pa pb G hV hnd hN hra hrb
  obtain ⟨K, hK⟩ : ∃ K : Int, (if c = true then 3 else 2) = K := ⟨_, rfl⟩
  have hk0 : K ≠ 0 := by rw [← hK]; cases c <;> decide
  have hF1 := Y9 M B E _ _ pa G hV h1 hra
  have hF2 := Y9 M B E _ _ pb G hV h2 hrb
  refine C0 Tryz.func80 rfl Tryz.ntmps80 Tryz.results80 rfl ?_
  intro w0
  refine E4 ?_
  (refine Q9 [] rfl hF1 rfl rfl rfl (fun v G1 outs hle1 hh => ?_); clear hF1; obtain ⟨hG, rfl, b1, rfl, hr1⟩ := hh; replace hG := hG.symm; subst hG; have hm1 := A6M hK hr1.b2 E)
  refine E0 ?_
  (refine Q9 [] rfl hF2 rfl rfl rfl (fun v G1 outs hle1 hh => ?_); clear hF2; obtain ⟨hG, rfl, b2, rfl, hr2⟩ := hh; replace hG := hG.symm; subst hG; have hm2 := A6M hK hr2.b2 E)
  refine A8 ?_
  refine C2 ?_
  refine B4 ?_
  refine A1P rfl zY rfl rfl rfl hm1 hm2 rfl (fun hb => ?_) (fun hb => ?_)
  refine O3 ?_
  refine H6 (outs := H4 M E) (rT rfl) A0.refl ?_
  (exact ⟨rfl, rfl, E, rfl, hV⟩)
  refine B0 ?_
  refine sQ (K0 rfl) rfl ?_
  refine E0 ?_
  refine sL (I2 rfl rfl (P0 hm1 rfl)) rfl rfl ?_
  refine sP (D0 rfl rfl zZ) rfl rfl ?_
  refine B0 ?_
  refine sQ (K0 rfl) rfl ?_
  refine E0 ?_
  refine sL (I2 rfl rfl (P0 hm2 rfl)) rfl rfl ?_
  refine sP (D0 rfl rfl zZ) rfl rfl ?_
  refine A8 ?_
  refine D3 D4 rfl ?_
  refine I9 (i := 0) (l' := [tt,ff,ff,ff,ff,ff,ff,ff,ff,ff]) rfl C8 (qM rfl) rfl zX rfl rfl ?_
  refine aP 1 rfl (K0 rfl) rfl ?_
  refine aP 2 rfl (C3 rfl) rfl ?_
  refine aL 3 rfl (I2 rfl rfl (P0 hm1 rfl)) rfl ?_
  refine aP 4 rfl (qM rfl) rfl ?_
  refine aP 5 rfl (K0 rfl) rfl ?_
  refine aP 6 rfl (C3 rfl) rfl ?_
  refine aL 7 rfl (I2 rfl rfl (P0 hm2 rfl)) rfl ?_
  refine aP 8 rfl (A2J rfl rfl zZ) rfl ?_
  refine aP 9 rfl (qA rfl) rfl ?_
  refine B0 ?_
  refine D3 D4 rfl ?_
  refine I9 (i := 0) (l' := [tt,ff,ff,ff,ff,ff,ff,ff,ff,ff,ff,ff,ff,ff,ff,ff,ff,ff,ff,ff,ff,ff,ff,ff,ff,ff,ff,ff]) rfl C8 (qM rfl) rfl zX rfl rfl ?_
  refine aP 1 rfl (K0 rfl) rfl ?_
  refine aP 2 rfl (C3 rfl) rfl ?_
  refine aL 3 rfl (I2 rfl rfl (P0 hm1 rfl)) rfl ?_
  refine aP 4 rfl (A4r rfl rfl rfl) rfl ?_
  refine aP 5 rfl (qM rfl) rfl ?_
  refine D5 6 rfl rfl rfl ?_
  refine D5 7 rfl rfl rfl ?_
  refine D5 8 rfl rfl rfl ?_
  refine D5 9 rfl rfl rfl ?_
  refine D5 10 rfl rfl rfl ?_
  refine D5 11 rfl rfl rfl ?_
  refine D5 12 rfl rfl rfl ?_
  refine D5 13 rfl rfl rfl ?_
  refine D5 14 rfl rfl rfl ?_
  refine D5 15 rfl rfl rfl ?_
  refine D5 16 rfl rfl rfl ?_
  refine D5 17 rfl rfl rfl ?_
  refine D5 18 rfl rfl rfl ?_
  refine D5 19 rfl rfl rfl ?_
  refine D5 20 rfl rfl rfl ?_
  refine D5 21 rfl rfl rfl ?_
  refine D5 22 rfl rfl rfl ?_
  refine D5 23 rfl rfl rfl ?_
  refine D5 24 rfl rfl rfl ?_
  refine D5 25 rfl rfl rfl ?_
  refine aP 26 rfl (R3 rfl rfl) rfl ?_
  refine aP 27 rfl (qA rfl) rfl ?_
  refine C1 ?_
  refine H6 (outs := H4 M E) (rT rfl) A0.refl ?_
  (exact ⟨rfl, rfl, E, rfl, hV⟩)
 | @two0 B a b c x y x' y' B1 h1 h2 h3 ih =>
  intro M E pa pb G hV hnd hN hra hrb
  have hsame := (Q2.two0 h1 h2 h3).same _ h1
  have hU1 := fun p q => ih M E p q G hV hnd hN
  obtain ⟨K, hK⟩ : ∃ K : Int, (if c = true then 5 else 4) = K := ⟨_, rfl⟩
  have hk0 : K ≠ 0 := by rw [← hK]; cases c <;> decide
  have hF1 := Y9 M B E _ _ pa G hV h1 hra
  have hF2 := Y9 M B E _ _ pb G hV h2 hrb
  refine C0 Tryz.func80 rfl Tryz.ntmps80 Tryz.results80 rfl ?_
  intro w0
  refine E4 ?_
  (refine Q9 [] rfl hF1 rfl rfl rfl (fun v G1 outs hle1 hh => ?_); clear hF1; obtain ⟨hG, rfl, b1, rfl, hr1⟩ := hh; replace hG := hG.symm; subst hG; obtain ⟨bx, bz, hmM, hrx, hry⟩ := hr1.t2; have hmA := A4t hK hmM)
  refine E0 ?_
  (refine Q9 [] rfl hF2 rfl rfl rfl (fun v G1 outs hle1 hh => ?_); clear hF2; obtain ⟨hG, rfl, b2, rfl, hr2⟩ := hh; replace hG := hG.symm; subst hG; have hne : b1 ≠ b2 := (fun he => by have := hr2.inj hnd (by rw [← he]; exact hr1); have h9 := (hsame (by rw [← this]; exact h2)).2; cases h9); obtain ⟨bx', bz', hmM', hrx', hry'⟩ := hr2.t2; have hmB := A4t hK hmM'; have hU1 := hU1 bx bx' hrx hrx')
  refine A8 ?_
  refine C2 ?_
  refine B4 ?_
  refine A1P rfl zY rfl rfl rfl (hmA E) (hmB E) rfl (fun hb => absurd hb hne) (fun hb => ?_)
  refine B0 ?_
  refine sQ (K0 rfl) rfl ?_
  refine E0 ?_
  refine sL (I2 rfl rfl (P0 (hmA _) rfl)) rfl rfl ?_
  refine sP (D0 rfl rfl zZ) rfl rfl ?_
  refine B0 ?_
  refine sQ (K0 rfl) rfl ?_
  refine E0 ?_
  refine sL (I2 rfl rfl (P0 (hmB _) rfl)) rfl rfl ?_
  refine sP (D0 rfl rfl zZ) rfl rfl ?_
  refine A8 ?_
  refine D3 D4 rfl ?_
  refine I9 (i := 0) (l' := [tt,ff,ff,ff,ff,ff,ff,ff,ff,ff]) rfl C8 (qM rfl) rfl zX rfl rfl ?_
  refine aP 1 rfl (K0 rfl) rfl ?_
  refine aP 2 rfl (C3 rfl) rfl ?_
  refine aL 3 rfl (I2 rfl rfl (P0 (hmA _) rfl)) rfl ?_
  refine aP 4 rfl (qM rfl) rfl ?_
  refine aP 5 rfl (K0 rfl) rfl ?_
  refine aP 6 rfl (C3 rfl) rfl ?_
  refine aL 7 rfl (I2 rfl rfl (P0 (hmB _) rfl)) rfl ?_
  refine aP 8 rfl (A2J rfl rfl zZ) rfl ?_
  refine aP 9 rfl (qA rfl) rfl ?_
  refine B0 ?_
  refine D3 D4 rfl ?_
  refine I9 (i := 0) (l' := [tt,ff,ff,ff,ff,ff,ff,ff,ff,ff,ff,ff,ff,ff,ff,ff,ff,ff,ff,ff,ff,ff,ff,ff,ff,ff,ff,ff]) rfl C8 (qM rfl) rfl zX rfl rfl ?_
  refine aP 1 rfl (K0 rfl) rfl ?_
  refine aP 2 rfl (C3 rfl) rfl ?_
  refine aL 3 rfl (I2 rfl rfl (P0 (hmA _) rfl)) rfl ?_
  refine aP 4 rfl (A4r rfl rfl rfl) rfl ?_
  refine aP 5 rfl (qM rfl) rfl ?_
  refine aP 6 rfl (qM rfl) rfl ?_
  refine aP 7 rfl (K0 rfl) rfl ?_
  refine aP 8 rfl (C3 rfl) rfl ?_
  refine aL 9 rfl (I2 rfl rfl (P0 (hmA _) rfl)) rfl ?_
  refine aP 10 rfl (qM rfl) rfl ?_
  refine aP 11 rfl (K0 rfl) rfl ?_
  refine aP 12 rfl (C3 rfl) rfl ?_
  refine aL 13 rfl (I2 rfl rfl (P0 (hmB _) rfl)) rfl ?_
  refine A2 14 ?_
  (refine A2N (l' := [tt,tt,tt,tt,tt,tt,tt,tt,tt,tt,tt,tt,tt,tt,tt,ff,ff,ff,ff,ff,ff,ff,ff,ff,ff,ff,ff,ff]) rfl [] rfl hU1 rfl rfl rfl rfl (fun v G1 outs hle1 hh => ?_); obtain ⟨hG, rfl, E2, rfl, hV2⟩ := hh; replace hG := hG.symm; subst hG)
  refine aP 15 rfl (qM rfl) rfl ?_
  refine D5 16 rfl rfl rfl ?_
  refine D5 17 rfl rfl rfl ?_
  refine D5 18 rfl rfl rfl ?_
  refine D5 19 rfl rfl rfl ?_
  refine D5 20 rfl rfl rfl ?_
  refine D5 21 rfl rfl rfl ?_
  refine D5 22 rfl rfl rfl ?_
  refine D5 23 rfl rfl rfl ?_
  refine D5 24 rfl rfl rfl ?_
  refine aP 25 rfl (T1 rfl rfl) rfl ?_
  refine aP 26 rfl (T1 rfl rfl) rfl ?_
  refine aP 27 rfl (qA rfl) rfl ?_
  refine C1 ?_
  refine H6 (outs := H4 M E2) (rT rfl) A0.refl ?_
  (exact ⟨rfl, rfl, E2, rfl, hV2⟩)
 | @two B a b c x y x' y' B1 B2 ok h1 h2 h3 h4 ih1 ih2 =>
  intro M E pa pb G hV hnd hN hra hrb
  have hsame := (Q2.two h1 h2 h3 h4).same _ h1
  have hU1 := fun p q => ih1 M E p q G hV hnd hN
  obtain ⟨K, hK⟩ : ∃ K : Int, (if c = true then 5 else 4) = K := ⟨_, rfl⟩
  have hk0 : K ≠ 0 := by rw [← hK]; cases c <;> decide
  have hF1 := Y9 M B E _ _ pa G hV h1 hra
  have hF2 := Y9 M B E _ _ pb G hV h2 hrb
  refine C0 Tryz.func80 rfl Tryz.ntmps80 Tryz.results80 rfl ?_
  intro w0
  refine E4 ?_
  (refine Q9 [] rfl hF1 rfl rfl rfl (fun v G1 outs hle1 hh => ?_); clear hF1; obtain ⟨hG, rfl, b1, rfl, hr1⟩ := hh; replace hG := hG.symm; subst hG; obtain ⟨bx, bz, hmM, hrx, hry⟩ := hr1.t2; have hmA := A4t hK hmM)
  refine E0 ?_
  (refine Q9 [] rfl hF2 rfl rfl rfl (fun v G1 outs hle1 hh => ?_); clear hF2; obtain ⟨hG, rfl, b2, rfl, hr2⟩ := hh; replace hG := hG.symm; subst hG; have hbs : b1 = b2 → B2 = B ∧ ok = true := (fun he => hsame (by have := hr2.inj hnd (by rw [← he]; exact hr1); rw [← this]; exact h2)); obtain ⟨bx', bz', hmM', hrx', hry'⟩ := hr2.t2; have hmB := A4t hK hmM'; have hU1 := hU1 bx bx' hrx hrx')
  refine A8 ?_
  refine C2 ?_
  refine B4 ?_
  refine A1P rfl zY rfl rfl rfl (hmA E) (hmB E) rfl (fun hb => ?_) (fun hb => ?_)
  refine O3 ?_
  refine H6 (outs := H4 M E) (rT rfl) A0.refl ?_
  (obtain ⟨e1, e2⟩ := hbs hb; subst e1 e2; exact ⟨rfl, rfl, E, rfl, hV⟩)
  refine B0 ?_
  refine sQ (K0 rfl) rfl ?_
  refine E0 ?_
  refine sL (I2 rfl rfl (P0 (hmA _) rfl)) rfl rfl ?_
  refine sP (D0 rfl rfl zZ) rfl rfl ?_
  refine B0 ?_
  refine sQ (K0 rfl) rfl ?_
  refine E0 ?_
  refine sL (I2 rfl rfl (P0 (hmB _) rfl)) rfl rfl ?_
  refine sP (D0 rfl rfl zZ) rfl rfl ?_
  refine A8 ?_
  refine D3 D4 rfl ?_
  refine I9 (i := 0) (l' := [tt,ff,ff,ff,ff,ff,ff,ff,ff,ff]) rfl C8 (qM rfl) rfl zX rfl rfl ?_
  refine aP 1 rfl (K0 rfl) rfl ?_
  refine aP 2 rfl (C3 rfl) rfl ?_
  refine aL 3 rfl (I2 rfl rfl (P0 (hmA _) rfl)) rfl ?_
  refine aP 4 rfl (qM rfl) rfl ?_
  refine aP 5 rfl (K0 rfl) rfl ?_
  refine aP 6 rfl (C3 rfl) rfl ?_
  refine aL 7 rfl (I2 rfl rfl (P0 (hmB _) rfl)) rfl ?_
  refine aP 8 rfl (A2J rfl rfl zZ) rfl ?_
  refine aP 9 rfl (qA rfl) rfl ?_
  refine B0 ?_
  refine D3 D4 rfl ?_
  refine I9 (i := 0) (l' := [tt,ff,ff,ff,ff,ff,ff,ff,ff,ff,ff,ff,ff,ff,ff,ff,ff,ff,ff,ff,ff,ff,ff,ff,ff,ff,ff,ff]) rfl C8 (qM rfl) rfl zX rfl rfl ?_
  refine aP 1 rfl (K0 rfl) rfl ?_
  refine aP 2 rfl (C3 rfl) rfl ?_
  refine aL 3 rfl (I2 rfl rfl (P0 (hmA _) rfl)) rfl ?_
  refine aP 4 rfl (A4r rfl rfl rfl) rfl ?_
  refine aP 5 rfl (qM rfl) rfl ?_
  refine aP 6 rfl (qM rfl) rfl ?_
  refine aP 7 rfl (K0 rfl) rfl ?_
  refine aP 8 rfl (C3 rfl) rfl ?_
  refine aL 9 rfl (I2 rfl rfl (P0 (hmA _) rfl)) rfl ?_
  refine aP 10 rfl (qM rfl) rfl ?_
  refine aP 11 rfl (K0 rfl) rfl ?_
  refine aP 12 rfl (C3 rfl) rfl ?_
  refine aL 13 rfl (I2 rfl rfl (P0 (hmB _) rfl)) rfl ?_
  refine A2 14 ?_
  (refine A2N (l' := [tt,tt,tt,tt,tt,tt,tt,tt,tt,tt,tt,tt,tt,tt,tt,ff,ff,ff,ff,ff,ff,ff,ff,ff,ff,ff,ff,ff]) rfl [] rfl hU1 rfl rfl rfl rfl (fun v G1 outs hle1 hh => ?_); clear hU1; obtain ⟨hG, rfl, E2, rfl, hV2⟩ := hh; replace hG := hG.symm; subst hG; have hU2 := ih2 M E2 bz bz' G hV2 hnd hN hry hry')
  refine aP 15 rfl (qM rfl) rfl ?_
  refine aP 16 rfl (qM rfl) rfl ?_
  refine aP 17 rfl (K0 rfl) rfl ?_
  refine aP 18 rfl (C3 rfl) rfl ?_
  refine aL 19 rfl (I2 rfl rfl (P0 (hmA _) rfl)) rfl ?_
  refine aP 20 rfl (qM rfl) rfl ?_
  refine aP 21 rfl (K0 rfl) rfl ?_
  refine aP 22 rfl (C3 rfl) rfl ?_
  refine aL 23 rfl (I2 rfl rfl (P0 (hmB _) rfl)) rfl ?_
  refine A2 24 ?_
  (refine A2N (l' := [tt,tt,tt,tt,tt,tt,tt,tt,tt,tt,tt,tt,tt,tt,tt,tt,tt,tt,tt,tt,tt,tt,tt,tt,tt,ff,ff,ff]) rfl [] rfl hU2 rfl rfl rfl rfl (fun v G1 outs hle1 hh => ?_); clear hU2; obtain ⟨hG, rfl, E3, rfl, hV3⟩ := hh; replace hG := hG.symm; subst hG)
  refine aP 25 rfl (R3 rfl rfl) rfl ?_
  refine aP 26 rfl (T1 rfl rfl) rfl ?_
  refine aP 27 rfl (qA rfl) rfl ?_
  refine C1 ?_
  refine H6 (outs := H4 M E3) (rT rfl) A0.refl ?_
  (exact ⟨rfl, rfl, E3, rfl, hV3⟩)
mutual
def A1s (g : Tm → Tm) : Tm → Tm
 | .mk k nm num ty fr lb ks => g (.mk k nm num ty fr lb (A0z g ks))
def A0z (g : Tm → Tm) : List Tm → List Tm
 | [] => []
 | t :: ts => A1s g t :: A0z g ts
end
theorem A6N (g : Tm → Tm) : ∀ ks, A0z g ks = ks.map (A1s g)
 | [] => rfl
 | t :: ts => by rw [A0z, A6N g ts, List.map_cons]
mutual
theorem A86 : ∀ t, A1s id t = t
 | .mk k nm num ty fr lb ks => by rw [A1s, A87 ks]; rfl
theorem A87 : ∀ ks, A0z id ks = ks
 | [] => rfl
 | t :: ts => by rw [A0z, A86 t, A87 ts]
end
theorem P3.mk3k {G G1 G2 G3 : IM} {k : Int} {nm : ByteArray} {num : Int} {ty fr : Ty} {lb : Int} {ks : List Tm} {tc fc : List Value} {p : Option Addr} {c : Nat} {F1 F2 F3 : List Nat} (hk : H5 k) (hnum : H5 num) (hlb : H5 lb)
  (hl1 : B9 G G1) (hl2 : B9 G1 G2) (hl3 : B9 G2 G3) (h3 : A1M (D9 G1 G) ks p c F3) (n3 : F3.Nodup) (h1 : R4 (D9 G2 G1) ty tc F1) (n1 : F1.Nodup) (h2 : R4 (D9 G3 G2) fr fc F2) (n2 : F2.Nodup) :
  ∃ F, P3 (D9 G3 G) (.mk k nm num ty fr lb ks) ([.int .i64 k, .string nm, .int .i64 num] ++ tc ++ fc ++ [.int .i64 lb, .slice p ks.length c]) F ∧ F.Nodup := by
 obtain ⟨es, Fs, e1, e2, rfl, e4⟩ := h3
 have i3 : ∀ b ∈ J5 p ++ Fs, D9 G1 G b ≠ none := by
  intro b hb
  rcases List.mem_append.1 hb with hb | hb
  ·exact e4 b hb
  ·exact e2.inG b hb
 have a1 : B9 (D9 G1 G) (D9 G3 G) := D9.mono (hl2.trans hl3)
 have a2 : B9 (D9 G2 G1) (D9 G3 G) := fun b l h => D9.mono hl3 b l (D9.anti hl1 b l h)
 have a3 : B9 (D9 G3 G2) (D9 G3 G) := D9.anti (hl1.trans hl2)
 refine ⟨F1 ++ (F2 ++ (J5 p ++ Fs)), ?_, ?_⟩
 ·simp only [P3]
  exact ⟨tc, fc, p, c, es, F1, F2, Fs, rfl, hk, hnum, hlb, h1.mono a2, h2.mono a3, e1.mono a1, e2.mono a1, rfl, A3K a1 e4⟩
 ·rw [List.nodup_append, List.nodup_append]
  refine ⟨n1, ⟨n2, n3, ?_⟩, ?_⟩
  ·rintro x hx y hy rfl
   exact A3g (A3K (D9.mono hl2) i3) h2.inG x hy x hx rfl
  ·rintro x hx y hy rfl
   rcases List.mem_append.1 hy with hy | hy
   ·exact A3g (A3K (D9.anti hl1) h1.inG) h2.inG x hx x hy rfl
   ·exact A3g i3 h1.inG x hy x hx rfl
mutual
def mOk (Q : Tm → Prop) (g : Tm → Tm) : Tm → Prop
 | .mk k nm num ty fr lb ks => A17 Q g ks ∧ Q (.mk k nm num ty fr lb (A0z g ks))
def A17 (Q : Tm → Prop) (g : Tm → Tm) : List Tm → Prop
 | [] => True
 | t :: ts => mOk Q g t ∧ A17 Q g ts
end
theorem A88 {Q : Tm → Prop} {g : Tm → Tm} : ∀ {ts : List Tm}, A17 Q g ts → ∀ t ∈ ts, mOk Q g t
 | [], _, t, h => by simp at h
 | t' :: ts, h, t, ht => by
  simp only [A17] at h
  rcases List.mem_cons.1 ht with rfl | ht
  ·exact h.1
  ·exact A88 h.2 t ht
mutual
theorem A6O (g : Tm → Tm) : ∀ t, mOk (fun _ => True) g t
 | .mk k nm num ty fr lb ks => by rw [mOk]; exact ⟨A89 g ks, trivial⟩
theorem A89 (g : Tm → Tm) : ∀ ts, A17 (fun _ => True) g ts
 | [] => by rw [A17]; trivial
 | t :: ts => by rw [A17]; exact ⟨A6O g t, A89 g ts⟩
end
def A5r (g : Tm → Tm) (Q : Tm → Prop) (fid : FuncId) (us cs : List Value) : Prop := ∀ (t : Tm) (G0 G1 : IM) (cells : List Value) (F : List Nat), Q t → B9 G0 G1 → P3 (D9 G1 G0) t cells F → F.Nodup →
 Fn Tryz.prog fid (us ++ [.agg ⟨cells⟩] ++ cs) [] G1 (M5 fun G2 v => ∃ cells' F', v = .agg ⟨cells'⟩ ∧ P3 (D9 G2 G0) (g t) cells' F' ∧ F'.Nodup)
theorem A6P (g : Tm → Tm) (Q : Tm → Prop) (fid : FuncId) [C5 Tryz.prog fid] (us cs : List Value) (hg : A5r g Q fid us cs) : ∀ (t : Tm) (G : IM) (cells : List Value), mOk Q g t → t.small → B8 G t cells →
  Fn Tryz.prog 28 [.agg ⟨cells⟩, .func (.func fid) ⟨us⟩ ⟨cs⟩] [] G (A4n (A1s g t) G) := by
 refine Tm.ind fun k nm num ty fr lb ks ih G cells hmo hts hr => ?_
 have hone := hr.one
 simp only [mOk] at hmo
 obtain ⟨hmoL, hQ⟩ := hmo
 simp only [Tm.small] at hts
 obtain ⟨hnm, hty', hfr', hsm, hks⟩ := hts
 obtain ⟨tk, tks⟩ := ty
 obtain ⟨fk, fks⟩ := fr
 obtain ⟨pt, ct, pf, cf, p, c, es, rfl, hk, hnum, hlb, hty, hfr, hsl, hkl⟩ := hr.open9
 have hn := hsl.le
 have hlen : (A0z g ks).length = ks.length := by rw [A6N, List.length_map]
 have hget : ∀ i (h : i < ks.length) (h' : i < (A0z g ks).length), (A0z g ks)[i] = A1s g ks[i] := fun i h h' => by simp [A6N]
 refine C0 Tryz.func28 rfl Tryz.ntmps28 Tryz.results28 rfl ?_
 intro w0
 refine A4 ?_
 refine sE (B5 rfl rfl) rfl (fun b3 => ?_)
 refine sE (A6 rfl) rfl (fun b4 => ?_)
 refine N7 ?_
 refine C2 ?_
 (refine W4 28 9 ?_; refine L4 (fun (x : Nat × Option Addr × Nat × List (List Value) × List Nat × IM) => ⟨[(11, .int .i64 x.1), (10, .int .i64 ks.length), (9, .slice p ks.length c), (5, .slice x.2.1 x.1 x.2.2.1), (2, .pointer (some ⟨b3, 0, none⟩)), (1, .func (.func fid) ⟨us⟩ ⟨cs⟩), (4, .pointer (some ⟨b4, 0, none⟩))], [.slc x.2.1 x.2.2.1 28 9 x.1 x.2.2.2.1.flatten, .blk b4 [.int .i64 0, .string ⟨⟨[]⟩⟩, .int .i64 0, .int .i64 0, .slice none 0 0, .int .i64 0, .slice none 0 0, .int .i64 0, .slice none 0 0], .blk b3 [.int .i64 k, .string nm, .int .i64 num, .int .i64 tk, .slice pt tks.length ct, .int .i64 fk, .slice pf fks.length cf, .int .i64 lb, .slice p ks.length c]], x.2.2.2.2.2⟩) (fun x => x.1 ≤ ks.length ∧ B9 G x.2.2.2.2.2 ∧ O9 (D9 x.2.2.2.2.2 G) ((A0z g ks).take x.1) x.2.2.2.1 x.2.2.2.2.1 ∧ x.2.2.2.2.1.Nodup) (fun x => ks.length - x.1) (0, none, 0, [], [], G) ?_ ?_ ?_)
 (simp only [I6]; exact F9)
 exact ⟨by simp, B9.refl _, by simp [O9], by simp⟩
 (rintro ⟨i, pn, cn, es', F, Gi⟩ ⟨hi, hle, hst, hnd⟩; simp only [] at hi hle hst hnd ⊢; replace hsl := hsl.mono hle; replace hkl := hkl.mono hle)
 refine A4 ?_
 refine sB (N0 rfl rfl) rfl rfl (fun h28 => ?_) (fun h28 => ?_)
 refine B0 ?_
 refine C2 ?_
 refine A4 ?_
 (obtain ⟨b, o, e, rfl, hl, hat, hre, hgb⟩ := hsl.kidTm hkl (i := i) zZ zZ; have hone := hre.one; refine sP (B6 rfl rfl rfl zZ) rfl rfl ?_)
 refine sL (A5 rfl rfl (hat _) hl) rfl rfl ?_
 refine sE (A6 rfl) rfl (fun b41 => ?_)
 refine sS rfl rfl rfl hl hone rfl ?_ (hu := by exact C7 hl.symm)
 refine B4 ?_
 refine sL (A5 rfl rfl (B7 zS) zW) rfl rfl ?_
 refine E0 ?_
 (refine F4 rfl (ih ks[i] (List.getElem_mem zZ) _ _ (A88 hmoL _ (List.getElem_mem zZ)) (Tm.smallL_mem hks _ (List.getElem_mem zZ)) hre) rfl rfl (fun v G3 hle3 hh => ?_); obtain ⟨cells', F', rfl, hs', hnd'⟩ := hh; rw [← hget i zZ zZ] at hs'; have hlc := hs'.R.len; have hoc := hs'.R.one)
 (obtain ⟨v1, v2, v3, v4, v5, v6, v7, v8, v9, rfl⟩ : ∃ v1 v2 v3 v4 v5 v6 v7 v8 v9, cells' = [v1, v2, v3, v4, v5, v6, v7, v8, v9] := by obtain ⟨_, _, _, _, _, _, _, _, _, rfl, _⟩ := hs'.R.open; exact ⟨_, _, _, _, _, _, _, _, _, rfl⟩)
 (refine J2 (D1 rfl rfl rfl zZ zU rfl) rfl ?_; rintro _ ⟨b51, rfl⟩)
 refine X1 rfl rfl rfl rfl rfl (fun _ _ => by repeat (first | exact Sw.here | apply Sw.there)) (J7 zS) rfl (fun u hu => List.all_eq_true.1 hoc u hu) zU zZ rfl (fun pn' cn' => ?_)
 refine A8 ?_
 refine sP (J9 rfl rfl zZ zZ) rfl rfl ?_
 refine A4 ?_
 refine J6 (i + 1, pn', cn', es' ++ [[v1, v2, v3, v4, v5, v6, v7, v8, v9]], F ++ F', G3) ?_ ?_ ?_
 (simp only [I6]; exact F9)
 exact ⟨by omega, hle.trans hle3, O9.step hst hnd hle hle3 zZ hs' hnd'⟩
 (show ks.length - (i + 1) < ks.length - i; omega)
 refine J4 ?_
 (obtain rfl : i = ks.length := zZ; refine A11 zP (fun G2 hle2 hsl2 hno2 => ?_); rw [← hlen, List.take_length] at hst; rw [← hlen] at hsl2; obtain ⟨F3, hf1, hf2⟩ := A1M.fin hst hnd hle hle2 hsl2 hno2; have hleG := hle.trans hle2; have hT := A2M (.mk tk tks) G2 _ hty' (hty.mono hleG); refine D3 D4 rfl ?_)
 refine I9 (i := 0) (l' := [tt,ff,ff,ff,ff,ff,ff,ff,ff,ff,ff,ff,ff]) rfl C8 (C3 rfl) rfl zX rfl rfl ?_
 refine aL 1 rfl (A3 rfl rfl) rfl ?_
 refine aP 3 rfl (C3 rfl) rfl ?_
 refine aL 4 rfl (A3 rfl rfl) rfl ?_
 refine aP 6 rfl (qM rfl) rfl ?_
 refine A2 2 ?_
 (refine H0 rfl rfl hT rfl rfl rfl (fun v G4 hle4 hh => ?_); obtain ⟨cs1, F1, rfl, hs1, hn1⟩ := hh; obtain ⟨p1, c1, rfl, _⟩ := hs1.open; have hF := A2M (.mk fk fks) G4 _ hfr' (hfr.mono (hleG.trans hle4)))
 refine aP 7 rfl (C3 rfl) rfl ?_
 refine A2 5 ?_
 (refine H0 rfl rfl hF rfl rfl rfl (fun v G5 hle5 hh => ?_); obtain ⟨cs2, F2, rfl, hs2, hn2⟩ := hh; obtain ⟨p2, c2, rfl, _⟩ := hs2.open; obtain ⟨F6, hg1, hg2⟩ := P3.mk3k (nm := nm) hk hnum hlb hleG hle4 hle5 hf1 hf2 hs1 hn1 hs2 hn2; rw [hlen] at hg1; have hch := hg _ G G5 _ F6 hQ (hleG.trans (hle4.trans hle5)) hg1 hg2)
 refine A2 8 ?_
 refine T3 rfl rfl rfl rfl rfl rfl rfl rfl zX zR (by rfl) ?_
 refine aP 9 rfl (C3 rfl) rfl ?_
 refine A2 10 ?_
 refine T3 rfl rfl rfl rfl rfl rfl rfl rfl zX zR (by rfl) ?_
 refine aP 11 rfl (C3 rfl) rfl ?_
 refine A2 12 ?_
 refine T3 rfl rfl rfl rfl rfl rfl rfl rfl zX zR (by rfl) ?_
 refine A9 ?_
 (refine J2 (A6i rfl rfl hch (List.Perm.refl _) rfl) rfl ?_; rintro _ ⟨v, G7, outs, rfl, hle7, rfl, cells7, F7, rfl, hs7, hn7⟩; have hl7 := hs7.R.len; have ho7 := hs7.R.one)
 refine sS rfl rfl rfl hl7 ho7 rfl ?_ (hu := by exact C7 hl7.symm)
 refine C1 ?_
 refine O7 (rC rfl (A5 rfl rfl (B7 zS) hl7)) ?_
 (rw [A1s]; exact ⟨rfl, cells7, F7, rfl, hs7, hn7⟩)
theorem B3D (G : IM) (cells : List Value) (hl : cells.length = 9) (hone : cells.all (·.oneCell') = true) : Fn Tryz.prog 47 [.agg ⟨cells⟩] [] G (K5 (.agg ⟨cells⟩) G) := by
 refine C0 Tryz.func47 rfl Tryz.ntmps47 Tryz.results47 rfl ?_
 intro w0
 refine A4 ?_
 refine sE (B5 rfl rfl) rfl (fun b3 => ?_)
 refine sE (A6 rfl) rfl (fun b4 => ?_)
 refine B4 ?_
 refine sL (A5 rfl rfl (B7 zS) zW) rfl rfl ?_
 refine sS rfl rfl rfl hl hone rfl ?_ (hu := by exact C7 hl.symm)
 refine C1 ?_
 refine O7 (rC rfl (A5 rfl rfl (B7 zS) hl)) ?_
 exact ⟨rfl, rfl, rfl⟩
theorem B3E : A5r id (fun _ => True) 47 [] [] := fun t G0 G1 cells F _ hle hs hn =>
 (B3D G1 cells hs.R.len hs.R.one).mono fun G' v outs _ ⟨h1, h2, h3⟩ => ⟨h3, cells, F, h2, by rw [h1]; exact hs, hn⟩
theorem A5s (t : Tm) (G : IM) (cells : List Value) (hts : t.small) (hr : B8 G t cells) : Fn Tryz.prog 19 [.agg ⟨cells⟩] [] G (A4n t G) := by
 have hl := hr.len
 have hone := hr.one
 have hM := A6P id (fun _ => True) 47 [] [] B3E t G cells (A6O _ t) hts hr
 rw [A86] at hM
 refine C0 Tryz.func19 rfl Tryz.ntmps19 Tryz.results19 rfl ?_
 intro w0
 refine A4 ?_
 refine sE (B5 rfl rfl) rfl (fun b3 => ?_)
 refine sE (A6 rfl) rfl (fun b4 => ?_)
 refine B4 ?_
 refine sL (A5 rfl rfl (B7 zS) zW) rfl rfl ?_
 (refine F4 rfl hM rfl rfl (fun v G3 hle3 hh => ?_); obtain ⟨cells', F', rfl, hs', hnd'⟩ := hh; have hl' := hs'.R.len; have ho' := hs'.R.one)
 refine sS rfl rfl rfl hl' ho' rfl ?_ (hu := by exact C7 hl'.symm)
 refine C1 ?_
 refine O7 (rC rfl (A5 rfl rfl (B7 zS) hl')) ?_
 exact ⟨rfl, cells', F', rfl, hs', hnd'⟩
theorem A9a {k : Int} {ks : List Ty} {d : Int} (h : 4 < d ∨ X6 k ≠ ks.length) : M4 (.mk k ks) d = false := by
 rw [M4]
 rcases h with h | h
 ·rw [decide_eq_false zZ]; rfl
 ·rw [decide_eq_false (p := X6 k = ks.length) h, Bool.and_false]; rfl
theorem A9b {k : Int} {ks : List Ty} {d : Int} (h : d ≤ 4) (h2 : X6 k = ks.length) : M4 (.mk k ks) d = T7 ks (d + 1) := by
 rw [M4, decide_eq_true h, decide_eq_true h2]; rfl
theorem B3F {ks : List Ty} {d : Int} {i : Nat} (hi : i < ks.length) (h : M4 ks[i] d = false) : T7 ks d = false := by
 cases hx : T7 ks d with
 | false => rfl
 | true => rw [(A5a ks d).1 hx i hi] at h; cases h
theorem B3G : ∀ (t : Ty) (d : Int) (G : IM) (cells : List Value), 0 ≤ d ∧ d ≤ 4 → C6 G t cells →
  Fn Tryz.prog 88 [.agg ⟨cells⟩, .int .i64 d] [] G (K5 (.bool (M4 t (5 - d))) G) := by
 refine Ty.ind fun k ks ih d G cells hd hr => ?_
 obtain ⟨p, c, es, rfl, hk, hsl, hkl⟩ := hr.open
 simp only [Ty.k, Ty.ks] at hk hsl hkl ⊢
 have hn := hsl.le
 have hk1 := A8X k G
 refine C0 Tryz.func88 rfl Tryz.ntmps88 Tryz.results88 rfl ?_
 intro w0
 refine A4 ?_
 refine sE (B5 rfl rfl) rfl (fun b3 => ?_)
 refine A8 ?_
 refine D3 D4 rfl ?_
 refine I9 (i := 0) (l' := [tt,ff,ff,ff,ff,ff,ff,ff,ff,ff,ff]) rfl C8 (qM rfl) rfl zX rfl rfl ?_
 refine A2r (i := 1) (l' := [tt,tt,ff,ff,ff,ff,ff,ff,ff,ff,ff]) rfl C8 (N0 rfl rfl) rfl zX rfl rfl (fun h11 => ?_) (fun h11 => ?_)
 refine aP 2 rfl (qM rfl) rfl ?_
 refine D5 3 rfl rfl rfl ?_
 refine D5 4 rfl rfl rfl ?_
 refine D5 6 rfl rfl rfl ?_
 refine D5 7 rfl rfl rfl ?_
 refine D5 8 rfl rfl rfl ?_
 refine D5 5 rfl rfl rfl ?_
 refine D5 9 rfl rfl rfl ?_
 refine aP 10 rfl (R3 rfl rfl) rfl ?_
 refine M3 ?_
 (rw [A9a zZ]; exact ⟨rfl, rfl, rfl⟩)
 refine aP 2 rfl (qM rfl) rfl ?_
 refine aP 3 rfl (C3 rfl) rfl ?_
 refine aL 4 rfl (E9 rfl rfl) rfl ?_
 refine aP 6 rfl (C3 rfl) rfl ?_
 refine aL 7 rfl (E9 rfl rfl) rfl ?_
 refine aP 8 rfl (pLn rfl rfl) rfl ?_
 refine A2 5 ?_
 refine T2 rfl rfl (hk1) rfl rfl rfl ?_
 refine A2r (i := 9) (l' := [tt,tt,tt,tt,tt,tt,tt,tt,tt,tt,ff]) rfl C8 (V0 rfl rfl) rfl zX rfl rfl (fun h41 => ?_) (fun h41 => ?_)
 refine aP 10 rfl (T1 rfl rfl) rfl ?_
 refine M3 ?_
 (rw [A9a zZ]; exact ⟨rfl, rfl, rfl⟩)
 refine aP 10 rfl (T1 rfl rfl) rfl ?_
 refine M3 ?_
 refine C2 ?_
 (refine L4 (fun (i : Nat) => ⟨[(5, .int .i64 i), (2, .pointer (some ⟨b3, 0, none⟩)), (1, .int .i64 d)], [.blk b3 [.int .i64 k, .slice p ks.length c]], G⟩) (fun i => i ≤ ks.length ∧ ∀ j (h : j < ks.length), j < i → M4 ks[j] (5 - d + 1) = true) (fun i => ks.length - i) 0 ?_ ?_ ?_)
 exact F9
 exact ⟨by omega, by omega⟩
 (rintro i ⟨hi, hf⟩)
 refine B0 ?_
 refine sB (N0 rfl rfl) rfl rfl (fun h79 => ?_) (fun h79 => ?_)
 refine A9 ?_
 refine C2 ?_
 refine A8 ?_
 (obtain ⟨b, o, p2, c2, rfl, hat, hre, hgb⟩ := hsl.kidTy hkl (i := i) zZ zZ; refine sP (B6 rfl rfl rfl zZ) rfl rfl ?_)
 refine sL (A5 rfl rfl (hat _) rfl) rfl rfl ?_
 refine E0 ?_
 refine sP (Q7 rfl rfl zZ zZ) rfl rfl ?_
 (have hih := ih ks[i] (List.getElem_mem zZ) (d - 1) G _ zZ hre; rw [show 5 - (d - 1) = 5 - d + 1 by omega] at hih; refine K3 rfl hih rfl rfl (fun h96 => ?_) (fun h96 => ?_))
 refine E8 ?_
 refine sP (J9 rfl rfl zZ zZ) rfl rfl ?_
 refine A4 ?_
 refine J6 (i + 1) ?_ ?_ ?_
 exact F9
 exact ⟨by omega, fun j hj hji => by (by_cases he : j = i; (subst he; assumption); exact hf j hj zZ)⟩
 omega
 refine N7 ?_
 (rw [A9b zZ zZ, B3F (i := i) zZ zW]; exact ⟨rfl, rfl, rfl⟩)
 refine I5 ?_
 (rw [A9b zZ zZ, (A5a ks _).2 (fun j hj => hf j hj zZ)]; exact ⟨rfl, rfl, rfl⟩)
theorem A3i (t : Ty) (G : IM) (cells : List Value) (hr : C6 G t cells) : Fn Tryz.prog 58 [.agg ⟨cells⟩] [] G (K5 (.bool (H7 t)) G) := by
 have hl := hr.len
 have hv := B3G t 4 G cells zZ hr
 refine C0 Tryz.func58 rfl Tryz.ntmps58 Tryz.results58 rfl ?_
 intro w0
 refine A4 ?_
 refine sE (B5 rfl rfl) rfl (fun b3 => ?_)
 refine A8 ?_
 refine sL (A5 rfl rfl (B7 zS) zW) rfl rfl ?_
 refine H1 rfl (hv) rfl rfl ?_
 refine A8 ?_
 exact ⟨rfl, rfl, rfl⟩
theorem A6Q {k : Int} {ks : List Ty} {d : Int} (h : M4 (.mk k ks) d = true) : X6 k = ks.length ∧ ∀ i, (hi : i < ks.length) → M4 ks[i] (d + 1) = true := by
 rw [M4] at h
 simp only [Bool.and_eq_true, decide_eq_true_eq] at h
 exact ⟨h.1.2, (A5a ks _).1 h.2⟩
theorem A9c {k k' : Int} {ks ks' : List Ty} (h : k = 1 ∨ k' = 1) : N3 (.mk k ks) (.mk k' ks') = true := by
 rw [V9]
 rcases h with h | h
 ·rw [decide_eq_true (p := k = 1) h]; rfl
 ·rw [decide_eq_true (p := k' = 1) h]; simp
theorem B3H {k k' : Int} {ks ks' : List Ty} (h : k ≠ 1) (h' : k' ≠ 1) (hk : k ≠ k') : N3 (.mk k ks) (.mk k' ks') = false := by
 rw [V9, decide_eq_false h, decide_eq_false h', decide_eq_false hk]; rfl
theorem A9d {k k' : Int} {ks ks' : List Ty} (h : k ≠ 1) (h' : k' ≠ 1) (hk : k = k') : N3 (.mk k ks) (.mk k' ks') = Q4 ks ks' := by
 rw [V9, decide_eq_false h, decide_eq_false h', decide_eq_true hk]; rfl
theorem B3I {ks ks' : List Ty} {i : Nat} (hi : i < ks.length) (hi' : i < ks'.length) (h : N3 ks[i] ks'[i] = false) : Q4 ks ks' = false := by
 cases hx : Q4 ks ks' with
 | false => rfl
 | true => rw [((A3f ks ks').1 hx).2 i hi hi'] at h; cases h
section blaws
variable {P : Program} {Γ : M9} {env : O2} {hp : List A7} {G : IM} {ty : TypeId}
theorem A3j {x y : Operand} {t t' : TypeId} {i : L7} [hI : H9 P t i] (hd : i.desc = .bool) {r : Bool} (hx : evo env x = some (.bool r)) (hy : evo env y = some (.bool r)) :
  J3 P Γ ⟨env, hp, G⟩ (.binOp .neq t x y t') ty (.bool false) := by
 have h := A6e (P := P) (Γ := Γ) (hp := hp) (G := G) (t := t) (t' := t') (ty := ty) hd hx hy
 rwa [decide_eq_false zA0] at h
theorem A9e {x y : Operand} {t t' : TypeId} {i : L7} [hI : H9 P t i] (hd : i.desc = .bool) (hx : evo env x = some (.bool true)) (hy : evo env y = some (.bool false)) :
  J3 P Γ ⟨env, hp, G⟩ (.binOp .neq t x y t') ty (.bool true) := A6e hd hx hy
theorem A6R {x y : Operand} {t t' : TypeId} {i : L7} [hI : H9 P t i] (hd : i.desc = .bool) (hx : evo env x = some (.bool false)) (hy : evo env y = some (.bool true)) :
  J3 P Γ ⟨env, hp, G⟩ (.binOp .neq t x y t') ty (.bool true) := A6e hd hx hy
end blaws
theorem B3J (k : Int) (nm : ByteArray) (num : Int) (ty fr : Ty) (lb : Int) (ks : List Tm) (G : IM) (cells : List Value) (hr : B8 G (.mk k nm num ty fr lb ks) cells) (R : Bool)
  (hi : R = true ↔ (k = 1 ∨ k = 5 → A0o nm = true) ∧ (¬(k = 1 ∨ k = 5) → nm = ⟨#[]⟩) ∧ (k = 5 ∨ k = 13 ∨ k = 14 → H7 ty = true) ∧ (¬(k = 5 ∨ k = 13 ∨ k = 14) → A0n ty = true) ∧ (k ≠ 14 → A0n fr = true ∧ lb = 0) ∧ (k = 2 → 0 ≤ num ∧ num ≤ 999) ∧ (k ≠ 2 → num = 0)) :
  Fn Tryz.prog 84 [.agg ⟨cells⟩] [] G (K5 (.bool R) G) := by
 have he : nm = ⟨#[]⟩ → A0o nm = false := by rintro rfl; rfl
 obtain ⟨tk, tks⟩ := ty
 obtain ⟨fk, fks⟩ := fr
 obtain ⟨pt, ct, pf, cf, p, c, es, rfl, hk, hnum, hlb, hty, hfr, hsl, hkl⟩ := hr.open9
 clear hr
 have o2 := B3p nm G
 have o3 := A3i _ G _ hty
 have o4 := A8Y _ G _ hty
 have o7 := A8Y _ G _ hfr
 refine C0 Tryz.func84 rfl Tryz.ntmps84 Tryz.results84 rfl ?_
 intro w0
 refine A4 ?_
 refine sE (B5 rfl rfl) rfl (fun b3 => ?_)
 refine B0 ?_
 refine sB (qE rfl rfl) rfl rfl (fun h11 => ?_) (fun h11 => ?_)
 refine O3 ?_
 refine sP (D0 rfl rfl zZ) rfl rfl ?_
 refine C1 ?_
 refine sP (D0 rfl rfl zZ) rfl rfl ?_
 refine B4 ?_
 refine sP (D0 rfl rfl zZ) rfl rfl ?_
 refine J4 ?_
 refine K3 rfl (o2) rfl rfl (fun h44 => ?_) (fun h44 => ?_)
 refine sQ (A3j rfl rfl rfl) rfl ?_
 refine A12 ?_
 refine K3 rfl (o4) rfl rfl (fun h70 => ?_) (fun h70 => ?_)
 refine O5 ?_
 refine sP (A0U rfl rfl zZ) rfl rfl ?_
 refine C1 ?_
 refine K3 rfl (o7) rfl rfl (fun h88 => ?_) (fun h88 => ?_)
 refine B4 ?_
 refine sB (V0 rfl rfl) rfl rfl (fun h93 => ?_) (fun h93 => ?_)
 refine O5 ?_
 exact ⟨rfl, zD, rfl⟩
 refine O3 ?_
 refine sP (D0 rfl rfl zZ) rfl rfl ?_
 refine E8 ?_
 refine sB (qE rfl rfl) rfl rfl (fun h130 => ?_) (fun h130 => ?_)
 refine A8 ?_
 exact ⟨rfl, by rw [hi.2 ⟨fun _ => by (first | assumption | (exfalso; omega)), fun _ => zN, fun _ => by (first | assumption | (exfalso; omega)), fun _ => by (first | assumption | (exfalso; omega)), fun _ => ⟨by (first | assumption | (exfalso; omega)), by (first | assumption | omega)⟩, by omega, by omega⟩], rfl⟩
 refine A8 ?_
 exact ⟨rfl, zD, rfl⟩
 refine Y7 ?_
 exact ⟨rfl, zD, rfl⟩
 refine M8 ?_
 exact ⟨rfl, zD, rfl⟩
 refine sQ (A9e rfl rfl rfl) rfl ?_
 refine A0W ?_
 refine E8 ?_
 exact ⟨rfl, zD, rfl⟩
 refine C1 ?_
 refine sB (qE rfl rfl) rfl rfl (fun h221 => ?_) (fun h221 => ?_)
 refine E4 ?_
 refine sP (N6 rfl rfl zZ) rfl rfl ?_
 refine A09 ?_
 refine K3 rfl (o2) rfl rfl (fun h250 => ?_) (fun h250 => ?_)
 refine sQ (A3j rfl rfl rfl) rfl ?_
 refine M8 ?_
 refine K3 rfl (o3) rfl rfl (fun h266 => ?_) (fun h266 => ?_)
 refine A1K ?_
 refine sP (A0U rfl rfl zZ) rfl rfl ?_
 refine C1 ?_
 refine K3 rfl (o7) rfl rfl (fun h294 => ?_) (fun h294 => ?_)
 refine B4 ?_
 refine sB (V0 rfl rfl) rfl rfl (fun h299 => ?_) (fun h299 => ?_)
 refine O5 ?_
 exact ⟨rfl, zD, rfl⟩
 refine O3 ?_
 refine sP (D0 rfl rfl zZ) rfl rfl ?_
 refine E8 ?_
 refine sB (qE rfl rfl) rfl rfl (fun h336 => ?_) (fun h336 => ?_)
 refine A8 ?_
 exact ⟨rfl, by rw [hi.2 ⟨fun _ => by (first | assumption | (exfalso; omega)), fun _ => zN, fun _ => by (first | assumption | (exfalso; omega)), fun _ => by (first | assumption | (exfalso; omega)), fun _ => ⟨by (first | assumption | (exfalso; omega)), by (first | assumption | omega)⟩, by omega, by omega⟩], rfl⟩
 refine A8 ?_
 exact ⟨rfl, zD, rfl⟩
 refine Y7 ?_
 exact ⟨rfl, zD, rfl⟩
 refine A12 ?_
 exact ⟨rfl, zD, rfl⟩
 refine sQ (A9e rfl rfl rfl) rfl ?_
 refine A0W ?_
 refine E8 ?_
 exact ⟨rfl, zD, rfl⟩
 refine E4 ?_
 refine sP (D0 rfl rfl zZ) rfl rfl ?_
 refine C1 ?_
 refine sB (qE rfl rfl) rfl rfl (fun h446 => ?_) (fun h446 => ?_)
 refine I5 ?_
 refine K3 rfl (o2) rfl rfl (fun h462 => ?_) (fun h462 => ?_)
 refine sQ (A6R rfl rfl rfl) rfl ?_
 refine A0W ?_
 refine E8 ?_
 exact ⟨rfl, zD, rfl⟩
 refine sQ (A3j rfl rfl rfl) rfl ?_
 refine A9 ?_
 refine sB (A3b rfl rfl) rfl rfl (fun h511 => ?_) (fun h511 => ?_)
 refine A0W ?_
 refine A4 ?_
 exact ⟨rfl, zD, rfl⟩
 refine B0 ?_
 refine K3 rfl (o3) rfl rfl (fun h552 => ?_) (fun h552 => ?_)
 refine A1K ?_
 refine sP (A0U rfl rfl zZ) rfl rfl ?_
 refine C1 ?_
 refine K3 rfl (o7) rfl rfl (fun h580 => ?_) (fun h580 => ?_)
 refine B4 ?_
 refine sB (V0 rfl rfl) rfl rfl (fun h585 => ?_) (fun h585 => ?_)
 refine O5 ?_
 exact ⟨rfl, zD, rfl⟩
 refine O3 ?_
 refine sP (D0 rfl rfl zZ) rfl rfl ?_
 refine E8 ?_
 refine sB (qE rfl rfl) rfl rfl (fun h622 => ?_) (fun h622 => ?_)
 refine A8 ?_
 exact ⟨rfl, by rw [hi.2 ⟨fun _ => by (first | assumption | (exfalso; omega)), fun _ => zN, fun _ => by (first | assumption | (exfalso; omega)), fun _ => by (first | assumption | (exfalso; omega)), fun _ => ⟨by (first | assumption | (exfalso; omega)), by (first | assumption | omega)⟩, by omega, by omega⟩], rfl⟩
 refine A8 ?_
 exact ⟨rfl, zD, rfl⟩
 refine Y7 ?_
 exact ⟨rfl, zD, rfl⟩
 refine A12 ?_
 exact ⟨rfl, zD, rfl⟩
 refine B4 ?_
 refine sB (qE rfl rfl) rfl rfl (fun h683 => ?_) (fun h683 => ?_)
 refine J4 ?_
 refine K3 rfl (o2) rfl rfl (fun h694 => ?_) (fun h694 => ?_)
 refine sQ (A6R rfl rfl rfl) rfl ?_
 refine A0W ?_
 refine E8 ?_
 exact ⟨rfl, zD, rfl⟩
 refine sQ (A3j rfl rfl rfl) rfl ?_
 refine A9 ?_
 refine sB (A3b rfl rfl) rfl rfl (fun h743 => ?_) (fun h743 => ?_)
 refine A0W ?_
 refine A4 ?_
 exact ⟨rfl, zD, rfl⟩
 refine B0 ?_
 refine K3 rfl (o3) rfl rfl (fun h784 => ?_) (fun h784 => ?_)
 refine A1K ?_
 refine sP (A2J rfl rfl zZ) rfl rfl ?_
 refine Y1 ?_
 refine sP (D0 rfl rfl zZ) rfl rfl ?_
 refine E8 ?_
 refine sB (qE rfl rfl) rfl rfl (fun h840 => ?_) (fun h840 => ?_)
 refine A8 ?_
 exact ⟨rfl, by rw [hi.2 ⟨fun _ => by (first | assumption | (exfalso; omega)), fun _ => zN, fun _ => by (first | assumption | (exfalso; omega)), fun _ => by (first | assumption | (exfalso; omega)), fun _ => ⟨by (first | assumption | (exfalso; omega)), by (first | assumption | omega)⟩, by omega, by omega⟩], rfl⟩
 refine A8 ?_
 exact ⟨rfl, zD, rfl⟩
 refine A12 ?_
 exact ⟨rfl, zD, rfl⟩
 refine J4 ?_
 refine K3 rfl (o2) rfl rfl (fun h888 => ?_) (fun h888 => ?_)
 refine sQ (A6R rfl rfl rfl) rfl ?_
 refine A0W ?_
 refine E8 ?_
 exact ⟨rfl, zD, rfl⟩
 refine sQ (A3j rfl rfl rfl) rfl ?_
 refine A9 ?_
 refine sB (A3b rfl rfl) rfl rfl (fun h937 => ?_) (fun h937 => ?_)
 refine A0W ?_
 refine A4 ?_
 exact ⟨rfl, zD, rfl⟩
 refine U7 ?_
 refine K3 rfl (o4) rfl rfl (fun h988 => ?_) (fun h988 => ?_)
 refine O5 ?_
 refine sP (A0U rfl rfl zZ) rfl rfl ?_
 refine C1 ?_
 refine K3 rfl (o7) rfl rfl (fun h1006 => ?_) (fun h1006 => ?_)
 refine B4 ?_
 refine sB (V0 rfl rfl) rfl rfl (fun h1011 => ?_) (fun h1011 => ?_)
 refine O5 ?_
 exact ⟨rfl, zD, rfl⟩
 refine O3 ?_
 refine sB (qE rfl rfl) rfl rfl (fun h1038 => ?_) (fun h1038 => ?_)
 refine B0 ?_
 refine sB (A1j rfl rfl) rfl rfl (fun h1046 => ?_) (fun h1046 => ?_)
 refine C1 ?_
 refine sB (A08 rfl rfl) rfl rfl (fun h1050 => ?_) (fun h1050 => ?_)
 refine B0 ?_
 exact ⟨rfl, by rw [hi.2 ⟨fun _ => by (first | assumption | (exfalso; omega)), fun _ => zN, fun _ => by (first | assumption | (exfalso; omega)), fun _ => by (first | assumption | (exfalso; omega)), fun _ => ⟨by (first | assumption | (exfalso; omega)), by (first | assumption | omega)⟩, by omega, by omega⟩], rfl⟩
 refine B0 ?_
 exact ⟨rfl, zD, rfl⟩
 refine M3 ?_
 exact ⟨rfl, zD, rfl⟩
 refine E8 ?_
 refine sB (qE rfl rfl) rfl rfl (fun h1088 => ?_) (fun h1088 => ?_)
 refine A8 ?_
 exact ⟨rfl, by rw [hi.2 ⟨fun _ => by (first | assumption | (exfalso; omega)), fun _ => zN, fun _ => by (first | assumption | (exfalso; omega)), fun _ => by (first | assumption | (exfalso; omega)), fun _ => ⟨by (first | assumption | (exfalso; omega)), by (first | assumption | omega)⟩, by omega, by omega⟩], rfl⟩
 refine A8 ?_
 exact ⟨rfl, zD, rfl⟩
 refine Y7 ?_
 exact ⟨rfl, zD, rfl⟩
 refine M8 ?_
 exact ⟨rfl, zD, rfl⟩
mutual
def P4 (D N : Int) : Tm → Int → Bool
 | .mk k nm num ty fr lb ks, deep => decide (deep ≤ D) && decide (k ≠ N) && Z8 k nm num ty fr lb ks.length && O0 D N ks (deep + 1)
def O0 (D N : Int) : List Tm → Int → Bool
 | [], _ => true
 | t :: ts, deep => P4 D N t deep && O0 D N ts deep
end
theorem A2z (D N : Int) : ∀ (ts : List Tm) (d : Int), O0 D N ts d = true ↔ ∀ i, (h : i < ts.length) → P4 D N ts[i] d = true
 | [], d => by simp [O0]
 | t :: ts, d => by
  simp only [O0, Bool.and_eq_true, A2z D N ts d]
  constructor
  ·rintro ⟨h1, h2⟩ i hi
   cases i with
   | zero => exact h1
   | succ i => exact h2 i (by simpa using hi)
  ·intro h
   exact ⟨h 0 zA0, fun i hi => h (i + 1) (by simpa using hi)⟩
theorem A4u {D N : Int} {k : Int} {nm : ByteArray} {num : Int} {ty fr : Ty} {lb : Int} {ks : List Tm} {d : Int} (h : D < d ∨ k = N ∨ Z8 k nm num ty fr lb ks.length = false) : P4 D N (.mk k nm num ty fr lb ks) d = false := by
 rw [P4]
 rcases h with h | h | h
 ·rw [decide_eq_false zZ]; rfl
 ·rw [decide_eq_false (p := k ≠ N) zZ, Bool.and_false]; rfl
 ·rw [h, Bool.and_false]; rfl
theorem A2O {D N : Int} {k : Int} {nm : ByteArray} {num : Int} {ty fr : Ty} {lb : Int} {ks : List Tm} {d : Int} (h1 : d ≤ D) (h2 : k ≠ N) (h3 : Z8 k nm num ty fr lb ks.length = true) : P4 D N (.mk k nm num ty fr lb ks) d = O0 D N ks (d + 1) := by
 rw [P4, decide_eq_true h1, decide_eq_true h2, h3]; rfl
theorem B3K {D N : Int} {ks : List Tm} {d : Int} {i : Nat} (hi : i < ks.length) (h : P4 D N ks[i] d = false) : O0 D N ks d = false := by
 cases hx : O0 D N ks d with
 | false => rfl
 | true => rw [(A2z D N ks d).1 hx i hi] at h; cases h
theorem B3L {k : Int} {nm : ByteArray} {num : Int} {ty fr : Ty} {lb : Int} {n : Nat} (hk : k ≠ 14) (ha : E7 k = n) : Z8 k nm num ty fr lb n = true ↔
  (k = 1 ∨ k = 5 → A0o nm = true) ∧ (¬(k = 1 ∨ k = 5) → nm = ⟨#[]⟩) ∧ (k = 5 ∨ k = 13 ∨ k = 14 → H7 ty = true) ∧ (¬(k = 5 ∨ k = 13 ∨ k = 14) → A0n ty = true) ∧ (k ≠ 14 → A0n fr = true ∧ lb = 0) ∧ (k = 2 → 0 ≤ num ∧ num ≤ 999) ∧ (k ≠ 2 → num = 0) := by
 rw [X7]
 simp only [W7, decide_eq_true_eq]
 constructor
 ·rintro ⟨_, h2, h3, h4, h5, h6, h7, _, h9⟩
  exact ⟨h2, h3, h6, h7, h9, h4, fun h => by have := h5 h; omega⟩
 ·rintro ⟨h2, h3, h6, h7, h9, h4, h5⟩
  exact ⟨ha, h2, h3, h4, fun h => by have := h5 h; omega, h6, h7, fun h => absurd h hk, h9⟩
theorem B3M {D N : Int} {k : Int} {nm : ByteArray} {num : Int} {ty fr : Ty} {lb : Int} {ks : List Tm} {d : Int} (h : P4 D N (.mk k nm num ty fr lb ks) d = true) : d ≤ D ∧ ∀ i, (hi : i < ks.length) → P4 D N ks[i] (d + 1) = true := by
 rw [P4] at h
 simp only [Bool.and_eq_true, decide_eq_true_eq] at h
 exact ⟨h.1.1.1, (A2z D N ks _).1 h.2⟩
mutual
theorem A6S (M D N : Int) : ∀ (t : Tm) (deep c : Int), c ≤ M → ((V2 M D N t deep c).1 = true ↔ P4 D N t deep = true ∧ c + E1 t ≤ M)
 | .mk k nm num ty fr lb ks, deep, c, hc => by
  rw [V2, E1]
  by_cases h : c + 1 > M ∨ deep > D ∨ k = N ∨ Z8 k nm num ty fr lb ks.length = false
  ·rw [if_pos h]
   constructor
   ·intro h; cases h
   ·rintro ⟨h1, h2⟩
    rcases h with h | h
    ·omega
    ·rw [A4u h] at h1; cases h1
  ·rw [if_neg h]
   have hn : Z8 k nm num ty fr lb ks.length = true := by
    cases hx : Z8 k nm num ty fr lb ks.length with
    | true => rfl
    | false => exact absurd (Or.inr (Or.inr (Or.inr hx))) h
   rw [A2O zZ zZ hn, A9f M D N ks (deep + 1) (c + 1) zZ]
   constructor
   ·rintro ⟨a, b⟩; exact ⟨a, by omega⟩
   ·rintro ⟨a, b⟩; exact ⟨a, by omega⟩
theorem A9f (M D N : Int) : ∀ (ts : List Tm) (deep c : Int), c ≤ M → ((X2 M D N ts deep c).1 = true ↔ O0 D N ts deep = true ∧ c + H3 ts ≤ M)
 | [], deep, c, hc => by simp [X2, O0, H3]; omega
 | t :: ts, deep, c, hc => by
  have h0 := A6S M D N t deep c hc
  rw [X2, O0, H3, Bool.and_eq_true]
  by_cases h : (V2 M D N t deep c).1 = true
  ·rw [if_pos h, A8C M D N t deep c h, A9f M D N ts deep _ (h0.1 h).2]
   have := h0.1 h
   constructor
   ·rintro ⟨a, b⟩; exact ⟨⟨this.1, a⟩, by omega⟩
   ·rintro ⟨⟨_, a⟩, b⟩; exact ⟨a, by omega⟩
  ·rw [if_neg h]
   constructor
   ·intro h'; cases h'
   ·rintro ⟨⟨a, _⟩, b⟩
    exact absurd (h0.2 ⟨a, by omega⟩) h
end
theorem A9g (t : Tm) : S0 t = true ↔ P4 40 13 t 1 = true ∧ E1 t ≤ 200 := by
 have := A6S 200 40 13 t 1 0 zZ
 rw [S0, this]
 constructor
 ·rintro ⟨a, b⟩; exact ⟨a, by omega⟩
 ·rintro ⟨a, b⟩; exact ⟨a, by omega⟩
theorem B3N (D N : Int) : ∀ (t : Tm) (d : Int) (G : IM) (cells : List Value), d ≤ 40 → P4 D N t (D + 1 - d) = true → E1 t ≤ 4294967296 → B8 G t cells →
  Fn Tryz.prog 49 [.agg ⟨cells⟩, .int .i64 d] [] G (K5 (.int .i64 (E1 t : Int)) G) := by
 refine Tm.ind fun k nm num ty fr lb ks ih d G cells hd hv hcnt hr => ?_
 have hone := hr.one
 obtain ⟨hv1, hv2⟩ := B3M hv
 obtain ⟨tk, tks⟩ := ty
 obtain ⟨fk, fks⟩ := fr
 obtain ⟨pt, ct, pf, cf, p, c, es, rfl, hk, hnum, hlb, hty, hfr, hsl, hkl⟩ := hr.open9
 have hn := hsl.le
 clear hr
 rw [E1] at hcnt ⊢
 refine C0 Tryz.func49 rfl Tryz.ntmps49 Tryz.results49 rfl ?_
 intro w0
 refine A4 ?_
 refine sE (B5 rfl rfl) rfl (fun b3 => ?_)
 refine M8 ?_
 refine C2 ?_
 (refine L4 (fun (i : Nat) => ⟨[(6, .int .i64 i), (5, .int .i64 ((H3 (ks.take i) + 1 : Nat) : Int)), (2, .pointer (some ⟨b3, 0, none⟩)), (1, .int .i64 d)], [.blk b3 [.int .i64 k, .string nm, .int .i64 num, .int .i64 tk, .slice pt tks.length ct, .int .i64 fk, .slice pf fks.length cf, .int .i64 lb, .slice p ks.length c]], G⟩) (fun i => i ≤ ks.length) (fun i => ks.length - i) 0 ?_ ?_ ?_)
 exact F9
 exact Nat.zero_le _
 (rintro i hi)
 refine B0 ?_
 refine sB (N0 rfl rfl) rfl rfl (fun h30 => ?_) (fun h30 => ?_)
 refine A4 ?_
 refine sP (A4f rfl rfl zZ) rfl rfl ?_
 refine B0 ?_
 refine C2 ?_
 refine A8 ?_
 (obtain ⟨b, o, e, rfl, hl, hat, hre, hgb⟩ := hsl.kidTm hkl (i := i) zZ zZ; have htk := A1m (ks := ks) (i := i) zZ; refine sP (B6 rfl rfl rfl zZ) rfl rfl ?_)
 refine sL (A5 rfl rfl (hat _) hl) rfl rfl ?_
 refine E0 ?_
 refine sP (Q7 rfl rfl zZ zZ) rfl rfl ?_
 (have hvk := hv2 i zZ; rw [show D + 1 - d + 1 = D + 1 - (d - 1) by omega] at hvk; refine H1 rfl (ih ks[i] (List.getElem_mem zZ) (d - 1) G _ zZ hvk zZ hre) rfl rfl ?_)
 refine sP (J9 rfl rfl zZ zZ) rfl rfl ?_
 refine A9 ?_
 refine sP (J9 rfl rfl zZ zZ) rfl rfl ?_
 refine A4 ?_
 (refine J6 (i + 1) ?_ ?_ ?_; rw [show ((H3 (ks.take (i + 1)) + 1 : Nat) : Int) = ((H3 (ks.take i) + 1 : Nat) : Int) + (E1 ks[i] : Int) from by rw [A1n zZ]; omega])
 exact F9
 omega
 omega
 refine W5 ?_
 (obtain rfl : i = ks.length := zZ; rw [List.take_length]; exact ⟨rfl, rfl, rfl⟩)
theorem U1 (t : Tm) : N8 t = true ↔ P4 12 14 t 1 = true ∧ E1 t ≤ 30 := by
 have := A6S 30 12 14 t 1 0 zZ
 rw [N8, this]
 constructor
 ·rintro ⟨a, b⟩; exact ⟨a, by omega⟩
 ·rintro ⟨a, b⟩; exact ⟨a, by omega⟩
theorem B3O : ∀ (t : Tm) (d : Int) (G : IM) (cells : List Value), 0 ≤ d ∧ d ≤ 12 → B8 G t cells →
  Fn Tryz.prog 48 [.agg ⟨cells⟩, .int .i64 d] [] G (K5 (.bool (P4 12 14 t (13 - d))) G) := by
 refine Tm.ind fun k nm num ty fr lb ks ih d G cells hd hr => ?_
 have hr0 := hr
 have hne := fun h : k ≠ 14 => @B3L k nm num ty fr lb ks.length h
 have har := fun h : Z8 k nm num ty fr lb ks.length = true => (X7.1 h).1
 obtain ⟨R, hR⟩ : ∃ R, Z8 k nm num ty fr lb ks.length = R := ⟨_, rfl⟩
 rw [hR] at hne har
 have hl2 := B3J k nm num ty fr lb ks G cells hr0 R
 have hk1 := A6I k G
 obtain ⟨tk, tks⟩ := ty
 obtain ⟨fk, fks⟩ := fr
 obtain ⟨pt, ct, pf, cf, p, c, es, rfl, hk, hnum, hlb, hty, hfr, hsl, hkl⟩ := hr.open9
 have hn := hsl.le
 clear hr hr0
 refine C0 Tryz.func48 rfl Tryz.ntmps48 Tryz.results48 rfl ?_
 intro w0
 refine A4 ?_
 refine sE (B5 rfl rfl) rfl (fun b3 => ?_)
 refine A8 ?_
 refine D3 D4 rfl ?_
 refine I9 (i := 0) (l' := [tt,ff,ff,ff,ff,ff,ff,ff,ff,ff,ff,ff,ff,ff,ff,ff,ff,ff,ff,ff,ff]) rfl C8 (qM rfl) rfl zX rfl rfl ?_
 refine A2r (i := 1) (l' := [tt,tt,ff,ff,ff,ff,ff,ff,ff,ff,ff,ff,ff,ff,ff,ff,ff,ff,ff,ff,ff]) rfl C8 (N0 rfl rfl) rfl zX rfl rfl (fun h11 => ?_) (fun h11 => ?_)
 refine aP 2 rfl (qM rfl) rfl ?_
 refine D5 3 rfl rfl rfl ?_
 refine D5 4 rfl rfl rfl ?_
 refine D5 6 rfl rfl rfl ?_
 refine D5 7 rfl rfl rfl ?_
 refine D5 8 rfl rfl rfl ?_
 refine D5 5 rfl rfl rfl ?_
 refine D5 9 rfl rfl rfl ?_
 refine aP 10 rfl (R3 rfl rfl) rfl ?_
 refine aP 11 rfl (qM rfl) rfl ?_
 refine D5 12 rfl rfl rfl ?_
 refine D5 13 rfl rfl rfl ?_
 refine D5 14 rfl rfl rfl ?_
 refine aP 15 rfl (R3 rfl rfl) rfl ?_
 refine aP 16 rfl (qM rfl) rfl ?_
 refine D5 17 rfl rfl rfl ?_
 refine D5 18 rfl rfl rfl ?_
 refine D5 19 rfl rfl rfl ?_
 refine aP 20 rfl (R3 rfl rfl) rfl ?_
 refine M3 ?_
 (rw [A4u (by rw [hR]; first | omega | exact .inr (.inr zW) | exact .inr (.inr (by cases R with | false => rfl | true => exact absurd (har rfl) zZ)))]; exact ⟨rfl, rfl, rfl⟩)
 refine aP 2 rfl (qM rfl) rfl ?_
 refine aP 3 rfl (C3 rfl) rfl ?_
 refine aL 4 rfl (E9 rfl rfl) rfl ?_
 refine aP 6 rfl (C3 rfl) rfl ?_
 refine aL 7 rfl (E9 rfl rfl) rfl ?_
 refine aP 8 rfl (pLn rfl rfl) rfl ?_
 refine A2 5 ?_
 refine T2 rfl rfl (hk1) rfl rfl rfl ?_
 refine A2r (i := 9) (l' := [tt,tt,tt,tt,tt,tt,tt,tt,tt,tt,ff,ff,ff,ff,ff,ff,ff,ff,ff,ff,ff]) rfl C8 (V0 rfl rfl) rfl zX rfl rfl (fun h51 => ?_) (fun h51 => ?_)
 refine aP 10 rfl (T1 rfl rfl) rfl ?_
 refine aP 11 rfl (qM rfl) rfl ?_
 refine D5 12 rfl rfl rfl ?_
 refine D5 13 rfl rfl rfl ?_
 refine D5 14 rfl rfl rfl ?_
 refine aP 15 rfl (R3 rfl rfl) rfl ?_
 refine aP 16 rfl (qM rfl) rfl ?_
 refine D5 17 rfl rfl rfl ?_
 refine D5 18 rfl rfl rfl ?_
 refine D5 19 rfl rfl rfl ?_
 refine aP 20 rfl (R3 rfl rfl) rfl ?_
 refine M3 ?_
 (rw [A4u (by rw [hR]; first | omega | exact .inr (.inr zW) | exact .inr (.inr (by cases R with | false => rfl | true => exact absurd (har rfl) zZ)))]; exact ⟨rfl, rfl, rfl⟩)
 refine aP 10 rfl (T1 rfl rfl) rfl ?_
 refine aP 11 rfl (qM rfl) rfl ?_
 refine aP 12 rfl (C3 rfl) rfl ?_
 refine aL 13 rfl (E9 rfl rfl) rfl ?_
 refine A2r (i := 14) (l' := [tt,tt,tt,tt,tt,tt,tt,tt,tt,tt,tt,tt,tt,tt,tt,ff,ff,ff,ff,ff,ff]) rfl C8 (qE rfl rfl) rfl zX rfl rfl (fun h79 => ?_) (fun h79 => ?_)
 refine aP 15 rfl (T1 rfl rfl) rfl ?_
 refine aP 16 rfl (qM rfl) rfl ?_
 refine D5 17 rfl rfl rfl ?_
 refine D5 18 rfl rfl rfl ?_
 refine D5 19 rfl rfl rfl ?_
 refine aP 20 rfl (R3 rfl rfl) rfl ?_
 refine M3 ?_
 (rw [A4u (by rw [hR]; first | omega | exact .inr (.inr zW) | exact .inr (.inr (by cases R with | false => rfl | true => exact absurd (har rfl) zZ)))]; exact ⟨rfl, rfl, rfl⟩)
 refine aP 15 rfl (T1 rfl rfl) rfl ?_
 refine aP 16 rfl (qM rfl) rfl ?_
 refine aL 17 rfl (A3 rfl rfl) rfl ?_
 refine A2 18 ?_
 refine Z2 rfl rfl (hl2 (hne zZ zZ)) rfl rfl rfl (fun h102 => ?_) (fun h102 => ?_)
 refine aP 19 rfl (pNt rfl) rfl ?_
 refine aP 20 rfl (T1 rfl rfl) rfl ?_
 refine M3 ?_
 refine C2 ?_
 (refine L4 (fun (i : Nat) => ⟨[(5, .int .i64 i), (2, .pointer (some ⟨b3, 0, none⟩)), (1, .int .i64 d)], [.blk b3 [.int .i64 k, .string nm, .int .i64 num, .int .i64 tk, .slice pt tks.length ct, .int .i64 fk, .slice pf fks.length cf, .int .i64 lb, .slice p ks.length c]], G⟩) (fun i => i ≤ ks.length ∧ ∀ j (h : j < ks.length), j < i → P4 12 14 ks[j] (13 - d + 1) = true) (fun i => ks.length - i) 0 ?_ ?_ ?_)
 exact F9
 exact ⟨by omega, by omega⟩
 (rintro i ⟨hi, hf⟩)
 refine B0 ?_
 refine sB (N0 rfl rfl) rfl rfl (fun h128 => ?_) (fun h128 => ?_)
 refine A9 ?_
 refine C2 ?_
 refine A8 ?_
 (obtain ⟨b, o, e, rfl, hl, hat, hre, hgb⟩ := hsl.kidTm hkl (i := i) zZ zZ; refine sP (B6 rfl rfl rfl zZ) rfl rfl ?_)
 refine sL (A5 rfl rfl (hat _) hl) rfl rfl ?_
 refine E0 ?_
 refine sP (Q7 rfl rfl zZ zZ) rfl rfl ?_
 (have hih := ih ks[i] (List.getElem_mem zZ) (d - 1) G _ zZ hre; rw [show 13 - (d - 1) = 13 - d + 1 by omega] at hih; refine K3 rfl hih rfl rfl (fun h145 => ?_) (fun h145 => ?_))
 refine E8 ?_
 refine sP (J9 rfl rfl zZ zZ) rfl rfl ?_
 refine A4 ?_
 refine J6 (i + 1) ?_ ?_ ?_
 exact F9
 exact ⟨by omega, fun j hj hji => by (by_cases he : j = i; (subst he; assumption); exact hf j hj zZ)⟩
 omega
 refine N7 ?_
 (rw [A2O zZ zZ (hR.trans zW), B3K (i := i) zZ zW]; exact ⟨rfl, rfl, rfl⟩)
 refine I5 ?_
 (rw [A2O zZ zZ (hR.trans zW), (A2z 12 14 ks _).2 (fun j hj => hf j hj zZ)]; exact ⟨rfl, rfl, rfl⟩)
 refine aP 19 rfl (pNf rfl) rfl ?_
 refine aP 20 rfl (T1 rfl rfl) rfl ?_
 refine M3 ?_
 (rw [A4u (by rw [hR]; first | omega | exact .inr (.inr zW) | exact .inr (.inr (by cases R with | false => rfl | true => exact absurd (har rfl) zZ)))]; exact ⟨rfl, rfl, rfl⟩)
theorem A4v (t : Tm) (G : IM) (cells : List Value) (hcnt : E1 t ≤ 4294967296) (hr : B8 G t cells) :
  Fn Tryz.prog 20 [.agg ⟨cells⟩] [] G (K5 (.bool (N8 t)) G) := by
 have hl := hr.len
 have hv := B3O t 12 G cells zZ hr
 have hc := fun h => B3N 12 14 t 12 G cells zZ h hcnt hr
 have hi := U1 t
 obtain ⟨R, hR⟩ : ∃ R, N8 t = R := ⟨_, rfl⟩
 rw [hR] at hi ⊢
 refine C0 Tryz.func20 rfl Tryz.ntmps20 Tryz.results20 rfl ?_
 intro w0
 refine A4 ?_
 refine sE (B5 rfl rfl) rfl (fun b3 => ?_)
 refine A8 ?_
 refine sL (A5 rfl rfl (B7 zS) zW) rfl rfl ?_
 refine K3 rfl (hv) rfl rfl (fun h10 => ?_) (fun h10 => ?_)
 refine E0 ?_
 refine sL (A5 rfl rfl (B7 zS) zW) rfl rfl ?_
 refine H1 rfl (hc zW) rfl rfl ?_
 refine sB (A08 rfl rfl) rfl rfl (fun h14 => ?_) (fun h14 => ?_)
 refine A9 ?_
 exact ⟨rfl, by rw [hi.2 ⟨by assumption, by omega⟩], rfl⟩
 refine A9 ?_
 exact ⟨rfl, by (cases R with | false => rfl | true => (exfalso; have h0 := hi.1 rfl; first | omega | simp_all)), rfl⟩
 refine J4 ?_
 exact ⟨rfl, by (cases R with | false => rfl | true => (exfalso; have h0 := hi.1 rfl; first | omega | simp_all)), rfl⟩
section forget
variable {P : Program} {Γ : M9} {env : O2} {hp : List A7} {G : IM} {K : Po} {ops : Array Oper} {rest : List Oper} {ty : TypeId} {pos : String} {af : Array Edge} {gd : Option (Nat × Bool)}
end forget
def tAt : Tm → List Int → Option Tm
 | t, [] => some t
 | .mk _ _ _ _ _ _ ks, i :: is => if h : 0 ≤ i ∧ i < ks.length then tAt (ks[i.toNat]'zZ) is else none
def z9 : List Value := [.int .i64 0, .string ⟨⟨[]⟩⟩, .int .i64 0, .int .i64 0, .slice none 0 0, .int .i64 0, .slice none 0 0, .int .i64 0, .slice none 0 0]
def AtP (t : Tm) (path : List Int) (G : IM) : IM → Value → List A7 → Prop := fun G' v outs => G' = G ∧ outs = [] ∧
 ((∃ x cells, tAt t path = some x ∧ B8 G x cells ∧ v = .tuple ⟨[.agg ⟨cells⟩, .bool true]⟩) ∨ (tAt t path = none ∧ v = .tuple ⟨[.agg ⟨z9⟩, .bool false]⟩))
def K4 : Tm := .mk 0 ⟨⟨[]⟩⟩ 0 (.mk 0 []) (.mk 0 []) 0 []
theorem P3.zero (G : IM) : P3 G K4 z9 [] := by
 simp only [K4, P3, R4, P8, O9, z9]
 refine ⟨[.int .i64 0, .slice none 0 0], [.int .i64 0, .slice none 0 0], none, 0, [], [], [], [], rfl, ⟨by omega, by omega⟩, ⟨by omega, by omega⟩, ⟨by omega, by omega⟩, ?_, ?_, D6.nil _ _, ⟨rfl, rfl⟩, rfl, by simp [J5]⟩
 ·exact ⟨none, 0, [], [], rfl, ⟨by omega, by omega⟩, D6.nil _ _, ⟨rfl, rfl⟩, rfl, by simp [J5]⟩
 ·exact ⟨none, 0, [], [], rfl, ⟨by omega, by omega⟩, D6.nil _ _, ⟨rfl, rfl⟩, rfl, by simp [J5]⟩
def B8j (t : Tm) (path : List Int) : Tm × Bool := if S0 t = true then (match tAt t path with | some x => (x, true) | none => (K4, false)) else (K4, false)
def TbP (r : Tm × Bool) (G : IM) : IM → Value → List A7 → Prop := M5 fun G' v => ∃ cells F, v = .tuple ⟨[.agg ⟨cells⟩, .bool r.2]⟩ ∧ P3 (D9 G' G) r.1 cells F ∧ F.Nodup
end Gw
end Go.Proofs.YtbdacdnffkhgeaaGreatDoor
