/-
  Strings: cut, put together, compared. The reference model's drawn terms: what they are made of, and how big they are. The reference model's drawn terms. The reference model's source is opened; drawn closed terms and valid terms. The reference model's functions on types: they end, and what they give has operands as it must. The laws' reading of marks in types and terms. Contexts of bindings: looked up, made longer. The reference model's typing: it ends, and what it gives is a type whose nodes have their operands, not wider than the term is big. The reference model's terms that are sometimes made invalid; drawn arguments. Slices of slices; slices of the call's own opened as blocks; one element of a slice of terms replaced. Casts put in: one cast, the types that are asked for. InsertCasts of the reference model: it ends, and what it gives is not much bigger than what it is given. Which names are free, at which place a name is bound: what comes out is small. Evaluation of terms with casts, in plain words. The calculus of casts is that of the evaluation. What a step gives is small. The program's functions on types and contexts: each computes what the plain words say. Nodes replaced: the program's put, the reference model's l16Replace. The reference model's replacing of nodes.
-/
import Derived.Test.YtebfignffjhnhaaGreatDoorKj2
import Derived.Laws.Slices
import Derived.Test.YtebfignffjhnhaaGreatDoorKj1
set_option linter.unusedVariables false
set_option linter.unusedSimpArgs false
set_option maxHeartbeats 0
set_option maxRecDepth 100000
set_option synthInstance.maxSize 4000
set_option synthInstance.maxHeartbeats 0
namespace Go.Proofs.YtebfignffjhnhaaGreatDoor
open Go Go.RowKit
namespace Gw
section slaws
variable {P : Program} {Γ : L6} {env : M0} {hp : List A5} {G : IM} {ty : TypeId}
theorem A4A {P : Program} {w : World} {l c : Nat} (hl : l ≤ c) (code : BoundsCode) : (Instr.sliceBound (.int .i64 (l : Int)) c code).run P w = .ok l w := by
 unfold Instr.sliceBound
 simp only [asIntOf, Sem.run_bind, Sem.run_pure, Result.andThen_ok]
 rw [if_pos ⟨by omega, by omega⟩]
 simp
theorem A5U {x y z : Operand} {t : TypeId} {i : K4} [hI : H3 P t i] (hd' : i.desc = .string) {s : ByteArray} {l h : Nat}
  (hx : evo env x = some (.string s)) (hy : evo env y = some (.int .i64 (l : Int))) (hz : evo env z = some (.int .i64 (h : Int))) (hl : l ≤ h) (hh : h ≤ s.size) :
  H8 P Γ ⟨env, hp, G⟩ (.slice t x (some y) (some z) none) ty (.string (s.extract l h)) := by
 refine ⟨fun a _ hs _ _ _ _ w => ?_⟩
 have hu := hI.und
 rw [hd'] at hu
 simp [execOp, (hs.evo hx : a.eval x = _), (hs.evo hy : a.eval y = _), (hs.evo hz : a.eval z = _), Instr.sliceAt, Sem.run_bind, run_underlying hu, Instr.slice, Instr.sliceBounds, A4A hl, A4A hh]
theorem A8w {x z : Operand} {t : TypeId} {i : K4} [hI : H3 P t i] (hd' : i.desc = .string) {s : ByteArray} {h : Nat}
  (hx : evo env x = some (.string s)) (hz : evo env z = some (.int .i64 (h : Int))) (hh : h ≤ s.size) :
  H8 P Γ ⟨env, hp, G⟩ (.slice t x none (some z) none) ty (.string (s.extract 0 h)) := by
 refine ⟨fun a _ hs _ _ _ _ w => ?_⟩
 have hu := hI.und
 rw [hd'] at hu
 simp [execOp, (hs.evo hx : a.eval x = _), (hs.evo hz : a.eval z = _), Instr.sliceAt, Sem.run_bind, run_underlying hu, Instr.slice, Instr.sliceBounds, A4A hh]
theorem A8x {x y : Operand} {t : TypeId} {i : K4} [hI : H3 P t i] (hd' : i.desc = .string) {s : ByteArray} {l : Nat}
  (hx : evo env x = some (.string s)) (hy : evo env y = some (.int .i64 (l : Int))) (hl : l ≤ s.size) :
  H8 P Γ ⟨env, hp, G⟩ (.slice t x (some y) none none) ty (.string (s.extract l s.size)) := by
 refine ⟨fun a _ hs _ _ _ _ w => ?_⟩
 have hu := hI.und
 rw [hd'] at hu
 simp [execOp, (hs.evo hx : a.eval x = _), (hs.evo hy : a.eval y = _), Instr.sliceAt, Sem.run_bind, run_underlying hu, Instr.slice, Instr.sliceBounds, A4A hl]
theorem B2U {x y : Operand} {t t' : TypeId} {r s : ByteArray} (hx : evo env x = some (.string r)) (hy : evo env y = some (.string s)) :
  H8 P Γ ⟨env, hp, G⟩ (.binOp .lss t x y t') ty (.bool (decide (Op.bytesLess r.toList s.toList = true))) := by
 refine ⟨fun a _ hs _ _ _ _ w => ?_⟩
 simp only [execOp, eqGuard, binOp, Op.stringOp, (hs.evo hx : a.eval x = _), (hs.evo hy : a.eval y = _)]
 simp
end slaws
theorem A8y {Q : Prop} (h : Q := by (exact ⟨rfl, rfl, _, rfl, by simp only [ByteArray.size_extract, ByteArray.size_append]; omega⟩)) : Q := h
theorem B2V (s nm : ByteArray) (G : IM) (hs : s.size ≤ 1000) (hn : nm.size ≤ 1000) :
  Fn Tryz.prog 208 [.string s, .string nm] [] G (fun G' v outs => G' = G ∧ outs = [] ∧ ∃ r, v = .string r ∧ r.size ≤ s.size + nm.size) := by
 refine C3 Tryz.func208 rfl Tryz.ntmps208 Tryz.results208 rfl ?_
 intro w0
 refine J4 ?_
 refine C1 ?_
 (refine J8 (fun (i : Nat) => ⟨[(5, .int .i64 (i : Int)), (0, .string s), (1, .string nm)], [], G⟩) (fun i => i ≤ s.size) (fun i => s.size - i) 0 ?_ ?_ ?_)
 exact E2
 exact Nat.zero_le _
 (intro i hi)
 refine A9 ?_
 refine sQ (A10 rfl rfl) rfl (sB (J1 rfl rfl) rfl rfl (fun h23 => ?_) (fun h23 => ?_))
 refine B1 ?_
 refine sP (A1u (n := 1) rfl rfl (by omega)) rfl rfl ?_
 refine sP (A5U (h := i + 1) rfl rfl rfl rfl (by omega) (by omega)) rfl rfl ?_
 refine E6 ?_
 refine sB (B2U rfl rfl) rfl rfl (fun h31 => ?_) (fun h31 => ?_)
 refine A8 ?_
 refine C1 ?_
 refine A3 ?_
 refine sP (A1u (n := 1) rfl rfl (by omega)) rfl rfl ?_
 refine B6 ?_
 refine J6 (i + 1) ?_ ?_ ?_
 exact E2
 (show _ ≤ s.size; omega)
 (show s.size - _ < s.size - _; omega)
 refine J3 ?_
 refine sQ (A10 rfl rfl) rfl ?_
 refine sP (B1v rfl rfl (by omega)) rfl rfl ?_
 refine B1 ?_
 refine sP (A1u (n := 1) rfl rfl (by omega)) rfl rfl ?_
 refine sP (A5U (h := i + 1) rfl rfl rfl rfl (by omega) (by omega)) rfl rfl ?_
 refine E6 ?_
 refine sB (A04 rfl rfl) rfl rfl (fun h72 => ?_) (fun h72 => ?_)
 refine N0 ?_
 refine H2 (outs := []) (rT rfl) A0.nil ?_
 (exact ⟨rfl, rfl, _, rfl, Nat.le_add_right _ _⟩)
 refine B2 ?_
 refine D7 D8 rfl ?_
 refine I9 (i := 0) (l' := [tt,ff,ff,ff,ff,ff,ff,ff,ff,ff]) rfl D1 (qM rfl) rfl (by kernel_rfl) rfl rfl ?_
 refine aP 1 rfl (qM rfl) rfl ?_
 refine aP 2 rfl (A8w rfl rfl rfl (by omega)) rfl ?_
 refine aP 3 rfl (qM rfl) rfl ?_
 refine aP 4 rfl (A2y rfl rfl (by simp only [ByteArray.size_extract, ByteArray.size_append]; omega)) rfl ?_
 refine aP 5 rfl (qM rfl) rfl ?_
 refine aP 6 rfl (qM rfl) rfl ?_
 refine aP 7 rfl (A8x rfl rfl rfl (by omega)) rfl ?_
 refine aP 8 rfl (A2y rfl rfl (by simp only [ByteArray.size_extract, ByteArray.size_append]; omega)) rfl ?_
 refine aP 9 rfl (qA rfl) rfl ?_
 refine B6 ?_
 refine H2 (outs := []) (rT rfl) A0.nil ?_
 exact A8y
 refine A7o ?_
 refine sQ (A10 rfl rfl) rfl ?_
 refine sP (A2C rfl rfl (by omega)) rfl rfl ?_
 refine I0 ?_
 refine D7 D8 rfl ?_
 refine I9 (i := 0) (l' := [tt,ff,ff,ff,ff,ff,ff,ff,ff,ff]) rfl D1 (qM rfl) rfl (by kernel_rfl) rfl rfl ?_
 refine aP 1 rfl (qM rfl) rfl ?_
 refine aP 2 rfl (A8w rfl rfl rfl (by omega)) rfl ?_
 refine aP 3 rfl (qM rfl) rfl ?_
 refine aP 4 rfl (A2y rfl rfl (by simp only [ByteArray.size_extract, ByteArray.size_append]; omega)) rfl ?_
 refine aP 5 rfl (qM rfl) rfl ?_
 refine aP 6 rfl (qM rfl) rfl ?_
 refine aP 7 rfl (A8x rfl rfl rfl (by omega)) rfl ?_
 refine aP 8 rfl (A2y rfl rfl (by simp only [ByteArray.size_extract, ByteArray.size_append]; omega)) rfl ?_
 refine aP 9 rfl (qA rfl) rfl ?_
 refine B6 ?_
 refine H2 (outs := []) (rT rfl) A0.nil ?_
 exact A8y
theorem A1B (G : IM) : B9 G B7 [.int .i64 0, .slice none 0 0] := by
 simp only [B7, B9]
 exact ⟨none, 0, [], rfl, ⟨by omega, by omega⟩, D5.of (Sl.nil _ _) rfl (by simp) (by simp), by simp [D2]⟩
theorem A5V : K0 B7 = 0 := rfl
theorem D0.tm {G : IM} {k : Int} {nm : ByteArray} {num : Int} {t : Ty} {q : Option Addr} {d : Nat} {ts : List Tm} {es : List (List Value)} {p : Option Addr} {n c : Nat} (h : D0 G ts es) (hn : ts.length = n) (hs : Sl G p n c 9 es.flatten) (hk : E8 k) (hm : E8 num)
  (ht : B9 G t [.int .i64 t.k, .slice q t.ks.length d]) : B0 G (.mk k nm num t B7 0 ts) [.int .i64 k, .string nm, .int .i64 num, .int .i64 t.k, .slice q t.ks.length d, .int .i64 0, .slice none 0 0, .int .i64 0, .slice p n c] := by
 subst hn
 simp only [B0]
 exact ⟨_, _, p, c, es, rfl, hk, hm, ⟨by omega, by omega⟩, ht, A1B G, D5.of hs h.len h.all (fun e he => (h.each e he).2), h⟩
theorem A1C {G : IM} {k : Int} {nm : ByteArray} {num : Int} (hk : E8 k) (hm : E8 num) :
  B0 G (.mk k nm num B7 B7 0 []) [.int .i64 k, .string nm, .int .i64 num, .int .i64 0, .slice none 0 0, .int .i64 0, .slice none 0 0, .int .i64 0, .slice none 0 0] :=
 D0.tm (ts := []) (es := []) (t := B7) (by simp [D0]) rfl (Sl.nil _ _) hk hm (A1B G)
theorem A1M (k : Int) (nm : ByteArray) (num : Int) : Z7 (.mk k nm num B7 B7 0 []) = nm.size := by
 rw [Z7, A5V, V8]; simp
theorem A5W : ∀ (ts : List Tm) (t : Tm), V8 (ts ++ [t]) = V8 ts + Z7 t
 | [], t => by simp [V8]
 | a :: ts, t => by simp only [List.cons_append, V8, A5W ts t]; omega
theorem A1a (k : Int) : D9 k ≤ 3 := by
 unfold D9; repeat (split; omega)
 omega
theorem A5X {d : Nat} (h : d ≤ 2) : dB (d + 1) ≤ 14 := by
 have : d = 0 ∨ d = 1 ∨ d = 2 := by omega
 rcases this with rfl | rfl | rfl <;> decide
theorem A2e (n : Int) (G : IM) : Fn Tryz.prog 159 [.int .i64 n] [] G (I3 (.agg ⟨[.int .i64 2, .string ⟨⟨[]⟩⟩, .int .i64 n, .int .i64 0, .slice none 0 0, .int .i64 0, .slice none 0 0, .int .i64 0, .slice none 0 0]⟩) G) := by
 refine C3 Tryz.func159 rfl Tryz.ntmps159 Tryz.results159 rfl ?_
 intro w0
 refine A3 ?_
 refine sE (A6 rfl) rfl (fun b3 => ?_)
 refine J2 ?_
 refine M7 (rC rfl (A4 rfl rfl)) ?_
 exact ⟨rfl, rfl, rfl⟩
theorem A8z (br : Nat) (pb : Option Addr) (nb cb : Nat) (bs : List UInt8) (hnb : nb ≤ 2000) (p : Nat) (G : IM) (hb : Sl G pb nb cb 1 (N6 bs)) (hp : p + 3 < 1099511627776) (s : ByteArray) (hs : s.size ≤ 1000) :
  Fn Tryz.prog 207 [.pointer (some ⟨br, 0, none⟩), .string s] [rd br pb nb cb p] G
   (Z8 br pb nb cb p 3 (fun G' v => ∃ t cells, v = .agg ⟨cells⟩ ∧ B0 G' t cells ∧ Z7 t ≤ 1)) := by
 refine C3 Tryz.func207 rfl Tryz.ntmps207 Tryz.results207 rfl ?_
 intro w0
 refine A3 ?_
 refine sE (A6 rfl) rfl (fun b3 => ?_)
 refine A8 ?_
 refine sQ (A10 rfl rfl) rfl ?_
 refine sB (X5 rfl rfl) rfl rfl (fun h11 => ?_) (fun h11 => ?_)
 refine A3 ?_
 (refine I8 rfl (W7 _ br pb nb cb p bs _ hb hnb (by omega)) (Pk.perm (by repeat (first | exact Pk.here | apply Pk.there))) rfl rfl (fun v14 G14 outs14 hle14 hh => ?_); obtain ⟨rfl, rfl, j14, rfl, hj14, hk14⟩ := hh; obtain ⟨i14, rfl⟩ := Int.eq_ofNat_of_zero_le hj14)
 replace hb := hb.mono hle14
 refine sB (X5 rfl rfl) rfl rfl (fun h15 => ?_) (fun h15 => ?_)
 refine D4 ?_
 refine sQ (A10 rfl rfl) rfl ?_
 (refine I8 rfl (W7 _ br pb nb cb (p + 1) bs _ hb hnb (by omega)) (Pk.perm (by repeat (first | exact Pk.here | apply Pk.there))) rfl rfl (fun v25 G25 outs25 hle25 hh => ?_); obtain ⟨rfl, rfl, j25, rfl, hj25, hk25⟩ := hh; obtain ⟨i25, rfl⟩ := Int.eq_ofNat_of_zero_le hj25)
 replace hb := hb.mono hle25
 refine D4 ?_
 refine sP (A1u (n := 1) rfl rfl (by omega)) rfl rfl ?_
 refine sP (A5U rfl rfl rfl rfl (by omega) (by omega)) rfl rfl ?_
 refine A8 ?_
 refine H2 (outs := [rd br pb nb cb (p + 1 + 1)]) (rC rfl (A4 rfl rfl)) (by repeat (first | exact A0.nil | refine A0.cons Pk.here ?_ | refine A0.cons (Pk.there Pk.here) ?_ | refine A0.cons (Pk.there (Pk.there Pk.here)) ?_ | apply A0.drop)) ?_
 focus (refine ⟨_, ?_, ?_, rfl, _, _, rfl, A1C ⟨by omega, by omega⟩ ⟨by omega, by omega⟩, ?_⟩; all_goals (try rw [A1M]); all_goals (first | omega | (simp only [ByteArray.size_extract]; omega) | decide))
 refine J2 ?_
 (refine I8 rfl (W7 _ br pb nb cb (p + 1) bs _ hb hnb (by omega)) (Pk.perm (by repeat (first | exact Pk.here | apply Pk.there))) rfl rfl (fun v54 G54 outs54 hle54 hh => ?_); obtain ⟨rfl, rfl, j54, rfl, hj54, hk54⟩ := hh; obtain ⟨i54, rfl⟩ := Int.eq_ofNat_of_zero_le hj54)
 replace hb := hb.mono hle54
 refine A3 ?_
 refine C1 (tS (tR (sB (qE rfl rfl) rfl rfl (fun h60 => ?_) (fun h60 => ?_))))
 refine K5 ?_
 refine H2 (outs := [rd br pb nb cb (p + 1 + 1)]) (rC rfl (A4 rfl rfl)) (by repeat (first | exact A0.nil | refine A0.cons Pk.here ?_ | refine A0.cons (Pk.there Pk.here) ?_ | refine A0.cons (Pk.there (Pk.there Pk.here)) ?_ | apply A0.drop)) ?_
 focus (refine ⟨_, ?_, ?_, rfl, _, _, rfl, A1C ⟨by omega, by omega⟩ ⟨by omega, by omega⟩, ?_⟩; all_goals (try rw [A1M]); all_goals (first | omega | (simp only [ByteArray.size_extract]; omega) | decide))
 refine A8 ?_
 refine sB (qE rfl rfl) rfl rfl (fun h82 => ?_) (fun h82 => ?_)
 refine K5 ?_
 refine H2 (outs := [rd br pb nb cb (p + 1 + 1)]) (rC rfl (A4 rfl rfl)) (by repeat (first | exact A0.nil | refine A0.cons Pk.here ?_ | refine A0.cons (Pk.there Pk.here) ?_ | refine A0.cons (Pk.there (Pk.there Pk.here)) ?_ | apply A0.drop)) ?_
 focus (refine ⟨_, ?_, ?_, rfl, _, _, rfl, A1C ⟨by omega, by omega⟩ ⟨by omega, by omega⟩, ?_⟩; all_goals (try rw [A1M]); all_goals (first | omega | (simp only [ByteArray.size_extract]; omega) | decide))
 refine J2 ?_
 (refine I7 (C7 rfl rfl rfl (by omega) (by unfold maxLen; omega) rfl) rfl ?_; rintro _ ⟨b108, rfl⟩)
 (refine S9 (by repeat (first | exact Pk.here | apply Pk.there)) (fun Gf hlef hslf _ => ?_); refine I8 rfl (Y8 Gf br pb nb cb (p + 1 + 1) bs _ _ _ _ (hb.mono hlef) hnb (by omega) hslf (by decide)) (Pk.perm (by repeat (first | exact Pk.here | apply Pk.there))) rfl rfl (fun v Gn outs hlen hh => ?_); obtain ⟨rfl, rfl, hv⟩ := hh; obtain ⟨kn, rfl, hkn⟩ : ∃ k, v = .int .i64 k ∧ E8 k := (by simp only [List.mem_cons, List.not_mem_nil, or_false] at hv; rcases hv with rfl | rfl | rfl | rfl | rfl | rfl <;> exact ⟨_, rfl, by unfold E8; omega⟩))
 refine H6 rfl ((A2e _ _)) rfl rfl ?_
 refine B1 ?_
 refine H2 (outs := [rd br pb nb cb (p + 1 + 1 + 1)]) (rC rfl (A4 rfl rfl)) (by repeat (first | exact A0.nil | refine A0.cons Pk.here ?_ | refine A0.cons (Pk.there Pk.here) ?_ | refine A0.cons (Pk.there (Pk.there Pk.here)) ?_ | apply A0.drop)) ?_
 focus (refine ⟨_, ?_, ?_, rfl, _, _, rfl, A1C ⟨by omega, by omega⟩ hkn, ?_⟩; all_goals (try rw [A1M]); all_goals (first | omega | decide))
 refine J3 ?_
 (refine I8 rfl (W7 _ br pb nb cb p bs _ hb hnb (by omega)) (Pk.perm (by repeat (first | exact Pk.here | apply Pk.there))) rfl rfl (fun v131 G131 outs131 hle131 hh => ?_); obtain ⟨rfl, rfl, j131, rfl, hj131, hk131⟩ := hh; obtain ⟨i131, rfl⟩ := Int.eq_ofNat_of_zero_le hj131)
 replace hb := hb.mono hle131
 refine A3 ?_
 refine C1 (tS (tR (sB (qE rfl rfl) rfl rfl (fun h137 => ?_) (fun h137 => ?_))))
 refine K5 ?_
 refine H2 (outs := [rd br pb nb cb (p + 1)]) (rC rfl (A4 rfl rfl)) (by repeat (first | exact A0.nil | refine A0.cons Pk.here ?_ | refine A0.cons (Pk.there Pk.here) ?_ | refine A0.cons (Pk.there (Pk.there Pk.here)) ?_ | apply A0.drop)) ?_
 focus (refine ⟨_, ?_, ?_, rfl, _, _, rfl, A1C ⟨by omega, by omega⟩ ⟨by omega, by omega⟩, ?_⟩; all_goals (try rw [A1M]); all_goals (first | omega | (simp only [ByteArray.size_extract]; omega) | decide))
 refine A8 ?_
 refine sB (qE rfl rfl) rfl rfl (fun h159 => ?_) (fun h159 => ?_)
 refine K5 ?_
 refine H2 (outs := [rd br pb nb cb (p + 1)]) (rC rfl (A4 rfl rfl)) (by repeat (first | exact A0.nil | refine A0.cons Pk.here ?_ | refine A0.cons (Pk.there Pk.here) ?_ | refine A0.cons (Pk.there (Pk.there Pk.here)) ?_ | apply A0.drop)) ?_
 focus (refine ⟨_, ?_, ?_, rfl, _, _, rfl, A1C ⟨by omega, by omega⟩ ⟨by omega, by omega⟩, ?_⟩; all_goals (try rw [A1M]); all_goals (first | omega | (simp only [ByteArray.size_extract]; omega) | decide))
 refine J2 ?_
 (refine I7 (C7 rfl rfl rfl (by omega) (by unfold maxLen; omega) rfl) rfl ?_; rintro _ ⟨b185, rfl⟩)
 (refine S9 (by repeat (first | exact Pk.here | apply Pk.there)) (fun Gf hlef hslf _ => ?_); refine I8 rfl (Y8 Gf br pb nb cb (p + 1) bs _ _ _ _ (hb.mono hlef) hnb (by omega) hslf (by decide)) (Pk.perm (by repeat (first | exact Pk.here | apply Pk.there))) rfl rfl (fun v Gn outs hlen hh => ?_); obtain ⟨rfl, rfl, hv⟩ := hh; obtain ⟨kn, rfl, hkn⟩ : ∃ k, v = .int .i64 k ∧ E8 k := (by simp only [List.mem_cons, List.not_mem_nil, or_false] at hv; rcases hv with rfl | rfl | rfl | rfl | rfl | rfl <;> exact ⟨_, rfl, by unfold E8; omega⟩))
 refine H6 rfl ((A2e _ _)) rfl rfl ?_
 refine B1 ?_
 refine H2 (outs := [rd br pb nb cb (p + 1 + 1)]) (rC rfl (A4 rfl rfl)) (by repeat (first | exact A0.nil | refine A0.cons Pk.here ?_ | refine A0.cons (Pk.there Pk.here) ?_ | refine A0.cons (Pk.there (Pk.there Pk.here)) ?_ | apply A0.drop)) ?_
 focus (refine ⟨_, ?_, ?_, rfl, _, _, rfl, A1C ⟨by omega, by omega⟩ hkn, ?_⟩; all_goals (try rw [A1M]); all_goals (first | omega | decide))
def tB : Nat → Nat
 | 0 => 3
 | d + 1 => 3 * tB d + 20
theorem A8A (d : Nat) : 3 ≤ tB d := by cases d <;> simp only [tB] <;> omega
theorem A8B {Q : Prop} (h : Q := by (dsimp only; exact ⟨hlef3.trans hle3, hr3, by omega, by omega, by omega⟩)) : Q := h
theorem A8C {Q : Prop} (h : Q := by (dsimp only; exact ⟨C0.refl _, A1B _, by decide, by omega, by omega⟩)) : Q := h
theorem B2W (br : Nat) (pb : Option Addr) (nb cb : Nat) (bs : List UInt8) (hnb : nb ≤ 2000) : ∀ (d p : Nat) (G : IM) (s : ByteArray), d ≤ 900 → s.size + d ≤ 950 → Sl G pb nb cb 1 (N6 bs) → p + tB d < 1099511627776 →
  Fn Tryz.prog 169 [.pointer (some ⟨br, 0, none⟩), .string s, .int .i64 ((d + 1 : Nat) : Int)] [rd br pb nb cb p] G
   (Z8 br pb nb cb p (tB d) (fun G' v => ∃ t cells, v = .agg ⟨cells⟩ ∧ B0 G' t cells ∧ Z7 t ≤ ((tB d : Nat) : Int))) := by
 refine fun d => Nat.strongRecOn d fun d ih p G s hd hs hb hp => ?_
 have hge := A8A d
 refine C3 Tryz.func169 rfl Tryz.ntmps169 Tryz.results169 rfl ?_
 intro w0
 refine A3 ?_
 refine sE (A6 rfl) rfl (fun b3 => ?_)
 refine A8 ?_
 refine sB (J1 rfl rfl) rfl rfl (fun h10 => ?_) (fun h10 => ?_)
 ·refine N0 ?_
  (refine I8 rfl (A8z br pb nb cb bs hnb p _ hb (by omega) s (by omega)) (Pk.perm (by repeat (first | exact Pk.here | apply Pk.there))) rfl rfl (fun v Ga outs hlea hh => ?_); obtain ⟨pa, hpa1, hpa2, rfl, ta, cellsa, rfl, hra, hsa⟩ := hh; have hl9 := hra.len; have ho9 := hra.one)
  refine sS rfl rfl rfl hl9 ho9 rfl ?_ (hu := by exact D6 hl9.symm)
  refine B1 ?_
  refine H2 (outs := [rd br pb nb cb pa]) (rC rfl (A2 rfl rfl (B3 (by repeat first | exact mH | apply mT)) hl9)) (by repeat (first | exact A0.nil | refine A0.cons Pk.here ?_ | refine A0.cons (Pk.there Pk.here) ?_ | refine A0.cons (Pk.there (Pk.there Pk.here)) ?_ | apply A0.drop)) ?_
  (exact ⟨pa, by omega, by omega, rfl, ta, cellsa, rfl, hra, by omega⟩)
 ·refine A3 ?_
  (have hB4 : 4 ≤ tB d := (by obtain ⟨d1, rfl⟩ : ∃ d1, d = d1 + 1 := ⟨d - 1, by omega⟩; simp only [tB]; have := A8A d1; omega); refine I8 rfl (W7 _ br pb nb cb p bs _ hb hnb (by omega)) (Pk.perm (by repeat (first | exact Pk.here | apply Pk.there))) rfl rfl (fun v33 G33 outs33 hle33 hh => ?_); obtain ⟨rfl, rfl, j33, rfl, hj33, hk33⟩ := hh)
  replace hb := hb.mono hle33
  refine sB (qE rfl rfl) rfl rfl (fun h34 => ?_) (fun h34 => ?_)
  ·refine D4 ?_
   (refine I8 rfl (A8z br pb nb cb bs hnb (p + 1) _ hb (by omega) s (by omega)) (Pk.perm (by repeat (first | exact Pk.here | apply Pk.there))) rfl rfl (fun v Ga outs hlea hh => ?_); obtain ⟨pa, hpa1, hpa2, rfl, ta, cellsa, rfl, hra, hsa⟩ := hh; have hl9 := hra.len; have ho9 := hra.one)
   refine sS rfl rfl rfl hl9 ho9 rfl ?_ (hu := by exact D6 hl9.symm)
   refine B1 ?_
   refine H2 (outs := [rd br pb nb cb pa]) (rC rfl (A2 rfl rfl (B3 (by repeat first | exact mH | apply mT)) hl9)) (by repeat (first | exact A0.nil | refine A0.cons Pk.here ?_ | refine A0.cons (Pk.there Pk.here) ?_ | refine A0.cons (Pk.there (Pk.there Pk.here)) ?_ | apply A0.drop)) ?_
   (exact ⟨pa, by omega, by omega, rfl, ta, cellsa, rfl, hra, by omega⟩)
  ·refine E0 ?_
   (refine I7 (C7 rfl rfl rfl (by omega) (by unfold maxLen; omega) rfl) rfl ?_; rintro _ ⟨b60, rfl⟩)
   (refine S9 (by repeat (first | exact Pk.here | apply Pk.there)) (fun Gf hlef hslf _ => ?_); refine I8 rfl (Y8 Gf br pb nb cb (p + 1) bs _ _ _ _ (hb.mono hlef) hnb (by omega) hslf (by decide)) (Pk.perm (by repeat (first | exact Pk.here | apply Pk.there))) rfl rfl (fun v Gk outs hlek hh => ?_); obtain ⟨rfl, rfl, hv⟩ := hh; replace hb := hb.mono hlef; obtain ⟨k, rfl, hk1, hk2⟩ : ∃ k, v = .int .i64 k ∧ 5 ≤ k ∧ k ≤ 13 := (by simp only [List.mem_cons, List.not_mem_nil, or_false] at hv; rcases hv with rfl | rfl | rfl | rfl | rfl | rfl | rfl | rfl | rfl | rfl | rfl <;> exact ⟨_, rfl, by decide, by decide⟩); obtain ⟨d1, rfl⟩ : ∃ d1, d = d1 + 1 := ⟨d - 1, by omega⟩; have hB : tB (d1 + 1) = 3 * tB d1 + 20 := rfl)
   refine B2 ?_
   refine sE (A6 rfl) rfl (fun b69 => ?_)
   refine B2 ?_
   refine sB (qE rfl rfl) rfl rfl (fun h77 => ?_) (fun h77 => ?_)
   ·refine A3 ?_
    (show I4 _ _ (.cond (.tmp 26) _ _) _ _; refine Y7 (fun (x : ByteArray × ByteArray × Nat × IM) => ⟨[(7, .int .i64 k), (8, .pointer (some ⟨b69, 0, none⟩)), (6, .pointer (some ⟨b3, 0, none⟩)), (0, .pointer (some ⟨br, 0, none⟩)), (1, .string x.2.1), (2, .int .i64 ((d1 + 1 + 1 : Nat) : Int))], [.blk b69 [.int .i64 k, .string x.1, .int .i64 0, .int .i64 0, .slice none 0 0, .int .i64 0, .slice none 0 0, .int .i64 0, .slice none 0 0], .blk b3 [.int .i64 0, .string ⟨⟨[]⟩⟩, .int .i64 0, .int .i64 0, .slice none 0 0, .int .i64 0, .slice none 0 0, .int .i64 0, .slice none 0 0], rd br pb nb cb x.2.2.1], x.2.2.2⟩) (fun x => C0 Gk x.2.2.2 ∧ x.1.size ≤ 1 ∧ x.2.1.size ≤ s.size + 1 ∧ p + 2 ≤ x.2.2.1 ∧ x.2.2.1 ≤ p + 3) ?_ ?_)
    ·refine B1 ?_
     (refine I7 (C7 rfl rfl rfl (by omega) (by unfold maxLen; omega) rfl) rfl ?_; rintro _ ⟨b85, rfl⟩)
     (refine S9 (by repeat (first | exact Pk.here | apply Pk.there)) (fun Gf2 hlef2 hslf2 _ => ?_); refine I8 rfl (A5R Gf2 br pb nb cb (p + 1 + 1) bs _ _ _ _ (hb.mono hlef2) hnb (by omega) hslf2 (by decide)) (Pk.perm (by repeat (first | exact Pk.here | apply Pk.there))) rfl rfl (fun v Go outs hleo hh => ?_); obtain ⟨rfl, rfl, hv2⟩ := hh; obtain ⟨nmA, rfl, hnA⟩ : ∃ nm, v = .string nm ∧ nm.size ≤ 1 := (by simp only [List.mem_cons, List.not_mem_nil, or_false] at hv2; rcases hv2 with rfl | rfl | rfl | rfl <;> exact ⟨_, rfl, by decide⟩))
     refine D4 ?_
     (refine A05 rfl (B2V s nmA _ (by omega) (by omega)) rfl rfl (fun v Ga outs hlea hh => ?_); obtain ⟨rfl, rfl, sA, rfl, hsA⟩ := hh)
     refine A3 ?_
     refine P0 (nmA, sA, p + 1 + 1 + 1, Ga) (L3 (by repeat (first | exact E1.nil | refine E1.cons rfl ?_)) (by repeat (first | exact A0.refl | exact A0.nil | refine A0.cons (by repeat (first | exact Pk.here | apply Pk.there)) ?_ | apply A0.drop))) ?_
     (dsimp only; exact ⟨hlef2, hnA, by omega, by omega, by omega⟩)
    ·(rintro ⟨(nm : ByteArray), s', p1, G1⟩ ⟨hleA, hnm, hss, hpA, hpB⟩; simp only [] at hleA hnm hss hpA hpB ⊢; replace hb := hb.mono hleA; have hmark := hleA)
     refine A3 ?_
     (have hm' := hmark; refine Y7 (fun (x : Bool) => ⟨(40, .bool x) :: [(7, .int .i64 k), (8, .pointer (some ⟨b69, 0, none⟩)), (6, .pointer (some ⟨b3, 0, none⟩)), (0, .pointer (some ⟨br, 0, none⟩)), (1, .string s'), (2, .int .i64 ((d1 + 1 + 1 : Nat) : Int))], [.blk b69 [.int .i64 k, .string nm, .int .i64 0, .int .i64 0, .slice none 0 0, .int .i64 0, .slice none 0 0, .int .i64 0, .slice none 0 0], .blk b3 [.int .i64 0, .string ⟨⟨[]⟩⟩, .int .i64 0, .int .i64 0, .slice none 0 0, .int .i64 0, .slice none 0 0, .int .i64 0, .slice none 0 0], rd br pb nb cb p1], G1⟩) (fun x => True) ?_ ?_)
     ·refine A3 ?_
      refine sP (T8 rfl rfl (by omega)) rfl rfl ?_
      refine A9 ?_
      refine P0 true (L3 (by repeat (first | exact E1.nil | refine E1.cons rfl ?_)) (by repeat (first | exact A0.refl | exact A0.nil | refine A0.cons (by repeat (first | exact Pk.here | apply Pk.there)) ?_ | apply A0.drop))) ?_
      trivial
     ·(rintro x _; clear hmark)
      (show I4 _ _ (.cond (.tmp 40) _ _) _ _; refine Y7 (fun (x : Ty × Option Addr × Nat × Nat × IM) => ⟨[(7, .int .i64 k), (8, .pointer (some ⟨b69, 0, none⟩)), (6, .pointer (some ⟨b3, 0, none⟩)), (0, .pointer (some ⟨br, 0, none⟩)), (1, .string s'), (2, .int .i64 ((d1 + 1 + 1 : Nat) : Int))], [.blk b69 [.int .i64 k, .string nm, .int .i64 0, .int .i64 x.1.k, .slice x.2.1 x.1.ks.length x.2.2.1, .int .i64 0, .slice none 0 0, .int .i64 0, .slice none 0 0], .blk b3 [.int .i64 0, .string ⟨⟨[]⟩⟩, .int .i64 0, .int .i64 0, .slice none 0 0, .int .i64 0, .slice none 0 0, .int .i64 0, .slice none 0 0], rd br pb nb cb x.2.2.2.1], x.2.2.2.2⟩) (fun x => C0 G1 x.2.2.2.2 ∧ B9 x.2.2.2.2 x.1 [.int .i64 x.1.k, .slice x.2.1 x.1.ks.length x.2.2.1] ∧ K0 x.1 ≤ 14 ∧ p1 ≤ x.2.2.2.1 ∧ x.2.2.2.1 ≤ p1 + 15) (A3d rfl (fun hxt => ?_) (fun hxf => ?_)) ?_)
      ·refine B6 ?_
       (refine I7 (C7 rfl rfl rfl (by omega) (by unfold maxLen; omega) rfl) rfl ?_; rintro _ ⟨b119, rfl⟩)
       (refine S9 (by repeat (first | exact Pk.here | apply Pk.there)) (fun Gf hlef3 hslf _ => ?_); refine I8 rfl (Y8 Gf br pb nb cb p1 bs _ _ _ _ (hb.mono hlef3) hnb (by omega) hslf (by decide)) (Pk.perm (by repeat (first | exact Pk.here | apply Pk.there))) rfl rfl (fun v Gn outs hlen hh => ?_); obtain ⟨rfl, rfl, hv⟩ := hh; replace hb := hb.mono hlef3; obtain ⟨dd, rfl, hdd⟩ : ∃ d : Nat, v = .int .i64 ((d + 1 : Nat) : Int) ∧ d ≤ 2 := (by simp only [List.mem_cons, List.not_mem_nil, or_false] at hv; rcases hv with rfl | rfl | rfl | rfl <;> first | exact ⟨0, rfl, by decide⟩ | exact ⟨1, rfl, by decide⟩ | exact ⟨2, rfl, by decide⟩))
       (have hdB := A5X hdd; refine I8 rfl (A8v br pb nb cb bs hnb dd (p1 + 1) _ (by omega) hb (by omega)) (Pk.perm (by repeat (first | exact Pk.here | apply Pk.there))) rfl rfl (fun v G3 outs hle3 hh => ?_); obtain ⟨p3, hp31, hp32, rfl, t3, cells3, rfl, hr3, hs3⟩ := hh; obtain ⟨q3, c3, es3, rfl, _⟩ := hr3.open)
       refine B6 ?_
       refine P0 (t3, q3, c3, p3, G3) (L3 (by repeat (first | exact E1.nil | refine E1.cons rfl ?_)) (by repeat (first | exact A0.refl | exact A0.nil | refine A0.cons (by repeat (first | exact Pk.here | apply Pk.there)) ?_ | apply A0.drop))) ?_
       exact A8B
      ·refine tK ?_
       refine P0 (B7, none, 0, p1, G1) (L3 (by repeat (first | exact E1.nil | refine E1.cons rfl ?_)) (by repeat (first | exact A0.refl | exact A0.nil | refine A0.cons (by repeat (first | exact Pk.here | apply Pk.there)) ?_ | apply A0.drop))) ?_
       exact A8C
      ·(rintro ⟨(t' : Ty), q', c', p2, G2⟩ ⟨hleB, hrB, hsB, hpC, hpD⟩; simp only [] at hleB hrB hsB hpC hpD ⊢; replace hb := hb.mono hleB; have hop := A1a k; have hK := A4r k)
       refine A8 ?_
       refine C1 ?_
       (refine S0 37 9 ?_; refine J8 (fun (x : Nat × Option Addr × Nat × List Tm × List (List Value) × Nat × IM) => ⟨[(9, .int .i64 x.1), (7, .int .i64 k), (8, .pointer (some ⟨b69, 0, none⟩)), (6, .pointer (some ⟨b3, 0, none⟩)), (0, .pointer (some ⟨br, 0, none⟩)), (1, .string s'), (2, .int .i64 ((d1 + 1 + 1 : Nat) : Int))], [.blk b69 [.int .i64 k, .string nm, .int .i64 0, .int .i64 t'.k, .slice q' t'.ks.length c', .int .i64 0, .slice none 0 0, .int .i64 0, .slice x.2.1 x.1 x.2.2.1], .slc x.2.1 x.2.2.1 37 9 x.1 x.2.2.2.2.1.flatten, rd br pb nb cb x.2.2.2.2.2.1, .blk b3 [.int .i64 0, .string ⟨⟨[]⟩⟩, .int .i64 0, .int .i64 0, .slice none 0 0, .int .i64 0, .slice none 0 0, .int .i64 0, .slice none 0 0]], x.2.2.2.2.2.2⟩) (fun x => ((x.1 : Int) ≤ D9 k ∨ x.1 = 0) ∧ C0 G2 x.2.2.2.2.2.2 ∧ x.2.2.2.1.length = x.1 ∧ D0 x.2.2.2.2.2.2 x.2.2.2.1 x.2.2.2.2.1 ∧ V8 x.2.2.2.1 ≤ ((x.1 * tB d1 : Nat) : Int) ∧ p2 ≤ x.2.2.2.2.2.1 ∧ x.2.2.2.2.2.1 ≤ p2 + x.1 * tB d1) (fun x => (D9 k).toNat - x.1) (0, none, 0, [], [], p2, G2) ?_ ?_ ?_)
       ·(simp only [I5]; exact E2)
       ·(exact ⟨.inr rfl, C0.refl _, rfl, by simp [D0], by simp [V8], by dsimp only; omega, by dsimp only; omega⟩)
       ·(rintro ⟨i, pn, cn, ts, es', p', Gi⟩ ⟨hi, hle, hlt, hst, hsum, hq1, hq2⟩; simp only [] at hi hle hlt hst hsum hq1 hq2 ⊢; have hid : i * tB d1 ≤ 3 * tB d1 := Nat.mul_le_mul_right _ (by omega))
        refine A9 ?_
        refine H6 rfl ((hK _)) rfl rfl ?_
        refine sB (J1 rfl rfl) rfl rfl (fun h148 => ?_) (fun h148 => ?_)
        ·refine A8 ?_
         refine C1 ?_
         (have hih := ih d1 (by omega) p' Gi s' (by omega) (by omega) (hb.mono hle) (by have := Nat.mul_le_mul_right (tB d1) (show i + 1 ≤ 3 by omega); rw [Nat.succ_mul] at this; omega); refine D7 D8 rfl ?_)
         refine I9 (i := 0) (l' := [tt,ff,ff,ff,ff,ff,ff,ff,ff,ff,ff]) rfl D1 (B5 rfl) rfl (by kernel_rfl) rfl rfl ?_
         refine aL 1 rfl (C4 rfl rfl) rfl ?_
         refine aP 2 rfl (qM rfl) rfl ?_
         refine aP 3 rfl (qM rfl) rfl ?_
         refine aP 4 rfl (qM rfl) rfl ?_
         refine aP 5 rfl (A4q rfl rfl (by omega)) rfl ?_
         refine A1 6 ?_
         (refine V9 (l' := [tt,tt,tt,tt,tt,tt,tt,ff,ff,ff,ff]) rfl rfl hih (Pk.perm (by repeat (first | exact Pk.here | apply Pk.there))) rfl rfl rfl (by repeat (first | exact A7.nil | apply A7.dep (by decide +kernel) | apply A7.blk (by decide +kernel) (by repeat (first | exact Pk.here | apply Pk.there)) (by repeat first | exact mH | apply mT))) (fun v G3 outs hle3 hh => ?_); obtain ⟨p3, hp31, hp32, rfl, t3, cells3, rfl, hr3, hs3⟩ := hh; obtain ⟨qt, dt, et, qf, df, ef, q3, d3, es3, rfl, _⟩ := hr3.open)
         refine A1 7 ?_
         (refine E3 rfl (C7 rfl rfl rfl (by omega) (by unfold maxLen; omega) rfl) rfl rfl ?_; rintro _ ⟨b166, rfl⟩)
         refine A1 8 ?_
         refine Q6 rfl rfl rfl rfl rfl rfl (fun _ _ => by repeat (first | exact Sw.here | apply Sw.there)) (M6 (by repeat first | exact mH | apply mT)) rfl (by simp [Value.oneCell']) (by unfold maxLen; omega) (by omega) rfl rfl (by repeat (first | exact A7.nil | apply A7.dep (by decide +kernel) | apply A7.blk (by decide +kernel) (by repeat (first | exact Pk.here | apply Pk.there)) (by repeat first | exact mH | apply mT))) (fun pn' cn' => ?_)
         refine aP 9 rfl (B5 rfl) rfl ?_
         refine A1 10 ?_
         refine Q8 rfl rfl rfl rfl rfl rfl rfl rfl (by kernel_rfl) (by repeat first | exact Sw.here | apply Sw.there) (by rfl) ?_
         refine A9 ?_
         refine sP (J0 rfl rfl (by omega) (by omega)) rfl rfl ?_
         refine A3 ?_
         refine J6 (i + 1, pn', cn', ts ++ [t3], es' ++ [[.int .i64 t3.k, .string t3.nm, .int .i64 t3.num, .int .i64 t3.ty.k, .slice qt t3.ty.ks.length dt, .int .i64 t3.fr.k, .slice qf t3.fr.ks.length df, .int .i64 t3.lb, .slice q3 t3.ks.length d3]], p3, G3) ?_ ?_ ?_
         ·(simp only [I5]; exact E2)
         ·(dsimp only; have e1 : (i + 1) * tB d1 = i * tB d1 + tB d1 := Nat.succ_mul _ _; have e2 := A5W ts t3; exact ⟨.inl (by omega), hle.trans hle3, by simp [hlt], D0.snoc (hst.mono hle3) hr3, by omega, by omega, by omega⟩)
         ·(show (D9 k).toNat - (i + 1) < (D9 k).toNat - i; omega)
        ·refine J3 ?_
         (refine F9 (by repeat (first | exact Pk.here | apply Pk.there)) (fun G5 hle5 hsl5 hno5 => ?_))
         refine tT ?_
         refine H2 (outs := [rd br pb nb cb p']) (rC rfl (A4 rfl rfl)) (by repeat (first | exact A0.nil | refine A0.cons Pk.here ?_ | refine A0.cons (Pk.there Pk.here) ?_ | refine A0.cons (Pk.there (Pk.there Pk.here)) ?_ | apply A0.drop)) ?_
         (refine ⟨p', by omega, by omega, rfl, .mk k nm 0 t' B7 0 ts, _, rfl, (hst.mono hle5).tm hlt hsl5 ⟨by omega, by omega⟩ ⟨by omega, by omega⟩ (hrB.mono (hle.trans hle5)), ?_⟩; rw [Z7, A5V]; omega)
   ·refine A3 ?_
    (show I4 _ _ (.cond (.tmp 26) _ _) _ _; refine Y7 (fun (x : ByteArray × ByteArray × Nat × IM) => ⟨[(7, .int .i64 k), (8, .pointer (some ⟨b69, 0, none⟩)), (6, .pointer (some ⟨b3, 0, none⟩)), (0, .pointer (some ⟨br, 0, none⟩)), (1, .string x.2.1), (2, .int .i64 ((d1 + 1 + 1 : Nat) : Int))], [.blk b69 [.int .i64 k, .string x.1, .int .i64 0, .int .i64 0, .slice none 0 0, .int .i64 0, .slice none 0 0, .int .i64 0, .slice none 0 0], .blk b3 [.int .i64 0, .string ⟨⟨[]⟩⟩, .int .i64 0, .int .i64 0, .slice none 0 0, .int .i64 0, .slice none 0 0, .int .i64 0, .slice none 0 0], rd br pb nb cb x.2.2.1], x.2.2.2⟩) (fun x => C0 Gk x.2.2.2 ∧ x.1.size ≤ 1 ∧ x.2.1.size ≤ s.size + 1 ∧ p + 2 ≤ x.2.2.1 ∧ x.2.2.1 ≤ p + 3) ?_ ?_)
    ·refine A3 ?_
     refine P0 (⟨⟨[]⟩⟩, s, p + 1 + 1, Gk) (L3 (by repeat (first | exact E1.nil | refine E1.cons rfl ?_)) (by repeat (first | exact A0.refl | exact A0.nil | refine A0.cons (by repeat (first | exact Pk.here | apply Pk.there)) ?_ | apply A0.drop))) ?_
     (dsimp only; exact ⟨C0.refl _, by decide, by omega, by omega, by omega⟩)
    ·(rintro ⟨(nm : ByteArray), s', p1, G1⟩ ⟨hleA, hnm, hss, hpA, hpB⟩; simp only [] at hleA hnm hss hpA hpB ⊢; replace hb := hb.mono hleA; have hmark := hleA)
     refine A3 ?_
     (have hm' := hmark; refine Y7 (fun (x : Bool) => ⟨(40, .bool x) :: [(7, .int .i64 k), (8, .pointer (some ⟨b69, 0, none⟩)), (6, .pointer (some ⟨b3, 0, none⟩)), (0, .pointer (some ⟨br, 0, none⟩)), (1, .string s'), (2, .int .i64 ((d1 + 1 + 1 : Nat) : Int))], [.blk b69 [.int .i64 k, .string nm, .int .i64 0, .int .i64 0, .slice none 0 0, .int .i64 0, .slice none 0 0, .int .i64 0, .slice none 0 0], .blk b3 [.int .i64 0, .string ⟨⟨[]⟩⟩, .int .i64 0, .int .i64 0, .slice none 0 0, .int .i64 0, .slice none 0 0, .int .i64 0, .slice none 0 0], rd br pb nb cb p1], G1⟩) (fun x => True) ?_ ?_)
     ·refine A3 ?_
      refine sP (H9 rfl rfl (by omega)) rfl rfl ?_
      refine A3 ?_
      refine sB (qE rfl rfl) rfl rfl (fun h218 => ?_) (fun h218 => ?_)
      ·refine A3 ?_
       refine P0 true (L3 (by repeat (first | exact E1.nil | refine E1.cons rfl ?_)) (by repeat (first | exact A0.refl | exact A0.nil | refine A0.cons (by repeat (first | exact Pk.here | apply Pk.there)) ?_ | apply A0.drop))) ?_
       trivial
      ·refine A3 ?_
       refine P0 false (L3 (by repeat (first | exact E1.nil | refine E1.cons rfl ?_)) (by repeat (first | exact A0.refl | exact A0.nil | refine A0.cons (by repeat (first | exact Pk.here | apply Pk.there)) ?_ | apply A0.drop))) ?_
       trivial
     ·(rintro x _; clear hmark)
      (show I4 _ _ (.cond (.tmp 40) _ _) _ _; refine Y7 (fun (x : Ty × Option Addr × Nat × Nat × IM) => ⟨[(7, .int .i64 k), (8, .pointer (some ⟨b69, 0, none⟩)), (6, .pointer (some ⟨b3, 0, none⟩)), (0, .pointer (some ⟨br, 0, none⟩)), (1, .string s'), (2, .int .i64 ((d1 + 1 + 1 : Nat) : Int))], [.blk b69 [.int .i64 k, .string nm, .int .i64 0, .int .i64 x.1.k, .slice x.2.1 x.1.ks.length x.2.2.1, .int .i64 0, .slice none 0 0, .int .i64 0, .slice none 0 0], .blk b3 [.int .i64 0, .string ⟨⟨[]⟩⟩, .int .i64 0, .int .i64 0, .slice none 0 0, .int .i64 0, .slice none 0 0, .int .i64 0, .slice none 0 0], rd br pb nb cb x.2.2.2.1], x.2.2.2.2⟩) (fun x => C0 G1 x.2.2.2.2 ∧ B9 x.2.2.2.2 x.1 [.int .i64 x.1.k, .slice x.2.1 x.1.ks.length x.2.2.1] ∧ K0 x.1 ≤ 14 ∧ p1 ≤ x.2.2.2.1 ∧ x.2.2.2.1 ≤ p1 + 15) (A3d rfl (fun hxt => ?_) (fun hxf => ?_)) ?_)
      ·refine B6 ?_
       (refine I7 (C7 rfl rfl rfl (by omega) (by unfold maxLen; omega) rfl) rfl ?_; rintro _ ⟨b232, rfl⟩)
       (refine S9 (by repeat (first | exact Pk.here | apply Pk.there)) (fun Gf hlef3 hslf _ => ?_); refine I8 rfl (Y8 Gf br pb nb cb p1 bs _ _ _ _ (hb.mono hlef3) hnb (by omega) hslf (by decide)) (Pk.perm (by repeat (first | exact Pk.here | apply Pk.there))) rfl rfl (fun v Gn outs hlen hh => ?_); obtain ⟨rfl, rfl, hv⟩ := hh; replace hb := hb.mono hlef3; obtain ⟨dd, rfl, hdd⟩ : ∃ d : Nat, v = .int .i64 ((d + 1 : Nat) : Int) ∧ d ≤ 2 := (by simp only [List.mem_cons, List.not_mem_nil, or_false] at hv; rcases hv with rfl | rfl | rfl | rfl <;> first | exact ⟨0, rfl, by decide⟩ | exact ⟨1, rfl, by decide⟩ | exact ⟨2, rfl, by decide⟩))
       (have hdB := A5X hdd; refine I8 rfl (A8v br pb nb cb bs hnb dd (p1 + 1) _ (by omega) hb (by omega)) (Pk.perm (by repeat (first | exact Pk.here | apply Pk.there))) rfl rfl (fun v G3 outs hle3 hh => ?_); obtain ⟨p3, hp31, hp32, rfl, t3, cells3, rfl, hr3, hs3⟩ := hh; obtain ⟨q3, c3, es3, rfl, _⟩ := hr3.open)
       refine B6 ?_
       refine P0 (t3, q3, c3, p3, G3) (L3 (by repeat (first | exact E1.nil | refine E1.cons rfl ?_)) (by repeat (first | exact A0.refl | exact A0.nil | refine A0.cons (by repeat (first | exact Pk.here | apply Pk.there)) ?_ | apply A0.drop))) ?_
       exact A8B
      ·refine tK ?_
       refine P0 (B7, none, 0, p1, G1) (L3 (by repeat (first | exact E1.nil | refine E1.cons rfl ?_)) (by repeat (first | exact A0.refl | exact A0.nil | refine A0.cons (by repeat (first | exact Pk.here | apply Pk.there)) ?_ | apply A0.drop))) ?_
       exact A8C
      ·(rintro ⟨(t' : Ty), q', c', p2, G2⟩ ⟨hleB, hrB, hsB, hpC, hpD⟩; simp only [] at hleB hrB hsB hpC hpD ⊢; replace hb := hb.mono hleB; have hop := A1a k; have hK := A4r k)
       refine A8 ?_
       refine C1 ?_
       (refine S0 37 9 ?_; refine J8 (fun (x : Nat × Option Addr × Nat × List Tm × List (List Value) × Nat × IM) => ⟨[(9, .int .i64 x.1), (7, .int .i64 k), (8, .pointer (some ⟨b69, 0, none⟩)), (6, .pointer (some ⟨b3, 0, none⟩)), (0, .pointer (some ⟨br, 0, none⟩)), (1, .string s'), (2, .int .i64 ((d1 + 1 + 1 : Nat) : Int))], [.blk b69 [.int .i64 k, .string nm, .int .i64 0, .int .i64 t'.k, .slice q' t'.ks.length c', .int .i64 0, .slice none 0 0, .int .i64 0, .slice x.2.1 x.1 x.2.2.1], .slc x.2.1 x.2.2.1 37 9 x.1 x.2.2.2.2.1.flatten, rd br pb nb cb x.2.2.2.2.2.1, .blk b3 [.int .i64 0, .string ⟨⟨[]⟩⟩, .int .i64 0, .int .i64 0, .slice none 0 0, .int .i64 0, .slice none 0 0, .int .i64 0, .slice none 0 0]], x.2.2.2.2.2.2⟩) (fun x => ((x.1 : Int) ≤ D9 k ∨ x.1 = 0) ∧ C0 G2 x.2.2.2.2.2.2 ∧ x.2.2.2.1.length = x.1 ∧ D0 x.2.2.2.2.2.2 x.2.2.2.1 x.2.2.2.2.1 ∧ V8 x.2.2.2.1 ≤ ((x.1 * tB d1 : Nat) : Int) ∧ p2 ≤ x.2.2.2.2.2.1 ∧ x.2.2.2.2.2.1 ≤ p2 + x.1 * tB d1) (fun x => (D9 k).toNat - x.1) (0, none, 0, [], [], p2, G2) ?_ ?_ ?_)
       ·(simp only [I5]; exact E2)
       ·(exact ⟨.inr rfl, C0.refl _, rfl, by simp [D0], by simp [V8], by dsimp only; omega, by dsimp only; omega⟩)
       ·(rintro ⟨i, pn, cn, ts, es', p', Gi⟩ ⟨hi, hle, hlt, hst, hsum, hq1, hq2⟩; simp only [] at hi hle hlt hst hsum hq1 hq2 ⊢; have hid : i * tB d1 ≤ 3 * tB d1 := Nat.mul_le_mul_right _ (by omega))
        refine A9 ?_
        refine H6 rfl ((hK _)) rfl rfl ?_
        refine sB (J1 rfl rfl) rfl rfl (fun h261 => ?_) (fun h261 => ?_)
        ·refine A8 ?_
         refine C1 ?_
         (have hih := ih d1 (by omega) p' Gi s' (by omega) (by omega) (hb.mono hle) (by have := Nat.mul_le_mul_right (tB d1) (show i + 1 ≤ 3 by omega); rw [Nat.succ_mul] at this; omega); refine D7 D8 rfl ?_)
         refine I9 (i := 0) (l' := [tt,ff,ff,ff,ff,ff,ff,ff,ff,ff,ff]) rfl D1 (B5 rfl) rfl (by kernel_rfl) rfl rfl ?_
         refine aL 1 rfl (C4 rfl rfl) rfl ?_
         refine aP 2 rfl (qM rfl) rfl ?_
         refine aP 3 rfl (qM rfl) rfl ?_
         refine aP 4 rfl (qM rfl) rfl ?_
         refine aP 5 rfl (A4q rfl rfl (by omega)) rfl ?_
         refine A1 6 ?_
         (refine V9 (l' := [tt,tt,tt,tt,tt,tt,tt,ff,ff,ff,ff]) rfl rfl hih (Pk.perm (by repeat (first | exact Pk.here | apply Pk.there))) rfl rfl rfl (by repeat (first | exact A7.nil | apply A7.dep (by decide +kernel) | apply A7.blk (by decide +kernel) (by repeat (first | exact Pk.here | apply Pk.there)) (by repeat first | exact mH | apply mT))) (fun v G3 outs hle3 hh => ?_); obtain ⟨p3, hp31, hp32, rfl, t3, cells3, rfl, hr3, hs3⟩ := hh; obtain ⟨qt, dt, et, qf, df, ef, q3, d3, es3, rfl, _⟩ := hr3.open)
         refine A1 7 ?_
         (refine E3 rfl (C7 rfl rfl rfl (by omega) (by unfold maxLen; omega) rfl) rfl rfl ?_; rintro _ ⟨b279, rfl⟩)
         refine A1 8 ?_
         refine Q6 rfl rfl rfl rfl rfl rfl (fun _ _ => by repeat (first | exact Sw.here | apply Sw.there)) (M6 (by repeat first | exact mH | apply mT)) rfl (by simp [Value.oneCell']) (by unfold maxLen; omega) (by omega) rfl rfl (by repeat (first | exact A7.nil | apply A7.dep (by decide +kernel) | apply A7.blk (by decide +kernel) (by repeat (first | exact Pk.here | apply Pk.there)) (by repeat first | exact mH | apply mT))) (fun pn' cn' => ?_)
         refine aP 9 rfl (B5 rfl) rfl ?_
         refine A1 10 ?_
         refine Q8 rfl rfl rfl rfl rfl rfl rfl rfl (by kernel_rfl) (by repeat first | exact Sw.here | apply Sw.there) (by rfl) ?_
         refine A9 ?_
         refine sP (J0 rfl rfl (by omega) (by omega)) rfl rfl ?_
         refine A3 ?_
         refine J6 (i + 1, pn', cn', ts ++ [t3], es' ++ [[.int .i64 t3.k, .string t3.nm, .int .i64 t3.num, .int .i64 t3.ty.k, .slice qt t3.ty.ks.length dt, .int .i64 t3.fr.k, .slice qf t3.fr.ks.length df, .int .i64 t3.lb, .slice q3 t3.ks.length d3]], p3, G3) ?_ ?_ ?_
         ·(simp only [I5]; exact E2)
         ·(dsimp only; have e1 : (i + 1) * tB d1 = i * tB d1 + tB d1 := Nat.succ_mul _ _; have e2 := A5W ts t3; exact ⟨.inl (by omega), hle.trans hle3, by simp [hlt], D0.snoc (hst.mono hle3) hr3, by omega, by omega, by omega⟩)
         ·(show (D9 k).toNat - (i + 1) < (D9 k).toNat - i; omega)
        ·refine J3 ?_
         (refine F9 (by repeat (first | exact Pk.here | apply Pk.there)) (fun G5 hle5 hsl5 hno5 => ?_))
         refine tT ?_
         refine H2 (outs := [rd br pb nb cb p']) (rC rfl (A4 rfl rfl)) (by repeat (first | exact A0.nil | refine A0.cons Pk.here ?_ | refine A0.cons (Pk.there Pk.here) ?_ | refine A0.cons (Pk.there (Pk.there Pk.here)) ?_ | apply A0.drop)) ?_
         (refine ⟨p', by omega, by omega, rfl, .mk k nm 0 t' B7 0 ts, _, rfl, (hst.mono hle5).tm hlt hsl5 ⟨by omega, by omega⟩ ⟨by omega, by omega⟩ (hrB.mono (hle.trans hle5)), ?_⟩; rw [Z7, A5V]; omega)
theorem Sl.pre {G : IM} {p : Option Addr} {n c m : Nat} {cs : List Value} (h : Sl G p n c 1 cs) (hm : m ≤ n) : Sl G p m c 1 (cs.take m) := by
 obtain ⟨h1, h2, h3, h4⟩ := h
 refine ⟨by rw [List.length_take]; omega, by omega, h3, ?_⟩
 rcases h4 with h4 | ⟨b, o, full, e1, e2, e3⟩
 ·exact .inl (by omega)
 ·refine .inr ⟨b, o, full, e1, e2, fun j v hj => e3 j v ?_⟩
  rw [List.getElem?_take] at hj
  split at hj
  ·exact hj
  ·cases hj
theorem B2X (bs : List UInt8) (m : Nat) : N6 (bs.take m) = (N6 bs).take m := by unfold N6; rw [List.map_take]
theorem B2Y {d : Nat} (h : d ≤ 4) : tB d ≤ 1043 := by
 have : d = 0 ∨ d = 1 ∨ d = 2 ∨ d = 3 ∨ d = 4 := by omega
 rcases this with rfl | rfl | rfl | rfl | rfl <;> decide
def A3C (G : IM) : IM → Value → List A5 → Prop := fun G' v outs => G' = G ∧ ∃ br pb nb cb bs, v = .pointer (some ⟨br, 0, none⟩) ∧ outs = [rd br pb nb cb 0] ∧ nb ≤ 2000 ∧ Sl G pb nb cb 1 (N6 bs)
theorem A3C.mk {G : IM} {b : Nat} {pb : Option Addr} {nb cb : Nat} {bs : List UInt8} (h : nb ≤ 2000) (hb : Sl G pb nb cb 1 (N6 bs)) : A3C G G (.pointer (some ⟨b, 0, none⟩)) [.blk b [.slice pb nb cb, .int .i64 0]] := ⟨rfl, _, _, _, _, bs, rfl, rfl, h, hb⟩
theorem B2Z (G : IM) (q : Option Addr) (n c : Nat) (bs : List UInt8) (hb : Sl G q n c 1 (N6 bs)) :
  Fn Tryz.prog 69 [.slice q n c] [] G (A3C G) := by
 have hn := hb.le
 have hnc := hb.2.1
 have hpre := fun h : 2000 ≤ n => hb.pre h
 refine C3 Tryz.func69 rfl Tryz.ntmps69 Tryz.results69 rfl ?_
 intro w0
 refine J2 ?_
 refine sB (X5 rfl rfl) rfl rfl (fun h11 => ?_) (fun h11 => ?_)
 refine A9 ?_
 refine sP (A7S (l := 2000) rfl rfl rfl (by omega)) rfl rfl ?_
 refine B2 ?_
 refine sE (C8 rfl rfl) rfl (fun b25 => ?_)
 refine B1 ?_
 refine H2 (rT rfl) A0.refl ?_
 exact A3C.mk (Nat.le_refl _) (by rw [B2X]; exact hpre (by omega))
 refine E0 ?_
 refine sE (C8 rfl rfl) rfl (fun b41 => ?_)
 refine B1 ?_
 refine H2 (rT rfl) A0.refl ?_
 exact A3C.mk (by omega) hb
theorem B20 (br : Nat) (pb : Option Addr) (nb cb : Nat) (bs : List UInt8) (hnb : nb ≤ 2000) (p : Nat) (G : IM) (hb : Sl G pb nb cb 1 (N6 bs)) (hp : p + 1100 < 1099511627776) :
  Fn Tryz.prog 126 [.pointer (some ⟨br, 0, none⟩)] [rd br pb nb cb p] G
   (Z8 br pb nb cb p 1100 (fun G' v => ∃ t cells, v = .agg ⟨cells⟩ ∧ B0 G' t cells ∧ Z7 t ≤ 1043)) := by
 refine C3 Tryz.func126 rfl Tryz.ntmps126 Tryz.results126 rfl ?_
 intro w0
 refine A3 ?_
 refine sE (A6 rfl) rfl (fun b3 => ?_)
 refine A8 ?_
 (refine I7 (C7 rfl rfl rfl (by omega) (by unfold maxLen; omega) rfl) rfl ?_; rintro _ ⟨b10, rfl⟩)
 (refine S9 (by repeat (first | exact Pk.here | apply Pk.there)) (fun Gf hlef hslf _ => ?_); refine I8 rfl (Y8 Gf br pb nb cb p bs _ _ _ _ (hb.mono hlef) hnb (by omega) hslf (by decide)) (Pk.perm (by repeat (first | exact Pk.here | apply Pk.there))) rfl rfl (fun v Gn outs hlen hh => ?_); obtain ⟨rfl, rfl, hv⟩ := hh; replace hb := hb.mono hlef; obtain ⟨dd, rfl, hdd⟩ : ∃ d : Nat, v = .int .i64 ((d + 1 : Nat) : Int) ∧ d ≤ 4 := (by simp only [List.mem_cons, List.not_mem_nil, or_false] at hv; rcases hv with rfl | rfl | rfl | rfl | rfl <;> first | exact ⟨3, rfl, by decide⟩ | exact ⟨2, rfl, by decide⟩ | exact ⟨4, rfl, by decide⟩ | exact ⟨1, rfl, by decide⟩); have htB := B2Y hdd)
 (refine I8 rfl (B2W br pb nb cb bs hnb dd (p + 1) Gn ⟨⟨[]⟩⟩ (by omega) (by have hz : (⟨⟨[]⟩⟩ : ByteArray).size ≤ 2 := (by decide); omega) hb (by omega)) (Pk.perm (by repeat (first | exact Pk.here | apply Pk.there))) rfl rfl (fun v G3 outs hle3 hh => ?_); obtain ⟨p3, hp31, hp32, rfl, t3, cells3, rfl, hr3, hs3⟩ := hh; have hl3 := hr3.len; have ho3 := hr3.one; have hc3 := A5H t3; have hv3 := A4x t3 G3 cells3 (by omega) hr3)
 refine sE (A6 rfl) rfl (fun b13 => ?_)
 refine sS rfl rfl rfl hl3 ho3 rfl ?_ (hu := by exact D6 hl3.symm)
 refine A9 ?_
 refine sL (A2 rfl rfl (B3 (by repeat first | exact mH | apply mT)) hl3) rfl rfl ?_
 refine F8 rfl (hv3) rfl rfl (fun h21 => ?_) (fun h21 => ?_)
 refine A9 ?_
 refine sL (A2 rfl rfl (B3 (by repeat first | exact mH | apply mT)) hl3) rfl rfl ?_
 refine sS rfl rfl rfl hl3 ho3 rfl ?_ (hu := by exact D6 hl3.symm)
 refine B1 ?_
 refine H2 (outs := [rd br pb nb cb p3]) (rC rfl (A2 rfl rfl (B3 (by repeat first | exact mH | apply mT)) hl3)) (by repeat (first | exact A0.nil | refine A0.cons Pk.here ?_ | refine A0.cons (Pk.there Pk.here) ?_ | refine A0.cons (Pk.there (Pk.there Pk.here)) ?_ | apply A0.drop)) ?_
 (exact ⟨p3, by omega, by omega, rfl, t3, cells3, rfl, hr3, by omega⟩)
 refine B2 ?_
 refine H6 rfl ((A2e _ _)) rfl rfl ?_
 refine B1 ?_
 refine H2 (outs := [rd br pb nb cb p3]) (rC rfl (A4 rfl rfl)) (by repeat (first | exact A0.nil | refine A0.cons Pk.here ?_ | refine A0.cons (Pk.there Pk.here) ?_ | refine A0.cons (Pk.there (Pk.there Pk.here)) ?_ | apply A0.drop)) ?_
 (exact ⟨p3, by omega, by omega, rfl, _, _, rfl, A1C ⟨by omega, by omega⟩ ⟨by omega, by omega⟩, by rw [A1M]; decide⟩)
theorem A0k (G : IM) : Fn Tryz.prog 167 [] [] G (I3 (.agg ⟨[.int .i64 2, .slice none 0 0]⟩) G) := by
 refine C3 Tryz.func167 rfl Tryz.ntmps167 Tryz.results167 rfl ?_
 intro w0
 refine A3 ?_
 refine sE (A6 rfl) rfl (fun b3 => ?_)
 refine E0 ?_
 refine M7 (rC rfl (A4 rfl rfl)) ?_
 exact ⟨rfl, rfl, rfl⟩
theorem A2O (G : IM) : Fn Tryz.prog 165 [] [] G (I3 (.agg ⟨[.int .i64 3, .slice none 0 0]⟩) G) := by
 refine C3 Tryz.func165 rfl Tryz.ntmps165 Tryz.results165 rfl ?_
 intro w0
 refine A3 ?_
 refine sE (A6 rfl) rfl (fun b3 => ?_)
 refine E0 ?_
 refine M7 (rC rfl (A4 rfl rfl)) ?_
 exact ⟨rfl, rfl, rfl⟩
theorem A0l (G : IM) (k : Int) (p : Option Addr) (n c : Nat) : Fn Tryz.prog 164 [.int .i64 k, .slice p n c] [] G (I3 (.agg ⟨[.int .i64 k, .string ⟨⟨[]⟩⟩, .int .i64 0, .int .i64 0, .slice none 0 0, .int .i64 0, .slice none 0 0, .int .i64 0, .slice p n c]⟩) G) := by
 refine C3 Tryz.func164 rfl Tryz.ntmps164 Tryz.results164 rfl ?_
 intro w0
 refine A3 ?_
 refine sE (A6 rfl) rfl (fun b3 => ?_)
 refine J4 ?_
 refine M7 (rC rfl (A4 rfl rfl)) ?_
 exact ⟨rfl, rfl, rfl⟩
theorem O0 (G : IM) {k : Int} (hk : E8 k) : B9 G (.mk k []) [.int .i64 k, .slice none 0 0] := by
 simp only [B9]
 exact ⟨none, 0, [], rfl, hk, D5.of (Sl.nil _ _) rfl (by simp) (by simp), by simp [D2]⟩
theorem A8D (k : Int) : K0 (.mk k []) = 0 := rfl
def TyB (B : Int) (G : IM) : IM → Value → List A5 → Prop := L8 fun G' v => ∃ t cells b, v = .tuple ⟨[.agg ⟨cells⟩, .bool b]⟩ ∧ B9 G' t cells ∧ E5 t ∧ K0 t ≤ B
theorem A8E {k : Int} {a b : Ty} (hk : k = 4 ∨ k = 5) (ha : E5 a) (hb : E5 b) : E5 (.mk k [a, b]) := by
 rw [E5]
 exact ⟨fun _ => rfl, fun h4 h5 => by omega, by simp [A0B, ha, hb]⟩
theorem V3 {k : Int} (h4 : k ≠ 4) (h5 : k ≠ 5) : E5 (.mk k []) := (A2G 0 h4 h5).ar
theorem E5.kid {k : Int} {ks : List Ty} (h : E5 (.mk k ks)) : ∀ t ∈ ks, E5 t := by
 rw [E5] at h; exact A1w.1 h.2.2
theorem E5.two {k : Int} {ks : List Ty} (h : E5 (.mk k ks)) : ks.length ≤ 2 := by
 rw [E5] at h
 have h1 := h.1
 have h2 := h.2.1
 omega
theorem A8F : ∀ {ks : List Ty} {t : Ty}, t ∈ ks → K0 t ≤ O1 ks
 | [], t, h => by simp at h
 | t' :: ts, t, h => by
  rw [O1]
  have := A0U t'
  have := A1L ts
  rcases List.mem_cons.1 h with rfl | h
  ·omega
  ·have := A8F h; omega
theorem B21 {k : Int} {ks : List Ty} {t : Ty} (h : t ∈ ks) : K0 t ≤ K0 (.mk k ks) := by
 have := A8F h
 rw [K0]; omega
def B6I (B : Int) (G : IM) : IM → Value → List A5 → Prop := L8 fun G' v => ∃ a ca b cb x, v = .tuple ⟨[.agg ⟨ca⟩, .agg ⟨cb⟩, .bool x]⟩ ∧ B9 G' a ca ∧ E5 a ∧ K0 a ≤ B ∧ B9 G' b cb ∧ E5 b ∧ K0 b ≤ B
def TyP (B : Int) (Q : Ty → Prop) (G : IM) : IM → Value → List A5 → Prop := L8 fun G' v => ∃ t cells, v = .agg ⟨cells⟩ ∧ B9 G' t cells ∧ E5 t ∧ K0 t ≤ B ∧ Q t
theorem A8G {k : Int} {ks us : List Ty} (h : E5 (.mk k ks)) (hl : us.length = ks.length) (hu : ∀ u ∈ us, E5 u) : E5 (.mk k us) := by
 rw [E5] at h ⊢
 exact ⟨fun hk => by rw [hl]; exact h.1 hk, fun a b => by rw [hl]; exact h.2.1 a b, A1w.2 hu⟩
theorem A2P {P : Ty → Prop} {us : List Ty} {u : Ty} (h : ∀ x ∈ us, P x) (hu : P u) : ∀ x ∈ us ++ [u], P x := by
 simp only [List.forall_mem_append, List.forall_mem_singleton]; exact ⟨h, hu⟩
theorem A1D : ∀ (t t' : Ty) (G : IM) (cells cells' : List Value), E5 t → E5 t' → B9 G t cells → B9 G t' cells' →
  Fn Tryz.prog 163 [.agg ⟨cells⟩, .agg ⟨cells'⟩] [] G (I3 (.bool (K1 t t')) G) := by
 refine Ty.ind fun k ks ih t' G cells cells' ha ha' hr hr' => ?_
 obtain ⟨k', ks'⟩ := t'
 obtain ⟨p, c, es, rfl, hk, hsl, hkl⟩ := hr.open
 obtain ⟨p', c', es', rfl, hk', hsl', hkl'⟩ := hr'.open
 simp only [Ty.k, Ty.ks] at hk hsl hkl hk' hsl' hkl' ⊢
 have hn := hsl.le
 have hn' := hsl'.le
 have hv2 := ha.kid
 have hv2' := ha'.kid
 rw [E5] at ha ha'
 have hle : k = k' → ks.length = ks'.length := by
  rintro rfl
  have h1 := ha.1
  have h2 := ha.2.1
  have h3 := ha'.1
  have h4 := ha'.2.1
  omega
 refine C3 Tryz.func163 rfl Tryz.ntmps163 Tryz.results163 rfl ?_
 intro w0
 refine A3 ?_
 refine sE (C8 rfl rfl) rfl (fun b3 => ?_)
 refine sE (C8 rfl rfl) rfl (fun b4 => ?_)
 refine D4 ?_
 refine sB (qE rfl rfl) rfl rfl (fun h13 => ?_) (fun h13 => ?_)
 refine J9 ?_
 exact A4v
 refine B6 ?_
 refine sB (qE rfl rfl) rfl rfl (fun h34 => ?_) (fun h34 => ?_)
 refine N0 ?_
 exact A4v
 refine K5 ?_
 refine sB (N9 rfl rfl) rfl rfl (fun h61 => ?_) (fun h61 => ?_)
 refine J4 ?_
 (rw [A77 (by omega) (by omega) (by omega)]; exact ⟨rfl, rfl, rfl⟩)
 refine J4 ?_
 refine C1 ?_
 (have hll : ks.length = ks'.length := hle (by omega); refine J8 (fun (i : Nat) => ⟨[(5, .int .i64 i), (3, .pointer (some ⟨b4, 0, none⟩)), (2, .pointer (some ⟨b3, 0, none⟩))], [.blk b3 [.int .i64 k, .slice p ks.length c], .blk b4 [.int .i64 k', .slice p' ks'.length c']], G⟩) (fun i => i ≤ ks.length ∧ ∀ j (h : j < ks.length) (h' : j < ks'.length), j < i → K1 ks[j] ks'[j] = true) (fun i => ks.length - i) 0 ?_ ?_ ?_)
 exact E2
 exact ⟨by omega, by omega⟩
 (rintro i ⟨hi, hf⟩)
 refine B2 ?_
 refine sB (J1 rfl rfl) rfl rfl (fun h97 => ?_) (fun h97 => ?_)
 refine A8 ?_
 refine C1 ?_
 refine tS ?_
 (obtain ⟨b, o, p2, c2, rfl, hat, hre, hgb⟩ := hsl.kidTy hkl (i := i) (by omega) (by omega); obtain ⟨b', o', p2', c2', rfl, hat', hre', hgb'⟩ := hsl'.kidTy hkl' (i := i) (by omega) (by omega); refine D7 D8 rfl ?_)
 refine I9 (i := 0) (l' := [tt,ff,ff,ff,ff,ff,ff,ff,ff,ff,ff,ff]) rfl D1 (B5 rfl) rfl (by kernel_rfl) rfl rfl ?_
 refine aL 1 rfl (C4 rfl rfl) rfl ?_
 refine aP 2 rfl (qM rfl) rfl ?_
 refine aP 3 rfl (B4 rfl rfl rfl (by omega)) rfl ?_
 refine aL 4 rfl (A2 rfl rfl (hat _) rfl) rfl ?_
 refine aP 5 rfl (B5 rfl) rfl ?_
 refine aL 6 rfl (C4 rfl rfl) rfl ?_
 refine aP 7 rfl (qM rfl) rfl ?_
 refine aP 8 rfl (B4 rfl rfl rfl (by omega)) rfl ?_
 refine aL 9 rfl (A2 rfl rfl (hat' _) rfl) rfl ?_
 refine A1 10 ?_
 refine S6 rfl rfl (ih ks[i] (List.getElem_mem (by omega)) ks'[i] G _ _ (hv2 _ (List.getElem_mem (by omega))) (hv2' _ (List.getElem_mem (by omega))) hre hre') rfl rfl rfl (fun h118 => ?_) (fun h118 => ?_)
 refine aP 11 rfl (pNt rfl) rfl ?_
 refine D4 ?_
 refine sP (J0 rfl rfl (by omega) (by omega)) rfl rfl ?_
 refine A3 ?_
 refine J6 (i + 1) ?_ ?_ ?_
 exact E2
 exact A79
 omega
 refine aP 11 rfl (pNf rfl) rfl ?_
 refine I0 ?_
 exact A8a
 refine I0 ?_
 exact A8b
theorem A4B (br : Nat) (pb : Option Addr) (nb cb : Nat) (bs : List UInt8) (hnb : nb ≤ 2000) : ∀ (t : Ty) (p : Nat) (G : IM) (cells : List Value), E5 t → B9 G t cells → Sl G pb nb cb 1 (N6 bs) → p + (K0 t).toNat + 1 < 1099511627776 →
  Fn Tryz.prog 127 [.pointer (some ⟨br, 0, none⟩), .agg ⟨cells⟩] [rd br pb nb cb p] G
   (Z8 br pb nb cb p ((K0 t).toNat + 1) (fun G' v => ∃ u cells, v = .agg ⟨cells⟩ ∧ B9 G' u cells ∧ E5 u ∧ K0 u ≤ K0 t ∧ ∀ n, Q0 n t → Q0 n u)) := by
 refine Ty.ind fun k ks ih p G cells ha hr hb hp => ?_
 have hkid := ha.kid
 have hnn := A1L ks
 have hz : K0 (.mk k ks) = ks.length + O1 ks := by rw [K0]
 rw [hz] at hp ⊢
 obtain ⟨q, c, es, rfl, hk, hsl, hkl⟩ := hr.open
 simp only [Ty.k, Ty.ks] at hk hsl hkl ⊢
 have hn := hsl.le
 have hl2 := ha.two
 refine C3 Tryz.func127 rfl Tryz.ntmps127 Tryz.results127 rfl ?_
 intro w0
 refine A3 ?_
 refine sE (C8 rfl rfl) rfl (fun b3 => ?_)
 refine sE (A6 rfl) rfl (fun b4 => ?_)
 refine A8 ?_
 (refine I8 rfl (W7 _ br pb nb cb p bs _ hb hnb (by omega)) (Pk.perm (by repeat (first | exact Pk.here | apply Pk.there))) rfl rfl (fun v11 G11 outs11 hle11 hh => ?_); obtain ⟨rfl, rfl, j11, rfl, hj11, hk11⟩ := hh; have hm := hle11)
 replace hb := hb.mono hle11
 replace hr := hr.mono hle11
 replace hsl := hsl.mono hle11
 replace hkl := hkl.mono hle11
 refine sB (qE rfl rfl) rfl rfl (fun h12 => ?_) (fun h12 => ?_)
 refine A9 ?_
 refine H6 rfl ((A1A _)) rfl rfl ?_
 refine A9 ?_
 refine H2 (outs := [rd br pb nb cb (p + 1)]) (rC rfl (A4 rfl rfl)) (by repeat (first | exact A0.nil | refine A0.cons Pk.here ?_ | refine A0.cons (Pk.there Pk.here) ?_ | refine A0.cons (Pk.there (Pk.there Pk.here)) ?_ | apply A0.drop)) ?_
 (exact ⟨p + 1, by omega, by omega, rfl, P9, _, rfl, A0u _, A3u, by rw [A5S]; omega, fun n _ => A74 n⟩)
 refine J2 ?_
 refine sE (A6 rfl) rfl (fun b36 => ?_)
 refine E0 ?_
 refine C1 ?_
 (refine S0 34 2 ?_; refine J8 (fun (x : Nat × Option Addr × Nat × List Ty × List (List Value) × Nat × IM) => ⟨[(6, .int .i64 x.1), (5, .pointer (some ⟨b36, 0, none⟩)), (4, .pointer (some ⟨b4, 0, none⟩)), (0, .pointer (some ⟨br, 0, none⟩)), (3, .pointer (some ⟨b3, 0, none⟩))], [.blk b36 [.int .i64 k, .slice x.2.1 x.1 x.2.2.1], .slc x.2.1 x.2.2.1 34 2 x.1 x.2.2.2.2.1.flatten, rd br pb nb cb x.2.2.2.2.2.1, .blk b4 [.int .i64 0, .slice none 0 0], .blk b3 [.int .i64 k, .slice q ks.length c]], x.2.2.2.2.2.2⟩) (fun x => x.1 ≤ ks.length ∧ C0 G11 x.2.2.2.2.2.2 ∧ x.2.2.2.1.length = x.1 ∧ D2 x.2.2.2.2.2.2 x.2.2.2.1 x.2.2.2.2.1 ∧ (∀ u ∈ x.2.2.2.1, E5 u) ∧ (∀ n, Q0 n (.mk k ks) → ∀ u ∈ x.2.2.2.1, Q0 (n - 1) u) ∧ O1 x.2.2.2.1 ≤ O1 (ks.take x.1) ∧ p + 1 ≤ x.2.2.2.2.2.1 ∧ (x.2.2.2.2.2.1 : Int) ≤ p + 1 + x.1 + O1 (ks.take x.1)) (fun x => ks.length - x.1) (0, none, 0, [], [], p + 1, G11) ?_ ?_ ?_)
 (simp only [I5]; exact E2)
 (exact ⟨by simp, C0.refl _, rfl, by simp [D2], by simp, by simp, by simp [O1], by dsimp only; omega, by simp [O1]⟩)
 (rintro ⟨i, pn, cn, us, es', p', Gi⟩ ⟨hi, hle, hlu, hst, hau, hhu, hsu, hp1, hp2⟩; simp only [] at hi hle hlu hst hau hhu hsu hp1 hp2 ⊢; replace hsl := hsl.mono hle; replace hkl := hkl.mono hle; have htk := A7O ks i)
 refine B2 ?_
 refine sB (J1 rfl rfl) rfl rfl (fun h58 => ?_) (fun h58 => ?_)
 refine A8 ?_
 refine C1 ?_
 (obtain ⟨b, o, q0, d0, hp0, hat0, hre0, hg0⟩ := hsl.kidTy hkl (i := i) (by omega) (by omega); subst hp0; have e1 := B14 (ks := ks) (i := i) (by omega); have e2 := A7O ks (i + 1); have e3 := A0U ks[i]; have hih := ih ks[i] (List.getElem_mem (by omega)) p' Gi _ (hkid _ (List.getElem_mem (by omega))) hre0 (hb.mono hle) (by omega); refine D7 D8 rfl ?_)
 refine I9 (i := 0) (l' := [tt,ff,ff,ff,ff,ff,ff,ff,ff,ff,ff,ff,ff]) rfl D1 (B5 rfl) rfl (by kernel_rfl) rfl rfl ?_
 refine aL 1 rfl (C4 rfl rfl) rfl ?_
 refine aP 2 rfl (qM rfl) rfl ?_
 refine aP 3 rfl (B5 rfl) rfl ?_
 refine aL 4 rfl (C4 rfl rfl) rfl ?_
 refine aP 5 rfl (qM rfl) rfl ?_
 refine aP 6 rfl (B4 rfl rfl rfl (by omega)) rfl ?_
 refine aL 7 rfl (A2 rfl rfl (hat0 _) rfl) rfl ?_
 refine A1 8 ?_
 (refine V9 (l' := [tt,tt,tt,tt,tt,tt,tt,tt,tt,ff,ff,ff,ff]) rfl rfl hih (Pk.perm (by repeat (first | exact Pk.here | apply Pk.there))) rfl rfl rfl (by repeat (first | exact A7.nil | apply A7.dep (by decide +kernel) | apply A7.blk (by decide +kernel) (by repeat (first | exact Pk.here | apply Pk.there)) (by repeat first | exact mH | apply mT) | apply A7.im (by decide +kernel) hg0 (by repeat first | exact mH | apply mT))) (fun v G3 outs hle3 hh => ?_); obtain ⟨p3, hp31, hp32, rfl, u, cells3, rfl, hru, hua, hus, huh⟩ := hh; obtain ⟨q3, c3, es3, rfl, _⟩ := hru.open)
 refine A1 9 ?_
 (refine E3 rfl (C7 rfl rfl rfl (by omega) (by unfold maxLen; omega) rfl) rfl rfl ?_; rintro _ ⟨b78, rfl⟩)
 refine A1 10 ?_
 refine Q6 rfl rfl rfl rfl rfl rfl (fun _ _ => by repeat (first | exact Sw.here | apply Sw.there)) (M6 (by repeat first | exact mH | apply mT)) rfl (by simp [Value.oneCell']) (by unfold maxLen; omega) (by omega) rfl rfl (by repeat (first | exact A7.nil | apply A7.dep (by decide +kernel) | apply A7.blk (by decide +kernel) (by repeat (first | exact Pk.here | apply Pk.there)) (by repeat first | exact mH | apply mT))) (fun pn' cn' => ?_)
 refine aP 11 rfl (B5 rfl) rfl ?_
 refine A1 12 ?_
 refine Q8 rfl rfl rfl rfl rfl rfl rfl rfl (by kernel_rfl) (by repeat first | exact Sw.here | apply Sw.there) (by rfl) ?_
 refine A9 ?_
 refine sP (J0 rfl rfl (by omega) (by omega)) rfl rfl ?_
 refine A3 ?_
 refine J6 (i + 1, pn', cn', us ++ [u], es' ++ [[.int .i64 u.k, .slice q3 u.ks.length c3]], p3, G3) ?_ ?_ ?_
 (simp only [I5]; exact E2)
 (dsimp only; exact ⟨by omega, hle.trans hle3, by simp [hlu], D2.snoc (hst.mono hle3) hru, A2P hau hua, fun n hn => A2P (hhu n hn) (huh _ (A5I hn (List.getElem_mem _))), by rw [A4z]; omega, by omega, by omega⟩)
 exact U8
 refine J3 ?_
 (refine F9 (by repeat (first | exact Pk.here | apply Pk.there)) (fun G5 hle5 hsl5 hno5 => ?_); obtain rfl : i = ks.length := (by omega))
 refine tT ?_
 refine H2 (outs := [rd br pb nb cb p']) (rC rfl (A4 rfl rfl)) (by repeat (first | exact A0.nil | refine A0.cons Pk.here ?_ | refine A0.cons (Pk.there Pk.here) ?_ | refine A0.cons (Pk.there (Pk.there Pk.here)) ?_ | apply A0.drop)) ?_
 (rw [List.take_length] at hsu hp2; refine ⟨p', by omega, by omega, rfl, .mk k us, _, rfl, (hst.mono hle5).ty hlu hsl5 hk, A8G ha hlu hau, by rw [K0]; omega, fun n hn => B2v hn hlu (hhu n hn)⟩)
theorem At.sub {hp : List A5} {G : IM} {b o j : Nat} {vs : List Value} {v : Value} (h : At hp G b o vs) (hj : vs[j]? = some v) : At hp G b (o + j) [v] := by
 have key : ∀ {cs : List Value}, (∀ i u, vs[i]? = some u → cs[o + i]? = some u) → ∀ i u, [v][i]? = some u → cs[o + j + i]? = some u := by
  intro cs hc i u hu
  cases i with
  | zero => simp at hu; subst hu; simpa using hc j v hj
  | succ i => simp at hu
 rcases h with ⟨cs, hm, hv⟩ | ⟨n, c, el, sz, cs, hm, hv⟩ | ⟨full, hg, hv⟩
 ·exact .inl ⟨cs, hm, key hv⟩
 ·exact .inr (.inl ⟨n, c, el, sz, cs, hm, key hv⟩)
 ·exact .inr (.inr ⟨full, hg, key hv⟩)
def HTm (G : IM) (t : Tm) (k : Int) (cells : List Value) : Prop := ∃ pt ct et pf cf ef p c es,
 cells = [.int .i64 t.k, .string t.nm, .int .i64 t.num, .int .i64 t.ty.k, .slice pt t.ty.ks.length ct, .int .i64 t.fr.k, .slice pf t.fr.ks.length cf, .int .i64 t.lb, .slice p t.ks.length c] ∧
 D5 G pt t.ty.ks.length ct 2 et ∧ D2 G (A1K t.ty.ks k) et ∧ D5 G pf t.fr.ks.length cf 2 ef ∧ D2 G (A1K t.fr.ks (k + Y5 t.ty.ks)) ef ∧ D5 G p t.ks.length c 9 es ∧ D0 G (A4o t.ks (k + Y5 t.ty.ks + Y5 t.fr.ks)) es
theorem B22 {nm : ByteArray} (h : A0P nm = true) : nm.size = 1 := by
 unfold A0P at h
 simp at h
 omega
theorem A8H {k : Int} {nm : ByteArray} {num : Int} {ty fr : Ty} {lb : Int} {n : Nat} (h : U2 k nm num ty fr lb n = true) : nm.size ≤ 1 := by
 obtain ⟨_, h2, h3, _⟩ := U3.1 h
 by_cases hk : k = 1 ∨ k = 5
 ·rw [B22 (h2 hk)]; omega
 ·rw [h3 hk]; decide
def RBd (G : IM) (e : List Value) : Prop := ∃ nm t q d, e = [.string nm, .int .i64 t.k, .slice q t.ks.length d] ∧ B9 G t [.int .i64 t.k, .slice q t.ks.length d] ∧ E5 t ∧ K0 t ≤ 30 ∧ nm.size ≤ 1
def W8 (G : IM) (p : Option Addr) (n c : Nat) : Prop := ∃ es, es.length = n ∧ D5 G p n c 3 es ∧ ∀ e ∈ es, RBd G e
theorem RBd.mono {G G' : IM} {e : List Value} (h : RBd G e) (hg : C0 G G') : RBd G' e := by
 obtain ⟨nm, t, q, d, h1, h2, h3, h4⟩ := h
 exact ⟨nm, t, q, d, h1, h2.mono hg, h3, h4⟩
theorem W8.mono {G G' : IM} {p : Option Addr} {n c : Nat} (h : W8 G p n c) (hg : C0 G G') : W8 G' p n c := by
 obtain ⟨es, h1, h2, h3⟩ := h
 exact ⟨es, h1, h2.mono hg, fun e he => (h3 e he).mono hg⟩
theorem W8.nil (G : IM) : W8 G none 0 0 := ⟨[], rfl, D5.nil _ _, by simp⟩
theorem At.drop {hp : List A5} {G : IM} {b o : Nat} {v : Value} {vs : List Value} (h : At hp G b o (v :: vs)) : At hp G b (o + 1) vs := by
 have key : ∀ {cs : List Value}, (∀ i u, (v :: vs)[i]? = some u → cs[o + i]? = some u) → ∀ i u, vs[i]? = some u → cs[o + 1 + i]? = some u := by
  intro cs hc i u hu
  have := hc (i + 1) u (by simpa using hu)
  rwa [show o + 1 + i = o + (i + 1) by omega]
 rcases h with ⟨cs, hm, hv⟩ | ⟨n, c, el, sz, cs, hm, hv⟩ | ⟨full, hg, hv⟩
 ·exact .inl ⟨cs, hm, key hv⟩
 ·exact .inr (.inl ⟨n, c, el, sz, cs, hm, key hv⟩)
 ·exact .inr (.inr ⟨full, hg, key hv⟩)
theorem W8.get {G : IM} {p : Option Addr} {n c : Nat} (h : W8 G p n c) {i : Nat} (hi : i < n) :
  ∃ b o nm t q d, p = some ⟨b, o, none⟩ ∧ (∀ hp, At hp G b (o + i * 3) [.string nm, .int .i64 t.k, .slice q t.ks.length d]) ∧ B9 G t [.int .i64 t.k, .slice q t.ks.length d] ∧ E5 t ∧ K0 t ≤ 30 ∧ G b ≠ none ∧ nm.size ≤ 1 := by
 obtain ⟨es, h1, h2, h3⟩ := h
 obtain ⟨e, b, o, he, rfl, hl, _, hat, hgb⟩ := h2.get (i := i) (by omega)
 obtain ⟨nm, t, q, d, rfl, h5, h6, h7, h8⟩ := h3 e (List.mem_of_getElem? he)
 exact ⟨b, o, nm, t, q, d, rfl, hat, h5, h6, h7, hgb, h8⟩
theorem W8.le {G : IM} {p : Option Addr} {n c : Nat} (h : W8 G p n c) : n ≤ 9223372036854775807 := by
 obtain ⟨es, h1, h2, h3⟩ := h
 exact h2.le
theorem B23 (G : IM) (p : Option Addr) (n c : Nat) (nm : ByteArray) (hx : W8 G p n c) :
  Fn Tryz.prog 162 [.slice p n c, .string nm] [] G (TyB 30 G) := by
 have hn := hx.le
 refine C3 Tryz.func162 rfl Tryz.ntmps162 Tryz.results162 rfl ?_
 intro w0
 refine A3 ?_
 refine sE (A6 rfl) rfl (fun b3 => ?_)
 refine D4 ?_
 refine sP (O5 rfl rfl (by omega) (by omega)) rfl rfl ?_
 refine B6 ?_
 refine C1 ?_
 (refine J8 (fun (i : Nat) => ⟨[(6, .int .i64 ((i : Int) - 1)), (0, .slice p n c), (1, .string nm), (4, .pointer (some ⟨b3, 0, none⟩))], [.blk b3 [.int .i64 0, .slice none 0 0]], G⟩) (fun i => i ≤ n) (fun i => i) n ?_ ?_ ?_)
 exact E2
 exact Nat.le_refl _
 (rintro i hi)
 refine B1 ?_
 refine sB (A0L rfl rfl) rfl rfl (fun h25 => ?_) (fun h25 => ?_)
 refine A8 ?_
 (show I4 _ _ (.block 1 _) _ _; obtain ⟨j, rfl⟩ : ∃ j, i = j + 1 := ⟨i - 1, by omega⟩; rw [show ((j + 1 : Nat) : Int) - 1 = (j : Int) from by omega]; obtain ⟨b, o, nm1, t1, q1, d1, rfl, hat, hr1, ha1, hs1, hgb, hns1⟩ := hx.get (i := j) (by omega); refine C1 ?_)
 refine B1 ?_
 refine sP (B4 rfl rfl rfl (by omega)) rfl rfl ?_
 refine E6 ?_
 refine sL (A0p rfl rfl ((hat _).sub (j := 0) rfl)) rfl rfl ?_
 refine E6 ?_
 refine sB (A04 rfl rfl) rfl rfl (fun h41 => ?_) (fun h41 => ?_)
 refine B2 ?_
 refine sP (B4 rfl rfl rfl (by omega)) rfl rfl ?_
 refine E6 ?_
 refine sL (A2 rfl rfl (hat _).drop rfl) rfl rfl ?_
 (refine E7 rfl (O9 _ G _ ha1.small hr1) rfl rfl (fun v G1 hle1 hh => ?_); obtain ⟨cs1, F1, rfl, hs1', hn1⟩ := hh; obtain ⟨p1, c1, rfl, _⟩ := hs1'.open; have hrr := hs1'.R.mono (C5.le G1 G))
 refine J2 ?_
 refine I1 (rC rfl (A4 rfl rfl)) (rT rfl) ?_
 (exact ⟨rfl, _, _, _, rfl, hrr, ha1, hs1⟩)
 refine D4 ?_
 refine sP (O5 rfl rfl (by omega) (by omega)) rfl rfl ?_
 refine A3 ?_
 refine J6 j ?_ ?_ ?_
 exact E2
 (show _ ≤ n; omega)
 exact Nat.le_refl _
 refine J9 ?_
 refine I1 (rC rfl (A4 rfl rfl)) (rT rfl) ?_
 (exact ⟨rfl, _, _, _, rfl, O0 _ ⟨by omega, by omega⟩, V3 (by omega) (by omega), by rw [A8D]; omega⟩)
theorem B24 {G : IM} {nm : ByteArray} {k : Int} {ks : List Ty} {q : Option Addr} {d : Nat} (hr : B9 G (.mk k ks) [.int .i64 k, .slice q ks.length d]) (ha : E5 (.mk k ks)) (hs : K0 (.mk k ks) ≤ 30) (hn : nm.size ≤ 1) : RBd G [.string nm, .int .i64 k, .slice q ks.length d] := ⟨nm, .mk k ks, q, d, rfl, hr, ha, hs, hn⟩
theorem W8.snoc {G G' : IM} {p p' : Option Addr} {n c c' : Nat} {es : List (List Value)} {e : List Value} (h1 : es.length = n) (h2 : D5 G p n c 3 es) (h3 : ∀ e ∈ es, RBd G e) (hg : C0 G G') (he : RBd G' e) (hs : Sl G' p' (n + 1) c' 3 (es.flatten ++ e)) : W8 G' p' (n + 1) c' := by
 refine ⟨es ++ [e], by simp [h1], D5.of (by simpa using hs) (by simp [h1]) ?_ ?_, ?_⟩
 ·intro x hx
  rcases List.mem_append.1 hx with hx | hx
  ·obtain ⟨_, _, _, _, rfl, _⟩ := h3 x hx; rfl
  ·obtain ⟨_, _, _, _, rfl, _⟩ := he
   simp only [List.mem_singleton] at hx; subst hx; rfl
 ·intro x hx
  rcases List.mem_append.1 hx with hx | hx
  ·obtain ⟨_, _, _, _, rfl, _⟩ := h3 x hx; simp [Value.oneCell']
  ·obtain ⟨_, _, _, _, rfl, _⟩ := he
   simp only [List.mem_singleton] at hx; subst hx; simp [Value.oneCell']
 ·intro x hx
  rcases List.mem_append.1 hx with hx | hx
  ·exact (h3 x hx).mono hg
  ·simp only [List.mem_singleton] at hx; subst hx; exact he
theorem A5Y {Q : Prop} (h : Q := by (exact ⟨rfl, _, _, rfl, W8.snoc h1 h2 h3 hle5 (B24 (hr.mono hle5) ha hs hnm) hsl5⟩)) : Q := h
theorem B25 (G : IM) (p : Option Addr) (n c : Nat) (nm : ByteArray) (t : Ty) (cells : List Value) (hx : W8 G p n c) (hn : n ≤ 1000) (hr : B9 G t cells) (ha : E5 t) (hs : K0 t ≤ 30) (hnm : nm.size ≤ 1) :
  Fn Tryz.prog 141 [.slice p n c, .string nm, .agg ⟨cells⟩] [] G (L8 fun G' v => ∃ p' c', v = .slice p' (n + 1) c' ∧ W8 G' p' (n + 1) c') := by
 obtain ⟨k, ks⟩ := t
 obtain ⟨q, d, es0, rfl, _⟩ := hr.open
 simp only [Ty.k, Ty.ks] at hr ⊢
 obtain ⟨es, h1, h2, h3⟩ := hx
 have hSl : Sl G p n c 3 es.flatten := h2.1
 have h1c : ∀ u ∈ es.flatten, u.oneCell' = true := by
  intro u hu
  obtain ⟨e, he, hue⟩ := List.mem_flatten.1 hu
  obtain ⟨_, _, _, _, rfl, _⟩ := h3 e he
  simp only [List.mem_cons, List.not_mem_nil, or_false] at hue
  rcases hue with rfl | rfl | rfl <;> rfl
 refine C3 Tryz.func141 rfl Tryz.ntmps141 Tryz.results141 rfl ?_
 intro w0
 refine A3 ?_
 refine sE (C8 rfl rfl) rfl (fun b3 => ?_)
 refine B1 ?_
 refine D7 D8 rfl ?_
 refine I9 (i := 1) (l' := [ff,tt,ff,ff,ff,ff,ff,ff,ff]) rfl D1 (qM rfl) rfl (by kernel_rfl) rfl rfl ?_
 refine aP 3 rfl (qM rfl) rfl ?_
 refine aL 4 rfl (A4 rfl rfl) rfl ?_
 refine aP 5 rfl (V6 rfl rfl) rfl ?_
 refine Q2 (j := 0) (j' := 6) (by kernel_rfl) ?_ ?_
 (refine E3 rfl (C7 rfl rfl rfl (by omega) (by unfold maxLen; omega) rfl) rfl rfl ?_; rintro _ ⟨b14, rfl⟩)
 refine Q2 (j := 2) (j' := 6) (by kernel_rfl) ?_ ?_
 (refine A2M rfl rfl rfl rfl rfl rfl (fun _ _ => by repeat (first | exact Sw.here | apply Sw.there)) hSl h1c (Nat.zero_le _) (by unfold maxLen; omega) (by omega) rfl rfl (by repeat (first | exact A7.nil | apply A7.dep (by decide +kernel) | apply A7.blk (by decide +kernel) (by repeat (first | exact Pk.here | apply Pk.there)) (by repeat first | exact mH | apply mT))) (fun p4 c4 => ?_); simp only [Nat.zero_add, List.nil_append])
 refine A1 6 ?_
 (refine E3 rfl (C7 rfl rfl rfl (by omega) (by unfold maxLen; omega) rfl) rfl rfl ?_; rintro _ ⟨b18, rfl⟩)
 refine A1 7 ?_
 (refine Q6 rfl rfl rfl rfl rfl rfl (fun _ _ => by repeat (first | exact Sw.here | apply Sw.there)) (M6 (by repeat first | exact mH | apply mT)) rfl (by simp [Value.oneCell']) (by unfold maxLen; omega) (by omega) rfl rfl (by repeat (first | exact A7.nil | apply A7.dep (by decide +kernel) | apply A7.blk (by decide +kernel) (by repeat (first | exact Pk.here | apply Pk.there)) (by repeat first | exact mH | apply mT))) (fun p5 c5 => ?_))
 refine aP 8 rfl (qA rfl) rfl ?_
 refine A3 ?_
 (refine F9 (cs := es.flatten ++ [.string nm, .int .i64 k, .slice q ks.length d]) (by repeat (first | exact Pk.here | apply Pk.there)) (fun G5 hle5 hsl5 hno5 => ?_))
 refine A3 ?_
 exact A5Y
 (refine E3 rfl (C7 rfl rfl rfl (by omega) (by unfold maxLen; omega) rfl) rfl rfl ?_; rintro _ ⟨b28, rfl⟩)
 refine A1 2 ?_
 (refine A2M rfl rfl rfl rfl rfl rfl (fun _ _ => by repeat (first | exact Sw.here | apply Sw.there)) hSl h1c (Nat.zero_le _) (by unfold maxLen; omega) (by omega) rfl rfl (by repeat (first | exact A7.nil | apply A7.dep (by decide +kernel) | apply A7.blk (by decide +kernel) (by repeat (first | exact Pk.here | apply Pk.there)) (by repeat first | exact mH | apply mT))) (fun p4 c4 => ?_); simp only [Nat.zero_add, List.nil_append])
 refine A1 7 ?_
 (refine Q6 rfl rfl rfl rfl rfl rfl (fun _ _ => by repeat (first | exact Sw.here | apply Sw.there)) (M6 (by repeat first | exact mH | apply mT)) rfl (by simp [Value.oneCell']) (by unfold maxLen; omega) (by omega) rfl rfl (by repeat (first | exact A7.nil | apply A7.dep (by decide +kernel) | apply A7.blk (by decide +kernel) (by repeat (first | exact Pk.here | apply Pk.there)) (by repeat first | exact mH | apply mT))) (fun p5 c5 => ?_))
 refine aP 8 rfl (qA rfl) rfl ?_
 refine A3 ?_
 (refine F9 (cs := es.flatten ++ [.string nm, .int .i64 k, .slice q ks.length d]) (by repeat (first | exact Pk.here | apply Pk.there)) (fun G5 hle5 hsl5 hno5 => ?_))
 refine A3 ?_
 exact A5Y
 (refine E3 rfl (C7 rfl rfl rfl (by omega) (by unfold maxLen; omega) rfl) rfl rfl ?_; rintro _ ⟨b40, rfl⟩)
 refine A1 0 ?_
 (refine E3 rfl (C7 rfl rfl rfl (by omega) (by unfold maxLen; omega) rfl) rfl rfl ?_; rintro _ ⟨b42, rfl⟩)
 refine A1 2 ?_
 (refine A2M rfl rfl rfl rfl rfl rfl (fun _ _ => by repeat (first | exact Sw.here | apply Sw.there)) hSl h1c (Nat.zero_le _) (by unfold maxLen; omega) (by omega) rfl rfl (by repeat (first | exact A7.nil | apply A7.dep (by decide +kernel) | apply A7.blk (by decide +kernel) (by repeat (first | exact Pk.here | apply Pk.there)) (by repeat first | exact mH | apply mT))) (fun p4 c4 => ?_); simp only [Nat.zero_add, List.nil_append])
 refine A1 7 ?_
 (refine Q6 rfl rfl rfl rfl rfl rfl (fun _ _ => by repeat (first | exact Sw.here | apply Sw.there)) (M6 (by repeat first | exact mH | apply mT)) rfl (by simp [Value.oneCell']) (by unfold maxLen; omega) (by omega) rfl rfl (by repeat (first | exact A7.nil | apply A7.dep (by decide +kernel) | apply A7.blk (by decide +kernel) (by repeat (first | exact Pk.here | apply Pk.there)) (by repeat first | exact mH | apply mT))) (fun p5 c5 => ?_))
 refine aP 8 rfl (qA rfl) rfl ?_
 refine A3 ?_
 (refine F9 (cs := es.flatten ++ [.string nm, .int .i64 k, .slice q ks.length d]) (by repeat (first | exact Pk.here | apply Pk.there)) (fun G5 hle5 hsl5 hno5 => ?_))
 refine A3 ?_
 exact A5Y
theorem B26 (G : IM) : Fn Tryz.prog 183 [.slice none 0 0] [] G (I3 (.bool true) G) := by
 refine C3 Tryz.func183 rfl Tryz.ntmps183 Tryz.results183 rfl ?_
 intro w0
 refine J4 ?_
 refine C1 ?_
 (refine J8 (fun (_ : Nat) => ⟨[(3, .int .i64 0), (0, .slice none 0 0)], [], G⟩) (fun _ => True) (fun i => i) 0 ?_ ?_ ?_)
 ·exact E2
 ·trivial
 ·(rintro i _)
  refine A8 ?_
  refine sP (A2C rfl rfl (by omega)) rfl rfl ?_
  refine N0 ?_
  refine sP (A12 rfl rfl (by omega)) rfl rfl ?_
  refine A9 ?_
  trivial
theorem A2Q {k : Int} {n : Nat} (h : D9 k = n) : (k = 6 ∨ k = 7 ∨ k = 8 ∨ k = 10 → n = 2) ∧ (k = 9 → n = 3) ∧ (k = 5 ∨ k = 11 ∨ k = 12 ∨ k = 13 → n = 1) := by
 refine ⟨?_, ?_, ?_⟩
 ·rintro (rfl | rfl | rfl | rfl)
  ·rw [show D9 6 = 2 from rfl] at h; omega
  ·rw [show D9 7 = 2 from rfl] at h; omega
  ·rw [show D9 8 = 2 from rfl] at h; omega
  ·rw [show D9 10 = 2 from rfl] at h; omega
 ·rintro rfl
  rw [show D9 9 = 3 from rfl] at h; omega
 ·rintro (rfl | rfl | rfl | rfl)
  ·rw [show D9 5 = 1 from rfl] at h; omega
  ·rw [show D9 11 = 1 from rfl] at h; omega
  ·rw [show D9 12 = 1 from rfl] at h; omega
  ·rw [show D9 13 = 1 from rfl] at h; omega
theorem B27 : ∀ (t : Ty) (d : Int), P2 t d = true → E5 t := by
 refine Ty.ind fun k ks ih d h => ?_
 obtain ⟨h1, h2⟩ := A3v h
 rw [E5]
 refine ⟨fun hk => ?_, fun h4 h5 => ?_, A1w.2 fun t ht => ?_⟩
 ·have := (A06 k).2.1 hk
  omega
 ·have h5' := A06 k
  have h6 := h5'.1
  have h7 := h5'.2.2
  omega
 ·obtain ⟨i, hi, rfl⟩ := List.getElem_of_mem ht
  exact ih _ ht _ (h2 i hi)
theorem B28 : ∀ (n : Nat) (t : Ty) (d : Int), P2 t d = true → 4 - d ≤ n → Q0 n t := by
 intro n
 induction n with
 | zero =>
  rintro ⟨k, ks⟩ d h hd
  obtain ⟨h1, h2⟩ := A3v h
  have hks : ks.length = 0 := by
   rcases Nat.eq_zero_or_pos ks.length with h0 | h0
   ·exact h0
   ·have h3 := h2 0 h0
    obtain ⟨k', ks'⟩ : Ty := ks[0]
    have h4 : ∀ (u : Ty) (d : Int), P2 u d = true → d ≤ 4 := by
     rintro ⟨a, b⟩ d hu
     rw [P2] at hu
     simp only [Bool.and_eq_true, decide_eq_true_eq] at hu
     exact hu.1.1
    have := h4 _ _ h3
    omega
  have h5 := A06 k
  have h6 := h5.2.1
  exact ⟨List.length_eq_zero_iff.1 hks, by intro h; have := h6 (.inl h); omega, by intro h; have := h6 (.inr h); omega⟩
 | succ n ih =>
  rintro ⟨k, ks⟩ d h hd
  have ha := B27 _ _ h
  rw [E5] at ha
  obtain ⟨h1, h2⟩ := A3v h
  refine ⟨ha.1, ha.2.1, fun t ht => ?_⟩
  obtain ⟨i, hi, rfl⟩ := List.getElem_of_mem ht
  exact ih _ _ (h2 i hi) (by omega)
theorem A3D {t : Ty} (h : E9 t = true) : E5 t ∧ K0 t ≤ 30 := by
 have h1 := B28 3 t 1 h (by omega)
 have h2 := A4t h1
 have h3 : ((2 ^ (3 + 1) - 2 : Nat) : Int) = 14 := rfl
 exact ⟨h1.ar, by omega⟩
theorem B29 {t : Ty} (h : A0t t = true) : E5 t ∧ K0 t ≤ 30 := by
 rw [A2N h]
 exact ⟨V3 (by decide) (by decide), by rw [B7, A8D]; omega⟩
theorem A2R {k : Int} {nm : ByteArray} {num : Int} {ty fr : Ty} {lb : Int} {n : Nat} (h : U2 k nm num ty fr lb n = true) : E5 ty ∧ K0 ty ≤ 30 := by
 have hn := U3.1 h
 by_cases hk : k = 5 ∨ k = 13 ∨ k = 14
 ·exact A3D (hn.2.2.2.2.2.1 hk)
 ·exact B29 (hn.2.2.2.2.2.2.1 hk)
theorem B0.of9 {G : IM} {k : Int} {nm : ByteArray} {num tk fk : Int} {tks fks : List Ty} {lb : Int} {ks : List Tm} {q1 q2 q3 : Option Addr} {c1 c2 c3 : Nat} {es : List (List Value)} (hk : E8 k) (hnum : E8 num) (hlb : E8 lb) (hty : B9 G (.mk tk tks) [.int .i64 tk, .slice q1 tks.length c1])
  (hfr : B9 G (.mk fk fks) [.int .i64 fk, .slice q2 fks.length c2]) (hsl : D5 G q3 ks.length c3 9 es) (hkl : D0 G ks es) :
  B0 G (.mk k nm num (.mk tk tks) (.mk fk fks) lb ks) [.int .i64 k, .string nm, .int .i64 num, .int .i64 tk, .slice q1 tks.length c1, .int .i64 fk, .slice q2 fks.length c2, .int .i64 lb, .slice q3 ks.length c3] := by
 simp only [B0]
 exact ⟨_, _, q3, c3, es, rfl, hk, hnum, hlb, hty, hfr, hsl, hkl⟩
theorem A2f {k k' : Int} {nm nm' : ByteArray} {num num' : Int} {ty fr ty' fr' : Ty} {lb lb' : Int} {ks : List Tm} (h : (Tm.mk k nm num ty fr lb ks).small) (h1 : nm'.size ≤ 4294967296) (h2 : ty'.small) (h3 : fr'.small) : (Tm.mk k' nm' num' ty' fr' lb' ks).small := by
 simp only [Tm.small] at h ⊢
 exact ⟨h1, h2, h3, h.2.2.2⟩
def Tm.fit (t : Tm) (N : Nat) : Prop := t.small ∧ D3 t ≤ N
theorem B3a (br : Nat) (pb : Option Addr) (nb cb : Nat) (bs : List UInt8) (hnb : nb ≤ 2000) (p : Nat) (G : IM) (hb : Sl G pb nb cb 1 (N6 bs)) (hp : p + 100 < 1099511627776) (t : Tm) (cells : List Value) (N : Nat) (hfit : t.fit N) (hr : B0 G t cells) :
  Fn Tryz.prog 81 [.pointer (some ⟨br, 0, none⟩), .agg ⟨cells⟩] [rd br pb nb cb p] G
   (Z8 br pb nb cb p 40 (fun G' v => ∃ t cells, v = .agg ⟨cells⟩ ∧ B0 G' t cells ∧ t.fit N)) := by
 have hl := hr.len
 have hone := hr.one
 obtain ⟨k, nm, num, ⟨tk, tks⟩, ⟨fk, fks⟩, lb, ks⟩ := t
 have hfit0 := hfit
 obtain ⟨hsm, hcn⟩ := hfit0
 replace hfit : (Tm.mk k nm num (.mk tk tks) (.mk fk fks) lb ks).small ∧ D3 (Tm.mk k nm num (.mk tk tks) (.mk fk fks) lb ks) ≤ N := hfit
 rw [show (Tm.mk k nm num (.mk tk tks) (.mk fk fks) lb ks).small = (nm.size ≤ 4294967296 ∧ (Ty.mk tk tks).small ∧ (Ty.mk fk fks).small ∧ ks.length ≤ 4294967296 ∧ Tm.smallL ks) from by rw [Tm.small]] at hfit
 refine C3 Tryz.func81 rfl Tryz.ntmps81 Tryz.results81 rfl ?_
 intro w0
 refine A3 ?_
 refine sE (C8 rfl rfl) rfl (fun b3 => ?_)
 refine sE (A6 rfl) rfl (fun b4 => ?_)
 refine B1 ?_
 refine sL (A2 rfl rfl (B3 (by repeat first | exact mH | apply mT)) (by assumption)) rfl rfl ?_
 (refine E7 rfl (A2L _ G cells hsm hr) rfl rfl (fun v G1 hle1 hh => ?_); obtain ⟨cells1, F1, rfl, hs1, hn1⟩ := hh; have hr1 := hs1.R.mono (C5.le G1 G); obtain ⟨q1, c1, q2, c2, q3, c3, es, rfl, hk, hnum, hlb, hty, hfr, hsl, hkl⟩ := hr1.open9)
 refine sE (A6 rfl) rfl (fun b11 => ?_)
 refine B2 ?_
 (refine I8 rfl (W7 _ br pb nb cb p bs 50 (hb.mono hle1) hnb (by omega)) (Pk.perm (by repeat (first | exact Pk.here | apply Pk.there))) rfl rfl (fun v G2 outs hle2 hh => ?_); obtain ⟨rfl, rfl, j, rfl, hj0, hj1⟩ := hh; replace hb := hb.mono hle1)
 refine A3 ?_
 (show I4 _ _ (.block 0 _) _ _; refine Y7 (fun (x : List Value × Nat × IM) => ⟨[(5, .pointer (some ⟨b11, 0, none⟩)), (4, .pointer (some ⟨b4, 0, none⟩))], [.blk b11 x.1, .blk b4 [.int .i64 0, .string ⟨⟨[]⟩⟩, .int .i64 0, .int .i64 0, .slice none 0 0, .int .i64 0, .slice none 0 0, .int .i64 0, .slice none 0 0], rd br pb nb cb x.2.1], x.2.2⟩) (fun x => C0 G2 x.2.2 ∧ p ≤ x.2.1 ∧ x.2.1 ≤ p + 40 ∧ ∃ t, B0 x.2.2 t x.1 ∧ t.small ∧ D3 t = D3 (.mk k nm num (.mk tk tks) (.mk fk fks) lb ks)) ?_ ?_)
 refine C1 (tS (tR (sB (qE rfl rfl) rfl rfl (fun h26 => ?_) (fun h26 => ?_))))
 refine A8 ?_
 (refine I7 (C7 rfl rfl rfl (by omega) (by unfold maxLen; omega) rfl) rfl ?_; rintro _ ⟨b33, rfl⟩)
 (refine S9 (by repeat (first | exact Pk.here | apply Pk.there)) (fun G4 hle4 hsl4 _ => ?_); refine I8 rfl (Y8 G4 br pb nb cb (p + 1) bs _ _ _ _ (hb.mono hle4) hnb (by omega) hsl4 (by decide)) (Pk.perm (by repeat (first | exact Pk.here | apply Pk.there))) rfl rfl (fun v G5 outs hle5 hh => ?_); obtain ⟨rfl, rfl, hv⟩ := hh; obtain ⟨k', rfl, hk'⟩ : ∃ k', v = .int .i64 k' ∧ E8 k' := (by simp only [List.mem_cons, List.not_mem_nil, or_false] at hv; rcases hv with rfl | rfl | rfl | rfl | rfl | rfl <;> exact ⟨_, rfl, by unfold E8; omega⟩))
 refine B1 ?_
 refine P0 ([.int .i64 k', .string nm, .int .i64 num, .int .i64 tk, .slice q1 tks.length c1, .int .i64 fk, .slice q2 fks.length c2, .int .i64 lb, .slice q3 ks.length c3], p + 1 + 1, G5) (L3 (by repeat (first | exact E1.nil | refine E1.cons rfl ?_)) (by repeat (first | exact A0.refl | exact A0.nil | refine A0.cons (by repeat (first | exact Pk.here | apply Pk.there)) ?_ | apply A0.drop))) ?_
 (dsimp only; exact ⟨hle4, by omega, by omega, _, B0.of9 hk' hnum hlb (hty.mono hle4) (hfr.mono hle4) (hsl.mono hle4) (hkl.mono hle4), A2f hsm hfit.1.1 hfit.1.2.1 hfit.1.2.2.1, rfl⟩)
 refine A8 ?_
 refine sB (qE rfl rfl) rfl rfl (fun h47 => ?_) (fun h47 => ?_)
 refine A8 ?_
 (refine I7 (C7 rfl rfl rfl (by omega) (by unfold maxLen; omega) rfl) rfl ?_; rintro _ ⟨b54, rfl⟩)
 (refine S9 (by repeat (first | exact Pk.here | apply Pk.there)) (fun G4 hle4 hsl4 _ => ?_); refine I8 rfl (A5R G4 br pb nb cb (p + 1) bs _ _ _ _ (hb.mono hle4) hnb (by omega) hsl4 (by decide)) (Pk.perm (by repeat (first | exact Pk.here | apply Pk.there))) rfl rfl (fun v G5 outs hle5 hh => ?_); obtain ⟨rfl, rfl, hv⟩ := hh; obtain ⟨nm', rfl, hnm'⟩ : ∃ nm', v = .string nm' ∧ nm'.size ≤ 2 := (by simp only [List.mem_cons, List.not_mem_nil, or_false] at hv; rcases hv with rfl | rfl | rfl | rfl <;> exact ⟨_, rfl, by decide⟩))
 refine B1 ?_
 refine P0 ([.int .i64 k, .string nm', .int .i64 num, .int .i64 tk, .slice q1 tks.length c1, .int .i64 fk, .slice q2 fks.length c2, .int .i64 lb, .slice q3 ks.length c3], p + 1 + 1, G5) (L3 (by repeat (first | exact E1.nil | refine E1.cons rfl ?_)) (by repeat (first | exact A0.refl | exact A0.nil | refine A0.cons (by repeat (first | exact Pk.here | apply Pk.there)) ?_ | apply A0.drop))) ?_
 (dsimp only; exact ⟨hle4, by omega, by omega, _, B0.of9 hk hnum hlb (hty.mono hle4) (hfr.mono hle4) (hsl.mono hle4) (hkl.mono hle4), A2f hsm (by omega) hfit.1.2.1 hfit.1.2.2.1, rfl⟩)
 refine A8 ?_
 refine sB (qE rfl rfl) rfl rfl (fun h68 => ?_) (fun h68 => ?_)
 refine A8 ?_
 (refine I7 (C7 rfl rfl rfl (by omega) (by unfold maxLen; omega) rfl) rfl ?_; rintro _ ⟨b75, rfl⟩)
 (refine S9 (by repeat (first | exact Pk.here | apply Pk.there)) (fun G4 hle4 hsl4 _ => ?_); refine I8 rfl (Y8 G4 br pb nb cb (p + 1) bs _ _ _ _ (hb.mono hle4) hnb (by omega) hsl4 (by decide)) (Pk.perm (by repeat (first | exact Pk.here | apply Pk.there))) rfl rfl (fun v G5 outs hle5 hh => ?_); obtain ⟨rfl, rfl, hv⟩ := hh; obtain ⟨k', rfl, hk'⟩ : ∃ k', v = .int .i64 k' ∧ E8 k' := (by simp only [List.mem_cons, List.not_mem_nil, or_false] at hv; rcases hv with rfl | rfl | rfl | rfl | rfl | rfl <;> exact ⟨_, rfl, by unfold E8; omega⟩))
 refine B1 ?_
 refine P0 ([.int .i64 k, .string nm, .int .i64 k', .int .i64 tk, .slice q1 tks.length c1, .int .i64 fk, .slice q2 fks.length c2, .int .i64 lb, .slice q3 ks.length c3], p + 1 + 1, G5) (L3 (by repeat (first | exact E1.nil | refine E1.cons rfl ?_)) (by repeat (first | exact A0.refl | exact A0.nil | refine A0.cons (by repeat (first | exact Pk.here | apply Pk.there)) ?_ | apply A0.drop))) ?_
 (dsimp only; exact ⟨hle4, by omega, by omega, _, B0.of9 hk hk' hlb (hty.mono hle4) (hfr.mono hle4) (hsl.mono hle4) (hkl.mono hle4), A2f hsm hfit.1.1 hfit.1.2.1 hfit.1.2.2.1, rfl⟩)
 refine A8 ?_
 refine sB (qE rfl rfl) rfl rfl (fun h89 => ?_) (fun h89 => ?_)
 refine B2 ?_
 (refine I8 rfl (B2Q br pb nb cb bs hnb (p + 1) _ hb (by omega)) (Pk.perm (by repeat (first | exact Pk.here | apply Pk.there))) rfl rfl (fun v G3 outs hle3 hh => ?_); obtain ⟨p3, hp31, hp32, rfl, t3, cells3, rfl, hr3, hs3⟩ := hh)
 (refine I8 rfl (B2S br pb nb cb bs hnb p3 _ (hb.mono hle3) (by omega) t3 cells3 hr3 hs3) (Pk.perm (by repeat (first | exact Pk.here | apply Pk.there))) rfl rfl (fun v G4 outs hle4 hh => ?_); obtain ⟨p4, hp41, hp42, rfl, t4, cells4, rfl, hr4, hs4⟩ := hh; have hts4 := A3t t4 (by omega); obtain ⟨t4k, t4s⟩ := t4; obtain ⟨q4, c4, es4, rfl, _⟩ := hr4.open; have hle24 := hle3.trans hle4)
 refine B1 ?_
 refine P0 ([.int .i64 k, .string nm, .int .i64 num, .int .i64 t4k, .slice q4 t4s.length c4, .int .i64 fk, .slice q2 fks.length c2, .int .i64 lb, .slice q3 ks.length c3], p4, G4) (L3 (by repeat (first | exact E1.nil | refine E1.cons rfl ?_)) (by repeat (first | exact A0.refl | exact A0.nil | refine A0.cons (by repeat (first | exact Pk.here | apply Pk.there)) ?_ | apply A0.drop))) ?_
 (dsimp only; exact ⟨hle24, by omega, by omega, _, B0.of9 hk hnum hlb hr4 (hfr.mono hle24) (hsl.mono hle24) (hkl.mono hle24), A2f hsm hfit.1.1 hts4 hfit.1.2.2.1, rfl⟩)
 refine A8 ?_
 refine sB (qE rfl rfl) rfl rfl (fun h111 => ?_) (fun h111 => ?_)
 refine E0 ?_
 refine P0 ([.int .i64 k, .string nm, .int .i64 num, .int .i64 tk, .slice q1 tks.length c1, .int .i64 fk, .slice q2 fks.length c2, .int .i64 1, .slice q3 ks.length c3], p + 1, G2) (L3 (by repeat (first | exact E1.nil | refine E1.cons rfl ?_)) (by repeat (first | exact A0.refl | exact A0.nil | refine A0.cons (by repeat (first | exact Pk.here | apply Pk.there)) ?_ | apply A0.drop))) ?_
 (dsimp only; exact ⟨C0.refl _, by omega, by omega, _, B0.of9 hk hnum ⟨by omega, by omega⟩ hty hfr hsl hkl, A2f hsm hfit.1.1 hfit.1.2.1 hfit.1.2.2.1, rfl⟩)
 refine A8 ?_
 refine sB (qE rfl rfl) rfl rfl (fun h129 => ?_) (fun h129 => ?_)
 refine A9 ?_
 refine H6 rfl ((A1A _)) rfl rfl ?_
 refine B1 ?_
 refine P0 ([.int .i64 k, .string nm, .int .i64 num, .int .i64 tk, .slice q1 tks.length c1, .int .i64 1, .slice none 0 0, .int .i64 lb, .slice q3 ks.length c3], p + 1, G2) (L3 (by repeat (first | exact E1.nil | refine E1.cons rfl ?_)) (by repeat (first | exact A0.refl | exact A0.nil | refine A0.cons (by repeat (first | exact Pk.here | apply Pk.there)) ?_ | apply A0.drop))) ?_
 (dsimp only; exact ⟨C0.refl _, by omega, by omega, _, B0.of9 hk hnum hlb hty (A0u _) hsl hkl, A2f hsm hfit.1.1 hfit.1.2.1 (by simp [Ty.small, Ty.smallL]), rfl⟩)
 refine A8 ?_
 refine P0 ([.int .i64 k, .string nm, .int .i64 num, .int .i64 tk, .slice q1 tks.length c1, .int .i64 fk, .slice q2 fks.length c2, .int .i64 lb, .slice q3 ks.length c3], p + 1, G2) (L3 (by repeat (first | exact E1.nil | refine E1.cons rfl ?_)) (by repeat (first | exact A0.refl | exact A0.nil | refine A0.cons (by repeat (first | exact Pk.here | apply Pk.there)) ?_ | apply A0.drop))) ?_
 (dsimp only; exact ⟨C0.refl _, by omega, by omega, _, B0.of9 hk hnum hlb hty hfr hsl hkl, A2f hsm hfit.1.1 hfit.1.2.1 hfit.1.2.2.1, rfl⟩)
 (rintro ⟨cells9, p9, G9⟩ ⟨hle9, hp9, hp9', t9, hr9, hs9, hc9⟩; simp only [] at hle9 hp9 hp9' hr9 hs9 hc9 ⊢; have hl9 := hr9.len; have ho9 := hr9.one)
 refine A3 ?_
 refine sL (A2 rfl rfl (B3 (by repeat first | exact mH | apply mT)) hl9) rfl rfl ?_
 refine sS rfl rfl rfl hl9 ho9 rfl ?_ (hu := by exact D6 hl9.symm)
 refine B6 ?_
 refine H2 (outs := [rd br pb nb cb p9]) (rC rfl (A2 rfl rfl (B3 (by repeat first | exact mH | apply mT)) hl9)) (by repeat (first | exact A0.nil | refine A0.cons Pk.here ?_ | refine A0.cons (Pk.there Pk.here) ?_ | refine A0.cons (Pk.there (Pk.there Pk.here)) ?_ | apply A0.drop)) ?_
 (exact ⟨p9, by omega, by omega, rfl, t9, cells9, rfl, hr9, hs9, by omega⟩)
section slaw
variable {P : Program} {Γ : L6} {env : M0} {hp : List A5} {G : IM} {ty : TypeId} {K : Po} {ops : Array Oper} {rest : List Oper}
theorem St.slc_open {a : Act} {w : World} {p : Option Addr} {c el sz n : Nat} {cs : List Value} {hp' : List A5} (hs : St Γ ⟨env, hp, G⟩ a w) (hk : Pk hp (.slc p c el sz n cs) hp') (h0 : 0 < n) :
  ∃ b C, p = some ⟨b, 0, none⟩ ∧ n ≤ c ∧ c ≤ maxLen ∧ St Γ ⟨env, .blk b (cs ++ C) :: hp', G⟩ a w := by
 have hown : R2 [.slc p c el sz n cs] G w := hs.res.own.of_mem hk.perm
 obtain ⟨hl, h⟩ := hown.ok _ List.mem_cons_self
 rcases h with ⟨hv, hn⟩ | ⟨g, cap, cur, hv, _, hg, hnc, hcm, hsz, ht⟩
 ·omega
 ·cases hv
  refine ⟨g, cur.toList.drop cs.length, rfl, hnc, hcm, ?_⟩
  have hcur : cur.toList = cs ++ cur.toList.drop cs.length := by
   have e : cs.length = n * sz := hl
   rw [e]
   conv => lhs; rw [← List.take_append_drop (n * sz) cur.toList, ht]
  have hr : P7 [.slc (some ⟨g, 0, none⟩) c el sz n cs] G w [.blk g (cs ++ cur.toList.drop cs.length)] G w := by
   refine ⟨⟨hown.inn, ?_, by simp [Fp, A5.fp], ?_⟩, Ext.refl _ _, C0.refl _, fun _ _ h => .inl h, ?_, fun b l h h0 => absurd h (by rw [h0]; simp)⟩
   ·intro e he
    simp at he; subst he
    refine ⟨el, ?_⟩
    rw [← hcur]; simpa using hg
   ·intro b' hb; exact hown.disj b' (by simpa [Fp, A5.fp, I2] using hb)
   ·intro b' hb; exact .inr (by simpa [Fp, A5.fp, I2] using hb)
  exact ⟨hs.size, hs.nod, hs.env, by have := (hs.res.perm hk.perm).frame hr; simpa using this⟩
theorem A3E {p : Option Addr} {c el sz n : Nat} {cs : List Value} {hp' : List A5} (hk : Pk hp (.slc p c el sz n cs) hp') (h0 : 0 < n)
  (h : ∀ b C, p = some ⟨b, 0, none⟩ → n ≤ c → c ≤ maxLen → H5 P Γ ops rest K ⟨env, .blk b (cs ++ C) :: hp', G⟩) : H5 P Γ ops rest K ⟨env, hp, G⟩ :=
 ⟨fun a w hs => let ⟨b, C, h1, h2, h3, h4⟩ := hs.slc_open hk h0; (h b C h1 h2 h3).run a w h4⟩
end slaw
theorem B3b {es : List (List Value)} {j : Nat} {vs : List Value} (hj : j < es.length) : (es.set j vs).flatten = (es.take j).flatten ++ (vs ++ (es.drop (j + 1)).flatten) := by
 rw [List.set_eq_take_append_cons_drop, if_pos hj]; simp
theorem A8I {es : List (List Value)} {j : Nat} (hj : j < es.length) : es.flatten = (es.take j).flatten ++ (es[j] ++ (es.drop (j + 1)).flatten) := by
 have h := congrArg List.flatten (List.take_append_drop j es).symm
 rw [List.drop_eq_getElem_cons hj, List.flatten_append, List.flatten_cons] at h
 exact h
theorem A3F {es : List (List Value)} {C vs : List Value} {j sz : Nat} (hj : j < es.length) (ha : ∀ e ∈ es, e.length = sz) (hv : vs.length = sz) : R3 (es.flatten ++ C) (0 + j * sz) vs = some ((es.set j vs).flatten ++ C) := by
 have := A5r (A := (es.take j).flatten) (B := es[j]) (C := (es.drop (j + 1)).flatten ++ C) (V := vs) (o := 0 + j * sz)
  (by rw [A0A (fun e he => ha e (List.mem_of_mem_take he)), List.length_take]; rw [Nat.min_eq_left (by omega)]; omega) (by rw [ha _ (List.getElem_mem hj), hv])
 rw [A8I hj, B3b hj]
 simp only [List.append_assoc] at this ⊢
 exact this
theorem D0.set {G : IM} : ∀ {ks : List Tm} {es : List (List Value)} {j : Nat} {y : Tm} {v : List Value}, D0 G ks es → B0 G y v → D0 G (ks.set j y) (es.set j v)
 | [], es, j, y, v, h, h2 => by simp only [D0] at h; subst h; simp [D0]
 | t :: ts, es, 0, y, v, h, h2 => by
  simp only [D0] at h
  obtain ⟨a, r, rfl, h3, h4⟩ := h
  simp only [List.set_cons_zero, D0]
  exact ⟨v, r, rfl, h2, h4⟩
 | t :: ts, es, j + 1, y, v, h, h2 => by
  simp only [D0] at h
  obtain ⟨a, r, rfl, h3, h4⟩ := h
  simp only [List.set_cons_succ, D0]
  exact ⟨a, r.set j v, rfl, h3, D0.set h4 h2⟩
def A8J : Tm → List Int → Tm → Tm
 | _, [], x => x
 | .mk k nm num ty fr lb ks, i :: is, x => if h : 0 ≤ i ∧ i < ks.length then .mk k nm num ty fr lb (ks.set i.toNat (A8J (ks[i.toNat]'(by omega)) is x)) else .mk k nm num ty fr lb ks
def TyV (e : Tm) (G : IM) : IM → Value → List A5 → Prop := L8 fun G' v => ∃ t cells b, v = .tuple ⟨[.agg ⟨cells⟩, .bool b]⟩ ∧ B9 G' t cells ∧ E5 t ∧ K0 t ≤ 960 ∧ (b = true → S1 e = true)
theorem A2g {G : IM} {e : Tm} {ce : List Value} {p : Option Addr} {c : Nat} (hr : B0 G e ce) (hs : Sl G p 1 c 9 ce) : D5 G p [e].length c 9 [ce] ∧ D0 G [e] [ce] := by
 refine ⟨D5.of (by simpa using hs) rfl (fun x hx => by simp only [List.mem_singleton] at hx; subst hx; exact hr.len) (fun x hx => by simp only [List.mem_singleton] at hx; subst hx; exact hr.one), ?_⟩
 simp only [D0]
 exact ⟨ce, [], rfl, hr, rfl⟩
def B6J (e : Tm) (label : Int) (G : IM) : IM → Value → List A5 → Prop := L8 fun G' v => ∃ u cu l', v = .tuple ⟨[.agg ⟨cu⟩, .int .i64 l']⟩ ∧ B0 G' u cu ∧ (e.small → u.small) ∧ D3 u ≤ D3 e + 1 ∧ label ≤ l' ∧ l' ≤ label + 1
def B6K (n : Nat) (G : IM) : IM → Value → List A5 → Prop := L8 fun G' v => ∃ p c es ws, v = .slice p n c ∧ ws.length = n ∧ D5 G' p n c 2 es ∧ D2 G' ws es ∧ ∀ w ∈ ws, E5 w
theorem D0.at2 {G : IM} {ts : List Tm} {es : List (List Value)} {i : Nat} (h : D0 G ts es) (h1 : i < ts.length) (h2 : i < es.length) : i < es.length ∧ B0 G ts[i] es[i] := by
 have := (h.inv (List.getElem?_eq_getElem h2) J5).2
 rw [List.getD_eq_getElem?_getD, List.getElem?_eq_getElem h1] at this
 exact ⟨h2, this⟩
mutual
theorem A8K : ∀ (t : Tm) (d : Int), N7 12 14 t d = true → t.small
 | .mk k nm num ty fr lb ks, d, h => by
  obtain ⟨h1, h2, h3, h4⟩ := A0D h
  have hn := U3.1 h3
  rw [Tm.small]
  refine ⟨?_, (A2R h3).1.small, ?_, ?_, A8L ks _ h4⟩
  ·by_cases hk : k = 1 ∨ k = 5
   ·have := hn.2.1 hk
    simp only [A0P, decide_eq_true_eq] at this
    omega
   ·rw [hn.2.2.1 hk]; decide
  ·rw [A2N (hn.2.2.2.2.2.2.2.2 (by omega)).1]
   simp [B7, Ty.small, Ty.smallL]
  ·have := A1a k
   omega
theorem A8L : ∀ (ts : List Tm) (d : Int), N8 12 14 ts d = true → Tm.smallL ts
 | [], d, h => by rw [Tm.smallL]; trivial
 | t :: ts, d, h => by
  rw [N8, Bool.and_eq_true] at h
  rw [Tm.smallL]
  exact ⟨A8K t d h.1, A8L ts d h.2⟩
end
theorem A4C {hp : List A5} {G : IM} {b sz i : Nat} {es : List (List Value)} {C : List Value} (hm : A5.blk b (es.flatten ++ C) ∈ hp) (hi : i < es.length) (ha : ∀ e ∈ es, e.length = sz) : At hp G b (0 + i * sz) es[i] := by
 refine .inl ⟨_, hm, fun j u hu => ?_⟩
 rw [A8I hi, List.append_assoc, List.append_assoc]
 have hl : (es.take i).flatten.length = i * sz := by
  rw [A0A (fun e he => ha e (List.mem_of_mem_take he)), List.length_take, Nat.min_eq_left (by omega)]
 have hj : j < es[i].length := (List.getElem?_eq_some_iff.1 hu).1
 rw [List.getElem?_append_right (by omega), show 0 + i * sz + j - (es.take i).flatten.length = j by omega, List.getElem?_append_left hj]
 exact hu
def B6L (e : Tm) (label : Int) (G : IM) : IM → Value → List A5 → Prop := L8 fun G' v => ∃ u cu t ct l', v = .tuple ⟨[.agg ⟨cu⟩, .agg ⟨ct⟩, .int .i64 l']⟩ ∧ B0 G' u cu ∧ u.small ∧ D3 u + 1 ≤ 2 * D3 e ∧ B9 G' t ct ∧ E5 t ∧ K0 t ≤ 32 * (D3 e : Int) ∧ label ≤ l' ∧ l' + 1 ≤ label + 2 * (D3 e : Int)
def S2 (t : Ty) : Ty := if t.k = 4 ∨ t.k = 5 then .mk t.k [P9, P9] else .mk t.k []
def S5 (t : Ty) : Bool := decide (t.k ≠ 1) && N1 t (S2 t)
def N2 (t : Tm) : Bool := decide (t.k = 14 ∧ t.fr.k = t.ty.k ∧ (t.ty.k = 4 ∨ t.ty.k = 5))
def inj (t : Tm) : Bool := decide (t.k = 14 ∧ t.ty.k = 1) && S5 t.fr
mutual
def F0 : Tm → Bool
 | .mk k nm num ty fr lb ks => if k = 10 ∨ (k = 14 ∧ fr.k = ty.k ∧ (ty.k = 4 ∨ ty.k = 5)) ∨ (k = 14 ∧ ty.k = 1 ∧ S5 fr = true) then A4D ks else decide (k = 2 ∨ k = 3 ∨ k = 4 ∨ k = 5)
def A4D : List Tm → Bool
 | [] => true
 | t :: ts => F0 t && A4D ts
end
mutual
def W0 (x : ByteArray) (v : Tm) : Tm → Tm
 | .mk k nm num ty fr lb ks => if k = 1 ∧ nm = x then v else if k = 5 ∧ nm = x then .mk k nm num ty fr lb ks else .mk k nm num ty fr lb (T5 x v ks)
def T5 (x : ByteArray) (v : Tm) : List Tm → List Tm
 | [] => []
 | t :: ts => W0 x v t :: T5 x v ts
end
theorem A4E (x : ByteArray) (v : Tm) : ∀ ks, T5 x v ks = ks.map (W0 x v)
 | [] => rfl
 | t :: ts => by rw [T5, A4E x v ts, List.map_cons]
def J7 (e : Tm) (fr to : Ty) (lb : Int) : Tm := .mk 14 ⟨#[]⟩ 0 to fr lb [e]
def W1 (k : Int) (ks : List Tm) : Tm := .mk k ⟨#[]⟩ 0 B7 B7 0 ks
def A1N (n : Int) : Tm := .mk 2 ⟨#[]⟩ n B7 B7 0 []
def X8 (b : Prop) [Decidable b] : Tm := W1 (if b then 3 else 4) []
abbrev Stp := Tm × Int × Int
def P5 : Stp := (J5, 3, 0)
def kd (ks : List Tm) (i : Nat) : Tm := ks.getD i J5
def kt (ks : List Ty) (i : Nat) : Ty := ks.getD i B7
def O2 (k : Int) (ty fr : Ty) (lb : Int) (ks : List Tm) : Stp :=
 if k = 6 then
  (if (kd ks 0).k = 5 then (W0 (kd ks 0).nm (kd ks 1) (kd (kd ks 0).ks 0), 1, 0)
   else if N2 (kd ks 0) = true ∧ (kd ks 0).ty.k = 4 then (J7 (W1 6 [kd (kd ks 0).ks 0, J7 (kd ks 1) (kt (kd ks 0).ty.ks 0) (kt (kd ks 0).fr.ks 0) (-(kd ks 0).lb)]) (kt (kd ks 0).fr.ks 1) (kt (kd ks 0).ty.ks 1) (kd ks 0).lb, 1, 0)
   else P5)
 else if k = 7 ∨ k = 8 then
  (if (kd ks 0).k = 2 ∧ (kd ks 1).k = 2 then (if k = 7 then A1N (((kd ks 0).num + (kd ks 1).num) % 1000) else X8 ((kd ks 0).num < (kd ks 1).num), 1, 0) else P5)
 else if k = 9 then (if (kd ks 0).k = 3 then (kd ks 1, 1, 0) else if (kd ks 0).k = 4 then (kd ks 2, 1, 0) else P5)
 else if k = 11 ∨ k = 12 then
  (if (kd ks 0).k = 10 then (kd (kd ks 0).ks (k - 11).toNat, 1, 0)
   else if N2 (kd ks 0) = true ∧ (kd ks 0).ty.k = 5 then (J7 (W1 k [kd (kd ks 0).ks 0]) (kt (kd ks 0).fr.ks (k - 11).toNat) (kt (kd ks 0).ty.ks (k - 11).toNat) (kd ks 0).lb, 1, 0)
   else P5)
 else if k = 14 then
  (if fr.k = ty.k then (kd ks 0, 1, 0)
   else if ty.k = 1 then (J7 (J7 (kd ks 0) fr (S2 fr) lb) (S2 fr) ty lb, 1, 0)
   else if S5 ty = false then (J7 (J7 (kd ks 0) fr (S2 ty) lb) (S2 ty) ty lb, 1, 0)
   else if inj (kd ks 0) = false then P5
   else if (kd ks 0).fr.k = ty.k then (kd (kd ks 0).ks 0, 1, 0)
   else (J5, 2, lb))
 else P5
mutual
def I6 : Tm → Stp
 | .mk k nm num ty fr lb ks => match Y9 (if k = 9 then 1 else ks.length) ks with
  | some (ks', c, l) => if c = 1 then (.mk k nm num ty fr lb ks', 1, 0) else (J5, c, l)
  | none => O2 k ty fr lb ks
def Y9 : Nat → List Tm → Option (List Tm × Int × Int)
 | _, [] => none
 | n, t :: ts => match n with
  | 0 => none
  | n + 1 => if F0 t = true then (match Y9 n ts with
    | some (us, c, l) => some (t :: us, c, l)
    | none => none)
   else some ((I6 t).1 :: ts, (I6 t).2.1, (I6 t).2.2)
end
def H7 (e : Tm) : Stp :=
 if M2 e = false then P5 else if F0 e = true then (e, 0, 0)
 else if (I6 e).2.1 ≠ 1 then (J5, (I6 e).2.1, (I6 e).2.2)
 else if M2 (I6 e).1 = false then (J5, 4, 0) else ((I6 e).1, 1, 0)
def L9 : Nat → Tm → Tm × Int × Int × Nat
 | 0, e => if (H7 e).2.1 = 1 then (J5, 5, 0, 0) else ((H7 e).1, (H7 e).2.1, (H7 e).2.2, 0)
 | n + 1, e => if (H7 e).2.1 = 1 then ((L9 n (H7 e).1).1, (L9 n (H7 e).1).2.1, (L9 n (H7 e).1).2.2.1, (L9 n (H7 e).1).2.2.2 + 1)
  else ((H7 e).1, (H7 e).2.1, (H7 e).2.2, 0)
def R6 (e : Tm) (fuel : Int) : Stp := if 0 ≤ fuel ∧ fuel ≤ 300 then ((L9 fuel.toNat e).1, (L9 fuel.toNat e).2.1, (L9 fuel.toNat e).2.2.1) else P5
def B6M (e : Tm) (fuel : Int) : Int := if 0 ≤ fuel ∧ fuel ≤ 300 then ((L9 fuel.toNat e).2.2.2 : Int) else 0
structure CvN (k : Int) (nm : ByteArray) (num : Int) (ty fr : Ty) (lb : Int) (ks : List Tm) : Prop where
 ops : D9 k = ks.length
 ne : k ≠ 13
 nm1 : nm.size ≤ 1
 num0 : 0 ≤ num ∧ num ≤ 999
 tyA : E5 ty
 frA : E5 fr
 lbB : -99 ≤ lb ∧ lb ≤ 99
 c14 : k = 14 → K1 fr ty = true ∧ E9 ty = true ∧ E9 fr = true
 ty5 : ¬(k = 5 ∨ k = 14) → ty = B7
 fr14 : k ≠ 14 → fr = B7 ∧ lb = 0
def cv (t : Tm) : Prop := ∃ d, N7 40 13 t d = true
theorem A2S {n lo hi : Int} : P1 n lo hi = true ↔ lo ≤ n ∧ n ≤ hi := by unfold P1; rw [decide_eq_true_eq]
theorem cv.node {k : Int} {nm : ByteArray} {num : Int} {ty fr : Ty} {lb : Int} {ks : List Tm} (h : cv (.mk k nm num ty fr lb ks)) : CvN k nm num ty fr lb ks ∧ ∀ t ∈ ks, cv t := by
 obtain ⟨d, h⟩ := h
 obtain ⟨_, h2, h3, h4⟩ := A0D h
 obtain ⟨n1, n2, n3, n4, n5, n6, n7, n8, n9⟩ := U3.1 h3
 refine ⟨⟨n1, h2, A8H h3, ?_, (A2R h3).1, ?_, ?_, ?_, ?_, ?_⟩, fun t ht => ?_⟩
 ·by_cases hk : k = 2
  ·exact A2S.1 (n4 hk)
  ·have := A2S.1 (n5 hk); omega
 ·by_cases hk : k = 14
  ·have := (n8 hk).1
   simp only [A1J, Bool.and_eq_true] at this
   exact (A3D this.1.1).1
  ·rw [A2N (n9 hk).1]; exact V3 (by decide) (by decide)
 ·by_cases hk : k = 14
  ·have := (n8 hk).2
   simp only [A0Q, Bool.or_eq_true, A2S] at this
   omega
  ·have := (n9 hk).2; omega
 ·intro hk
  have := (n8 hk).1
  simp only [A1J, Bool.and_eq_true] at this
  exact ⟨this.2, this.1.2, this.1.1⟩
 ·intro hk
  exact A2N (n7 (by omega))
 ·intro hk
  exact ⟨A2N (n9 hk).1, (n9 hk).2⟩
 ·obtain ⟨i, hi, rfl⟩ := List.mem_iff_getElem.1 ht
  exact ⟨_, (A09 40 13 ks _).1 h4 i hi⟩
theorem A0X {t : Tm} (h : M2 t = true) : cv t ∧ D3 t ≤ 200 := by
 obtain ⟨h1, h2⟩ := (A5Q t).1 h
 exact ⟨⟨1, h1⟩, h2⟩
mutual
theorem A2h : ∀ (t : Tm), cv t → t.small
 | .mk k nm num ty fr lb ks, h => by
  obtain ⟨hn, hk⟩ := h.node
  rw [Tm.small]
  refine ⟨by have := hn.nm1; omega, hn.tyA.small, hn.frA.small, ?_, A8M ks hk⟩
  have := A1a k
  have := hn.ops
  omega
theorem A8M : ∀ (ts : List Tm), (∀ t ∈ ts, cv t) → Tm.smallL ts
 | [], _ => by rw [Tm.smallL]; trivial
 | t :: ts, h => by
  rw [Tm.smallL]
  exact ⟨A2h t (h t List.mem_cons_self), A8M ts fun u hu => h u (List.mem_cons_of_mem _ hu)⟩
end
theorem W9 (k : Int) (nm : ByteArray) (num : Int) (ty fr : Ty) (lb : Int) (ks : List Tm) : D3 (.mk k nm num ty fr lb ks) = E4 ks + 1 := by rw [D3]
theorem A0a {k : Int} {nm : ByteArray} {num : Int} {ty fr : Ty} {lb : Int} {ks : List Tm} : (Tm.mk k nm num ty fr lb ks).small ↔ nm.size ≤ 4294967296 ∧ ty.small ∧ fr.small ∧ ks.length ≤ 4294967296 ∧ Tm.smallL ks := by rw [Tm.small]
theorem A3G : J5.small := by simp [J5, Tm.small, Ty.small, Ty.smallL, Tm.smallL, ByteArray.size]
theorem A2i : B7.small := by simp [B7, Ty.small, Ty.smallL]
mutual
theorem A8N {x : ByteArray} {v : Tm} (hv : v.small) : ∀ (t : Tm), t.small → (W0 x v t).small ∧ D3 (W0 x v t) ≤ D3 t * D3 v
 | .mk k nm num ty fr lb ks, h => by
  obtain ⟨h1, h2, h3, h4, h5⟩ := A0a.1 h
  obtain ⟨s1, s2⟩ := A8O hv ks h5
  have hp : 1 ≤ D3 v := by cases v; rw [D3]; omega
  rw [W0]
  split
  ·refine ⟨hv, ?_⟩
   rw [W9]
   exact Nat.le_mul_of_pos_left _ (by omega)
  ·split
   ·exact ⟨h, Nat.le_mul_of_pos_right _ hp⟩
   ·refine ⟨A0a.2 ⟨h1, h2, h3, by rw [A4E, List.length_map]; exact h4, s1⟩, ?_⟩
    rw [W9, W9, Nat.add_mul]
    omega
theorem A8O {x : ByteArray} {v : Tm} (hv : v.small) : ∀ (ts : List Tm), Tm.smallL ts → Tm.smallL (T5 x v ts) ∧ E4 (T5 x v ts) ≤ E4 ts * D3 v
 | [], _ => by simp [T5, Tm.smallL, E4]
 | t :: ts, h => by
  simp only [Tm.smallL] at h
  obtain ⟨a1, a2⟩ := A8N hv t h.1
  obtain ⟨b1, b2⟩ := A8O hv ts h.2
  simp only [T5, Tm.smallL, E4, Nat.add_mul]
  exact ⟨⟨a1, b1⟩, by omega⟩
end
theorem A1O {ks : List Tm} (h : Tm.smallL ks) (i : Nat) : (kd ks i).small := by
 unfold kd
 rw [List.getD_eq_getElem?_getD]
 cases hi : ks[i]? with
 | none => exact A3G
 | some t => exact Tm.smallL_mem h t (List.mem_of_getElem? hi)
theorem A4F {ks : List Tm} (i : Nat) : D3 (kd ks i) ≤ E4 ks + 1 := by
 unfold kd
 rw [List.getD_eq_getElem?_getD]
 cases hi : ks[i]? with
 | none => simp [J5, D3, E4]
 | some t =>
  have := A5u (List.mem_of_getElem? hi)
  simp only [Option.getD_some]; omega
def GT.ty : GT → Ty
 | .any => .mk 1 []
 | .int => .mk 2 []
 | .bool => .mk 3 []
 | .fn a b => .mk 4 [a.ty, b.ty]
 | .pr a b => .mk 5 [a.ty, b.ty]
def GE.tm : GE → Tm
 | .var x => .mk 1 x 0 B7 B7 0 []
 | .num n => .mk 2 ⟨#[]⟩ n B7 B7 0 []
 | .tru b => .mk (if b = true then 3 else 4) ⟨#[]⟩ 0 B7 B7 0 []
 | .lam x A e => .mk 5 x 0 A.ty B7 0 [e.tm]
 | .app f a => .mk 6 ⟨#[]⟩ 0 B7 B7 0 [f.tm, a.tm]
 | .ar s a b => .mk (if s = true then 8 else 7) ⟨#[]⟩ 0 B7 B7 0 [a.tm, b.tm]
 | .ite c a b => .mk 9 ⟨#[]⟩ 0 B7 B7 0 [c.tm, a.tm, b.tm]
 | .pair a b => .mk 10 ⟨#[]⟩ 0 B7 B7 0 [a.tm, b.tm]
 | .part s e => .mk (if s = true then 12 else 11) ⟨#[]⟩ 0 B7 B7 0 [e.tm]
 | .cast A B l e => .mk 14 ⟨#[]⟩ 0 B.ty A.ty l [e.tm]
section
variable {k : Int} {nm : ByteArray} {num : Int} {ty fr : Ty} {lb : Int} {a b c : Tm} {t : Tm} {l : Int}
end
def Bd (e : GE) : Prop := F0 e.tm = false ∧ (I6 e.tm).2.1 = 2
theorem B3c {t : Tm} (h : t.small) : t.nm.size ≤ 4294967296 ∧ t.ty.small ∧ t.fr.small ∧ t.ks.length ≤ 4294967296 ∧ Tm.smallL t.ks := by
 cases t; exact A0a.1 h
theorem A8P {ks : List Ty} (h : Ty.smallL ks) (i : Nat) : (kt ks i).small := by
 unfold kt
 rw [List.getD_eq_getElem?_getD]
 cases hi : ks[i]? with
 | none => exact A2i
 | some t => exact Ty.smallL_mem h t (List.mem_of_getElem? hi)
theorem A8Q {t : Ty} (h : t.small) : Ty.smallL t.ks := by cases t; simp only [Ty.small] at h; exact h.2
theorem A2T (t : Ty) : (S2 t).small := by
 unfold S2; split <;> simp [P9, Ty.small, Ty.smallL]
theorem A2j {e : Tm} {a b : Ty} {l : Int} (h : e.small) (ha : a.small) (hb : b.small) : (J7 e a b l).small := A0a.2 ⟨by decide, hb, ha, by simp, by simp [Tm.smallL, h]⟩
theorem A1P (e : Tm) (a b : Ty) (l : Int) : D3 (J7 e a b l) = D3 e + 1 := by rw [J7, W9, E4, E4]
theorem A5Z {k : Int} {ks : List Tm} (h : Tm.smallL ks) (hl : ks.length ≤ 4294967296) : (W1 k ks).small := A0a.2 ⟨by decide, A2i, A2i, hl, h⟩
theorem A50 (k : Int) (ks : List Tm) : D3 (W1 k ks) = E4 ks + 1 := by rw [W1, W9]
theorem B3d {a : Tm} (h : a.small) : Tm.smallL [a] := by simp [Tm.smallL, h]
theorem B3e {a b : Tm} (h : a.small) (h2 : b.small) : Tm.smallL [a, b] := by simp [Tm.smallL, h, h2]
theorem A8R : D3 J5 = 1 := by simp [J5, D3, E4]
theorem B3f (t : Tm) : D3 t = E4 t.ks + 1 := by cases t; rw [W9]; rfl
theorem B3g {k : Int} {ty fr : Ty} {lb : Int} {ks : List Tm} (hk : Tm.smallL ks) (hc : E4 ks ≤ 199) (ht : ty.small) (hf : fr.small) : (O2 k ty fr lb ks).1.small ∧ D3 (O2 k ty fr lb ks).1 ≤ 40100 := by
 have a0 := A1O hk 0
 have a1 := A1O hk 1
 have a2 := A1O hk 2
 have n0 := A4F (ks := ks) 0
 have n1 := A4F (ks := ks) 1
 have n2 := A4F (ks := ks) 2
 obtain ⟨_, b2, b3, _, b5⟩ := B3c a0
 have e0 := B3f (kd ks 0)
 have m := fun i => A4F (ks := (kd ks 0).ks) i
 have st : P5.1.small ∧ D3 P5.1 ≤ 40100 := ⟨A3G, by simp [P5, J5, D3, E4]⟩
 have hty := fun i => A8P (A8Q b2) i
 have hfr := fun i => A8P (A8Q b3) i
 unfold O2
 split
 ·split
  ·obtain ⟨s1, s2⟩ := A8N (x := (kd ks 0).nm) a1 (kd (kd ks 0).ks 0) (A1O b5 0)
   refine ⟨s1, Nat.le_trans s2 ?_⟩
   have : D3 (kd (kd ks 0).ks 0) * D3 (kd ks 1) ≤ 200 * 200 := Nat.mul_le_mul (by have := m 0; omega) (by omega)
   omega
  ·split
   ·refine ⟨A2j (A5Z (B3e (A1O b5 0) (A2j a1 (hty 0) (hfr 0))) (by simp)) (hfr 1) (hty 1), ?_⟩
    have := m 0
    show D3 (J7 _ _ _ _) ≤ 40100
    rw [A1P, A50, E4, E4, E4, A1P]
    omega
   ·exact st
 ·split
  ·split
   ·split
    ·exact ⟨A0a.2 ⟨by decide, A2i, A2i, by simp, by simp [Tm.smallL]⟩, by simp [A1N, D3, E4]⟩
    ·exact ⟨A5Z (by simp [Tm.smallL]) (by simp), by simp [X8, A50, E4]⟩
   ·exact st
  ·split
   ·split
    ·exact ⟨a1, by show D3 (kd ks 1) ≤ _; omega⟩
    ·split
     ·exact ⟨a2, by show D3 (kd ks 2) ≤ _; omega⟩
     ·exact st
   ·split
    ·split
     ·exact ⟨A1O b5 _, by have := m (k - 11).toNat; show D3 (kd _ _) ≤ _; omega⟩
     ·split
      ·refine ⟨A2j (A5Z (B3d (A1O b5 0)) (by simp)) (hfr _) (hty _), ?_⟩
       have := m 0
       show D3 (J7 _ _ _ _) ≤ 40100
       rw [A1P, A50, E4, E4]
       omega
      ·exact st
    ·split
     ·split
      ·exact ⟨a0, by show D3 (kd ks 0) ≤ _; omega⟩
      ·split
       ·refine ⟨A2j (A2j a0 hf (A2T fr)) (A2T fr) ht, ?_⟩
        show D3 (J7 _ _ _ _) ≤ 40100
        rw [A1P, A1P]; omega
       ·split
        ·refine ⟨A2j (A2j a0 hf (A2T ty)) (A2T ty) ht, ?_⟩
         show D3 (J7 _ _ _ _) ≤ 40100
         rw [A1P, A1P]; omega
        ·split
         ·exact st
         ·split
          ·exact ⟨A1O b5 0, by have := m 0; show D3 (kd _ _) ≤ _; omega⟩
          ·exact ⟨A3G, by simp [J5, D3, E4]⟩
     ·exact st
theorem B3h (ks : List Tm) (ih : ∀ t ∈ ks, t.small → D3 t ≤ 200 → (I6 t).1.small ∧ D3 (I6 t).1 ≤ D3 t + 40100) : ∀ (n : Nat), Tm.smallL ks → E4 ks ≤ 199 → ∀ us c l, Y9 n ks = some (us, c, l) → Tm.smallL us ∧ us.length = ks.length ∧ E4 us ≤ E4 ks + 40100 := by
 induction ks with
 | nil => intro n _ _ us c l h; simp [Y9] at h
 | cons t ts ihl =>
  intro n hs hc us c l h
  simp only [Tm.smallL] at hs
  simp only [E4] at hc ⊢
  cases n with
  | zero => simp [Y9] at h
  | succ n =>
   rw [Y9] at h
   split at h
   ·split at h
    ·rename_i us' c' l' hs'
     cases h
     obtain ⟨l1, l2, l3⟩ := ihl (fun u hu => ih u (List.mem_cons_of_mem _ hu)) n hs.2 (by omega) us' c l hs'
     exact ⟨by simp only [Tm.smallL]; exact ⟨hs.1, l1⟩, by simp [l2], by simp only [E4]; omega⟩
    ·cases h
   ·cases h
    obtain ⟨s1, s2⟩ := ih t List.mem_cons_self hs.1 (by omega)
    exact ⟨by simp only [Tm.smallL]; exact ⟨s1, hs.2⟩, by simp, by simp only [E4]; omega⟩
theorem B3i : ∀ (t : Tm), t.small → D3 t ≤ 200 → (I6 t).1.small ∧ D3 (I6 t).1 ≤ D3 t + 40100 := by
 refine Tm.ind fun k nm num ty fr lb ks ih h hc => ?_
 obtain ⟨h1, h2, h3, h4, h5⟩ := A0a.1 h
 rw [W9] at hc
 have hL := B3h ks ih (if k = 9 then 1 else ks.length) h5 (by omega)
 rw [I6]
 split
 ·rename_i us c l hs
  obtain ⟨l1, l2, l3⟩ := hL us c l hs
  split
  ·refine ⟨A0a.2 ⟨h1, h2, h3, by omega, l1⟩, ?_⟩
   show D3 (.mk k nm num ty fr lb us) ≤ _
   rw [W9, W9]; omega
  ·exact ⟨A3G, by show D3 J5 ≤ _; rw [A8R]; omega⟩
 ·have := B3g (k := k) (lb := lb) h5 (by omega) h2 h3
  rw [W9]
  exact ⟨this.1, by omega⟩
def A51 (u : Ty) (G : IM) : IM → Value → List A5 → Prop := L8 fun G' v => ∃ cells, v = .agg ⟨cells⟩ ∧ B9 G' u cells
def A1E (r : Option Ty) (G : IM) : IM → Value → List A5 → Prop := L8 fun G' v => ∃ cells u, v = .tuple ⟨[.agg ⟨cells⟩, .bool r.isSome]⟩ ∧ B9 G' u cells ∧ ∀ t, r = some t → u = t
theorem B3j {G : IM} {k : Int} {a b : Ty} {ca cb : List Value} {p : Option Addr} {c : Nat} (hk : E8 k) (ha : B9 G a ca) (hb : B9 G b cb) (hs : Sl G p 2 c 2 (ca ++ cb)) : B9 G (.mk k [a, b]) [.int .i64 k, .slice p 2 c] := by
 have hL : D2 G [a, b] [ca, cb] := by simp only [D2]; exact ⟨ca, [cb], rfl, ha, cb, [], rfl, hb, rfl⟩
 exact D2.ty (ts := [a, b]) (es := [ca, cb]) hL rfl (by simpa using hs) hk
theorem A8S {Q : Prop} (h : Q := by exact ⟨rfl, by rw [A2I, hA]; first | (rw [decide_eq_true (p := k = k') (by omega)]; rfl) | (rw [decide_eq_false (p := k = k') (by omega)]; rfl), rfl⟩) : Q := h
theorem A52 : ∀ (t t' : Ty) (G : IM) (cells cells' : List Value), B9 G t cells → B9 G t' cells' → Fn Tryz.prog 156 [.agg ⟨cells⟩, .agg ⟨cells'⟩] [] G (I3 (.bool (N1 t t')) G) := by
 refine Ty.ind fun k ks ih t' G cells cells' hr hr' => ?_
 obtain ⟨k', ks'⟩ := t'
 obtain ⟨p, c, es, rfl, hk, hsl, hkl⟩ := hr.open
 obtain ⟨p', c', es', rfl, hk', hsl', hkl'⟩ := hr'.open
 simp only [Ty.k, Ty.ks] at hk hsl hkl hk' hsl' hkl' ⊢
 obtain ⟨A, hA⟩ : ∃ A, Y6 ks ks' = A := ⟨_, rfl⟩
 have hA' : A = true ↔ ks.length = ks'.length ∧ ∀ i, i < ks.length → N1 (ks.getD i B7) (ks'.getD i B7) = true := by
  rw [← hA, A3x]
  constructor
  ·rintro ⟨h1, h2⟩
   refine ⟨h1, fun i hi => ?_⟩
   have := h2 i hi (by omega)
   simpa [List.getD_eq_getElem?_getD, List.getElem?_eq_getElem hi, List.getElem?_eq_getElem (show i < ks'.length by omega)] using this
  ·rintro ⟨h1, h2⟩
   refine ⟨h1, fun i hi hi' => ?_⟩
   have := h2 i hi
   simpa [List.getD_eq_getElem?_getD, List.getElem?_eq_getElem hi, List.getElem?_eq_getElem hi'] using this
 refine C3 Tryz.func156 rfl Tryz.ntmps156 Tryz.results156 rfl ?_
 intro w0
 refine A3 ?_
 refine sE (C8 rfl rfl) rfl (fun b3 => ?_)
 refine sE (C8 rfl rfl) rfl (fun b4 => ?_)
 refine E0 ?_
 refine sB (qE rfl rfl) rfl rfl (fun h14 => ?_) (fun h14 => ?_)
 refine A9 ?_
 refine H6 rfl (A7V _ _ _ _ _ _ _ _ _ hsl hsl' _ [] [] [] (fun i => N1 (ks.getD i B7) (ks'.getD i B7)) A hA' (fun i e e' he he' => ih _ (hkl.inv he B7).1 _ _ _ _ (hkl.inv he B7).2 (hkl'.inv he' B7).2)) rfl rfl ?_
 refine A8 ?_
 exact A8S
 refine N0 ?_
 exact A8S
theorem A1Q (k : Int) (a b : Ty) (G : IM) (ca cb : List Value) (hk : E8 k) (hra : B9 G a ca) (hrb : B9 G b cb) :
  Fn Tryz.prog 152 [.int .i64 k, .agg ⟨ca⟩, .agg ⟨cb⟩] [] G (A51 (.mk k [a, b]) G) := by
 obtain ⟨pa, cca, ea, rfl, _⟩ := hra.open
 obtain ⟨pb, ccb, eb, rfl, _⟩ := hrb.open
 refine C3 Tryz.func152 rfl Tryz.ntmps152 Tryz.results152 rfl ?_
 intro w0
 refine A3 ?_
 refine sE (C8 rfl rfl) rfl (fun b3 => ?_)
 refine sE (C8 rfl rfl) rfl (fun b4 => ?_)
 refine sE (A6 rfl) rfl (fun b5 => ?_)
 refine B2 ?_
 (refine I7 (C7 rfl rfl rfl (by omega) (by unfold maxLen; omega) rfl) rfl ?_; rintro _ ⟨b13, rfl⟩)
 refine B1 ?_
 (refine F9 (by repeat (first | exact Pk.here | apply Pk.there)) (fun G5 hle5 hsl5 hno5 => ?_))
 refine tT ?_
 refine M7 (rC rfl (A4 rfl rfl)) ?_
 exact ⟨rfl, _, rfl, B3j hk (hra.mono hle5) (hrb.mono hle5) hsl5⟩
theorem A0Y (k tk : Int) (ks : List Ty) : R0 k (.mk tk ks) = if tk = k then some (ks.getD 0 B7, ks.getD 1 B7) else if tk = 1 then some (P9, P9) else none := rfl
def A8T (k : Int) (t : Ty) (G : IM) : IM → Value → List A5 → Prop := L8 fun G' v => ∃ a ca b cb, v = .tuple ⟨[.agg ⟨ca⟩, .agg ⟨cb⟩, .bool (R0 k t).isSome]⟩ ∧ B9 G' a ca ∧ B9 G' b cb ∧ E5 a ∧ E5 b ∧ ∀ p, R0 k t = some p → p = (a, b)
theorem A8U (k : Int) (t : Ty) (G : IM) (cells : List Value) (hk : k = 4 ∨ k = 5) (ha : E5 t) (hr : B9 G t cells) :
  Fn Tryz.prog 153 [.agg ⟨cells⟩, .int .i64 k] [] G (A8T k t G) := by
 obtain ⟨tk, ks⟩ := t
 have ha2 := ha
 rw [E5] at ha2
 have hkid := ha.kid
 obtain ⟨p, c, es, rfl, htk, hsl, hkl⟩ := hr.open
 simp only [Ty.k, Ty.ks] at htk hsl hkl ⊢
 refine C3 Tryz.func153 rfl Tryz.ntmps153 Tryz.results153 rfl ?_
 intro w0
 refine A3 ?_
 refine sE (C8 rfl rfl) rfl (fun b3 => ?_)
 refine sE (A6 rfl) rfl (fun b4 => ?_)
 refine sE (A6 rfl) rfl (fun b5 => ?_)
 refine J2 ?_
 refine C1 (tS (tR (sQ (qM rfl) rfl (sB (qE rfl rfl) rfl rfl (fun h20 => ?_) (fun h20 => ?_)))))
 refine A9 ?_
 (have hlen : ks.length = 2 := ha2.1 (by omega); obtain ⟨b, o, q0, d0, hp0, hat0, hre0, hg0⟩ := hsl.kidTy hkl (i := 0) (by omega) (by omega); obtain ⟨b', o', q1, d1, hp1, hat1, hre1, hg1⟩ := hsl.kidTy hkl (i := 1) (by omega) (by omega); subst hp0; cases hp1; refine D7 D8 rfl ?_)
 refine I9 (i := 0) (l' := [tt,ff,ff,ff,ff,ff,ff,ff,ff,ff,ff]) rfl D1 (B5 rfl) rfl (by kernel_rfl) rfl rfl ?_
 refine aL 1 rfl (C4 rfl rfl) rfl ?_
 refine aP 2 rfl (B4 (j := 0) rfl rfl rfl (by omega)) rfl ?_
 refine aL 3 rfl (A2 rfl rfl (hat0 _) rfl) rfl ?_
 refine aP 4 rfl (B5 rfl) rfl ?_
 refine aL 5 rfl (C4 rfl rfl) rfl ?_
 refine aP 6 rfl (B4 (j := 1) rfl rfl rfl (by omega)) rfl ?_
 refine aL 7 rfl (A2 rfl rfl (hat1 _) rfl) rfl ?_
 refine A1 8 ?_
 refine H1 rfl ?_
 refine A1 9 ?_
 refine H1 rfl ?_
 refine aP 10 rfl (qA rfl) rfl ?_
 refine A9 ?_
 refine C9 (rC rfl (A4 rfl rfl)) (rC rfl (A4 rfl rfl)) (rT rfl) ?_
 (refine ⟨rfl, _, _, _, _, ?_, hre0, hre1, hkid _ (List.getElem_mem (by omega)), hkid _ (List.getElem_mem (by omega)), ?_⟩ <;> rw [A0Y, if_pos (by omega)] <;> first | rfl | (intro p hp; cases hp; simp [hlen]))
 refine A8 ?_
 refine sB (qE rfl rfl) rfl rfl (fun h53 => ?_) (fun h53 => ?_)
 refine A8 ?_
 refine H6 rfl ((A1v _ _)) rfl rfl ?_
 refine H6 rfl ((A1v _ _)) rfl rfl ?_
 refine D4 ?_
 refine C9 (rC rfl (A4 rfl rfl)) (rC rfl (A4 rfl rfl)) (rT rfl) ?_
 (refine ⟨rfl, _, _, _, _, ?_, A0u _, A0u _, A3u, A3u, ?_⟩ <;> rw [A0Y, if_neg (by omega), if_pos (by omega)] <;> first | rfl | (intro p hp; cases hp; rfl))
 refine T1 ?_
 refine C9 (rC rfl (A4 rfl rfl)) (rC rfl (A4 rfl rfl)) (rT rfl) ?_
 (refine ⟨rfl, B7, _, B7, _, ?_, O0 _ ⟨by omega, by omega⟩, O0 _ ⟨by omega, by omega⟩, V3 (by omega) (by omega), V3 (by omega) (by omega), ?_⟩ <;> rw [A0Y, if_neg (by omega), if_neg (by omega)] <;> first | rfl | (intro p hp; cases hp))
def A2U (G : IM) (b : ByteArray × Ty) (e : List Value) : Prop := ∃ q d, e = [.string b.1, .int .i64 b.2.k, .slice q b.2.ks.length d] ∧ B9 G b.2 [.int .i64 b.2.k, .slice q b.2.ks.length d]
theorem A2U.mono {G G' : IM} {b : ByteArray × Ty} {e : List Value} (h : A2U G b e) (hg : C0 G G') : A2U G' b e := by
 obtain ⟨q, d, h1, h2⟩ := h
 exact ⟨q, d, h1, h2.mono hg⟩
def S3 (G : IM) (cx : Cx) (p : Option Addr) (n c : Nat) : Prop := n = cx.length ∧ ∃ es : List (List Value), D5 G p n c 3 es ∧ ∀ (i : Nat) (b : ByteArray × Ty), cx[i]? = some b → ∃ e, es[i]? = some e ∧ A2U G b e
theorem S3.mono {G G' : IM} {cx : Cx} {p : Option Addr} {n c : Nat} (h : S3 G cx p n c) (hg : C0 G G') : S3 G' cx p n c := by
 obtain ⟨h1, es, h2, h3⟩ := h
 refine ⟨h1, es, h2.mono hg, fun i b hb => ?_⟩
 obtain ⟨e, he, hr⟩ := h3 i b hb
 exact ⟨e, he, hr.mono hg⟩
theorem S3.nil (G : IM) : S3 G [] none 0 0 := ⟨rfl, [], D5.nil _ _, by simp⟩
theorem S3.le {G : IM} {cx : Cx} {p : Option Addr} {n c : Nat} (h : S3 G cx p n c) : n ≤ 9223372036854775807 := by
 obtain ⟨h1, es, h2, h3⟩ := h
 exact h2.le
theorem S3.get {G : IM} {cx : Cx} {p : Option Addr} {n c : Nat} (h : S3 G cx p n c) {i : Nat} (hi : i < n) :
  ∃ b o nm t q d, cx[i]? = some (nm, t) ∧ p = some ⟨b, o, none⟩ ∧ (∀ hp, At hp G b (o + i * 3) [.string nm, .int .i64 t.k, .slice q t.ks.length d]) ∧ B9 G t [.int .i64 t.k, .slice q t.ks.length d] ∧ G b ≠ none := by
 obtain ⟨h1, es, h2, h3⟩ := h
 obtain ⟨e, b, o, he, rfl, hl, _, hat, hgb⟩ := h2.get (i := i) (by omega)
 have hx : cx[i]? = some cx[i] := List.getElem?_eq_getElem (by omega)
 obtain ⟨e', he', q, d, h4, h5⟩ := h3 i _ hx
 rw [he] at he'
 obtain rfl := Option.some.inj he'
 rw [h4] at hat
 exact ⟨b, o, cx[i].1, cx[i].2, q, d, hx, rfl, hat, h5, hgb⟩
theorem B3k (G : IM) (cx : Cx) (p : Option Addr) (n c : Nat) (nm : ByteArray) (hx : S3 G cx p n c) :
  Fn Tryz.prog 151 [.slice p n c, .string nm] [] G (A1E (O8 cx nm) G) := by
 have hn := hx.le
 have hn1 := hx.1
 refine C3 Tryz.func151 rfl Tryz.ntmps151 Tryz.results151 rfl ?_
 intro w0
 refine A3 ?_
 refine sE (A6 rfl) rfl (fun b3 => ?_)
 refine D4 ?_
 refine sP (O5 rfl rfl (by omega) (by omega)) rfl rfl ?_
 refine B6 ?_
 refine C1 ?_
 (refine J8 (fun (i : Nat) => ⟨[(6, .int .i64 ((i : Int) - 1)), (0, .slice p n c), (1, .string nm), (4, .pointer (some ⟨b3, 0, none⟩))], [.blk b3 [.int .i64 0, .slice none 0 0]], G⟩) (fun i => i ≤ n ∧ U9 cx nm i = O8 cx nm) (fun i => i) n ?_ ?_ ?_)
 exact E2
 exact ⟨Nat.le_refl _, by rw [hn1]; rfl⟩
 (rintro i ⟨hi, hlk⟩)
 refine B1 ?_
 refine sB (A0L rfl rfl) rfl rfl (fun h25 => ?_) (fun h25 => ?_)
 refine A8 ?_
 (show I4 _ _ (.block 1 _) _ _; obtain ⟨j, rfl⟩ : ∃ j, i = j + 1 := ⟨i - 1, by omega⟩; rw [show ((j + 1 : Nat) : Int) - 1 = (j : Int) from by omega]; obtain ⟨b, o, nm1, t1, q1, d1, hcx, rfl, hat, hr1, hgb⟩ := hx.get (i := j) (by omega); refine C1 ?_)
 refine B1 ?_
 refine sP (B4 rfl rfl rfl (by omega)) rfl rfl ?_
 refine E6 ?_
 refine sL (A0p rfl rfl ((hat _).sub (j := 0) rfl)) rfl rfl ?_
 refine E6 ?_
 refine sB (A04 rfl rfl) rfl rfl (fun h41 => ?_) (fun h41 => ?_)
 refine B2 ?_
 refine sP (B4 rfl rfl rfl (by omega)) rfl rfl ?_
 refine E6 ?_
 refine sL (A2 rfl rfl (hat _).drop rfl) rfl rfl ?_
 refine J2 ?_
 refine I1 (rC rfl (A4 rfl rfl)) (rT rfl) ?_
 (rw [A3y hcx (by assumption)] at hlk; rw [← hlk]; exact ⟨rfl, _, _, rfl, hr1, fun t ht => by cases ht; rfl⟩)
 refine D4 ?_
 refine sP (O5 rfl rfl (by omega) (by omega)) rfl rfl ?_
 refine A3 ?_
 refine J6 j ?_ ?_ ?_
 exact E2
 (rw [A3z hcx (by assumption)] at hlk; exact ⟨by omega, hlk⟩)
 (show _ < _ + 1; omega)
 refine J9 ?_
 refine I1 (rC rfl (A4 rfl rfl)) (rT rfl) ?_
 (obtain rfl : i = 0 := (by omega); rw [U9] at hlk; rw [← hlk]; exact ⟨rfl, _, B7, rfl, O0 _ ⟨by omega, by omega⟩, fun t ht => by cases ht⟩)
theorem B3l {xs ys : List Ty} (h : xs.length = 2) (h' : ys.length = 2) : T4 xs ys = [U4 (xs[0]'(by omega)) (ys[0]'(by omega)), U4 (xs[1]'(by omega)) (ys[1]'(by omega))] := by
 match xs, ys, h, h' with
 | [a, b], [c, d], _, _ => rfl
theorem B3m {k k' : Int} {ks bs : List Ty} (h : K1 (.mk k ks) (.mk k' bs) = true) (hk : k ≠ 1) (hk' : k' ≠ 1) : k = k' ∧ P4 ks bs = true := by
 rw [Y4] at h
 simpa [hk, hk'] using h
theorem A8V : ∀ (a b : Ty) (G : IM) (ca cb : List Value), K1 a b = true → E5 a → E5 b → B9 G a ca → B9 G b cb →
  Fn Tryz.prog 155 [.agg ⟨ca⟩, .agg ⟨cb⟩] [] G (A51 (U4 a b) G) := by
 refine Ty.ind fun k ks ih b G ca cb hc haa hab hra hrb => ?_
 have hsa := haa.small
 have hsb := hab.small
 obtain ⟨bk, bks⟩ := b
 have hra0 := hra
 have hrb0 := hrb
 have ha2 := haa
 have hb2 := hab
 rw [E5] at ha2 hb2
 have hkida := haa.kid
 have hkidb := hab.kid
 obtain ⟨p, c, es, rfl, hk, hsl, hkl⟩ := hra.open
 obtain ⟨p', c', es', rfl, hk', hsl', hkl'⟩ := hrb.open
 simp only [Ty.k, Ty.ks] at hk hsl hkl hk' hsl' hkl' ⊢
 have hn := hsl.le
 rw [A2J]
 refine C3 Tryz.func155 rfl Tryz.ntmps155 Tryz.results155 rfl ?_
 intro w0
 refine A3 ?_
 refine sE (C8 rfl rfl) rfl (fun b3 => ?_)
 refine sE (C8 rfl rfl) rfl (fun b4 => ?_)
 refine sE (A6 rfl) rfl (fun b5 => ?_)
 refine B6 ?_
 refine C1 ?_
 refine B1 ?_
 refine sB (qE rfl rfl) rfl rfl (fun h14 => ?_) (fun h14 => ?_)
 refine B2 ?_
 (refine E7 rfl (A2K _ _ _ hsb hrb0) rfl rfl (fun v G1 hle1 hh => ?_); obtain ⟨cs1, F1, rfl, hs1, hn1⟩ := hh; obtain ⟨p1, c1, rfl, _⟩ := hs1.open; have hr1 := hs1.R.mono (C5.le G1 _))
 refine A8 ?_
 refine M7 (rC rfl (A4 rfl rfl)) ?_
 (rw [if_pos (by omega)]; exact ⟨rfl, _, rfl, hr1⟩)
 refine D4 ?_
 refine sB (qE rfl rfl) rfl rfl (fun h39 => ?_) (fun h39 => ?_)
 refine K5 ?_
 (refine E7 rfl (A2K _ _ _ hsa hra0) rfl rfl (fun v G1 hle1 hh => ?_); obtain ⟨cs1, F1, rfl, hs1, hn1⟩ := hh; obtain ⟨p1, c1, rfl, _⟩ := hs1.open; have hr1 := hs1.R.mono (C5.le G1 _))
 refine A8 ?_
 refine M7 (rC rfl (A4 rfl rfl)) ?_
 (rw [if_neg (by omega)]; split <;> first | exact ⟨rfl, _, rfl, hr1⟩ | (obtain rfl : ks = [] := List.length_eq_zero_iff.1 (by omega); rw [T4]; exact ⟨rfl, _, rfl, hr1⟩; simp))
 refine B1 ?_
 refine sB (qE rfl rfl) rfl rfl (fun h66 => ?_) (fun h66 => ?_)
 refine D4 ?_
 (refine E7 rfl (A2K _ _ _ hsa hra0) rfl rfl (fun v G1 hle1 hh => ?_); obtain ⟨cs1, F1, rfl, hs1, hn1⟩ := hh; obtain ⟨p1, c1, rfl, _⟩ := hs1.open; have hr1 := hs1.R.mono (C5.le G1 _))
 refine A8 ?_
 refine M7 (rC rfl (A4 rfl rfl)) ?_
 (rw [if_neg (by omega)]; split <;> first | exact ⟨rfl, _, rfl, hr1⟩ | (obtain rfl : ks = [] := List.length_eq_zero_iff.1 (by omega); rw [T4]; exact ⟨rfl, _, rfl, hr1⟩; simp))
 refine E0 ?_
 (obtain ⟨hkk, hcl0⟩ := B3m hc (by omega) (by omega); subst hkk; have hcl := (A17 _ _).1 hcl0; have hlen : ks.length = 2 := (by have := ha2.2.1; have := ha2.1; omega); have hlen' : bks.length = 2 := (by omega); obtain ⟨b0, o0, q0, d0, hp0, hat0, hre0, hg0⟩ := hsl.kidTy hkl (i := 0) (by omega) (by omega); obtain ⟨b1, o1, q1, d1, hp1, hat1, hre1, hg1⟩ := hsl.kidTy hkl (i := 1) (by omega) (by omega); subst hp0; cases hp1; obtain ⟨b2, o2, q2, d2, hp2, hat2, hre2, hg2⟩ := hsl'.kidTy hkl' (i := 0) (by omega) (by omega); obtain ⟨b3, o3, q3, d3, hp3, hat3, hre3, hg3⟩ := hsl'.kidTy hkl' (i := 1) (by omega) (by omega); subst hp2; cases hp3; have hM1 := ih ks[0] (List.getElem_mem (by omega)) bks[0] G _ _ (hcl.2 0 (by omega) (by omega)) (hkida _ (List.getElem_mem (by omega))) (hkidb _ (List.getElem_mem (by omega))) hre0 hre2; refine D7 D8 rfl ?_)
 refine I9 (i := 0) (l' := [tt,ff,ff,ff,ff,ff,ff,ff,ff,ff,ff,ff,ff,ff,ff,ff,ff,ff,ff,ff,ff,ff]) rfl D1 (B5 rfl) rfl (by kernel_rfl) rfl rfl ?_
 refine aL 1 rfl (C4 rfl rfl) rfl ?_
 refine aP 2 rfl (B5 rfl) rfl ?_
 refine aL 3 rfl (C4 rfl rfl) rfl ?_
 refine aP 4 rfl (B4 (j := 0) rfl rfl rfl (by omega)) rfl ?_
 refine aL 5 rfl (A2 rfl rfl (hat0 _) rfl) rfl ?_
 refine aP 6 rfl (B5 rfl) rfl ?_
 refine aL 7 rfl (C4 rfl rfl) rfl ?_
 refine aP 8 rfl (B4 (j := 0) rfl rfl rfl (by omega)) rfl ?_
 refine aL 9 rfl (A2 rfl rfl (hat2 _) rfl) rfl ?_
 refine aP 11 rfl (B5 rfl) rfl ?_
 refine aL 12 rfl (C4 rfl rfl) rfl ?_
 refine aP 13 rfl (B4 (j := 1) rfl rfl rfl (by omega)) rfl ?_
 refine aL 14 rfl (A2 rfl rfl (hat1 _) rfl) rfl ?_
 refine aP 15 rfl (B5 rfl) rfl ?_
 refine aL 16 rfl (C4 rfl rfl) rfl ?_
 refine aP 17 rfl (B4 (j := 1) rfl rfl rfl (by omega)) rfl ?_
 refine aL 18 rfl (A2 rfl rfl (hat3 _) rfl) rfl ?_
 refine A1 10 ?_
 (refine H0 rfl rfl hM1 rfl rfl rfl (fun v G1 hle1 hh => ?_); obtain ⟨cm1, rfl, hm1⟩ := hh; have hM2 := ih ks[1] (List.getElem_mem (by omega)) bks[1] G1 _ _ (hcl.2 1 (by omega) (by omega)) (hkida _ (List.getElem_mem (by omega))) (hkidb _ (List.getElem_mem (by omega))) (hre1.mono hle1) (hre3.mono hle1))
 refine A1 19 ?_
 (refine H0 rfl rfl hM2 rfl rfl rfl (fun v G2 hle2 hh => ?_); obtain ⟨cm2, rfl, hm2⟩ := hh; have hB := A1Q k _ _ G2 _ _ hk (hm1.mono hle2) hm2)
 refine A1 20 ?_
 (refine H0 rfl rfl hB rfl rfl rfl (fun v G3 hle3 hh => ?_); obtain ⟨cm3, rfl, hm3⟩ := hh; obtain ⟨p5, c5, e5, rfl, _⟩ := hm3.open)
 refine A1 21 ?_
 refine H1 rfl ?_
 refine B6 ?_
 refine M7 (rC rfl (A4 rfl rfl)) ?_
 (rw [if_neg (by omega), if_neg (by omega)]; rw [B3l hlen hlen']; exact ⟨rfl, _, rfl, hm3⟩)
theorem B3n (G : IM) (p : Option Addr) (n c : Nat) (es : List (List Value)) (h : D5 G p n c 9 es) (h0 : 0 < n) (hn : n ≤ 4294967296) :
  Fn Tryz.prog 228 [.slice p n c] [] G (fun G' v outs => G' = G ∧ ∃ p' c', v = .slice p' n c' ∧ outs = [.slc p' c' 37 9 n es.flatten]) := by
 obtain ⟨hl, hc, hm, hat⟩ := h.sl
 obtain ⟨b, o, full, rfl, hg, hv⟩ := hat.resolve_left (by omega)
 have ho : ∀ u ∈ es.flatten, u.oneCell' = true := by
  intro u hu
  obtain ⟨e, he, hue⟩ := List.mem_flatten.1 hu
  exact List.all_eq_true.1 (h.one e he) u hue
 refine C3 Tryz.func228 rfl Tryz.ntmps228 Tryz.results228 rfl ?_
 intro w0
 refine E0 ?_
 refine sQ (A7b rfl rfl rfl) rfl ?_
 refine B2 ?_
 (refine I7 (C7 rfl rfl rfl (by omega) (by unfold maxLen; omega) rfl) rfl ?_; rintro _ ⟨b18, rfl⟩)
 refine E6 ?_
 refine A0z rfl rfl rfl rfl rfl (fun _ _ => by repeat (first | exact Sw.here | apply Sw.there)) (A4b hg hv) hl ho (by unfold maxLen; omega) (by omega) rfl (fun pn cn => ?_)
 refine B1 ?_
 refine H2 (rT rfl) A0.refl ?_
 exact ⟨rfl, _, _, by rw [Nat.zero_add], by rw [Nat.zero_add]; rfl⟩
theorem At.mono' {hp : List A5} {G G' : IM} {b o : Nat} {vs : List Value} (hg : C0 G G') (h : At [] G b o vs) : At hp G' b o vs := by
 rcases h with ⟨cs, hm, hv⟩ | ⟨n, c, el, sz, cs, hm, hv⟩ | ⟨full, hx, hv⟩
 ·cases hm
 ·cases hm
 ·exact .inr (.inr ⟨full, hg _ _ hx, hv⟩)
end Gw
end Go.Proofs.YtebfignffjhnhaaGreatDoor
