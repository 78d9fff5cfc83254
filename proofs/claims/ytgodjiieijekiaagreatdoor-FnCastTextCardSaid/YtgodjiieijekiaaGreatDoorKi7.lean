/-
  The program reads a number.
-/
import Derived.Test.YtgodjiieijekiaaGreatDoorKi0
import Derived.Test.YtgodjiieijekiaaGreatDoorKi6
import Derived.WideLaws
import Derived.Lib.AtoiErrMem
import Derived.Test.YtgodjiieijekiaaGreatDoorKi1
import Derived.Test.YtgodjiieijekiaaGreatDoorKi2
import Derived.Test.YtgodjiieijekiaaGreatDoorKi4
set_option linter.unusedVariables false
set_option linter.unusedSimpArgs false
set_option maxHeartbeats 0
set_option maxRecDepth 100000
set_option synthInstance.maxSize 4000
set_option synthInstance.maxHeartbeats 0
namespace Go.Proofs.YtgodjiieijekiaaGreatDoor
open Go Go.RowKit
namespace Gw
section ilaws
variable {P : Program} {Γ : K0} {env : K3} {hp : List A4} {G : IM} {ty : TypeId}
theorem A30 {x y : Operand} {t t' u : TypeId} {v : Value} (h : P.underlying t = some (.interface (P.methodsAt t))) (hx : evo env x = some (.iface u v)) (hy : evo env y = some .nilIface) :
  H5 P Γ ⟨env, hp, G⟩ (.binOp .neq t x y t') ty (.bool true) := by
 refine ⟨fun a _ hs _ _ _ _ w => ?_⟩
 have hr := run_neq_held_nil w t u v h
 simp only [execOp, eqGuard, (hs.evo hx : a.eval x = _), (hs.evo hy : a.eval y = _), Sem.run_bind, Sem.run_pure, Result.andThen_ok, hr]
 simp [hr]
theorem A31 {x : Operand} {t t' : TypeId} (h : P.underlying t = some (.interface (P.methodsAt t))) (hx : evo env x = some .nilIface) :
  H5 P Γ ⟨env, hp, G⟩ (.binOp .neq t x (.const .nilIface) t') ty (.bool false) := by
 refine ⟨fun a _ hs _ _ _ _ w => ?_⟩
 have hr := run_neq_nil_nil w t h
 have hy : a.eval (.const .nilIface) = .nilIface := rfl
 simp only [execOp, eqGuard, (hs.evo hx : a.eval x = _), hy, Sem.run_bind, Sem.run_pure, Result.andThen_ok, hr]
 simp [hr]
end ilaws
theorem A1t : Tryz.prog.underlying 177 = some (.interface (Tryz.prog.methodsAt 177)) := by kernel_rfl
def A0y (G : IM) : Prop := (∃ g t q, Tryz.prog.globalNamed "strconv.ErrSyntax" = some g ∧ G g = some [.iface t q]) ∧ (∃ g t q, Tryz.prog.globalNamed "strconv.ErrRange" = some g ∧ G g = some [.iface t q])
theorem A0y.mono {G G' : IM} (h : A0y G) (hg : B2 G G') : A0y G' := by
 obtain ⟨⟨g, t, q, h1, h2⟩, g', t', q', h3, h4⟩ := h
 exact ⟨⟨g, t, q, h1, hg g _ h2⟩, g', t', q', h3, hg g' _ h4⟩
theorem A6I {G : IM} {w w' : World} (hw : T0 [] G w) (hB : Below w.heap.size w w') : R7 [] G w [] G w' := by
 refine ⟨⟨?_, by simp, by simp [Fp], by simp [Fp]⟩, ⟨hB.os, hB.tape, hB.output, hB.size, fun b h _ => hB.block b h⟩, B2.refl _, fun _ _ h => .inl h, by simp [Fp], fun b l h h0 => absurd h (by rw [h0]; simp)⟩
 intro b l h
 obtain ⟨e, f, hh⟩ := hw.inn b l h
 exact ⟨e, f, by rw [hB.block b (A0z hh)]; exact hh⟩
theorem A96 {G : IM} {w : World} (hw : T0 [] G w) {g : Nat} {t : TypeId} {q : Value} {nm : String} (h1 : Tryz.prog.globalNamed nm = some g) (h2 : G g = some [.iface t q]) : w.var? Tryz.prog nm = some #[.iface t q] := by
 obtain ⟨e, f, hh⟩ := hw.inn g _ h2
 unfold World.var?
 rw [h1]
 simp only [Option.bind_some, hh]
theorem A32 (s : ByteArray) (G : IM) (hE : A0y G) (hs : s.size ≤ 281474976710656) : Fn Tryz.prog 189 [.string s] [] G (fun G' v outs => G' = G ∧ outs = [] ∧
  ((∃ n, Lib.atoiAll s.data.toList = .ok n ∧ H4 n ∧ v = .tuple ⟨[.int .i64 n, .nilIface]⟩) ∨ (∃ n t q, (∀ m, Lib.atoiAll s.data.toList ≠ .ok m) ∧ H4 n ∧ v = .tuple ⟨[.int .i64 n, .iface t q]⟩))) := by
 refine ⟨fun w hw => ?_⟩
 obtain ⟨⟨g, t, q, h1, h2⟩, g', t', q', h3, h4⟩ := hE
 cases hA : Lib.atoiAll s.data.toList
 ·rename_i n
  refine (Tryz.strconv_Atoi_ok s (by omega) n hA w).mono ?_
  rintro e w' ⟨rfl, hw'⟩
  have hB : Below w.heap.size w w' := by
   rcases hw' with rfl | ⟨t, rfl⟩
   ·exact Below.refl _ _
   ·exact Lib.bytesWorld_below _ _ _
  exact ⟨_, G, [], rfl, A6I hw hB, rfl, rfl, .inl ⟨n, rfl, Lib.atoiAll_bounds hA, rfl⟩⟩
 ·refine (Any.strconv_Atoi_syntax_var Tryz.laysC172 s hs hA t q w (A96 hw h1 h2)).mono ?_
  rintro e w' ⟨N, rfl, _, _, hB⟩
  exact ⟨_, G, [], rfl, A6I hw hB, rfl, rfl, .inr ⟨0, _, _, (fun m h => by cases h), ⟨by decide, by decide⟩, rfl⟩⟩
 ·refine (Any.strconv_Atoi_range_var Tryz.laysC172 s hs hA t' q' w (A96 hw h3 h4)).mono ?_
  rintro e w' ⟨N, rfl, _, _, hB⟩
  exact ⟨_, G, [], rfl, A6I hw hB, rfl, rfl, .inr ⟨_, _, _, (fun m h => by cases h), Lib.atoiSat_bounds _, rfl⟩⟩
end Gw
end Go.Proofs.YtgodjiieijekiaaGreatDoor
namespace Go.Proofs.YtgodjiieijekiaaGreatDoor
open Go Go.RowKit Go.ChangeShapes Go.WideShapes Go.ChangeAt
namespace Gw
theorem A6J : Tryz.prog.globalNamed "strconv.ErrSyntax" = some 2 := by kernel_rfl
theorem A6K : Tryz.prog.globalNamed "strconv.ErrRange" = some 3 := by kernel_rfl
theorem B4P : (Tryz.prog.globals[2]?).map (·.type) = some 177 := by kernel_rfl
theorem B4Q : (Tryz.prog.globals[3]?).map (·.type) = some 177 := by kernel_rfl
theorem A97 : Tryz.prog.cellsOf 237 = 1 := by kernel_rfl
theorem A98 : Tryz.prog.cellsOf 9 = 1 := by kernel_rfl
theorem A99 : "*" ++ "errors.errorString" = "*errors.errorString" := by decide
theorem B0a (u : TypeId) (h : Tryz.prog.typeName? 3 u = some "*errors.errorString") : u = 235 :=
 typeName_ptr_named (nm := "errors.errorString") (by rw [A99]; kernel_rfl) (by kernel_rfl) (by decide) u (by rw [A99]; exact h)
def B0b : List (String × DataW Unit) := [("math/bits.deBruijn32tab", Rows.laid_math_bits_deBruijn32tab), ("math/bits.deBruijn64tab", Rows.laid_math_bits_deBruijn64tab), ("internal/strconv.uint64pow10", Rows.laid_internal_strconv_uint64pow10), ("strconv.ErrRange", Rows.laid_strconv_ErrRange), ("strconv.ErrSyntax", Rows.laid_strconv_ErrSyntax)]
theorem A6L {W : World} {n : String} {g : Nat} {cs : Array Value} (hg : Tryz.prog.globalNamed n = some g) (h : W.var? Tryz.prog n = some cs) : GW W g = some cs.toList := by
 unfold World.var? at h
 rw [hg] at h
 simp only [Option.bind_some] at h
 unfold GW
 split at h
 ·rename_i c e f hb
  rw [hb]
  have := Option.some.inj h
  simp [this]
 ·cases h
theorem B4R {W : World} (h : laidMetH Tryz.prog B0b W) : A1m (GW W) ∧ A0y (GW W) := by
 have h1 : laidMet Tryz.prog B0b W := h
 have h3 := h1.tail.tail
 have ht : Lib.TabIs Tryz.prog W "internal/strconv.uint64pow10" .u64 Lib.pow10Tab :=
  Lib.tabIs_of_head A5M B15 Tryz.underlying212 Tryz.underlying194 B17 B16 h3
 obtain ⟨a0, s0, hv0, _, _, _⟩ := laid_sentinel h3.tail A6K B4Q Tryz.underlying177 B0a Tryz.underlying235 Tryz.underlying237 rfl rfl Tryz.underlying9 A97 A98
 obtain ⟨a1, s1, hv1, _, _, _⟩ := laid_sentinel h3.tail.tail A6J B4P Tryz.underlying177 B0a Tryz.underlying235 Tryz.underlying237 rfl rfl Tryz.underlying9 A97 A98
 refine ⟨⟨1, A5M, ?_⟩, ⟨2, _, _, A6J, A6L A6J hv1⟩, ⟨3, _, _, A6K, A6L A6K hv0⟩⟩
 have := A6L A5M ht
 simpa using this
noncomputable def B0c : Nat := (World.holding Tryz.prog default ⟨#[], #[], []⟩).heap.size
abbrev B0d : ByteArray := ⟨#[105, 110, 118, 97, 108, 105, 100, 32, 115, 121, 110, 116, 97, 120]⟩
abbrev B0e : ByteArray := ⟨#[118, 97, 108, 117, 101, 32, 111, 117, 116, 32, 111, 102, 32, 114, 97, 110, 103, 101]⟩
noncomputable def A6M (os : Os) : World :=
 { World.holding Tryz.prog os ⟨#[.cells #[.string B0d] 237, .cells #[.string B0e] 237], #[], []⟩ with
  heap := (((((World.holding Tryz.prog os ⟨#[.cells #[.string B0d] 237, .cells #[.string B0e] 237], #[], []⟩).heap.modify 1 (A1W (A2W Rows.laid_internal_strconv_uint64pow10))).modify 4 (A1W (A2W Rows.laid_math_bits_deBruijn32tab))).modify 5 (A1W (A2W Rows.laid_math_bits_deBruijn64tab))).modify 2 (A1W #[.iface 235 (.pointer (some ⟨B0c, 0, none⟩))])).modify 3 (A1W #[.iface 235 (.pointer (some ⟨B0c + 1, 0, none⟩))]) }
end Gw
end Go.Proofs.YtgodjiieijekiaaGreatDoor
namespace Go.Proofs.YtgodjiieijekiaaGreatDoor
open Go Go.RowKit Go.ChangeShapes Go.WideShapes Go.ChangeAt
namespace Gw
section read2
variable {H : Type} {enc : TypeId × Value → H} {w : World} {sp : Nat → Bool} {held : Bool}
end read2
end Gw
end Go.Proofs.YtgodjiieijekiaaGreatDoor
namespace Go.Proofs.YtgodjiieijekiaaGreatDoor
open Go Go.RowKit Go.ChangeShapes Go.WideShapes Go.ChangeAt
namespace Gw
theorem B4S : Tryz.prog.cellsOf 5 = 1 := by kernel_rfl
theorem B0f {q : Nat → Value → Prop} : ∀ {n : Nat}, (∀ i, i < n → ∃ k : UInt8, q i (.int .u8 (k.toNat : Int))) → ∃ l : List UInt8, l.length = n ∧ ∀ i v, (N2 l)[i]? = some v → q i v
 | 0, _ => ⟨[], rfl, by simp [N2]⟩
 | n + 1, h => by
  obtain ⟨l, h1, h2⟩ := B0f (n := n) fun i hi => h i (by omega)
  obtain ⟨k, hk⟩ := h n (by omega)
  refine ⟨l ++ [k], by simp [h1], fun i v hv => ?_⟩
  rw [show N2 (l ++ [k]) = N2 l ++ [.int .u8 (k.toNat : Int)] from by simp [N2], List.getElem?_append] at hv
  split at hv
  ·exact h2 i v hv
  ·rename_i hi
   rw [A8i] at hi hv
   have : i - l.length = 0 := by
    have := (List.getElem?_eq_some_iff.1 hv).1; simp at this; omega
   rw [this] at hv; simp at hv; subst hv
   rw [show i = n by omega]; exact hk
section read2
variable {H : Type} {enc : TypeId × Value → H} {w : World} {sp : Nat → Bool} {held : Bool}
theorem B0g (n : Nat) (cs : List Value) (x : DataW H × List MemPlace) (h : DataW.trod enc Tryz.prog w 0 sp held n 22 cs = some x) : ∃ (l : List UInt8) (p : Option Addr) (c : Nat), cs = [.slice p l.length c] ∧ Sl (GW w) p l.length c 1 (N2 l) := by
 rcases DataW.trod_slice Tryz.underlying22 h with ⟨rfl, _⟩ | ⟨ad, len, cap, elems, rest, n', rfl, rfl, _, _, hlc, hcm, hel, hele, _, _⟩
 ·exact ⟨[], none, 0, rfl, Sl.nil _ _⟩
 ·rw [B4S] at hele
  obtain ⟨l, h1, h2⟩ := B0f (q := fun i v => w.cells? 0 (ad.add (i * 1)) 1 = some [v]) (n := len) fun i hi => by
   have := hele i hi
   rw [List.getElem?_eq_getElem (by omega)] at this
   obtain ⟨cs', c1, c2⟩ := Option.bind_eq_some_iff.1 this
   obtain ⟨k, rfl, _, hw⟩ := DataW.trod_int Tryz.underlying5 c2
   have hk : 0 ≤ k ∧ k < 256 := by
    have hw2 : (decide ((0 : Int) ≤ k) && decide (k ≤ (255 : Int))) = true := hw
    simp only [Bool.and_eq_true, decide_eq_true_eq] at hw2
    omega
   refine ⟨UInt8.ofNat k.toNat, ?_⟩
   rw [show ((UInt8.ofNat k.toNat).toNat : Int) = k from by
    rw [UInt8.toNat_ofNat']; omega]
   exact c1
  subst h1
  refine ⟨l, some ad, cap, rfl, ?_⟩
  have := B12 (w := w) (a := ad) (n := l.length) (c := cap) (sz := 1) (es := (N2 l).map fun v => [v]) (by simp [A8i]) (by omega) hlc hcm fun i e he => by
   rw [List.getElem?_map] at he
   cases hv : (N2 l)[i]? with
   | none => rw [hv] at he; simp at he
   | some v => rw [hv] at he; simp at he; subst he; exact h2 i v hv
  have hf : ((N2 l).map fun v => [v]).flatten = N2 l := by
   generalize N2 l = L
   induction L with
   | nil => rfl
   | cons a L ih => simp [ih]
  rwa [hf] at this
end read2
theorem A6N : ∀ {r : A3} {i : Nat}, i ≤ Q7 r → (hi : i < r.length) → J0 r[i] → i + 1 ≤ Q7 r
 | [], i, _, hi, _ => by simp at hi
 | c :: r, 0, _, _, h => by
  have h : J0 c := h
  rw [Q7, if_pos h]; omega
 | c :: r, i + 1, h, hi, hd => by
  rw [Q7] at h ⊢
  split at h
  ·rename_i hc
   rw [if_pos hc]
   have := A6N (r := r) (i := i) (by omega) (by simpa using hi) (by simpa using hd)
   omega
  ·omega
theorem A6O : ∀ {r : A3} {i : Nat}, i ≤ Q7 r → (∀ hi : i < r.length, ¬J0 r[i]) → i = Q7 r
 | [], i, h, _ => by rw [Q7] at h ⊢; omega
 | c :: r, 0, _, h => by
  have h : ¬J0 c := h (by simp)
  rw [Q7, if_neg h]
 | c :: r, i + 1, h, hd => by
  rw [Q7] at h ⊢
  split at h
  ·rename_i hc
   rw [if_pos hc]
   have := A6O (r := r) (i := i) (by omega) (fun hi => hd (by rw [List.length_cons]; omega))
   omega
  ·omega
theorem B0h {l : A3} {i : Nat} (h : i ≤ P3 l) (hi : i < l.length) (hc : J0 l[i] ∨ (i = 0 ∧ l[i] = 45)) : i + 1 ≤ P3 l := by
 cases l with
 | nil => simp at hi
 | cons c r =>
  cases i with
  | zero =>
   have hc : J0 c ∨ c = 45 := hc.imp id (fun h => h.2)
   rw [P3, if_pos hc]; omega
  | succ i =>
   rw [P3] at h ⊢
   split at h
   ·rename_i h1
    rw [if_pos h1]
    have := A6N (r := r) (i := i) (by omega) (by simpa using hi) (by rcases hc with hc | ⟨hc, _⟩; exact (by simpa using hc); omega)
    omega
   ·omega
theorem A33 {l : A3} {i : Nat} (h : i ≤ P3 l) (hc : ∀ hi : i < l.length, ¬(J0 l[i] ∨ (i = 0 ∧ l[i] = 45))) : i = P3 l := by
 cases l with
 | nil => rw [P3] at h ⊢; omega
 | cons c r =>
  cases i with
  | zero =>
   have hc : ¬(J0 c ∨ c = 45) := fun h => hc (by simp) (h.imp id (fun h => ⟨rfl, h⟩))
   rw [P3, if_neg hc]
  | succ i =>
   rw [P3] at h ⊢
   split at h
   ·rename_i h1
    rw [if_pos h1]
    have := A6O (r := r) (i := i) (by omega) (fun hi hd => hc (by simpa using hi) (.inl (by simpa using hd)))
    omega
   ·omega
theorem A6P : ∀ l : A3, Q7 l ≤ l.length
 | [] => Nat.le_refl _
 | c :: r => by rw [Q7]; split; have := A6P r; simp only [List.length_cons]; omega; exact Nat.zero_le _
theorem B4T (l : A3) : P3 l ≤ l.length := by
 cases l with
 | nil => exact Nat.le_refl _
 | cons c r => rw [P3]; split; have := A6P r; simp only [List.length_cons]; omega; exact Nat.zero_le _
theorem A34 {l : A3} {i : Nat} (h : i < l.length) : (D6 l)[((i : Nat) : Int).toNat]? = some l[i] := by
 show (D6 l)[i]? = some l[i]
 rw [getElem?_pos (D6 l) i (by rw [N3]; exact h)]
 rfl
theorem A35 (l : A3) (i : Nat) : (D6 l).extract 0 i = D6 (l.take i) := by rw [A0V]; simp
theorem X9 (l : A3) (i : Nat) : (D6 l).extract i (D6 l).size = D6 (l.drop i) := by
 rw [A0V, N3, List.take_of_length_le]
 rw [List.length_drop]; omega
theorem A1u {l : A3} {n : Int} (h : Lib.atoiAll (l.take (P3 l)) = .ok n) : A0d l = some (n, l.drop (P3 l)) := by unfold A0d; rw [h]
theorem A1v {l : A3} (h : ∀ m, Lib.atoiAll (l.take (P3 l)) ≠ .ok m) : A0d l = none := by
 unfold A0d
 split
 ·rename_i v hv; exact absurd hv (h v)
 ·rfl
def B0i (b : Nat) (m : Option (Int × A3)) (G : IM) : IM → Value → List A4 → Prop := fun G' v outs => G' = G ∧ ∃ cs' n, outs = [.blk b cs'] ∧ T3 (m.map Prod.snd) cs' ∧ v = .int .i64 n ∧ H4 n ∧ ∀ x, m = some x → n = x.1
theorem B0j (b : Nat) (l : A3) (bad : Bool) (G : IM) (hE : A0y G) (hl : l.length ≤ 4294967296) : Fn Tryz.prog 151 [.pointer (some ⟨b, 0, none⟩)] [.blk b [.string (D6 l), .bool bad]] G (B0i b (if bad = true then none else A0d l) G) := by
 have hnl := B4T l
 refine B8 Tryz.func151 rfl Tryz.ntmps151 Tryz.results151 rfl ?_
 intro w0
 refine I6 ?_
 refine C6 ?_
 (refine N4 (fun (i : Nat) => ⟨[(3, .int .i64 (i : Int)), (0, .pointer (some ⟨b, 0, none⟩))], [.blk b [.string (D6 l), .bool bad]], G⟩) (fun i => i ≤ P3 l) (fun i => P3 l - i) 0 ?_ ?_ ?_)
 exact E0
 (exact Nat.zero_le _)
 (rintro (i : Nat) hi; replace hi : i ≤ P3 l := hi; have hbs := N3 l)
 refine tS (tS (tR (sQ (qM rfl) rfl (sQ (qM rfl) rfl ?_))))
 refine sQ (C1 rfl) rfl ?_
 refine sQ (A9 rfl) rfl (sL (C2 rfl rfl) rfl rfl ?_)
 refine sQ (P9 rfl rfl) rfl (sB (L9 rfl rfl) rfl rfl (fun h26 => ?_) (fun h26 => ?_))
 refine sQ (qM rfl) rfl (sQ (qM rfl) rfl ?_)
 refine sQ (C1 rfl) rfl ?_
 refine H0 ?_
 (have hil : i < l.length := (by omega); refine sP (R8 rfl rfl rfl (by omega) (A34 hil)) rfl rfl ?_)
 refine sB (S4 rfl rfl) rfl rfl (fun h34 => ?_) (fun h34 => ?_)
 refine sQ (qM rfl) rfl (sQ (qM rfl) rfl ?_)
 refine sQ (C1 rfl) rfl ?_
 refine H0 ?_
 (have hil : i < l.length := (by omega); refine sP (R8 rfl rfl rfl (by omega) (A34 hil)) rfl rfl ?_)
 refine sB (W8 rfl rfl) rfl rfl (fun h42 => ?_) (fun h42 => ?_)
 refine A0j ?_
 refine C6 ?_
 refine tR (sQ (qM rfl) rfl ?_)
 refine sP (K8 (n := 1) rfl rfl (by omega)) rfl rfl ?_
 refine sQ (qA rfl) rfl (sD (O3 ?_))
 (have hgo := B0h hi hil (by unfold J0; first | (left; omega) | (right; exact ⟨by omega, J5 (b := 45) (by show _ = (45 : Int); omega)⟩)); refine K5 (i + 1) ?_ ?_ ?_)
 exact E0
 (show i + 1 ≤ P3 l; omega)
 (show P3 l - (i + 1) < P3 l - i; omega)
 refine sQ (J8 rfl rfl) rfl (sQ (qM rfl) rfl (sQ (qM rfl) rfl ?_))
 refine sB (qE rfl rfl) rfl rfl (fun h77 => ?_) (fun h77 => ?_)
 refine sQ (qM rfl) rfl (sQ (qM rfl) rfl ?_)
 refine sQ (C1 rfl) rfl ?_
 refine H0 ?_
 (have hil : i < l.length := (by omega); refine sP (R8 rfl rfl rfl (by omega) (A34 hil)) rfl rfl ?_)
 refine sP (M1 rfl rfl (by omega)) rfl rfl ?_
 refine O8 ?_
 refine sQ (C1 rfl) rfl ?_
 refine H0 ?_
 (obtain rfl : i = P3 l := A33 hi (by unfold J0; intro hil2 hc; rcases hc with hc | ⟨hc, hc2⟩; omega; (have hx : (l[i].toNat : Int) = 45 := (by rw [hc2]; rfl); omega)); refine sP (A1Z rfl rfl rfl (by omega)) rfl rfl ?_; rw [A35])
 (refine C0 rfl (A32 (D6 (l.take (P3 l))) G hE (by rw [N3, List.length_take]; omega)) (List.Perm.refl _) rfl rfl (fun v G1 outs hle1 hh => ?_); obtain ⟨hG, rfl, hv⟩ := hh; replace hG := hG.symm; subst hG; rcases hv with ⟨nv, hok, hI, rfl⟩ | ⟨nv, tv, qv, hno, hI, rfl⟩)
 refine F8 ?_
 (cases bad <;> refine D3 D4 rfl ?_)
 refine E8 (i := 0) (l' := [tt,ff,ff,ff,ff,ff,ff,ff,ff,ff,ff,ff,ff,ff,ff,ff,ff,ff,ff,ff,ff,ff]) rfl C5 (qM rfl) rfl (by kernel_rfl) rfl rfl ?_
 refine aP 1 rfl (qM rfl) rfl ?_
 refine aP 2 rfl (qM rfl) rfl ?_
 refine aP 3 rfl (C1 rfl) rfl ?_
 refine aP 4 rfl (A9 rfl) rfl ?_
 refine aL 5 rfl (C2 rfl rfl) rfl ?_
 refine aP 6 rfl (qM rfl) rfl ?_
 refine aP 7 rfl (U5 rfl rfl rfl (by omega)) rfl ?_
 refine aP 8 rfl (qM rfl) rfl ?_
 refine aP 9 rfl (C1 rfl) rfl ?_
 refine aP 10 rfl (A9 rfl) rfl ?_
 refine aL 11 rfl (C2 rfl rfl) rfl ?_
 refine aP 12 rfl (qM rfl) rfl ?_
 refine aP 13 rfl (qM rfl) rfl ?_
 refine aP 14 rfl (A31 A1t rfl) rfl ?_
 refine aP 15 rfl (M4 rfl rfl) rfl ?_
 refine aP 16 rfl (C1 rfl) rfl ?_
 refine aP 17 rfl (A9 rfl) rfl ?_
 refine A1 18 ?_
 refine J7 rfl ?_
 refine aP 19 rfl (C1 rfl) rfl ?_
 refine aP 20 rfl (A9 rfl) rfl ?_
 refine A1 21 ?_
 refine K6 rfl rfl rfl rfl rfl rfl rfl rfl (by decide +kernel) (by repeat first | exact Sw.here | apply Sw.there) (by rfl) ?_
 refine C7 ?_
 refine C4 (rT rfl) (.cons (by repeat (first | exact Pk.here | apply Pk.there)) .nil) ?_
 (rw [X9]; exact ⟨rfl, _, nv, rfl, by rw [if_neg (by simp), A1u hok]; exact .yes (by rw [List.length_drop]; omega), rfl, hI, fun x hx => by rw [if_neg (by simp), A1u hok] at hx; cases hx; rfl⟩)
 refine E8 (i := 0) (l' := [tt,ff,ff,ff,ff,ff,ff,ff,ff,ff,ff,ff,ff,ff,ff,ff,ff,ff,ff,ff,ff,ff]) rfl C5 (qM rfl) rfl (by kernel_rfl) rfl rfl ?_
 refine aP 1 rfl (qM rfl) rfl ?_
 refine aP 2 rfl (qM rfl) rfl ?_
 refine aP 3 rfl (C1 rfl) rfl ?_
 refine aP 4 rfl (A9 rfl) rfl ?_
 refine aL 5 rfl (C2 rfl rfl) rfl ?_
 refine aP 6 rfl (qM rfl) rfl ?_
 refine aP 7 rfl (U5 rfl rfl rfl (by omega)) rfl ?_
 refine aP 8 rfl (qM rfl) rfl ?_
 refine aP 9 rfl (C1 rfl) rfl ?_
 refine aP 10 rfl (A9 rfl) rfl ?_
 refine aL 11 rfl (C2 rfl rfl) rfl ?_
 refine aP 12 rfl (qM rfl) rfl ?_
 refine B1 13 rfl rfl rfl ?_
 refine B1 14 rfl rfl rfl ?_
 refine aP 15 rfl (J8 rfl rfl) rfl ?_
 refine aP 16 rfl (C1 rfl) rfl ?_
 refine aP 17 rfl (A9 rfl) rfl ?_
 refine A1 18 ?_
 refine J7 rfl ?_
 refine aP 19 rfl (C1 rfl) rfl ?_
 refine aP 20 rfl (A9 rfl) rfl ?_
 refine A1 21 ?_
 refine K6 rfl rfl rfl rfl rfl rfl rfl rfl (by decide +kernel) (by repeat first | exact Sw.here | apply Sw.there) (by rfl) ?_
 refine C7 ?_
 refine C4 (rT rfl) (.cons (by repeat (first | exact Pk.here | apply Pk.there)) .nil) ?_
 (rw [X9]; exact ⟨rfl, _, nv, rfl, .no (by rw [N3, List.length_drop]; omega), rfl, hI, fun x hx => by cases hx⟩)
 refine F8 ?_
 (cases bad <;> refine D3 D4 rfl ?_)
 refine E8 (i := 0) (l' := [tt,ff,ff,ff,ff,ff,ff,ff,ff,ff,ff,ff,ff,ff,ff,ff,ff,ff,ff,ff,ff,ff]) rfl C5 (qM rfl) rfl (by kernel_rfl) rfl rfl ?_
 refine aP 1 rfl (qM rfl) rfl ?_
 refine aP 2 rfl (qM rfl) rfl ?_
 refine aP 3 rfl (C1 rfl) rfl ?_
 refine aP 4 rfl (A9 rfl) rfl ?_
 refine aL 5 rfl (C2 rfl rfl) rfl ?_
 refine aP 6 rfl (qM rfl) rfl ?_
 refine aP 7 rfl (U5 rfl rfl rfl (by omega)) rfl ?_
 refine aP 8 rfl (qM rfl) rfl ?_
 refine aP 9 rfl (C1 rfl) rfl ?_
 refine aP 10 rfl (A9 rfl) rfl ?_
 refine aL 11 rfl (C2 rfl rfl) rfl ?_
 refine aP 12 rfl (qM rfl) rfl ?_
 refine aP 13 rfl (qM rfl) rfl ?_
 refine aP 14 rfl (A30 A1t rfl rfl) rfl ?_
 refine aP 15 rfl (M4 rfl rfl) rfl ?_
 refine aP 16 rfl (C1 rfl) rfl ?_
 refine aP 17 rfl (A9 rfl) rfl ?_
 refine A1 18 ?_
 refine J7 rfl ?_
 refine aP 19 rfl (C1 rfl) rfl ?_
 refine aP 20 rfl (A9 rfl) rfl ?_
 refine A1 21 ?_
 refine K6 rfl rfl rfl rfl rfl rfl rfl rfl (by decide +kernel) (by repeat first | exact Sw.here | apply Sw.there) (by rfl) ?_
 refine C7 ?_
 refine C4 (rT rfl) (.cons (by repeat (first | exact Pk.here | apply Pk.there)) .nil) ?_
 (rw [X9]; exact ⟨rfl, _, nv, rfl, by rw [if_neg (by simp), A1v hno]; exact .no (by rw [N3, List.length_drop]; omega), rfl, hI, fun x hx => by rw [if_neg (by simp), A1v hno] at hx; cases hx⟩)
 refine E8 (i := 0) (l' := [tt,ff,ff,ff,ff,ff,ff,ff,ff,ff,ff,ff,ff,ff,ff,ff,ff,ff,ff,ff,ff,ff]) rfl C5 (qM rfl) rfl (by kernel_rfl) rfl rfl ?_
 refine aP 1 rfl (qM rfl) rfl ?_
 refine aP 2 rfl (qM rfl) rfl ?_
 refine aP 3 rfl (C1 rfl) rfl ?_
 refine aP 4 rfl (A9 rfl) rfl ?_
 refine aL 5 rfl (C2 rfl rfl) rfl ?_
 refine aP 6 rfl (qM rfl) rfl ?_
 refine aP 7 rfl (U5 rfl rfl rfl (by omega)) rfl ?_
 refine aP 8 rfl (qM rfl) rfl ?_
 refine aP 9 rfl (C1 rfl) rfl ?_
 refine aP 10 rfl (A9 rfl) rfl ?_
 refine aL 11 rfl (C2 rfl rfl) rfl ?_
 refine aP 12 rfl (qM rfl) rfl ?_
 refine B1 13 rfl rfl rfl ?_
 refine B1 14 rfl rfl rfl ?_
 refine aP 15 rfl (J8 rfl rfl) rfl ?_
 refine aP 16 rfl (C1 rfl) rfl ?_
 refine aP 17 rfl (A9 rfl) rfl ?_
 refine A1 18 ?_
 refine J7 rfl ?_
 refine aP 19 rfl (C1 rfl) rfl ?_
 refine aP 20 rfl (A9 rfl) rfl ?_
 refine A1 21 ?_
 refine K6 rfl rfl rfl rfl rfl rfl rfl rfl (by decide +kernel) (by repeat first | exact Sw.here | apply Sw.there) (by rfl) ?_
 refine C7 ?_
 refine C4 (rT rfl) (.cons (by repeat (first | exact Pk.here | apply Pk.there)) .nil) ?_
 (rw [X9]; exact ⟨rfl, _, nv, rfl, .no (by rw [N3, List.length_drop]; omega), rfl, hI, fun x hx => by cases hx⟩)
 refine A2R ?_
 refine sQ (C1 rfl) rfl ?_
 refine H0 ?_
 (obtain rfl : i = P3 l := A33 hi (by unfold J0; intro hil2 hc; rcases hc with hc | ⟨hc, hc2⟩; omega; (have hx : (l[i].toNat : Int) = 45 := (by rw [hc2]; rfl); omega)); refine sP (A1Z rfl rfl rfl (by omega)) rfl rfl ?_; rw [A35])
 (refine C0 rfl (A32 (D6 (l.take (P3 l))) G hE (by rw [N3, List.length_take]; omega)) (List.Perm.refl _) rfl rfl (fun v G1 outs hle1 hh => ?_); obtain ⟨hG, rfl, hv⟩ := hh; replace hG := hG.symm; subst hG; rcases hv with ⟨nv, hok, hI, rfl⟩ | ⟨nv, tv, qv, hno, hI, rfl⟩)
 refine F8 ?_
 (cases bad <;> refine D3 D4 rfl ?_)
 refine E8 (i := 0) (l' := [tt,ff,ff,ff,ff,ff,ff,ff,ff,ff,ff,ff,ff,ff,ff,ff,ff,ff,ff,ff,ff,ff]) rfl C5 (qM rfl) rfl (by kernel_rfl) rfl rfl ?_
 refine aP 1 rfl (qM rfl) rfl ?_
 refine aP 2 rfl (qM rfl) rfl ?_
 refine aP 3 rfl (C1 rfl) rfl ?_
 refine aP 4 rfl (A9 rfl) rfl ?_
 refine aL 5 rfl (C2 rfl rfl) rfl ?_
 refine aP 6 rfl (qM rfl) rfl ?_
 refine aP 7 rfl (U5 rfl rfl rfl (by omega)) rfl ?_
 refine aP 8 rfl (qM rfl) rfl ?_
 refine aP 9 rfl (C1 rfl) rfl ?_
 refine aP 10 rfl (A9 rfl) rfl ?_
 refine aL 11 rfl (C2 rfl rfl) rfl ?_
 refine aP 12 rfl (qM rfl) rfl ?_
 refine aP 13 rfl (qM rfl) rfl ?_
 refine aP 14 rfl (A31 A1t rfl) rfl ?_
 refine aP 15 rfl (M4 rfl rfl) rfl ?_
 refine aP 16 rfl (C1 rfl) rfl ?_
 refine aP 17 rfl (A9 rfl) rfl ?_
 refine A1 18 ?_
 refine J7 rfl ?_
 refine aP 19 rfl (C1 rfl) rfl ?_
 refine aP 20 rfl (A9 rfl) rfl ?_
 refine A1 21 ?_
 refine K6 rfl rfl rfl rfl rfl rfl rfl rfl (by decide +kernel) (by repeat first | exact Sw.here | apply Sw.there) (by rfl) ?_
 refine C7 ?_
 refine C4 (rT rfl) (.cons (by repeat (first | exact Pk.here | apply Pk.there)) .nil) ?_
 (rw [X9]; exact ⟨rfl, _, nv, rfl, by rw [if_neg (by simp), A1u hok]; exact .yes (by rw [List.length_drop]; omega), rfl, hI, fun x hx => by rw [if_neg (by simp), A1u hok] at hx; cases hx; rfl⟩)
 refine E8 (i := 0) (l' := [tt,ff,ff,ff,ff,ff,ff,ff,ff,ff,ff,ff,ff,ff,ff,ff,ff,ff,ff,ff,ff,ff]) rfl C5 (qM rfl) rfl (by kernel_rfl) rfl rfl ?_
 refine aP 1 rfl (qM rfl) rfl ?_
 refine aP 2 rfl (qM rfl) rfl ?_
 refine aP 3 rfl (C1 rfl) rfl ?_
 refine aP 4 rfl (A9 rfl) rfl ?_
 refine aL 5 rfl (C2 rfl rfl) rfl ?_
 refine aP 6 rfl (qM rfl) rfl ?_
 refine aP 7 rfl (U5 rfl rfl rfl (by omega)) rfl ?_
 refine aP 8 rfl (qM rfl) rfl ?_
 refine aP 9 rfl (C1 rfl) rfl ?_
 refine aP 10 rfl (A9 rfl) rfl ?_
 refine aL 11 rfl (C2 rfl rfl) rfl ?_
 refine aP 12 rfl (qM rfl) rfl ?_
 refine B1 13 rfl rfl rfl ?_
 refine B1 14 rfl rfl rfl ?_
 refine aP 15 rfl (J8 rfl rfl) rfl ?_
 refine aP 16 rfl (C1 rfl) rfl ?_
 refine aP 17 rfl (A9 rfl) rfl ?_
 refine A1 18 ?_
 refine J7 rfl ?_
 refine aP 19 rfl (C1 rfl) rfl ?_
 refine aP 20 rfl (A9 rfl) rfl ?_
 refine A1 21 ?_
 refine K6 rfl rfl rfl rfl rfl rfl rfl rfl (by decide +kernel) (by repeat first | exact Sw.here | apply Sw.there) (by rfl) ?_
 refine C7 ?_
 refine C4 (rT rfl) (.cons (by repeat (first | exact Pk.here | apply Pk.there)) .nil) ?_
 (rw [X9]; exact ⟨rfl, _, nv, rfl, .no (by rw [N3, List.length_drop]; omega), rfl, hI, fun x hx => by cases hx⟩)
 refine F8 ?_
 (cases bad <;> refine D3 D4 rfl ?_)
 refine E8 (i := 0) (l' := [tt,ff,ff,ff,ff,ff,ff,ff,ff,ff,ff,ff,ff,ff,ff,ff,ff,ff,ff,ff,ff,ff]) rfl C5 (qM rfl) rfl (by kernel_rfl) rfl rfl ?_
 refine aP 1 rfl (qM rfl) rfl ?_
 refine aP 2 rfl (qM rfl) rfl ?_
 refine aP 3 rfl (C1 rfl) rfl ?_
 refine aP 4 rfl (A9 rfl) rfl ?_
 refine aL 5 rfl (C2 rfl rfl) rfl ?_
 refine aP 6 rfl (qM rfl) rfl ?_
 refine aP 7 rfl (U5 rfl rfl rfl (by omega)) rfl ?_
 refine aP 8 rfl (qM rfl) rfl ?_
 refine aP 9 rfl (C1 rfl) rfl ?_
 refine aP 10 rfl (A9 rfl) rfl ?_
 refine aL 11 rfl (C2 rfl rfl) rfl ?_
 refine aP 12 rfl (qM rfl) rfl ?_
 refine aP 13 rfl (qM rfl) rfl ?_
 refine aP 14 rfl (A30 A1t rfl rfl) rfl ?_
 refine aP 15 rfl (M4 rfl rfl) rfl ?_
 refine aP 16 rfl (C1 rfl) rfl ?_
 refine aP 17 rfl (A9 rfl) rfl ?_
 refine A1 18 ?_
 refine J7 rfl ?_
 refine aP 19 rfl (C1 rfl) rfl ?_
 refine aP 20 rfl (A9 rfl) rfl ?_
 refine A1 21 ?_
 refine K6 rfl rfl rfl rfl rfl rfl rfl rfl (by decide +kernel) (by repeat first | exact Sw.here | apply Sw.there) (by rfl) ?_
 refine C7 ?_
 refine C4 (rT rfl) (.cons (by repeat (first | exact Pk.here | apply Pk.there)) .nil) ?_
 (rw [X9]; exact ⟨rfl, _, nv, rfl, by rw [if_neg (by simp), A1v hno]; exact .no (by rw [N3, List.length_drop]; omega), rfl, hI, fun x hx => by rw [if_neg (by simp), A1v hno] at hx; cases hx⟩)
 refine E8 (i := 0) (l' := [tt,ff,ff,ff,ff,ff,ff,ff,ff,ff,ff,ff,ff,ff,ff,ff,ff,ff,ff,ff,ff,ff]) rfl C5 (qM rfl) rfl (by kernel_rfl) rfl rfl ?_
 refine aP 1 rfl (qM rfl) rfl ?_
 refine aP 2 rfl (qM rfl) rfl ?_
 refine aP 3 rfl (C1 rfl) rfl ?_
 refine aP 4 rfl (A9 rfl) rfl ?_
 refine aL 5 rfl (C2 rfl rfl) rfl ?_
 refine aP 6 rfl (qM rfl) rfl ?_
 refine aP 7 rfl (U5 rfl rfl rfl (by omega)) rfl ?_
 refine aP 8 rfl (qM rfl) rfl ?_
 refine aP 9 rfl (C1 rfl) rfl ?_
 refine aP 10 rfl (A9 rfl) rfl ?_
 refine aL 11 rfl (C2 rfl rfl) rfl ?_
 refine aP 12 rfl (qM rfl) rfl ?_
 refine B1 13 rfl rfl rfl ?_
 refine B1 14 rfl rfl rfl ?_
 refine aP 15 rfl (J8 rfl rfl) rfl ?_
 refine aP 16 rfl (C1 rfl) rfl ?_
 refine aP 17 rfl (A9 rfl) rfl ?_
 refine A1 18 ?_
 refine J7 rfl ?_
 refine aP 19 rfl (C1 rfl) rfl ?_
 refine aP 20 rfl (A9 rfl) rfl ?_
 refine A1 21 ?_
 refine K6 rfl rfl rfl rfl rfl rfl rfl rfl (by decide +kernel) (by repeat first | exact Sw.here | apply Sw.there) (by rfl) ?_
 refine C7 ?_
 refine C4 (rT rfl) (.cons (by repeat (first | exact Pk.here | apply Pk.there)) .nil) ?_
 (rw [X9]; exact ⟨rfl, _, nv, rfl, .no (by rw [N3, List.length_drop]; omega), rfl, hI, fun x hx => by cases hx⟩)
 refine I6 ?_
 refine sB (qE rfl rfl) rfl rfl (fun h461 => ?_) (fun h461 => ?_)
 refine sQ (qM rfl) rfl (sQ (qM rfl) rfl ?_)
 refine sQ (C1 rfl) rfl ?_
 refine H0 ?_
 (have hil : i < l.length := (by omega); refine sP (R8 rfl rfl rfl (by omega) (A34 hil)) rfl rfl ?_)
 refine sB (qE rfl rfl) rfl rfl (fun h469 => ?_) (fun h469 => ?_)
 refine F8 ?_
 refine C6 ?_
 refine tR (sQ (qM rfl) rfl ?_)
 refine sP (K8 (n := 1) rfl rfl (by omega)) rfl rfl ?_
 refine sQ (qA rfl) rfl (sD (O3 ?_))
 (have hgo := B0h hi hil (by unfold J0; first | (left; omega) | (right; exact ⟨by omega, J5 (b := 45) (by show _ = (45 : Int); omega)⟩)); refine K5 (i + 1) ?_ ?_ ?_)
 exact E0
 (show i + 1 ≤ P3 l; omega)
 (show P3 l - (i + 1) < P3 l - i; omega)
 refine O8 ?_
 refine sQ (C1 rfl) rfl ?_
 refine H0 ?_
 (obtain rfl : i = P3 l := A33 hi (by unfold J0; intro hil2 hc; rcases hc with hc | ⟨hc, hc2⟩; omega; (have hx : (l[i].toNat : Int) = 45 := (by rw [hc2]; rfl); omega)); refine sP (A1Z rfl rfl rfl (by omega)) rfl rfl ?_; rw [A35])
 (refine C0 rfl (A32 (D6 (l.take (P3 l))) G hE (by rw [N3, List.length_take]; omega)) (List.Perm.refl _) rfl rfl (fun v G1 outs hle1 hh => ?_); obtain ⟨hG, rfl, hv⟩ := hh; replace hG := hG.symm; subst hG; rcases hv with ⟨nv, hok, hI, rfl⟩ | ⟨nv, tv, qv, hno, hI, rfl⟩)
 refine F8 ?_
 (cases bad <;> refine D3 D4 rfl ?_)
 refine E8 (i := 0) (l' := [tt,ff,ff,ff,ff,ff,ff,ff,ff,ff,ff,ff,ff,ff,ff,ff,ff,ff,ff,ff,ff,ff]) rfl C5 (qM rfl) rfl (by kernel_rfl) rfl rfl ?_
 refine aP 1 rfl (qM rfl) rfl ?_
 refine aP 2 rfl (qM rfl) rfl ?_
 refine aP 3 rfl (C1 rfl) rfl ?_
 refine aP 4 rfl (A9 rfl) rfl ?_
 refine aL 5 rfl (C2 rfl rfl) rfl ?_
 refine aP 6 rfl (qM rfl) rfl ?_
 refine aP 7 rfl (U5 rfl rfl rfl (by omega)) rfl ?_
 refine aP 8 rfl (qM rfl) rfl ?_
 refine aP 9 rfl (C1 rfl) rfl ?_
 refine aP 10 rfl (A9 rfl) rfl ?_
 refine aL 11 rfl (C2 rfl rfl) rfl ?_
 refine aP 12 rfl (qM rfl) rfl ?_
 refine aP 13 rfl (qM rfl) rfl ?_
 refine aP 14 rfl (A31 A1t rfl) rfl ?_
 refine aP 15 rfl (M4 rfl rfl) rfl ?_
 refine aP 16 rfl (C1 rfl) rfl ?_
 refine aP 17 rfl (A9 rfl) rfl ?_
 refine A1 18 ?_
 refine J7 rfl ?_
 refine aP 19 rfl (C1 rfl) rfl ?_
 refine aP 20 rfl (A9 rfl) rfl ?_
 refine A1 21 ?_
 refine K6 rfl rfl rfl rfl rfl rfl rfl rfl (by decide +kernel) (by repeat first | exact Sw.here | apply Sw.there) (by rfl) ?_
 refine C7 ?_
 refine C4 (rT rfl) (.cons (by repeat (first | exact Pk.here | apply Pk.there)) .nil) ?_
 (rw [X9]; exact ⟨rfl, _, nv, rfl, by rw [if_neg (by simp), A1u hok]; exact .yes (by rw [List.length_drop]; omega), rfl, hI, fun x hx => by rw [if_neg (by simp), A1u hok] at hx; cases hx; rfl⟩)
 refine E8 (i := 0) (l' := [tt,ff,ff,ff,ff,ff,ff,ff,ff,ff,ff,ff,ff,ff,ff,ff,ff,ff,ff,ff,ff,ff]) rfl C5 (qM rfl) rfl (by kernel_rfl) rfl rfl ?_
 refine aP 1 rfl (qM rfl) rfl ?_
 refine aP 2 rfl (qM rfl) rfl ?_
 refine aP 3 rfl (C1 rfl) rfl ?_
 refine aP 4 rfl (A9 rfl) rfl ?_
 refine aL 5 rfl (C2 rfl rfl) rfl ?_
 refine aP 6 rfl (qM rfl) rfl ?_
 refine aP 7 rfl (U5 rfl rfl rfl (by omega)) rfl ?_
 refine aP 8 rfl (qM rfl) rfl ?_
 refine aP 9 rfl (C1 rfl) rfl ?_
 refine aP 10 rfl (A9 rfl) rfl ?_
 refine aL 11 rfl (C2 rfl rfl) rfl ?_
 refine aP 12 rfl (qM rfl) rfl ?_
 refine B1 13 rfl rfl rfl ?_
 refine B1 14 rfl rfl rfl ?_
 refine aP 15 rfl (J8 rfl rfl) rfl ?_
 refine aP 16 rfl (C1 rfl) rfl ?_
 refine aP 17 rfl (A9 rfl) rfl ?_
 refine A1 18 ?_
 refine J7 rfl ?_
 refine aP 19 rfl (C1 rfl) rfl ?_
 refine aP 20 rfl (A9 rfl) rfl ?_
 refine A1 21 ?_
 refine K6 rfl rfl rfl rfl rfl rfl rfl rfl (by decide +kernel) (by repeat first | exact Sw.here | apply Sw.there) (by rfl) ?_
 refine C7 ?_
 refine C4 (rT rfl) (.cons (by repeat (first | exact Pk.here | apply Pk.there)) .nil) ?_
 (rw [X9]; exact ⟨rfl, _, nv, rfl, .no (by rw [N3, List.length_drop]; omega), rfl, hI, fun x hx => by cases hx⟩)
 refine F8 ?_
 (cases bad <;> refine D3 D4 rfl ?_)
 refine E8 (i := 0) (l' := [tt,ff,ff,ff,ff,ff,ff,ff,ff,ff,ff,ff,ff,ff,ff,ff,ff,ff,ff,ff,ff,ff]) rfl C5 (qM rfl) rfl (by kernel_rfl) rfl rfl ?_
 refine aP 1 rfl (qM rfl) rfl ?_
 refine aP 2 rfl (qM rfl) rfl ?_
 refine aP 3 rfl (C1 rfl) rfl ?_
 refine aP 4 rfl (A9 rfl) rfl ?_
 refine aL 5 rfl (C2 rfl rfl) rfl ?_
 refine aP 6 rfl (qM rfl) rfl ?_
 refine aP 7 rfl (U5 rfl rfl rfl (by omega)) rfl ?_
 refine aP 8 rfl (qM rfl) rfl ?_
 refine aP 9 rfl (C1 rfl) rfl ?_
 refine aP 10 rfl (A9 rfl) rfl ?_
 refine aL 11 rfl (C2 rfl rfl) rfl ?_
 refine aP 12 rfl (qM rfl) rfl ?_
 refine aP 13 rfl (qM rfl) rfl ?_
 refine aP 14 rfl (A30 A1t rfl rfl) rfl ?_
 refine aP 15 rfl (M4 rfl rfl) rfl ?_
 refine aP 16 rfl (C1 rfl) rfl ?_
 refine aP 17 rfl (A9 rfl) rfl ?_
 refine A1 18 ?_
 refine J7 rfl ?_
 refine aP 19 rfl (C1 rfl) rfl ?_
 refine aP 20 rfl (A9 rfl) rfl ?_
 refine A1 21 ?_
 refine K6 rfl rfl rfl rfl rfl rfl rfl rfl (by decide +kernel) (by repeat first | exact Sw.here | apply Sw.there) (by rfl) ?_
 refine C7 ?_
 refine C4 (rT rfl) (.cons (by repeat (first | exact Pk.here | apply Pk.there)) .nil) ?_
 (rw [X9]; exact ⟨rfl, _, nv, rfl, by rw [if_neg (by simp), A1v hno]; exact .no (by rw [N3, List.length_drop]; omega), rfl, hI, fun x hx => by rw [if_neg (by simp), A1v hno] at hx; cases hx⟩)
 refine E8 (i := 0) (l' := [tt,ff,ff,ff,ff,ff,ff,ff,ff,ff,ff,ff,ff,ff,ff,ff,ff,ff,ff,ff,ff,ff]) rfl C5 (qM rfl) rfl (by kernel_rfl) rfl rfl ?_
 refine aP 1 rfl (qM rfl) rfl ?_
 refine aP 2 rfl (qM rfl) rfl ?_
 refine aP 3 rfl (C1 rfl) rfl ?_
 refine aP 4 rfl (A9 rfl) rfl ?_
 refine aL 5 rfl (C2 rfl rfl) rfl ?_
 refine aP 6 rfl (qM rfl) rfl ?_
 refine aP 7 rfl (U5 rfl rfl rfl (by omega)) rfl ?_
 refine aP 8 rfl (qM rfl) rfl ?_
 refine aP 9 rfl (C1 rfl) rfl ?_
 refine aP 10 rfl (A9 rfl) rfl ?_
 refine aL 11 rfl (C2 rfl rfl) rfl ?_
 refine aP 12 rfl (qM rfl) rfl ?_
 refine B1 13 rfl rfl rfl ?_
 refine B1 14 rfl rfl rfl ?_
 refine aP 15 rfl (J8 rfl rfl) rfl ?_
 refine aP 16 rfl (C1 rfl) rfl ?_
 refine aP 17 rfl (A9 rfl) rfl ?_
 refine A1 18 ?_
 refine J7 rfl ?_
 refine aP 19 rfl (C1 rfl) rfl ?_
 refine aP 20 rfl (A9 rfl) rfl ?_
 refine A1 21 ?_
 refine K6 rfl rfl rfl rfl rfl rfl rfl rfl (by decide +kernel) (by repeat first | exact Sw.here | apply Sw.there) (by rfl) ?_
 refine C7 ?_
 refine C4 (rT rfl) (.cons (by repeat (first | exact Pk.here | apply Pk.there)) .nil) ?_
 (rw [X9]; exact ⟨rfl, _, nv, rfl, .no (by rw [N3, List.length_drop]; omega), rfl, hI, fun x hx => by cases hx⟩)
 refine A2R ?_
 refine sQ (C1 rfl) rfl ?_
 refine H0 ?_
 (obtain rfl : i = P3 l := A33 hi (by unfold J0; intro hil2 hc; rcases hc with hc | ⟨hc, hc2⟩; omega; (have hx : (l[i].toNat : Int) = 45 := (by rw [hc2]; rfl); omega)); refine sP (A1Z rfl rfl rfl (by omega)) rfl rfl ?_; rw [A35])
 (refine C0 rfl (A32 (D6 (l.take (P3 l))) G hE (by rw [N3, List.length_take]; omega)) (List.Perm.refl _) rfl rfl (fun v G1 outs hle1 hh => ?_); obtain ⟨hG, rfl, hv⟩ := hh; replace hG := hG.symm; subst hG; rcases hv with ⟨nv, hok, hI, rfl⟩ | ⟨nv, tv, qv, hno, hI, rfl⟩)
 refine F8 ?_
 (cases bad <;> refine D3 D4 rfl ?_)
 refine E8 (i := 0) (l' := [tt,ff,ff,ff,ff,ff,ff,ff,ff,ff,ff,ff,ff,ff,ff,ff,ff,ff,ff,ff,ff,ff]) rfl C5 (qM rfl) rfl (by kernel_rfl) rfl rfl ?_
 refine aP 1 rfl (qM rfl) rfl ?_
 refine aP 2 rfl (qM rfl) rfl ?_
 refine aP 3 rfl (C1 rfl) rfl ?_
 refine aP 4 rfl (A9 rfl) rfl ?_
 refine aL 5 rfl (C2 rfl rfl) rfl ?_
 refine aP 6 rfl (qM rfl) rfl ?_
 refine aP 7 rfl (U5 rfl rfl rfl (by omega)) rfl ?_
 refine aP 8 rfl (qM rfl) rfl ?_
 refine aP 9 rfl (C1 rfl) rfl ?_
 refine aP 10 rfl (A9 rfl) rfl ?_
 refine aL 11 rfl (C2 rfl rfl) rfl ?_
 refine aP 12 rfl (qM rfl) rfl ?_
 refine aP 13 rfl (qM rfl) rfl ?_
 refine aP 14 rfl (A31 A1t rfl) rfl ?_
 refine aP 15 rfl (M4 rfl rfl) rfl ?_
 refine aP 16 rfl (C1 rfl) rfl ?_
 refine aP 17 rfl (A9 rfl) rfl ?_
 refine A1 18 ?_
 refine J7 rfl ?_
 refine aP 19 rfl (C1 rfl) rfl ?_
 refine aP 20 rfl (A9 rfl) rfl ?_
 refine A1 21 ?_
 refine K6 rfl rfl rfl rfl rfl rfl rfl rfl (by decide +kernel) (by repeat first | exact Sw.here | apply Sw.there) (by rfl) ?_
 refine C7 ?_
 refine C4 (rT rfl) (.cons (by repeat (first | exact Pk.here | apply Pk.there)) .nil) ?_
 (rw [X9]; exact ⟨rfl, _, nv, rfl, by rw [if_neg (by simp), A1u hok]; exact .yes (by rw [List.length_drop]; omega), rfl, hI, fun x hx => by rw [if_neg (by simp), A1u hok] at hx; cases hx; rfl⟩)
 refine E8 (i := 0) (l' := [tt,ff,ff,ff,ff,ff,ff,ff,ff,ff,ff,ff,ff,ff,ff,ff,ff,ff,ff,ff,ff,ff]) rfl C5 (qM rfl) rfl (by kernel_rfl) rfl rfl ?_
 refine aP 1 rfl (qM rfl) rfl ?_
 refine aP 2 rfl (qM rfl) rfl ?_
 refine aP 3 rfl (C1 rfl) rfl ?_
 refine aP 4 rfl (A9 rfl) rfl ?_
 refine aL 5 rfl (C2 rfl rfl) rfl ?_
 refine aP 6 rfl (qM rfl) rfl ?_
 refine aP 7 rfl (U5 rfl rfl rfl (by omega)) rfl ?_
 refine aP 8 rfl (qM rfl) rfl ?_
 refine aP 9 rfl (C1 rfl) rfl ?_
 refine aP 10 rfl (A9 rfl) rfl ?_
 refine aL 11 rfl (C2 rfl rfl) rfl ?_
 refine aP 12 rfl (qM rfl) rfl ?_
 refine B1 13 rfl rfl rfl ?_
 refine B1 14 rfl rfl rfl ?_
 refine aP 15 rfl (J8 rfl rfl) rfl ?_
 refine aP 16 rfl (C1 rfl) rfl ?_
 refine aP 17 rfl (A9 rfl) rfl ?_
 refine A1 18 ?_
 refine J7 rfl ?_
 refine aP 19 rfl (C1 rfl) rfl ?_
 refine aP 20 rfl (A9 rfl) rfl ?_
 refine A1 21 ?_
 refine K6 rfl rfl rfl rfl rfl rfl rfl rfl (by decide +kernel) (by repeat first | exact Sw.here | apply Sw.there) (by rfl) ?_
 refine C7 ?_
 refine C4 (rT rfl) (.cons (by repeat (first | exact Pk.here | apply Pk.there)) .nil) ?_
 (rw [X9]; exact ⟨rfl, _, nv, rfl, .no (by rw [N3, List.length_drop]; omega), rfl, hI, fun x hx => by cases hx⟩)
 refine F8 ?_
 (cases bad <;> refine D3 D4 rfl ?_)
 refine E8 (i := 0) (l' := [tt,ff,ff,ff,ff,ff,ff,ff,ff,ff,ff,ff,ff,ff,ff,ff,ff,ff,ff,ff,ff,ff]) rfl C5 (qM rfl) rfl (by kernel_rfl) rfl rfl ?_
 refine aP 1 rfl (qM rfl) rfl ?_
 refine aP 2 rfl (qM rfl) rfl ?_
 refine aP 3 rfl (C1 rfl) rfl ?_
 refine aP 4 rfl (A9 rfl) rfl ?_
 refine aL 5 rfl (C2 rfl rfl) rfl ?_
 refine aP 6 rfl (qM rfl) rfl ?_
 refine aP 7 rfl (U5 rfl rfl rfl (by omega)) rfl ?_
 refine aP 8 rfl (qM rfl) rfl ?_
 refine aP 9 rfl (C1 rfl) rfl ?_
 refine aP 10 rfl (A9 rfl) rfl ?_
 refine aL 11 rfl (C2 rfl rfl) rfl ?_
 refine aP 12 rfl (qM rfl) rfl ?_
 refine aP 13 rfl (qM rfl) rfl ?_
 refine aP 14 rfl (A30 A1t rfl rfl) rfl ?_
 refine aP 15 rfl (M4 rfl rfl) rfl ?_
 refine aP 16 rfl (C1 rfl) rfl ?_
 refine aP 17 rfl (A9 rfl) rfl ?_
 refine A1 18 ?_
 refine J7 rfl ?_
 refine aP 19 rfl (C1 rfl) rfl ?_
 refine aP 20 rfl (A9 rfl) rfl ?_
 refine A1 21 ?_
 refine K6 rfl rfl rfl rfl rfl rfl rfl rfl (by decide +kernel) (by repeat first | exact Sw.here | apply Sw.there) (by rfl) ?_
 refine C7 ?_
 refine C4 (rT rfl) (.cons (by repeat (first | exact Pk.here | apply Pk.there)) .nil) ?_
 (rw [X9]; exact ⟨rfl, _, nv, rfl, by rw [if_neg (by simp), A1v hno]; exact .no (by rw [N3, List.length_drop]; omega), rfl, hI, fun x hx => by rw [if_neg (by simp), A1v hno] at hx; cases hx⟩)
 refine E8 (i := 0) (l' := [tt,ff,ff,ff,ff,ff,ff,ff,ff,ff,ff,ff,ff,ff,ff,ff,ff,ff,ff,ff,ff,ff]) rfl C5 (qM rfl) rfl (by kernel_rfl) rfl rfl ?_
 refine aP 1 rfl (qM rfl) rfl ?_
 refine aP 2 rfl (qM rfl) rfl ?_
 refine aP 3 rfl (C1 rfl) rfl ?_
 refine aP 4 rfl (A9 rfl) rfl ?_
 refine aL 5 rfl (C2 rfl rfl) rfl ?_
 refine aP 6 rfl (qM rfl) rfl ?_
 refine aP 7 rfl (U5 rfl rfl rfl (by omega)) rfl ?_
 refine aP 8 rfl (qM rfl) rfl ?_
 refine aP 9 rfl (C1 rfl) rfl ?_
 refine aP 10 rfl (A9 rfl) rfl ?_
 refine aL 11 rfl (C2 rfl rfl) rfl ?_
 refine aP 12 rfl (qM rfl) rfl ?_
 refine B1 13 rfl rfl rfl ?_
 refine B1 14 rfl rfl rfl ?_
 refine aP 15 rfl (J8 rfl rfl) rfl ?_
 refine aP 16 rfl (C1 rfl) rfl ?_
 refine aP 17 rfl (A9 rfl) rfl ?_
 refine A1 18 ?_
 refine J7 rfl ?_
 refine aP 19 rfl (C1 rfl) rfl ?_
 refine aP 20 rfl (A9 rfl) rfl ?_
 refine A1 21 ?_
 refine K6 rfl rfl rfl rfl rfl rfl rfl rfl (by decide +kernel) (by repeat first | exact Sw.here | apply Sw.there) (by rfl) ?_
 refine C7 ?_
 refine C4 (rT rfl) (.cons (by repeat (first | exact Pk.here | apply Pk.there)) .nil) ?_
 (rw [X9]; exact ⟨rfl, _, nv, rfl, .no (by rw [N3, List.length_drop]; omega), rfl, hI, fun x hx => by cases hx⟩)
 refine W9 ?_
 refine Q4 ?_
 refine sQ (C1 rfl) rfl ?_
 refine H0 ?_
 (obtain rfl : i = P3 l := A33 hi (by unfold J0; intro hil2 hc; rcases hc with hc | ⟨hc, hc2⟩; omega; (have hx : (l[i].toNat : Int) = 45 := (by rw [hc2]; rfl); omega)); refine sP (A1Z rfl rfl rfl (by omega)) rfl rfl ?_; rw [A35])
 (refine C0 rfl (A32 (D6 (l.take (P3 l))) G hE (by rw [N3, List.length_take]; omega)) (List.Perm.refl _) rfl rfl (fun v G1 outs hle1 hh => ?_); obtain ⟨hG, rfl, hv⟩ := hh; replace hG := hG.symm; subst hG; rcases hv with ⟨nv, hok, hI, rfl⟩ | ⟨nv, tv, qv, hno, hI, rfl⟩)
 refine F8 ?_
 (cases bad <;> refine D3 D4 rfl ?_)
 refine E8 (i := 0) (l' := [tt,ff,ff,ff,ff,ff,ff,ff,ff,ff,ff,ff,ff,ff,ff,ff,ff,ff,ff,ff,ff,ff]) rfl C5 (qM rfl) rfl (by kernel_rfl) rfl rfl ?_
 refine aP 1 rfl (qM rfl) rfl ?_
 refine aP 2 rfl (qM rfl) rfl ?_
 refine aP 3 rfl (C1 rfl) rfl ?_
 refine aP 4 rfl (A9 rfl) rfl ?_
 refine aL 5 rfl (C2 rfl rfl) rfl ?_
 refine aP 6 rfl (qM rfl) rfl ?_
 refine aP 7 rfl (U5 rfl rfl rfl (by omega)) rfl ?_
 refine aP 8 rfl (qM rfl) rfl ?_
 refine aP 9 rfl (C1 rfl) rfl ?_
 refine aP 10 rfl (A9 rfl) rfl ?_
 refine aL 11 rfl (C2 rfl rfl) rfl ?_
 refine aP 12 rfl (qM rfl) rfl ?_
 refine aP 13 rfl (qM rfl) rfl ?_
 refine aP 14 rfl (A31 A1t rfl) rfl ?_
 refine aP 15 rfl (M4 rfl rfl) rfl ?_
 refine aP 16 rfl (C1 rfl) rfl ?_
 refine aP 17 rfl (A9 rfl) rfl ?_
 refine A1 18 ?_
 refine J7 rfl ?_
 refine aP 19 rfl (C1 rfl) rfl ?_
 refine aP 20 rfl (A9 rfl) rfl ?_
 refine A1 21 ?_
 refine K6 rfl rfl rfl rfl rfl rfl rfl rfl (by decide +kernel) (by repeat first | exact Sw.here | apply Sw.there) (by rfl) ?_
 refine C7 ?_
 refine C4 (rT rfl) (.cons (by repeat (first | exact Pk.here | apply Pk.there)) .nil) ?_
 (rw [X9]; exact ⟨rfl, _, nv, rfl, by rw [if_neg (by simp), A1u hok]; exact .yes (by rw [List.length_drop]; omega), rfl, hI, fun x hx => by rw [if_neg (by simp), A1u hok] at hx; cases hx; rfl⟩)
 refine E8 (i := 0) (l' := [tt,ff,ff,ff,ff,ff,ff,ff,ff,ff,ff,ff,ff,ff,ff,ff,ff,ff,ff,ff,ff,ff]) rfl C5 (qM rfl) rfl (by kernel_rfl) rfl rfl ?_
 refine aP 1 rfl (qM rfl) rfl ?_
 refine aP 2 rfl (qM rfl) rfl ?_
 refine aP 3 rfl (C1 rfl) rfl ?_
 refine aP 4 rfl (A9 rfl) rfl ?_
 refine aL 5 rfl (C2 rfl rfl) rfl ?_
 refine aP 6 rfl (qM rfl) rfl ?_
 refine aP 7 rfl (U5 rfl rfl rfl (by omega)) rfl ?_
 refine aP 8 rfl (qM rfl) rfl ?_
 refine aP 9 rfl (C1 rfl) rfl ?_
 refine aP 10 rfl (A9 rfl) rfl ?_
 refine aL 11 rfl (C2 rfl rfl) rfl ?_
 refine aP 12 rfl (qM rfl) rfl ?_
 refine B1 13 rfl rfl rfl ?_
 refine B1 14 rfl rfl rfl ?_
 refine aP 15 rfl (J8 rfl rfl) rfl ?_
 refine aP 16 rfl (C1 rfl) rfl ?_
 refine aP 17 rfl (A9 rfl) rfl ?_
 refine A1 18 ?_
 refine J7 rfl ?_
 refine aP 19 rfl (C1 rfl) rfl ?_
 refine aP 20 rfl (A9 rfl) rfl ?_
 refine A1 21 ?_
 refine K6 rfl rfl rfl rfl rfl rfl rfl rfl (by decide +kernel) (by repeat first | exact Sw.here | apply Sw.there) (by rfl) ?_
 refine C7 ?_
 refine C4 (rT rfl) (.cons (by repeat (first | exact Pk.here | apply Pk.there)) .nil) ?_
 (rw [X9]; exact ⟨rfl, _, nv, rfl, .no (by rw [N3, List.length_drop]; omega), rfl, hI, fun x hx => by cases hx⟩)
 refine F8 ?_
 (cases bad <;> refine D3 D4 rfl ?_)
 refine E8 (i := 0) (l' := [tt,ff,ff,ff,ff,ff,ff,ff,ff,ff,ff,ff,ff,ff,ff,ff,ff,ff,ff,ff,ff,ff]) rfl C5 (qM rfl) rfl (by kernel_rfl) rfl rfl ?_
 refine aP 1 rfl (qM rfl) rfl ?_
 refine aP 2 rfl (qM rfl) rfl ?_
 refine aP 3 rfl (C1 rfl) rfl ?_
 refine aP 4 rfl (A9 rfl) rfl ?_
 refine aL 5 rfl (C2 rfl rfl) rfl ?_
 refine aP 6 rfl (qM rfl) rfl ?_
 refine aP 7 rfl (U5 rfl rfl rfl (by omega)) rfl ?_
 refine aP 8 rfl (qM rfl) rfl ?_
 refine aP 9 rfl (C1 rfl) rfl ?_
 refine aP 10 rfl (A9 rfl) rfl ?_
 refine aL 11 rfl (C2 rfl rfl) rfl ?_
 refine aP 12 rfl (qM rfl) rfl ?_
 refine aP 13 rfl (qM rfl) rfl ?_
 refine aP 14 rfl (A30 A1t rfl rfl) rfl ?_
 refine aP 15 rfl (M4 rfl rfl) rfl ?_
 refine aP 16 rfl (C1 rfl) rfl ?_
 refine aP 17 rfl (A9 rfl) rfl ?_
 refine A1 18 ?_
 refine J7 rfl ?_
 refine aP 19 rfl (C1 rfl) rfl ?_
 refine aP 20 rfl (A9 rfl) rfl ?_
 refine A1 21 ?_
 refine K6 rfl rfl rfl rfl rfl rfl rfl rfl (by decide +kernel) (by repeat first | exact Sw.here | apply Sw.there) (by rfl) ?_
 refine C7 ?_
 refine C4 (rT rfl) (.cons (by repeat (first | exact Pk.here | apply Pk.there)) .nil) ?_
 (rw [X9]; exact ⟨rfl, _, nv, rfl, by rw [if_neg (by simp), A1v hno]; exact .no (by rw [N3, List.length_drop]; omega), rfl, hI, fun x hx => by rw [if_neg (by simp), A1v hno] at hx; cases hx⟩)
 refine E8 (i := 0) (l' := [tt,ff,ff,ff,ff,ff,ff,ff,ff,ff,ff,ff,ff,ff,ff,ff,ff,ff,ff,ff,ff,ff]) rfl C5 (qM rfl) rfl (by kernel_rfl) rfl rfl ?_
 refine aP 1 rfl (qM rfl) rfl ?_
 refine aP 2 rfl (qM rfl) rfl ?_
 refine aP 3 rfl (C1 rfl) rfl ?_
 refine aP 4 rfl (A9 rfl) rfl ?_
 refine aL 5 rfl (C2 rfl rfl) rfl ?_
 refine aP 6 rfl (qM rfl) rfl ?_
 refine aP 7 rfl (U5 rfl rfl rfl (by omega)) rfl ?_
 refine aP 8 rfl (qM rfl) rfl ?_
 refine aP 9 rfl (C1 rfl) rfl ?_
 refine aP 10 rfl (A9 rfl) rfl ?_
 refine aL 11 rfl (C2 rfl rfl) rfl ?_
 refine aP 12 rfl (qM rfl) rfl ?_
 refine B1 13 rfl rfl rfl ?_
 refine B1 14 rfl rfl rfl ?_
 refine aP 15 rfl (J8 rfl rfl) rfl ?_
 refine aP 16 rfl (C1 rfl) rfl ?_
 refine aP 17 rfl (A9 rfl) rfl ?_
 refine A1 18 ?_
 refine J7 rfl ?_
 refine aP 19 rfl (C1 rfl) rfl ?_
 refine aP 20 rfl (A9 rfl) rfl ?_
 refine A1 21 ?_
 refine K6 rfl rfl rfl rfl rfl rfl rfl rfl (by decide +kernel) (by repeat first | exact Sw.here | apply Sw.there) (by rfl) ?_
 refine C7 ?_
 refine C4 (rT rfl) (.cons (by repeat (first | exact Pk.here | apply Pk.there)) .nil) ?_
 (rw [X9]; exact ⟨rfl, _, nv, rfl, .no (by rw [N3, List.length_drop]; omega), rfl, hI, fun x hx => by cases hx⟩)
theorem B0k (b : Nat) (S : Option A3) (cs : List Value) (G : IM) (hE : A0y G) (h : T3 S cs) : Fn Tryz.prog 151 [.pointer (some ⟨b, 0, none⟩)] [.blk b cs] G (B0i b (S.bind A0d) G) := by
 rcases h with ⟨rfl, s, hs, rfl⟩ | ⟨l, rfl, hl, rfl⟩
 ·have := B0j b s.data.toList true G hE hs
  rw [A6E] at this
  exact this
 ·exact B0j b l false G hE hl
theorem Y0 (G : IM) : O4 G A7 [.int .i64 0, .slice none 0 0] [] := by
 simp only [A7, O4, N8]
 exact ⟨none, 0, [], [], rfl, ⟨by omega, by omega⟩, D5.nil _ _, ⟨rfl, rfl⟩, rfl, by simp [I8]⟩
def B7w (t : Tm) : Tm × Bool := if T7 t = true ∨ R2 t = true then (A2x t, true) else (K7, false)
section tvlaws
variable {P : Program} {Γ : K0} {env : K3} {hp : List A4} {G : IM} {K : Po} {ops : Array Oper} {ty : TypeId} {pos : String} {af : Array Edge} {gd : Option (Nat × Bool)}
theorem A6Q {H H' : List (Nat × Nat)} {fuel : Nat} {listed l' : List Bool} {j d : Nat} {f : FuncId} [hF : B9 P f] {g : Operand} {xs : List Operand} {ats : Array TypeId} {us cs vs : List Value} {e : A4} {rst : List A4} {post : IM → Value → List A4 → Prop}
  (hi : ops[j]? = some ⟨some d, .call ⟨.value g, ⟨xs⟩, ats⟩, ty, pos, af, gd⟩) (hg : evo env g = some (.func (.func f) ⟨us⟩ ⟨cs⟩)) (hx : evl env xs = some vs) (h : Fn P f (us ++ vs ++ cs) [e] G post) (hp' : hp.Perm ([e] ++ rst)) (hw : N1 ops env gd = some true) (hd : Nat.blt d Γ.n = true) (hl : listed.set j true = l')
  (hok : A5 ops j hp G e H H')
  (k : ∀ v G' outs, B2 G G' → post G' v outs → O1 P Γ ops K H' fuel l' ⟨(d, v) :: env, outs ++ rst, G'⟩) : W1 P Γ ops K H fuel listed j ⟨env, hp, G⟩ :=
 A2S hi (S5 hg hx h hp' hd) hw hl (fun _ _ hs => by simpa [Fp] using hok.spec hs) hok.filter (by rintro _ ⟨v, G', outs, rfl, hle, hq⟩; exact k v G' outs hle hq)
end tvlaws
theorem A2g (G : IM) {k num : Int} (nm : ByteArray) (hk : H4 k) (hnum : H4 num) : P0 G (.mk k nm num A7 A7 0 []) [.int .i64 k, .string nm, .int .i64 num, .int .i64 0, .slice none 0 0, .int .i64 0, .slice none 0 0, .int .i64 0, .slice none 0 0] [] := by
 simp only [P0]
 exact ⟨[.int .i64 0, .slice none 0 0], [.int .i64 0, .slice none 0 0], none, 0, [], [], [], [], rfl, hk, hnum, ⟨by decide, by decide⟩, Y0 G, Y0 G, D5.nil G 9, ⟨rfl, rfl⟩, rfl, fun b hb => by simp [I8] at hb⟩
theorem A1d {G Gi G2 : IM} {k num lb : Int} {nm : ByteArray} {ty fr : Ty} {ks : List Tm} {tc fc : List Value} {es : List (List Value)} {p : Option Addr} {c : Nat} {Ft Ff Fk : List Nat} (hk : H4 k) (hnum : H4 num) (hlb : H4 lb) (hle : B2 G Gi) (hle2 : B2 Gi G2)
  (ht : O4 (B6 Gi G) ty tc Ft) (hf : O4 (B6 Gi G) fr fc Ff) (hks : N9 (B6 Gi G) ks es Fk) (hn : (Ft ++ (Ff ++ Fk)).Nodup) (hsl : Sl G2 p ks.length c 9 es.flatten) (hnn : ∀ b ∈ I8 p, Gi b = none ∧ G2 b ≠ none) :
  ∃ F, P0 (B6 G2 G) (.mk k nm num ty fr lb ks) ([.int .i64 k, .string nm, .int .i64 num] ++ tc ++ fc ++ [.int .i64 lb, .slice p ks.length c]) F ∧ F.Nodup := by
 have hR := hks.R
 have hin : ∀ b ∈ I8 p, B6 G2 G b ≠ none := by
  intro b hb
  have h0 := (hnn b hb).1
  cases hg : G b with
  | none => simpa [B6, hg] using (hnn b hb).2
  | some l => rw [hle b l hg] at h0; cases h0
 have hout : ∀ b ∈ I8 p, ∀ x ∈ Ft ++ (Ff ++ Fk), x ≠ b := by
  rintro b hb x hx rfl
  have h1 : B6 Gi G x ≠ none := by
   rcases List.mem_append.1 hx with hx | hx
   ·exact ht.inG x hx
   rcases List.mem_append.1 hx with hx | hx
   ·exact hf.inG x hx
   ·exact hks.inG x hx
  have h2 := (hnn x hb).1
  apply h1
  cases hd : B6 Gi G x with
  | none => rfl
  | some l => rw [B6.le _ _ x l hd] at h2; cases h2
 refine ⟨Ft ++ (Ff ++ (I8 p ++ Fk)), ?_, ?_⟩
 ·simp only [P0]
  refine ⟨tc, fc, p, c, es, Ft, Ff, Fk, rfl, hk, hnum, hlb, ht.mono (B6.mono hle2), hf.mono (B6.mono hle2), D5.of (hsl.dif (fun b hb => (hnn b hb).1) hle) hR.len hR.all ?_, hks.mono (B6.mono hle2), rfl, hin⟩
  intro e he
  obtain ⟨i, hi⟩ := List.getElem?_of_mem he
  have hlt : i < ks.length := by have := (List.getElem?_eq_some_iff.1 hi).1; rw [hR.len] at this; exact this
  obtain ⟨e', he', hr⟩ := hR.get (i := i) (t := ks[i]) (by simp [hlt])
  rw [hi] at he'; cases he'; exact hr.one
 ·have hp : (Ft ++ (Ff ++ (I8 p ++ Fk))).Perm (I8 p ++ (Ft ++ (Ff ++ Fk))) :=
   (List.Perm.append_left Ft (List.perm_append_comm_assoc Ff (I8 p) Fk)).trans (List.perm_append_comm_assoc Ft (I8 p) (Ff ++ Fk))
  rw [hp.nodup_iff, List.nodup_append]
  exact ⟨A7E p, hn, fun x hx y hy he => hout x hx y hy he.symm⟩
theorem A1e {G G1 : IM} {a : Tm} {ca : List Value} {Fa : List Nat} (ha : P0 (B6 G1 G) a ca Fa) : N9 (B6 G1 G) [a] [ca] Fa := by
 simp only [N9]; exact ⟨ca, [], Fa, [], rfl, ha, ⟨rfl, rfl⟩, by simp⟩
theorem A3g {G Gi G1 : IM} {ks : List Tm} {es : List (List Value)} {t : Tm} {a : List Value} {F F' : List Nat} (h : N9 (B6 Gi G) ks es F) (hn : F.Nodup) (hle : B2 G Gi) (hle1 : B2 Gi G1) (ha : P0 (B6 G1 Gi) t a F') (hn' : F'.Nodup) :
  N9 (B6 G1 G) (ks ++ [t]) (es ++ [a]) (F ++ F') ∧ (F ++ F').Nodup :=
 ⟨N9.snoc (h.mono (B6.mono hle1)) (ha.mono (B6.anti hle)), by rw [List.nodup_append]; exact ⟨hn, hn', A1l h.inG ha.inG⟩⟩
def A46 (b : Nat) (m : Option (Tm × A3)) (G : IM) : IM → Value → List A4 → Prop := fun G' v outs => ∃ cs' t cells F, outs = [.blk b cs'] ∧ T3 (m.map Prod.snd) cs' ∧ v = .agg ⟨cells⟩ ∧ P0 (B6 G' G) t cells F ∧ F.Nodup ∧ ∀ x, m = some x → t = x.1
theorem A0c {G : IM} {t : Tm} {cells : List Value} {F : List Nat} (h : P0 G t cells F) : ∃ x1 x2 x3 x4 x5 x6 x7 x8 x9, cells = [x1, x2, x3, x4, x5, x6, x7, x8, x9] := by
 obtain ⟨_, _, _, _, _, _, _, _, _, rfl, _⟩ := h.R.open; exact ⟨_, _, _, _, _, _, _, _, _, rfl⟩
theorem A6R {G : IM} {t : Ty} {cells : List Value} {F : List Nat} (h : O4 G t cells F) : ∃ x1 x2, cells = [x1, x2] := by
 obtain ⟨_, _, _, rfl, _⟩ := h.R.open; exact ⟨_, _, rfl⟩
def B0l (b : Nat) (f : A3 → Option (Tm × A3)) (fid : FuncId) (us cs : List Value) (G : IM) : Prop := ∀ (S : Option A3) (c' : List Value) (G' : IM), B2 G G' → T3 S c' → Fn Tryz.prog fid (us ++ [] ++ cs) [.blk b c'] G' (A46 b (S.bind f) G')
section done
variable {f : A3 → Option (Tm × A3)} {S : Option A3}
theorem A6S {k : Int} {c : UInt8} (hk : (c = 32 ∧ k = 6) ∨ (c = 43 ∧ k = 7) ∨ (c = 60 ∧ k = 8)) {a b : Tm} (hc : H1 ((S.bind f).map Prod.snd) = c) (ha : ∀ x, S.bind f = some x → a = x.1) (hb : ∀ x, (O9 ((S.bind f).map Prod.snd)).bind f = some x → b = x.1) :
  (S.bind (V9 f)).map Prod.snd = (((O9 ((S.bind f).map Prod.snd)).bind f).map Prod.snd).bind (F9 41) ∧ ∀ x, S.bind (V9 f) = some x → nd k [a, b] = x.1 := by
 rcases S with _ | l
 ·exact ⟨rfl, fun x hx => by cases hx⟩
 simp only [Option.bind_some] at ha hb hc ⊢
 unfold V9
 cases hA : f l with
 | none => exact ⟨rfl, fun x hx => by cases hx⟩
 | some x =>
  rw [hA] at ha hb hc
  simp only [Option.bind_some, Option.map_some] at ha hb hc ⊢
  obtain ⟨xa, xl⟩ := x
  cases xl with
  | nil =>
   have hc : (0 : UInt8) = c := hc
   subst hc
   rcases hk with ⟨h, _⟩ | ⟨h, _⟩ | ⟨h, _⟩ <;> exact absurd h (by decide)
  | cons d r =>
   have hc : d = c := hc
   have e : V9 f l = A1N f k xa r := by
    unfold V9
    rw [hA]
    simp only [Option.bind_some, T9]
    rcases hk with ⟨rfl, rfl⟩ | ⟨rfl, rfl⟩ | ⟨rfl, rfl⟩ <;> subst hc
    ·rw [if_pos rfl]
    ·rw [if_neg (by decide), if_pos rfl]
    ·rw [if_neg (by decide), if_neg (by decide), if_pos rfl]
   unfold V9 at e
   rw [hA] at e
   simp only [Option.bind_some] at e
   rw [e]
   have hb : ∀ x, f r = some x → b = x.1 := hb
   show (A1N f k xa r).map Prod.snd = ((f r).map Prod.snd).bind (F9 41) ∧ _
   unfold A1N
   cases hB : f r with
   | none => exact ⟨rfl, fun x hx => by cases hx⟩
   | some y =>
    simp only [Option.bind_some, Option.map_some]
    cases hW : F9 41 y.2 with
    | none => exact ⟨rfl, fun x hx => by cases hx⟩
    | some w => exact ⟨rfl, fun q hq => by cases hq; rw [ha _ rfl, hb y hB]⟩
theorem B4U (h1 : H1 ((S.bind f).map Prod.snd) ≠ 32) (h2 : H1 ((S.bind f).map Prod.snd) ≠ 43) (h3 : H1 ((S.bind f).map Prod.snd) ≠ 60) (h4 : H1 ((S.bind f).map Prod.snd) ≠ 58) : S.bind (V9 f) = none := by
 rcases S with _ | l
 ·rfl
 simp only [Option.bind_some] at h1 h2 h3 h4 ⊢
 unfold V9
 cases hA : f l with
 | none => rfl
 | some x =>
  rw [hA] at h1 h2 h3 h4
  obtain ⟨xa, xl⟩ := x
  cases xl with
  | nil => rfl
  | cons d r =>
   have h1 : d ≠ 32 := h1
   have h2 : d ≠ 43 := h2
   have h3 : d ≠ 60 := h3
   have h4 : d ≠ 58 := h4
   simp only [Option.bind_some, T9]
   rw [if_neg h1, if_neg h2, if_neg h3, if_neg h4]
theorem B0m (hc : H1 ((S.bind f).map Prod.snd) = 58) : ∃ X : Option (Tm × A3), S.bind f = X ∧ S.bind (V9 f) = X.bind fun a => (O9 (some a.2)).bind fun l => pAs a.1 l := by
 refine ⟨_, rfl, ?_⟩
 rcases S with _ | l
 ·rfl
 simp only [Option.bind_some] at hc ⊢
 unfold V9
 cases hA : f l with
 | none => rfl
 | some x =>
  rw [hA] at hc
  obtain ⟨xa, xl⟩ := x
  cases xl with
  | nil => rfl
  | cons d r =>
   have hc : d = 58 := hc
   subst hc
   rfl
theorem B4V {a : Tm} {ty : Ty} (hc : H1 ((S.bind f).map Prod.snd) = 58) (ha : ∀ x, S.bind f = some x → a = x.1) (ht : ∀ x, (O9 ((S.bind f).map Prod.snd)).bind (O2 4) = some x → ty = x.1) (hn : H1 (((O9 ((S.bind f).map Prod.snd)).bind (O2 4)).map Prod.snd) ≠ 126) :
  (S.bind (V9 f)).map Prod.snd = (((O9 ((S.bind f).map Prod.snd)).bind (O2 4)).map Prod.snd).bind (F9 41) ∧ ∀ x, S.bind (V9 f) = some x → Tm.mk 13 ⟨#[]⟩ 0 ty A7 0 [a] = x.1 := by
 obtain ⟨X, hX, hR⟩ := B0m hc
 rw [hR]
 rw [hX] at ha ht hn ⊢
 cases X with
 | none => exact ⟨rfl, fun x hx => by cases hx⟩
 | some x =>
  simp only [Option.bind_some, Option.map_some] at ha ht hn ⊢
  cases hl : O9 (some x.2) with
  | none => exact ⟨rfl, fun x hx => by cases hx⟩
  | some l =>
   rw [hl] at ht hn
   simp only [Option.bind_some] at ht hn ⊢
   unfold pAs
   cases hT : O2 4 l with
   | none => exact ⟨rfl, fun x hx => by cases hx⟩
   | some t =>
    rw [hT] at hn
    simp only [Option.bind_some, Option.map_some] at hn ⊢
    have hh : t.2.headD 0 = H1 (some t.2) := by cases t.2 <;> rfl
    rw [if_neg (by rw [hh]; exact hn)]
    cases hW : F9 41 t.2 with
    | none => exact ⟨rfl, fun x hx => by cases hx⟩
    | some w => exact ⟨rfl, fun q hq => by cases hq; rw [ha _ rfl, ht _ hT]⟩
theorem B4W {a : Tm} {ty fr : Ty} {lb : Int} (hc : H1 ((S.bind f).map Prod.snd) = 58) (ha : ∀ x, S.bind f = some x → a = x.1) {T U : Option (Ty × A3)} {M : Option (Int × A3)} (hT : (O9 ((S.bind f).map Prod.snd)).bind (O2 4) = T) (hf : ∀ x, T = some x → fr = x.1) (hn : H1 (T.map Prod.snd) = 126)
  (hU : (O9 (T.map Prod.snd)).bind (O2 4) = U) (ht : ∀ x, U = some x → ty = x.1) (hM : ((U.map Prod.snd).bind (F9 35)).bind A0d = M) (hl : ∀ x, M = some x → lb = x.1) :
  (S.bind (V9 f)).map Prod.snd = (M.map Prod.snd).bind (F9 41) ∧ ∀ x, S.bind (V9 f) = some x → Tm.mk 14 ⟨#[]⟩ 0 ty fr lb [a] = x.1 := by
 obtain ⟨X, hX, hR⟩ := B0m hc
 rw [hR]
 rw [hX] at ha hT
 subst hM hU hT
 cases X with
 | none => exact ⟨rfl, fun x hx => by cases hx⟩
 | some x =>
  simp only [Option.bind_some, Option.map_some] at ha hf hn ht hl ⊢
  cases hl' : O9 (some x.2) with
  | none => exact ⟨rfl, fun x hx => by cases hx⟩
  | some l =>
   rw [hl'] at hf hn ht hl
   simp only [Option.bind_some] at hf hn ht hl ⊢
   unfold pAs
   cases hT : O2 4 l with
   | none => exact ⟨rfl, fun x hx => by cases hx⟩
   | some t =>
    rw [hT] at hn hf ht hl
    simp only [Option.bind_some, Option.map_some] at hn hf ht hl ⊢
    have hh : t.2.headD 0 = H1 (some t.2) := by cases t.2 <;> rfl
    have ha' : O9 (some t.2) = some t.2.tail := by
     obtain ⟨t1, t2⟩ := t
     cases t2 with
     | nil => cases hn
     | cons d r => rfl
    rw [if_pos (by rw [hh]; exact hn)]
    rw [ha'] at ht hl ⊢
    simp only [Option.bind_some] at ht hl ⊢
    cases hU : O2 4 t.2.tail with
    | none => exact ⟨rfl, fun x hx => by cases hx⟩
    | some u =>
     rw [hU] at ht hl
     simp only [Option.bind_some, Option.map_some] at ht hl ⊢
     cases hS : F9 35 u.2 with
     | none => exact ⟨rfl, fun x hx => by cases hx⟩
     | some r2 =>
      rw [hS] at hl
      simp only [Option.bind_some] at hl ⊢
      cases hM : A0d r2 with
      | none => exact ⟨rfl, fun x hx => by cases hx⟩
      | some m =>
       simp only [Option.bind_some, Option.map_some]
       cases hW : F9 41 m.2 with
       | none => exact ⟨rfl, fun x hx => by cases hx⟩
       | some w => exact ⟨rfl, fun q hq => by cases hq; rw [ha _ rfl, ht _ rfl, hf _ rfl, hl _ hM]⟩
end done
theorem A6T {A B C : List Nat} (ha : A.Nodup) (hb : B.Nodup) (hc : C.Nodup) (h1 : ∀ x ∈ A, ∀ y ∈ B, x ≠ y) (h2 : ∀ x ∈ A, ∀ y ∈ C, x ≠ y) (h3 : ∀ x ∈ B, ∀ y ∈ C, x ≠ y) : (A ++ (B ++ C)).Nodup := by
 rw [List.nodup_append, List.nodup_append]
 refine ⟨ha, ⟨hb, hc, h3⟩, fun x hx y hy => ?_⟩
 rcases List.mem_append.1 hy with hy | hy
 ·exact h1 x hx y hy
 ·exact h2 x hx y hy
theorem B4X (b : Nat) (f : A3 → Option (Tm × A3)) (fid : FuncId) [B9 Tryz.prog fid] (us cs : List Value) (G : IM) (hE : A0y G) (hsub : B0l b f fid us cs G) (S : Option A3) (c0 : List Value) (h : T3 S c0) :
  Fn Tryz.prog 156 [.pointer (some ⟨b, 0, none⟩), .func (.func fid) ⟨us⟩ ⟨cs⟩] [.blk b c0] G (A46 b (S.bind (V9 f)) G) := by
 refine B8 Tryz.func156 rfl Tryz.ntmps156 Tryz.results156 rfl ?_
 intro w0
 refine tS (tR ?_)
 refine sE (A8 rfl) rfl (fun b3 => ?_)
 refine sD (nS (tS (tR (sQ (qM rfl) rfl ?_))))
 (refine D7 (S5 rfl rfl (hsub S c0 G (B2.refl _) h) (Pk.perm (by repeat (first | exact Pk.here | apply Pk.there))) rfl) rfl ?_; rintro _ ⟨v, G1, outs, rfl, hle1, csa, ta, ca, Fa, rfl, hRa, rfl, hsa, hna, hva⟩; have hoa := hsa.R.one; obtain ⟨x1, x2, x3, x4, x5, x6, x7, x8, x9, rfl⟩ := A0c hsa; replace hE := hE.mono hle1)
 (refine D7 (D1 rfl rfl rfl (by omega) (by unfold maxLen; omega) rfl) rfl ?_; rintro _ ⟨b10, rfl⟩)
 refine sQ (P6 rfl rfl) rfl ?_
 refine sE (A8 rfl) rfl (fun b12 => ?_)
 refine H2 ?_
 refine sD (nS (tS (tS (tR (sQ (qM rfl) rfl ?_)))))
 (refine C0 rfl (A1s b ((S.bind f).map Prod.snd) csa G1 hRa) (Pk.perm (by repeat (first | exact Pk.here | apply Pk.there))) rfl rfl (fun v G2 outs hle2 hh => ?_); obtain ⟨Q0, rfl, hR1, hG, rfl⟩ := hh; replace hG := hG.symm; subst hG; obtain ⟨s1, bad1, rfl, hs1⟩ := hR1.open; have hnB := hR1.bad; obtain ⟨c, hc⟩ : ∃ c, H1 ((S.bind f).map Prod.snd) = c := ⟨_, rfl⟩; rw [hc])
 refine sD (nS ?_)
 refine C6 (tS (tR (sB (qE rfl rfl) rfl rfl (fun h26 => ?_) (fun h26 => ?_))))
 refine M3 ?_
 refine sP (A0h rfl rfl (by omega)) rfl rfl ?_
 refine H0 ?_
 refine sP (A0h rfl rfl (by omega)) rfl rfl ?_
 refine sQ (J8 rfl rfl) rfl (sD (nS (qT rfl ?_)))
 refine D3 D4 rfl ?_
 refine E8 (i := 0) (l' := [tt,ff,ff,ff,ff,ff,ff,ff]) rfl C5 (A9 rfl) rfl (by kernel_rfl) rfl rfl ?_
 refine aL 1 rfl (C2 rfl rfl) rfl ?_
 refine aP 2 rfl (qM rfl) rfl ?_
 refine A1 3 ?_
 (refine A6Q (l' := [tt,tt,tt,tt,ff,ff,ff,ff]) rfl rfl rfl (hsub _ _ G1 hle1 hR1) (Pk.perm (by repeat (first | exact Pk.here | apply Pk.there))) rfl rfl rfl (by repeat (first | exact A5.nil | apply A5.dep (by decide +kernel) | apply A5.im (by decide +kernel) (by assumption) (by repeat first | exact mH | apply mT) | apply A5.blk (by decide +kernel) (by repeat (first | exact Pk.here | apply Pk.there)) (by repeat first | exact mH | apply mT))) (fun v G2 outs hle2 hh => ?_); obtain ⟨csb, tb, cb, Fb, rfl, hRb, rfl, hsb, hnb, hvb⟩ := hh; have hob := hsb.R.one; obtain ⟨y1, y2, y3, y4, y5, y6, y7, y8, y9, rfl⟩ := A0c hsb)
 refine A1 4 ?_
 (refine I7 rfl (D1 rfl rfl rfl (by omega) (by unfold maxLen; omega) rfl) rfl rfl ?_; rintro _ ⟨b58, rfl⟩)
 refine A1 5 ?_
 (refine W2 rfl rfl rfl rfl rfl rfl (fun _ _ => by repeat (first | exact Sw.here | apply Sw.there)) (R0 (by repeat first | exact mH | apply mT)) rfl (fun u hu => List.all_eq_true.1 hob u hu) (by unfold maxLen; omega) (by omega) rfl rfl (by repeat (first | exact A5.nil | apply A5.dep (by decide +kernel) | apply A5.im (by decide +kernel) (by assumption) (by repeat first | exact mH | apply mT) | apply A5.blk (by decide +kernel) (by repeat (first | exact Pk.here | apply Pk.there)) (by repeat first | exact mH | apply mT))) (fun p7 c7 => ?_))
 refine aP 6 rfl (A9 rfl) rfl ?_
 refine A1 7 ?_
 refine K6 rfl rfl rfl rfl rfl rfl rfl rfl (by decide +kernel) (by repeat first | exact Sw.here | apply Sw.there) (by rfl) ?_
 refine D8 (nS (tS (tR (sQ (qM rfl) rfl ?_))))
 (have hcc : c = 32 := J5 (b := 32) (by show _ = (32 : Int); omega); subst hcc; refine P2 (cs := [x1, x2, x3, x4, x5, x6, x7, x8, x9, y1, y2, y3, y4, y5, y6, y7, y8, y9]) (by repeat (first | exact Pk.here | apply Pk.there)) (fun G7 hle7 hsl7 hno7 => ?_); obtain ⟨k1, k2⟩ := A3g (A1e hsa) hna hle1 hle2 hsb hnb; obtain ⟨F7, f1, f2⟩ := A1d (k := 6) (num := 0) (lb := 0) (nm := ⟨#[]⟩) (ty := A7) (fr := A7) ⟨by decide, by decide⟩ ⟨by decide, by decide⟩ ⟨by decide, by decide⟩ (hle1.trans hle2) hle7 (Y0 _) (Y0 _) k1 (by simpa using k2) hsl7 hno7; obtain ⟨d1, d2⟩ := A6S (k := 6) (by decide) hc hva hvb; refine C0 rfl (A0u b 41 _ csb G7 hRb) (Pk.perm (by repeat (first | exact Pk.here | apply Pk.there))) rfl rfl (fun v G8 outs hle8 hh => ?_); obtain ⟨cs8, rfl, hR8, hG, rfl⟩ := hh; replace hG := hG.symm; subst hG; rw [← d1] at hR8)
 refine sD (nS (tS (tR (sL (A2 rfl rfl) rfl rfl ?_))))
 refine M0 rfl rfl rfl rfl (by exact f1.R.one) rfl (by repeat first | exact Sw.here | apply Sw.there) (by rfl) ?_
 refine sD (nS (tT ?_))
 refine C4 (rC rfl (A2 rfl rfl)) (.cons (by repeat (first | exact Pk.here | apply Pk.there)) .nil) ?_
 (exact ⟨cs8, _, _, F7, rfl, hR8, rfl, f1, f2, d2⟩)
 refine sQ (qA rfl) rfl (sD (nS (cF rfl (tS (tR ?_)))))
 refine sB (qE rfl rfl) rfl rfl (fun h87 => ?_) (fun h87 => ?_)
 refine M3 ?_
 refine sP (A0h rfl rfl (by omega)) rfl rfl ?_
 refine H0 ?_
 refine sP (A0h rfl rfl (by omega)) rfl rfl ?_
 refine sQ (J8 rfl rfl) rfl (sD (nS (qT rfl ?_)))
 refine D3 D4 rfl ?_
 refine E8 (i := 0) (l' := [tt,ff,ff,ff,ff,ff,ff,ff]) rfl C5 (A9 rfl) rfl (by kernel_rfl) rfl rfl ?_
 refine aL 1 rfl (C2 rfl rfl) rfl ?_
 refine aP 2 rfl (qM rfl) rfl ?_
 refine A1 3 ?_
 (refine A6Q (l' := [tt,tt,tt,tt,ff,ff,ff,ff]) rfl rfl rfl (hsub _ _ G1 hle1 hR1) (Pk.perm (by repeat (first | exact Pk.here | apply Pk.there))) rfl rfl rfl (by repeat (first | exact A5.nil | apply A5.dep (by decide +kernel) | apply A5.im (by decide +kernel) (by assumption) (by repeat first | exact mH | apply mT) | apply A5.blk (by decide +kernel) (by repeat (first | exact Pk.here | apply Pk.there)) (by repeat first | exact mH | apply mT))) (fun v G2 outs hle2 hh => ?_); obtain ⟨csb, tb, cb, Fb, rfl, hRb, rfl, hsb, hnb, hvb⟩ := hh; have hob := hsb.R.one; obtain ⟨y1, y2, y3, y4, y5, y6, y7, y8, y9, rfl⟩ := A0c hsb)
 refine A1 4 ?_
 (refine I7 rfl (D1 rfl rfl rfl (by omega) (by unfold maxLen; omega) rfl) rfl rfl ?_; rintro _ ⟨b119, rfl⟩)
 refine A1 5 ?_
 (refine W2 rfl rfl rfl rfl rfl rfl (fun _ _ => by repeat (first | exact Sw.here | apply Sw.there)) (R0 (by repeat first | exact mH | apply mT)) rfl (fun u hu => List.all_eq_true.1 hob u hu) (by unfold maxLen; omega) (by omega) rfl rfl (by repeat (first | exact A5.nil | apply A5.dep (by decide +kernel) | apply A5.im (by decide +kernel) (by assumption) (by repeat first | exact mH | apply mT) | apply A5.blk (by decide +kernel) (by repeat (first | exact Pk.here | apply Pk.there)) (by repeat first | exact mH | apply mT))) (fun p7 c7 => ?_))
 refine aP 6 rfl (A9 rfl) rfl ?_
 refine A1 7 ?_
 refine K6 rfl rfl rfl rfl rfl rfl rfl rfl (by decide +kernel) (by repeat first | exact Sw.here | apply Sw.there) (by rfl) ?_
 refine D8 (nS (tS (tR (sQ (qM rfl) rfl ?_))))
 (have hcc : c = 43 := J5 (b := 43) (by show _ = (43 : Int); omega); subst hcc; refine P2 (cs := [x1, x2, x3, x4, x5, x6, x7, x8, x9, y1, y2, y3, y4, y5, y6, y7, y8, y9]) (by repeat (first | exact Pk.here | apply Pk.there)) (fun G7 hle7 hsl7 hno7 => ?_); obtain ⟨k1, k2⟩ := A3g (A1e hsa) hna hle1 hle2 hsb hnb; obtain ⟨F7, f1, f2⟩ := A1d (k := 7) (num := 0) (lb := 0) (nm := ⟨#[]⟩) (ty := A7) (fr := A7) ⟨by decide, by decide⟩ ⟨by decide, by decide⟩ ⟨by decide, by decide⟩ (hle1.trans hle2) hle7 (Y0 _) (Y0 _) k1 (by simpa using k2) hsl7 hno7; obtain ⟨d1, d2⟩ := A6S (k := 7) (by decide) hc hva hvb; refine C0 rfl (A0u b 41 _ csb G7 hRb) (Pk.perm (by repeat (first | exact Pk.here | apply Pk.there))) rfl rfl (fun v G8 outs hle8 hh => ?_); obtain ⟨cs8, rfl, hR8, hG, rfl⟩ := hh; replace hG := hG.symm; subst hG; rw [← d1] at hR8)
 refine sD (nS (tS (tR (sL (A2 rfl rfl) rfl rfl ?_))))
 refine M0 rfl rfl rfl rfl (by exact f1.R.one) rfl (by repeat first | exact Sw.here | apply Sw.there) (by rfl) ?_
 refine sD (nS (tT ?_))
 refine C4 (rC rfl (A2 rfl rfl)) (.cons (by repeat (first | exact Pk.here | apply Pk.there)) .nil) ?_
 (exact ⟨cs8, _, _, F7, rfl, hR8, rfl, f1, f2, d2⟩)
 refine sQ (qA rfl) rfl (sD (nS (cF rfl (tS (tR ?_)))))
 refine sB (qE rfl rfl) rfl rfl (fun h148 => ?_) (fun h148 => ?_)
 refine M3 ?_
 refine sP (A0h rfl rfl (by omega)) rfl rfl ?_
 refine H0 ?_
 refine sP (A0h rfl rfl (by omega)) rfl rfl ?_
 refine sQ (J8 rfl rfl) rfl (sD (nS (qT rfl ?_)))
 refine D3 D4 rfl ?_
 refine E8 (i := 0) (l' := [tt,ff,ff,ff,ff,ff,ff,ff]) rfl C5 (A9 rfl) rfl (by kernel_rfl) rfl rfl ?_
 refine aL 1 rfl (C2 rfl rfl) rfl ?_
 refine aP 2 rfl (qM rfl) rfl ?_
 refine A1 3 ?_
 (refine A6Q (l' := [tt,tt,tt,tt,ff,ff,ff,ff]) rfl rfl rfl (hsub _ _ G1 hle1 hR1) (Pk.perm (by repeat (first | exact Pk.here | apply Pk.there))) rfl rfl rfl (by repeat (first | exact A5.nil | apply A5.dep (by decide +kernel) | apply A5.im (by decide +kernel) (by assumption) (by repeat first | exact mH | apply mT) | apply A5.blk (by decide +kernel) (by repeat (first | exact Pk.here | apply Pk.there)) (by repeat first | exact mH | apply mT))) (fun v G2 outs hle2 hh => ?_); obtain ⟨csb, tb, cb, Fb, rfl, hRb, rfl, hsb, hnb, hvb⟩ := hh; have hob := hsb.R.one; obtain ⟨y1, y2, y3, y4, y5, y6, y7, y8, y9, rfl⟩ := A0c hsb)
 refine A1 4 ?_
 (refine I7 rfl (D1 rfl rfl rfl (by omega) (by unfold maxLen; omega) rfl) rfl rfl ?_; rintro _ ⟨b180, rfl⟩)
 refine A1 5 ?_
 (refine W2 rfl rfl rfl rfl rfl rfl (fun _ _ => by repeat (first | exact Sw.here | apply Sw.there)) (R0 (by repeat first | exact mH | apply mT)) rfl (fun u hu => List.all_eq_true.1 hob u hu) (by unfold maxLen; omega) (by omega) rfl rfl (by repeat (first | exact A5.nil | apply A5.dep (by decide +kernel) | apply A5.im (by decide +kernel) (by assumption) (by repeat first | exact mH | apply mT) | apply A5.blk (by decide +kernel) (by repeat (first | exact Pk.here | apply Pk.there)) (by repeat first | exact mH | apply mT))) (fun p7 c7 => ?_))
 refine aP 6 rfl (A9 rfl) rfl ?_
 refine A1 7 ?_
 refine K6 rfl rfl rfl rfl rfl rfl rfl rfl (by decide +kernel) (by repeat first | exact Sw.here | apply Sw.there) (by rfl) ?_
 refine D8 (nS (tS (tR (sQ (qM rfl) rfl ?_))))
 (have hcc : c = 60 := J5 (b := 60) (by show _ = (60 : Int); omega); subst hcc; refine P2 (cs := [x1, x2, x3, x4, x5, x6, x7, x8, x9, y1, y2, y3, y4, y5, y6, y7, y8, y9]) (by repeat (first | exact Pk.here | apply Pk.there)) (fun G7 hle7 hsl7 hno7 => ?_); obtain ⟨k1, k2⟩ := A3g (A1e hsa) hna hle1 hle2 hsb hnb; obtain ⟨F7, f1, f2⟩ := A1d (k := 8) (num := 0) (lb := 0) (nm := ⟨#[]⟩) (ty := A7) (fr := A7) ⟨by decide, by decide⟩ ⟨by decide, by decide⟩ ⟨by decide, by decide⟩ (hle1.trans hle2) hle7 (Y0 _) (Y0 _) k1 (by simpa using k2) hsl7 hno7; obtain ⟨d1, d2⟩ := A6S (k := 8) (by decide) hc hva hvb; refine C0 rfl (A0u b 41 _ csb G7 hRb) (Pk.perm (by repeat (first | exact Pk.here | apply Pk.there))) rfl rfl (fun v G8 outs hle8 hh => ?_); obtain ⟨cs8, rfl, hR8, hG, rfl⟩ := hh; replace hG := hG.symm; subst hG; rw [← d1] at hR8)
 refine sD (nS (tS (tR (sL (A2 rfl rfl) rfl rfl ?_))))
 refine M0 rfl rfl rfl rfl (by exact f1.R.one) rfl (by repeat first | exact Sw.here | apply Sw.there) (by rfl) ?_
 refine sD (nS (tT ?_))
 refine C4 (rC rfl (A2 rfl rfl)) (.cons (by repeat (first | exact Pk.here | apply Pk.there)) .nil) ?_
 (exact ⟨cs8, _, _, F7, rfl, hR8, rfl, f1, f2, d2⟩)
 refine sQ (qA rfl) rfl (sD (nS (cF rfl (tS (tR ?_)))))
 refine sB (qE rfl rfl) rfl rfl (fun h209 => ?_) (fun h209 => ?_)
 refine B7 ?_
 (have h58 : c = 58 := J5 (b := 58) (by show _ = (58 : Int); omega); subst h58; refine C0 rfl (A6H b 4 1 _ _ G1 (by omega) (by omega) hR1) (Pk.perm (by repeat (first | exact Pk.here | apply Pk.there))) rfl rfl (fun v G2 outs hle2 hh => ?_); obtain ⟨cst, tt1, ct, Ft, rfl, hRt, rfl, hst, hnt, hvt⟩ := hh; have hot := hst.R.one; obtain ⟨t1, t2, rfl⟩ := A6R hst; replace hE := hE.mono hle2; obtain ⟨T, hT⟩ : ∃ T, (O9 ((S.bind f).map Prod.snd)).bind (O2 4) = T := ⟨_, rfl⟩; rw [hT] at hRt hvt)
 refine sQ (A9 rfl) rfl (H2 ?_)
 refine sQ (A9 rfl) rfl ?_
 refine sS rfl rfl rfl rfl hot rfl ?_
 refine sD (nS (tS (tR (sQ (qM rfl) rfl ?_))))
 (refine C0 rfl (A3Z b _ _ G2 hRt) (Pk.perm (by repeat (first | exact Pk.here | apply Pk.there))) rfl rfl (fun v G3 outs hle3 hh => ?_); obtain ⟨hG, rfl, rfl⟩ := hh; replace hG := hG.symm; subst hG)
 refine sB (qE rfl rfl) rfl rfl (fun h228 => ?_) (fun h228 => ?_)
 refine sD (nS (qT rfl (tS (tR (sQ (qM rfl) rfl ?_)))))
 (have h126 : H1 (T.map Prod.snd) = 126 := J5 (b := 126) (by show _ = (126 : Int); omega); refine C0 rfl (A1s b (T.map Prod.snd) cst G2 hRt) (Pk.perm (by repeat (first | exact Pk.here | apply Pk.there))) rfl rfl (fun v G3 outs hle3 hh => ?_); obtain ⟨cs3, rfl, hR3, hG, rfl⟩ := hh; replace hG := hG.symm; subst hG)
 refine sD (nS (tS ?_))
 refine D3 D4 rfl ?_
 refine E8 (i := 0) (l' := [tt,ff,ff,ff,ff,ff,ff,ff,ff,ff]) rfl C5 (A9 rfl) rfl (by kernel_rfl) rfl rfl ?_
 refine aL 1 rfl (A2 rfl rfl) rfl ?_
 refine aP 2 rfl (qM rfl) rfl ?_
 refine aP 4 rfl (A9 rfl) rfl ?_
 refine A1 3 ?_
 (refine W4 (l' := [tt,tt,tt,tt,tt,ff,ff,ff,ff,ff]) rfl rfl (A6H b 4 1 _ _ G2 (by omega) (by omega) hR3) (Pk.perm (by repeat (first | exact Pk.here | apply Pk.there))) rfl rfl rfl (by repeat (first | exact A5.nil | apply A5.dep (by decide +kernel) | apply A5.im (by decide +kernel) (by assumption) (by repeat first | exact mH | apply mT) | apply A5.blk (by decide +kernel) (by repeat (first | exact Pk.here | apply Pk.there)) (by repeat first | exact mH | apply mT))) (fun v G4 outs hle4 hh => ?_); obtain ⟨cs4, tt2, cu, Fu, rfl, hR4, rfl, hsu, hnu, hvu⟩ := hh; have hou := hsu.R.one; obtain ⟨u1, u2, rfl⟩ := A6R hsu; replace hE := hE.mono hle4; obtain ⟨U, hU⟩ : ∃ U, (O9 (T.map Prod.snd)).bind (O2 4) = U := ⟨_, rfl⟩; rw [hU] at hR4 hvu)
 refine A1 5 ?_
 refine J7 rfl ?_
 refine aP 6 rfl (A9 rfl) rfl ?_
 refine A1 7 ?_
 refine oS rfl rfl rfl rfl rfl hot rfl rfl ?_
 refine aP 8 rfl (A9 rfl) rfl ?_
 refine A1 9 ?_
 refine oS rfl rfl rfl rfl rfl hou rfl rfl ?_
 refine D8 (nS (tS (tR (sQ (qM rfl) rfl ?_))))
 (refine C0 rfl (A0u b 35 _ cs4 G4 hR4) (Pk.perm (by repeat (first | exact Pk.here | apply Pk.there))) rfl rfl (fun v G5 outs hle5 hh => ?_); obtain ⟨cs5, rfl, hR5, hG, rfl⟩ := hh; replace hG := hG.symm; subst hG)
 refine sD (nS (tR (sQ (qM rfl) rfl ?_)))
 (refine C0 rfl (B0k b _ cs5 G4 hE hR5) (Pk.perm (by repeat (first | exact Pk.here | apply Pk.there))) rfl rfl (fun v G6 outs hle6 hh => ?_); obtain ⟨hG, cs6, lb, rfl, hR6, rfl, hlb, hvl⟩ := hh; replace hG := hG.symm; subst hG; obtain ⟨M, hM⟩ : ∃ M, ((U.map Prod.snd).bind (F9 35)).bind A0d = M := ⟨_, rfl⟩; rw [hM] at hR6 hvl)
 refine M2 ?_
 refine sP (A0h rfl rfl (by omega)) rfl rfl ?_
 refine H0 ?_
 refine sP (A2q rfl rfl (by omega)) rfl rfl ?_
 refine C7 ?_
 (refine P2 (cs := [x1, x2, x3, x4, x5, x6, x7, x8, x9]) (by repeat (first | exact Pk.here | apply Pk.there)) (fun G7 hle7 hsl7 hno7 => ?_); obtain ⟨F7, f1, f2⟩ := A1d (k := 14) (num := 0) (lb := lb) (nm := ⟨#[]⟩) (ty := tt2) (fr := tt1) ⟨by decide, by decide⟩ ⟨by decide, by decide⟩ hlb (hle1.trans (hle2.trans hle4)) hle7 (hsu.mono (B6.anti (hle1.trans hle2))) (hst.mono (fun b l h => B6.mono hle4 b l (B6.anti hle1 b l h))) ((A1e hsa).mono (B6.mono (hle2.trans hle4))) (A6T hnu hnt hna (fun x hx y hy he => A1l hst.inG hsu.inG y hy x hx he.symm) (fun x hx y hy he => A1l (G := G) (Gi := G2) (A4m (B6.mono hle2) hsa.inG) hsu.inG y hy x hx he.symm) (fun x hx y hy he => A1l hsa.inG hst.inG y hy x hx he.symm)) hsl7 hno7; obtain ⟨d1, d2⟩ := B4W hc hva hT hvt h126 hU hvu hM hvl; refine C0 rfl (A0u b 41 _ cs6 G7 hR6) (Pk.perm (by repeat (first | exact Pk.here | apply Pk.there))) rfl rfl (fun v G8 outs hle8 hh => ?_); obtain ⟨cs8, rfl, hR8, hG, rfl⟩ := hh; replace hG := hG.symm; subst hG; rw [← d1] at hR8)
 refine sD (nS (tS (tR (sL (A2 rfl rfl) rfl rfl ?_))))
 refine M0 rfl rfl rfl rfl (by exact f1.R.one) rfl (by repeat first | exact Sw.here | apply Sw.there) (by rfl) ?_
 refine sD (nS (tT ?_))
 refine C4 (rC rfl (A2 rfl rfl)) (.cons (by repeat (first | exact Pk.here | apply Pk.there)) .nil) ?_
 (exact ⟨cs8, _, _, F7, rfl, hR8, rfl, f1, f2, d2⟩)
 refine I6 ?_
 refine sP (A2q rfl rfl (by omega)) rfl rfl ?_
 refine I5 ?_
 (have h126 : H1 (T.map Prod.snd) ≠ 126 := J3 (by show _ ≠ (126 : Int); omega); refine P2 (cs := [x1, x2, x3, x4, x5, x6, x7, x8, x9]) (by repeat (first | exact Pk.here | apply Pk.there)) (fun G7 hle7 hsl7 hno7 => ?_); obtain ⟨F7, f1, f2⟩ := A1d (k := 13) (num := 0) (lb := 0) (nm := ⟨#[]⟩) (ty := tt1) (fr := A7) ⟨by decide, by decide⟩ ⟨by decide, by decide⟩ ⟨by decide, by decide⟩ (hle1.trans hle2) hle7 (hst.mono (B6.anti hle1)) (Y0 _) ((A1e hsa).mono (B6.mono hle2)) (A6T hnt List.nodup_nil hna (fun x hx y hy he => by cases hy) (fun x hx y hy he => A1l hsa.inG hst.inG y hy x hx he.symm) (fun x hx y hy he => by cases hx)) hsl7 hno7; subst hT; obtain ⟨d1, d2⟩ := B4V hc hva hvt h126; refine C0 rfl (A0u b 41 _ cst G7 hRt) (Pk.perm (by repeat (first | exact Pk.here | apply Pk.there))) rfl rfl (fun v G8 outs hle8 hh => ?_); obtain ⟨cs8, rfl, hR8, hG, rfl⟩ := hh; replace hG := hG.symm; subst hG; rw [← d1] at hR8)
 refine sD (nS (tS (tR (sL (A2 rfl rfl) rfl rfl ?_))))
 refine sS rfl rfl rfl rfl hot rfl ?_
 refine sD (nS (tT ?_))
 refine C4 (rC rfl (A2 rfl rfl)) (.cons (by repeat (first | exact Pk.here | apply Pk.there)) .nil) ?_
 (exact ⟨cs8, _, _, F7, rfl, hR8, rfl, f1, f2, d2⟩)
 refine B7 ?_
 refine sQ (C1 rfl) rfl ?_
 refine sQ (A9 rfl) rfl (H2 ?_)
 refine sD (nS (tS (tR ?_)))
 (refine P2 (cs := [x1, x2, x3, x4, x5, x6, x7, x8, x9]) (by repeat (first | exact Pk.here | apply Pk.there)) (fun G3 hle3 hsl3 hno3 => ?_); have hbad : True := trivial; have hz := B4U (S := S) (f := f) (by rw [hc]; exact J3 (by show _ ≠ (32 : Int); omega)) (by rw [hc]; exact J3 (by show _ ≠ (43 : Int); omega)) (by rw [hc]; exact J3 (by show _ ≠ (60 : Int); omega)) (by rw [hc]; exact J3 (by show _ ≠ (58 : Int); omega)); obtain ⟨F7, f1, f2⟩ := A1d (k := 0) (num := 0) (lb := 0) (nm := ⟨#[]⟩) (ty := A7) (fr := A7) ⟨by decide, by decide⟩ ⟨by decide, by decide⟩ ⟨by decide, by decide⟩ hle1 hle3 (Y0 _) (Y0 _) (A1e hsa) (by simpa using hna) hsl3 hno3)
 refine sL (A2 rfl rfl) rfl rfl ?_
 refine M0 rfl rfl rfl rfl (by exact f1.R.one) rfl (by repeat first | exact Sw.here | apply Sw.there) (by rfl) ?_
 refine sD (nS (tT (rB (rS ?_))))
 refine C4 (rC rfl (A2 rfl rfl)) (.cons (by repeat (first | exact Pk.here | apply Pk.there)) .nil) ?_
 (rw [hz]; exact ⟨_, _, _, F7, rfl, hnB, rfl, f1, f2, fun x hx => by cases hx⟩)
section tm
variable {S : Option A3} {n : Nat}
theorem B4Y : S.bind (I2 0) = none := by cases S <;> rfl
theorem B4Z (h : 97 ≤ (H1 S).toNat ∧ (H1 S).toNat ≤ 122) : S.bind (I2 (n + 1)) = (O9 S).map fun r => (.mk 1 ⟨#[H1 S]⟩ 0 A7 A7 0 [], r) := by
 rcases S with _ | _ | ⟨b, l⟩
 ·exact absurd h.1 (by decide)
 ·exact absurd h.1 (by decide)
 ·have h : 97 ≤ b.toNat ∧ b.toNat ≤ 122 := h
  show I2 (n + 1) (b :: l) = _
  rw [I2, if_pos h]; rfl
theorem B40 (h : J0 (H1 S)) : S.bind (I2 (n + 1)) = (S.bind A0d).map fun x => (.mk 2 ⟨#[]⟩ x.1 A7 A7 0 [], x.2) := by
 rcases S with _ | _ | ⟨b, l⟩
 ·exact absurd h (by decide)
 ·exact absurd h (by decide)
 ·have h : J0 b := h
  have h2 := h
  unfold J0 at h2
  show I2 (n + 1) (b :: l) = _
  rw [I2, if_neg (by omega), if_pos h]; rfl
theorem A2h (h : H1 S ≠ 0) : ∃ l, S = some (H1 S :: l) ∧ O9 S = some l := by
 rcases S with _ | _ | ⟨b, l⟩
 ·exact absurd rfl h
 ·exact absurd rfl h
 ·exact ⟨l, rfl, rfl⟩
theorem B41 (h : H1 S = 84) : S.bind (I2 (n + 1)) = (O9 S).map fun r => (nd 3 [], r) := by
 obtain ⟨l, h1, h2⟩ := A2h (S := S) (by rw [h]; decide)
 rw [h] at h1
 rw [h2, h1]
 show I2 (n + 1) (84 :: l) = _
 rw [I2, if_neg (by decide), if_neg (by decide), if_pos rfl]; rfl
theorem B42 (h : H1 S = 70) : S.bind (I2 (n + 1)) = (O9 S).map fun r => (nd 4 [], r) := by
 obtain ⟨l, h1, h2⟩ := A2h (S := S) (by rw [h]; decide)
 rw [h] at h1
 rw [h2, h1]
 show I2 (n + 1) (70 :: l) = _
 rw [I2, if_neg (by decide), if_neg (by decide), if_neg (by decide), if_pos rfl]; rfl
theorem B43 (h : H1 S = 33) : S.bind (I2 (n + 1)) = (O9 S).bind (A3e (I2 n)) := by
 obtain ⟨l, h1, h2⟩ := A2h (S := S) (by rw [h]; decide)
 rw [h] at h1
 rw [h2, h1]
 show I2 (n + 1) (33 :: l) = _
 rw [I2, if_neg (by decide), if_neg (by decide), if_neg (by decide), if_neg (by decide), if_pos rfl]; rfl
theorem B44 (h : H1 S = 123) : S.bind (I2 (n + 1)) = (O9 S).bind (pIf (I2 n)) := by
 obtain ⟨l, h1, h2⟩ := A2h (S := S) (by rw [h]; decide)
 rw [h] at h1
 rw [h2, h1]
 show I2 (n + 1) (123 :: l) = _
 rw [I2, if_neg (by decide), if_neg (by decide), if_neg (by decide), if_neg (by decide), if_neg (by decide), if_pos rfl]; rfl
theorem B45 (h : H1 S = 91) : S.bind (I2 (n + 1)) = (O9 S).bind (A3f (I2 n)) := by
 obtain ⟨l, h1, h2⟩ := A2h (S := S) (by rw [h]; decide)
 rw [h] at h1
 rw [h2, h1]
 show I2 (n + 1) (91 :: l) = _
 rw [I2, if_neg (by decide), if_neg (by decide), if_neg (by decide), if_neg (by decide), if_neg (by decide), if_neg (by decide), if_pos rfl]; rfl
theorem B46 (h : H1 S = 36) : S.bind (I2 (n + 1)) = (O9 S).bind (V1 (I2 n) 11) := by
 obtain ⟨l, h1, h2⟩ := A2h (S := S) (by rw [h]; decide)
 rw [h] at h1
 rw [h2, h1]
 show I2 (n + 1) (36 :: l) = _
 rw [I2, if_neg (by decide), if_neg (by decide), if_neg (by decide), if_neg (by decide), if_neg (by decide), if_neg (by decide), if_neg (by decide), if_pos rfl]; rfl
theorem B47 (h : H1 S = 37) : S.bind (I2 (n + 1)) = (O9 S).bind (V1 (I2 n) 12) := by
 obtain ⟨l, h1, h2⟩ := A2h (S := S) (by rw [h]; decide)
 rw [h] at h1
 rw [h2, h1]
 show I2 (n + 1) (37 :: l) = _
 rw [I2, if_neg (by decide), if_neg (by decide), if_neg (by decide), if_neg (by decide), if_neg (by decide), if_neg (by decide), if_neg (by decide), if_neg (by decide), if_pos rfl]; rfl
theorem B48 (h : H1 S = 40) : S.bind (I2 (n + 1)) = (O9 S).bind (V9 (I2 n)) := by
 obtain ⟨l, h1, h2⟩ := A2h (S := S) (by rw [h]; decide)
 rw [h] at h1
 rw [h2, h1]
 show I2 (n + 1) (40 :: l) = _
 rw [I2, if_neg (by decide), if_neg (by decide), if_neg (by decide), if_neg (by decide), if_neg (by decide), if_neg (by decide), if_neg (by decide), if_neg (by decide), if_neg (by decide), if_pos rfl]; rfl
theorem A6U (h1 : ¬(97 ≤ (H1 S).toNat ∧ (H1 S).toNat ≤ 122)) (h2 : ¬J0 (H1 S)) (g1 : H1 S ≠ 84) (g2 : H1 S ≠ 70) (g3 : H1 S ≠ 33) (g4 : H1 S ≠ 123) (g5 : H1 S ≠ 91) (g6 : H1 S ≠ 36) (g7 : H1 S ≠ 37) (g8 : H1 S ≠ 40) : S.bind (I2 (n + 1)) = none := by
 rcases S with _ | _ | ⟨b, l⟩
 ·rfl
 ·rfl
 ·show I2 (n + 1) (b :: l) = _
  have h1 : ¬(97 ≤ b.toNat ∧ b.toNat ≤ 122) := h1
  have h2 : ¬J0 b := h2
  have g1 : b ≠ 84 := g1
  have g2 : b ≠ 70 := g2
  have g3 : b ≠ 33 := g3
  have g4 : b ≠ 123 := g4
  have g5 : b ≠ 91 := g5
  have g6 : b ≠ 36 := g6
  have g7 : b ≠ 37 := g7
  have g8 : b ≠ 40 := g8
  rw [I2, if_neg h1, if_neg h2, if_neg g1, if_neg g2, if_neg g3, if_neg g4, if_neg g5, if_neg g6, if_neg g7, if_neg g8]
end tm
section done
variable {f : A3 → Option (Tm × A3)} {S : Option A3}
theorem B0n {k : Int} {a : Tm} (ha : ∀ x, S.bind f = some x → a = x.1) : (S.bind (V1 f k)).map Prod.snd = (S.bind f).map Prod.snd ∧ ∀ x, S.bind (V1 f k) = some x → nd k [a] = x.1 := by
 rcases S with _ | l
 ·exact ⟨rfl, fun x hx => by cases hx⟩
 simp only [Option.bind_some] at ha ⊢
 unfold V1
 cases hA : f l with
 | none => exact ⟨rfl, fun x hx => by cases hx⟩
 | some x => exact ⟨rfl, fun q hq => by cases hq; rw [ha x hA]⟩
theorem B49 {a b : Tm} {A B : Option (Tm × A3)} (hA : S.bind f = A) (ha : ∀ x, A = some x → a = x.1) (hB : ((A.map Prod.snd).bind (F9 44)).bind f = B) (hb : ∀ x, B = some x → b = x.1) :
  (S.bind (A3f f)).map Prod.snd = (B.map Prod.snd).bind (F9 93) ∧ ∀ x, S.bind (A3f f) = some x → nd 10 [a, b] = x.1 := by
 subst hB hA
 rcases S with _ | l
 ·exact ⟨rfl, fun x hx => by cases hx⟩
 simp only [Option.bind_some] at ha hb ⊢
 unfold A3f
 cases hA : f l with
 | none => exact ⟨rfl, fun x hx => by cases hx⟩
 | some x =>
  rw [hA] at ha hb
  simp only [Option.bind_some, Option.map_some] at ha hb ⊢
  cases h1 : F9 44 x.2 with
  | none => exact ⟨rfl, fun x hx => by cases hx⟩
  | some r =>
   rw [h1] at hb
   simp only [Option.bind_some] at hb ⊢
   cases hB : f r with
   | none => exact ⟨rfl, fun x hx => by cases hx⟩
   | some y =>
    simp only [Option.bind_some, Option.map_some]
    cases h2 : F9 93 y.2 with
    | none => exact ⟨rfl, fun x hx => by cases hx⟩
    | some w => exact ⟨rfl, fun q hq => by cases hq; rw [ha _ rfl, hb _ hB]⟩
theorem B5a {a b c : Tm} {A B C : Option (Tm × A3)} (hA : S.bind f = A) (ha : ∀ x, A = some x → a = x.1) (hB : ((A.map Prod.snd).bind (F9 63)).bind f = B) (hb : ∀ x, B = some x → b = x.1) (hC : ((B.map Prod.snd).bind (F9 58)).bind f = C) (hc : ∀ x, C = some x → c = x.1) :
  (S.bind (pIf f)).map Prod.snd = (C.map Prod.snd).bind (F9 125) ∧ ∀ x, S.bind (pIf f) = some x → nd 9 [a, b, c] = x.1 := by
 subst hC hB hA
 rcases S with _ | l
 ·exact ⟨rfl, fun x hx => by cases hx⟩
 simp only [Option.bind_some] at ha hb hc ⊢
 unfold pIf
 cases hA : f l with
 | none => exact ⟨rfl, fun x hx => by cases hx⟩
 | some x =>
  rw [hA] at ha hb hc
  simp only [Option.bind_some, Option.map_some] at ha hb hc ⊢
  cases h1 : F9 63 x.2 with
  | none => exact ⟨rfl, fun x hx => by cases hx⟩
  | some r =>
   rw [h1] at hb hc
   simp only [Option.bind_some] at hb hc ⊢
   cases hB : f r with
   | none => exact ⟨rfl, fun x hx => by cases hx⟩
   | some y =>
    rw [hB] at hb hc
    simp only [Option.bind_some, Option.map_some] at hb hc ⊢
    cases h2 : F9 58 y.2 with
    | none => exact ⟨rfl, fun x hx => by cases hx⟩
    | some r2 =>
     rw [h2] at hc
     simp only [Option.bind_some] at hc ⊢
     cases hC : f r2 with
     | none => exact ⟨rfl, fun x hx => by cases hx⟩
     | some z =>
      simp only [Option.bind_some, Option.map_some]
      cases h3 : F9 125 z.2 with
      | none => exact ⟨rfl, fun x hx => by cases hx⟩
      | some w => exact ⟨rfl, fun q hq => by cases hq; rw [ha _ rfl, hb _ rfl, hc _ hC]⟩
theorem B5b {a : Tm} {ty : Ty} {T : Option (Ty × A3)} {A : Option (Tm × A3)} (hT : ((O9 S).bind (F9 58)).bind (O2 4) = T) (ht : ∀ x, T = some x → ty = x.1) (hA : ((T.map Prod.snd).bind (F9 46)).bind f = A) (ha : ∀ x, A = some x → a = x.1) :
  (S.bind (A3e f)).map Prod.snd = A.map Prod.snd ∧ ∀ x, S.bind (A3e f) = some x → Tm.mk 5 ⟨#[H1 S]⟩ 0 ty A7 0 [a] = x.1 := by
 subst hA hT
 rcases S with _ | _ | ⟨d, l⟩
 ·exact ⟨rfl, fun x hx => by cases hx⟩
 ·exact ⟨rfl, fun x hx => by cases hx⟩
 simp only [O9, H1, Option.bind_some] at ha ht ⊢
 unfold A3e
 simp only [T9, Option.bind_some]
 cases h1 : F9 58 l with
 | none => exact ⟨rfl, fun x hx => by cases hx⟩
 | some r =>
  rw [h1] at ha ht
  simp only [Option.bind_some] at ha ht ⊢
  cases hT : O2 4 r with
  | none => exact ⟨rfl, fun x hx => by cases hx⟩
  | some t =>
   rw [hT] at ha ht
   simp only [Option.bind_some, Option.map_some] at ha ht ⊢
   cases h2 : F9 46 t.2 with
   | none => exact ⟨rfl, fun x hx => by cases hx⟩
   | some r2 =>
    rw [h2] at ha
    simp only [Option.bind_some] at ha ⊢
    cases hA : f r2 with
    | none => exact ⟨rfl, fun x hx => by cases hx⟩
    | some z => exact ⟨rfl, fun q hq => by cases hq; rw [ht _ rfl, ha _ hA]⟩
end done
theorem B0o (c : UInt8) : strOfNums [(c.toNat : Int)] = ⟨#[c]⟩ := by
 simp [strOfNums]
theorem B5c (b b2 b3 : Nat) (n : Nat) (d : Int) (G : IM) (hd : -100 ≤ d ∧ d ≤ 100) (hE : A0y G) (h2 : G b2 = some [.pointer (some ⟨b, 0, none⟩)]) (h3 : G b3 = some [.int .i64 d])
  (ih : ∀ (S : Option A3) (cs : List Value) (G' : IM), A0y G' → T3 S cs → Fn Tryz.prog 87 [.pointer (some ⟨b, 0, none⟩), .int .i64 (d + 1)] [.blk b cs] G' (A46 b (S.bind (I2 n)) G')) :
  B0l b (I2 n) 152 [] [.pointer (some ⟨b2, 0, none⟩), .pointer (some ⟨b3, 0, none⟩)] G := by
 intro S c' G' hle hR
 have h2' := hle _ _ h2
 have h3' := hle _ _ h3
 have hE' := hE.mono hle
 show Fn _ _ [.pointer (some ⟨b2, 0, none⟩), .pointer (some ⟨b3, 0, none⟩)] _ _ _
 refine B8 Tryz.func152 rfl Tryz.ntmps152 Tryz.results152 rfl ?_
 intro w0
 refine tS (tR ?_)
 refine sE (A8 rfl) rfl (fun b3 => ?_)
 refine sD (nS (tS (tR ?_)))
 refine sL (M7 rfl rfl (Q3 h2' (fun j v h => by simpa using h))) rfl rfl ?_
 refine sL (M7 rfl rfl (Q3 h3' (fun j v h => by simpa using h))) rfl rfl ?_
 refine sP (N0 rfl rfl (by omega) (by omega)) rfl rfl ?_
 (refine C0 rfl (ih S c' G' hE' hR) (Pk.perm (by repeat (first | exact Pk.here | apply Pk.there))) rfl rfl (fun v G2 outs hle2 hh => ?_); obtain ⟨cs2, ta, ca, Fa, rfl, hR2, rfl, hsa, hna, hva⟩ := hh; have hla := hsa.R.len; have hoa := hsa.R.one)
 refine sS rfl rfl rfl hla hoa rfl ?_ (hu := by exact I4 hla.symm)
 refine sD (nS (tT ?_))
 refine C4 (rC rfl (A6 rfl rfl (C8 (by repeat first | exact mH | apply mT)) hla)) (.cons (by repeat (first | exact Pk.here | apply Pk.there)) .nil) ?_
 (exact ⟨cs2, ta, ca, Fa, rfl, hR2, rfl, hsa, hna, hva⟩)
theorem A3h (o : Option A3) (t : Tm) : (o.map fun r => (t, r)).map Prod.snd = o ∧ ∀ x, (o.map fun r => (t, r)) = some x → t = x.1 := by
 cases o with
 | none => exact ⟨rfl, fun x hx => by cases hx⟩
 | some r => exact ⟨rfl, fun x hx => by cases hx; rfl⟩
theorem B0p {o : Option (Int × A3)} {nv : Int} (h : ∀ x, o = some x → nv = x.1) : (o.map fun x => (Tm.mk 2 ⟨#[]⟩ x.1 A7 A7 0 [], x.2)).map Prod.snd = o.map Prod.snd ∧ ∀ x, (o.map fun x => (Tm.mk 2 ⟨#[]⟩ x.1 A7 A7 0 [], x.2)) = some x → Tm.mk 2 ⟨#[]⟩ nv A7 A7 0 [] = x.1 := by
 cases o with
 | none => exact ⟨rfl, fun x hx => by cases hx⟩
 | some r => exact ⟨rfl, fun x hx => by cases hx; rw [h r rfl]⟩
theorem B5d (b : Nat) : ∀ (n : Nat) (d : Int) (S : Option A3) (cs : List Value) (G : IM), d + n = 41 → 1 ≤ d → A0y G → T3 S cs →
  Fn Tryz.prog 87 [.pointer (some ⟨b, 0, none⟩), .int .i64 d] [.blk b cs] G (A46 b (S.bind (I2 n)) G) := by
 intro n
 induction n with
 | zero =>
  intro d S cs G hd hd1 hE h
  obtain ⟨s, bad, rfl, hs⟩ := h.open
  have hB : T3 none [.string s, .bool true] := h.bad
  rw [B4Y]
  refine B8 Tryz.func87 rfl Tryz.ntmps87 Tryz.results87 rfl ?_
  intro w0
  refine tS (tR ?_)
  (refine D7 (A3q rfl rfl rfl) rfl ?_; rintro _ ⟨b3, rfl⟩)
  (refine D7 (A3q rfl rfl rfl) rfl ?_; rintro _ ⟨b4, rfl⟩)
  refine sE (A8 rfl) rfl (fun b5 => ?_)
  refine sD (nS (tS (tS (tR (sL (C2 rfl rfl) rfl rfl ?_)))))
  refine sP (A5x rfl rfl (by omega)) rfl rfl ?_
  refine sD (nS (qT rfl (tR (sL (C2 rfl rfl) rfl rfl ?_))))
  refine sQ (C1 rfl) rfl ?_
  refine B7 ?_
  (refine C0 rfl (A3Z b none _ G hB) (Pk.perm (by repeat (first | exact Pk.here | apply Pk.there))) rfl rfl (fun v G1 outs hle1 hh => ?_); obtain ⟨hG, rfl, rfl⟩ := hh; replace hG := hG.symm; subst hG; have hz0 : ((H1 none).toNat : Int) = 0 := rfl)
  refine sQ (qA rfl) rfl (sD (nS (tS ?_)))
  refine C6 ?_
  refine tS (tR (sQ (qM rfl) rfl ?_))
  refine sP (A4i rfl rfl (by omega)) rfl rfl ?_
  refine I6 ?_
  refine sP (A4i rfl rfl (by omega)) rfl rfl ?_
  refine O8 ?_
  (refine C0 rfl (A1s b none _ G hB) (Pk.perm (by repeat (first | exact Pk.here | apply Pk.there))) rfl rfl (fun v G1 outs hle1 hh => ?_); obtain ⟨Q0, rfl, hR1, hG, rfl⟩ := hh; replace hG := hG.symm; subst hG; obtain ⟨s1, bad1, rfl, hs1⟩ := hR1.open; have hnB := hR1.bad)
  refine sD (nS (tS (tR ?_)))
  refine sQ (A1h rfl rfl) rfl ?_
  refine C7 ?_
  refine C6 ?_
  refine tS (tR ?_)
  refine sP (M1 rfl rfl (by omega)) rfl rfl ?_
  refine sQ (qA rfl) rfl (sD (nS (cF rfl (tS (tR ?_)))))
  refine sP (M1 rfl rfl (by omega)) rfl rfl ?_
  refine sQ (qA rfl) rfl (sD (nS (cF rfl (tS (tR ?_)))))
  refine sP (M1 rfl rfl (by omega)) rfl rfl ?_
  refine sQ (qA rfl) rfl (sD (nS (cF rfl (tS (tR ?_)))))
  refine sP (M1 rfl rfl (by omega)) rfl rfl ?_
  refine sQ (qA rfl) rfl (sD (nS (cF rfl (tS (tR ?_)))))
  refine sP (M1 rfl rfl (by omega)) rfl rfl ?_
  refine sQ (qA rfl) rfl (sD (nS (cF rfl (tS (tR ?_)))))
  refine sP (M1 rfl rfl (by omega)) rfl rfl ?_
  refine sQ (qA rfl) rfl (sD (nS (cF rfl (tS (tR ?_)))))
  refine sP (M1 rfl rfl (by omega)) rfl rfl ?_
  refine sQ (qA rfl) rfl (sD (nS (cF rfl (tS (tR ?_)))))
  refine sP (M1 rfl rfl (by omega)) rfl rfl ?_
  refine M2 ?_
  refine sQ (C1 rfl) rfl ?_
  refine I6 ?_
  refine C4 (outs := [.blk b _]) (rC rfl (A2 rfl rfl)) (.cons (by repeat (first | exact Pk.here | apply Pk.there)) .nil) ?_
  (exact ⟨_, _, _, [], rfl, hnB, rfl, A2g _ ⟨#[]⟩ (k := 0) (num := 0) ⟨by decide, by decide⟩ ⟨by decide, by decide⟩, List.nodup_nil, fun x hx => by cases hx⟩)
 | succ n ih =>
  intro d S cs G hd hd1 hE h
  refine B8 Tryz.func87 rfl Tryz.ntmps87 Tryz.results87 rfl ?_
  intro w0
  refine tS (tR ?_)
  (refine D7 (A3q rfl rfl rfl) rfl ?_; rintro _ ⟨b3, rfl⟩)
  (refine D7 (A3q rfl rfl rfl) rfl ?_; rintro _ ⟨b4, rfl⟩)
  refine sE (A8 rfl) rfl (fun b5 => ?_)
  refine sD (nS (tS (tS ?_)))
  (refine A2T (bs := [(b3, [.pointer (some ⟨b, 0, none⟩)]), (b4, [.int .i64 d])]) ((Pk.perm (by repeat (first | exact Pk.here | apply Pk.there))).trans ((Pk.perm (by repeat (first | exact Pk.here | apply Pk.there))).cons _)) (fun hf1 hf2 hle0 => ?_); have hb2 : Wi G [(b3, [.pointer (some ⟨b, 0, none⟩)]), (b4, [.int .i64 d])] b3 = some [.pointer (some ⟨b, 0, none⟩)] := Wi.in hf1 List.mem_cons_self; have hb3 : Wi G [(b3, [.pointer (some ⟨b, 0, none⟩)]), (b4, [.int .i64 d])] b4 = some [.int .i64 d] := Wi.in hf1 (List.mem_cons_of_mem _ List.mem_cons_self); generalize Wi G [(b3, [.pointer (some ⟨b, 0, none⟩)]), (b4, [.int .i64 d])] = G0 at hle0 hb2 hb3 ⊢; have hE0 := hE.mono hle0; have hsub := B5c b _ _ n d G0 ⟨by omega, by omega⟩ hE0 hb2 hb3 (fun S cs G' hE' hR => ih (d + 1) S cs G' (by omega) (by omega) hE' hR))
  refine tR ?_
  refine sL (M7 rfl rfl (Q3 hb3 (fun j v h => by simpa using h))) rfl rfl ?_
  refine sP (A3r rfl rfl (by omega)) rfl rfl ?_
  refine sD (nS (cF rfl (tK (nS (tS (tR ?_))))))
  refine sL (M7 rfl rfl (Q3 hb2 (fun j v h => by simpa using h))) rfl rfl ?_
  (refine C0 rfl (A3Z b S cs G0 h) (Pk.perm (by repeat (first | exact Pk.here | apply Pk.there))) rfl rfl (fun v G1 outs hle1 hh => ?_); obtain ⟨hG, rfl, rfl⟩ := hh; replace hG := hG.symm; subst hG; obtain ⟨c, hc⟩ : ∃ c, H1 S = c := ⟨_, rfl⟩; rw [hc])
  refine sQ (qA rfl) rfl (sD (nS (tS ?_)))
  refine C6 ?_
  refine tS (tR (sQ (qM rfl) rfl ?_))
  refine sB (S4 rfl rfl) rfl rfl (fun h31 => ?_) (fun h31 => ?_)
  refine sQ (qM rfl) rfl (sQ (qM rfl) rfl ?_)
  refine sB (W8 rfl rfl) rfl rfl (fun h34 => ?_) (fun h34 => ?_)
  refine B7 ?_
  refine sL (M7 rfl rfl (Q3 hb2 (fun j v h => by simpa using h))) rfl rfl ?_
  (refine C0 rfl (A1s b S cs G0 h) (Pk.perm (by repeat (first | exact Pk.here | apply Pk.there))) rfl rfl (fun v G1 outs hle1 hh => ?_); obtain ⟨Q0, rfl, hR1, hG, rfl⟩ := hh; replace hG := hG.symm; subst hG; obtain ⟨s1, bad1, rfl, hs1⟩ := hR1.open; have hnB := hR1.bad)
  refine sD (nS (tS (tR (sQ (qM rfl) rfl ?_))))
  (refine D7 (D1 rfl rfl rfl (by omega) (by unfold maxLen; omega) rfl) rfl ?_; rintro _ ⟨b49, rfl⟩)
  (refine sL (A4n (xs := [(c.toNat : Int)]) rfl rfl rfl rfl rfl (R0 (by repeat first | exact mH | apply mT))) rfl rfl ?_; rw [B0o])
  refine sQ (P6 rfl rfl) rfl (H2 ?_)
  refine sD (nS (tT (rB (rS ?_))))
  refine C4 (outs := [.blk b _]) (rC rfl (A2 rfl rfl)) (.cons (by repeat (first | exact Pk.here | apply Pk.there)) .nil) ?_
  (have hlet : 97 ≤ (H1 S).toNat ∧ (H1 S).toNat ≤ 122 := (by rw [hc]; omega); rw [B4Z hlet, hc]; exact ⟨_, _, _, [], rfl, by rw [(A3h _ _).1]; exact hR1, rfl, A2g _ ⟨#[c]⟩ ⟨by decide, by decide⟩ ⟨by decide, by decide⟩, List.nodup_nil, (A3h _ _).2⟩)
  refine F8 ?_
  refine sP (A4h rfl rfl (by omega)) rfl rfl ?_
  refine sQ (qM rfl) rfl (sQ (qM rfl) rfl ?_)
  refine sP (B1u rfl rfl (by omega)) rfl rfl ?_
  refine M2 ?_
  refine sL (M7 rfl rfl (Q3 hb2 (fun j v h => by simpa using h))) rfl rfl ?_
  (refine C0 rfl (A1s b S cs G0 h) (Pk.perm (by repeat (first | exact Pk.here | apply Pk.there))) rfl rfl (fun v G1 outs hle1 hh => ?_); obtain ⟨Q0, rfl, hR1, hG, rfl⟩ := hh; replace hG := hG.symm; subst hG; obtain ⟨s1, bad1, rfl, hs1⟩ := hR1.open; have hnB := hR1.bad)
  refine sD (nS (tS (tR ?_)))
  refine sQ (A1h rfl rfl) rfl ?_
  refine C7 ?_
  refine C6 ?_
  refine tS (tR ?_)
  refine sP (M1 rfl rfl (by omega)) rfl rfl ?_
  refine sQ (qA rfl) rfl (sD (nS (cF rfl (tS (tR ?_)))))
  refine sP (M1 rfl rfl (by omega)) rfl rfl ?_
  refine sQ (qA rfl) rfl (sD (nS (cF rfl (tS (tR ?_)))))
  refine sP (M1 rfl rfl (by omega)) rfl rfl ?_
  refine sQ (qA rfl) rfl (sD (nS (cF rfl (tS (tR ?_)))))
  refine sB (qE rfl rfl) rfl rfl (fun h122 => ?_) (fun h122 => ?_)
  refine B7 ?_
  (refine D7 (S5 rfl rfl (hsub (O9 S) _ G0 (B2.refl _) hR1) (Pk.perm (by repeat (first | exact Pk.here | apply Pk.there))) rfl) rfl ?_; rintro _ ⟨v, G1, outs, rfl, hle1, csa, ta, ca, Fa, rfl, hRa, rfl, hsa, hna, hva⟩; have hoa := hsa.R.one; obtain ⟨x1, x2, x3, x4, x5, x6, x7, x8, x9, rfl⟩ := A0c hsa; replace hsa := hsa.mono (B6.anti hle0); replace hb2 := hle1 _ _ hb2; have hle01 := hle0.trans hle1)
  refine sE (A8 rfl) rfl (fun b131 => ?_)
  refine sS rfl rfl rfl rfl hoa rfl ?_
  refine sD (nS (tS (tR ?_)))
  refine sL (M7 rfl rfl (Q3 hb2 (fun j v h => by simpa using h))) rfl rfl ?_
  (refine C0 rfl (A0u b 63 _ csa G1 hRa) (Pk.perm (by repeat (first | exact Pk.here | apply Pk.there))) rfl rfl (fun v G9 outs hle9 hh => ?_); obtain ⟨csp, rfl, hRp, hG, rfl⟩ := hh; replace hG := hG.symm; subst hG)
  refine sD (nS (tS (tR (sQ (qM rfl) rfl ?_))))
  (refine D7 (S5 rfl rfl (hsub _ csp G1 hle1 hRp) (Pk.perm (by repeat (first | exact Pk.here | apply Pk.there))) rfl) rfl ?_; rintro _ ⟨v, G2, outs, rfl, hle2, csb, tb, cb, Fb, rfl, hRb, rfl, hsb, hnb, hvb⟩; have hob := hsb.R.one; obtain ⟨y1, y2, y3, y4, y5, y6, y7, y8, y9, rfl⟩ := A0c hsb; replace hb2 := hle2 _ _ hb2; obtain ⟨k1, k2⟩ := A3g (A1e hsa) hna hle01 hle2 hsb hnb)
  refine sE (A8 rfl) rfl (fun b145 => ?_)
  refine sS rfl rfl rfl rfl hob rfl ?_
  refine sD (nS (tS (tR ?_)))
  refine sL (M7 rfl rfl (Q3 hb2 (fun j v h => by simpa using h))) rfl rfl ?_
  (refine C0 rfl (A0u b 58 _ csb G2 hRb) (Pk.perm (by repeat (first | exact Pk.here | apply Pk.there))) rfl rfl (fun v G9 outs hle9 hh => ?_); obtain ⟨csq, rfl, hRq, hG, rfl⟩ := hh; replace hG := hG.symm; subst hG)
  refine sD (nS (tS (tR (sQ (qM rfl) rfl ?_))))
  (refine D7 (S5 rfl rfl (hsub _ csq G2 (hle1.trans hle2) hRq) (Pk.perm (by repeat (first | exact Pk.here | apply Pk.there))) rfl) rfl ?_; rintro _ ⟨v, G3, outs, rfl, hle3, csc, tc, cc, Fc, rfl, hRc, rfl, hsc, hnc, hvc⟩; have hoc := hsc.R.one; obtain ⟨z1, z2, z3, z4, z5, z6, z7, z8, z9, rfl⟩ := A0c hsc; replace hb2 := hle3 _ _ hb2; obtain ⟨k3, k4⟩ := A3g k1 k2 (hle01.trans hle2) hle3 hsc hnc)
  refine sE (A8 rfl) rfl (fun b159 => ?_)
  refine sS rfl rfl rfl rfl hoc rfl ?_
  refine sD (nS (tS (tR ?_)))
  refine sL (M7 rfl rfl (Q3 hb2 (fun j v h => by simpa using h))) rfl rfl ?_
  (refine C0 rfl (A0u b 125 _ csc G3 hRc) (Pk.perm (by repeat (first | exact Pk.here | apply Pk.there))) rfl rfl (fun v G9 outs hle9 hh => ?_); obtain ⟨csr, rfl, hRr, hG, rfl⟩ := hh; replace hG := hG.symm; subst hG)
  refine B7 ?_
  (refine D7 (D1 rfl rfl rfl (by omega) (by unfold maxLen; omega) rfl) rfl ?_; rintro _ ⟨b174, rfl⟩)
  (refine P2 (cs := [x1, x2, x3, x4, x5, x6, x7, x8, x9, y1, y2, y3, y4, y5, y6, y7, y8, y9, z1, z2, z3, z4, z5, z6, z7, z8, z9]) (by repeat (first | exact Pk.here | apply Pk.there)) (fun G7 hle7 hsl7 hno7 => ?_); obtain ⟨F7, f1, f2⟩ := A1d (k := 9) (num := 0) (lb := 0) (nm := ⟨#[]⟩) (ty := A7) (fr := A7) ⟨by decide, by decide⟩ ⟨by decide, by decide⟩ ⟨by decide, by decide⟩ (hle01.trans (hle2.trans hle3)) hle7 (Y0 _) (Y0 _) k3 (by simpa using k4) hsl7 hno7; obtain ⟨d1, d2⟩ := B5a (S := O9 S) rfl hva rfl hvb rfl hvc; refine H7 rfl (A28 _ _ _ _ _) rfl rfl ?_)
  refine M0 rfl rfl rfl rfl (by exact f1.R.one) rfl (by repeat first | exact Sw.here | apply Sw.there) (by rfl) ?_
  refine sD (nS (tT (rB (rS ?_))))
  refine C4 (outs := [.blk b _]) (rC rfl (A2 rfl rfl)) (.cons (by repeat (first | exact Pk.here | apply Pk.there)) .nil) ?_
  (have hcc : H1 S = 123 := (by rw [hc]; exact J5 (b := 123) (by show _ = (123 : Int); omega)); rw [B44 hcc]; exact ⟨csr, _, _, F7, rfl, by rw [d1]; exact hRr, rfl, f1, f2, d2⟩)
  refine sQ (qA rfl) rfl (sD (nS (cF rfl (tS (tR ?_)))))
  refine sP (M1 rfl rfl (by omega)) rfl rfl ?_
  refine sQ (qA rfl) rfl (sD (nS (cF rfl (tS (tR ?_)))))
  refine sP (M1 rfl rfl (by omega)) rfl rfl ?_
  refine sQ (qA rfl) rfl (sD (nS (cF rfl (tS (tR ?_)))))
  refine sP (M1 rfl rfl (by omega)) rfl rfl ?_
  refine sQ (qA rfl) rfl (sD (nS (cF rfl (tS (tR ?_)))))
  refine sP (M1 rfl rfl (by omega)) rfl rfl ?_
  refine C7 ?_
  refine sL (M7 rfl rfl (Q3 hb2 (fun j v h => by simpa using h))) rfl rfl ?_
  refine sQ (C1 rfl) rfl ?_
  refine I6 ?_
  refine C4 (outs := [.blk b _]) (rC rfl (A2 rfl rfl)) (.cons (by repeat (first | exact Pk.here | apply Pk.there)) .nil) ?_
  (rw [A6U (n := n) (by rw [hc]; omega) (by rw [hc]; unfold J0; omega) (by rw [hc]; exact J3 (by show _ ≠ (84 : Int); omega)) (by rw [hc]; exact J3 (by show _ ≠ (70 : Int); omega)) (by rw [hc]; exact J3 (by show _ ≠ (33 : Int); omega)) (by rw [hc]; exact J3 (by show _ ≠ (123 : Int); omega)) (by rw [hc]; exact J3 (by show _ ≠ (91 : Int); omega)) (by rw [hc]; exact J3 (by show _ ≠ (36 : Int); omega)) (by rw [hc]; exact J3 (by show _ ≠ (37 : Int); omega)) (by rw [hc]; exact J3 (by show _ ≠ (40 : Int); omega))]; exact ⟨_, _, _, [], rfl, hnB, rfl, A2g _ ⟨#[]⟩ (k := 0) (num := 0) ⟨by decide, by decide⟩ ⟨by decide, by decide⟩, List.nodup_nil, fun x hx => by cases hx⟩)
  refine I6 ?_
  refine sB (S4 rfl rfl) rfl rfl (fun h247 => ?_) (fun h247 => ?_)
  refine sQ (qM rfl) rfl (sQ (qM rfl) rfl ?_)
  refine sB (W8 rfl rfl) rfl rfl (fun h250 => ?_) (fun h250 => ?_)
  refine B7 ?_
  refine sL (M7 rfl rfl (Q3 hb2 (fun j v h => by simpa using h))) rfl rfl ?_
  (have hdg : J0 (H1 S) := (by rw [hc]; unfold J0; omega); refine C0 rfl (B0k b S cs G0 hE0 h) (Pk.perm (by repeat (first | exact Pk.here | apply Pk.there))) rfl rfl (fun v G6 outs hle6 hh => ?_); obtain ⟨hG, csn, nv, rfl, hRn, rfl, hIn, hvn⟩ := hh; replace hG := hG.symm; subst hG)
  refine sQ (P6 rfl rfl) rfl (H2 ?_)
  refine sD (nS (tT (rB (rS ?_))))
  refine C4 (outs := [.blk b _]) (rC rfl (A2 rfl rfl)) (.cons (by repeat (first | exact Pk.here | apply Pk.there)) .nil) ?_
  (rw [B40 hdg]; exact ⟨csn, _, _, [], rfl, by rw [(B0p hvn).1]; exact hRn, rfl, A2g _ ⟨#[]⟩ ⟨by decide, by decide⟩ hIn, List.nodup_nil, (B0p hvn).2⟩)
  refine M2 ?_
  refine sL (M7 rfl rfl (Q3 hb2 (fun j v h => by simpa using h))) rfl rfl ?_
  (refine C0 rfl (A1s b S cs G0 h) (Pk.perm (by repeat (first | exact Pk.here | apply Pk.there))) rfl rfl (fun v G1 outs hle1 hh => ?_); obtain ⟨Q0, rfl, hR1, hG, rfl⟩ := hh; replace hG := hG.symm; subst hG; obtain ⟨s1, bad1, rfl, hs1⟩ := hR1.open; have hnB := hR1.bad)
  refine sD (nS (tS (tR ?_)))
  refine sQ (A1h rfl rfl) rfl ?_
  refine C7 ?_
  refine C6 (tS (tR (sB (qE rfl rfl) rfl rfl (fun h298 => ?_) (fun h298 => ?_))))
  refine sQ (qA rfl) rfl (sD (nS (qT rfl (tS (tR ?_)))))
  refine H7 rfl ((A28 _ _ _ _ _)) rfl rfl ?_
  refine H2 ?_
  refine sD (nS (tT (rB (rS ?_))))
  refine C4 (outs := [.blk b _]) (rC rfl (A2 rfl rfl)) (.cons (by repeat (first | exact Pk.here | apply Pk.there)) .nil) ?_
  (have hcc : H1 S = 84 := (by rw [hc]; exact J5 (b := 84) (by show _ = (84 : Int); omega)); rw [B41 hcc]; exact ⟨_, _, _, [], rfl, by rw [(A3h _ _).1]; exact hR1, rfl, A2g _ ⟨#[]⟩ ⟨by decide, by decide⟩ ⟨by decide, by decide⟩, List.nodup_nil, (A3h _ _).2⟩)
  refine sQ (qA rfl) rfl (sD (nS (cF rfl (tS (tR ?_)))))
  refine sB (qE rfl rfl) rfl rfl (fun h320 => ?_) (fun h320 => ?_)
  refine sQ (qA rfl) rfl (sD (nS (qT rfl (tS (tR ?_)))))
  refine H7 rfl ((A28 _ _ _ _ _)) rfl rfl ?_
  refine H2 ?_
  refine sD (nS (tT (rB (rS ?_))))
  refine C4 (outs := [.blk b _]) (rC rfl (A2 rfl rfl)) (.cons (by repeat (first | exact Pk.here | apply Pk.there)) .nil) ?_
  (have hcc : H1 S = 70 := (by rw [hc]; exact J5 (b := 70) (by show _ = (70 : Int); omega)); rw [B42 hcc]; exact ⟨_, _, _, [], rfl, by rw [(A3h _ _).1]; exact hR1, rfl, A2g _ ⟨#[]⟩ ⟨by decide, by decide⟩ ⟨by decide, by decide⟩, List.nodup_nil, (A3h _ _).2⟩)
  refine sQ (qA rfl) rfl (sD (nS (cF rfl (tS (tR ?_)))))
  refine sP (M1 rfl rfl (by omega)) rfl rfl ?_
  refine sQ (qA rfl) rfl (sD (nS (cF rfl (tS (tR ?_)))))
  refine sP (M1 rfl rfl (by omega)) rfl rfl ?_
  refine sQ (qA rfl) rfl (sD (nS (cF rfl (tS (tR ?_)))))
  refine sB (qE rfl rfl) rfl rfl (fun h356 => ?_) (fun h356 => ?_)
  refine B7 ?_
  (refine D7 (S5 rfl rfl (hsub (O9 S) _ G0 (B2.refl _) hR1) (Pk.perm (by repeat (first | exact Pk.here | apply Pk.there))) rfl) rfl ?_; rintro _ ⟨v, G1, outs, rfl, hle1, csa, ta, ca, Fa, rfl, hRa, rfl, hsa, hna, hva⟩; have hoa := hsa.R.one; obtain ⟨x1, x2, x3, x4, x5, x6, x7, x8, x9, rfl⟩ := A0c hsa; replace hsa := hsa.mono (B6.anti hle0); replace hb2 := hle1 _ _ hb2; have hle01 := hle0.trans hle1)
  refine sE (A8 rfl) rfl (fun b365 => ?_)
  refine sS rfl rfl rfl rfl hoa rfl ?_
  refine sD (nS (tS (tR ?_)))
  refine sL (M7 rfl rfl (Q3 hb2 (fun j v h => by simpa using h))) rfl rfl ?_
  (refine C0 rfl (A0u b 44 _ csa G1 hRa) (Pk.perm (by repeat (first | exact Pk.here | apply Pk.there))) rfl rfl (fun v G9 outs hle9 hh => ?_); obtain ⟨csp, rfl, hRp, hG, rfl⟩ := hh; replace hG := hG.symm; subst hG)
  refine sD (nS (tS (tR (sQ (qM rfl) rfl ?_))))
  (refine D7 (S5 rfl rfl (hsub _ csp G1 hle1 hRp) (Pk.perm (by repeat (first | exact Pk.here | apply Pk.there))) rfl) rfl ?_; rintro _ ⟨v, G2, outs, rfl, hle2, csb, tb, cb, Fb, rfl, hRb, rfl, hsb, hnb, hvb⟩; have hob := hsb.R.one; obtain ⟨y1, y2, y3, y4, y5, y6, y7, y8, y9, rfl⟩ := A0c hsb; replace hb2 := hle2 _ _ hb2; obtain ⟨k1, k2⟩ := A3g (A1e hsa) hna hle01 hle2 hsb hnb)
  refine sE (A8 rfl) rfl (fun b379 => ?_)
  refine sS rfl rfl rfl rfl hob rfl ?_
  refine sD (nS (tS (tR ?_)))
  refine sL (M7 rfl rfl (Q3 hb2 (fun j v h => by simpa using h))) rfl rfl ?_
  (refine C0 rfl (A0u b 93 _ csb G2 hRb) (Pk.perm (by repeat (first | exact Pk.here | apply Pk.there))) rfl rfl (fun v G9 outs hle9 hh => ?_); obtain ⟨csq, rfl, hRq, hG, rfl⟩ := hh; replace hG := hG.symm; subst hG)
  refine K4 ?_
  (refine D7 (D1 rfl rfl rfl (by omega) (by unfold maxLen; omega) rfl) rfl ?_; rintro _ ⟨b393, rfl⟩)
  (refine P2 (cs := [x1, x2, x3, x4, x5, x6, x7, x8, x9, y1, y2, y3, y4, y5, y6, y7, y8, y9]) (by repeat (first | exact Pk.here | apply Pk.there)) (fun G7 hle7 hsl7 hno7 => ?_); obtain ⟨F7, f1, f2⟩ := A1d (k := 10) (num := 0) (lb := 0) (nm := ⟨#[]⟩) (ty := A7) (fr := A7) ⟨by decide, by decide⟩ ⟨by decide, by decide⟩ ⟨by decide, by decide⟩ (hle01.trans hle2) hle7 (Y0 _) (Y0 _) k1 (by simpa using k2) hsl7 hno7; obtain ⟨d1, d2⟩ := B49 (S := O9 S) rfl hva rfl hvb; refine H7 rfl (A28 _ _ _ _ _) rfl rfl ?_)
  refine M0 rfl rfl rfl rfl (by exact f1.R.one) rfl (by repeat first | exact Sw.here | apply Sw.there) (by rfl) ?_
  refine sD (nS (tT (rB (rS ?_))))
  refine C4 (outs := [.blk b _]) (rC rfl (A2 rfl rfl)) (.cons (by repeat (first | exact Pk.here | apply Pk.there)) .nil) ?_
  (have hcc : H1 S = 91 := (by rw [hc]; exact J5 (b := 91) (by show _ = (91 : Int); omega)); rw [B45 hcc]; exact ⟨csq, _, _, F7, rfl, by rw [d1]; exact hRq, rfl, f1, f2, d2⟩)
  refine sQ (qA rfl) rfl (sD (nS (cF rfl (tS (tR ?_)))))
  refine sP (M1 rfl rfl (by omega)) rfl rfl ?_
  refine sQ (qA rfl) rfl (sD (nS (cF rfl (tS (tR ?_)))))
  refine sP (M1 rfl rfl (by omega)) rfl rfl ?_
  refine sQ (qA rfl) rfl (sD (nS (cF rfl (tS (tR ?_)))))
  refine sP (M1 rfl rfl (by omega)) rfl rfl ?_
  refine C7 ?_
  refine sL (M7 rfl rfl (Q3 hb2 (fun j v h => by simpa using h))) rfl rfl ?_
  refine sQ (C1 rfl) rfl ?_
  refine I6 ?_
  refine C4 (outs := [.blk b _]) (rC rfl (A2 rfl rfl)) (.cons (by repeat (first | exact Pk.here | apply Pk.there)) .nil) ?_
  (rw [A6U (n := n) (by rw [hc]; omega) (by rw [hc]; unfold J0; omega) (by rw [hc]; exact J3 (by show _ ≠ (84 : Int); omega)) (by rw [hc]; exact J3 (by show _ ≠ (70 : Int); omega)) (by rw [hc]; exact J3 (by show _ ≠ (33 : Int); omega)) (by rw [hc]; exact J3 (by show _ ≠ (123 : Int); omega)) (by rw [hc]; exact J3 (by show _ ≠ (91 : Int); omega)) (by rw [hc]; exact J3 (by show _ ≠ (36 : Int); omega)) (by rw [hc]; exact J3 (by show _ ≠ (37 : Int); omega)) (by rw [hc]; exact J3 (by show _ ≠ (40 : Int); omega))]; exact ⟨_, _, _, [], rfl, hnB, rfl, A2g _ ⟨#[]⟩ (k := 0) (num := 0) ⟨by decide, by decide⟩ ⟨by decide, by decide⟩, List.nodup_nil, fun x hx => by cases hx⟩)
  refine I5 ?_
  refine sL (M7 rfl rfl (Q3 hb2 (fun j v h => by simpa using h))) rfl rfl ?_
  (refine C0 rfl (A1s b S cs G0 h) (Pk.perm (by repeat (first | exact Pk.here | apply Pk.there))) rfl rfl (fun v G1 outs hle1 hh => ?_); obtain ⟨Q0, rfl, hR1, hG, rfl⟩ := hh; replace hG := hG.symm; subst hG; obtain ⟨s1, bad1, rfl, hs1⟩ := hR1.open; have hnB := hR1.bad)
  refine sD (nS (tS (tR ?_)))
  refine sQ (A1h rfl rfl) rfl ?_
  refine C7 ?_
  refine C6 ?_
  refine tS (tR ?_)
  refine sP (M1 rfl rfl (by omega)) rfl rfl ?_
  refine sQ (qA rfl) rfl (sD (nS (cF rfl (tS (tR ?_)))))
  refine sP (M1 rfl rfl (by omega)) rfl rfl ?_
  refine sQ (qA rfl) rfl (sD (nS (cF rfl (tS (tR ?_)))))
  refine sB (qE rfl rfl) rfl rfl (fun h494 => ?_) (fun h494 => ?_)
  refine sQ (qA rfl) rfl (sD (nS (qT rfl (tS (tR ?_)))))
  refine sL (M7 rfl rfl (Q3 hb2 (fun j v h => by simpa using h))) rfl rfl ?_
  (have hcc : H1 S = 33 := (by rw [hc]; exact J5 (b := 33) (by show _ = (33 : Int); omega)); refine C0 rfl (A1s b (O9 S) _ G0 hR1) (Pk.perm (by repeat (first | exact Pk.here | apply Pk.there))) rfl rfl (fun v G1 outs hle1 hh => ?_); obtain ⟨cs2, rfl, hR2, hG, rfl⟩ := hh; replace hG := hG.symm; subst hG; obtain ⟨c2, hc2⟩ : ∃ c2, H1 (O9 S) = c2 := ⟨_, rfl⟩; rw [hc2])
  (refine D7 (D1 rfl rfl rfl (by omega) (by unfold maxLen; omega) rfl) rfl ?_; rintro _ ⟨b503, rfl⟩)
  (refine sL (A4n (xs := [(c2.toNat : Int)]) rfl rfl rfl rfl rfl (R0 (by repeat first | exact mH | apply mT))) rfl rfl ?_; rw [B0o])
  refine sQ (P6 rfl rfl) rfl ?_
  refine sE (A8 rfl) rfl (fun b506 => ?_)
  refine H2 ?_
  refine sD (nS (tS (tR ?_)))
  refine sL (M7 rfl rfl (Q3 hb2 (fun j v h => by simpa using h))) rfl rfl ?_
  (refine C0 rfl (A0u b 58 _ cs2 G0 hR2) (Pk.perm (by repeat (first | exact Pk.here | apply Pk.there))) rfl rfl (fun v G9 outs hle9 hh => ?_); obtain ⟨cs3, rfl, hR3, hG, rfl⟩ := hh; replace hG := hG.symm; subst hG)
  refine sD (nS (tS (tR ?_)))
  refine sL (M7 rfl rfl (Q3 hb2 (fun j v h => by simpa using h))) rfl rfl ?_
  (refine C0 rfl (A6H b 4 1 _ cs3 G0 (by omega) (by omega) hR3) (Pk.perm (by repeat (first | exact Pk.here | apply Pk.there))) rfl rfl (fun v G1 outs hle1 hh => ?_); obtain ⟨cst, tt1, ct, Ft, rfl, hRt, rfl, hst, hnt, hvt⟩ := hh; have hot := hst.R.one; obtain ⟨t1, t2, rfl⟩ := A6R hst; replace hb2 := hle1 _ _ hb2)
  refine sQ (A9 rfl) rfl ?_
  refine sS rfl rfl rfl rfl hot rfl ?_
  refine sD (nS (tS (tR ?_)))
  refine sL (M7 rfl rfl (Q3 hb2 (fun j v h => by simpa using h))) rfl rfl ?_
  (refine C0 rfl (A0u b 46 _ cst G1 hRt) (Pk.perm (by repeat (first | exact Pk.here | apply Pk.there))) rfl rfl (fun v G9 outs hle9 hh => ?_); obtain ⟨csl, rfl, hRl, hG, rfl⟩ := hh; replace hG := hG.symm; subst hG)
  refine sD (nS (tS (tR (sQ (qM rfl) rfl ?_))))
  (refine D7 (S5 rfl rfl (hsub _ csl G1 hle1 hRl) (Pk.perm (by repeat (first | exact Pk.here | apply Pk.there))) rfl) rfl ?_; rintro _ ⟨v, G2, outs, rfl, hle2, csa, ta, ca, Fa, rfl, hRa, rfl, hsa, hna, hva⟩; have hoa := hsa.R.one; obtain ⟨x1, x2, x3, x4, x5, x6, x7, x8, x9, rfl⟩ := A0c hsa; replace hb2 := hle2 _ _ hb2)
  (refine D7 (D1 rfl rfl rfl (by omega) (by unfold maxLen; omega) rfl) rfl ?_; rintro _ ⟨b534, rfl⟩)
  (refine P2 (cs := [x1, x2, x3, x4, x5, x6, x7, x8, x9]) (by repeat (first | exact Pk.here | apply Pk.there)) (fun G7 hle7 hsl7 hno7 => ?_); obtain ⟨F7, f1, f2⟩ := A1d (k := 5) (num := 0) (lb := 0) (nm := ⟨#[c2]⟩) (ty := tt1) (fr := A7) ⟨by decide, by decide⟩ ⟨by decide, by decide⟩ ⟨by decide, by decide⟩ ((hle0.trans hle1).trans hle2) hle7 (hst.mono (fun b l h => B6.mono hle2 b l (B6.anti hle0 b l h))) (Y0 _) ((A1e hsa).mono (B6.anti (hle0.trans hle1))) (A6T hnt List.nodup_nil hna (fun x hx y hy he => by cases hy) (A1l hst.inG hsa.inG) (fun x hx y hy he => by cases hx)) hsl7 hno7; obtain ⟨d1, d2⟩ := B5b (S := O9 S) rfl hvt rfl hva; rw [hc2] at d2)
  refine B7 ?_
  refine sS rfl rfl rfl rfl hot rfl ?_
  refine sD (nS (tT (rB (rS ?_))))
  refine C4 (outs := [.blk b _]) (rC rfl (A2 rfl rfl)) (.cons (by repeat (first | exact Pk.here | apply Pk.there)) .nil) ?_
  (have hcc : H1 S = 33 := (by rw [hc]; exact J5 (b := 33) (by show _ = (33 : Int); omega)); rw [B43 hcc]; exact ⟨csa, _, _, F7, rfl, by rw [d1]; exact hRa, rfl, f1, f2, d2⟩)
  refine sQ (qA rfl) rfl (sD (nS (cF rfl (tS (tR ?_)))))
  refine sP (M1 rfl rfl (by omega)) rfl rfl ?_
  refine sQ (qA rfl) rfl (sD (nS (cF rfl (tS (tR ?_)))))
  refine sP (M1 rfl rfl (by omega)) rfl rfl ?_
  refine sQ (qA rfl) rfl (sD (nS (cF rfl (tS (tR ?_)))))
  refine sB (qE rfl rfl) rfl rfl (fun h571 => ?_) (fun h571 => ?_)
  refine B7 ?_
  (refine D7 (S5 rfl rfl (hsub (O9 S) _ G0 (B2.refl _) hR1) (Pk.perm (by repeat (first | exact Pk.here | apply Pk.there))) rfl) rfl ?_; rintro _ ⟨v, G1, outs, rfl, hle1, csa, ta, ca, Fa, rfl, hRa, rfl, hsa, hna, hva⟩; have hoa := hsa.R.one; obtain ⟨x1, x2, x3, x4, x5, x6, x7, x8, x9, rfl⟩ := A0c hsa; replace hsa := hsa.mono (B6.anti hle0); replace hb2 := hle1 _ _ hb2; have hle01 := hle0.trans hle1)
  (refine D7 (D1 rfl rfl rfl (by omega) (by unfold maxLen; omega) rfl) rfl ?_; rintro _ ⟨b580, rfl⟩)
  (have hcc : H1 S = 36 := (by rw [hc]; exact J5 (b := 36) (by show _ = (36 : Int); omega)); refine P2 (cs := [x1, x2, x3, x4, x5, x6, x7, x8, x9]) (by repeat (first | exact Pk.here | apply Pk.there)) (fun G7 hle7 hsl7 hno7 => ?_); obtain ⟨F7, f1, f2⟩ := A1d (k := 11) (num := 0) (lb := 0) (nm := ⟨#[]⟩) (ty := A7) (fr := A7) ⟨by decide, by decide⟩ ⟨by decide, by decide⟩ ⟨by decide, by decide⟩ hle01 hle7 (Y0 _) (Y0 _) (A1e hsa) (by simpa using hna) hsl7 hno7; obtain ⟨d1, d2⟩ := B0n (S := O9 S) (k := 11) hva; refine H7 rfl (A28 _ _ _ _ _) rfl rfl ?_)
  refine M0 rfl rfl rfl rfl (by exact f1.R.one) rfl (by repeat first | exact Sw.here | apply Sw.there) (by rfl) ?_
  refine sD (nS (tT (rB (rS ?_))))
  refine C4 (outs := [.blk b _]) (rC rfl (A2 rfl rfl)) (.cons (by repeat (first | exact Pk.here | apply Pk.there)) .nil) ?_
  (have hcc : H1 S = 36 := (by rw [hc]; exact J5 (b := 36) (by show _ = (36 : Int); omega)); rw [B46 hcc]; exact ⟨csa, _, _, F7, rfl, by rw [d1]; exact hRa, rfl, f1, f2, d2⟩)
  refine sQ (qA rfl) rfl (sD (nS (cF rfl (tS (tR ?_)))))
  refine sB (qE rfl rfl) rfl rfl (fun h596 => ?_) (fun h596 => ?_)
  refine B7 ?_
  (refine D7 (S5 rfl rfl (hsub (O9 S) _ G0 (B2.refl _) hR1) (Pk.perm (by repeat (first | exact Pk.here | apply Pk.there))) rfl) rfl ?_; rintro _ ⟨v, G1, outs, rfl, hle1, csa, ta, ca, Fa, rfl, hRa, rfl, hsa, hna, hva⟩; have hoa := hsa.R.one; obtain ⟨x1, x2, x3, x4, x5, x6, x7, x8, x9, rfl⟩ := A0c hsa; replace hsa := hsa.mono (B6.anti hle0); replace hb2 := hle1 _ _ hb2; have hle01 := hle0.trans hle1)
  (refine D7 (D1 rfl rfl rfl (by omega) (by unfold maxLen; omega) rfl) rfl ?_; rintro _ ⟨b605, rfl⟩)
  (have hcc : H1 S = 37 := (by rw [hc]; exact J5 (b := 37) (by show _ = (37 : Int); omega)); refine P2 (cs := [x1, x2, x3, x4, x5, x6, x7, x8, x9]) (by repeat (first | exact Pk.here | apply Pk.there)) (fun G7 hle7 hsl7 hno7 => ?_); obtain ⟨F7, f1, f2⟩ := A1d (k := 12) (num := 0) (lb := 0) (nm := ⟨#[]⟩) (ty := A7) (fr := A7) ⟨by decide, by decide⟩ ⟨by decide, by decide⟩ ⟨by decide, by decide⟩ hle01 hle7 (Y0 _) (Y0 _) (A1e hsa) (by simpa using hna) hsl7 hno7; obtain ⟨d1, d2⟩ := B0n (S := O9 S) (k := 12) hva; refine H7 rfl (A28 _ _ _ _ _) rfl rfl ?_)
  refine M0 rfl rfl rfl rfl (by exact f1.R.one) rfl (by repeat first | exact Sw.here | apply Sw.there) (by rfl) ?_
  refine sD (nS (tT (rB (rS ?_))))
  refine C4 (outs := [.blk b _]) (rC rfl (A2 rfl rfl)) (.cons (by repeat (first | exact Pk.here | apply Pk.there)) .nil) ?_
  (have hcc : H1 S = 37 := (by rw [hc]; exact J5 (b := 37) (by show _ = (37 : Int); omega)); rw [B47 hcc]; exact ⟨csa, _, _, F7, rfl, by rw [d1]; exact hRa, rfl, f1, f2, d2⟩)
  refine sQ (qA rfl) rfl (sD (nS (cF rfl (tS (tR ?_)))))
  refine sB (qE rfl rfl) rfl rfl (fun h621 => ?_) (fun h621 => ?_)
  refine sQ (qA rfl) rfl (sD (nS (qT rfl (tS (tR ?_)))))
  refine sL (M7 rfl rfl (Q3 hb2 (fun j v h => by simpa using h))) rfl rfl ?_
  refine sQ (qM rfl) rfl ?_
  (have hcc : H1 S = 40 := (by rw [hc]; exact J5 (b := 40) (by show _ = (40 : Int); omega)); have hP := B4X b (I2 n) 152 [] _ G0 hE0 hsub (O9 S) _ hR1; refine C0 rfl hP (Pk.perm (by repeat (first | exact Pk.here | apply Pk.there))) rfl rfl (fun v G1 outs hle1 hh => ?_); obtain ⟨csa, ta, ca, Fa, rfl, hRa, rfl, hsa, hna, hva⟩ := hh; have hoa := hsa.R.one; obtain ⟨x1, x2, x3, x4, x5, x6, x7, x8, x9, rfl⟩ := A0c hsa; have hrnd : True := trivial)
  refine sS rfl rfl rfl rfl hoa rfl ?_
  refine sD (nS (tT (rB (rS ?_))))
  refine C4 (outs := [.blk b _]) (rC rfl (A2 rfl rfl)) (.cons (by repeat (first | exact Pk.here | apply Pk.there)) .nil) ?_
  (rw [B48 hcc]; exact ⟨csa, ta, _, Fa, rfl, hRa, rfl, hsa.mono (B6.anti hle0), hna, hva⟩)
  refine C7 ?_
  refine sL (M7 rfl rfl (Q3 hb2 (fun j v h => by simpa using h))) rfl rfl ?_
  refine sQ (C1 rfl) rfl ?_
  refine I6 ?_
  refine C4 (outs := [.blk b _]) (rC rfl (A2 rfl rfl)) (.cons (by repeat (first | exact Pk.here | apply Pk.there)) .nil) ?_
  (rw [A6U (n := n) (by rw [hc]; omega) (by rw [hc]; unfold J0; omega) (by rw [hc]; exact J3 (by show _ ≠ (84 : Int); omega)) (by rw [hc]; exact J3 (by show _ ≠ (70 : Int); omega)) (by rw [hc]; exact J3 (by show _ ≠ (33 : Int); omega)) (by rw [hc]; exact J3 (by show _ ≠ (123 : Int); omega)) (by rw [hc]; exact J3 (by show _ ≠ (91 : Int); omega)) (by rw [hc]; exact J3 (by show _ ≠ (36 : Int); omega)) (by rw [hc]; exact J3 (by show _ ≠ (37 : Int); omega)) (by rw [hc]; exact J3 (by show _ ≠ (40 : Int); omega))]; exact ⟨_, _, _, [], rfl, hnB, rfl, A2g _ ⟨#[]⟩ (k := 0) (num := 0) ⟨by decide, by decide⟩ ⟨by decide, by decide⟩, List.nodup_nil, fun x hx => by cases hx⟩)
theorem B0q (k : Nat) : strOfNums [dgi k] = (⟨[UInt8.ofNat (48 + k % 10)].toArray⟩ : ByteArray) := by
 have : (dgi k).toNat = 48 + k % 10 := by unfold dgi; omega
 simp [strOfNums, this]
theorem B5e (a b : List UInt8) : (⟨a.toArray⟩ : ByteArray) ++ ⟨b.toArray⟩ = ⟨(a ++ b).toArray⟩ := by
 apply ByteArray.ext; simp
theorem B5f {k : Nat} {out : ByteArray} (h : 9 < k) : (⟨(Lib.decDigits (k / 10)).toArray⟩ : ByteArray) ++ (strOfNums [dgi k] ++ out) = ⟨(Lib.decDigits k).toArray⟩ ++ out := by
 have e : (⟨(Lib.decDigits k).toArray⟩ : ByteArray) = ⟨(Lib.decDigits (k / 10)).toArray⟩ ++ ⟨[UInt8.ofNat (48 + k % 10)].toArray⟩ := by
  rw [B5e (Lib.decDigits (k / 10))]
  congr 2
  rw [Lib.decDigits, dif_neg (by omega)]
 rw [e, B0q, ByteArray.append_assoc]
theorem B5g {k : Nat} {out : ByteArray} (h : ¬9 < k) : strOfNums [dgi k] ++ out = ⟨(Lib.decDigits k).toArray⟩ ++ out := by
 rw [B0q, Lib.decDigits, dif_pos (by omega), Nat.mod_eq_of_lt (by omega)]
theorem B5h {k : Nat} (h : ¬9 < k) : dgi k = 48 + (k : Int) := by unfold dgi; omega
theorem B5i (k : Nat) (hk : k < 10000) (G : IM) : Fn Tryz.prog 89 [.int .i64 (k : Int)] [] G (L6 (.string ⟨(Lib.decDigits k).toArray⟩) G) := by
 refine B8 Tryz.func89 rfl Tryz.ntmps89 Tryz.results89 rfl ?_
 intro w0
 refine C7 ?_
 refine sP (V4 rfl rfl (by omega)) rfl rfl ?_
 refine C7 ?_
 refine sP (V4 rfl rfl (by omega)) rfl rfl ?_
 refine I6 ?_
 refine C6 (N4 (fun (x : Nat × ByteArray) => ⟨[(0, .int .i64 (x.1 : Int)), (2, .string ⟨#[]⟩), (3, .string x.2)], [], G⟩) (fun x => x.1 < 10000 ∧ x.1 + x.2.size < 10020 ∧ (⟨(Lib.decDigits x.1).toArray⟩ : ByteArray) ++ x.2 = ⟨(Lib.decDigits k).toArray⟩) (fun x => x.1) (k, ⟨#[]⟩) ?_ ?_ ?_)
 (simp only [J9]; exact E0)
 (dsimp only; exact ⟨hk, by have : (⟨#[]⟩ : ByteArray).size = 0 := rfl; omega, ByteArray.append_empty⟩)
 (rintro ⟨j, out⟩ ⟨hj, hsz, hd⟩; simp only [] at hj hsz hd ⊢)
 refine tS (tS (tR (sQ (qM rfl) rfl ?_)))
 refine sB (Y2 rfl rfl) rfl rfl (fun h41 => ?_) (fun h41 => ?_)
 refine sD (nS (qT rfl (tK (nS ?_))))
 refine C6 ?_
 refine tS (tR (sQ (qM rfl) rfl ?_))
 refine sP (A5H (n := 10) rfl rfl (by omega)) rfl rfl ?_
 refine sP (N0 rfl rfl (by omega) (by omega)) rfl rfl ?_
 refine sP (A7F rfl rfl rfl (by omega) (by omega)) rfl rfl ?_
 (refine D7 (D1 rfl rfl rfl (by omega) (by unfold maxLen; omega) rfl) rfl ?_; rintro _ ⟨b54, rfl⟩)
 refine sL (A4n (xs := [dgi j]) rfl rfl rfl rfl rfl (R0 (by repeat first | exact mH | apply mT))) rfl rfl ?_
 refine sQ (qM rfl) rfl ?_
 (have hs1 := strOfNums_size [dgi j]; have hs2 : [dgi j].length = 1 := rfl; refine sP (A2o rfl rfl (by omega)) rfl rfl ?_)
 refine sQ (qA rfl) rfl (sD (nS (tR (sQ (qM rfl) rfl ?_))))
 refine sP (A5I (n := 10) rfl rfl (by omega) (by omega)) rfl rfl ?_
 refine sQ (qA rfl) rfl (sD (O3 ?_))
 refine K5 (j / 10, strOfNums [dgi j] ++ out) ?_ ?_ ?_
 (simp only [J9]; exact E0)
 (dsimp only; exact ⟨by omega, by (rw [ByteArray.size_append]; omega), by rw [← hd]; exact B5f (by omega)⟩)
 (show j / 10 < j; omega)
 refine I6 ?_
 refine sP (N0 rfl rfl (by omega) (by omega)) rfl rfl ?_
 refine sP (A7F rfl rfl rfl (by omega) (by omega)) rfl rfl ?_
 (refine D7 (D1 rfl rfl rfl (by omega) (by unfold maxLen; omega) rfl) rfl ?_; rintro _ ⟨b84, rfl⟩)
 (have hs9 := B5h (k := j) (by omega); refine sL (A4n (xs := [48 + (j : Int)]) rfl rfl rfl rfl rfl (R0 (by repeat first | exact mH | apply mT))) rfl rfl ?_; rw [← hs9])
 refine sQ (qM rfl) rfl ?_
 (have hs1 := strOfNums_size [dgi j]; have hs2 : [dgi j].length = 1 := rfl; refine sP (A2o rfl rfl (by omega)) rfl rfl ?_)
 refine sQ (qA rfl) rfl (sD (nS (tT (E9 (rT rfl) ?_))))
 exact ⟨rfl, by rw [B5g (by omega), hd], rfl⟩
section catlaws
variable {P : Program} {Γ : K0} {env : K3} {hp : List A4} {G : IM} {ty : TypeId}
theorem B5j (a b : A3) : D6 a ++ D6 b = D6 (a ++ b) := by
 apply ByteArray.ext
 simp [D6]
theorem F0 {x y : Operand} {t t' : TypeId} {a b : A3} (hx : evo env x = some (.string (D6 a))) (hy : evo env y = some (.string (D6 b))) (h : a.length + b.length ≤ 9223372036854775807) :
  H5 P Γ ⟨env, hp, G⟩ (.binOp .add t x y t') ty (.string (D6 (a ++ b))) := by
 have := A2o (P := P) (Γ := Γ) (hp := hp) (G := G) (t := t) (t' := t') (ty := ty) hx hy (by rw [N3, N3]; exact h)
 rwa [B5j] at this
end catlaws
theorem A47 (k : Int) (a b : Ty) : O7 (.mk k [a, b]) = 40 :: (O7 a ++ (sgB k :: (O7 b ++ [41]))) := by simp [O7, A2c, tyN]
theorem B0r (k : Int) : O7 (.mk k []) = [sgB k] := by simp [O7, A2c, tyN]
theorem B5k : ∀ (n : Nat) (t : Ty) (d : Int), H8 t d = true → 5 - d ≤ n → (O7 t).length + 3 ≤ 2 ^ (n + 1) := by
 intro n
 induction n with
 | zero => intro t d h hn; have := (A2e h).1; omega
 | succ m ih =>
  intro t d h hn
  obtain ⟨hd, hc⟩ := A2e h
  rcases hc with ⟨k, hk, rfl⟩ | ⟨k, a, b, hk, rfl, ha, hb⟩
  ·rw [B0r]
   have : 2 ^ 2 ≤ 2 ^ (m + 1 + 1) := Nat.pow_le_pow_right (by decide) (by omega)
   simp only [List.length_cons, List.length_nil]; omega
  ·have h1 := ih a (d + 1) ha (by omega)
   have h2 := ih b (d + 1) hb (by omega)
   rw [A47]
   rw [Nat.pow_succ]
   simp only [List.length_cons, List.length_append, List.length_nil]; omega
theorem Z6 {t : Ty} {d : Int} (h : H8 t d = true) (hd : 1 ≤ d) : (O7 t).length ≤ 29 := by
 have := B5k 4 t d h (by omega)
 have e : 2 ^ (4 + 1) = 32 := rfl
 omega
theorem B5l {j : Nat} (h : j < 5) : (D6 [63, 73, 66, 62, 42]).extract j (j + 1) = D6 [sgB ((j : Int) + 1)] := by
 rw [A0V]
 have : j = 0 ∨ j = 1 ∨ j = 2 ∨ j = 3 ∨ j = 4 := by omega
 rcases this with rfl | rfl | rfl | rfl | rfl <;> rfl
theorem B5m (j : Nat) (hj : j < 5) (G : IM) : Fn Tryz.prog 148 [.int .i64 ((j : Int) + 1)] [] G (L6 (.string (D6 [sgB ((j : Int) + 1)])) G) := by
 refine B8 Tryz.func148 rfl Tryz.ntmps148 Tryz.results148 rfl ?_
 intro w0
 refine F8 ?_
 (refine sP (Q9 rfl rfl (by omega) (by omega)) rfl rfl ?_; rw [show (j : Int) + 1 - 1 = (j : Int) by omega])
 refine sQ (qM rfl) rfl ?_
 (refine sP (Q9 rfl rfl (by omega) (by omega)) rfl rfl ?_; rw [show (j : Int) + 1 - 1 = (j : Int) by omega])
 refine sP (K8 (n := 1) rfl rfl (by omega)) rfl rfl ?_
 (refine sP (A0Q (s := D6 [63, 73, 66, 62, 42]) (l := j) (h := j + 1) rfl rfl rfl rfl (by omega) (by rw [N3]; simp only [List.length_cons, List.length_nil]; omega)) rfl rfl ?_; rw [B5l hj])
 refine sQ (qA rfl) rfl (sD (nS (tT (E9 (rT rfl) ?_))))
 (exact ⟨rfl, rfl, rfl⟩)
theorem A6V (k : Int) (hk : k = 1 ∨ k = 2 ∨ k = 3 ∨ k = 4 ∨ k = 5) (G : IM) : Fn Tryz.prog 148 [.int .i64 k] [] G (L6 (.string (D6 [sgB k])) G) := by
 obtain ⟨j, hj, rfl⟩ : ∃ j : Nat, j < 5 ∧ k = (j : Int) + 1 := ⟨(k - 1).toNat, by omega, by omega⟩
 exact B5m j hj G
theorem A48 : ∀ (t : Ty) (d : Int) (G : IM) (cells : List Value), H8 t d = true → 1 ≤ d → B3 G t cells → Fn Tryz.prog 86 [.agg ⟨cells⟩] [] G (L6 (.string (D6 (O7 t))) G) := by
 refine Ty.ind fun k ks ih d G cells hs hd hr => ?_
 obtain ⟨hd4, hc⟩ := A2e hs
 obtain ⟨p, c, es, rfl, hk, hsl, hkl⟩ := hr.open
 simp only [Ty.k, Ty.ks] at hk hsl hkl ⊢
 have hn := hsl.le
 rcases hc with ⟨k2, hkk, he⟩ | ⟨k2, a, b, hkk, he, ha, hb⟩
 ·cases he
  refine B8 Tryz.func86 rfl Tryz.ntmps86 Tryz.results86 rfl ?_
  intro w0
  refine tS (tR ?_)
  refine sE (E7 rfl rfl) rfl (fun b3 => ?_)
  refine C7 ?_
  refine sB (qE rfl rfl) rfl rfl (fun h13 => ?_) (fun h13 => ?_)
  refine B7 ?_
  refine H7 rfl ((A6V k (by omega) _)) rfl rfl ?_
  refine sQ (qA rfl) rfl (sD (nS (tT (rS (E9 (rT rfl) ?_)))))
  (rw [B0r]; exact ⟨rfl, rfl, rfl⟩)
  refine sD (nS (cF rfl (tK (nS (tS ?_)))))
  (exfalso; have hz : (([] : List Ty).length : Int) = 0 := rfl; omega)
 ·cases he
  have la := Z6 ha (by omega)
  have lb := Z6 hb (by omega)
  obtain ⟨bx, ox, q0, d0, rfl, hat0, hre0, hg0⟩ := hsl.kidTy hkl (i := 0) (by simp) (by simp)
  obtain ⟨_, _, q1, d1, hp1, hat1, hre1, hg1⟩ := hsl.kidTy hkl (i := 1) (by simp) (by simp)
  cases hp1
  have h0 := ih a (by simp) (d + 1) G _ ha (by omega) hre0
  have h1 := ih b (by simp) (d + 1) G _ hb (by omega) hre1
  refine B8 Tryz.func86 rfl Tryz.ntmps86 Tryz.results86 rfl ?_
  intro w0
  refine tS (tR ?_)
  refine sE (E7 rfl rfl) rfl (fun b3 => ?_)
  refine C7 ?_
  refine sB (qE rfl rfl) rfl rfl (fun h13 => ?_) (fun h13 => ?_)
  refine B7 ?_
  refine H7 rfl ((A6V k (by omega) _)) rfl rfl ?_
  refine sQ (qA rfl) rfl (sD (nS (tT (rS (E9 (rT rfl) ?_)))))
  (exfalso; simp at *)
  refine sD (nS (cF rfl (tK (nS (tS ?_)))))
  refine D3 D4 rfl ?_
  refine E8 (i := 0) (l' := [tt,ff,ff,ff,ff,ff,ff,ff,ff,ff,ff,ff,ff,ff,ff,ff,ff,ff]) rfl C5 (A9 rfl) rfl (by kernel_rfl) rfl rfl ?_
  refine aL 1 rfl (C2 rfl rfl) rfl ?_
  refine aP 2 rfl (D0 (j := 0) rfl rfl rfl (by simp)) rfl ?_
  refine aL 3 rfl (A6 rfl rfl (hat0 _) rfl) rfl ?_
  refine aP 6 rfl (A9 rfl) rfl ?_
  refine aL 7 rfl (C2 rfl rfl) rfl ?_
  refine aP 10 rfl (A9 rfl) rfl ?_
  refine aL 11 rfl (C2 rfl rfl) rfl ?_
  refine aP 12 rfl (D0 (j := 1) rfl rfl rfl (by simp)) rfl ?_
  refine aL 13 rfl (A6 rfl rfl (hat1 _) rfl) rfl ?_
  refine A1 4 ?_
  refine I1 rfl rfl (h0) rfl rfl rfl ?_
  refine aP 5 rfl (F0 rfl rfl (by simp only [List.length_append, List.length_cons, List.length_nil]; omega)) rfl ?_
  refine A1 8 ?_
  refine I1 rfl rfl ((A6V k (by omega) _)) rfl rfl rfl ?_
  refine aP 9 rfl (F0 rfl rfl (by simp only [List.length_append, List.length_cons, List.length_nil]; omega)) rfl ?_
  refine A1 14 ?_
  refine I1 rfl rfl (h1) rfl rfl rfl ?_
  refine aP 15 rfl (F0 rfl rfl (by simp only [List.length_append, List.length_cons, List.length_nil]; omega)) rfl ?_
  refine aP 16 rfl (F0 rfl rfl (by simp only [List.length_append, List.length_cons, List.length_nil]; omega)) rfl ?_
  refine aP 17 rfl (qA rfl) rfl ?_
  refine D8 (nS (tT (E9 (rT rfl) ?_)))
  (rw [A47]; exact ⟨rfl, by simp, rfl⟩)
theorem A3i : ∀ (t : Ty) (d : Int) (G : IM) (cells : List Value), H8 t d = true → 1 ≤ d → B3 G t cells → Fn Tryz.prog 90 [.agg ⟨cells⟩] [] G (L6 (.string (D6 (O7 t))) G) := by
 refine Ty.ind fun k ks ih d G cells hs hd hr => ?_
 obtain ⟨hd4, hc⟩ := A2e hs
 obtain ⟨p, c, es, rfl, hk, hsl, hkl⟩ := hr.open
 simp only [Ty.k, Ty.ks] at hk hsl hkl ⊢
 have hn := hsl.le
 rcases hc with ⟨k2, hkk, he⟩ | ⟨k2, a, b, hkk, he, ha, hb⟩
 ·cases he
  refine B8 Tryz.func90 rfl Tryz.ntmps90 Tryz.results90 rfl ?_
  intro w0
  refine tS (tR ?_)
  refine sE (E7 rfl rfl) rfl (fun b3 => ?_)
  refine M2 ?_
  refine C6 (tS (tR (sB (qE rfl rfl) rfl rfl (fun h17 => ?_) (fun h17 => ?_))))
  refine I5 ?_
  (obtain rfl : k = 1 := (by omega); exact ⟨rfl, rfl, rfl⟩)
  refine sQ (qA rfl) rfl (sD (nS (cF rfl (tS (tR ?_)))))
  refine sB (qE rfl rfl) rfl rfl (fun h38 => ?_) (fun h38 => ?_)
  refine I5 ?_
  (obtain rfl : k = 2 := (by omega); exact ⟨rfl, rfl, rfl⟩)
  refine sQ (qA rfl) rfl (sD (nS (cF rfl (tS (tR ?_)))))
  refine sP (A0G rfl rfl (by omega)) rfl rfl ?_
  refine I5 ?_
  (obtain rfl : k = 3 := (by omega); exact ⟨rfl, rfl, rfl⟩)
 ·cases he
  have la := Z6 ha (by omega)
  have lb := Z6 hb (by omega)
  obtain ⟨bx, ox, q0, d0, rfl, hat0, hre0, hg0⟩ := hsl.kidTy hkl (i := 0) (by simp) (by simp)
  obtain ⟨_, _, q1, d1, hp1, hat1, hre1, hg1⟩ := hsl.kidTy hkl (i := 1) (by simp) (by simp)
  cases hp1
  have h0 := ih a (by simp) (d + 1) G _ ha (by omega) hre0
  have h1 := ih b (by simp) (d + 1) G _ hb (by omega) hre1
  refine B8 Tryz.func90 rfl Tryz.ntmps90 Tryz.results90 rfl ?_
  intro w0
  refine tS (tR ?_)
  refine sE (E7 rfl rfl) rfl (fun b3 => ?_)
  refine M2 ?_
  refine C6 ?_
  refine tS (tR ?_)
  refine sP (M1 rfl rfl (by omega)) rfl rfl ?_
  refine sQ (qA rfl) rfl (sD (nS (cF rfl (tS (tR ?_)))))
  refine sP (M1 rfl rfl (by omega)) rfl rfl ?_
  refine sQ (qA rfl) rfl (sD (nS (cF rfl (tS (tR ?_)))))
  refine sP (M1 rfl rfl (by omega)) rfl rfl ?_
  refine T5 ?_
  refine sB (qE rfl rfl) rfl rfl (fun h49 => ?_) (fun h49 => ?_)
  refine sD (nS (qT rfl (tR (sQ (qA rfl) rfl (sD (nS (tS ?_)))))))
  refine D3 D4 rfl ?_
  refine E8 (i := 0) (l' := [tt,ff,ff,ff,ff,ff,ff,ff,ff,ff,ff,ff,ff,ff,ff,ff]) rfl C5 (A9 rfl) rfl (by kernel_rfl) rfl rfl ?_
  refine aL 1 rfl (C2 rfl rfl) rfl ?_
  refine aP 2 rfl (D0 (j := 0) rfl rfl rfl (by simp)) rfl ?_
  refine aL 3 rfl (A6 rfl rfl (hat0 _) rfl) rfl ?_
  refine aP 6 rfl (qM rfl) rfl ?_
  refine aP 8 rfl (A9 rfl) rfl ?_
  refine aL 9 rfl (C2 rfl rfl) rfl ?_
  refine aP 10 rfl (D0 (j := 1) rfl rfl rfl (by simp)) rfl ?_
  refine aL 11 rfl (A6 rfl rfl (hat1 _) rfl) rfl ?_
  refine A1 4 ?_
  refine I1 rfl rfl (h0) rfl rfl rfl ?_
  refine aP 5 rfl (F0 rfl rfl (by simp only [List.length_append, List.length_cons, List.length_nil]; omega)) rfl ?_
  refine aP 7 rfl (F0 rfl rfl (by simp only [List.length_append, List.length_cons, List.length_nil]; omega)) rfl ?_
  refine A1 12 ?_
  refine I1 rfl rfl (h1) rfl rfl rfl ?_
  refine aP 13 rfl (F0 rfl rfl (by simp only [List.length_append, List.length_cons, List.length_nil]; omega)) rfl ?_
  refine aP 14 rfl (F0 rfl rfl (by simp only [List.length_append, List.length_cons, List.length_nil]; omega)) rfl ?_
  refine aP 15 rfl (qA rfl) rfl ?_
  refine D8 (nS (tT (E9 (rT rfl) ?_)))
  (obtain rfl : k = 5 := (by omega); rw [A47]; exact ⟨rfl, by simp [sgB], rfl⟩)
  refine sD (nS (cF rfl (tK (nS (tS ?_)))))
  refine D3 D4 rfl ?_
  refine E8 (i := 0) (l' := [tt,ff,ff,ff,ff,ff,ff,ff,ff,ff,ff,ff,ff,ff,ff,ff]) rfl C5 (A9 rfl) rfl (by kernel_rfl) rfl rfl ?_
  refine aL 1 rfl (C2 rfl rfl) rfl ?_
  refine aP 2 rfl (D0 (j := 0) rfl rfl rfl (by simp)) rfl ?_
  refine aL 3 rfl (A6 rfl rfl (hat0 _) rfl) rfl ?_
  refine aP 6 rfl (qM rfl) rfl ?_
  refine aP 8 rfl (A9 rfl) rfl ?_
  refine aL 9 rfl (C2 rfl rfl) rfl ?_
  refine aP 10 rfl (D0 (j := 1) rfl rfl rfl (by simp)) rfl ?_
  refine aL 11 rfl (A6 rfl rfl (hat1 _) rfl) rfl ?_
  refine A1 4 ?_
  refine I1 rfl rfl (h0) rfl rfl rfl ?_
  refine aP 5 rfl (F0 rfl rfl (by simp only [List.length_append, List.length_cons, List.length_nil]; omega)) rfl ?_
  refine aP 7 rfl (F0 rfl rfl (by simp only [List.length_append, List.length_cons, List.length_nil]; omega)) rfl ?_
  refine A1 12 ?_
  refine I1 rfl rfl (h1) rfl rfl rfl ?_
  refine aP 13 rfl (F0 rfl rfl (by simp only [List.length_append, List.length_cons, List.length_nil]; omega)) rfl ?_
  refine aP 14 rfl (F0 rfl rfl (by simp only [List.length_append, List.length_cons, List.length_nil]; omega)) rfl ?_
  refine aP 15 rfl (qA rfl) rfl ?_
  refine D8 (nS (tT (E9 (rT rfl) ?_)))
  (obtain rfl : k = 4 := (by omega); rw [A47]; exact ⟨rfl, by simp [sgB], rfl⟩)
theorem W7 {l : A3} {i : Nat} (h : i < l.length) : (D6 l)[((i : Nat) : Int).toNat]? = some (l.getD i 0) := by
 rw [A34 h, List.getD_eq_getElem?_getD, List.getElem?_eq_getElem h]; rfl
theorem A0W {l : A3} {i : Nat} (h : i < l.length) : l.drop i = l.getD i 0 :: l.drop (i + 1) := by
 rw [List.drop_eq_getElem_cons h, List.getD_eq_getElem?_getD, List.getElem?_eq_getElem h]; rfl
theorem A2J {l : A3} {i : Nat} (h : l.length ≤ i) : l.drop i = [] := List.drop_eq_nil_of_le h
theorem A0X {l : A3} {i : Nat} (h : i < l.length) : T9 (l.drop i) = some (l.getD i 0, l.drop (i + 1)) := by rw [A0W h]; rfl
theorem A6W {l : A3} {i : Nat} (h : l.length ≤ i) : T9 (l.drop i) = none := by rw [A2J h]; rfl
theorem A1f {l : A3} {i : Nat} {c : UInt8} (h : i < l.length) (hc : l.getD i 0 = c) : F9 c (l.drop i) = some (l.drop (i + 1)) := by rw [A0W h, F9, if_pos hc]
theorem A1P {l : A3} {i : Nat} {c : UInt8} (h : i < l.length) (hc : l.getD i 0 ≠ c) : F9 c (l.drop i) = none := by rw [A0W h, F9, if_neg hc]
theorem A2i {l : A3} {i : Nat} {c : UInt8} (h : l.length ≤ i) : F9 c (l.drop i) = none := by rw [A2J h]; rfl
def A6X {α : Type} (L : A3) (m : Option (α × A3)) (t : α) (next : Int) : Prop := (m = none ∧ next = -1) ∨ (∃ nx : Nat, m = some (t, L.drop nx) ∧ next = (nx : Int) ∧ nx ≤ L.length)
def V2 (L : A3) (m : Option (Ty × A3)) : IM → Value → List A4 → Prop := L7 fun G' v => ∃ t cells next, v = .tuple ⟨[.agg ⟨cells⟩, .int .i64 next]⟩ ∧ B3 G' t cells ∧ A6X L m t next
theorem V2.no {L : A3} {m : Option (Ty × A3)} {G : IM} (h : m = none) : V2 L m G (.tuple ⟨[.agg ⟨[.int .i64 0, .slice none 0 0]⟩, .int .i64 (-1)]⟩) [] := ⟨rfl, A7, _, _, rfl, A0D G, .inl ⟨h, rfl⟩⟩
theorem V2.yes {L : A3} {m : Option (Ty × A3)} {G : IM} {t : Ty} {cells : List Value} {nx : Nat} (hr : B3 G t cells) (h : m = some (t, L.drop nx)) (hn : nx ≤ L.length) : V2 L m G (.tuple ⟨[.agg ⟨cells⟩, .int .i64 (nx : Int)]⟩) [] := ⟨rfl, t, cells, _, rfl, hr, .inr ⟨nx, h, rfl, hn⟩⟩
theorem B5n (n : Nat) : O0 n [] = none := by cases n <;> rfl
theorem A3j (n : Nat) (r : A3) : O0 (n + 1) (40 :: r) = (O0 n r).bind fun x => (T9 x.2).bind fun o => (O0 n o.2).bind fun z => if o.1 = 62 ∨ o.1 = 42 then (F9 41 z.2).map fun w => (.mk (if o.1 = 62 then 4 else 5) [x.1, z.1], w) else none := by
 rw [O0, if_neg (by decide), if_neg (by decide), if_neg (by decide), if_pos rfl]
theorem B5o (n : Nat) {c : UInt8} (r : A3) (h1 : c ≠ 63) (h2 : c ≠ 73) (h3 : c ≠ 66) (h4 : c ≠ 40) : O0 (n + 1) (c :: r) = none := by
 rw [O0, if_neg h1, if_neg h2, if_neg h3, if_neg h4]
theorem B5p {n : Nat} {L : A3} {r : A3} {t : Ty} {nx : Nat} (hm : O0 n r = some (t, L.drop nx)) (h : L.length ≤ nx) : O0 (n + 1) (40 :: r) = none := by
 rw [A3j, hm]; simp only [Option.bind_some]; rw [A6W h]; rfl
theorem A6Y {n : Nat} {L : A3} {r : A3} {t : Ty} {nx : Nat} (hm : O0 n r = some (t, L.drop nx)) (h : nx < L.length) (h2 : O0 n (L.drop (nx + 1)) = none) : O0 (n + 1) (40 :: r) = none := by
 rw [A3j, hm]; simp only [Option.bind_some]; rw [A0X h]; simp only [Option.bind_some]; rw [h2]; rfl
theorem B5q {n : Nat} {L : A3} {r : A3} {t u : Ty} {nx ny : Nat} (hm : O0 n r = some (t, L.drop nx)) (h : nx < L.length) (h2 : O0 n (L.drop (nx + 1)) = some (u, L.drop ny)) (h3 : L.getD nx 0 ≠ 62) (h4 : L.getD nx 0 ≠ 42) : O0 (n + 1) (40 :: r) = none := by
 rw [A3j, hm]; simp only [Option.bind_some]; rw [A0X h]; simp only [Option.bind_some]; rw [h2]; simp only [Option.bind_some]; rw [if_neg (by rintro (h | h); exact h3 h; exact h4 h)]
theorem A49 {n : Nat} {L : A3} {r : A3} {t u : Ty} {nx ny : Nat} (hm : O0 n r = some (t, L.drop nx)) (h : nx < L.length) (h2 : O0 n (L.drop (nx + 1)) = some (u, L.drop ny)) (h5 : F9 41 (L.drop ny) = none) : O0 (n + 1) (40 :: r) = none := by
 rw [A3j, hm]; simp only [Option.bind_some]; rw [A0X h]; simp only [Option.bind_some]; rw [h2]; simp only [Option.bind_some]; split <;> simp [h5]
theorem B0s {n : Nat} {L : A3} {r : A3} {t u : Ty} {nx ny : Nat} (hm : O0 n r = some (t, L.drop nx)) (h : nx < L.length) (h2 : O0 n (L.drop (nx + 1)) = some (u, L.drop ny)) {k : Int} (h3 : (L.getD nx 0 = 62 ∧ k = 4) ∨ (L.getD nx 0 = 42 ∧ k = 5)) (h4 : ny < L.length) (h5 : L.getD ny 0 = 41) : O0 (n + 1) (40 :: r) = some (.mk k [t, u], L.drop (ny + 1)) := by
 rw [A3j, hm]; simp only [Option.bind_some]; rw [A0X h]; simp only [Option.bind_some]; rw [h2]; simp only [Option.bind_some]
 rw [A1f h4 h5]
 rcases h3 with ⟨h3, rfl⟩ | ⟨h3, rfl⟩ <;> rw [h3] <;> rfl
theorem A6Z (L : A3) (hL : L.length ≤ 4294967296) : ∀ (n a : Nat) (G : IM), n ≤ 100 → a ≤ L.length → Fn Tryz.prog 166 [.string (D6 L), .int .i64 (a : Int), .int .i64 (n : Int)] [] G (V2 L (O0 n (L.drop a))) := by
 intro n
 induction n with
 | zero =>
  intro a G hn ha
  refine B8 Tryz.func166 rfl Tryz.ntmps166 Tryz.results166 rfl ?_
  intro w0
  refine tS (tR ?_)
  refine sE (A8 rfl) rfl (fun b3 => ?_)
  refine B7 ?_
  refine sP (A0A rfl rfl (by omega)) rfl rfl ?_
  refine A2R ?_
  refine B4 (rC rfl (A2 rfl rfl)) (rT rfl) ?_
  (exact V2.no rfl)
 | succ n ih =>
  intro a G hn ha
  have hsz := N3 L
  have hnil : L.length ≤ a → O0 (n + 1) (L.drop a) = none := fun h => by rw [A2J h]; exact B5n _
  obtain ⟨c, hc⟩ : ∃ c, L.getD a 0 = c := ⟨_, rfl⟩
  have hcs := fun h : a < L.length => by have := A0W h; rw [hc] at this; exact this
  refine B8 Tryz.func166 rfl Tryz.ntmps166 Tryz.results166 rfl ?_
  intro w0
  refine tS (tR ?_)
  refine sE (A8 rfl) rfl (fun b3 => ?_)
  refine B7 ?_
  refine sP (V4 rfl rfl (by omega)) rfl rfl ?_
  refine sQ (qM rfl) rfl (sQ (qM rfl) rfl ?_)
  refine sP (V4 rfl rfl (by omega)) rfl rfl ?_
  refine H9 ?_
  refine sQ (P9 rfl rfl) rfl (sB (S4 rfl rfl) rfl rfl (fun h20 => ?_) (fun h20 => ?_))
  refine I5 ?_
  refine B4 (rC rfl (A2 rfl rfl)) (rT rfl) ?_
  (exact V2.no (hnil (by omega)))
  refine I6 ?_
  (have hal : a < L.length := (by omega); refine sP (R8 rfl rfl rfl (by omega) (W7 hal)) rfl rfl ?_; rw [hc])
  refine sD (nS ?_)
  refine C6 (tS (tR (sB (qE rfl rfl) rfl rfl (fun h53 => ?_) (fun h53 => ?_))))
  refine F8 ?_
  refine sP (K8 (n := 1) rfl rfl (by omega)) rfl rfl ?_
  refine H2 ?_
  refine sQ (qA rfl) rfl (sD (nS (tT (rB (rS ?_)))))
  refine B4 (rC rfl (A2 rfl rfl)) (rT rfl) ?_
  (obtain rfl : c = 63 := J5 (b := 63) (by show _ = (63 : Int); omega); rw [hcs hal]; exact V2.yes (J6 _ ⟨by decide, by decide⟩) rfl (by omega))
  refine sQ (qA rfl) rfl (sD (nS (cF rfl (tS (tR ?_)))))
  refine sB (qE rfl rfl) rfl rfl (fun h78 => ?_) (fun h78 => ?_)
  refine F8 ?_
  refine sP (K8 (n := 1) rfl rfl (by omega)) rfl rfl ?_
  refine H2 ?_
  refine sQ (qA rfl) rfl (sD (nS (tT (rB (rS ?_)))))
  refine B4 (rC rfl (A2 rfl rfl)) (rT rfl) ?_
  (obtain rfl : c = 73 := J5 (b := 73) (by show _ = (73 : Int); omega); rw [hcs hal]; exact V2.yes (J6 _ ⟨by decide, by decide⟩) rfl (by omega))
  refine sQ (qA rfl) rfl (sD (nS (cF rfl (tS (tR ?_)))))
  refine sB (qE rfl rfl) rfl rfl (fun h103 => ?_) (fun h103 => ?_)
  refine F8 ?_
  refine sP (K8 (n := 1) rfl rfl (by omega)) rfl rfl ?_
  refine H2 ?_
  refine sQ (qA rfl) rfl (sD (nS (tT (rB (rS ?_)))))
  refine B4 (rC rfl (A2 rfl rfl)) (rT rfl) ?_
  (obtain rfl : c = 66 := J5 (b := 66) (by show _ = (66 : Int); omega); rw [hcs hal]; exact V2.yes (J6 _ ⟨by decide, by decide⟩) rfl (by omega))
  refine sQ (qA rfl) rfl (sD (nS (cF rfl (tS (tR ?_)))))
  refine sB (qE rfl rfl) rfl rfl (fun h128 => ?_) (fun h128 => ?_)
  refine F8 ?_
  refine sP (K8 (n := 1) rfl rfl (by omega)) rfl rfl ?_
  refine sQ (qM rfl) rfl ?_
  refine sP (T4 rfl rfl (by omega)) rfl rfl ?_
  focus (refine D9 rfl (ih (a + 1) G (by omega) (by omega)) rfl rfl (fun v G1 hle1 hh => ?_); obtain ⟨ta, ca, na, rfl, hra, hm⟩ := hh; obtain ⟨pa, cca, ea, rfl, _⟩ := hra.open; rcases hm with ⟨hm, rfl⟩ | ⟨nx, hm, rfl, hnx⟩; rotate_left; obtain ⟨o, ho⟩ : ∃ o, L.getD nx 0 = o := ⟨_, rfl⟩; rotate_left)
  refine H0 ?_
  refine sE (A8 rfl) rfl (fun b144 => ?_)
  refine F8 ?_
  refine sP (A0A rfl rfl (by omega)) rfl rfl ?_
  refine A0j ?_
  refine B4 (rC rfl (A2 rfl rfl)) (rT rfl) ?_
  (obtain rfl : c = 40 := J5 (b := 40) (by show _ = (40 : Int); omega); rw [hcs hal]; exact V2.no (by rw [A3j, hm]; rfl))
  refine H0 ?_
  refine sE (A8 rfl) rfl (fun b179 => ?_)
  refine F8 ?_
  refine sP (V4 rfl rfl (by omega)) rfl rfl ?_
  refine sQ (qM rfl) rfl (sQ (qM rfl) rfl (sQ (qM rfl) rfl ?_))
  refine sQ (P9 rfl rfl) rfl (sB (S4 rfl rfl) rfl rfl (fun h193 => ?_) (fun h193 => ?_))
  refine M3 ?_
  refine B4 (rC rfl (A2 rfl rfl)) (rT rfl) ?_
  (obtain rfl : c = 40 := J5 (b := 40) (by show _ = (40 : Int); omega); rw [hcs hal]; exact V2.no (B5p hm (by omega)))
  refine N6 ?_
  (have hnl : nx < L.length := (by omega); refine sP (R8 rfl rfl rfl (by omega) (W7 hnl)) rfl rfl ?_; rw [ho])
  refine sB (qE rfl rfl) rfl rfl (fun h228 => ?_) (fun h228 => ?_)
  refine I6 ?_
  refine sP (K8 (n := 1) rfl rfl (by omega)) rfl rfl ?_
  refine sQ (qM rfl) rfl ?_
  refine sP (T4 rfl rfl (by omega)) rfl rfl ?_
  focus (refine D9 rfl (ih (nx + 1) G1 (by omega) (by omega)) rfl rfl (fun v G2 hle2 hh => ?_); obtain ⟨tb, cb, nb, rfl, hrb, hm2⟩ := hh; obtain ⟨pb, ccb, eb, rfl, _⟩ := hrb.open; replace hra := hra.mono hle2; rcases hm2 with ⟨hm2, rfl⟩ | ⟨ny, hm2, rfl, hny⟩; rotate_left; obtain ⟨q, hq⟩ : ∃ q, L.getD ny 0 = q := ⟨_, rfl⟩; rotate_left)
  refine H0 ?_
  refine sE (A8 rfl) rfl (fun b247 => ?_)
  refine C7 ?_
  (have hnl : nx < L.length := (by omega); refine sP (R8 rfl rfl rfl (by omega) (W7 hnl)) rfl rfl ?_; rw [ho])
  refine sP (A2q rfl rfl (by omega)) rfl rfl ?_
  refine F8 ?_
  refine sP (A0A rfl rfl (by omega)) rfl rfl ?_
  refine A5G ?_
  refine B4 (rC rfl (A2 rfl rfl)) (rT rfl) ?_
  (obtain rfl : c = 40 := J5 (b := 40) (by show _ = (40 : Int); omega); rw [hcs hal]; exact V2.no (A6Y hm hnl hm2))
  refine H0 ?_
  refine sE (A8 rfl) rfl (fun b300 => ?_)
  refine C7 ?_
  (have hnl : nx < L.length := (by omega); refine sP (R8 rfl rfl rfl (by omega) (W7 hnl)) rfl rfl ?_; rw [ho])
  refine sP (A2q rfl rfl (by omega)) rfl rfl ?_
  refine F8 ?_
  refine sP (V4 rfl rfl (by omega)) rfl rfl ?_
  refine H9 ?_
  refine sQ (P9 rfl rfl) rfl (sB (S4 rfl rfl) rfl rfl (fun h326 => ?_) (fun h326 => ?_))
  refine Y8 ?_
  refine B4 (rC rfl (A2 rfl rfl)) (rT rfl) ?_
  (obtain rfl : c = 40 := J5 (b := 40) (by show _ = (40 : Int); omega); rw [hcs hal]; exact V2.no (A49 hm hnl hm2 (A2i (by omega))))
  refine H9 ?_
  (have hyl : ny < L.length := (by omega); refine sP (R8 rfl rfl rfl (by omega) (W7 hyl)) rfl rfl ?_; rw [hq])
  refine sB (P5 rfl rfl) rfl rfl (fun h355 => ?_) (fun h355 => ?_)
  refine M3 ?_
  refine B4 (rC rfl (A2 rfl rfl)) (rT rfl) ?_
  (obtain rfl : c = 40 := J5 (b := 40) (by show _ = (40 : Int); omega); rw [hcs hal]; exact V2.no (A49 hm hnl hm2 (A1P hyl (by rw [hq]; exact J3 (by show _ ≠ (41 : Int); omega)))))
  refine I6 ?_
  (refine D7 (D1 rfl rfl rfl (by omega) (by unfold maxLen; omega) rfl) rfl ?_; rintro _ ⟨b384, rfl⟩)
  refine sQ (P6 rfl rfl) rfl (sQ (qM rfl) rfl ?_)
  refine sP (K8 (n := 1) rfl rfl (by omega)) rfl rfl ?_
  refine H2 ?_
  refine sQ (qA rfl) rfl (sD (nS ?_))
  (refine L4 (by repeat (first | exact Pk.here | apply Pk.there)) (fun G5 hle5 hsl5 hno5 => ?_))
  refine tT (rB (rS ?_))
  refine B4 (rC rfl (A2 rfl rfl)) (rT rfl) ?_
  (obtain rfl : c = 40 := J5 (b := 40) (by show _ = (40 : Int); omega); rw [hcs hal]; exact V2.yes (A8T ⟨by decide, by decide⟩ (hra.mono hle5) (hrb.mono hle5) hsl5) (B0s hm hnl hm2 (.inl ⟨by rw [ho]; exact J5 (b := 62) (by show _ = (62 : Int); omega), rfl⟩) hyl (by rw [hq]; exact J5 (b := 41) (by show _ = (41 : Int); omega))) (by omega))
  refine C7 ?_
  refine sP (K8 (n := 1) rfl rfl (by omega)) rfl rfl ?_
  refine sQ (qM rfl) rfl ?_
  refine sP (T4 rfl rfl (by omega)) rfl rfl ?_
  focus (refine D9 rfl (ih (nx + 1) G1 (by omega) (by omega)) rfl rfl (fun v G2 hle2 hh => ?_); obtain ⟨tb, cb, nb, rfl, hrb, hm2⟩ := hh; obtain ⟨pb, ccb, eb, rfl, _⟩ := hrb.open; replace hra := hra.mono hle2; rcases hm2 with ⟨hm2, rfl⟩ | ⟨ny, hm2, rfl, hny⟩; rotate_left; obtain ⟨q, hq⟩ : ∃ q, L.getD ny 0 = q := ⟨_, rfl⟩; rotate_left)
  refine H0 ?_
  refine sE (A8 rfl) rfl (fun b414 => ?_)
  refine C7 ?_
  (have hnl : nx < L.length := (by omega); refine sP (R8 rfl rfl rfl (by omega) (W7 hnl)) rfl rfl ?_; rw [ho])
  refine sP (A0h rfl rfl (by omega)) rfl rfl ?_
  refine sQ (qM rfl) rfl (sQ (qM rfl) rfl (sQ (qM rfl) rfl ?_))
  (have hnl : nx < L.length := (by omega); refine sP (R8 rfl rfl rfl (by omega) (W7 hnl)) rfl rfl ?_; rw [ho])
  refine sB (P5 rfl rfl) rfl rfl (fun h430 => ?_) (fun h430 => ?_)
  refine W9 ?_
  refine rS ?_
  refine B4 (rC rfl (A2 rfl rfl)) (rT rfl) ?_
  (obtain rfl : c = 40 := J5 (b := 40) (by show _ = (40 : Int); omega); rw [hcs hal]; exact V2.no (A6Y hm hnl hm2))
  refine sQ (J8 rfl rfl) rfl (sQ (qM rfl) rfl (sQ (qM rfl) rfl ?_))
  refine sP (A0A rfl rfl (by omega)) rfl rfl ?_
  refine A5G ?_
  refine B4 (rC rfl (A2 rfl rfl)) (rT rfl) ?_
  (obtain rfl : c = 40 := J5 (b := 40) (by show _ = (40 : Int); omega); rw [hcs hal]; exact V2.no (A6Y hm hnl hm2))
  refine H0 ?_
  refine sE (A8 rfl) rfl (fun b500 => ?_)
  refine C7 ?_
  (have hnl : nx < L.length := (by omega); refine sP (R8 rfl rfl rfl (by omega) (W7 hnl)) rfl rfl ?_; rw [ho])
  refine sP (A0h rfl rfl (by omega)) rfl rfl ?_
  refine sQ (qM rfl) rfl (sQ (qM rfl) rfl (sQ (qM rfl) rfl ?_))
  (have hnl : nx < L.length := (by omega); refine sP (R8 rfl rfl rfl (by omega) (W7 hnl)) rfl rfl ?_; rw [ho])
  refine sB (P5 rfl rfl) rfl rfl (fun h516 => ?_) (fun h516 => ?_)
  refine W9 ?_
  refine rS ?_
  refine B4 (rC rfl (A2 rfl rfl)) (rT rfl) ?_
  (obtain rfl : c = 40 := J5 (b := 40) (by show _ = (40 : Int); omega); rw [hcs hal]; exact V2.no (B5q hm hnl hm2 (by rw [ho]; exact J3 (by show _ ≠ (62 : Int); omega)) (by rw [ho]; exact J3 (by show _ ≠ (42 : Int); omega))))
  refine sQ (J8 rfl rfl) rfl (sQ (qM rfl) rfl (sQ (qM rfl) rfl ?_))
  refine sP (V4 rfl rfl (by omega)) rfl rfl ?_
  refine H9 ?_
  refine sQ (P9 rfl rfl) rfl (sB (S4 rfl rfl) rfl rfl (fun h559 => ?_) (fun h559 => ?_))
  refine Y8 ?_
  refine B4 (rC rfl (A2 rfl rfl)) (rT rfl) ?_
  (obtain rfl : c = 40 := J5 (b := 40) (by show _ = (40 : Int); omega); rw [hcs hal]; exact V2.no (A49 hm hnl hm2 (A2i (by omega))))
  refine H9 ?_
  (have hyl : ny < L.length := (by omega); refine sP (R8 rfl rfl rfl (by omega) (W7 hyl)) rfl rfl ?_; rw [hq])
  refine sB (P5 rfl rfl) rfl rfl (fun h588 => ?_) (fun h588 => ?_)
  refine M3 ?_
  refine B4 (rC rfl (A2 rfl rfl)) (rT rfl) ?_
  (obtain rfl : c = 40 := J5 (b := 40) (by show _ = (40 : Int); omega); rw [hcs hal]; exact V2.no (A49 hm hnl hm2 (A1P hyl (by rw [hq]; exact J3 (by show _ ≠ (41 : Int); omega)))))
  refine I6 ?_
  (refine D7 (D1 rfl rfl rfl (by omega) (by unfold maxLen; omega) rfl) rfl ?_; rintro _ ⟨b617, rfl⟩)
  refine sQ (P6 rfl rfl) rfl (sQ (qM rfl) rfl ?_)
  refine sP (K8 (n := 1) rfl rfl (by omega)) rfl rfl ?_
  refine H2 ?_
  refine sQ (qA rfl) rfl (sD (nS ?_))
  (refine L4 (by repeat (first | exact Pk.here | apply Pk.there)) (fun G5 hle5 hsl5 hno5 => ?_))
  refine tT (rB (rS ?_))
  refine B4 (rC rfl (A2 rfl rfl)) (rT rfl) ?_
  (obtain rfl : c = 40 := J5 (b := 40) (by show _ = (40 : Int); omega); rw [hcs hal]; exact V2.yes (A8T ⟨by decide, by decide⟩ (hra.mono hle5) (hrb.mono hle5) hsl5) (B0s hm hnl hm2 (.inr ⟨by rw [ho]; exact J5 (b := 42) (by show _ = (42 : Int); omega), rfl⟩) hyl (by rw [hq]; exact J5 (b := 41) (by show _ = (41 : Int); omega))) (by omega))
  refine M3 ?_
  refine B4 (rC rfl (A2 rfl rfl)) (rT rfl) ?_
  (rw [hcs hal]; exact V2.no (B5o n _ (J3 (by show _ ≠ (63 : Int); omega)) (J3 (by show _ ≠ (73 : Int); omega)) (J3 (by show _ ≠ (66 : Int); omega)) (J3 (by show _ ≠ (40 : Int); omega))))
theorem B5r (acc : Nat) (l : A3) (c : UInt8) : W6 acc (l ++ [c]) = W6 acc l * 10 + (c.toNat - 48) := by unfold W6; rw [List.foldl_append]; rfl
theorem B0t {l : A3} {i : Nat} (h : i < l.length) : W6 0 (l.take (i + 1)) = W6 0 (l.take i) * 10 + ((l.getD i 0).toNat - 48) := by
 rw [List.take_succ_eq_append_getElem h, B5r, List.getD_eq_getElem?_getD, List.getElem?_eq_getElem h]; rfl
theorem B0u : ∀ (l : A3) (acc : Nat), (∀ c ∈ l, J0 c) → W6 acc l + 1 ≤ (acc + 1) * 10 ^ l.length
 | [], acc, _ => by rw [A41]; simp
 | c :: r, acc, h => by
  have hc := h c List.mem_cons_self
  unfold J0 at hc
  have ih := B0u r (acc * 10 + (c.toNat - 48)) (fun x hx => h x (List.mem_cons_of_mem _ hx))
  rw [A2d, List.length_cons, Nat.pow_succ, Nat.mul_comm (10 ^ r.length) 10, ← Nat.mul_assoc]
  exact Nat.le_trans ih (Nat.mul_le_mul_right _ (by omega))
theorem B5s {l : A3} (h : ∀ c ∈ l, J0 c) (i : Nat) : ∀ c ∈ l.take i, J0 c := fun c hc => h c (List.mem_of_mem_take hc)
theorem B5t {l : A3} (h : ∀ c ∈ l, J0 c) {i : Nat} (hi : i < l.length) : J0 (l.getD i 0) := by
 rw [List.getD_eq_getElem?_getD, List.getElem?_eq_getElem hi]; exact h _ (List.getElem_mem hi)
theorem B0v {l : A3} (h : ∀ c ∈ l, J0 c) (hl : l.length ≤ 4) (i : Nat) : W6 0 (l.take i) ≤ 9999 := by
 have h1 := B0u (l.take i) 0 (B5s h i)
 have h2 : (l.take i).length ≤ 4 := by rw [List.length_take]; omega
 have h3 : 10 ^ (l.take i).length ≤ 10 ^ 4 := Nat.pow_le_pow_right (by decide) h2
 omega
theorem B5u (ds : A3) (G : IM) (hd : ∀ c ∈ ds, J0 c) (hl : ds.length ≤ 4) : Fn Tryz.prog 168 [.string (D6 ds)] [] G (L6 (if ds.length = 0 ∨ (ds.getD 0 0 = 48 ∧ 1 < ds.length) then .tuple ⟨[.int .i64 0, .bool false]⟩ else .tuple ⟨[.int .i64 ((W6 0 ds : Nat) : Int), .bool true]⟩) G) := by
 have hsz := N3 ds
 have hg : ∀ i, i < ds.length → 48 ≤ (ds.getD i 0).toNat ∧ (ds.getD i 0).toNat ≤ 57 := fun i hi => B5t hd hi
 have h4 := B0v hd hl
 have hg0 := hg 0
 have ht : ds.take ds.length = ds := List.take_length
 refine B8 Tryz.func168 rfl Tryz.ntmps168 Tryz.results168 rfl ?_
 intro w0
 refine C7 ?_
 refine sQ (P9 rfl rfl) rfl (sB (Y2 rfl rfl) rfl rfl (fun h11 => ?_) (fun h11 => ?_))
 refine sQ (qM rfl) rfl (sQ (qM rfl) rfl ?_)
 (have h0l : 0 < ds.length := (by omega); refine sP (R8 (j := ((0 : Nat) : Int)) rfl rfl rfl (by decide) (W7 h0l)) rfl rfl ?_)
 refine sP (M1 rfl rfl (by omega)) rfl rfl ?_
 refine T5 ?_
 refine sQ (P9 rfl rfl) rfl ?_
 refine sP (M1 rfl rfl (by omega)) rfl rfl ?_
 refine sQ (qM rfl) rfl (sQ (qM rfl) rfl ?_)
 refine sQ (P9 rfl rfl) rfl ?_
 refine sP (A3r rfl rfl (by omega)) rfl rfl ?_
 refine sQ (M4 rfl rfl) rfl (sQ (qM rfl) rfl (sQ (qM rfl) rfl ?_))
 (have h0l : 0 < ds.length := (by omega); refine sP (R8 (j := ((0 : Nat) : Int)) rfl rfl rfl (by decide) (W7 h0l)) rfl rfl ?_)
 refine sB (qE rfl rfl) rfl rfl (fun h43 => ?_) (fun h43 => ?_)
 refine sQ (qM rfl) rfl (sQ (qM rfl) rfl ?_)
 refine sQ (P9 rfl rfl) rfl (sB (Y2 rfl rfl) rfl rfl (fun h47 => ?_) (fun h47 => ?_))
 refine N6 ?_
 refine B4 (rT rfl) (rT rfl) ?_
 (exact ⟨rfl, by rw [if_pos (by first | (left; omega) | (right; exact ⟨J5 (b := 48) (by show _ = (48 : Int); omega), by omega⟩))], rfl⟩)
 refine Y8 ?_
 refine C6 ?_
 (refine N4 (fun (i : Nat) => ⟨[(6, .int .i64 (i : Int)), (5, .int .i64 ((W6 0 (ds.take i) : Nat) : Int)), (4, .bool false), (0, .string (D6 ds))], [], G⟩) (fun i => i ≤ ds.length) (fun i => ds.length - i) 0 ?_ ?_ ?_)
 exact E0
 (exact Nat.zero_le _)
 (rintro (i : Nat) hi; replace hi : i ≤ ds.length := hi; have hgi := hg i; have h4i := h4 i; have hti := @B0t ds i)
 refine tS (tS (tR (sQ (qM rfl) rfl (sQ (qM rfl) rfl ?_))))
 refine sQ (P9 rfl rfl) rfl (sB (L9 rfl rfl) rfl rfl (fun h98 => ?_) (fun h98 => ?_))
 refine sD (nS (qT rfl (tK (nS (tS ?_)))))
 refine C6 ?_
 refine tS (tS (tR (sQ (qM rfl) rfl (sQ (qM rfl) rfl ?_))))
 (have hil : i < ds.length := (by omega); refine sP (R8 rfl rfl rfl (by omega) (W7 hil)) rfl rfl ?_)
 refine sP (V4 rfl rfl (by omega)) rfl rfl ?_
 refine sQ (qM rfl) rfl (sQ (qM rfl) rfl (sQ (qM rfl) rfl ?_))
 (have hil : i < ds.length := (by omega); refine sP (R8 rfl rfl rfl (by omega) (W7 hil)) rfl rfl ?_)
 refine sP (A3r rfl rfl (by omega)) rfl rfl ?_
 refine F8 ?_
 refine sP (A2w (n := 10) rfl rfl (by omega)) rfl rfl ?_
 refine sQ (qM rfl) rfl (sQ (qM rfl) rfl ?_)
 (have hil : i < ds.length := (by omega); refine sP (R8 rfl rfl rfl (by omega) (W7 hil)) rfl rfl ?_)
 (have hgi2 := hgi hil; refine sP (A9V rfl rfl (by omega) (by omega)) rfl rfl ?_; rw [show (((ds.getD i 0).toNat : Nat) : Int) - 48 = (((ds.getD i 0).toNat - 48 : Nat) : Int) by omega])
 refine sP (A3H rfl rfl rfl (by omega) (by omega)) rfl rfl ?_
 (refine sP (K8 (m := W6 0 (ds.take i) * 10) rfl rfl (by omega)) rfl rfl ?_; rw [← hti hil])
 refine K4 ?_
 refine sP (K8 (n := 1) rfl rfl (by omega)) rfl rfl ?_
 refine sQ (qA rfl) rfl (sD ?_)
 refine K5 (i + 1) ?_ ?_ ?_
 exact E0
 (show i + 1 ≤ ds.length; omega)
 (show ds.length - (i + 1) < ds.length - i; omega)
 refine A2t ?_
 refine B4 (rT rfl) (rT rfl) ?_
 (obtain rfl : i = ds.length := (by omega); rw [ht]; exact ⟨rfl, by rw [if_neg (by rintro (h | ⟨h, h'⟩); omega; (have hx : ((ds.getD 0 0).toNat : Int) = 48 := (by rw [h]; rfl); omega))], rfl⟩)
 refine A2t ?_
 refine C6 ?_
 (refine N4 (fun (i : Nat) => ⟨[(6, .int .i64 (i : Int)), (5, .int .i64 ((W6 0 (ds.take i) : Nat) : Int)), (4, .bool false), (0, .string (D6 ds))], [], G⟩) (fun i => i ≤ ds.length) (fun i => ds.length - i) 0 ?_ ?_ ?_)
 exact E0
 (exact Nat.zero_le _)
 (rintro (i : Nat) hi; replace hi : i ≤ ds.length := hi; have hgi := hg i; have h4i := h4 i; have hti := @B0t ds i)
 refine tS (tS (tR (sQ (qM rfl) rfl (sQ (qM rfl) rfl ?_))))
 refine sQ (P9 rfl rfl) rfl (sB (L9 rfl rfl) rfl rfl (fun h209 => ?_) (fun h209 => ?_))
 refine sD (nS (qT rfl (tK (nS (tS ?_)))))
 refine C6 ?_
 refine tS (tS (tR (sQ (qM rfl) rfl (sQ (qM rfl) rfl ?_))))
 (have hil : i < ds.length := (by omega); refine sP (R8 rfl rfl rfl (by omega) (W7 hil)) rfl rfl ?_)
 refine sP (V4 rfl rfl (by omega)) rfl rfl ?_
 refine sQ (qM rfl) rfl (sQ (qM rfl) rfl (sQ (qM rfl) rfl ?_))
 (have hil : i < ds.length := (by omega); refine sP (R8 rfl rfl rfl (by omega) (W7 hil)) rfl rfl ?_)
 refine sP (A3r rfl rfl (by omega)) rfl rfl ?_
 refine F8 ?_
 refine sP (A2w (n := 10) rfl rfl (by omega)) rfl rfl ?_
 refine sQ (qM rfl) rfl (sQ (qM rfl) rfl ?_)
 (have hil : i < ds.length := (by omega); refine sP (R8 rfl rfl rfl (by omega) (W7 hil)) rfl rfl ?_)
 (have hgi2 := hgi hil; refine sP (A9V rfl rfl (by omega) (by omega)) rfl rfl ?_; rw [show (((ds.getD i 0).toNat : Nat) : Int) - 48 = (((ds.getD i 0).toNat - 48 : Nat) : Int) by omega])
 refine sP (A3H rfl rfl rfl (by omega) (by omega)) rfl rfl ?_
 (refine sP (K8 (m := W6 0 (ds.take i) * 10) rfl rfl (by omega)) rfl rfl ?_; rw [← hti hil])
 refine K4 ?_
 refine sP (K8 (n := 1) rfl rfl (by omega)) rfl rfl ?_
 refine sQ (qA rfl) rfl (sD ?_)
 refine K5 (i + 1) ?_ ?_ ?_
 exact E0
 (show i + 1 ≤ ds.length; omega)
 (show ds.length - (i + 1) < ds.length - i; omega)
 refine A2t ?_
 refine B4 (rT rfl) (rT rfl) ?_
 (obtain rfl : i = ds.length := (by omega); rw [ht]; exact ⟨rfl, by rw [if_neg (by rintro (h | ⟨h, h'⟩); omega; (have hx : ((ds.getD 0 0).toNat : Int) = 48 := (by rw [h]; rfl); omega))], rfl⟩)
 refine Y8 ?_
 refine sQ (P9 rfl rfl) rfl ?_
 refine sP (A0G rfl rfl (by omega)) rfl rfl ?_
 refine B1E ?_
 refine B4 (rT rfl) (rT rfl) ?_
 (exact ⟨rfl, by rw [if_pos (by first | (left; omega) | (right; exact ⟨J5 (b := 48) (by show _ = (48 : Int); omega), by omega⟩))], rfl⟩)
def B5v (L : A3) (m : Option (Int × A3)) (G : IM) : IM → Value → List A4 → Prop := fun G' v outs => G' = G ∧ outs = [] ∧ ∃ n next, v = .tuple ⟨[.int .i64 n, .int .i64 next]⟩ ∧ 0 ≤ n ∧ n ≤ 9999 ∧ A6X L m n next
theorem B0w : ∀ l : A3, ∀ c ∈ l.take (Q7 l), J0 c
 | [], c, h => by simp at h
 | d :: r, c, h => by
  rw [Q7] at h
  split at h
  ·rename_i hd
   rw [List.take_succ_cons] at h
   rcases List.mem_cons.1 h with rfl | h
   ·exact hd
   ·exact B0w r c h
  ·simp at h
theorem B0x (l : A3) : Q7 (l.take 4) ≤ 4 ∧ Q7 (l.take 4) ≤ l.length := by
 have := A6P (l.take 4)
 rw [List.length_take] at this
 omega
theorem B5w (l : A3) : ∀ c ∈ l.take (Q7 (l.take 4)), J0 c := by
 have h := B0w (l.take 4)
 rw [List.take_take, Nat.min_eq_left (B0x l).1] at h
 exact h
theorem B5x {L : A3} {a e : Nat} (h1 : a ≤ e) (h2 : e - a ≤ Q7 ((L.drop a).take 4)) (h3 : e < L.length) (h4 : e < a + 4) (hd : J0 (L.getD e 0)) : e + 1 - a ≤ Q7 ((L.drop a).take 4) := by
 have hl : e - a < ((L.drop a).take 4).length := by rw [List.length_take, List.length_drop]; omega
 have hx : ((L.drop a).take 4)[e - a] = L.getD e 0 := by
  rw [List.getElem_take, List.getElem_drop, List.getD_eq_getElem?_getD, List.getElem?_eq_getElem h3]
  simp only [Option.getD_some]
  congr 1; omega
 have := A6N h2 hl (by rw [hx]; exact hd)
 omega
theorem B5y {L : A3} {a e : Nat} (h1 : a ≤ e) (h2 : e - a ≤ Q7 ((L.drop a).take 4)) (hd : e < L.length → e < a + 4 → ¬J0 (L.getD e 0)) : e - a = Q7 ((L.drop a).take 4) := by
 refine A6O h2 (fun hl => ?_)
 have hl2 := hl
 rw [List.length_take, List.length_drop] at hl2
 have h3 : e < L.length := by omega
 have hx : ((L.drop a).take 4)[e - a] = L.getD e 0 := by
  rw [List.getElem_take, List.getElem_drop, List.getD_eq_getElem?_getD, List.getElem?_eq_getElem h3]
  simp only [Option.getD_some]
  congr 1; omega
 rw [hx]; exact hd h3 (by omega)
theorem A2j {l : A3} {m : Nat} (h : 0 < m) : (l.take m).getD 0 0 = l.headD 0 := by
 cases l with
 | nil => simp
 | cons c r =>
  obtain ⟨m, rfl⟩ : ∃ k, m = k + 1 := ⟨m - 1, by omega⟩
  rfl
theorem A60 (L : A3) (hL : L.length ≤ 4294967296) (a : Nat) (G : IM) (ha : a ≤ L.length) : Fn Tryz.prog 105 [.string (D6 L), .int .i64 (a : Int)] [] G (B5v L (A0E (L.drop a)) G) := by
 have hsz := N3 L
 obtain ⟨m, hm⟩ : ∃ m, Q7 ((L.drop a).take 4) = m := ⟨_, rfl⟩
 have hm4 := B0x (L.drop a)
 have hmd := B5w (L.drop a)
 have hgo := @B5x L a
 have hst := @B5y L a
 rw [hm] at hm4 hmd
 simp only [hm] at hgo hst
 rw [List.length_drop] at hm4
 have hlen : ((L.drop a).take m).length = m := by rw [List.length_take, List.length_drop]; omega
 have hN := B5u ((L.drop a).take m) G hmd (by omega)
 rw [hlen] at hN
 have hr : A0E (L.drop a) = if m = 0 ∨ ((L.drop a).headD 0 = 48 ∧ 1 < m) then none else some (((W6 0 ((L.drop a).take m) : Nat) : Int), (L.drop a).drop m) := by unfold A0E; simp only [hm]
 have h99 : W6 0 ((L.drop a).take m) ≤ 9999 := by
  have := B0v hmd (by omega) ((L.drop a).take m).length
  rwa [List.take_length] at this
 rw [hr]
 have hdd : (L.drop a).drop m = L.drop (a + m) := by rw [List.drop_drop]
 refine B8 Tryz.func105 rfl Tryz.ntmps105 Tryz.results105 rfl ?_
 intro w0
 refine I5 ?_
 refine C6 ?_
 (refine N4 (fun (e : Nat) => ⟨[(6, .int .i64 (e : Int)), (0, .string (D6 L)), (1, .int .i64 (a : Int))], [], G⟩) (fun e => a ≤ e ∧ e - a ≤ m) (fun e => a + m - e) a ?_ ?_ ?_)
 exact E0
 (exact ⟨Nat.le_refl _, by omega⟩)
 (rintro (e : Nat) ⟨he1, he2⟩; have hgo2 := @hgo e he1 he2; have hst2 := @hst e he1 he2; unfold J0 at hgo2 hst2)
 refine tS (tS (tR (sQ (qM rfl) rfl (sQ (qM rfl) rfl ?_))))
 refine sQ (P9 rfl rfl) rfl (sB (L9 rfl rfl) rfl rfl (fun h25 => ?_) (fun h25 => ?_))
 refine sQ (qM rfl) rfl (sQ (qM rfl) rfl (sQ (qM rfl) rfl ?_))
 refine sP (N0 rfl rfl (by omega) (by omega)) rfl rfl ?_
 refine sB (L9 rfl rfl) rfl rfl (fun h30 => ?_) (fun h30 => ?_)
 refine H9 ?_
 (have hel : e < L.length := (by omega); refine sP (R8 rfl rfl rfl (by omega) (W7 hel)) rfl rfl ?_)
 refine sB (S4 rfl rfl) rfl rfl (fun h36 => ?_) (fun h36 => ?_)
 refine H9 ?_
 (have hel : e < L.length := (by omega); refine sP (R8 rfl rfl rfl (by omega) (W7 hel)) rfl rfl ?_)
 refine sB (W8 rfl rfl) rfl rfl (fun h42 => ?_) (fun h42 => ?_)
 refine sQ (J8 rfl rfl) rfl (sD (nS (qT rfl (tK (nS ?_)))))
 refine C6 ?_
 refine tR (sQ (qM rfl) rfl ?_)
 refine sP (K8 (n := 1) rfl rfl (by omega)) rfl rfl ?_
 refine sQ (qA rfl) rfl (sD (O3 ?_))
 (have hg3 := hgo2 hel (by omega) (by omega); refine K5 (e + 1) ?_ ?_ ?_)
 exact E0
 (show a ≤ e + 1 ∧ e + 1 - a ≤ m; omega)
 (show a + m - (e + 1) < a + m - e; omega)
 refine O8 ?_
 (have hem := hst2 (fun h1 h2 => by omega); refine sP (A0Q (l := a) (h := e) rfl rfl rfl rfl (by omega) (by omega)) rfl rfl ?_; rw [A0V, hem])
 focus (refine H7 rfl hN rfl rfl ?_; by_cases hcc : m = 0 ∨ (((L.drop a).take m).getD 0 0 = 48 ∧ 1 < m); (rw [if_pos hcc]); rotate_left; (rw [if_neg hcc]); rotate_left)
 refine A0I ?_
 refine B4 (rT rfl) (rT rfl) ?_
 (exact ⟨rfl, rfl, 0, -1, rfl, by omega, by omega, .inl ⟨by rw [if_pos (hcc.imp id (fun h => ⟨by rw [← A2j (m := m) (by omega)]; exact h.1, h.2⟩))], rfl⟩⟩)
 refine A1S ?_
 refine B4 (rT rfl) (rT rfl) ?_
 (exact ⟨rfl, rfl, _, _, rfl, by omega, by omega, .inr ⟨e, by rw [if_neg (fun h => hcc (h.imp id (fun h => ⟨by rw [A2j (by omega)]; exact h.1, h.2⟩))), hdd, show a + m = e by omega], rfl, by omega⟩⟩)
 refine A0j ?_
 (have hem := hst2 (fun h1 h2 => by omega); refine sP (A0Q (l := a) (h := e) rfl rfl rfl rfl (by omega) (by omega)) rfl rfl ?_; rw [A0V, hem])
 focus (refine H7 rfl hN rfl rfl ?_; by_cases hcc : m = 0 ∨ (((L.drop a).take m).getD 0 0 = 48 ∧ 1 < m); (rw [if_pos hcc]); rotate_left; (rw [if_neg hcc]); rotate_left)
 refine A0I ?_
 refine B4 (rT rfl) (rT rfl) ?_
 (exact ⟨rfl, rfl, 0, -1, rfl, by omega, by omega, .inl ⟨by rw [if_pos (hcc.imp id (fun h => ⟨by rw [← A2j (m := m) (by omega)]; exact h.1, h.2⟩))], rfl⟩⟩)
 refine A1S ?_
 refine B4 (rT rfl) (rT rfl) ?_
 (exact ⟨rfl, rfl, _, _, rfl, by omega, by omega, .inr ⟨e, by rw [if_neg (fun h => hcc (h.imp id (fun h => ⟨by rw [A2j (by omega)]; exact h.1, h.2⟩))), hdd, show a + m = e by omega], rfl, by omega⟩⟩)
 refine A1S ?_
 (have hem := hst2 (fun h1 h2 => by omega); refine sP (A0Q (l := a) (h := e) rfl rfl rfl rfl (by omega) (by omega)) rfl rfl ?_; rw [A0V, hem])
 focus (refine H7 rfl hN rfl rfl ?_; by_cases hcc : m = 0 ∨ (((L.drop a).take m).getD 0 0 = 48 ∧ 1 < m); (rw [if_pos hcc]); rotate_left; (rw [if_neg hcc]); rotate_left)
 refine A0I ?_
 refine B4 (rT rfl) (rT rfl) ?_
 (exact ⟨rfl, rfl, 0, -1, rfl, by omega, by omega, .inl ⟨by rw [if_pos (hcc.imp id (fun h => ⟨by rw [← A2j (m := m) (by omega)]; exact h.1, h.2⟩))], rfl⟩⟩)
 refine A1S ?_
 refine B4 (rT rfl) (rT rfl) ?_
 (exact ⟨rfl, rfl, _, _, rfl, by omega, by omega, .inr ⟨e, by rw [if_neg (fun h => hcc (h.imp id (fun h => ⟨by rw [A2j (by omega)]; exact h.1, h.2⟩))), hdd, show a + m = e by omega], rfl, by omega⟩⟩)
 refine W9 ?_
 refine sQ (qM rfl) rfl ?_
 (have hem := hst2 (fun h1 h2 => by omega); refine sP (A0Q (l := a) (h := e) rfl rfl rfl rfl (by omega) (by omega)) rfl rfl ?_; rw [A0V, hem])
 focus (refine H7 rfl hN rfl rfl ?_; by_cases hcc : m = 0 ∨ (((L.drop a).take m).getD 0 0 = 48 ∧ 1 < m); (rw [if_pos hcc]); rotate_left; (rw [if_neg hcc]); rotate_left)
 refine A0I ?_
 refine B4 (rT rfl) (rT rfl) ?_
 (exact ⟨rfl, rfl, 0, -1, rfl, by omega, by omega, .inl ⟨by rw [if_pos (hcc.imp id (fun h => ⟨by rw [← A2j (m := m) (by omega)]; exact h.1, h.2⟩))], rfl⟩⟩)
 refine A1S ?_
 refine B4 (rT rfl) (rT rfl) ?_
 (exact ⟨rfl, rfl, _, _, rfl, by omega, by omega, .inr ⟨e, by rw [if_neg (fun h => hcc (h.imp id (fun h => ⟨by rw [A2j (by omega)]; exact h.1, h.2⟩))), hdd, show a + m = e by omega], rfl, by omega⟩⟩)
end Gw
end Go.Proofs.YtgodjiieijekiaaGreatDoor
