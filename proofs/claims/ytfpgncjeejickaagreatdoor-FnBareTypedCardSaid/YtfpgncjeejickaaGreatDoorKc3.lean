/-
  The reference model's TermValid. slices.Clone of numbers, paths, AllPaths. AllPaths. append of a slice in memory that no longer changes, empty or not. The reference model's paths. The reference model's AllPaths. The law that AllPaths gives what the reference model gives: its walk. Nodes at paths, casts by their labels. The node of a term at a path. Where ways meet again. The reference model's drawn types: what they are made of, and how big they are. The reference model's drawn types, changed at random. The reference model's drawn types, changed at random. Terms without casts and types, in plain words. Strings: cut, put together, compared. The reference model's drawn terms: what they are made of, and how big they are. The reference model's drawn terms. The reference model's source is opened; drawn closed terms and valid terms. The reference model's functions on types: they end, and what they give has operands as it must. The laws' reading of marks in types and terms. Contexts of bindings: looked up, made longer. The reference model's typing: it ends, and what it gives is a type whose nodes have their operands, not wider than the term is big. The reference model's terms that are sometimes made invalid; drawn arguments. Slices of slices; slices of the call's own opened as blocks; one element of a slice of terms replaced. Casts put in: one cast, the types that are asked for. InsertCasts of the reference model: it ends, and what it gives is not much bigger than what it is given. Which names are free, at which place a name is bound: what comes out is small. Evaluation of terms with casts, in plain words.
-/
import Derived.Test.YtfpgncjeejickaaGreatDoorKc2
import Derived.Test.YtfpgncjeejickaaGreatDoorKc1
import Derived.Test.YtfpgncjeejickaaGreatDoorKc0
import Derived.Laws.Slices
set_option linter.unusedVariables false
set_option linter.unusedSimpArgs false
set_option maxHeartbeats 0
set_option maxRecDepth 100000
set_option synthInstance.maxSize 4000
set_option synthInstance.maxHeartbeats 0
namespace Go.Proofs.YtfpgncjeejickaaGreatDoor
open Go Go.RowKit
namespace Gw
theorem A0a (t : Tm) : N9 t = true ↔ J1 12 14 t 1 = true ∧ C6 t ≤ 30 := by
 have := A6g 30 12 14 t 1 0 (by omega)
 rw [N9, this]
 constructor
 ·rintro ⟨a, b⟩; exact ⟨a, by omega⟩
 ·rintro ⟨a, b⟩; exact ⟨a, by omega⟩
theorem B23 : ∀ (t : Tm) (d : Int) (G : IM) (cells : List Value), 0 ≤ d ∧ d ≤ 12 → A8 G t cells →
  Fn Tryz.prog 187 [.agg ⟨cells⟩, .int .i64 d] [] G (H0 (.bool (J1 12 14 t (13 - d))) G) := by
 refine Tm.ind fun k nm num ty fr lb ks ih d G cells hd hr => ?_
 have hr0 := hr
 have hne := fun h : k ≠ 14 => @A8w k nm num ty fr lb ks.length h
 have har := fun h : T8 k nm num ty fr lb ks.length = true => (U8.1 h).1
 obtain ⟨R, hR⟩ : ∃ R, T8 k nm num ty fr lb ks.length = R := ⟨_, rfl⟩
 rw [hR] at hne har
 have hl2 := A8v k nm num ty fr lb ks G cells hr0 R
 have hk1 := A4H k G
 obtain ⟨tk, tks⟩ := ty
 obtain ⟨fk, fks⟩ := fr
 obtain ⟨pt, ct, pf, cf, p, c, es, rfl, hk, hnum, hlb, hty, hfr, hsl, hkl⟩ := hr.open9
 have hn := hsl.le
 clear hr hr0
 refine B2 Tryz.func187 rfl Tryz.ntmps187 Tryz.results187 rfl ?_
 intro w0
 refine tS (tR ?_)
 refine sE (B9 rfl rfl) rfl (fun b3 => ?_)
 refine sQ (qA rfl) rfl (sD (nS (tS (tS ?_))))
 refine E1 E2 rfl ?_
 refine J5 (i := 0) (l' := [tt,ff,ff,ff,ff,ff,ff,ff,ff,ff,ff,ff,ff,ff,ff,ff,ff,ff,ff,ff,ff]) rfl D5 (qM rfl) rfl (by kernel_rfl) rfl rfl ?_
 refine A0K (i := 1) (l' := [tt,tt,ff,ff,ff,ff,ff,ff,ff,ff,ff,ff,ff,ff,ff,ff,ff,ff,ff,ff,ff]) rfl D5 (K6 rfl rfl) rfl (by kernel_rfl) rfl rfl (fun h11 => ?_) (fun h11 => ?_)
 refine aP 2 rfl (qM rfl) rfl ?_
 refine B5 3 rfl rfl rfl ?_
 refine B5 4 rfl rfl rfl ?_
 refine B5 6 rfl rfl rfl ?_
 refine B5 7 rfl rfl rfl ?_
 refine B5 8 rfl rfl rfl ?_
 refine B5 5 rfl rfl rfl ?_
 refine B5 9 rfl rfl rfl ?_
 refine aP 10 rfl (L4 rfl rfl) rfl ?_
 refine aP 11 rfl (qM rfl) rfl ?_
 refine B5 12 rfl rfl rfl ?_
 refine B5 13 rfl rfl rfl ?_
 refine B5 14 rfl rfl rfl ?_
 refine aP 15 rfl (L4 rfl rfl) rfl ?_
 refine aP 16 rfl (qM rfl) rfl ?_
 refine B5 17 rfl rfl rfl ?_
 refine B5 18 rfl rfl rfl ?_
 refine B5 19 rfl rfl rfl ?_
 refine aP 20 rfl (L4 rfl rfl) rfl ?_
 refine I6 ?_
 (rw [A1h (by rw [hR]; first | omega | exact .inr (.inr (by assumption)) | exact .inr (.inr (by cases R with | false => rfl | true => exact absurd (har rfl) (by omega))))]; exact ⟨rfl, rfl, rfl⟩)
 refine aP 2 rfl (qM rfl) rfl ?_
 refine aP 3 rfl (B1 rfl) rfl ?_
 refine aL 4 rfl (C0 rfl rfl) rfl ?_
 refine aP 6 rfl (B1 rfl) rfl ?_
 refine aL 7 rfl (C0 rfl rfl) rfl ?_
 refine aP 8 rfl (pLn rfl rfl) rfl ?_
 refine A3 5 ?_
 refine P6 rfl rfl (hk1) rfl rfl rfl ?_
 refine A0K (i := 9) (l' := [tt,tt,tt,tt,tt,tt,tt,tt,tt,tt,ff,ff,ff,ff,ff,ff,ff,ff,ff,ff,ff]) rfl D5 (M7 rfl rfl) rfl (by kernel_rfl) rfl rfl (fun h51 => ?_) (fun h51 => ?_)
 refine aP 10 rfl (O3 rfl rfl) rfl ?_
 refine aP 11 rfl (qM rfl) rfl ?_
 refine B5 12 rfl rfl rfl ?_
 refine B5 13 rfl rfl rfl ?_
 refine B5 14 rfl rfl rfl ?_
 refine aP 15 rfl (L4 rfl rfl) rfl ?_
 refine aP 16 rfl (qM rfl) rfl ?_
 refine B5 17 rfl rfl rfl ?_
 refine B5 18 rfl rfl rfl ?_
 refine B5 19 rfl rfl rfl ?_
 refine aP 20 rfl (L4 rfl rfl) rfl ?_
 refine I6 ?_
 (rw [A1h (by rw [hR]; first | omega | exact .inr (.inr (by assumption)) | exact .inr (.inr (by cases R with | false => rfl | true => exact absurd (har rfl) (by omega))))]; exact ⟨rfl, rfl, rfl⟩)
 refine aP 10 rfl (O3 rfl rfl) rfl ?_
 refine aP 11 rfl (qM rfl) rfl ?_
 refine aP 12 rfl (B1 rfl) rfl ?_
 refine aL 13 rfl (C0 rfl rfl) rfl ?_
 refine A0K (i := 14) (l' := [tt,tt,tt,tt,tt,tt,tt,tt,tt,tt,tt,tt,tt,tt,tt,ff,ff,ff,ff,ff,ff]) rfl D5 (qE rfl rfl) rfl (by kernel_rfl) rfl rfl (fun h79 => ?_) (fun h79 => ?_)
 refine aP 15 rfl (O3 rfl rfl) rfl ?_
 refine aP 16 rfl (qM rfl) rfl ?_
 refine B5 17 rfl rfl rfl ?_
 refine B5 18 rfl rfl rfl ?_
 refine B5 19 rfl rfl rfl ?_
 refine aP 20 rfl (L4 rfl rfl) rfl ?_
 refine I6 ?_
 (rw [A1h (by rw [hR]; first | omega | exact .inr (.inr (by assumption)) | exact .inr (.inr (by cases R with | false => rfl | true => exact absurd (har rfl) (by omega))))]; exact ⟨rfl, rfl, rfl⟩)
 refine aP 15 rfl (O3 rfl rfl) rfl ?_
 refine aP 16 rfl (qM rfl) rfl ?_
 refine aL 17 rfl (A2 rfl rfl) rfl ?_
 refine A3 18 ?_
 refine U7 rfl rfl (hl2 (hne (by omega) (by omega))) rfl rfl rfl (fun h102 => ?_) (fun h102 => ?_)
 refine aP 19 rfl (Z3 rfl) rfl ?_
 refine aP 20 rfl (O3 rfl rfl) rfl ?_
 refine I6 ?_
 refine B4 ?_
 (refine K9 (fun (i : Nat) => ⟨[(5, .int .i64 i), (2, .pointer (some ⟨b3, 0, none⟩)), (1, .int .i64 d)], [.blk b3 [.int .i64 k, .string nm, .int .i64 num, .int .i64 tk, .slice pt tks.length ct, .int .i64 fk, .slice pf fks.length cf, .int .i64 lb, .slice p ks.length c]], G⟩) (fun i => i ≤ ks.length ∧ ∀ j (h : j < ks.length), j < i → J1 12 14 ks[j] (13 - d + 1) = true) (fun i => ks.length - i) 0 ?_ ?_ ?_)
 exact D1
 exact ⟨by omega, by omega⟩
 (rintro i ⟨hi, hf⟩)
 refine C2 ?_
 refine sB (K6 rfl rfl) rfl rfl (fun h128 => ?_) (fun h128 => ?_)
 refine sD (nS (qT rfl (tK (nS (tS ?_)))))
 refine B4 ?_
 refine R1 ?_
 (obtain ⟨b, o, e, rfl, hl, hat, hre, hgb⟩ := hsl.kidTm hkl (i := i) (by omega) (by omega); refine sP (B3 rfl rfl rfl (by omega)) rfl rfl ?_)
 refine sL (A1 rfl rfl (hat _) hl) rfl rfl ?_
 refine sQ (qM rfl) rfl ?_
 refine sP (P5 rfl rfl (by omega) (by omega)) rfl rfl ?_
 (have hih := ih ks[i] (List.getElem_mem (by omega)) (d - 1) G _ (by omega) hre; rw [show 13 - (d - 1) = 13 - d + 1 by omega] at hih; refine D8 rfl hih rfl rfl (fun h145 => ?_) (fun h145 => ?_))
 refine D4 ?_
 refine sP (K2 rfl rfl (by omega) (by omega)) rfl rfl ?_
 refine sQ (qA rfl) rfl (sD ?_)
 refine K7 (i + 1) ?_ ?_ ?_
 exact D1
 exact ⟨by omega, fun j hj hji => by (by_cases he : j = i; (subst he; assumption); exact hf j hj (by omega))⟩
 omega
 refine K4 ?_
 (rw [A0O (by omega) (by omega) (hR.trans (by assumption)), A6a (i := i) (by omega) (by assumption)]; exact ⟨rfl, rfl, rfl⟩)
 refine H9 ?_
 (rw [A0O (by omega) (by omega) (hR.trans (by assumption)), (A05 12 14 ks _).2 (fun j hj => hf j hj (by omega))]; exact ⟨rfl, rfl, rfl⟩)
 refine aP 19 rfl (pNf rfl) rfl ?_
 refine aP 20 rfl (O3 rfl rfl) rfl ?_
 refine I6 ?_
 (rw [A1h (by rw [hR]; first | omega | exact .inr (.inr (by assumption)) | exact .inr (.inr (by cases R with | false => rfl | true => exact absurd (har rfl) (by omega))))]; exact ⟨rfl, rfl, rfl⟩)
theorem A4L (t : Tm) (G : IM) (cells : List Value) (hcnt : C6 t ≤ 4294967296) (hr : A8 G t cells) :
  Fn Tryz.prog 132 [.agg ⟨cells⟩] [] G (H0 (.bool (N9 t)) G) := by
 have hl := hr.len
 have hv := B23 t 12 G cells (by omega) hr
 have hc := fun h => A8F 12 14 t 12 G cells (by omega) h hcnt hr
 have hi := A0a t
 obtain ⟨R, hR⟩ : ∃ R, N9 t = R := ⟨_, rfl⟩
 rw [hR] at hi ⊢
 refine B2 Tryz.func132 rfl Tryz.ntmps132 Tryz.results132 rfl ?_
 intro w0
 refine tS (tR ?_)
 refine sE (B9 rfl rfl) rfl (fun b3 => ?_)
 refine sQ (qA rfl) rfl (sD (nS (tS (tR ?_))))
 refine sL (A1 rfl rfl (A9 (by repeat first | exact mH | apply mT)) (by assumption)) rfl rfl ?_
 refine D8 rfl (hv) rfl rfl (fun h10 => ?_) (fun h10 => ?_)
 refine sQ (qM rfl) rfl ?_
 refine sL (A1 rfl rfl (A9 (by repeat first | exact mH | apply mT)) (by assumption)) rfl rfl ?_
 refine H3 rfl (hc (by assumption)) rfl rfl ?_
 refine sB (A0o rfl rfl) rfl rfl (fun h14 => ?_) (fun h14 => ?_)
 refine J8 ?_
 exact ⟨rfl, by rw [hi.2 ⟨by assumption, by omega⟩], rfl⟩
 refine J8 ?_
 exact ⟨rfl, by (cases R with | false => rfl | true => (exfalso; have h0 := hi.1 rfl; first | omega | simp_all)), rfl⟩
 refine I9 ?_
 exact ⟨rfl, by (cases R with | false => rfl | true => (exfalso; have h0 := hi.1 rfl; first | omega | simp_all)), rfl⟩
theorem Sw.same {hp hp' : List A4} {e : A4} (h : Sw hp e e hp') : hp' = hp := by
 generalize he : e = e' at h
 have : ∀ {hp e e' hp'}, Sw hp e e' hp' → e = e' → hp' = hp := by
  intro hp e e' hp' h
  induction h with
  | here => rintro rfl; rfl
  | there _ ih => intro he; rw [ih he]
 subst he
 exact this h rfl
section
variable {P : Program} {Γ : M0} {env : M4} {hp : List A4} {G : IM} {ty : TypeId}
theorem A8G {d : Nat} {x y : Operand} {t el : TypeId} {i : L8} {sz by' : Nat} {zs : List Value} [hI : I1 P t i] {ie : L8} [hEl : I1 P el ie] (hd' : i.desc = .slice el) [hE : X5 P el sz by' zs] {p q : Option Addr} {c n m c2 : Nat} {cs news : List Value} {hp' : Option Addr → Nat → List A4}
  (hd : Nat.blt d Γ.n = true) (hx : evo env x = some (.slice p n c)) (hy : evo env y = some (.slice q m c2)) (hsz : Nat.blt 0 sz = true)
  (hm : ∀ p' c', Sw hp (.slc p c el sz n cs) (.slc p' c' el sz (n + m) (cs ++ news)) (hp' p' c'))
  (hS : Sl G q m c2 sz news) (h1 : ∀ u ∈ news, u.oneCell' = true) (hc : n ≤ c)
  (h63 : n + m ≤ maxLen) (hb : (n + m) * by' ≤ 140737488355328) :
  X4 P Γ ⟨env, hp, G⟩ (some d) (.call ⟨.builtin .append, ⟨[x, y]⟩, ⟨[t, t]⟩⟩) ty (J4 p) (fun σ' => ∃ p' c', σ' = ⟨(d, .slice p' (n + m) c') :: env, hp' p' c', G⟩) := by
 obtain ⟨hl, _, _, hat⟩ := hS
 rcases Nat.eq_zero_or_pos m with rfl | hm0
 ·obtain rfl : news = [] := List.length_eq_zero_iff.1 (by omega)
  have hpu := B11 (P := P) (Γ := Γ) (hp := hp) (G := G) (ty := ty) (t := t) (el := el) hd' hx hy hc
  refine ⟨fun a w hs pos af gd Q next hn => ?_⟩
  simp only [Oper.wp, hpu.run a w hs, Oper.upon]
  refine hn _ _ _ (hs.put d _ (by simpa using hd) hs.res) (Ext.refl _ _) ⟨p, c, ?_⟩
  have h0 := hm p c
  simp only [Nat.add_zero, List.append_nil] at h0 ⊢
  rw [h0.same]
 ·obtain ⟨b, o, full, rfl, hg, hv⟩ := hat.resolve_left (by omega)
  exact A5M hd' hd hx hy hsz hm (A4j hg hv) hl h1 h63 hb
variable {K : Po} {ops : Array Oper} {rest : List Oper} {pos : String} {af : Array Edge} {gd : Option (Nat × Bool)}
theorem A3M {d : Nat} {x y : Operand} {t el : TypeId} {i : L8} {sz by' : Nat} {zs : List Value} [hI : I1 P t i] {ie : L8} [hEl : I1 P el ie] [hE : X5 P el sz by' zs] {p q : Option Addr} {c n m c2 : Nat} {cs news : List Value} {hp' : Option Addr → Nat → List A4}
  (hd' : i.desc = .slice el) (hd : Nat.blt d Γ.n = true) (hx : evo env x = some (.slice p n c)) (hy : evo env y = some (.slice q m c2)) (hsz : Nat.blt 0 sz = true)
  (hm : ∀ p' c', Sw hp (.slc p c el sz n cs) (.slc p' c' el sz (n + m) (cs ++ news)) (hp' p' c'))
  (hS : Sl G q m c2 sz news) (h1 : ∀ u ∈ news, u.oneCell' = true) (hc : n ≤ c)
  (h63 : n + m ≤ maxLen) (hb : (n + m) * by' ≤ 140737488355328) (hw : M2 ops env gd = some true)
  (k : ∀ p' c', I0 P Γ ops rest K ⟨(d, .slice p' (n + m) c') :: env, hp' p' c', G⟩) : I0 P Γ ops (⟨some d, .call ⟨.builtin .append, ⟨[x, y]⟩, ⟨[t, t]⟩⟩, ty, pos, af, gd⟩ :: rest) K ⟨env, hp, G⟩ :=
 L9 (A8G hd' hd hx hy hsz hm hS h1 hc h63 hb) hw (by rintro _ ⟨p', c', rfl⟩; exact k p' c')
theorem A2V {H : List (Nat × Nat)} {fuel : Nat} {listed l' : List Bool} {j d : Nat} {cs : List Value} {x y : Operand} {t el : TypeId} {i : L8} {sz by' : Nat} {zs : List Value} [hI : I1 P t i] {ie : L8} [hEl : I1 P el ie] [hE : X5 P el sz by' zs] {p q : Option Addr} {c n m c2 : Nat} {news : List Value} {hp' : Option Addr → Nat → List A4} {H' : List (Nat × Nat)}
  (hi : ops[j]? = some ⟨some d, .call ⟨.builtin .append, ⟨[x, y]⟩, ⟨[t, t]⟩⟩, ty, pos, af, gd⟩) (hd' : i.desc = .slice el)
  (hd : Nat.blt d Γ.n = true) (hx : evo env x = some (.slice p n c)) (hy : evo env y = some (.slice q m c2)) (hsz : Nat.blt 0 sz = true)
  (hm : ∀ p' c', Sw hp (.slc p c el sz n cs) (.slc p' c' el sz (n + m) (cs ++ news)) (hp' p' c'))
  (hS : Sl G q m c2 sz news) (h1 : ∀ u ∈ news, u.oneCell' = true) (hc : n ≤ c)
  (h63 : n + m ≤ maxLen) (hb : (n + m) * by' ≤ 140737488355328) (hw : M2 ops env gd = some true) (hl : listed.set j true = l')
  (hok : A6 ops j hp G (.slc p c el sz n cs) H H')
  (k : ∀ p' c', O0 P Γ ops K H' fuel l' ⟨(d, .slice p' (n + m) c') :: env, hp' p' c', G⟩) : W0 P Γ ops K H fuel listed j ⟨env, hp, G⟩ :=
 A3v hi (A8G hd' hd hx hy hsz hm hS h1 hc h63 hb) hw hl (fun _ _ hs => hok.spec hs) hok.filter (by rintro _ ⟨p', c', rfl⟩; exact k p' c')
theorem A0b {H H' : List (Nat × Nat)} {fuel : Nat} {listed l' : List Bool} {j d : Nat} {f : FuncId} [hF : B0 P f] {xs : List Operand} {ats : Array TypeId} {vs : List Value} {e : A4} {rst : List A4} {post : IM → Value → List A4 → Prop}
  (hi : ops[j]? = some ⟨some d, .call ⟨.value (.func f), ⟨xs⟩, ats⟩, ty, pos, af, gd⟩) (hx : evl env xs = some vs) (h : Fn P f vs [e] G post) (hp' : hp.Perm ([e] ++ rst)) (hw : M2 ops env gd = some true) (hd : Nat.blt d Γ.n = true) (hl : listed.set j true = l')
  (hok : A6 ops j hp G e H H')
  (k : ∀ v G' outs, B6 G G' → post G' v outs → O0 P Γ ops K H' fuel l' ⟨(d, v) :: env, outs ++ rst, G'⟩) : W0 P Γ ops K H fuel listed j ⟨env, hp, G⟩ :=
 A3v hi (A4m hx h hp' hd) hw hl (fun _ _ hs => by simpa [Fp] using hok.spec hs) hok.filter (by rintro _ ⟨v, G', outs, rfl, hle, hq⟩; exact k v G' outs hle hq)
end
section forget
variable {P : Program} {Γ : M0} {env : M4} {hp : List A4} {G : IM} {K : Po} {ops : Array Oper} {rest : List Oper} {ty : TypeId} {pos : String} {af : Array Edge} {gd : Option (Nat × Bool)}
end forget
def tAt : Tm → List Int → Option Tm
 | t, [] => some t
 | .mk _ _ _ _ _ _ ks, i :: is => if h : 0 ≤ i ∧ i < ks.length then tAt (ks[i.toNat]'(by omega)) is else none
def z9 : List Value := [.int .i64 0, .string ⟨⟨[]⟩⟩, .int .i64 0, .int .i64 0, .slice none 0 0, .int .i64 0, .slice none 0 0, .int .i64 0, .slice none 0 0]
def AtP (t : Tm) (path : List Int) (G : IM) : IM → Value → List A4 → Prop := fun G' v outs => G' = G ∧ outs = [] ∧
 ((∃ x cells, tAt t path = some x ∧ A8 G x cells ∧ v = .tuple ⟨[.agg ⟨cells⟩, .bool true]⟩) ∨ (tAt t path = none ∧ v = .tuple ⟨[.agg ⟨z9⟩, .bool false]⟩))
def F4 : Tm := .mk 0 ⟨⟨[]⟩⟩ 0 (.mk 0 []) (.mk 0 []) 0 []
theorem O5.zero (G : IM) : O5 G F4 z9 [] := by
 simp only [F4, O5, P1, N8, M3, z9]
 refine ⟨[.int .i64 0, .slice none 0 0], [.int .i64 0, .slice none 0 0], none, 0, [], [], [], [], rfl, ⟨by omega, by omega⟩, ⟨by omega, by omega⟩, ⟨by omega, by omega⟩, ?_, ?_, D0.nil _ _, ⟨rfl, rfl⟩, rfl, by simp [J4]⟩
 ·exact ⟨none, 0, [], [], rfl, ⟨by omega, by omega⟩, D0.nil _ _, ⟨rfl, rfl⟩, rfl, by simp [J4]⟩
 ·exact ⟨none, 0, [], [], rfl, ⟨by omega, by omega⟩, D0.nil _ _, ⟨rfl, rfl⟩, rfl, by simp [J4]⟩
def B7O (t : Tm) (path : List Int) : Tm × Bool := if J3 t = true then (match tAt t path with | some x => (x, true) | none => (F4, false)) else (F4, false)
def TbP (r : Tm × Bool) (G : IM) : IM → Value → List A4 → Prop := L5 fun G' v => ∃ cells F, v = .tuple ⟨[.agg ⟨cells⟩, .bool r.2]⟩ ∧ O5 (C1 G' G) r.1 cells F ∧ F.Nodup
theorem TbP.mk {r : Tm × Bool} {x : Tm} {b : Bool} {G G' : IM} {cells : List Value} {F : List Nat} (h : r = (x, b)) (hs : O5 (C1 G' G) x cells F) (hn : F.Nodup) : TbP r G G' (.tuple ⟨[.agg ⟨cells⟩, .bool b]⟩) [] := by
 subst h; exact ⟨rfl, cells, F, rfl, hs, hn⟩
structure A4M {ι : Type} (S : ι → Sy) (φ : ι → Prop) (e : Exit) (σ : Sy) : Prop where
 run : match e with
  | .normal => ∃ i, φ i ∧ Sub σ (S i)
  | _ => False
section cut
variable {P : Program} {Γ : M0} {K : Po} {σ : Sy} {ι : Type}
theorem A0k {c y : Code} (S : ι → Sy) (φ : ι → Prop) (h : I8 P Γ c (A4M S φ) σ) (k : ∀ i, φ i → I8 P Γ y K (S i)) : I8 P Γ c (A0U P Γ y K) σ := by
 refine tri_post h ?_
 rintro e σ ⟨hk⟩
 cases e with
 | normal => obtain ⟨i, hi, hs⟩ := hk; exact ⟨A7k hs (k i hi)⟩
 | _ => exact hk.elim
where
 tri_post {c : Code} {K K' : Po} {σ : Sy} (h : I8 P Γ c K σ) (hk : ∀ e σ, K e σ → K' e σ) : I8 P Γ c K' σ := A5z h hk
theorem Q2 {S : ι → Sy} {φ : ι → Prop} {σ : Sy} (i : ι) (hs : Sub σ (S i)) (h : φ i) : A4M S φ .normal σ := ⟨⟨i, h, hs⟩⟩
theorem B24 {S : ι → Sy} {φ : ι → Prop} : Z1 (A4M S φ) := fun _ _ h => h.run
instance npC5 {S : ι → Sy} {φ : ι → Prop} : NpC (A4M S φ) := ⟨B24⟩
end cut
section take
variable {P : Program} {Γ : M0} {env : M4} {hp : List A4} {G : IM} {K : Po} {ops : Array Oper} {rest : List Oper} {ty : TypeId} {pos : String} {af : Array Edge} {gd : Option (Nat × Bool)}
theorem I7 {d : Nat} {f : FuncId} [hF : B0 P f] {xs : List Operand} {ats : Array TypeId} {vs : List Value} {ins rst : List A4} {post : IM → Value → List A4 → Prop}
  (hx : evl env xs = some vs) (h : Fn P f vs ins G post) (hp' : hp.Perm (ins ++ rst)) (hw : M2 ops env gd = some true) (hd : Nat.blt d Γ.n = true)
  (k : ∀ v G' outs, B6 G G' → post G' v outs → I0 P Γ ops rest K ⟨(d, v) :: env, outs ++ rst, G'⟩) : I0 P Γ ops (⟨some d, .call ⟨.value (.func f), ⟨xs⟩, ats⟩, ty, pos, af, gd⟩ :: rest) K ⟨env, hp, G⟩ :=
 L9 (A4m hx h hp' hd) hw (by rintro _ ⟨v, G', outs, rfl, hle, hq⟩; exact k v G' outs hle hq)
end take
theorem A0c (G : IM) (br : Nat) (pb : Option Addr) (nb cb p : Nat) (bs : List UInt8) (q : Option Addr) (n c : Nat) (xs : List Value) (hb : Sl G pb nb cb 1 (O6 bs)) (hnb : nb ≤ 2000) (hp : p < 1099511627776) (hx : Sl G q n c 1 xs) (hn : 0 < n) :
  Fn Tryz.prog 89 [.pointer (some ⟨br, 0, none⟩), .slice q n c] [rd br pb nb cb p] G (fun G' v outs => G' = G ∧ outs = [rd br pb nb cb (p + 1)] ∧ v ∈ xs) := by
 refine B2 Tryz.func89 rfl Tryz.ntmps89 Tryz.results89 rfl ?_
 intro w0
 refine I6 ?_
 (refine I7 rfl (X9 G br pb nb cb p bs (n : Int) hb hnb hp) (List.Perm.refl _) rfl rfl (fun v G1 outs hle1 hh => ?_); obtain ⟨rfl, rfl, k, rfl, hk0, hkn⟩ := hh; obtain ⟨j, rfl⟩ := Int.eq_ofNat_of_zero_le hk0)
 (obtain ⟨b, o, v, rfl, hv, hat, _⟩ := hx.kid (i := j) (by omega); refine sP (B3 rfl rfl rfl (by omega)) rfl rfl ?_)
 refine sL (A0p rfl rfl (hat _)) rfl rfl ?_
 refine sQ (qA rfl) rfl (sD (nS (tT ?_)))
 refine H6 (rT rfl) A0.refl ?_
 exact ⟨rfl, rfl, List.mem_of_getElem? hv⟩
theorem A6i (G : IM) (br : Nat) (pb : Option Addr) (nb cb p : Nat) (bs : List UInt8) (q : Option Addr) (n c : Nat) (xs : List Value) (hb : Sl G pb nb cb 1 (O6 bs)) (hnb : nb ≤ 2000) (hp : p < 1099511627776) (hx : Sl G q n c 1 xs) (hn : 0 < n) :
  Fn Tryz.prog 133 [.pointer (some ⟨br, 0, none⟩), .slice q n c] [rd br pb nb cb p] G (fun G' v outs => G' = G ∧ outs = [rd br pb nb cb (p + 1)] ∧ v ∈ xs) := by
 refine B2 Tryz.func133 rfl Tryz.ntmps133 Tryz.results133 rfl ?_
 intro w0
 refine I6 ?_
 (refine I7 rfl (X9 G br pb nb cb p bs (n : Int) hb hnb hp) (List.Perm.refl _) rfl rfl (fun v G1 outs hle1 hh => ?_); obtain ⟨rfl, rfl, k, rfl, hk0, hkn⟩ := hh; obtain ⟨j, rfl⟩ := Int.eq_ofNat_of_zero_le hk0)
 (obtain ⟨b, o, v, rfl, hv, hat, _⟩ := hx.kid (i := j) (by omega); refine sP (B3 rfl rfl rfl (by omega)) rfl rfl ?_)
 refine sL (A0p rfl rfl (hat _)) rfl rfl ?_
 refine sQ (qA rfl) rfl (sD (nS (tT ?_)))
 refine H6 (rT rfl) A0.refl ?_
 exact ⟨rfl, rfl, List.mem_of_getElem? hv⟩
theorem A1k (G : IM) : Fn Tryz.prog 95 [] [] G (H0 (.agg ⟨[.int .i64 1, .slice none 0 0]⟩) G) := by
 refine B2 Tryz.func95 rfl Tryz.ntmps95 Tryz.results95 rfl ?_
 intro w0
 refine tS (tR ?_)
 refine sE (A5 rfl) rfl (fun b3 => ?_)
 refine D4 ?_
 refine D9 (rC rfl (A2 rfl rfl)) ?_
 exact ⟨rfl, rfl, rfl⟩
def dB : Nat → Nat
 | 0 => 0
 | d + 1 => 2 * dB d + 2
theorem B25 {d : Nat} (h : d ≤ 3) : dB (d + 1) ≤ 30 := by
 have : d = 0 ∨ d = 1 ∨ d = 2 ∨ d = 3 := by omega
 rcases this with rfl | rfl | rfl | rfl <;> decide
theorem B26 (k : Int) : V7 k ≤ 2 := by
 unfold V7; split <;> try split
 all_goals omega
theorem A4N : ∀ (ts : List Ty) (t : Ty), O4 (ts ++ [t]) = O4 ts + J7 t
 | [], t => by simp [O4]
 | a :: ts, t => by simp only [List.cons_append, O4, A4N ts t]; omega
theorem D2.ty {G : IM} {k : Int} {ts : List Ty} {es : List (List Value)} {p : Option Addr} {n c : Nat} (h : D2 G ts es) (hn : ts.length = n) (hs : Sl G p n c 2 es.flatten) (hk : E6 k) : B7 G (.mk k ts) [.int .i64 k, .slice p n c] := by
 subst hn
 simp only [B7]
 exact ⟨p, c, es, rfl, hk, D0.of hs h.len h.all (fun e he => (h.each e he).2), h⟩
theorem A3N (br : Nat) (pb : Option Addr) (nb cb : Nat) (bs : List UInt8) (hnb : nb ≤ 2000) : ∀ (d p : Nat) (G : IM), d ≤ 1000 → Sl G pb nb cb 1 (O6 bs) → p + dB (d + 1) < 1099511627776 →
  Fn Tryz.prog 128 [.pointer (some ⟨br, 0, none⟩), .int .i64 ((d + 1 : Nat) : Int)] [rd br pb nb cb p] G
   (A0s br pb nb cb p (dB (d + 1)) (fun G' v => ∃ t cells, v = .agg ⟨cells⟩ ∧ B7 G' t cells ∧ J7 t ≤ ((dB (d + 1) : Nat) : Int) ∧ Q6 d t)) := by
 refine fun d => Nat.strongRecOn d fun d ih p G hd hb hp => ?_
 rw [dB] at hp ⊢
 refine B2 Tryz.func128 rfl Tryz.ntmps128 Tryz.results128 rfl ?_
 intro w0
 refine tS (tR ?_)
 refine sE (A5 rfl) rfl (fun b3 => ?_)
 refine sD (nS (tS (tR (sQ (qM rfl) rfl ?_))))
 (refine L9 (C9 rfl rfl rfl (by omega) (by unfold maxLen; omega) rfl) rfl ?_; rintro _ ⟨b9, rfl⟩)
 (refine T6 (by repeat (first | exact Pk.here | apply Pk.there)) (fun G1 hle1 hsl1 _ => ?_); refine I7 rfl (A0c G1 br pb nb cb p bs _ _ _ _ (hb.mono hle1) hnb (by omega) hsl1 (by decide)) (Pk.perm (by repeat (first | exact Pk.here | apply Pk.there))) rfl rfl (fun v G2 outs hle2 hh => ?_); obtain ⟨rfl, rfl, hv⟩ := hh; replace hb := hb.mono hle1; obtain ⟨k, rfl, hk1⟩ : ∃ k, v = .int .i64 k ∧ 1 ≤ k ∧ k ≤ 5 := (by simp only [List.mem_cons, List.not_mem_nil, or_false] at hv; rcases hv with rfl | rfl | rfl | rfl | rfl | rfl | rfl <;> exact ⟨_, rfl, by decide, by decide⟩))
 refine sQ (qA rfl) rfl (sD (nS (tS (tS ?_))))
 (have hv' := hv; refine A0k (fun (x : Bool) => ⟨(16, .bool x) :: [(5, .int .i64 k), (4, .pointer (some ⟨b3, 0, none⟩)), (0, .pointer (some ⟨br, 0, none⟩)), (1, .int .i64 ((d + 1 : Nat) : Int))], [rd br pb nb cb (p + 1), .blk b3 [.int .i64 0, .slice none 0 0]], G2⟩) (fun x => x = false → d = 0 → k < 4) ?_ ?_)
 refine tR (sQ (qM rfl) rfl ?_)
 refine sB (K6 rfl rfl) rfl rfl (fun h19 => ?_) (fun h19 => ?_)
 refine sQ (qM rfl) rfl (sQ (qM rfl) rfl ?_)
 refine sB (A0L rfl rfl) rfl rfl (fun h22 => ?_) (fun h22 => ?_)
 refine sQ (L4 rfl rfl) rfl (sD ?_)
 refine Q2 true (O1 (by repeat (first | exact E3.nil | refine E3.cons rfl ?_)) (by repeat (first | exact A0.refl | exact A0.nil | refine A0.cons (by repeat (first | exact Pk.here | apply Pk.there)) ?_ | apply A0.drop))) ?_
 (show _ = false → d = 0 → k < 4; intro hf h0; first | exact absurd hf (by decide) | omega)
 refine sQ (L4 rfl rfl) rfl (sD ?_)
 refine Q2 false (O1 (by repeat (first | exact E3.nil | refine E3.cons rfl ?_)) (by repeat (first | exact A0.refl | exact A0.nil | refine A0.cons (by repeat (first | exact Pk.here | apply Pk.there)) ?_ | apply A0.drop))) ?_
 (show _ = false → d = 0 → k < 4; intro hf h0; first | exact absurd hf (by decide) | omega)
 refine R1 ?_
 refine Q2 false (O1 (by repeat (first | exact E3.nil | refine E3.cons rfl ?_)) (by repeat (first | exact A0.refl | exact A0.nil | refine A0.cons (by repeat (first | exact Pk.here | apply Pk.there)) ?_ | apply A0.drop))) ?_
 (show _ = false → d = 0 → k < 4; intro hf h0; first | exact absurd hf (by decide) | omega)
 (rintro x hx; clear hv)
 (show I8 _ _ (.cond (.tmp 16) _ _) _ _; refine A0k (fun (x : Int) => ⟨[(5, .int .i64 x), (4, .pointer (some ⟨b3, 0, none⟩)), (0, .pointer (some ⟨br, 0, none⟩)), (1, .int .i64 ((d + 1 : Nat) : Int))], [rd br pb nb cb (p + 1), .blk b3 [.int .i64 0, .slice none 0 0]], G2⟩) (fun x => 1 ≤ x ∧ x ≤ 5 ∧ (d = 0 → x < 4)) (A4g rfl (fun hxt => ?_) (fun hxf => ?_)) ?_)
 refine tR (sQ (qA rfl) rfl (sD ?_))
 refine Q2 1 (O1 (by repeat (first | exact E3.nil | refine E3.cons rfl ?_)) (by repeat (first | exact A0.refl | exact A0.nil | refine A0.cons (by repeat (first | exact Pk.here | apply Pk.there)) ?_ | apply A0.drop))) ?_
 (first | exact ⟨by omega, by omega, by omega⟩ | exact ⟨by omega, by omega, fun h0 => by have := hx hxf h0; omega⟩)
 refine tK ?_
 refine Q2 k (O1 (by repeat (first | exact E3.nil | refine E3.cons rfl ?_)) (by repeat (first | exact A0.refl | exact A0.nil | refine A0.cons (by repeat (first | exact Pk.here | apply Pk.there)) ?_ | apply A0.drop))) ?_
 (first | exact ⟨by omega, by omega, by omega⟩ | exact ⟨by omega, by omega, fun h0 => by have := hx hxf h0; omega⟩)
 (rintro kk ⟨hk2, hk3, hk4⟩; have hop := B26 kk; have hk5 := (N7 kk).1; have hk6 := (N7 kk).2.1; have hK := A8k kk)
 refine tS (tR (sQ (qM rfl) rfl (sQ (W1 rfl rfl) rfl ?_)))
 refine sE (A5 rfl) rfl (fun b53 => ?_)
 refine F9 ?_
 refine sD (nS (tS (tS (tR (sQ (qA rfl) rfl (sD (nS ?_)))))))
 refine B4 ?_
 (refine V5 25 2 ?_; refine K9 (fun (x : Nat × Option Addr × Nat × List Ty × List (List Value) × Nat × IM) => ⟨[(7, .int .i64 x.1), (5, .int .i64 kk), (6, .pointer (some ⟨b53, 0, none⟩)), (4, .pointer (some ⟨b3, 0, none⟩)), (0, .pointer (some ⟨br, 0, none⟩)), (1, .int .i64 ((d + 1 : Nat) : Int))], [.blk b53 [.int .i64 kk, .slice x.2.1 x.1 x.2.2.1], .slc x.2.1 x.2.2.1 25 2 x.1 x.2.2.2.2.1.flatten, rd br pb nb cb x.2.2.2.2.2.1, .blk b3 [.int .i64 0, .slice none 0 0]], x.2.2.2.2.2.2⟩) (fun x => (∀ u ∈ x.2.2.2.1, Q6 (d - 1) u) ∧ (x.1 : Int) ≤ V7 kk ∧ B6 G2 x.2.2.2.2.2.2 ∧ x.2.2.2.1.length = x.1 ∧ D2 x.2.2.2.2.2.2 x.2.2.2.1 x.2.2.2.2.1 ∧ O4 x.2.2.2.1 ≤ ((x.1 * dB d : Nat) : Int) ∧ p + 1 ≤ x.2.2.2.2.2.1 ∧ x.2.2.2.2.2.1 ≤ p + 1 + x.1 * dB d) (fun x => (V7 kk).toNat - x.1) (0, none, 0, [], [], p + 1, G2) ?_ ?_ ?_)
 (simp only [J6]; exact D1)
 (exact ⟨by simp, by dsimp only; omega, B6.refl _, rfl, by simp [D2], by simp [O4], by dsimp only; omega, by dsimp only; omega⟩)
 (rintro ⟨i, pn, cn, ts, es', p', Gi⟩ ⟨hah, hi, hle, hlt, hst, hsum, hq1, hq2⟩; simp only [] at hah hi hle hlt hst hsum hq1 hq2 ⊢; have hid : i * dB d ≤ 2 * dB d := Nat.mul_le_mul_right _ (by omega))
 refine tS (tS (tR (sQ (qM rfl) rfl (sQ (qM rfl) rfl ?_))))
 refine H3 rfl ((hK _)) rfl rfl ?_
 refine sB (K6 rfl rfl) rfl rfl (fun h74 => ?_) (fun h74 => ?_)
 refine sD (nS (qT rfl (tK (nS (tS ?_)))))
 refine B4 ?_
 (obtain ⟨d', rfl⟩ : ∃ d', d = d' + 1 := ⟨d - 1, by omega⟩; have hih := ih d' (by omega) p' Gi (by omega) (hb.mono hle) (by have := Nat.mul_le_mul_right (dB (d' + 1)) (show i + 1 ≤ 2 by omega); rw [Nat.succ_mul] at this; omega); refine E1 E2 rfl ?_)
 refine J5 (i := 0) (l' := [tt,ff,ff,ff,ff,ff,ff,ff,ff,ff]) rfl D5 (B1 rfl) rfl (by kernel_rfl) rfl rfl ?_
 refine aL 1 rfl (C0 rfl rfl) rfl ?_
 refine aP 2 rfl (qM rfl) rfl ?_
 refine aP 3 rfl (qM rfl) rfl ?_
 refine aP 4 rfl (A4D rfl rfl (by omega)) rfl ?_
 refine A3 5 ?_
 (refine A0b (l' := [tt,tt,tt,tt,tt,tt,ff,ff,ff,ff]) rfl rfl hih (Pk.perm (by repeat (first | exact Pk.here | apply Pk.there))) rfl rfl rfl (by repeat (first | exact A6.nil | apply A6.dep (by decide +kernel) | apply A6.blk (by decide +kernel) (by repeat (first | exact Pk.here | apply Pk.there)) (by repeat first | exact mH | apply mT))) (fun v G3 outs hle3 hh => ?_); obtain ⟨p3, hp31, hp32, rfl, t3, cells3, rfl, hr3, hs3, ha3⟩ := hh; obtain ⟨q3, c3, es3, rfl, _⟩ := hr3.open)
 refine A3 6 ?_
 (refine E4 rfl (C9 rfl rfl rfl (by omega) (by unfold maxLen; omega) rfl) rfl rfl ?_; rintro _ ⟨b91, rfl⟩)
 refine A3 7 ?_
 refine Q5 rfl rfl rfl rfl rfl rfl (fun _ _ => by repeat (first | exact Sw.here | apply Sw.there)) (P3 (by repeat first | exact mH | apply mT)) rfl (by simp [Value.oneCell']) (by unfold maxLen; omega) (by omega) rfl rfl (by repeat (first | exact A6.nil | apply A6.dep (by decide +kernel) | apply A6.blk (by decide +kernel) (by repeat (first | exact Pk.here | apply Pk.there)) (by repeat first | exact mH | apply mT))) (fun pn' cn' => ?_)
 refine aP 8 rfl (B1 rfl) rfl ?_
 refine A3 9 ?_
 refine R2 rfl rfl rfl rfl rfl rfl rfl rfl (by kernel_rfl) (by repeat first | exact Sw.here | apply Sw.there) (by rfl) ?_
 refine C5 (M8 (nS (tR (sQ (qM rfl) rfl ?_))))
 refine sP (K2 rfl rfl (by omega) (by omega)) rfl rfl ?_
 refine sQ (qA rfl) rfl (sD ?_)
 refine K7 (i + 1, pn', cn', ts ++ [t3], es' ++ [[.int .i64 t3.k, .slice q3 t3.ks.length c3]], p3, G3) ?_ ?_ ?_
 (simp only [J6]; exact D1)
 (dsimp only; have e1 : (i + 1) * dB (d' + 1) = i * dB (d' + 1) + dB (d' + 1) := Nat.succ_mul _ _; have e2 := A4N ts t3; exact ⟨by simp only [List.forall_mem_append, List.forall_mem_singleton]; exact ⟨hah, ha3⟩, by omega, hle.trans hle3, by simp [hlt], D2.snoc (hst.mono hle3) hr3, by omega, by omega, by omega⟩)
 (show (V7 kk).toNat - (i + 1) < (V7 kk).toNat - i; omega)
 refine J2 ?_
 (refine I5 (by repeat (first | exact Pk.here | apply Pk.there)) (fun G5 hle5 hsl5 hno5 => ?_))
 refine tT ?_
 refine H6 (outs := [rd br pb nb cb p']) (rC rfl (A2 rfl rfl)) (by repeat (first | exact A0.nil | refine A0.cons Pk.here ?_ | refine A0.cons (Pk.there Pk.here) ?_ | apply A0.drop)) ?_
 (refine ⟨p', by omega, by omega, rfl, .mk kk ts, _, rfl, (hst.mono hle5).ty hlt hsl5 ⟨by omega, by omega⟩, ?_, B2Q hk4 (by omega) hk2 hk3 hah⟩; rw [J7]; omega)
theorem A8H (br : Nat) (pb : Option Addr) (nb cb : Nat) (bs : List UInt8) (hnb : nb ≤ 2000) (d p : Nat) (G : IM) (hd : d ≤ 1000) (hb : Sl G pb nb cb 1 (O6 bs)) (hp : p + dB (d + 1) < 1099511627776) :
  Fn Tryz.prog 128 [.pointer (some ⟨br, 0, none⟩), .int .i64 ((d + 1 : Nat) : Int)] [rd br pb nb cb p] G
   (A0s br pb nb cb p (dB (d + 1)) (fun G' v => ∃ t cells, v = .agg ⟨cells⟩ ∧ B7 G' t cells ∧ J7 t ≤ ((dB (d + 1) : Nat) : Int))) :=
 (A3N br pb nb cb bs hnb d p G hd hb hp).mono fun G' v outs _ ⟨p', h1, h2, h3, t, cells, h4, h5, h6, _⟩ => ⟨p', h1, h2, h3, t, cells, h4, h5, h6⟩
theorem B27 (br : Nat) (pb : Option Addr) (nb cb : Nat) (bs : List UInt8) (hnb : nb ≤ 2000) (p : Nat) (G : IM) (hb : Sl G pb nb cb 1 (O6 bs)) (hp : p + 31 < 1099511627776) :
  Fn Tryz.prog 106 [.pointer (some ⟨br, 0, none⟩)] [rd br pb nb cb p] G
   (A0s br pb nb cb p 31 (fun G' v => ∃ t cells, v = .agg ⟨cells⟩ ∧ B7 G' t cells ∧ J7 t ≤ 30 ∧ Q6 3 t)) := by
 refine B2 Tryz.func106 rfl Tryz.ntmps106 Tryz.results106 rfl ?_
 intro w0
 refine tS (tR ?_)
 refine sE (A5 rfl) rfl (fun b3 => ?_)
 refine sD (nS (tS (tR (sQ (qM rfl) rfl (sQ (qM rfl) rfl ?_)))))
 (refine L9 (C9 rfl rfl rfl (by omega) (by unfold maxLen; omega) rfl) rfl ?_; rintro _ ⟨b10, rfl⟩)
 (refine T6 (by repeat (first | exact Pk.here | apply Pk.there)) (fun G1 hle1 hsl1 _ => ?_); refine I7 rfl (A0c G1 br pb nb cb p bs _ _ _ _ (hb.mono hle1) hnb (by omega) hsl1 (by decide)) (Pk.perm (by repeat (first | exact Pk.here | apply Pk.there))) rfl rfl (fun v G2 outs hle2 hh => ?_); obtain ⟨rfl, rfl, hv⟩ := hh; replace hb := hb.mono hle1; obtain ⟨d, rfl, hd⟩ : ∃ d : Nat, v = .int .i64 ((d + 1 : Nat) : Int) ∧ d ≤ 3 := (by simp only [List.mem_cons, List.not_mem_nil, or_false] at hv; rcases hv with rfl | rfl | rfl | rfl | rfl <;> first | exact ⟨0, rfl, by decide⟩ | exact ⟨1, rfl, by decide⟩ | exact ⟨2, rfl, by decide⟩ | exact ⟨3, rfl, by decide⟩))
 (have hdB := B25 hd; refine I7 rfl (A3N br pb nb cb bs hnb d (p + 1) G2 (by omega) hb (by omega)) (Pk.perm (by repeat (first | exact Pk.here | apply Pk.there))) rfl rfl (fun v G3 outs hle3 hh => ?_); obtain ⟨p3, hp31, hp32, rfl, t3, cells3, rfl, hr3, hs3, ha3⟩ := hh; obtain ⟨q3, c3, es3, rfl, _⟩ := hr3.open)
 refine F9 ?_
 refine sD (nS (tT ?_))
 refine H6 (outs := [rd br pb nb cb p3]) (rC rfl (A2 rfl rfl)) (by repeat (first | exact A0.nil | refine A0.cons Pk.here ?_ | refine A0.cons (Pk.there Pk.here) ?_ | apply A0.drop)) ?_
 exact ⟨p3, by omega, by omega, rfl, t3, _, rfl, hr3, by omega, ha3.le hd⟩
theorem B28 (br : Nat) (pb : Option Addr) (nb cb : Nat) (bs : List UInt8) (hnb : nb ≤ 2000) (p : Nat) (G : IM) (hb : Sl G pb nb cb 1 (O6 bs)) (hp : p + 31 < 1099511627776) :
  Fn Tryz.prog 106 [.pointer (some ⟨br, 0, none⟩)] [rd br pb nb cb p] G
   (A0s br pb nb cb p 31 (fun G' v => ∃ t cells, v = .agg ⟨cells⟩ ∧ B7 G' t cells ∧ J7 t ≤ 30)) :=
 (B27 br pb nb cb bs hnb p G hb hp).mono fun G' v outs _ ⟨p', h1, h2, h3, t, cells, h4, h5, h6, _⟩ => ⟨p', h1, h2, h3, t, cells, h4, h5, h6⟩
theorem B29 (k : Int) (ks : List Ty) (G : IM) (p : Option Addr) (c : Nat) (hts : (Ty.mk k ks).small) (hr : B7 G (.mk k ks) [.int .i64 k, .slice p ks.length c]) : Fn Tryz.prog 152 [.agg ⟨[.int .i64 k, .slice p ks.length c]⟩] [] G
  (fun G' v outs => ∃ p c es, v = .agg ⟨[.int .i64 k, .slice p ks.length c]⟩ ∧ outs = [.slc p c 25 2 ks.length es.flatten] ∧ D2 G' ks es) := by
 simp only [Ty.small] at hts
 obtain ⟨hsm, hks⟩ := hts
 obtain ⟨p', c', es, he, hk, hsl, hkl⟩ := hr.open
 simp only [Ty.k, Ty.ks, List.cons.injEq, Value.slice.injEq, true_and, and_true] at he hk hsl hkl
 obtain ⟨rfl, rfl⟩ := he
 have hn := hsl.le
 refine B2 Tryz.func152 rfl Tryz.ntmps152 Tryz.results152 rfl ?_
 intro w0
 refine tS (tR ?_)
 refine sE (B9 rfl rfl) rfl (fun b3 => ?_)
 refine sE (A5 rfl) rfl (fun b4 => ?_)
 refine C2 ?_
 refine sE (A5 rfl) rfl (fun b12 => ?_)
 refine F9 ?_
 refine sD (nS (tS (tS (tR (sQ (qA rfl) rfl (sD (nS ?_)))))))
 refine B4 ?_
 (refine V5 25 2 ?_; refine K9 (fun (x : Nat × Option Addr × Nat × List (List Value) × IM) => ⟨[(4, .int .i64 x.1), (3, .pointer (some ⟨b12, 0, none⟩)), (1, .pointer (some ⟨b3, 0, none⟩)), (2, .pointer (some ⟨b4, 0, none⟩))], [.blk b12 [.int .i64 k, .slice x.2.1 x.1 x.2.2.1], .slc x.2.1 x.2.2.1 25 2 x.1 x.2.2.2.1.flatten, .blk b4 [.int .i64 0, .slice none 0 0], .blk b3 [.int .i64 k, .slice p ks.length c]], x.2.2.2.2⟩) (fun x => x.1 ≤ ks.length ∧ B6 G x.2.2.2.2 ∧ D2 x.2.2.2.2 (ks.take x.1) x.2.2.2.1) (fun x => ks.length - x.1) (0, none, 0, [], G) ?_ ?_ ?_)
 (simp only [J6]; exact D1)
 exact ⟨by simp, B6.refl _, by simp [D2]⟩
 (rintro ⟨i, pn, cn, es', Gi⟩ ⟨hi, hle, hst⟩; simp only [] at hi hle hst ⊢; replace hsl := hsl.mono hle; replace hkl := hkl.mono hle)
 refine C2 ?_
 refine sB (K6 rfl rfl) rfl rfl (fun h34 => ?_) (fun h34 => ?_)
 refine sD (nS (qT rfl (tK (nS (tS ?_)))))
 refine B4 ?_
 (obtain ⟨b, o, p2, c2, rfl, hat, hre, hgb⟩ := hsl.kidTy hkl (i := i) (by omega) (by omega); refine E1 E2 rfl ?_)
 refine J5 (i := 0) (l' := [tt,ff,ff,ff,ff,ff,ff,ff,ff,ff,ff,ff]) rfl D5 (B1 rfl) rfl (by kernel_rfl) rfl rfl ?_
 refine aL 1 rfl (C0 rfl rfl) rfl ?_
 refine aP 2 rfl (B1 rfl) rfl ?_
 refine aL 3 rfl (C0 rfl rfl) rfl ?_
 refine aP 4 rfl (qM rfl) rfl ?_
 refine aP 5 rfl (B3 rfl rfl rfl (by omega)) rfl ?_
 refine aL 6 rfl (A1 rfl rfl (hat _) rfl) rfl ?_
 refine A3 7 ?_
 (refine K0 rfl rfl (W5 ks[i] _ _ (Ty.smallL_mem hks _ (List.getElem_mem (by omega))) hre) rfl rfl rfl (fun v G1 hle1 hh => ?_); obtain ⟨cells', F', rfl, hs', hnd'⟩ := hh; have hr' := hs'.R.mono (C1.le _ _); obtain ⟨p3, c3, es3, rfl, _⟩ := hr'.open)
 refine A3 8 ?_
 (refine E4 rfl (C9 rfl rfl rfl (by omega) (by unfold maxLen; omega) rfl) rfl rfl ?_; rintro _ ⟨b53, rfl⟩)
 refine A3 9 ?_
 refine Q5 rfl rfl rfl rfl rfl rfl (fun _ _ => by repeat (first | exact Sw.here | apply Sw.there)) (P3 (by repeat first | exact mH | apply mT)) rfl (by simp [Value.oneCell']) (by unfold maxLen; omega) (by omega) rfl rfl (by repeat (first | exact A6.nil | apply A6.dep (by decide +kernel) | apply A6.blk (by decide +kernel) (by repeat (first | exact Pk.here | apply Pk.there)) (by repeat first | exact mH | apply mT))) (fun pn' cn' => ?_)
 refine aP 10 rfl (B1 rfl) rfl ?_
 refine A3 11 ?_
 refine R2 rfl rfl rfl rfl rfl rfl rfl rfl (by kernel_rfl) (by repeat first | exact Sw.here | apply Sw.there) (by rfl) ?_
 refine C5 (M8 (nS (tR (sQ (qM rfl) rfl ?_))))
 refine sP (K2 rfl rfl (by omega) (by omega)) rfl rfl ?_
 refine sQ (qA rfl) rfl (sD ?_)
 refine K7 (i + 1, pn', cn', es' ++ [[.int .i64 ks[i].k, .slice p3 ks[i].ks.length c3]], G1) ?_ ?_ ?_
 (simp only [J6]; exact D1)
 (dsimp only; exact ⟨by omega, hle.trans hle1, by rw [List.take_succ_eq_append_getElem (by omega)]; exact D2.snoc (hst.mono hle1) hr'⟩)
 (show ks.length - (i + 1) < ks.length - i; omega)
 refine H9 ?_
 (obtain rfl : i = ks.length := (by omega); refine H6 (outs := [.slc pn cn 25 2 ks.length es'.flatten]) (rC rfl (A2 rfl rfl)) (by repeat (first | exact A0.nil | refine A0.cons Pk.here ?_ | refine A0.cons (Pk.there Pk.here) ?_ | apply A0.drop)) ?_)
 (rw [List.take_length] at hst; exact ⟨pn, cn, es', rfl, rfl, hst⟩)
theorem A0H (G : IM) : B7 G O9 [.int .i64 1, .slice none 0 0] := by
 simp only [O9, B7]
 exact ⟨none, 0, [], rfl, ⟨by omega, by omega⟩, D0.of (Sl.nil _ _) rfl (by simp) (by simp), by simp [D2]⟩
theorem A6j : J7 O9 = 0 := rfl
theorem B3a (br : Nat) (pb : Option Addr) (nb cb : Nat) (bs : List UInt8) (hnb : nb ≤ 2000) (p : Nat) (G : IM) (hb : Sl G pb nb cb 1 (O6 bs)) (hp : p + 31 < 1099511627776) (t : Ty) (cells : List Value) (hr : B7 G t cells) (hsz : J7 t ≤ 30) :
  Fn Tryz.prog 110 [.pointer (some ⟨br, 0, none⟩), .agg ⟨cells⟩] [rd br pb nb cb p] G
   (A0s br pb nb cb p 2 (fun G' v => ∃ t cells, v = .agg ⟨cells⟩ ∧ B7 G' t cells ∧ J7 t ≤ 38)) := by
 have hts := A3B t (by omega)
 obtain ⟨k, ks⟩ := t
 rw [J7] at hsz
 have hsn := A1F ks
 obtain ⟨q0, c0, es0, rfl, hk, _⟩ := hr.open
 simp only [Ty.k, Ty.ks] at hk hr ⊢
 refine B2 Tryz.func110 rfl Tryz.ntmps110 Tryz.results110 rfl ?_
 intro w0
 refine tS (tR ?_)
 refine sE (B9 rfl rfl) rfl (fun b3 => ?_)
 refine sE (A5 rfl) rfl (fun b4 => ?_)
 refine sD (nS (tS (tR (sL (A2 rfl rfl) rfl rfl ?_))))
 (refine A2r rfl (B29 k ks G q0 c0 hts hr) rfl rfl (fun v G1 outs hle1 hh => ?_); obtain ⟨q, c, es, rfl, rfl, hst⟩ := hh)
 refine sE (A5 rfl) rfl (fun b11 => ?_)
 refine F9 ?_
 refine sD (nS (tS (tS (tR (sQ (qM rfl) rfl ?_)))))
 (refine I7 rfl (X9 G1 br pb nb cb p bs 40 (hb.mono hle1) hnb (by omega)) (Pk.perm (by repeat (first | exact Pk.here | apply Pk.there))) rfl rfl (fun v G2 outs hle2 hh => ?_); obtain ⟨rfl, rfl, j, rfl, hj0, hj1⟩ := hh; replace hb := hb.mono hle1)
 refine sD (nS ?_)
 (show I8 _ _ (.block 0 _) _ _; refine A0k (fun (x : Ty × Option Addr × Nat × Nat × IM) => ⟨[(5, .pointer (some ⟨b11, 0, none⟩)), (4, .pointer (some ⟨b4, 0, none⟩))], [.blk b11 [.int .i64 x.1.k, .slice x.2.1 x.1.ks.length x.2.2.1], .blk b4 [.int .i64 0, .slice none 0 0], rd br pb nb cb x.2.2.2.1], x.2.2.2.2⟩) (fun x => B6 G2 x.2.2.2.2 ∧ B7 x.2.2.2.2 x.1 [.int .i64 x.1.k, .slice x.2.1 x.1.ks.length x.2.2.1] ∧ J7 x.1 ≤ 38 ∧ p ≤ x.2.2.2.1 ∧ x.2.2.2.1 ≤ p + 2) ?_ ?_)
 refine B4 (tS (tR (sB (qE rfl rfl) rfl rfl (fun h26 => ?_) (fun h26 => ?_))))
 refine sQ (qA rfl) rfl (sD (nS (qT rfl (tR (sQ (qM rfl) rfl ?_)))))
 (refine L9 (C9 rfl rfl rfl (by omega) (by unfold maxLen; omega) rfl) rfl ?_; rintro _ ⟨b33, rfl⟩)
 (refine T6 (by repeat (first | exact Pk.here | apply Pk.there)) (fun G3 hle3 hsl3 _ => ?_); refine T6 (by repeat (first | exact Pk.here | apply Pk.there)) (fun G4 hle4 hsl4 _ => ?_); refine I7 rfl (A0c G4 br pb nb cb (p + 1) bs _ _ _ _ (hb.mono (hle3.trans hle4)) hnb (by omega) (hsl3.mono hle4) (by decide)) (Pk.perm (by repeat (first | exact Pk.here | apply Pk.there))) rfl rfl (fun v G5 outs hle5 hh => ?_); obtain ⟨rfl, rfl, hv⟩ := hh; obtain ⟨k', rfl, hk'⟩ : ∃ k', v = .int .i64 k' ∧ E6 k' := (by simp only [List.mem_cons, List.not_mem_nil, or_false] at hv; rcases hv with rfl | rfl | rfl | rfl | rfl <;> exact ⟨_, rfl, by unfold E6; omega⟩))
 refine sQ (B1 rfl) rfl (F9 ?_)
 refine sD (M8 ?_)
 refine Q2 (.mk k' ks, q, c, p + 2, G5) ?_ ?_
 (simp only [J6]; exact D1)
 (dsimp only; exact ⟨hle3.trans hle4, (hst.mono (hle3.trans hle4)).ty rfl hsl4 hk', by (rw [J7]; omega), by omega, by omega⟩)
 refine sQ (qA rfl) rfl (sD (nS (cF rfl (tS (tR ?_)))))
 refine sB (qE rfl rfl) rfl rfl (fun h48 => ?_) (fun h48 => ?_)
 refine sQ (qA rfl) rfl (sD (nS (qT rfl ?_)))
 refine E1 E2 rfl ?_
 refine J5 (i := 0) (l' := [tt,ff,ff,ff,ff,ff,ff]) rfl D5 (B1 rfl) rfl (by kernel_rfl) rfl rfl ?_
 refine aL 1 rfl (C0 rfl rfl) rfl ?_
 refine A3 2 ?_
 refine P6 rfl rfl ((A1k _)) rfl rfl rfl ?_
 refine A3 3 ?_
 (refine E4 rfl (C9 rfl rfl rfl (by omega) (by unfold maxLen; omega) rfl) rfl rfl ?_; rintro _ ⟨b59, rfl⟩)
 refine A3 4 ?_
 refine Q5 rfl rfl rfl rfl rfl rfl (fun _ _ => by repeat (first | exact Sw.here | apply Sw.there)) (P3 (by repeat first | exact mH | apply mT)) rfl (by simp [Value.oneCell']) (by unfold maxLen; omega) (by omega) rfl rfl (by repeat (first | exact A6.nil | apply A6.dep (by decide +kernel) | apply A6.blk (by decide +kernel) (by repeat (first | exact Pk.here | apply Pk.there)) (by repeat first | exact mH | apply mT))) (fun qn cn => ?_)
 (refine A4p (cs := es.flatten ++ [.int .i64 1, .slice none 0 0]) (by repeat (first | exact Pk.here | apply Pk.there)) (fun G6 hle6 hsl6 _ => ?_))
 refine aP 5 rfl (B1 rfl) rfl ?_
 refine A3 6 ?_
 refine R2 rfl rfl rfl rfl rfl rfl rfl rfl (by kernel_rfl) (by repeat first | exact Sw.here | apply Sw.there) (by rfl) ?_
 refine C5 (M8 ?_)
 refine Q2 (.mk k (ks ++ [O9]), qn, cn, p + 1, G6) (by rw [show (Ty.mk k (ks ++ [O9])).ks.length = ks.length + 1 from by simp [Ty.ks]]; exact D1) ?_
 (dsimp only; refine ⟨hle6, D2.ty (ts := ks ++ [O9]) (es := es ++ [[.int .i64 1, .slice none 0 0]]) (D2.snoc (hst.mono hle6) (A0H _)) rfl (by simpa [Ty.ks] using hsl6) hk, ?_, by omega, by omega⟩; rw [J7, A4N, A6j, List.length_append]; simp only [List.length_singleton]; omega)
 refine sQ (qA rfl) rfl (sD (nS (cF rfl (tS (tR ?_)))))
 refine sB (qE rfl rfl) rfl rfl (fun h76 => ?_) (fun h76 => ?_)
 refine D4 ?_
 refine B4 ?_
 (refine A1W (by repeat (first | exact Pk.here | apply Pk.there)) (fun G3 hle3 hsl3 _ => ?_); refine K9 (fun (x : Nat × Ty × Option Addr × Nat × IM) => ⟨[(6, .int .i64 x.1), (5, .pointer (some ⟨b11, 0, none⟩)), (4, .pointer (some ⟨b4, 0, none⟩))], [.blk b11 [.int .i64 x.2.1.k, .slice x.2.2.1 x.2.1.ks.length x.2.2.2.1], .blk b4 [.int .i64 0, .slice none 0 0], rd br pb nb cb (p + 1)], x.2.2.2.2⟩) (fun x => x.1 ≤ 4 ∧ B6 G3 x.2.2.2.2 ∧ B7 x.2.2.2.2 x.2.1 [.int .i64 x.2.1.k, .slice x.2.2.1 x.2.1.ks.length x.2.2.2.1] ∧ J7 x.2.1 ≤ 30 + 2 * x.1) (fun x => 4 - x.1) (0, .mk k ks, q, c, G3) ?_ ?_ ?_)
 (simp only [J6]; exact D1)
 (dsimp only; exact ⟨by omega, B6.refl _, (hst.mono hle3).ty rfl hsl3 hk, by (rw [J7]; omega)⟩)
 (rintro ⟨i, ⟨tk, tks⟩, qi, ci, Gi⟩ ⟨hi, hlei, hri, hsi⟩; simp only [Ty.k, Ty.ks] at hi hlei hri hsi ⊢)
 refine tS (tS (tR (sQ (qM rfl) rfl ?_)))
 refine sB (K6 rfl rfl) rfl rfl (fun h95 => ?_) (fun h95 => ?_)
 refine sD (nS (qT rfl (tK (nS (tS ?_)))))
 refine B4 ?_
 refine E1 E2 rfl ?_
 refine P9 (i := 1) (l' := [ff,tt,ff,ff,ff]) rfl D5 (A2 rfl rfl) rfl (by kernel_rfl) rfl rfl ?_
 refine A3 0 ?_
 refine P6 rfl rfl ((A1k _)) rfl rfl rfl ?_
 refine A3 2 ?_
 (refine E4 rfl (C9 rfl rfl rfl (by omega) (by unfold maxLen; omega) rfl) rfl rfl ?_; rintro _ ⟨b108, rfl⟩)
 (refine A4p (cs := [.int .i64 1, .slice none 0 0, .int .i64 tk, .slice qi tks.length ci]) (by repeat (first | exact Pk.here | apply Pk.there)) (fun G7 hle7 hsl7 _ => ?_))
 refine aP 3 rfl (W1 rfl rfl) rfl ?_
 refine A3 4 ?_
 refine R2 rfl rfl rfl rfl rfl rfl rfl rfl (by kernel_rfl) (by repeat first | exact Sw.here | apply Sw.there) (by rfl) ?_
 refine C5 (M8 (nS (tR (sQ (qM rfl) rfl ?_))))
 refine sP (K2 rfl rfl (by omega) (by omega)) rfl rfl ?_
 refine sQ (qA rfl) rfl (sD ?_)
 refine K7 (i + 1, .mk 4 [O9, .mk tk tks], some ⟨b108, 0, none⟩, 2, G7) ?_ ?_ ?_
 (simp only [J6]; exact D1)
 (dsimp only; refine ⟨by omega, hlei.trans hle7, D2.ty (ts := [O9, .mk tk tks]) (es := [[.int .i64 1, .slice none 0 0], [.int .i64 tk, .slice qi tks.length ci]]) ⟨_, _, rfl, A0H _, _, _, rfl, hri.mono hle7, rfl⟩ rfl hsl7 ⟨by omega, by omega⟩, ?_⟩; rw [J7, O4, O4, O4, A6j]; simp only [List.length_cons, List.length_nil]; omega)
 (show 4 - (i + 1) < 4 - i; omega)
 refine D3 ?_
 refine Q2 (.mk tk tks, qi, ci, p + 1, Gi) ?_ ?_
 (simp only [J6]; exact D1)
 (dsimp only; exact ⟨hle3.trans hlei, hri, by omega, by omega, by omega⟩)
 refine sQ (qA rfl) rfl (sD (nS (cF rfl ?_)))
 (refine A1W (by repeat (first | exact Pk.here | apply Pk.there)) (fun G8 hle8 hsl8 _ => ?_); refine tK ?_)
 refine M8 ?_
 refine Q2 (.mk k ks, q, c, p + 1, G8) ?_ ?_
 (simp only [J6]; exact D1)
 (dsimp only; exact ⟨hle8, (hst.mono hle8).ty rfl hsl8 hk, by (rw [J7]; omega), by omega, by omega⟩)
 (rintro ⟨t', q', c', p', G'⟩ ⟨hle9, hr9, hs9, hp9, hp9'⟩; simp only [] at hle9 hr9 hs9 hp9 hp9' ⊢)
 refine tS (tR (sL (A2 rfl rfl) rfl rfl (F9 ?_)))
 refine sD (nS (tT ?_))
 refine H6 (outs := [rd br pb nb cb p']) (rC rfl (A2 rfl rfl)) (by repeat (first | exact A0.nil | refine A0.cons Pk.here ?_ | refine A0.cons (Pk.there Pk.here) ?_ | apply A0.drop)) ?_
 (exact ⟨p', by omega, by omega, rfl, t', _, rfl, hr9, by omega⟩)
mutual
def H8 : Tm → Tm
 | .mk k nm num ty fr lb ks => if k = 13 ∨ k = 14 then (F8 ks).headD F4 else .mk k nm num (if k = 5 then O9 else A7) A7 0 (F8 ks)
def F8 : List Tm → List Tm
 | [] => []
 | t :: ts => H8 t :: F8 ts
end
theorem A2W : ∀ ks, F8 ks = ks.map H8
 | [] => rfl
 | t :: ts => by rw [F8, A2W ts, List.map_cons]
def A0x : Tm → Tm
 | .mk k nm num ty fr lb ks => if k = 13 ∨ k = 14 then ks.headD F4 else if k = 5 then .mk k nm num O9 fr lb ks else .mk k nm num ty fr lb ks
def A2u : Tm → Prop
 | .mk k _ _ _ _ _ ks => k = 13 ∨ k = 14 → ks ≠ []
theorem A1J {t : Ty} (h : Y5 t = true) : t = A7 := by
 obtain ⟨k, ks⟩ := t
 obtain ⟨h1, h2⟩ : (Ty.mk k ks).k = 0 ∧ (Ty.mk k ks).ks.length = 0 := of_decide_eq_true h
 simp only [Ty.k, Ty.ks] at h1 h2
 have h3 : ks = [] := List.length_eq_zero_iff.1 (by omega)
 rw [h3, A7]
 congr
theorem W6 {D N : Int} {k : Int} {nm : ByteArray} {num : Int} {ty fr : Ty} {lb : Int} {ks : List Tm} {d : Int} (h : J1 D N (.mk k nm num ty fr lb ks) d = true) : d ≤ D ∧ k ≠ N ∧ T8 k nm num ty fr lb ks.length = true ∧ E9 D N ks (d + 1) = true := by
 rw [J1] at h
 simp only [Bool.and_eq_true, decide_eq_true_eq] at h
 exact ⟨h.1.1.1, h.1.1.2, h.1.2, h.2⟩
mutual
theorem A8I (D N : Int) : ∀ (t : Tm) (d : Int), J1 D N t d = true → A1H A0x t = H8 t ∧ mOk A2u A0x t
 | .mk k nm num ty fr lb ks, d, h => by
  obtain ⟨h1, h2, h3, h4⟩ := W6 h
  obtain ⟨e1, e2⟩ := A8J D N ks _ h4
  have hn := U8.1 h3
  rw [A1H, H8, mOk, e1]
  refine ⟨?_, e2, ?_⟩
  ·rw [A0x]
   by_cases hk : k = 13 ∨ k = 14
   ·rw [if_pos hk, if_pos hk]
   ·rw [if_neg hk, if_neg hk]
    obtain ⟨hf, hl⟩ := hn.2.2.2.2.2.2.2.2 (by omega)
    rw [A1J hf, hl]
    by_cases hk5 : k = 5
    ·rw [if_pos hk5, if_pos hk5]
    ·rw [if_neg hk5, if_neg hk5, A1J (hn.2.2.2.2.2.2.1 (by omega))]
  ·rw [A2u]
   intro hk he
   have ha := hn.1
   have : ks.length = 0 := by
    have := congrArg List.length he
    rw [A2W, List.length_map] at this
    simpa using this
   rcases hk with rfl | rfl <;> (rw [this] at ha; revert ha; decide)
theorem A8J (D N : Int) : ∀ (ts : List Tm) (d : Int), E9 D N ts d = true → A0w A0x ts = F8 ts ∧ A1j A2u A0x ts
 | [], d, h => by rw [A0w, F8, A1j]; exact ⟨rfl, trivial⟩
 | t :: ts, d, h => by
  rw [E9, Bool.and_eq_true] at h
  obtain ⟨a1, a2⟩ := A8I D N t d h.1
  obtain ⟨b1, b2⟩ := A8J D N ts d h.2
  rw [A0w, F8, A1j, a1, b1]
  exact ⟨rfl, a2, b2⟩
end
mutual
theorem A6k : ∀ (t : Tm) (d : Int), J1 12 14 (H8 t) d = true → J1 40 13 (H8 t) d = true
 | .mk k nm num ty fr lb ks, d, h => by
  rw [H8] at h ⊢
  by_cases hk : k = 13 ∨ k = 14
  ·rw [if_pos hk] at h ⊢
   cases ks with
   | nil => exact absurd (W6 (D := 12) (N := 14) h).2.2.1 (by decide)
   | cons x xs =>
    rw [F8] at h ⊢
    exact A6k x d h
  ·rw [if_neg hk] at h ⊢
   obtain ⟨h1, h2, h3, h4⟩ := W6 h
   rw [A0O (by omega) (by omega) h3]
   exact A8K ks _ h4
theorem A8K : ∀ (ts : List Tm) (d : Int), E9 12 14 (F8 ts) d = true → E9 40 13 (F8 ts) d = true
 | [], d, h => by rw [F8, E9]
 | t :: ts, d, h => by
  rw [F8, E9, Bool.and_eq_true] at h ⊢
  exact ⟨A6k t d h.1, A8K ts d h.2⟩
end
theorem B3b {t : Tm} (h : N9 (H8 t) = true) : J3 (H8 t) = true := by
 obtain ⟨h1, h2⟩ := (A0a _).1 h
 exact (A1I _).2 ⟨A6k t 1 h1, by omega⟩
mutual
theorem A4O : ∀ t : Tm, t.small → (H8 t).small ∧ C6 (H8 t) ≤ C6 t
 | .mk k nm num ty fr lb ks, h => by
  simp only [Tm.small] at h
  obtain ⟨h1, h2, h3, h4, h5⟩ := h
  obtain ⟨b1, b2⟩ := A8L ks h5
  rw [H8]
  by_cases hk : k = 13 ∨ k = 14
  ·rw [if_pos hk]
   cases ks with
   | nil => exact ⟨by simp [F8, F4, Tm.small, Ty.small, Ty.smallL, Tm.smallL, ByteArray.size], by rw [C6]; simp [F8, F4, C6, D6]⟩
   | cons x xs =>
    simp only [Tm.smallL] at h5
    obtain ⟨c1, c2⟩ := A4O x h5.1
    rw [F8, C6, D6]
    exact ⟨c1, by show C6 (H8 x) ≤ _; omega⟩
  ·rw [if_neg hk]
   simp only [Tm.small, C6]
   refine ⟨⟨h1, ?_, by simp [A7, Ty.small, Ty.smallL], by rw [A2W, List.length_map]; exact h4, b1⟩, by omega⟩
   by_cases hk5 : k = 5
   ·rw [if_pos hk5]; simp [O9, Ty.small, Ty.smallL]
   ·rw [if_neg hk5]; simp [A7, Ty.small, Ty.smallL]
theorem A8L : ∀ ts : List Tm, Tm.smallL ts → Tm.smallL (F8 ts) ∧ D6 (F8 ts) ≤ D6 ts
 | [], h => by rw [F8]; simp [Tm.smallL]
 | t :: ts, h => by
  simp only [Tm.smallL] at h
  obtain ⟨a1, a2⟩ := A4O t h.1
  obtain ⟨b1, b2⟩ := A8L ts h.2
  rw [F8, D6, D6]
  simp only [Tm.smallL]
  exact ⟨⟨a1, b1⟩, by omega⟩
end
section slaws
variable {P : Program} {Γ : M0} {env : M4} {hp : List A4} {G : IM} {ty : TypeId}
theorem A4P {P : Program} {w : World} {l c : Nat} (hl : l ≤ c) (code : BoundsCode) : (Instr.sliceBound (.int .i64 (l : Int)) c code).run P w = .ok l w := by
 unfold Instr.sliceBound
 simp only [asIntOf, Sem.run_bind, Sem.run_pure, Result.andThen_ok]
 rw [if_pos ⟨by omega, by omega⟩]
 simp
theorem A6l {x y z : Operand} {t : TypeId} {i : L8} [hI : I1 P t i] (hd' : i.desc = .string) {s : ByteArray} {l h : Nat}
  (hx : evo env x = some (.string s)) (hy : evo env y = some (.int .i64 (l : Int))) (hz : evo env z = some (.int .i64 (h : Int))) (hl : l ≤ h) (hh : h ≤ s.size) :
  I3 P Γ ⟨env, hp, G⟩ (.slice t x (some y) (some z) none) ty (.string (s.extract l h)) := by
 refine ⟨fun a _ hs _ _ _ _ w => ?_⟩
 have hu := hI.und
 rw [hd'] at hu
 simp [execOp, (hs.evo hx : a.eval x = _), (hs.evo hy : a.eval y = _), (hs.evo hz : a.eval z = _), Instr.sliceAt, Sem.run_bind, run_underlying hu, Instr.slice, Instr.sliceBounds, A4P hl, A4P hh]
theorem A8M {x z : Operand} {t : TypeId} {i : L8} [hI : I1 P t i] (hd' : i.desc = .string) {s : ByteArray} {h : Nat}
  (hx : evo env x = some (.string s)) (hz : evo env z = some (.int .i64 (h : Int))) (hh : h ≤ s.size) :
  I3 P Γ ⟨env, hp, G⟩ (.slice t x none (some z) none) ty (.string (s.extract 0 h)) := by
 refine ⟨fun a _ hs _ _ _ _ w => ?_⟩
 have hu := hI.und
 rw [hd'] at hu
 simp [execOp, (hs.evo hx : a.eval x = _), (hs.evo hz : a.eval z = _), Instr.sliceAt, Sem.run_bind, run_underlying hu, Instr.slice, Instr.sliceBounds, A4P hh]
theorem A8N {x y : Operand} {t : TypeId} {i : L8} [hI : I1 P t i] (hd' : i.desc = .string) {s : ByteArray} {l : Nat}
  (hx : evo env x = some (.string s)) (hy : evo env y = some (.int .i64 (l : Int))) (hl : l ≤ s.size) :
  I3 P Γ ⟨env, hp, G⟩ (.slice t x (some y) none none) ty (.string (s.extract l s.size)) := by
 refine ⟨fun a _ hs _ _ _ _ w => ?_⟩
 have hu := hI.und
 rw [hd'] at hu
 simp [execOp, (hs.evo hx : a.eval x = _), (hs.evo hy : a.eval y = _), Instr.sliceAt, Sem.run_bind, run_underlying hu, Instr.slice, Instr.sliceBounds, A4P hl]
theorem B3c {x y : Operand} {t t' : TypeId} {r s : ByteArray} (hx : evo env x = some (.string r)) (hy : evo env y = some (.string s)) :
  I3 P Γ ⟨env, hp, G⟩ (.binOp .lss t x y t') ty (.bool (decide (Op.bytesLess r.toList s.toList = true))) := by
 refine ⟨fun a _ hs _ _ _ _ w => ?_⟩
 simp only [execOp, eqGuard, binOp, Op.stringOp, (hs.evo hx : a.eval x = _), (hs.evo hy : a.eval y = _)]
 simp
end slaws
theorem B3d (s nm : ByteArray) (G : IM) (hs : s.size ≤ 1000) (hn : nm.size ≤ 1000) :
  Fn Tryz.prog 186 [.string s, .string nm] [] G (fun G' v outs => G' = G ∧ outs = [] ∧ ∃ r, v = .string r ∧ r.size ≤ s.size + nm.size) := by
 refine B2 Tryz.func186 rfl Tryz.ntmps186 Tryz.results186 rfl ?_
 intro w0
 refine I6 ?_
 refine B4 ?_
 (refine K9 (fun (i : Nat) => ⟨[(5, .int .i64 (i : Int)), (0, .string s), (1, .string nm)], [], G⟩) (fun i => i ≤ s.size) (fun i => s.size - i) 0 ?_ ?_ ?_)
 exact D1
 exact Nat.zero_le _
 (intro i hi)
 refine tS (tS (tR (sQ (qM rfl) rfl (sQ (qM rfl) rfl ?_))))
 refine sQ (A2n rfl rfl) rfl (sB (K6 rfl rfl) rfl rfl (fun h23 => ?_) (fun h23 => ?_))
 refine F0 ?_
 refine sP (A1G (n := 1) rfl rfl (by omega)) rfl rfl ?_
 refine sP (A6l (h := i + 1) rfl rfl rfl rfl (by omega) (by omega)) rfl rfl ?_
 refine sQ (qM rfl) rfl ?_
 refine sB (B3c rfl rfl) rfl rfl (fun h31 => ?_) (fun h31 => ?_)
 refine sQ (L4 rfl rfl) rfl (sD (nS (qT rfl (tK (nS ?_)))))
 refine B4 ?_
 refine tR (sQ (qM rfl) rfl ?_)
 refine sP (A1G (n := 1) rfl rfl (by omega)) rfl rfl ?_
 refine sQ (qA rfl) rfl (sD (M8 ?_))
 refine K7 (i + 1) ?_ ?_ ?_
 exact D1
 (show _ ≤ s.size; omega)
 (show s.size - _ < s.size - _; omega)
 refine J2 ?_
 refine sQ (A2n rfl rfl) rfl ?_
 refine sP (B1T rfl rfl (by omega)) rfl rfl ?_
 refine F0 ?_
 refine sP (A1G (n := 1) rfl rfl (by omega)) rfl rfl ?_
 refine sP (A6l (h := i + 1) rfl rfl rfl rfl (by omega) (by omega)) rfl rfl ?_
 refine sQ (qM rfl) rfl ?_
 refine sB (A1b rfl rfl) rfl rfl (fun h72 => ?_) (fun h72 => ?_)
 refine N6 ?_
 refine H6 (outs := []) (rT rfl) A0.nil ?_
 (exact ⟨rfl, rfl, _, rfl, Nat.le_add_right _ _⟩)
 refine sQ (L4 rfl rfl) rfl (sD (nS (cF rfl (tK (nS (tS ?_))))))
 refine E1 E2 rfl ?_
 refine J5 (i := 0) (l' := [tt,ff,ff,ff,ff,ff,ff,ff,ff,ff]) rfl D5 (qM rfl) rfl (by kernel_rfl) rfl rfl ?_
 refine aP 1 rfl (qM rfl) rfl ?_
 refine aP 2 rfl (A8M rfl rfl rfl (by omega)) rfl ?_
 refine aP 3 rfl (qM rfl) rfl ?_
 refine aP 4 rfl (A2J rfl rfl (by simp only [ByteArray.size_extract, ByteArray.size_append]; omega)) rfl ?_
 refine aP 5 rfl (qM rfl) rfl ?_
 refine aP 6 rfl (qM rfl) rfl ?_
 refine aP 7 rfl (A8N rfl rfl rfl (by omega)) rfl ?_
 refine aP 8 rfl (A2J rfl rfl (by simp only [ByteArray.size_extract, ByteArray.size_append]; omega)) rfl ?_
 refine aP 9 rfl (qA rfl) rfl ?_
 refine C5 (nS (tT ?_))
 refine H6 (outs := []) (rT rfl) A0.nil ?_
 (exact ⟨rfl, rfl, _, rfl, by simp only [ByteArray.size_extract, ByteArray.size_append]; omega⟩)
 refine A5O ?_
 refine sQ (A2n rfl rfl) rfl ?_
 refine sP (A2M rfl rfl (by omega)) rfl rfl ?_
 refine H9 ?_
 refine E1 E2 rfl ?_
 refine J5 (i := 0) (l' := [tt,ff,ff,ff,ff,ff,ff,ff,ff,ff]) rfl D5 (qM rfl) rfl (by kernel_rfl) rfl rfl ?_
 refine aP 1 rfl (qM rfl) rfl ?_
 refine aP 2 rfl (A8M rfl rfl rfl (by omega)) rfl ?_
 refine aP 3 rfl (qM rfl) rfl ?_
 refine aP 4 rfl (A2J rfl rfl (by simp only [ByteArray.size_extract, ByteArray.size_append]; omega)) rfl ?_
 refine aP 5 rfl (qM rfl) rfl ?_
 refine aP 6 rfl (qM rfl) rfl ?_
 refine aP 7 rfl (A8N rfl rfl rfl (by omega)) rfl ?_
 refine aP 8 rfl (A2J rfl rfl (by simp only [ByteArray.size_extract, ByteArray.size_append]; omega)) rfl ?_
 refine aP 9 rfl (qA rfl) rfl ?_
 refine C5 (nS (tT ?_))
 refine H6 (outs := []) (rT rfl) A0.nil ?_
 (exact ⟨rfl, rfl, _, rfl, by simp only [ByteArray.size_extract, ByteArray.size_append]; omega⟩)
theorem A1l (G : IM) : B7 G A7 [.int .i64 0, .slice none 0 0] := by
 simp only [A7, B7]
 exact ⟨none, 0, [], rfl, ⟨by omega, by omega⟩, D0.of (Sl.nil _ _) rfl (by simp) (by simp), by simp [D2]⟩
theorem A6m : J7 A7 = 0 := rfl
theorem D7.tm {G : IM} {k : Int} {nm : ByteArray} {num : Int} {t : Ty} {q : Option Addr} {d : Nat} {ts : List Tm} {es : List (List Value)} {p : Option Addr} {n c : Nat} (h : D7 G ts es) (hn : ts.length = n) (hs : Sl G p n c 9 es.flatten) (hk : E6 k) (hm : E6 num)
  (ht : B7 G t [.int .i64 t.k, .slice q t.ks.length d]) : A8 G (.mk k nm num t A7 0 ts) [.int .i64 k, .string nm, .int .i64 num, .int .i64 t.k, .slice q t.ks.length d, .int .i64 0, .slice none 0 0, .int .i64 0, .slice p n c] := by
 subst hn
 simp only [A8]
 exact ⟨_, _, p, c, es, rfl, hk, hm, ⟨by omega, by omega⟩, ht, A1l G, D0.of hs h.len h.all (fun e he => (h.each e he).2), h⟩
theorem A1m {G : IM} {k : Int} {nm : ByteArray} {num : Int} (hk : E6 k) (hm : E6 num) :
  A8 G (.mk k nm num A7 A7 0 []) [.int .i64 k, .string nm, .int .i64 num, .int .i64 0, .slice none 0 0, .int .i64 0, .slice none 0 0, .int .i64 0, .slice none 0 0] :=
 D7.tm (ts := []) (es := []) (t := A7) (by simp [D7]) rfl (Sl.nil _ _) hk hm (A1l G)
theorem A1K (k : Int) (nm : ByteArray) (num : Int) : A0i (.mk k nm num A7 A7 0 []) = nm.size := by
 rw [A0i, A6m, X8]; simp
theorem A6n : ∀ (ts : List Tm) (t : Tm), X8 (ts ++ [t]) = X8 ts + A0i t
 | [], t => by simp [X8]
 | a :: ts, t => by simp only [List.cons_append, X8, A6n ts t]; omega
theorem A1L (k : Int) : C7 k ≤ 3 := by
 unfold C7; repeat (split; omega)
 omega
theorem A6o {d : Nat} (h : d ≤ 2) : dB (d + 1) ≤ 14 := by
 have : d = 0 ∨ d = 1 ∨ d = 2 := by omega
 rcases this with rfl | rfl | rfl <;> decide
theorem A11 (n : Int) (G : IM) : Fn Tryz.prog 104 [.int .i64 n] [] G (H0 (.agg ⟨[.int .i64 2, .string ⟨⟨[]⟩⟩, .int .i64 n, .int .i64 0, .slice none 0 0, .int .i64 0, .slice none 0 0, .int .i64 0, .slice none 0 0]⟩) G) := by
 refine B2 Tryz.func104 rfl Tryz.ntmps104 Tryz.results104 rfl ?_
 intro w0
 refine tS (tR ?_)
 refine sE (A5 rfl) rfl (fun b3 => ?_)
 refine I9 ?_
 refine D9 (rC rfl (A2 rfl rfl)) ?_
 exact ⟨rfl, rfl, rfl⟩
theorem A8O (br : Nat) (pb : Option Addr) (nb cb : Nat) (bs : List UInt8) (hnb : nb ≤ 2000) (p : Nat) (G : IM) (hb : Sl G pb nb cb 1 (O6 bs)) (hp : p + 3 < 1099511627776) (s : ByteArray) (hs : s.size ≤ 1000) :
  Fn Tryz.prog 185 [.pointer (some ⟨br, 0, none⟩), .string s] [rd br pb nb cb p] G
   (A0s br pb nb cb p 3 (fun G' v => ∃ t cells, v = .agg ⟨cells⟩ ∧ A8 G' t cells ∧ A0i t ≤ 1)) := by
 refine B2 Tryz.func185 rfl Tryz.ntmps185 Tryz.results185 rfl ?_
 intro w0
 refine tS (tR ?_)
 refine sE (A5 rfl) rfl (fun b3 => ?_)
 refine sD (nS (tS (tS (tR (sQ (qM rfl) rfl ?_)))))
 refine sQ (A2n rfl rfl) rfl ?_
 refine sB (X6 rfl rfl) rfl rfl (fun h11 => ?_) (fun h11 => ?_)
 refine sQ (qM rfl) rfl (sQ (qM rfl) rfl ?_)
 (refine I7 rfl (X9 _ br pb nb cb p bs _ hb hnb (by omega)) (Pk.perm (by repeat (first | exact Pk.here | apply Pk.there))) rfl rfl (fun v14 G14 outs14 hle14 hh => ?_); obtain ⟨rfl, rfl, j14, rfl, hj14, hk14⟩ := hh; obtain ⟨i14, rfl⟩ := Int.eq_ofNat_of_zero_le hj14)
 replace hb := hb.mono hle14
 refine sB (X6 rfl rfl) rfl rfl (fun h15 => ?_) (fun h15 => ?_)
 refine D3 ?_
 refine sQ (A2n rfl rfl) rfl ?_
 (refine I7 rfl (X9 _ br pb nb cb (p + 1) bs _ hb hnb (by omega)) (Pk.perm (by repeat (first | exact Pk.here | apply Pk.there))) rfl rfl (fun v25 G25 outs25 hle25 hh => ?_); obtain ⟨rfl, rfl, j25, rfl, hj25, hk25⟩ := hh; obtain ⟨i25, rfl⟩ := Int.eq_ofNat_of_zero_le hj25)
 replace hb := hb.mono hle25
 refine D3 ?_
 refine sP (A1G (n := 1) rfl rfl (by omega)) rfl rfl ?_
 refine sP (A6l rfl rfl rfl rfl (by omega) (by omega)) rfl rfl ?_
 refine sQ (W1 rfl rfl) rfl (F9 ?_)
 refine sD (nS (tT (rS ?_)))
 refine H6 (outs := [rd br pb nb cb (p + 1 + 1)]) (rC rfl (A2 rfl rfl)) (by repeat (first | exact A0.nil | refine A0.cons Pk.here ?_ | refine A0.cons (Pk.there Pk.here) ?_ | refine A0.cons (Pk.there (Pk.there Pk.here)) ?_ | apply A0.drop)) ?_
 focus (refine ⟨_, ?_, ?_, rfl, _, _, rfl, A1m ⟨by omega, by omega⟩ ⟨by omega, by omega⟩, ?_⟩; all_goals (try rw [A1K]); all_goals (first | omega | (simp only [ByteArray.size_extract]; omega) | decide))
 refine I9 ?_
 (refine I7 rfl (X9 _ br pb nb cb (p + 1) bs _ hb hnb (by omega)) (Pk.perm (by repeat (first | exact Pk.here | apply Pk.there))) rfl rfl (fun v54 G54 outs54 hle54 hh => ?_); obtain ⟨rfl, rfl, j54, rfl, hj54, hk54⟩ := hh; obtain ⟨i54, rfl⟩ := Int.eq_ofNat_of_zero_le hj54)
 replace hb := hb.mono hle54
 refine sD (nS ?_)
 refine B4 (tS (tR (sB (qE rfl rfl) rfl rfl (fun h60 => ?_) (fun h60 => ?_))))
 refine J9 ?_
 refine H6 (outs := [rd br pb nb cb (p + 1 + 1)]) (rC rfl (A2 rfl rfl)) (by repeat (first | exact A0.nil | refine A0.cons Pk.here ?_ | refine A0.cons (Pk.there Pk.here) ?_ | refine A0.cons (Pk.there (Pk.there Pk.here)) ?_ | apply A0.drop)) ?_
 focus (refine ⟨_, ?_, ?_, rfl, _, _, rfl, A1m ⟨by omega, by omega⟩ ⟨by omega, by omega⟩, ?_⟩; all_goals (try rw [A1K]); all_goals (first | omega | (simp only [ByteArray.size_extract]; omega) | decide))
 refine sQ (qA rfl) rfl (sD (nS (cF rfl (tS (tR ?_)))))
 refine sB (qE rfl rfl) rfl rfl (fun h82 => ?_) (fun h82 => ?_)
 refine J9 ?_
 refine H6 (outs := [rd br pb nb cb (p + 1 + 1)]) (rC rfl (A2 rfl rfl)) (by repeat (first | exact A0.nil | refine A0.cons Pk.here ?_ | refine A0.cons (Pk.there Pk.here) ?_ | refine A0.cons (Pk.there (Pk.there Pk.here)) ?_ | apply A0.drop)) ?_
 focus (refine ⟨_, ?_, ?_, rfl, _, _, rfl, A1m ⟨by omega, by omega⟩ ⟨by omega, by omega⟩, ?_⟩; all_goals (try rw [A1K]); all_goals (first | omega | (simp only [ByteArray.size_extract]; omega) | decide))
 refine I9 ?_
 (refine L9 (C9 rfl rfl rfl (by omega) (by unfold maxLen; omega) rfl) rfl ?_; rintro _ ⟨b108, rfl⟩)
 (refine T6 (by repeat (first | exact Pk.here | apply Pk.there)) (fun Gf hlef hslf _ => ?_); refine I7 rfl (A0c Gf br pb nb cb (p + 1 + 1) bs _ _ _ _ (hb.mono hlef) hnb (by omega) hslf (by decide)) (Pk.perm (by repeat (first | exact Pk.here | apply Pk.there))) rfl rfl (fun v Gn outs hlen hh => ?_); obtain ⟨rfl, rfl, hv⟩ := hh; obtain ⟨kn, rfl, hkn⟩ : ∃ k, v = .int .i64 k ∧ E6 k := (by simp only [List.mem_cons, List.not_mem_nil, or_false] at hv; rcases hv with rfl | rfl | rfl | rfl | rfl | rfl <;> exact ⟨_, rfl, by unfold E6; omega⟩))
 refine H3 rfl ((A11 _ _)) rfl rfl ?_
 refine F9 ?_
 refine sD (nS (tT ?_))
 refine H6 (outs := [rd br pb nb cb (p + 1 + 1 + 1)]) (rC rfl (A2 rfl rfl)) (by repeat (first | exact A0.nil | refine A0.cons Pk.here ?_ | refine A0.cons (Pk.there Pk.here) ?_ | refine A0.cons (Pk.there (Pk.there Pk.here)) ?_ | apply A0.drop)) ?_
 focus (refine ⟨_, ?_, ?_, rfl, _, _, rfl, A1m ⟨by omega, by omega⟩ hkn, ?_⟩; all_goals (try rw [A1K]); all_goals (first | omega | decide))
 refine J2 ?_
 (refine I7 rfl (X9 _ br pb nb cb p bs _ hb hnb (by omega)) (Pk.perm (by repeat (first | exact Pk.here | apply Pk.there))) rfl rfl (fun v131 G131 outs131 hle131 hh => ?_); obtain ⟨rfl, rfl, j131, rfl, hj131, hk131⟩ := hh; obtain ⟨i131, rfl⟩ := Int.eq_ofNat_of_zero_le hj131)
 replace hb := hb.mono hle131
 refine sD (nS ?_)
 refine B4 (tS (tR (sB (qE rfl rfl) rfl rfl (fun h137 => ?_) (fun h137 => ?_))))
 refine J9 ?_
 refine H6 (outs := [rd br pb nb cb (p + 1)]) (rC rfl (A2 rfl rfl)) (by repeat (first | exact A0.nil | refine A0.cons Pk.here ?_ | refine A0.cons (Pk.there Pk.here) ?_ | refine A0.cons (Pk.there (Pk.there Pk.here)) ?_ | apply A0.drop)) ?_
 focus (refine ⟨_, ?_, ?_, rfl, _, _, rfl, A1m ⟨by omega, by omega⟩ ⟨by omega, by omega⟩, ?_⟩; all_goals (try rw [A1K]); all_goals (first | omega | (simp only [ByteArray.size_extract]; omega) | decide))
 refine sQ (qA rfl) rfl (sD (nS (cF rfl (tS (tR ?_)))))
 refine sB (qE rfl rfl) rfl rfl (fun h159 => ?_) (fun h159 => ?_)
 refine J9 ?_
 refine H6 (outs := [rd br pb nb cb (p + 1)]) (rC rfl (A2 rfl rfl)) (by repeat (first | exact A0.nil | refine A0.cons Pk.here ?_ | refine A0.cons (Pk.there Pk.here) ?_ | refine A0.cons (Pk.there (Pk.there Pk.here)) ?_ | apply A0.drop)) ?_
 focus (refine ⟨_, ?_, ?_, rfl, _, _, rfl, A1m ⟨by omega, by omega⟩ ⟨by omega, by omega⟩, ?_⟩; all_goals (try rw [A1K]); all_goals (first | omega | (simp only [ByteArray.size_extract]; omega) | decide))
 refine I9 ?_
 (refine L9 (C9 rfl rfl rfl (by omega) (by unfold maxLen; omega) rfl) rfl ?_; rintro _ ⟨b185, rfl⟩)
 (refine T6 (by repeat (first | exact Pk.here | apply Pk.there)) (fun Gf hlef hslf _ => ?_); refine I7 rfl (A0c Gf br pb nb cb (p + 1) bs _ _ _ _ (hb.mono hlef) hnb (by omega) hslf (by decide)) (Pk.perm (by repeat (first | exact Pk.here | apply Pk.there))) rfl rfl (fun v Gn outs hlen hh => ?_); obtain ⟨rfl, rfl, hv⟩ := hh; obtain ⟨kn, rfl, hkn⟩ : ∃ k, v = .int .i64 k ∧ E6 k := (by simp only [List.mem_cons, List.not_mem_nil, or_false] at hv; rcases hv with rfl | rfl | rfl | rfl | rfl | rfl <;> exact ⟨_, rfl, by unfold E6; omega⟩))
 refine H3 rfl ((A11 _ _)) rfl rfl ?_
 refine F9 ?_
 refine sD (nS (tT ?_))
 refine H6 (outs := [rd br pb nb cb (p + 1 + 1)]) (rC rfl (A2 rfl rfl)) (by repeat (first | exact A0.nil | refine A0.cons Pk.here ?_ | refine A0.cons (Pk.there Pk.here) ?_ | refine A0.cons (Pk.there (Pk.there Pk.here)) ?_ | apply A0.drop)) ?_
 focus (refine ⟨_, ?_, ?_, rfl, _, _, rfl, A1m ⟨by omega, by omega⟩ hkn, ?_⟩; all_goals (try rw [A1K]); all_goals (first | omega | decide))
def tB : Nat → Nat
 | 0 => 3
 | d + 1 => 3 * tB d + 20
theorem A8P (d : Nat) : 3 ≤ tB d := by cases d <;> simp only [tB] <;> omega
theorem A8Q (br : Nat) (pb : Option Addr) (nb cb : Nat) (bs : List UInt8) (hnb : nb ≤ 2000) : ∀ (d p : Nat) (G : IM) (s : ByteArray), d ≤ 900 → s.size + d ≤ 950 → Sl G pb nb cb 1 (O6 bs) → p + tB d < 1099511627776 →
  Fn Tryz.prog 131 [.pointer (some ⟨br, 0, none⟩), .string s, .int .i64 ((d + 1 : Nat) : Int)] [rd br pb nb cb p] G
   (A0s br pb nb cb p (tB d) (fun G' v => ∃ t cells, v = .agg ⟨cells⟩ ∧ A8 G' t cells ∧ A0i t ≤ ((tB d : Nat) : Int))) := by
 refine fun d => Nat.strongRecOn d fun d ih p G s hd hs hb hp => ?_
 have hge := A8P d
 refine B2 Tryz.func131 rfl Tryz.ntmps131 Tryz.results131 rfl ?_
 intro w0
 refine tS (tR ?_)
 refine sE (A5 rfl) rfl (fun b3 => ?_)
 refine sD (nS (tS (tS (tR (sQ (qM rfl) rfl ?_)))))
 refine sB (K6 rfl rfl) rfl rfl (fun h10 => ?_) (fun h10 => ?_)
 ·refine N6 ?_
  (refine I7 rfl (A8O br pb nb cb bs hnb p _ hb (by omega) s (by omega)) (Pk.perm (by repeat (first | exact Pk.here | apply Pk.there))) rfl rfl (fun v Ga outs hlea hh => ?_); obtain ⟨pa, hpa1, hpa2, rfl, ta, cellsa, rfl, hra, hsa⟩ := hh; have hl9 := hra.len; have ho9 := hra.one)
  refine sS rfl rfl rfl hl9 ho9 rfl ?_ (hu := by exact C3 hl9.symm)
  refine sD (nS (tT (rS ?_)))
  refine H6 (outs := [rd br pb nb cb pa]) (rC rfl (A1 rfl rfl (A9 (by repeat first | exact mH | apply mT)) hl9)) (by repeat (first | exact A0.nil | refine A0.cons Pk.here ?_ | refine A0.cons (Pk.there Pk.here) ?_ | refine A0.cons (Pk.there (Pk.there Pk.here)) ?_ | apply A0.drop)) ?_
  (exact ⟨pa, by omega, by omega, rfl, ta, cellsa, rfl, hra, by omega⟩)
 ·refine sQ (qM rfl) rfl (sQ (qM rfl) rfl ?_)
  (have hB4 : 4 ≤ tB d := (by obtain ⟨d1, rfl⟩ : ∃ d1, d = d1 + 1 := ⟨d - 1, by omega⟩; simp only [tB]; have := A8P d1; omega); refine I7 rfl (X9 _ br pb nb cb p bs _ hb hnb (by omega)) (Pk.perm (by repeat (first | exact Pk.here | apply Pk.there))) rfl rfl (fun v33 G33 outs33 hle33 hh => ?_); obtain ⟨rfl, rfl, j33, rfl, hj33, hk33⟩ := hh)
  replace hb := hb.mono hle33
  refine sB (qE rfl rfl) rfl rfl (fun h34 => ?_) (fun h34 => ?_)
  ·refine D3 ?_
   (refine I7 rfl (A8O br pb nb cb bs hnb (p + 1) _ hb (by omega) s (by omega)) (Pk.perm (by repeat (first | exact Pk.here | apply Pk.there))) rfl rfl (fun v Ga outs hlea hh => ?_); obtain ⟨pa, hpa1, hpa2, rfl, ta, cellsa, rfl, hra, hsa⟩ := hh; have hl9 := hra.len; have ho9 := hra.one)
   refine sS rfl rfl rfl hl9 ho9 rfl ?_ (hu := by exact C3 hl9.symm)
   refine sD (nS (tT (rS ?_)))
   refine H6 (outs := [rd br pb nb cb pa]) (rC rfl (A1 rfl rfl (A9 (by repeat first | exact mH | apply mT)) hl9)) (by repeat (first | exact A0.nil | refine A0.cons Pk.here ?_ | refine A0.cons (Pk.there Pk.here) ?_ | refine A0.cons (Pk.there (Pk.there Pk.here)) ?_ | apply A0.drop)) ?_
   (exact ⟨pa, by omega, by omega, rfl, ta, cellsa, rfl, hra, by omega⟩)
  ·refine D4 ?_
   (refine L9 (C9 rfl rfl rfl (by omega) (by unfold maxLen; omega) rfl) rfl ?_; rintro _ ⟨b60, rfl⟩)
   (refine T6 (by repeat (first | exact Pk.here | apply Pk.there)) (fun Gf hlef hslf _ => ?_); refine I7 rfl (A0c Gf br pb nb cb (p + 1) bs _ _ _ _ (hb.mono hlef) hnb (by omega) hslf (by decide)) (Pk.perm (by repeat (first | exact Pk.here | apply Pk.there))) rfl rfl (fun v Gk outs hlek hh => ?_); obtain ⟨rfl, rfl, hv⟩ := hh; replace hb := hb.mono hlef; obtain ⟨k, rfl, hk1, hk2⟩ : ∃ k, v = .int .i64 k ∧ 5 ≤ k ∧ k ≤ 13 := (by simp only [List.mem_cons, List.not_mem_nil, or_false] at hv; rcases hv with rfl | rfl | rfl | rfl | rfl | rfl | rfl | rfl | rfl | rfl | rfl <;> exact ⟨_, rfl, by decide, by decide⟩); obtain ⟨d1, rfl⟩ : ∃ d1, d = d1 + 1 := ⟨d - 1, by omega⟩; have hB : tB (d1 + 1) = 3 * tB d1 + 20 := rfl)
   refine C2 ?_
   refine sE (A5 rfl) rfl (fun b69 => ?_)
   refine F9 ?_
   refine sD (nS (tS (tS (tR (sQ (qM rfl) rfl ?_)))))
   refine sB (qE rfl rfl) rfl rfl (fun h77 => ?_) (fun h77 => ?_)
   ·refine sD (nS ?_)
    (show I8 _ _ (.cond (.tmp 26) _ _) _ _; refine A0k (fun (x : ByteArray × ByteArray × Nat × IM) => ⟨[(7, .int .i64 k), (8, .pointer (some ⟨b69, 0, none⟩)), (6, .pointer (some ⟨b3, 0, none⟩)), (0, .pointer (some ⟨br, 0, none⟩)), (1, .string x.2.1), (2, .int .i64 ((d1 + 1 + 1 : Nat) : Int))], [.blk b69 [.int .i64 k, .string x.1, .int .i64 0, .int .i64 0, .slice none 0 0, .int .i64 0, .slice none 0 0, .int .i64 0, .slice none 0 0], .blk b3 [.int .i64 0, .string ⟨⟨[]⟩⟩, .int .i64 0, .int .i64 0, .slice none 0 0, .int .i64 0, .slice none 0 0, .int .i64 0, .slice none 0 0], rd br pb nb cb x.2.2.1], x.2.2.2⟩) (fun x => B6 Gk x.2.2.2 ∧ x.1.size ≤ 1 ∧ x.2.1.size ≤ s.size + 1 ∧ p + 2 ≤ x.2.2.1 ∧ x.2.2.1 ≤ p + 3) ?_ ?_)
    ·refine qT rfl (tS (tR (sQ (qM rfl) rfl ?_)))
     (refine L9 (C9 rfl rfl rfl (by omega) (by unfold maxLen; omega) rfl) rfl ?_; rintro _ ⟨b85, rfl⟩)
     (refine T6 (by repeat (first | exact Pk.here | apply Pk.there)) (fun Gf2 hlef2 hslf2 _ => ?_); refine I7 rfl (A6i Gf2 br pb nb cb (p + 1 + 1) bs _ _ _ _ (hb.mono hlef2) hnb (by omega) hslf2 (by decide)) (Pk.perm (by repeat (first | exact Pk.here | apply Pk.there))) rfl rfl (fun v Go outs hleo hh => ?_); obtain ⟨rfl, rfl, hv2⟩ := hh; obtain ⟨nmA, rfl, hnA⟩ : ∃ nm, v = .string nm ∧ nm.size ≤ 1 := (by simp only [List.mem_cons, List.not_mem_nil, or_false] at hv2; rcases hv2 with rfl | rfl | rfl | rfl <;> exact ⟨_, rfl, by decide⟩))
     refine D3 ?_
     (refine A2r rfl (B3d s nmA _ (by omega) (by omega)) rfl rfl (fun v Ga outs hlea hh => ?_); obtain ⟨rfl, rfl, sA, rfl, hsA⟩ := hh)
     refine sQ (qA rfl) rfl (sD ?_)
     refine Q2 (nmA, sA, p + 1 + 1 + 1, Ga) (O1 (by repeat (first | exact E3.nil | refine E3.cons rfl ?_)) (by repeat (first | exact A0.refl | exact A0.nil | refine A0.cons (by repeat (first | exact Pk.here | apply Pk.there)) ?_ | apply A0.drop))) ?_
     (dsimp only; exact ⟨hlef2, hnA, by omega, by omega, by omega⟩)
    ·(rintro ⟨(nm : ByteArray), s', p1, G1⟩ ⟨hleA, hnm, hss, hpA, hpB⟩; simp only [] at hleA hnm hss hpA hpB ⊢; replace hb := hb.mono hleA; have hmark := hleA)
     refine tS (tS ?_)
     (have hm' := hmark; refine A0k (fun (x : Bool) => ⟨(40, .bool x) :: [(7, .int .i64 k), (8, .pointer (some ⟨b69, 0, none⟩)), (6, .pointer (some ⟨b3, 0, none⟩)), (0, .pointer (some ⟨br, 0, none⟩)), (1, .string s'), (2, .int .i64 ((d1 + 1 + 1 : Nat) : Int))], [.blk b69 [.int .i64 k, .string nm, .int .i64 0, .int .i64 0, .slice none 0 0, .int .i64 0, .slice none 0 0, .int .i64 0, .slice none 0 0], .blk b3 [.int .i64 0, .string ⟨⟨[]⟩⟩, .int .i64 0, .int .i64 0, .slice none 0 0, .int .i64 0, .slice none 0 0, .int .i64 0, .slice none 0 0], rd br pb nb cb p1], G1⟩) (fun x => True) ?_ ?_)
     ·refine tR (sQ (qM rfl) rfl ?_)
      refine sP (T5 rfl rfl (by omega)) rfl rfl ?_
      refine R1 ?_
      refine Q2 true (O1 (by repeat (first | exact E3.nil | refine E3.cons rfl ?_)) (by repeat (first | exact A0.refl | exact A0.nil | refine A0.cons (by repeat (first | exact Pk.here | apply Pk.there)) ?_ | apply A0.drop))) ?_
      trivial
     ·(rintro x _; clear hmark)
      (show I8 _ _ (.cond (.tmp 40) _ _) _ _; refine A0k (fun (x : Ty × Option Addr × Nat × Nat × IM) => ⟨[(7, .int .i64 k), (8, .pointer (some ⟨b69, 0, none⟩)), (6, .pointer (some ⟨b3, 0, none⟩)), (0, .pointer (some ⟨br, 0, none⟩)), (1, .string s'), (2, .int .i64 ((d1 + 1 + 1 : Nat) : Int))], [.blk b69 [.int .i64 k, .string nm, .int .i64 0, .int .i64 x.1.k, .slice x.2.1 x.1.ks.length x.2.2.1, .int .i64 0, .slice none 0 0, .int .i64 0, .slice none 0 0], .blk b3 [.int .i64 0, .string ⟨⟨[]⟩⟩, .int .i64 0, .int .i64 0, .slice none 0 0, .int .i64 0, .slice none 0 0, .int .i64 0, .slice none 0 0], rd br pb nb cb x.2.2.2.1], x.2.2.2.2⟩) (fun x => B6 G1 x.2.2.2.2 ∧ B7 x.2.2.2.2 x.1 [.int .i64 x.1.k, .slice x.2.1 x.1.ks.length x.2.2.1] ∧ J7 x.1 ≤ 14 ∧ p1 ≤ x.2.2.2.1 ∧ x.2.2.2.1 ≤ p1 + 15) (A4g rfl (fun hxt => ?_) (fun hxf => ?_)) ?_)
      ·refine tR (sQ (qM rfl) rfl (sQ (qM rfl) rfl ?_))
       (refine L9 (C9 rfl rfl rfl (by omega) (by unfold maxLen; omega) rfl) rfl ?_; rintro _ ⟨b119, rfl⟩)
       (refine T6 (by repeat (first | exact Pk.here | apply Pk.there)) (fun Gf hlef3 hslf _ => ?_); refine I7 rfl (A0c Gf br pb nb cb p1 bs _ _ _ _ (hb.mono hlef3) hnb (by omega) hslf (by decide)) (Pk.perm (by repeat (first | exact Pk.here | apply Pk.there))) rfl rfl (fun v Gn outs hlen hh => ?_); obtain ⟨rfl, rfl, hv⟩ := hh; replace hb := hb.mono hlef3; obtain ⟨dd, rfl, hdd⟩ : ∃ d : Nat, v = .int .i64 ((d + 1 : Nat) : Int) ∧ d ≤ 2 := (by simp only [List.mem_cons, List.not_mem_nil, or_false] at hv; rcases hv with rfl | rfl | rfl | rfl <;> first | exact ⟨0, rfl, by decide⟩ | exact ⟨1, rfl, by decide⟩ | exact ⟨2, rfl, by decide⟩))
       (have hdB := A6o hdd; refine I7 rfl (A8H br pb nb cb bs hnb dd (p1 + 1) _ (by omega) hb (by omega)) (Pk.perm (by repeat (first | exact Pk.here | apply Pk.there))) rfl rfl (fun v G3 outs hle3 hh => ?_); obtain ⟨p3, hp31, hp32, rfl, t3, cells3, rfl, hr3, hs3⟩ := hh; obtain ⟨q3, c3, es3, rfl, _⟩ := hr3.open)
       refine sQ (B1 rfl) rfl (F9 ?_)
       refine sD ?_
       refine Q2 (t3, q3, c3, p3, G3) (O1 (by repeat (first | exact E3.nil | refine E3.cons rfl ?_)) (by repeat (first | exact A0.refl | exact A0.nil | refine A0.cons (by repeat (first | exact Pk.here | apply Pk.there)) ?_ | apply A0.drop))) ?_
       (dsimp only; exact ⟨hlef3.trans hle3, hr3, by omega, by omega, by omega⟩)
      ·refine tK ?_
       refine Q2 (A7, none, 0, p1, G1) (O1 (by repeat (first | exact E3.nil | refine E3.cons rfl ?_)) (by repeat (first | exact A0.refl | exact A0.nil | refine A0.cons (by repeat (first | exact Pk.here | apply Pk.there)) ?_ | apply A0.drop))) ?_
       (dsimp only; exact ⟨B6.refl _, A1l _, by decide, by omega, by omega⟩)
      ·(rintro ⟨(t' : Ty), q', c', p2, G2⟩ ⟨hleB, hrB, hsB, hpC, hpD⟩; simp only [] at hleB hrB hsB hpC hpD ⊢; replace hb := hb.mono hleB; have hop := A1L k; have hK := A4H k)
       refine tS (tS (tR (sQ (qA rfl) rfl (sD (nS ?_)))))
       refine B4 ?_
       (refine V5 28 9 ?_; refine K9 (fun (x : Nat × Option Addr × Nat × List Tm × List (List Value) × Nat × IM) => ⟨[(9, .int .i64 x.1), (7, .int .i64 k), (8, .pointer (some ⟨b69, 0, none⟩)), (6, .pointer (some ⟨b3, 0, none⟩)), (0, .pointer (some ⟨br, 0, none⟩)), (1, .string s'), (2, .int .i64 ((d1 + 1 + 1 : Nat) : Int))], [.blk b69 [.int .i64 k, .string nm, .int .i64 0, .int .i64 t'.k, .slice q' t'.ks.length c', .int .i64 0, .slice none 0 0, .int .i64 0, .slice x.2.1 x.1 x.2.2.1], .slc x.2.1 x.2.2.1 28 9 x.1 x.2.2.2.2.1.flatten, rd br pb nb cb x.2.2.2.2.2.1, .blk b3 [.int .i64 0, .string ⟨⟨[]⟩⟩, .int .i64 0, .int .i64 0, .slice none 0 0, .int .i64 0, .slice none 0 0, .int .i64 0, .slice none 0 0]], x.2.2.2.2.2.2⟩) (fun x => ((x.1 : Int) ≤ C7 k ∨ x.1 = 0) ∧ B6 G2 x.2.2.2.2.2.2 ∧ x.2.2.2.1.length = x.1 ∧ D7 x.2.2.2.2.2.2 x.2.2.2.1 x.2.2.2.2.1 ∧ X8 x.2.2.2.1 ≤ ((x.1 * tB d1 : Nat) : Int) ∧ p2 ≤ x.2.2.2.2.2.1 ∧ x.2.2.2.2.2.1 ≤ p2 + x.1 * tB d1) (fun x => (C7 k).toNat - x.1) (0, none, 0, [], [], p2, G2) ?_ ?_ ?_)
       ·(simp only [J6]; exact D1)
       ·(exact ⟨.inr rfl, B6.refl _, rfl, by simp [D7], by simp [X8], by dsimp only; omega, by dsimp only; omega⟩)
       ·(rintro ⟨i, pn, cn, ts, es', p', Gi⟩ ⟨hi, hle, hlt, hst, hsum, hq1, hq2⟩; simp only [] at hi hle hlt hst hsum hq1 hq2 ⊢; have hid : i * tB d1 ≤ 3 * tB d1 := Nat.mul_le_mul_right _ (by omega))
        refine tS (tS (tR (sQ (qM rfl) rfl (sQ (qM rfl) rfl ?_))))
        refine H3 rfl ((hK _)) rfl rfl ?_
        refine sB (K6 rfl rfl) rfl rfl (fun h148 => ?_) (fun h148 => ?_)
        ·refine sD (nS (qT rfl (tK (nS (tS ?_)))))
         refine B4 ?_
         (have hih := ih d1 (by omega) p' Gi s' (by omega) (by omega) (hb.mono hle) (by have := Nat.mul_le_mul_right (tB d1) (show i + 1 ≤ 3 by omega); rw [Nat.succ_mul] at this; omega); refine E1 E2 rfl ?_)
         refine J5 (i := 0) (l' := [tt,ff,ff,ff,ff,ff,ff,ff,ff,ff,ff]) rfl D5 (B1 rfl) rfl (by kernel_rfl) rfl rfl ?_
         refine aL 1 rfl (C0 rfl rfl) rfl ?_
         refine aP 2 rfl (qM rfl) rfl ?_
         refine aP 3 rfl (qM rfl) rfl ?_
         refine aP 4 rfl (qM rfl) rfl ?_
         refine aP 5 rfl (A4D rfl rfl (by omega)) rfl ?_
         refine A3 6 ?_
         (refine A0b (l' := [tt,tt,tt,tt,tt,tt,tt,ff,ff,ff,ff]) rfl rfl hih (Pk.perm (by repeat (first | exact Pk.here | apply Pk.there))) rfl rfl rfl (by repeat (first | exact A6.nil | apply A6.dep (by decide +kernel) | apply A6.blk (by decide +kernel) (by repeat (first | exact Pk.here | apply Pk.there)) (by repeat first | exact mH | apply mT))) (fun v G3 outs hle3 hh => ?_); obtain ⟨p3, hp31, hp32, rfl, t3, cells3, rfl, hr3, hs3⟩ := hh; obtain ⟨qt, dt, et, qf, df, ef, q3, d3, es3, rfl, _⟩ := hr3.open)
         refine A3 7 ?_
         (refine E4 rfl (C9 rfl rfl rfl (by omega) (by unfold maxLen; omega) rfl) rfl rfl ?_; rintro _ ⟨b166, rfl⟩)
         refine A3 8 ?_
         refine Q5 rfl rfl rfl rfl rfl rfl (fun _ _ => by repeat (first | exact Sw.here | apply Sw.there)) (P3 (by repeat first | exact mH | apply mT)) rfl (by simp [Value.oneCell']) (by unfold maxLen; omega) (by omega) rfl rfl (by repeat (first | exact A6.nil | apply A6.dep (by decide +kernel) | apply A6.blk (by decide +kernel) (by repeat (first | exact Pk.here | apply Pk.there)) (by repeat first | exact mH | apply mT))) (fun pn' cn' => ?_)
         refine aP 9 rfl (B1 rfl) rfl ?_
         refine A3 10 ?_
         refine R2 rfl rfl rfl rfl rfl rfl rfl rfl (by kernel_rfl) (by repeat first | exact Sw.here | apply Sw.there) (by rfl) ?_
         refine C5 (M8 (nS (tR (sQ (qM rfl) rfl ?_))))
         refine sP (K2 rfl rfl (by omega) (by omega)) rfl rfl ?_
         refine sQ (qA rfl) rfl (sD ?_)
         refine K7 (i + 1, pn', cn', ts ++ [t3], es' ++ [[.int .i64 t3.k, .string t3.nm, .int .i64 t3.num, .int .i64 t3.ty.k, .slice qt t3.ty.ks.length dt, .int .i64 t3.fr.k, .slice qf t3.fr.ks.length df, .int .i64 t3.lb, .slice q3 t3.ks.length d3]], p3, G3) ?_ ?_ ?_
         ·(simp only [J6]; exact D1)
         ·(dsimp only; have e1 : (i + 1) * tB d1 = i * tB d1 + tB d1 := Nat.succ_mul _ _; have e2 := A6n ts t3; exact ⟨.inl (by omega), hle.trans hle3, by simp [hlt], D7.snoc (hst.mono hle3) hr3, by omega, by omega, by omega⟩)
         ·(show (C7 k).toNat - (i + 1) < (C7 k).toNat - i; omega)
        ·refine J2 ?_
         (refine I5 (by repeat (first | exact Pk.here | apply Pk.there)) (fun G5 hle5 hsl5 hno5 => ?_))
         refine tT ?_
         refine H6 (outs := [rd br pb nb cb p']) (rC rfl (A2 rfl rfl)) (by repeat (first | exact A0.nil | refine A0.cons Pk.here ?_ | refine A0.cons (Pk.there Pk.here) ?_ | refine A0.cons (Pk.there (Pk.there Pk.here)) ?_ | apply A0.drop)) ?_
         (refine ⟨p', by omega, by omega, rfl, .mk k nm 0 t' A7 0 ts, _, rfl, (hst.mono hle5).tm hlt hsl5 ⟨by omega, by omega⟩ ⟨by omega, by omega⟩ (hrB.mono (hle.trans hle5)), ?_⟩; rw [A0i, A6m]; omega)
   ·refine sD (nS ?_)
    (show I8 _ _ (.cond (.tmp 26) _ _) _ _; refine A0k (fun (x : ByteArray × ByteArray × Nat × IM) => ⟨[(7, .int .i64 k), (8, .pointer (some ⟨b69, 0, none⟩)), (6, .pointer (some ⟨b3, 0, none⟩)), (0, .pointer (some ⟨br, 0, none⟩)), (1, .string x.2.1), (2, .int .i64 ((d1 + 1 + 1 : Nat) : Int))], [.blk b69 [.int .i64 k, .string x.1, .int .i64 0, .int .i64 0, .slice none 0 0, .int .i64 0, .slice none 0 0, .int .i64 0, .slice none 0 0], .blk b3 [.int .i64 0, .string ⟨⟨[]⟩⟩, .int .i64 0, .int .i64 0, .slice none 0 0, .int .i64 0, .slice none 0 0, .int .i64 0, .slice none 0 0], rd br pb nb cb x.2.2.1], x.2.2.2⟩) (fun x => B6 Gk x.2.2.2 ∧ x.1.size ≤ 1 ∧ x.2.1.size ≤ s.size + 1 ∧ p + 2 ≤ x.2.2.1 ∧ x.2.2.1 ≤ p + 3) ?_ ?_)
    ·refine cF rfl (tK ?_)
     refine Q2 (⟨⟨[]⟩⟩, s, p + 1 + 1, Gk) (O1 (by repeat (first | exact E3.nil | refine E3.cons rfl ?_)) (by repeat (first | exact A0.refl | exact A0.nil | refine A0.cons (by repeat (first | exact Pk.here | apply Pk.there)) ?_ | apply A0.drop))) ?_
     (dsimp only; exact ⟨B6.refl _, by decide, by omega, by omega, by omega⟩)
    ·(rintro ⟨(nm : ByteArray), s', p1, G1⟩ ⟨hleA, hnm, hss, hpA, hpB⟩; simp only [] at hleA hnm hss hpA hpB ⊢; replace hb := hb.mono hleA; have hmark := hleA)
     refine tS (tS ?_)
     (have hm' := hmark; refine A0k (fun (x : Bool) => ⟨(40, .bool x) :: [(7, .int .i64 k), (8, .pointer (some ⟨b69, 0, none⟩)), (6, .pointer (some ⟨b3, 0, none⟩)), (0, .pointer (some ⟨br, 0, none⟩)), (1, .string s'), (2, .int .i64 ((d1 + 1 + 1 : Nat) : Int))], [.blk b69 [.int .i64 k, .string nm, .int .i64 0, .int .i64 0, .slice none 0 0, .int .i64 0, .slice none 0 0, .int .i64 0, .slice none 0 0], .blk b3 [.int .i64 0, .string ⟨⟨[]⟩⟩, .int .i64 0, .int .i64 0, .slice none 0 0, .int .i64 0, .slice none 0 0, .int .i64 0, .slice none 0 0], rd br pb nb cb p1], G1⟩) (fun x => True) ?_ ?_)
     ·refine tR (sQ (qM rfl) rfl ?_)
      refine sP (H4 rfl rfl (by omega)) rfl rfl ?_
      refine sQ (qM rfl) rfl (sQ (qM rfl) rfl ?_)
      refine sB (qE rfl rfl) rfl rfl (fun h218 => ?_) (fun h218 => ?_)
      ·refine sQ (O3 rfl rfl) rfl (sD ?_)
       refine Q2 true (O1 (by repeat (first | exact E3.nil | refine E3.cons rfl ?_)) (by repeat (first | exact A0.refl | exact A0.nil | refine A0.cons (by repeat (first | exact Pk.here | apply Pk.there)) ?_ | apply A0.drop))) ?_
       trivial
      ·refine sQ (O3 rfl rfl) rfl (sD ?_)
       refine Q2 false (O1 (by repeat (first | exact E3.nil | refine E3.cons rfl ?_)) (by repeat (first | exact A0.refl | exact A0.nil | refine A0.cons (by repeat (first | exact Pk.here | apply Pk.there)) ?_ | apply A0.drop))) ?_
       trivial
     ·(rintro x _; clear hmark)
      (show I8 _ _ (.cond (.tmp 40) _ _) _ _; refine A0k (fun (x : Ty × Option Addr × Nat × Nat × IM) => ⟨[(7, .int .i64 k), (8, .pointer (some ⟨b69, 0, none⟩)), (6, .pointer (some ⟨b3, 0, none⟩)), (0, .pointer (some ⟨br, 0, none⟩)), (1, .string s'), (2, .int .i64 ((d1 + 1 + 1 : Nat) : Int))], [.blk b69 [.int .i64 k, .string nm, .int .i64 0, .int .i64 x.1.k, .slice x.2.1 x.1.ks.length x.2.2.1, .int .i64 0, .slice none 0 0, .int .i64 0, .slice none 0 0], .blk b3 [.int .i64 0, .string ⟨⟨[]⟩⟩, .int .i64 0, .int .i64 0, .slice none 0 0, .int .i64 0, .slice none 0 0, .int .i64 0, .slice none 0 0], rd br pb nb cb x.2.2.2.1], x.2.2.2.2⟩) (fun x => B6 G1 x.2.2.2.2 ∧ B7 x.2.2.2.2 x.1 [.int .i64 x.1.k, .slice x.2.1 x.1.ks.length x.2.2.1] ∧ J7 x.1 ≤ 14 ∧ p1 ≤ x.2.2.2.1 ∧ x.2.2.2.1 ≤ p1 + 15) (A4g rfl (fun hxt => ?_) (fun hxf => ?_)) ?_)
      ·refine tR (sQ (qM rfl) rfl (sQ (qM rfl) rfl ?_))
       (refine L9 (C9 rfl rfl rfl (by omega) (by unfold maxLen; omega) rfl) rfl ?_; rintro _ ⟨b232, rfl⟩)
       (refine T6 (by repeat (first | exact Pk.here | apply Pk.there)) (fun Gf hlef3 hslf _ => ?_); refine I7 rfl (A0c Gf br pb nb cb p1 bs _ _ _ _ (hb.mono hlef3) hnb (by omega) hslf (by decide)) (Pk.perm (by repeat (first | exact Pk.here | apply Pk.there))) rfl rfl (fun v Gn outs hlen hh => ?_); obtain ⟨rfl, rfl, hv⟩ := hh; replace hb := hb.mono hlef3; obtain ⟨dd, rfl, hdd⟩ : ∃ d : Nat, v = .int .i64 ((d + 1 : Nat) : Int) ∧ d ≤ 2 := (by simp only [List.mem_cons, List.not_mem_nil, or_false] at hv; rcases hv with rfl | rfl | rfl | rfl <;> first | exact ⟨0, rfl, by decide⟩ | exact ⟨1, rfl, by decide⟩ | exact ⟨2, rfl, by decide⟩))
       (have hdB := A6o hdd; refine I7 rfl (A8H br pb nb cb bs hnb dd (p1 + 1) _ (by omega) hb (by omega)) (Pk.perm (by repeat (first | exact Pk.here | apply Pk.there))) rfl rfl (fun v G3 outs hle3 hh => ?_); obtain ⟨p3, hp31, hp32, rfl, t3, cells3, rfl, hr3, hs3⟩ := hh; obtain ⟨q3, c3, es3, rfl, _⟩ := hr3.open)
       refine sQ (B1 rfl) rfl (F9 ?_)
       refine sD ?_
       refine Q2 (t3, q3, c3, p3, G3) (O1 (by repeat (first | exact E3.nil | refine E3.cons rfl ?_)) (by repeat (first | exact A0.refl | exact A0.nil | refine A0.cons (by repeat (first | exact Pk.here | apply Pk.there)) ?_ | apply A0.drop))) ?_
       (dsimp only; exact ⟨hlef3.trans hle3, hr3, by omega, by omega, by omega⟩)
      ·refine tK ?_
       refine Q2 (A7, none, 0, p1, G1) (O1 (by repeat (first | exact E3.nil | refine E3.cons rfl ?_)) (by repeat (first | exact A0.refl | exact A0.nil | refine A0.cons (by repeat (first | exact Pk.here | apply Pk.there)) ?_ | apply A0.drop))) ?_
       (dsimp only; exact ⟨B6.refl _, A1l _, by decide, by omega, by omega⟩)
      ·(rintro ⟨(t' : Ty), q', c', p2, G2⟩ ⟨hleB, hrB, hsB, hpC, hpD⟩; simp only [] at hleB hrB hsB hpC hpD ⊢; replace hb := hb.mono hleB; have hop := A1L k; have hK := A4H k)
       refine tS (tS (tR (sQ (qA rfl) rfl (sD (nS ?_)))))
       refine B4 ?_
       (refine V5 28 9 ?_; refine K9 (fun (x : Nat × Option Addr × Nat × List Tm × List (List Value) × Nat × IM) => ⟨[(9, .int .i64 x.1), (7, .int .i64 k), (8, .pointer (some ⟨b69, 0, none⟩)), (6, .pointer (some ⟨b3, 0, none⟩)), (0, .pointer (some ⟨br, 0, none⟩)), (1, .string s'), (2, .int .i64 ((d1 + 1 + 1 : Nat) : Int))], [.blk b69 [.int .i64 k, .string nm, .int .i64 0, .int .i64 t'.k, .slice q' t'.ks.length c', .int .i64 0, .slice none 0 0, .int .i64 0, .slice x.2.1 x.1 x.2.2.1], .slc x.2.1 x.2.2.1 28 9 x.1 x.2.2.2.2.1.flatten, rd br pb nb cb x.2.2.2.2.2.1, .blk b3 [.int .i64 0, .string ⟨⟨[]⟩⟩, .int .i64 0, .int .i64 0, .slice none 0 0, .int .i64 0, .slice none 0 0, .int .i64 0, .slice none 0 0]], x.2.2.2.2.2.2⟩) (fun x => ((x.1 : Int) ≤ C7 k ∨ x.1 = 0) ∧ B6 G2 x.2.2.2.2.2.2 ∧ x.2.2.2.1.length = x.1 ∧ D7 x.2.2.2.2.2.2 x.2.2.2.1 x.2.2.2.2.1 ∧ X8 x.2.2.2.1 ≤ ((x.1 * tB d1 : Nat) : Int) ∧ p2 ≤ x.2.2.2.2.2.1 ∧ x.2.2.2.2.2.1 ≤ p2 + x.1 * tB d1) (fun x => (C7 k).toNat - x.1) (0, none, 0, [], [], p2, G2) ?_ ?_ ?_)
       ·(simp only [J6]; exact D1)
       ·(exact ⟨.inr rfl, B6.refl _, rfl, by simp [D7], by simp [X8], by dsimp only; omega, by dsimp only; omega⟩)
       ·(rintro ⟨i, pn, cn, ts, es', p', Gi⟩ ⟨hi, hle, hlt, hst, hsum, hq1, hq2⟩; simp only [] at hi hle hlt hst hsum hq1 hq2 ⊢; have hid : i * tB d1 ≤ 3 * tB d1 := Nat.mul_le_mul_right _ (by omega))
        refine tS (tS (tR (sQ (qM rfl) rfl (sQ (qM rfl) rfl ?_))))
        refine H3 rfl ((hK _)) rfl rfl ?_
        refine sB (K6 rfl rfl) rfl rfl (fun h261 => ?_) (fun h261 => ?_)
        ·refine sD (nS (qT rfl (tK (nS (tS ?_)))))
         refine B4 ?_
         (have hih := ih d1 (by omega) p' Gi s' (by omega) (by omega) (hb.mono hle) (by have := Nat.mul_le_mul_right (tB d1) (show i + 1 ≤ 3 by omega); rw [Nat.succ_mul] at this; omega); refine E1 E2 rfl ?_)
         refine J5 (i := 0) (l' := [tt,ff,ff,ff,ff,ff,ff,ff,ff,ff,ff]) rfl D5 (B1 rfl) rfl (by kernel_rfl) rfl rfl ?_
         refine aL 1 rfl (C0 rfl rfl) rfl ?_
         refine aP 2 rfl (qM rfl) rfl ?_
         refine aP 3 rfl (qM rfl) rfl ?_
         refine aP 4 rfl (qM rfl) rfl ?_
         refine aP 5 rfl (A4D rfl rfl (by omega)) rfl ?_
         refine A3 6 ?_
         (refine A0b (l' := [tt,tt,tt,tt,tt,tt,tt,ff,ff,ff,ff]) rfl rfl hih (Pk.perm (by repeat (first | exact Pk.here | apply Pk.there))) rfl rfl rfl (by repeat (first | exact A6.nil | apply A6.dep (by decide +kernel) | apply A6.blk (by decide +kernel) (by repeat (first | exact Pk.here | apply Pk.there)) (by repeat first | exact mH | apply mT))) (fun v G3 outs hle3 hh => ?_); obtain ⟨p3, hp31, hp32, rfl, t3, cells3, rfl, hr3, hs3⟩ := hh; obtain ⟨qt, dt, et, qf, df, ef, q3, d3, es3, rfl, _⟩ := hr3.open)
         refine A3 7 ?_
         (refine E4 rfl (C9 rfl rfl rfl (by omega) (by unfold maxLen; omega) rfl) rfl rfl ?_; rintro _ ⟨b279, rfl⟩)
         refine A3 8 ?_
         refine Q5 rfl rfl rfl rfl rfl rfl (fun _ _ => by repeat (first | exact Sw.here | apply Sw.there)) (P3 (by repeat first | exact mH | apply mT)) rfl (by simp [Value.oneCell']) (by unfold maxLen; omega) (by omega) rfl rfl (by repeat (first | exact A6.nil | apply A6.dep (by decide +kernel) | apply A6.blk (by decide +kernel) (by repeat (first | exact Pk.here | apply Pk.there)) (by repeat first | exact mH | apply mT))) (fun pn' cn' => ?_)
         refine aP 9 rfl (B1 rfl) rfl ?_
         refine A3 10 ?_
         refine R2 rfl rfl rfl rfl rfl rfl rfl rfl (by kernel_rfl) (by repeat first | exact Sw.here | apply Sw.there) (by rfl) ?_
         refine C5 (M8 (nS (tR (sQ (qM rfl) rfl ?_))))
         refine sP (K2 rfl rfl (by omega) (by omega)) rfl rfl ?_
         refine sQ (qA rfl) rfl (sD ?_)
         refine K7 (i + 1, pn', cn', ts ++ [t3], es' ++ [[.int .i64 t3.k, .string t3.nm, .int .i64 t3.num, .int .i64 t3.ty.k, .slice qt t3.ty.ks.length dt, .int .i64 t3.fr.k, .slice qf t3.fr.ks.length df, .int .i64 t3.lb, .slice q3 t3.ks.length d3]], p3, G3) ?_ ?_ ?_
         ·(simp only [J6]; exact D1)
         ·(dsimp only; have e1 : (i + 1) * tB d1 = i * tB d1 + tB d1 := Nat.succ_mul _ _; have e2 := A6n ts t3; exact ⟨.inl (by omega), hle.trans hle3, by simp [hlt], D7.snoc (hst.mono hle3) hr3, by omega, by omega, by omega⟩)
         ·(show (C7 k).toNat - (i + 1) < (C7 k).toNat - i; omega)
        ·refine J2 ?_
         (refine I5 (by repeat (first | exact Pk.here | apply Pk.there)) (fun G5 hle5 hsl5 hno5 => ?_))
         refine tT ?_
         refine H6 (outs := [rd br pb nb cb p']) (rC rfl (A2 rfl rfl)) (by repeat (first | exact A0.nil | refine A0.cons Pk.here ?_ | refine A0.cons (Pk.there Pk.here) ?_ | refine A0.cons (Pk.there (Pk.there Pk.here)) ?_ | apply A0.drop)) ?_
         (refine ⟨p', by omega, by omega, rfl, .mk k nm 0 t' A7 0 ts, _, rfl, (hst.mono hle5).tm hlt hsl5 ⟨by omega, by omega⟩ ⟨by omega, by omega⟩ (hrB.mono (hle.trans hle5)), ?_⟩; rw [A0i, A6m]; omega)
theorem Sl.pre {G : IM} {p : Option Addr} {n c m : Nat} {cs : List Value} (h : Sl G p n c 1 cs) (hm : m ≤ n) : Sl G p m c 1 (cs.take m) := by
 obtain ⟨h1, h2, h3, h4⟩ := h
 refine ⟨by rw [List.length_take]; omega, by omega, h3, ?_⟩
 rcases h4 with h4 | ⟨b, o, full, e1, e2, e3⟩
 ·exact .inl (by omega)
 ·refine .inr ⟨b, o, full, e1, e2, fun j v hj => e3 j v ?_⟩
  rw [List.getElem?_take] at hj
  split at hj
  ·exact hj
  ·cases hj
theorem B3e (bs : List UInt8) (m : Nat) : O6 (bs.take m) = (O6 bs).take m := by unfold O6; rw [List.map_take]
theorem A8R {d : Nat} (h : d ≤ 4) : tB d ≤ 1043 := by
 have : d = 0 ∨ d = 1 ∨ d = 2 ∨ d = 3 ∨ d = 4 := by omega
 rcases this with rfl | rfl | rfl | rfl | rfl <;> decide
def A3O (G : IM) : IM → Value → List A4 → Prop := fun G' v outs => G' = G ∧ ∃ br pb nb cb bs, v = .pointer (some ⟨br, 0, none⟩) ∧ outs = [rd br pb nb cb 0] ∧ nb ≤ 2000 ∧ Sl G pb nb cb 1 (O6 bs)
theorem A3O.mk {G : IM} {b : Nat} {pb : Option Addr} {nb cb : Nat} {bs : List UInt8} (h : nb ≤ 2000) (hb : Sl G pb nb cb 1 (O6 bs)) : A3O G G (.pointer (some ⟨b, 0, none⟩)) [.blk b [.slice pb nb cb, .int .i64 0]] := ⟨rfl, _, _, _, _, bs, rfl, rfl, h, hb⟩
theorem B3f (G : IM) (q : Option Addr) (n c : Nat) (bs : List UInt8) (hb : Sl G q n c 1 (O6 bs)) :
  Fn Tryz.prog 43 [.slice q n c] [] G (A3O G) := by
 have hn := hb.le
 have hnc := hb.2.1
 have hpre := fun h : 2000 ≤ n => hb.pre h
 refine B2 Tryz.func43 rfl Tryz.ntmps43 Tryz.results43 rfl ?_
 intro w0
 refine I9 ?_
 refine sB (X6 rfl rfl) rfl rfl (fun h11 => ?_) (fun h11 => ?_)
 refine sD (nS (qT rfl (tR (sQ (qM rfl) rfl ?_))))
 refine sP (A55 (l := 2000) rfl rfl rfl (by omega)) rfl rfl ?_
 refine C2 ?_
 refine sE (B9 rfl rfl) rfl (fun b25 => ?_)
 refine sQ (qA rfl) rfl (sD (nS (tT ?_)))
 refine H6 (rT rfl) A0.refl ?_
 exact A3O.mk (Nat.le_refl _) (by rw [B3e]; exact hpre (by omega))
 refine D4 ?_
 refine sE (B9 rfl rfl) rfl (fun b41 => ?_)
 refine sQ (qA rfl) rfl (sD (nS (tT ?_)))
 refine H6 (rT rfl) A0.refl ?_
 exact A3O.mk (by omega) hb
theorem A8S (br : Nat) (pb : Option Addr) (nb cb : Nat) (bs : List UInt8) (hnb : nb ≤ 2000) (p : Nat) (G : IM) (hb : Sl G pb nb cb 1 (O6 bs)) (hp : p + 1100 < 1099511627776) :
  Fn Tryz.prog 130 [.pointer (some ⟨br, 0, none⟩)] [rd br pb nb cb p] G
   (A0s br pb nb cb p 1100 (fun G' v => ∃ t cells, v = .agg ⟨cells⟩ ∧ A8 G' t cells ∧ A0i t ≤ 1043)) := by
 refine B2 Tryz.func130 rfl Tryz.ntmps130 Tryz.results130 rfl ?_
 intro w0
 refine tS (tR ?_)
 refine sE (A5 rfl) rfl (fun b3 => ?_)
 refine sD (nS (tS (tR (sQ (qM rfl) rfl (sQ (qM rfl) rfl ?_)))))
 (refine L9 (C9 rfl rfl rfl (by omega) (by unfold maxLen; omega) rfl) rfl ?_; rintro _ ⟨b10, rfl⟩)
 (refine T6 (by repeat (first | exact Pk.here | apply Pk.there)) (fun Gf hlef hslf _ => ?_); refine I7 rfl (A0c Gf br pb nb cb p bs _ _ _ _ (hb.mono hlef) hnb (by omega) hslf (by decide)) (Pk.perm (by repeat (first | exact Pk.here | apply Pk.there))) rfl rfl (fun v Gn outs hlen hh => ?_); obtain ⟨rfl, rfl, hv⟩ := hh; replace hb := hb.mono hlef; obtain ⟨dd, rfl, hdd⟩ : ∃ d : Nat, v = .int .i64 ((d + 1 : Nat) : Int) ∧ d ≤ 4 := (by simp only [List.mem_cons, List.not_mem_nil, or_false] at hv; rcases hv with rfl | rfl | rfl | rfl | rfl <;> first | exact ⟨3, rfl, by decide⟩ | exact ⟨2, rfl, by decide⟩ | exact ⟨4, rfl, by decide⟩ | exact ⟨1, rfl, by decide⟩); have htB := A8R hdd)
 (refine I7 rfl (A8Q br pb nb cb bs hnb dd (p + 1) Gn ⟨⟨[]⟩⟩ (by omega) (by have hz : (⟨⟨[]⟩⟩ : ByteArray).size ≤ 2 := (by decide); omega) hb (by omega)) (Pk.perm (by repeat (first | exact Pk.here | apply Pk.there))) rfl rfl (fun v G3 outs hle3 hh => ?_); obtain ⟨p3, hp31, hp32, rfl, t3, cells3, rfl, hr3, hs3⟩ := hh; have hl3 := hr3.len; have ho3 := hr3.one; have hc3 := A3C t3; have hv3 := A4L t3 G3 cells3 (by omega) hr3)
 refine sE (A5 rfl) rfl (fun b13 => ?_)
 refine sS rfl rfl rfl hl3 ho3 rfl ?_ (hu := by exact C3 hl3.symm)
 refine sD (nS (tS (tS (tR ?_))))
 refine sL (A1 rfl rfl (A9 (by repeat first | exact mH | apply mT)) hl3) rfl rfl ?_
 refine D8 rfl (hv3) rfl rfl (fun h21 => ?_) (fun h21 => ?_)
 refine sD (nS (qT rfl (tS (tR ?_))))
 refine sL (A1 rfl rfl (A9 (by repeat first | exact mH | apply mT)) hl3) rfl rfl ?_
 refine sS rfl rfl rfl hl3 ho3 rfl ?_ (hu := by exact C3 hl3.symm)
 refine sD (nS (tT (rS ?_)))
 refine H6 (outs := [rd br pb nb cb p3]) (rC rfl (A1 rfl rfl (A9 (by repeat first | exact mH | apply mT)) hl3)) (by repeat (first | exact A0.nil | refine A0.cons Pk.here ?_ | refine A0.cons (Pk.there Pk.here) ?_ | refine A0.cons (Pk.there (Pk.there Pk.here)) ?_ | apply A0.drop)) ?_
 (exact ⟨p3, by omega, by omega, rfl, t3, cells3, rfl, hr3, by omega⟩)
 refine sD (nS (cF rfl (tK (nS (tS (tR ?_))))))
 refine H3 rfl ((A11 _ _)) rfl rfl ?_
 refine F9 ?_
 refine sD (nS (tT ?_))
 refine H6 (outs := [rd br pb nb cb p3]) (rC rfl (A2 rfl rfl)) (by repeat (first | exact A0.nil | refine A0.cons Pk.here ?_ | refine A0.cons (Pk.there Pk.here) ?_ | refine A0.cons (Pk.there (Pk.there Pk.here)) ?_ | apply A0.drop)) ?_
 (exact ⟨p3, by omega, by omega, rfl, _, _, rfl, A1m ⟨by omega, by omega⟩ ⟨by omega, by omega⟩, by rw [A1K]; decide⟩)
theorem B3g (br : Nat) (pb : Option Addr) (nb cb : Nat) (bs : List UInt8) (hnb : nb ≤ 2000) (p : Nat) (G : IM) (hb : Sl G pb nb cb 1 (O6 bs)) (hp : p + 1200 < 1099511627776) :
  Fn Tryz.prog 60 [.pointer (some ⟨br, 0, none⟩)] [rd br pb nb cb p] G
   (A0s br pb nb cb p 1200 (fun G' v => ∃ t cells, v = .agg ⟨cells⟩ ∧ A8 G' t cells ∧ A0i t ≤ 1043)) := by
 refine B2 Tryz.func60 rfl Tryz.ntmps60 Tryz.results60 rfl ?_
 intro w0
 refine tS (tR ?_)
 refine sE (A5 rfl) rfl (fun b3 => ?_)
 refine sD (nS (tS (tS (tR (sQ (qM rfl) rfl ?_)))))
 (refine I7 rfl (X9 _ br pb nb cb p bs _ hb hnb (by omega)) (Pk.perm (by repeat (first | exact Pk.here | apply Pk.there))) rfl rfl (fun v10 G10 outs10 hle10 hh => ?_); obtain ⟨rfl, rfl, j10, rfl, hj10, hk10⟩ := hh)
 replace hb := hb.mono hle10
 refine sB (X6 rfl rfl) rfl rfl (fun h11 => ?_) (fun h11 => ?_)
 refine sD (nS (qT rfl (tS (tR (sQ (qM rfl) rfl ?_)))))
 (refine I7 rfl (A8S br pb nb cb bs hnb (p + 1) _ hb (by omega)) (Pk.perm (by repeat (first | exact Pk.here | apply Pk.there))) rfl rfl (fun v G3 outs hle3 hh => ?_); obtain ⟨p3, hp31, hp32, rfl, t3, cells3, rfl, hr3, hs3⟩ := hh; have hl3 := hr3.len; have ho3 := hr3.one)
 refine sS rfl rfl rfl hl3 ho3 rfl ?_ (hu := by exact C3 hl3.symm)
 refine sD (nS (tT (rS ?_)))
 refine H6 (outs := [rd br pb nb cb p3]) (rC rfl (A1 rfl rfl (A9 (by repeat first | exact mH | apply mT)) hl3)) (by repeat (first | exact A0.nil | refine A0.cons Pk.here ?_ | refine A0.cons (Pk.there Pk.here) ?_ | refine A0.cons (Pk.there (Pk.there Pk.here)) ?_ | apply A0.drop)) ?_
 (exact ⟨p3, by omega, by omega, rfl, t3, cells3, rfl, hr3, by omega⟩)
 refine D4 ?_
 (refine L9 (C9 rfl rfl rfl (by omega) (by unfold maxLen; omega) rfl) rfl ?_; rintro _ ⟨b35, rfl⟩)
 (refine T6 (by repeat (first | exact Pk.here | apply Pk.there)) (fun Gf hlef hslf _ => ?_); refine I7 rfl (A0c Gf br pb nb cb (p + 1) bs _ _ _ _ (hb.mono hlef) hnb (by omega) hslf (by decide)) (Pk.perm (by repeat (first | exact Pk.here | apply Pk.there))) rfl rfl (fun v Gn outs hlen hh => ?_); obtain ⟨rfl, rfl, hv⟩ := hh; replace hb := hb.mono hlef; obtain ⟨dd, rfl, hdd⟩ : ∃ d : Nat, v = .int .i64 ((d + 1 : Nat) : Int) ∧ d ≤ 4 := (by simp only [List.mem_cons, List.not_mem_nil, or_false] at hv; rcases hv with rfl | rfl | rfl <;> first | exact ⟨2, rfl, by decide⟩ | exact ⟨1, rfl, by decide⟩ | exact ⟨3, rfl, by decide⟩); have htB := A8R hdd)
 (refine I7 rfl (A8Q br pb nb cb bs hnb dd (p + 1 + 1) Gn ⟨⟨[120, 122]⟩⟩ (by omega) (by have hz : (⟨⟨[120, 122]⟩⟩ : ByteArray).size ≤ 2 := (by decide); omega) hb (by omega)) (Pk.perm (by repeat (first | exact Pk.here | apply Pk.there))) rfl rfl (fun v G3 outs hle3 hh => ?_); obtain ⟨p3, hp31, hp32, rfl, t3, cells3, rfl, hr3, hs3⟩ := hh; have hl3 := hr3.len; have ho3 := hr3.one; have hc3 := A3C t3; have hv3 := A4L t3 G3 cells3 (by omega) hr3)
 refine sE (A5 rfl) rfl (fun b38 => ?_)
 refine sS rfl rfl rfl hl3 ho3 rfl ?_ (hu := by exact C3 hl3.symm)
 refine sD (nS (tS (tS (tR ?_))))
 refine sL (A1 rfl rfl (A9 (by repeat first | exact mH | apply mT)) hl3) rfl rfl ?_
 refine D8 rfl (hv3) rfl rfl (fun h46 => ?_) (fun h46 => ?_)
 refine sD (nS (qT rfl (tS (tR ?_))))
 refine sL (A1 rfl rfl (A9 (by repeat first | exact mH | apply mT)) hl3) rfl rfl ?_
 refine sS rfl rfl rfl hl3 ho3 rfl ?_ (hu := by exact C3 hl3.symm)
 refine sD (nS (tT (rS ?_)))
 refine H6 (outs := [rd br pb nb cb p3]) (rC rfl (A1 rfl rfl (A9 (by repeat first | exact mH | apply mT)) hl3)) (by repeat (first | exact A0.nil | refine A0.cons Pk.here ?_ | refine A0.cons (Pk.there Pk.here) ?_ | refine A0.cons (Pk.there (Pk.there Pk.here)) ?_ | apply A0.drop)) ?_
 (exact ⟨p3, by omega, by omega, rfl, t3, cells3, rfl, hr3, by omega⟩)
 refine sD (nS (cF rfl (tK (nS (tS (tR ?_))))))
 refine H3 rfl ((A11 _ _)) rfl rfl ?_
 refine F9 ?_
 refine sD (nS (tT ?_))
 refine H6 (outs := [rd br pb nb cb p3]) (rC rfl (A2 rfl rfl)) (by repeat (first | exact A0.nil | refine A0.cons Pk.here ?_ | refine A0.cons (Pk.there Pk.here) ?_ | refine A0.cons (Pk.there (Pk.there Pk.here)) ?_ | apply A0.drop)) ?_
 (exact ⟨p3, by omega, by omega, rfl, _, _, rfl, A1m ⟨by omega, by omega⟩ ⟨by omega, by omega⟩, by rw [A1K]; decide⟩)
theorem A1n (G : IM) : Fn Tryz.prog 182 [] [] G (H0 (.agg ⟨[.int .i64 2, .slice none 0 0]⟩) G) := by
 refine B2 Tryz.func182 rfl Tryz.ntmps182 Tryz.results182 rfl ?_
 intro w0
 refine tS (tR ?_)
 refine sE (A5 rfl) rfl (fun b3 => ?_)
 refine D4 ?_
 refine D9 (rC rfl (A2 rfl rfl)) ?_
 exact ⟨rfl, rfl, rfl⟩
theorem A3P (G : IM) : Fn Tryz.prog 180 [] [] G (H0 (.agg ⟨[.int .i64 3, .slice none 0 0]⟩) G) := by
 refine B2 Tryz.func180 rfl Tryz.ntmps180 Tryz.results180 rfl ?_
 intro w0
 refine tS (tR ?_)
 refine sE (A5 rfl) rfl (fun b3 => ?_)
 refine D4 ?_
 refine D9 (rC rfl (A2 rfl rfl)) ?_
 exact ⟨rfl, rfl, rfl⟩
theorem A2v (G : IM) (k : Int) (p : Option Addr) (n c : Nat) : Fn Tryz.prog 179 [.int .i64 k, .slice p n c] [] G (H0 (.agg ⟨[.int .i64 k, .string ⟨⟨[]⟩⟩, .int .i64 0, .int .i64 0, .slice none 0 0, .int .i64 0, .slice none 0 0, .int .i64 0, .slice p n c]⟩) G) := by
 refine B2 Tryz.func179 rfl Tryz.ntmps179 Tryz.results179 rfl ?_
 intro w0
 refine tS (tR ?_)
 refine sE (A5 rfl) rfl (fun b3 => ?_)
 refine I6 ?_
 refine D9 (rC rfl (A2 rfl rfl)) ?_
 exact ⟨rfl, rfl, rfl⟩
theorem N3 (G : IM) {k : Int} (hk : E6 k) : B7 G (.mk k []) [.int .i64 k, .slice none 0 0] := by
 simp only [B7]
 exact ⟨none, 0, [], rfl, hk, D0.of (Sl.nil _ _) rfl (by simp) (by simp), by simp [D2]⟩
theorem A8T (k : Int) : J7 (.mk k []) = 0 := rfl
def TyB (B : Int) (G : IM) : IM → Value → List A4 → Prop := L5 fun G' v => ∃ t cells b, v = .tuple ⟨[.agg ⟨cells⟩, .bool b]⟩ ∧ B7 G' t cells ∧ E5 t ∧ J7 t ≤ B
theorem A4Q {k : Int} {a b : Ty} (hk : k = 4 ∨ k = 5) (ha : E5 a) (hb : E5 b) : E5 (.mk k [a, b]) := by
 rw [E5]
 exact ⟨fun _ => rfl, fun h4 h5 => by omega, by simp [A0N, ha, hb]⟩
theorem T9 {k : Int} (h4 : k ≠ 4) (h5 : k ≠ 5) : E5 (.mk k []) := (A2U 0 h4 h5).ar
theorem E5.kid {k : Int} {ks : List Ty} (h : E5 (.mk k ks)) : ∀ t ∈ ks, E5 t := by
 rw [E5] at h; exact A3D.1 h.2.2
theorem E5.two {k : Int} {ks : List Ty} (h : E5 (.mk k ks)) : ks.length ≤ 2 := by
 rw [E5] at h
 have h1 := h.1
 have h2 := h.2.1
 omega
theorem A6p : ∀ {ks : List Ty} {t : Ty}, t ∈ ks → J7 t ≤ O4 ks
 | [], t, h => by simp at h
 | t' :: ts, t, h => by
  rw [O4]
  have := A03 t'
  have := A1F ts
  rcases List.mem_cons.1 h with rfl | h
  ·omega
  ·have := A6p h; omega
theorem B3h {k : Int} {ks : List Ty} {t : Ty} (h : t ∈ ks) : J7 t ≤ J7 (.mk k ks) := by
 have := A6p h
 rw [J7]; omega
def B7P (B : Int) (G : IM) : IM → Value → List A4 → Prop := L5 fun G' v => ∃ a ca b cb x, v = .tuple ⟨[.agg ⟨ca⟩, .agg ⟨cb⟩, .bool x]⟩ ∧ B7 G' a ca ∧ E5 a ∧ J7 a ≤ B ∧ B7 G' b cb ∧ E5 b ∧ J7 b ≤ B
def TyP (B : Int) (Q : Ty → Prop) (G : IM) : IM → Value → List A4 → Prop := L5 fun G' v => ∃ t cells, v = .agg ⟨cells⟩ ∧ B7 G' t cells ∧ E5 t ∧ J7 t ≤ B ∧ Q t
theorem A8U {k : Int} {ks us : List Ty} (h : E5 (.mk k ks)) (hl : us.length = ks.length) (hu : ∀ u ∈ us, E5 u) : E5 (.mk k us) := by
 rw [E5] at h ⊢
 exact ⟨fun hk => by rw [hl]; exact h.1 hk, fun a b => by rw [hl]; exact h.2.1 a b, A3D.2 hu⟩
theorem A2X {P : Ty → Prop} {us : List Ty} {u : Ty} (h : ∀ x ∈ us, P x) (hu : P u) : ∀ x ∈ us ++ [u], P x := by
 simp only [List.forall_mem_append, List.forall_mem_singleton]; exact ⟨h, hu⟩
theorem A1M : ∀ (t t' : Ty) (G : IM) (cells cells' : List Value), E5 t → E5 t' → B7 G t cells → B7 G t' cells' →
  Fn Tryz.prog 107 [.agg ⟨cells⟩, .agg ⟨cells'⟩] [] G (H0 (.bool (K1 t t')) G) := by
 refine Ty.ind fun k ks ih t' G cells cells' ha ha' hr hr' => ?_
 obtain ⟨k', ks'⟩ := t'
 obtain ⟨p, c, es, rfl, hk, hsl, hkl⟩ := hr.open
 obtain ⟨p', c', es', rfl, hk', hsl', hkl'⟩ := hr'.open
 simp only [Ty.k, Ty.ks] at hk hsl hkl hk' hsl' hkl' ⊢
 have hn := hsl.le
 have hn' := hsl'.le
 have hv2 := ha.kid
 have hv2' := ha'.kid
 rw [E5] at ha ha'
 have hle : k = k' → ks.length = ks'.length := by
  rintro rfl
  have h1 := ha.1
  have h2 := ha.2.1
  have h3 := ha'.1
  have h4 := ha'.2.1
  omega
 refine B2 Tryz.func107 rfl Tryz.ntmps107 Tryz.results107 rfl ?_
 intro w0
 refine tS (tR ?_)
 refine sE (B9 rfl rfl) rfl (fun b3 => ?_)
 refine sE (B9 rfl rfl) rfl (fun b4 => ?_)
 refine D3 ?_
 refine sB (qE rfl rfl) rfl rfl (fun h13 => ?_) (fun h13 => ?_)
 refine K4 ?_
 (rw [A4J (by omega)]; exact ⟨rfl, rfl, rfl⟩)
 refine K3 ?_
 refine sB (qE rfl rfl) rfl rfl (fun h34 => ?_) (fun h34 => ?_)
 refine N6 ?_
 (rw [A4J (by omega)]; exact ⟨rfl, rfl, rfl⟩)
 refine J9 ?_
 refine sB (M7 rfl rfl) rfl rfl (fun h61 => ?_) (fun h61 => ?_)
 refine I6 ?_
 (rw [A8s (by omega) (by omega) (by omega)]; exact ⟨rfl, rfl, rfl⟩)
 refine I6 ?_
 refine B4 ?_
 (have hll : ks.length = ks'.length := hle (by omega); refine K9 (fun (i : Nat) => ⟨[(5, .int .i64 i), (3, .pointer (some ⟨b4, 0, none⟩)), (2, .pointer (some ⟨b3, 0, none⟩))], [.blk b3 [.int .i64 k, .slice p ks.length c], .blk b4 [.int .i64 k', .slice p' ks'.length c']], G⟩) (fun i => i ≤ ks.length ∧ ∀ j (h : j < ks.length) (h' : j < ks'.length), j < i → K1 ks[j] ks'[j] = true) (fun i => ks.length - i) 0 ?_ ?_ ?_)
 exact D1
 exact ⟨by omega, by omega⟩
 (rintro i ⟨hi, hf⟩)
 refine C2 ?_
 refine sB (K6 rfl rfl) rfl rfl (fun h97 => ?_) (fun h97 => ?_)
 refine sD (nS (qT rfl (tK (nS (tS ?_)))))
 refine B4 ?_
 refine tS ?_
 (obtain ⟨b, o, p2, c2, rfl, hat, hre, hgb⟩ := hsl.kidTy hkl (i := i) (by omega) (by omega); obtain ⟨b', o', p2', c2', rfl, hat', hre', hgb'⟩ := hsl'.kidTy hkl' (i := i) (by omega) (by omega); refine E1 E2 rfl ?_)
 refine J5 (i := 0) (l' := [tt,ff,ff,ff,ff,ff,ff,ff,ff,ff,ff,ff]) rfl D5 (B1 rfl) rfl (by kernel_rfl) rfl rfl ?_
 refine aL 1 rfl (C0 rfl rfl) rfl ?_
 refine aP 2 rfl (qM rfl) rfl ?_
 refine aP 3 rfl (B3 rfl rfl rfl (by omega)) rfl ?_
 refine aL 4 rfl (A1 rfl rfl (hat _) rfl) rfl ?_
 refine aP 5 rfl (B1 rfl) rfl ?_
 refine aL 6 rfl (C0 rfl rfl) rfl ?_
 refine aP 7 rfl (qM rfl) rfl ?_
 refine aP 8 rfl (B3 rfl rfl rfl (by omega)) rfl ?_
 refine aL 9 rfl (A1 rfl rfl (hat' _) rfl) rfl ?_
 refine A3 10 ?_
 refine U7 rfl rfl (ih ks[i] (List.getElem_mem (by omega)) ks'[i] G _ _ (hv2 _ (List.getElem_mem (by omega))) (hv2' _ (List.getElem_mem (by omega))) hre hre') rfl rfl rfl (fun h118 => ?_) (fun h118 => ?_)
 refine aP 11 rfl (Z3 rfl) rfl ?_
 refine D3 ?_
 refine sP (K2 rfl rfl (by omega) (by omega)) rfl rfl ?_
 refine sQ (qA rfl) rfl (sD ?_)
 refine K7 (i + 1) ?_ ?_ ?_
 exact D1
 exact ⟨by omega, fun j hj hj' hji => by (by_cases he : j = i; (subst he; assumption); exact hf j hj hj' (by omega))⟩
 omega
 refine aP 11 rfl (pNf rfl) rfl ?_
 refine H9 ?_
 (rw [A4K (by omega) (by omega) (by omega), A8t (i := i) (by omega) (by omega) (by assumption)]; exact ⟨rfl, rfl, rfl⟩)
 refine H9 ?_
 (rw [A4K (by omega) (by omega) (by omega), (A1X ks _).2 ⟨hll, fun j hj hj' => hf j hj hj' (by omega)⟩]; exact ⟨rfl, rfl, rfl⟩)
theorem A6q (br : Nat) (pb : Option Addr) (nb cb : Nat) (bs : List UInt8) (hnb : nb ≤ 2000) : ∀ (t : Ty) (p : Nat) (G : IM) (cells : List Value), E5 t → B7 G t cells → Sl G pb nb cb 1 (O6 bs) → p + (J7 t).toNat + 1 < 1099511627776 →
  Fn Tryz.prog 105 [.pointer (some ⟨br, 0, none⟩), .agg ⟨cells⟩] [rd br pb nb cb p] G
   (A0s br pb nb cb p ((J7 t).toNat + 1) (fun G' v => ∃ u cells, v = .agg ⟨cells⟩ ∧ B7 G' u cells ∧ E5 u ∧ J7 u ≤ J7 t ∧ ∀ n, Q6 n t → Q6 n u)) := by
 refine Ty.ind fun k ks ih p G cells ha hr hb hp => ?_
 have hkid := ha.kid
 have hnn := A1F ks
 have hz : J7 (.mk k ks) = ks.length + O4 ks := by rw [J7]
 rw [hz] at hp ⊢
 obtain ⟨q, c, es, rfl, hk, hsl, hkl⟩ := hr.open
 simp only [Ty.k, Ty.ks] at hk hsl hkl ⊢
 have hn := hsl.le
 have hl2 := ha.two
 refine B2 Tryz.func105 rfl Tryz.ntmps105 Tryz.results105 rfl ?_
 intro w0
 refine tS (tR ?_)
 refine sE (B9 rfl rfl) rfl (fun b3 => ?_)
 refine sE (A5 rfl) rfl (fun b4 => ?_)
 refine sD (nS (tS (tS (tR (sQ (qM rfl) rfl ?_)))))
 (refine I7 rfl (X9 _ br pb nb cb p bs _ hb hnb (by omega)) (Pk.perm (by repeat (first | exact Pk.here | apply Pk.there))) rfl rfl (fun v11 G11 outs11 hle11 hh => ?_); obtain ⟨rfl, rfl, j11, rfl, hj11, hk11⟩ := hh; have hm := hle11)
 replace hb := hb.mono hle11
 replace hr := hr.mono hle11
 replace hsl := hsl.mono hle11
 replace hkl := hkl.mono hle11
 refine sB (qE rfl rfl) rfl rfl (fun h12 => ?_) (fun h12 => ?_)
 refine sD (nS (qT rfl (tS (tR ?_))))
 refine H3 rfl ((A1k _)) rfl rfl ?_
 refine F9 ?_
 refine sD (nS (tT (rS ?_)))
 refine H6 (outs := [rd br pb nb cb (p + 1)]) (rC rfl (A2 rfl rfl)) (by repeat (first | exact A0.nil | refine A0.cons Pk.here ?_ | refine A0.cons (Pk.there Pk.here) ?_ | refine A0.cons (Pk.there (Pk.there Pk.here)) ?_ | apply A0.drop)) ?_
 (exact ⟨p + 1, by omega, by omega, rfl, O9, _, rfl, A0H _, A3E, by rw [A6j]; omega, fun n _ => A8p n⟩)
 refine I9 ?_
 refine sE (A5 rfl) rfl (fun b36 => ?_)
 refine F9 ?_
 refine sD (nS (tS (tS (tR (sQ (qA rfl) rfl (sD (nS ?_)))))))
 refine B4 ?_
 (refine V5 25 2 ?_; refine K9 (fun (x : Nat × Option Addr × Nat × List Ty × List (List Value) × Nat × IM) => ⟨[(6, .int .i64 x.1), (5, .pointer (some ⟨b36, 0, none⟩)), (4, .pointer (some ⟨b4, 0, none⟩)), (0, .pointer (some ⟨br, 0, none⟩)), (3, .pointer (some ⟨b3, 0, none⟩))], [.blk b36 [.int .i64 k, .slice x.2.1 x.1 x.2.2.1], .slc x.2.1 x.2.2.1 25 2 x.1 x.2.2.2.2.1.flatten, rd br pb nb cb x.2.2.2.2.2.1, .blk b4 [.int .i64 0, .slice none 0 0], .blk b3 [.int .i64 k, .slice q ks.length c]], x.2.2.2.2.2.2⟩) (fun x => x.1 ≤ ks.length ∧ B6 G11 x.2.2.2.2.2.2 ∧ x.2.2.2.1.length = x.1 ∧ D2 x.2.2.2.2.2.2 x.2.2.2.1 x.2.2.2.2.1 ∧ (∀ u ∈ x.2.2.2.1, E5 u) ∧ (∀ n, Q6 n (.mk k ks) → ∀ u ∈ x.2.2.2.1, Q6 (n - 1) u) ∧ O4 x.2.2.2.1 ≤ O4 (ks.take x.1) ∧ p + 1 ≤ x.2.2.2.2.2.1 ∧ (x.2.2.2.2.2.1 : Int) ≤ p + 1 + x.1 + O4 (ks.take x.1)) (fun x => ks.length - x.1) (0, none, 0, [], [], p + 1, G11) ?_ ?_ ?_)
 (simp only [J6]; exact D1)
 (exact ⟨by simp, B6.refl _, rfl, by simp [D2], by simp, by simp, by simp [O4], by dsimp only; omega, by simp [O4]⟩)
 (rintro ⟨i, pn, cn, us, es', p', Gi⟩ ⟨hi, hle, hlu, hst, hau, hhu, hsu, hp1, hp2⟩; simp only [] at hi hle hlu hst hau hhu hsu hp1 hp2 ⊢; replace hsl := hsl.mono hle; replace hkl := hkl.mono hle; have htk := A73 ks i)
 refine C2 ?_
 refine sB (K6 rfl rfl) rfl rfl (fun h58 => ?_) (fun h58 => ?_)
 refine sD (nS (qT rfl (tK (nS (tS ?_)))))
 refine B4 ?_
 (obtain ⟨b, o, q0, d0, hp0, hat0, hre0, hg0⟩ := hsl.kidTy hkl (i := i) (by omega) (by omega); subst hp0; have e1 := B2q (ks := ks) (i := i) (by omega); have e2 := A73 ks (i + 1); have e3 := A03 ks[i]; have hih := ih ks[i] (List.getElem_mem (by omega)) p' Gi _ (hkid _ (List.getElem_mem (by omega))) hre0 (hb.mono hle) (by omega); refine E1 E2 rfl ?_)
 refine J5 (i := 0) (l' := [tt,ff,ff,ff,ff,ff,ff,ff,ff,ff,ff,ff,ff]) rfl D5 (B1 rfl) rfl (by kernel_rfl) rfl rfl ?_
 refine aL 1 rfl (C0 rfl rfl) rfl ?_
 refine aP 2 rfl (qM rfl) rfl ?_
 refine aP 3 rfl (B1 rfl) rfl ?_
 refine aL 4 rfl (C0 rfl rfl) rfl ?_
 refine aP 5 rfl (qM rfl) rfl ?_
 refine aP 6 rfl (B3 rfl rfl rfl (by omega)) rfl ?_
 refine aL 7 rfl (A1 rfl rfl (hat0 _) rfl) rfl ?_
 refine A3 8 ?_
 (refine A0b (l' := [tt,tt,tt,tt,tt,tt,tt,tt,tt,ff,ff,ff,ff]) rfl rfl hih (Pk.perm (by repeat (first | exact Pk.here | apply Pk.there))) rfl rfl rfl (by repeat (first | exact A6.nil | apply A6.dep (by decide +kernel) | apply A6.blk (by decide +kernel) (by repeat (first | exact Pk.here | apply Pk.there)) (by repeat first | exact mH | apply mT) | apply A6.im (by decide +kernel) hg0 (by repeat first | exact mH | apply mT))) (fun v G3 outs hle3 hh => ?_); obtain ⟨p3, hp31, hp32, rfl, u, cells3, rfl, hru, hua, hus, huh⟩ := hh; obtain ⟨q3, c3, es3, rfl, _⟩ := hru.open)
 refine A3 9 ?_
 (refine E4 rfl (C9 rfl rfl rfl (by omega) (by unfold maxLen; omega) rfl) rfl rfl ?_; rintro _ ⟨b78, rfl⟩)
 refine A3 10 ?_
 refine Q5 rfl rfl rfl rfl rfl rfl (fun _ _ => by repeat (first | exact Sw.here | apply Sw.there)) (P3 (by repeat first | exact mH | apply mT)) rfl (by simp [Value.oneCell']) (by unfold maxLen; omega) (by omega) rfl rfl (by repeat (first | exact A6.nil | apply A6.dep (by decide +kernel) | apply A6.blk (by decide +kernel) (by repeat (first | exact Pk.here | apply Pk.there)) (by repeat first | exact mH | apply mT))) (fun pn' cn' => ?_)
 refine aP 11 rfl (B1 rfl) rfl ?_
 refine A3 12 ?_
 refine R2 rfl rfl rfl rfl rfl rfl rfl rfl (by kernel_rfl) (by repeat first | exact Sw.here | apply Sw.there) (by rfl) ?_
 refine C5 (M8 (nS (tR (sQ (qM rfl) rfl ?_))))
 refine sP (K2 rfl rfl (by omega) (by omega)) rfl rfl ?_
 refine sQ (qA rfl) rfl (sD ?_)
 refine K7 (i + 1, pn', cn', us ++ [u], es' ++ [[.int .i64 u.k, .slice q3 u.ks.length c3]], p3, G3) ?_ ?_ ?_
 (simp only [J6]; exact D1)
 (dsimp only; exact ⟨by omega, hle.trans hle3, by simp [hlu], D2.snoc (hst.mono hle3) hru, A2X hau hua, fun n hn => A2X (hhu n hn) (huh _ (A58 hn (List.getElem_mem _))), by rw [A4N]; omega, by omega, by omega⟩)
 (show ks.length - (i + 1) < ks.length - i; omega)
 refine J2 ?_
 (refine I5 (by repeat (first | exact Pk.here | apply Pk.there)) (fun G5 hle5 hsl5 hno5 => ?_); obtain rfl : i = ks.length := (by omega))
 refine tT ?_
 refine H6 (outs := [rd br pb nb cb p']) (rC rfl (A2 rfl rfl)) (by repeat (first | exact A0.nil | refine A0.cons Pk.here ?_ | refine A0.cons (Pk.there Pk.here) ?_ | refine A0.cons (Pk.there (Pk.there Pk.here)) ?_ | apply A0.drop)) ?_
 (rw [List.take_length] at hsu hp2; refine ⟨p', by omega, by omega, rfl, .mk k us, _, rfl, (hst.mono hle5).ty hlu hsl5 hk, A8U ha hlu hau, by rw [J7]; omega, fun n hn => B2R hn hlu (hhu n hn)⟩)
theorem At.sub {hp : List A4} {G : IM} {b o j : Nat} {vs : List Value} {v : Value} (h : At hp G b o vs) (hj : vs[j]? = some v) : At hp G b (o + j) [v] := by
 have key : ∀ {cs : List Value}, (∀ i u, vs[i]? = some u → cs[o + i]? = some u) → ∀ i u, [v][i]? = some u → cs[o + j + i]? = some u := by
  intro cs hc i u hu
  cases i with
  | zero => simp at hu; subst hu; simpa using hc j v hj
  | succ i => simp at hu
 rcases h with ⟨cs, hm, hv⟩ | ⟨n, c, el, sz, cs, hm, hv⟩ | ⟨full, hg, hv⟩
 ·exact .inl ⟨cs, hm, key hv⟩
 ·exact .inr (.inl ⟨n, c, el, sz, cs, hm, key hv⟩)
 ·exact .inr (.inr ⟨full, hg, key hv⟩)
def HTm (G : IM) (t : Tm) (k : Int) (cells : List Value) : Prop := ∃ pt ct et pf cf ef p c es,
 cells = [.int .i64 t.k, .string t.nm, .int .i64 t.num, .int .i64 t.ty.k, .slice pt t.ty.ks.length ct, .int .i64 t.fr.k, .slice pf t.fr.ks.length cf, .int .i64 t.lb, .slice p t.ks.length c] ∧
 D0 G pt t.ty.ks.length ct 2 et ∧ D2 G (A1Y t.ty.ks k) et ∧ D0 G pf t.fr.ks.length cf 2 ef ∧ D2 G (A1Y t.fr.ks (k + A0h t.ty.ks)) ef ∧ D0 G p t.ks.length c 9 es ∧ D7 G (A4B t.ks (k + A0h t.ty.ks + A0h t.fr.ks)) es
theorem B3i {nm : ByteArray} (h : Z7 nm = true) : nm.size = 1 := by
 unfold Z7 at h
 simp at h
 omega
theorem A8V {k : Int} {nm : ByteArray} {num : Int} {ty fr : Ty} {lb : Int} {n : Nat} (h : T8 k nm num ty fr lb n = true) : nm.size ≤ 1 := by
 obtain ⟨_, h2, h3, _⟩ := U8.1 h
 by_cases hk : k = 1 ∨ k = 5
 ·rw [B3i (h2 hk)]; omega
 ·rw [h3 hk]; decide
def RBd (G : IM) (e : List Value) : Prop := ∃ nm t q d, e = [.string nm, .int .i64 t.k, .slice q t.ks.length d] ∧ B7 G t [.int .i64 t.k, .slice q t.ks.length d] ∧ E5 t ∧ J7 t ≤ 30 ∧ nm.size ≤ 1
def X2 (G : IM) (p : Option Addr) (n c : Nat) : Prop := ∃ es, es.length = n ∧ D0 G p n c 3 es ∧ ∀ e ∈ es, RBd G e
theorem RBd.mono {G G' : IM} {e : List Value} (h : RBd G e) (hg : B6 G G') : RBd G' e := by
 obtain ⟨nm, t, q, d, h1, h2, h3, h4⟩ := h
 exact ⟨nm, t, q, d, h1, h2.mono hg, h3, h4⟩
theorem X2.mono {G G' : IM} {p : Option Addr} {n c : Nat} (h : X2 G p n c) (hg : B6 G G') : X2 G' p n c := by
 obtain ⟨es, h1, h2, h3⟩ := h
 exact ⟨es, h1, h2.mono hg, fun e he => (h3 e he).mono hg⟩
theorem X2.nil (G : IM) : X2 G none 0 0 := ⟨[], rfl, D0.nil _ _, by simp⟩
theorem At.drop {hp : List A4} {G : IM} {b o : Nat} {v : Value} {vs : List Value} (h : At hp G b o (v :: vs)) : At hp G b (o + 1) vs := by
 have key : ∀ {cs : List Value}, (∀ i u, (v :: vs)[i]? = some u → cs[o + i]? = some u) → ∀ i u, vs[i]? = some u → cs[o + 1 + i]? = some u := by
  intro cs hc i u hu
  have := hc (i + 1) u (by simpa using hu)
  rwa [show o + 1 + i = o + (i + 1) by omega]
 rcases h with ⟨cs, hm, hv⟩ | ⟨n, c, el, sz, cs, hm, hv⟩ | ⟨full, hg, hv⟩
 ·exact .inl ⟨cs, hm, key hv⟩
 ·exact .inr (.inl ⟨n, c, el, sz, cs, hm, key hv⟩)
 ·exact .inr (.inr ⟨full, hg, key hv⟩)
theorem X2.get {G : IM} {p : Option Addr} {n c : Nat} (h : X2 G p n c) {i : Nat} (hi : i < n) :
  ∃ b o nm t q d, p = some ⟨b, o, none⟩ ∧ (∀ hp, At hp G b (o + i * 3) [.string nm, .int .i64 t.k, .slice q t.ks.length d]) ∧ B7 G t [.int .i64 t.k, .slice q t.ks.length d] ∧ E5 t ∧ J7 t ≤ 30 ∧ G b ≠ none ∧ nm.size ≤ 1 := by
 obtain ⟨es, h1, h2, h3⟩ := h
 obtain ⟨e, b, o, he, rfl, hl, _, hat, hgb⟩ := h2.get (i := i) (by omega)
 obtain ⟨nm, t, q, d, rfl, h5, h6, h7, h8⟩ := h3 e (List.mem_of_getElem? he)
 exact ⟨b, o, nm, t, q, d, rfl, hat, h5, h6, h7, hgb, h8⟩
theorem X2.le {G : IM} {p : Option Addr} {n c : Nat} (h : X2 G p n c) : n ≤ 9223372036854775807 := by
 obtain ⟨es, h1, h2, h3⟩ := h
 exact h2.le
theorem B3j (G : IM) (p : Option Addr) (n c : Nat) (nm : ByteArray) (hx : X2 G p n c) :
  Fn Tryz.prog 177 [.slice p n c, .string nm] [] G (TyB 30 G) := by
 have hn := hx.le
 refine B2 Tryz.func177 rfl Tryz.ntmps177 Tryz.results177 rfl ?_
 intro w0
 refine tS (tR ?_)
 refine sE (A5 rfl) rfl (fun b3 => ?_)
 refine D3 ?_
 refine sP (P5 rfl rfl (by omega) (by omega)) rfl rfl ?_
 refine sQ (qA rfl) rfl (sD (nS ?_))
 refine B4 ?_
 (refine K9 (fun (i : Nat) => ⟨[(6, .int .i64 ((i : Int) - 1)), (0, .slice p n c), (1, .string nm), (4, .pointer (some ⟨b3, 0, none⟩))], [.blk b3 [.int .i64 0, .slice none 0 0]], G⟩) (fun i => i ≤ n) (fun i => i) n ?_ ?_ ?_)
 exact D1
 exact Nat.le_refl _
 (rintro i hi)
 refine tS (tS (tR (sQ (qM rfl) rfl ?_)))
 refine sB (A0L rfl rfl) rfl rfl (fun h25 => ?_) (fun h25 => ?_)
 refine sD (nS (qT rfl (tK (nS (tS ?_)))))
 (show I8 _ _ (.block 1 _) _ _; obtain ⟨j, rfl⟩ : ∃ j, i = j + 1 := ⟨i - 1, by omega⟩; rw [show ((j + 1 : Nat) : Int) - 1 = (j : Int) from by omega]; obtain ⟨b, o, nm1, t1, q1, d1, rfl, hat, hr1, ha1, hs1, hgb, hns1⟩ := hx.get (i := j) (by omega); refine B4 ?_)
 refine tS (tR (sQ (qM rfl) rfl (sQ (qM rfl) rfl ?_)))
 refine sP (B3 rfl rfl rfl (by omega)) rfl rfl ?_
 refine sQ (qF rfl) rfl ?_
 refine sL (A0p rfl rfl ((hat _).sub (j := 0) rfl)) rfl rfl ?_
 refine sQ (qM rfl) rfl ?_
 refine sB (A1b rfl rfl) rfl rfl (fun h41 => ?_) (fun h41 => ?_)
 refine C2 ?_
 refine sP (B3 rfl rfl rfl (by omega)) rfl rfl ?_
 refine sQ (qF rfl) rfl ?_
 refine sL (A1 rfl rfl (hat _).drop rfl) rfl rfl ?_
 (refine E0 rfl (W5 _ G _ ha1.small hr1) rfl rfl (fun v G1 hle1 hh => ?_); obtain ⟨cs1, F1, rfl, hs1', hn1⟩ := hh; obtain ⟨p1, c1, rfl, _⟩ := hs1'.open; have hrr := hs1'.R.mono (C1.le G1 G))
 refine I9 ?_
 refine I2 (rC rfl (A2 rfl rfl)) (rT rfl) ?_
 (exact ⟨rfl, _, _, _, rfl, hrr, ha1, hs1⟩)
 refine D3 ?_
 refine sP (P5 rfl rfl (by omega) (by omega)) rfl rfl ?_
 refine sQ (qA rfl) rfl (sD ?_)
 refine K7 j ?_ ?_ ?_
 exact D1
 (show _ ≤ n; omega)
 exact Nat.le_refl _
 refine K4 ?_
 refine I2 (rC rfl (A2 rfl rfl)) (rT rfl) ?_
 (exact ⟨rfl, _, _, _, rfl, N3 _ ⟨by omega, by omega⟩, T9 (by omega) (by omega), by rw [A8T]; omega⟩)
theorem A6r {G : IM} {nm : ByteArray} {k : Int} {ks : List Ty} {q : Option Addr} {d : Nat} (hr : B7 G (.mk k ks) [.int .i64 k, .slice q ks.length d]) (ha : E5 (.mk k ks)) (hs : J7 (.mk k ks) ≤ 30) (hn : nm.size ≤ 1) : RBd G [.string nm, .int .i64 k, .slice q ks.length d] := ⟨nm, .mk k ks, q, d, rfl, hr, ha, hs, hn⟩
theorem X2.snoc {G G' : IM} {p p' : Option Addr} {n c c' : Nat} {es : List (List Value)} {e : List Value} (h1 : es.length = n) (h2 : D0 G p n c 3 es) (h3 : ∀ e ∈ es, RBd G e) (hg : B6 G G') (he : RBd G' e) (hs : Sl G' p' (n + 1) c' 3 (es.flatten ++ e)) : X2 G' p' (n + 1) c' := by
 refine ⟨es ++ [e], by simp [h1], D0.of (by simpa using hs) (by simp [h1]) ?_ ?_, ?_⟩
 ·intro x hx
  rcases List.mem_append.1 hx with hx | hx
  ·obtain ⟨_, _, _, _, rfl, _⟩ := h3 x hx; rfl
  ·obtain ⟨_, _, _, _, rfl, _⟩ := he
   simp only [List.mem_singleton] at hx; subst hx; rfl
 ·intro x hx
  rcases List.mem_append.1 hx with hx | hx
  ·obtain ⟨_, _, _, _, rfl, _⟩ := h3 x hx; simp [Value.oneCell']
  ·obtain ⟨_, _, _, _, rfl, _⟩ := he
   simp only [List.mem_singleton] at hx; subst hx; simp [Value.oneCell']
 ·intro x hx
  rcases List.mem_append.1 hx with hx | hx
  ·exact (h3 x hx).mono hg
  ·simp only [List.mem_singleton] at hx; subst hx; exact he
theorem B3k (G : IM) (p : Option Addr) (n c : Nat) (nm : ByteArray) (t : Ty) (cells : List Value) (hx : X2 G p n c) (hn : n ≤ 1000) (hr : B7 G t cells) (ha : E5 t) (hs : J7 t ≤ 30) (hnm : nm.size ≤ 1) :
  Fn Tryz.prog 197 [.slice p n c, .string nm, .agg ⟨cells⟩] [] G (L5 fun G' v => ∃ p' c', v = .slice p' (n + 1) c' ∧ X2 G' p' (n + 1) c') := by
 obtain ⟨k, ks⟩ := t
 obtain ⟨q, d, es0, rfl, _⟩ := hr.open
 simp only [Ty.k, Ty.ks] at hr ⊢
 obtain ⟨es, h1, h2, h3⟩ := hx
 have hSl : Sl G p n c 3 es.flatten := h2.1
 have h1c : ∀ u ∈ es.flatten, u.oneCell' = true := by
  intro u hu
  obtain ⟨e, he, hue⟩ := List.mem_flatten.1 hu
  obtain ⟨_, _, _, _, rfl, _⟩ := h3 e he
  simp only [List.mem_cons, List.not_mem_nil, or_false] at hue
  rcases hue with rfl | rfl | rfl <;> rfl
 refine B2 Tryz.func197 rfl Tryz.ntmps197 Tryz.results197 rfl ?_
 intro w0
 refine tS (tR ?_)
 refine sE (B9 rfl rfl) rfl (fun b3 => ?_)
 refine sQ (qA rfl) rfl (sD (nS (tS ?_)))
 refine E1 E2 rfl ?_
 refine J5 (i := 1) (l' := [ff,tt,ff,ff,ff,ff,ff,ff,ff]) rfl D5 (qM rfl) rfl (by kernel_rfl) rfl rfl ?_
 refine aP 3 rfl (qM rfl) rfl ?_
 refine aL 4 rfl (A2 rfl rfl) rfl ?_
 refine aP 5 rfl (W1 rfl rfl) rfl ?_
 refine V3 (j := 0) (j' := 6) (by kernel_rfl) ?_ ?_
 (refine E4 rfl (C9 rfl rfl rfl (by omega) (by unfold maxLen; omega) rfl) rfl rfl ?_; rintro _ ⟨b14, rfl⟩)
 refine V3 (j := 2) (j' := 6) (by kernel_rfl) ?_ ?_
 (refine A2V rfl rfl rfl rfl rfl rfl (fun _ _ => by repeat (first | exact Sw.here | apply Sw.there)) hSl h1c (Nat.zero_le _) (by unfold maxLen; omega) (by omega) rfl rfl (by repeat (first | exact A6.nil | apply A6.dep (by decide +kernel) | apply A6.blk (by decide +kernel) (by repeat (first | exact Pk.here | apply Pk.there)) (by repeat first | exact mH | apply mT))) (fun p4 c4 => ?_); simp only [Nat.zero_add, List.nil_append])
 refine A3 6 ?_
 (refine E4 rfl (C9 rfl rfl rfl (by omega) (by unfold maxLen; omega) rfl) rfl rfl ?_; rintro _ ⟨b18, rfl⟩)
 refine A3 7 ?_
 (refine Q5 rfl rfl rfl rfl rfl rfl (fun _ _ => by repeat (first | exact Sw.here | apply Sw.there)) (P3 (by repeat first | exact mH | apply mT)) rfl (by simp [Value.oneCell']) (by unfold maxLen; omega) (by omega) rfl rfl (by repeat (first | exact A6.nil | apply A6.dep (by decide +kernel) | apply A6.blk (by decide +kernel) (by repeat (first | exact Pk.here | apply Pk.there)) (by repeat first | exact mH | apply mT))) (fun p5 c5 => ?_))
 refine aP 8 rfl (qA rfl) rfl ?_
 refine C5 (nS ?_)
 (refine I5 (cs := es.flatten ++ [.string nm, .int .i64 k, .slice q ks.length d]) (by repeat (first | exact Pk.here | apply Pk.there)) (fun G5 hle5 hsl5 hno5 => ?_))
 refine tT (D9 (rT rfl) ?_)
 (exact ⟨rfl, _, _, rfl, X2.snoc h1 h2 h3 hle5 (A6r (hr.mono hle5) ha hs hnm) hsl5⟩)
 (refine E4 rfl (C9 rfl rfl rfl (by omega) (by unfold maxLen; omega) rfl) rfl rfl ?_; rintro _ ⟨b28, rfl⟩)
 refine A3 2 ?_
 (refine A2V rfl rfl rfl rfl rfl rfl (fun _ _ => by repeat (first | exact Sw.here | apply Sw.there)) hSl h1c (Nat.zero_le _) (by unfold maxLen; omega) (by omega) rfl rfl (by repeat (first | exact A6.nil | apply A6.dep (by decide +kernel) | apply A6.blk (by decide +kernel) (by repeat (first | exact Pk.here | apply Pk.there)) (by repeat first | exact mH | apply mT))) (fun p4 c4 => ?_); simp only [Nat.zero_add, List.nil_append])
 refine A3 7 ?_
 (refine Q5 rfl rfl rfl rfl rfl rfl (fun _ _ => by repeat (first | exact Sw.here | apply Sw.there)) (P3 (by repeat first | exact mH | apply mT)) rfl (by simp [Value.oneCell']) (by unfold maxLen; omega) (by omega) rfl rfl (by repeat (first | exact A6.nil | apply A6.dep (by decide +kernel) | apply A6.blk (by decide +kernel) (by repeat (first | exact Pk.here | apply Pk.there)) (by repeat first | exact mH | apply mT))) (fun p5 c5 => ?_))
 refine aP 8 rfl (qA rfl) rfl ?_
 refine C5 (nS ?_)
 (refine I5 (cs := es.flatten ++ [.string nm, .int .i64 k, .slice q ks.length d]) (by repeat (first | exact Pk.here | apply Pk.there)) (fun G5 hle5 hsl5 hno5 => ?_))
 refine tT (D9 (rT rfl) ?_)
 (exact ⟨rfl, _, _, rfl, X2.snoc h1 h2 h3 hle5 (A6r (hr.mono hle5) ha hs hnm) hsl5⟩)
 (refine E4 rfl (C9 rfl rfl rfl (by omega) (by unfold maxLen; omega) rfl) rfl rfl ?_; rintro _ ⟨b40, rfl⟩)
 refine A3 0 ?_
 (refine E4 rfl (C9 rfl rfl rfl (by omega) (by unfold maxLen; omega) rfl) rfl rfl ?_; rintro _ ⟨b42, rfl⟩)
 refine A3 2 ?_
 (refine A2V rfl rfl rfl rfl rfl rfl (fun _ _ => by repeat (first | exact Sw.here | apply Sw.there)) hSl h1c (Nat.zero_le _) (by unfold maxLen; omega) (by omega) rfl rfl (by repeat (first | exact A6.nil | apply A6.dep (by decide +kernel) | apply A6.blk (by decide +kernel) (by repeat (first | exact Pk.here | apply Pk.there)) (by repeat first | exact mH | apply mT))) (fun p4 c4 => ?_); simp only [Nat.zero_add, List.nil_append])
 refine A3 7 ?_
 (refine Q5 rfl rfl rfl rfl rfl rfl (fun _ _ => by repeat (first | exact Sw.here | apply Sw.there)) (P3 (by repeat first | exact mH | apply mT)) rfl (by simp [Value.oneCell']) (by unfold maxLen; omega) (by omega) rfl rfl (by repeat (first | exact A6.nil | apply A6.dep (by decide +kernel) | apply A6.blk (by decide +kernel) (by repeat (first | exact Pk.here | apply Pk.there)) (by repeat first | exact mH | apply mT))) (fun p5 c5 => ?_))
 refine aP 8 rfl (qA rfl) rfl ?_
 refine C5 (nS ?_)
 (refine I5 (cs := es.flatten ++ [.string nm, .int .i64 k, .slice q ks.length d]) (by repeat (first | exact Pk.here | apply Pk.there)) (fun G5 hle5 hsl5 hno5 => ?_))
 refine tT (D9 (rT rfl) ?_)
 (exact ⟨rfl, _, _, rfl, X2.snoc h1 h2 h3 hle5 (A6r (hr.mono hle5) ha hs hnm) hsl5⟩)
theorem B3l (G : IM) : Fn Tryz.prog 225 [.slice none 0 0] [] G (H0 (.bool true) G) := by
 refine B2 Tryz.func225 rfl Tryz.ntmps225 Tryz.results225 rfl ?_
 intro w0
 refine I6 ?_
 refine B4 ?_
 (refine K9 (fun (_ : Nat) => ⟨[(3, .int .i64 0), (0, .slice none 0 0)], [], G⟩) (fun _ => True) (fun i => i) 0 ?_ ?_ ?_)
 ·exact D1
 ·trivial
 ·(rintro i _)
  refine J8 ?_
  refine sP (A2M rfl rfl (by omega)) rfl rfl ?_
  refine N6 ?_
  refine sP (A7w rfl rfl (by omega)) rfl rfl ?_
  refine sQ (qA rfl) rfl (sD (nS (tT (D9 (rT rfl) ?_))))
  trivial
theorem A4R {k : Int} {n : Nat} (h : C7 k = n) : (k = 6 ∨ k = 7 ∨ k = 8 ∨ k = 10 → n = 2) ∧ (k = 9 → n = 3) ∧ (k = 5 ∨ k = 11 ∨ k = 12 ∨ k = 13 → n = 1) := by
 refine ⟨?_, ?_, ?_⟩
 ·rintro (rfl | rfl | rfl | rfl)
  ·rw [show C7 6 = 2 from rfl] at h; omega
  ·rw [show C7 7 = 2 from rfl] at h; omega
  ·rw [show C7 8 = 2 from rfl] at h; omega
  ·rw [show C7 10 = 2 from rfl] at h; omega
 ·rintro rfl
  rw [show C7 9 = 3 from rfl] at h; omega
 ·rintro (rfl | rfl | rfl | rfl)
  ·rw [show C7 5 = 1 from rfl] at h; omega
  ·rw [show C7 11 = 1 from rfl] at h; omega
  ·rw [show C7 12 = 1 from rfl] at h; omega
  ·rw [show C7 13 = 1 from rfl] at h; omega
theorem B3m : ∀ (t : Ty) (d : Int), K8 t d = true → E5 t := by
 refine Ty.ind fun k ks ih d h => ?_
 obtain ⟨h1, h2⟩ := A3F h
 rw [E5]
 refine ⟨fun hk => ?_, fun h4 h5 => ?_, A3D.2 fun t ht => ?_⟩
 ·have := (N7 k).2.1 hk
  omega
 ·have h5' := N7 k
  have h6 := h5'.1
  have h7 := h5'.2.2
  omega
 ·obtain ⟨i, hi, rfl⟩ := List.getElem_of_mem ht
  exact ih _ ht _ (h2 i hi)
theorem B3n : ∀ (n : Nat) (t : Ty) (d : Int), K8 t d = true → 4 - d ≤ n → Q6 n t := by
 intro n
 induction n with
 | zero =>
  rintro ⟨k, ks⟩ d h hd
  obtain ⟨h1, h2⟩ := A3F h
  have hks : ks.length = 0 := by
   rcases Nat.eq_zero_or_pos ks.length with h0 | h0
   ·exact h0
   ·have h3 := h2 0 h0
    obtain ⟨k', ks'⟩ : Ty := ks[0]
    have h4 : ∀ (u : Ty) (d : Int), K8 u d = true → d ≤ 4 := by
     rintro ⟨a, b⟩ d hu
     rw [K8] at hu
     simp only [Bool.and_eq_true, decide_eq_true_eq] at hu
     exact hu.1.1
    have := h4 _ _ h3
    omega
  have h5 := N7 k
  have h6 := h5.2.1
  exact ⟨List.length_eq_zero_iff.1 hks, by intro h; have := h6 (.inl h); omega, by intro h; have := h6 (.inr h); omega⟩
 | succ n ih =>
  rintro ⟨k, ks⟩ d h hd
  have ha := B3m _ _ h
  rw [E5] at ha
  obtain ⟨h1, h2⟩ := A3F h
  refine ⟨ha.1, ha.2.1, fun t ht => ?_⟩
  obtain ⟨i, hi, rfl⟩ := List.getElem_of_mem ht
  exact ih _ _ (h2 i hi) (by omega)
theorem A3Q {t : Ty} (h : E7 t = true) : E5 t ∧ J7 t ≤ 30 := by
 have h1 := B3n 3 t 1 h (by omega)
 have h2 := A4I h1
 have h3 : ((2 ^ (3 + 1) - 2 : Nat) : Int) = 14 := rfl
 exact ⟨h1.ar, by omega⟩
theorem B3o {t : Ty} (h : Y5 t = true) : E5 t ∧ J7 t ≤ 30 := by
 rw [A1J h]
 exact ⟨T9 (by decide) (by decide), by rw [A7, A8T]; omega⟩
theorem A4S {k : Int} {nm : ByteArray} {num : Int} {ty fr : Ty} {lb : Int} {n : Nat} (h : T8 k nm num ty fr lb n = true) : E5 ty ∧ J7 ty ≤ 30 := by
 have hn := U8.1 h
 by_cases hk : k = 5 ∨ k = 13 ∨ k = 14
 ·exact A3Q (hn.2.2.2.2.2.1 hk)
 ·exact B3o (hn.2.2.2.2.2.2.1 hk)
theorem A8.of9 {G : IM} {k : Int} {nm : ByteArray} {num tk fk : Int} {tks fks : List Ty} {lb : Int} {ks : List Tm} {q1 q2 q3 : Option Addr} {c1 c2 c3 : Nat} {es : List (List Value)} (hk : E6 k) (hnum : E6 num) (hlb : E6 lb) (hty : B7 G (.mk tk tks) [.int .i64 tk, .slice q1 tks.length c1])
  (hfr : B7 G (.mk fk fks) [.int .i64 fk, .slice q2 fks.length c2]) (hsl : D0 G q3 ks.length c3 9 es) (hkl : D7 G ks es) :
  A8 G (.mk k nm num (.mk tk tks) (.mk fk fks) lb ks) [.int .i64 k, .string nm, .int .i64 num, .int .i64 tk, .slice q1 tks.length c1, .int .i64 fk, .slice q2 fks.length c2, .int .i64 lb, .slice q3 ks.length c3] := by
 simp only [A8]
 exact ⟨_, _, q3, c3, es, rfl, hk, hnum, hlb, hty, hfr, hsl, hkl⟩
theorem A2w {k k' : Int} {nm nm' : ByteArray} {num num' : Int} {ty fr ty' fr' : Ty} {lb lb' : Int} {ks : List Tm} (h : (Tm.mk k nm num ty fr lb ks).small) (h1 : nm'.size ≤ 4294967296) (h2 : ty'.small) (h3 : fr'.small) : (Tm.mk k' nm' num' ty' fr' lb' ks).small := by
 simp only [Tm.small] at h ⊢
 exact ⟨h1, h2, h3, h.2.2.2⟩
def Tm.fit (t : Tm) (N : Nat) : Prop := t.small ∧ C6 t ≤ N
theorem A8W (br : Nat) (pb : Option Addr) (nb cb : Nat) (bs : List UInt8) (hnb : nb ≤ 2000) (p : Nat) (G : IM) (hb : Sl G pb nb cb 1 (O6 bs)) (hp : p + 100 < 1099511627776) (t : Tm) (cells : List Value) (N : Nat) (hfit : t.fit N) (hr : A8 G t cells) :
  Fn Tryz.prog 61 [.pointer (some ⟨br, 0, none⟩), .agg ⟨cells⟩] [rd br pb nb cb p] G
   (A0s br pb nb cb p 40 (fun G' v => ∃ t cells, v = .agg ⟨cells⟩ ∧ A8 G' t cells ∧ t.fit N)) := by
 have hl := hr.len
 have hone := hr.one
 obtain ⟨k, nm, num, ⟨tk, tks⟩, ⟨fk, fks⟩, lb, ks⟩ := t
 have hfit0 := hfit
 obtain ⟨hsm, hcn⟩ := hfit0
 replace hfit : (Tm.mk k nm num (.mk tk tks) (.mk fk fks) lb ks).small ∧ C6 (Tm.mk k nm num (.mk tk tks) (.mk fk fks) lb ks) ≤ N := hfit
 rw [show (Tm.mk k nm num (.mk tk tks) (.mk fk fks) lb ks).small = (nm.size ≤ 4294967296 ∧ (Ty.mk tk tks).small ∧ (Ty.mk fk fks).small ∧ ks.length ≤ 4294967296 ∧ Tm.smallL ks) from by rw [Tm.small]] at hfit
 refine B2 Tryz.func61 rfl Tryz.ntmps61 Tryz.results61 rfl ?_
 intro w0
 refine tS (tR ?_)
 refine sE (B9 rfl rfl) rfl (fun b3 => ?_)
 refine sE (A5 rfl) rfl (fun b4 => ?_)
 refine sD (nS (tS (tR ?_)))
 refine sL (A1 rfl rfl (A9 (by repeat first | exact mH | apply mT)) (by assumption)) rfl rfl ?_
 (refine E0 rfl (A3K _ G cells hsm hr) rfl rfl (fun v G1 hle1 hh => ?_); obtain ⟨cells1, F1, rfl, hs1, hn1⟩ := hh; have hr1 := hs1.R.mono (C1.le G1 G); obtain ⟨q1, c1, q2, c2, q3, c3, es, rfl, hk, hnum, hlb, hty, hfr, hsl, hkl⟩ := hr1.open9)
 refine sE (A5 rfl) rfl (fun b11 => ?_)
 refine F9 ?_
 refine sD (nS (tS (tS (tR (sQ (qM rfl) rfl ?_)))))
 (refine I7 rfl (X9 _ br pb nb cb p bs 50 (hb.mono hle1) hnb (by omega)) (Pk.perm (by repeat (first | exact Pk.here | apply Pk.there))) rfl rfl (fun v G2 outs hle2 hh => ?_); obtain ⟨rfl, rfl, j, rfl, hj0, hj1⟩ := hh; replace hb := hb.mono hle1)
 refine sD (nS ?_)
 (show I8 _ _ (.block 0 _) _ _; refine A0k (fun (x : List Value × Nat × IM) => ⟨[(5, .pointer (some ⟨b11, 0, none⟩)), (4, .pointer (some ⟨b4, 0, none⟩))], [.blk b11 x.1, .blk b4 [.int .i64 0, .string ⟨⟨[]⟩⟩, .int .i64 0, .int .i64 0, .slice none 0 0, .int .i64 0, .slice none 0 0, .int .i64 0, .slice none 0 0], rd br pb nb cb x.2.1], x.2.2⟩) (fun x => B6 G2 x.2.2 ∧ p ≤ x.2.1 ∧ x.2.1 ≤ p + 40 ∧ ∃ t, A8 x.2.2 t x.1 ∧ t.small ∧ C6 t = C6 (.mk k nm num (.mk tk tks) (.mk fk fks) lb ks)) ?_ ?_)
 refine B4 (tS (tR (sB (qE rfl rfl) rfl rfl (fun h26 => ?_) (fun h26 => ?_))))
 refine sQ (qA rfl) rfl (sD (nS (qT rfl (tR (sQ (qM rfl) rfl ?_)))))
 (refine L9 (C9 rfl rfl rfl (by omega) (by unfold maxLen; omega) rfl) rfl ?_; rintro _ ⟨b33, rfl⟩)
 (refine T6 (by repeat (first | exact Pk.here | apply Pk.there)) (fun G4 hle4 hsl4 _ => ?_); refine I7 rfl (A0c G4 br pb nb cb (p + 1) bs _ _ _ _ (hb.mono hle4) hnb (by omega) hsl4 (by decide)) (Pk.perm (by repeat (first | exact Pk.here | apply Pk.there))) rfl rfl (fun v G5 outs hle5 hh => ?_); obtain ⟨rfl, rfl, hv⟩ := hh; obtain ⟨k', rfl, hk'⟩ : ∃ k', v = .int .i64 k' ∧ E6 k' := (by simp only [List.mem_cons, List.not_mem_nil, or_false] at hv; rcases hv with rfl | rfl | rfl | rfl | rfl | rfl <;> exact ⟨_, rfl, by unfold E6; omega⟩))
 refine sQ (B1 rfl) rfl (F9 ?_)
 refine sD (M8 ?_)
 refine Q2 ([.int .i64 k', .string nm, .int .i64 num, .int .i64 tk, .slice q1 tks.length c1, .int .i64 fk, .slice q2 fks.length c2, .int .i64 lb, .slice q3 ks.length c3], p + 1 + 1, G5) (O1 (by repeat (first | exact E3.nil | refine E3.cons rfl ?_)) (by repeat (first | exact A0.refl | exact A0.nil | refine A0.cons (by repeat (first | exact Pk.here | apply Pk.there)) ?_ | apply A0.drop))) ?_
 (dsimp only; exact ⟨hle4, by omega, by omega, _, A8.of9 hk' hnum hlb (hty.mono hle4) (hfr.mono hle4) (hsl.mono hle4) (hkl.mono hle4), A2w hsm hfit.1.1 hfit.1.2.1 hfit.1.2.2.1, rfl⟩)
 refine sQ (qA rfl) rfl (sD (nS (cF rfl (tS (tR ?_)))))
 refine sB (qE rfl rfl) rfl rfl (fun h47 => ?_) (fun h47 => ?_)
 refine sQ (qA rfl) rfl (sD (nS (qT rfl (tR (sQ (qM rfl) rfl ?_)))))
 (refine L9 (C9 rfl rfl rfl (by omega) (by unfold maxLen; omega) rfl) rfl ?_; rintro _ ⟨b54, rfl⟩)
 (refine T6 (by repeat (first | exact Pk.here | apply Pk.there)) (fun G4 hle4 hsl4 _ => ?_); refine I7 rfl (A6i G4 br pb nb cb (p + 1) bs _ _ _ _ (hb.mono hle4) hnb (by omega) hsl4 (by decide)) (Pk.perm (by repeat (first | exact Pk.here | apply Pk.there))) rfl rfl (fun v G5 outs hle5 hh => ?_); obtain ⟨rfl, rfl, hv⟩ := hh; obtain ⟨nm', rfl, hnm'⟩ : ∃ nm', v = .string nm' ∧ nm'.size ≤ 2 := (by simp only [List.mem_cons, List.not_mem_nil, or_false] at hv; rcases hv with rfl | rfl | rfl | rfl <;> exact ⟨_, rfl, by decide⟩))
 refine sQ (B1 rfl) rfl (F9 ?_)
 refine sD (M8 ?_)
 refine Q2 ([.int .i64 k, .string nm', .int .i64 num, .int .i64 tk, .slice q1 tks.length c1, .int .i64 fk, .slice q2 fks.length c2, .int .i64 lb, .slice q3 ks.length c3], p + 1 + 1, G5) (O1 (by repeat (first | exact E3.nil | refine E3.cons rfl ?_)) (by repeat (first | exact A0.refl | exact A0.nil | refine A0.cons (by repeat (first | exact Pk.here | apply Pk.there)) ?_ | apply A0.drop))) ?_
 (dsimp only; exact ⟨hle4, by omega, by omega, _, A8.of9 hk hnum hlb (hty.mono hle4) (hfr.mono hle4) (hsl.mono hle4) (hkl.mono hle4), A2w hsm (by omega) hfit.1.2.1 hfit.1.2.2.1, rfl⟩)
 refine sQ (qA rfl) rfl (sD (nS (cF rfl (tS (tR ?_)))))
 refine sB (qE rfl rfl) rfl rfl (fun h68 => ?_) (fun h68 => ?_)
 refine sQ (qA rfl) rfl (sD (nS (qT rfl (tR (sQ (qM rfl) rfl ?_)))))
 (refine L9 (C9 rfl rfl rfl (by omega) (by unfold maxLen; omega) rfl) rfl ?_; rintro _ ⟨b75, rfl⟩)
 (refine T6 (by repeat (first | exact Pk.here | apply Pk.there)) (fun G4 hle4 hsl4 _ => ?_); refine I7 rfl (A0c G4 br pb nb cb (p + 1) bs _ _ _ _ (hb.mono hle4) hnb (by omega) hsl4 (by decide)) (Pk.perm (by repeat (first | exact Pk.here | apply Pk.there))) rfl rfl (fun v G5 outs hle5 hh => ?_); obtain ⟨rfl, rfl, hv⟩ := hh; obtain ⟨k', rfl, hk'⟩ : ∃ k', v = .int .i64 k' ∧ E6 k' := (by simp only [List.mem_cons, List.not_mem_nil, or_false] at hv; rcases hv with rfl | rfl | rfl | rfl | rfl | rfl <;> exact ⟨_, rfl, by unfold E6; omega⟩))
 refine sQ (B1 rfl) rfl (F9 ?_)
 refine sD (M8 ?_)
 refine Q2 ([.int .i64 k, .string nm, .int .i64 k', .int .i64 tk, .slice q1 tks.length c1, .int .i64 fk, .slice q2 fks.length c2, .int .i64 lb, .slice q3 ks.length c3], p + 1 + 1, G5) (O1 (by repeat (first | exact E3.nil | refine E3.cons rfl ?_)) (by repeat (first | exact A0.refl | exact A0.nil | refine A0.cons (by repeat (first | exact Pk.here | apply Pk.there)) ?_ | apply A0.drop))) ?_
 (dsimp only; exact ⟨hle4, by omega, by omega, _, A8.of9 hk hk' hlb (hty.mono hle4) (hfr.mono hle4) (hsl.mono hle4) (hkl.mono hle4), A2w hsm hfit.1.1 hfit.1.2.1 hfit.1.2.2.1, rfl⟩)
 refine sQ (qA rfl) rfl (sD (nS (cF rfl (tS (tR ?_)))))
 refine sB (qE rfl rfl) rfl rfl (fun h89 => ?_) (fun h89 => ?_)
 refine C2 ?_
 (refine I7 rfl (B28 br pb nb cb bs hnb (p + 1) _ hb (by omega)) (Pk.perm (by repeat (first | exact Pk.here | apply Pk.there))) rfl rfl (fun v G3 outs hle3 hh => ?_); obtain ⟨p3, hp31, hp32, rfl, t3, cells3, rfl, hr3, hs3⟩ := hh)
 (refine I7 rfl (B3a br pb nb cb bs hnb p3 _ (hb.mono hle3) (by omega) t3 cells3 hr3 hs3) (Pk.perm (by repeat (first | exact Pk.here | apply Pk.there))) rfl rfl (fun v G4 outs hle4 hh => ?_); obtain ⟨p4, hp41, hp42, rfl, t4, cells4, rfl, hr4, hs4⟩ := hh; have hts4 := A3B t4 (by omega); obtain ⟨t4k, t4s⟩ := t4; obtain ⟨q4, c4, es4, rfl, _⟩ := hr4.open; have hle24 := hle3.trans hle4)
 refine sQ (B1 rfl) rfl (F9 ?_)
 refine sD (M8 ?_)
 refine Q2 ([.int .i64 k, .string nm, .int .i64 num, .int .i64 t4k, .slice q4 t4s.length c4, .int .i64 fk, .slice q2 fks.length c2, .int .i64 lb, .slice q3 ks.length c3], p4, G4) (O1 (by repeat (first | exact E3.nil | refine E3.cons rfl ?_)) (by repeat (first | exact A0.refl | exact A0.nil | refine A0.cons (by repeat (first | exact Pk.here | apply Pk.there)) ?_ | apply A0.drop))) ?_
 (dsimp only; exact ⟨hle24, by omega, by omega, _, A8.of9 hk hnum hlb hr4 (hfr.mono hle24) (hsl.mono hle24) (hkl.mono hle24), A2w hsm hfit.1.1 hts4 hfit.1.2.2.1, rfl⟩)
 refine sQ (qA rfl) rfl (sD (nS (cF rfl (tS (tR ?_)))))
 refine sB (qE rfl rfl) rfl rfl (fun h111 => ?_) (fun h111 => ?_)
 refine D4 ?_
 refine Q2 ([.int .i64 k, .string nm, .int .i64 num, .int .i64 tk, .slice q1 tks.length c1, .int .i64 fk, .slice q2 fks.length c2, .int .i64 1, .slice q3 ks.length c3], p + 1, G2) (O1 (by repeat (first | exact E3.nil | refine E3.cons rfl ?_)) (by repeat (first | exact A0.refl | exact A0.nil | refine A0.cons (by repeat (first | exact Pk.here | apply Pk.there)) ?_ | apply A0.drop))) ?_
 (dsimp only; exact ⟨B6.refl _, by omega, by omega, _, A8.of9 hk hnum ⟨by omega, by omega⟩ hty hfr hsl hkl, A2w hsm hfit.1.1 hfit.1.2.1 hfit.1.2.2.1, rfl⟩)
 refine sQ (qA rfl) rfl (sD (nS (cF rfl (tS (tR ?_)))))
 refine sB (qE rfl rfl) rfl rfl (fun h129 => ?_) (fun h129 => ?_)
 refine sQ (qA rfl) rfl (sD (nS (qT rfl (tR ?_))))
 refine H3 rfl ((A1k _)) rfl rfl ?_
 refine sQ (B1 rfl) rfl (F9 ?_)
 refine sD (M8 ?_)
 refine Q2 ([.int .i64 k, .string nm, .int .i64 num, .int .i64 tk, .slice q1 tks.length c1, .int .i64 1, .slice none 0 0, .int .i64 lb, .slice q3 ks.length c3], p + 1, G2) (O1 (by repeat (first | exact E3.nil | refine E3.cons rfl ?_)) (by repeat (first | exact A0.refl | exact A0.nil | refine A0.cons (by repeat (first | exact Pk.here | apply Pk.there)) ?_ | apply A0.drop))) ?_
 (dsimp only; exact ⟨B6.refl _, by omega, by omega, _, A8.of9 hk hnum hlb hty (A0H _) hsl hkl, A2w hsm hfit.1.1 hfit.1.2.1 (by simp [Ty.small, Ty.smallL]), rfl⟩)
 refine sQ (qA rfl) rfl (sD (nS (cF rfl (tK (M8 ?_)))))
 refine Q2 ([.int .i64 k, .string nm, .int .i64 num, .int .i64 tk, .slice q1 tks.length c1, .int .i64 fk, .slice q2 fks.length c2, .int .i64 lb, .slice q3 ks.length c3], p + 1, G2) (O1 (by repeat (first | exact E3.nil | refine E3.cons rfl ?_)) (by repeat (first | exact A0.refl | exact A0.nil | refine A0.cons (by repeat (first | exact Pk.here | apply Pk.there)) ?_ | apply A0.drop))) ?_
 (dsimp only; exact ⟨B6.refl _, by omega, by omega, _, A8.of9 hk hnum hlb hty hfr hsl hkl, A2w hsm hfit.1.1 hfit.1.2.1 hfit.1.2.2.1, rfl⟩)
 (rintro ⟨cells9, p9, G9⟩ ⟨hle9, hp9, hp9', t9, hr9, hs9, hc9⟩; simp only [] at hle9 hp9 hp9' hr9 hs9 hc9 ⊢; have hl9 := hr9.len; have ho9 := hr9.one)
 refine tS (tR ?_)
 refine sL (A1 rfl rfl (A9 (by repeat first | exact mH | apply mT)) hl9) rfl rfl ?_
 refine sS rfl rfl rfl hl9 ho9 rfl ?_ (hu := by exact C3 hl9.symm)
 refine sD (nS (tT ?_))
 refine H6 (outs := [rd br pb nb cb p9]) (rC rfl (A1 rfl rfl (A9 (by repeat first | exact mH | apply mT)) hl9)) (by repeat (first | exact A0.nil | refine A0.cons Pk.here ?_ | refine A0.cons (Pk.there Pk.here) ?_ | refine A0.cons (Pk.there (Pk.there Pk.here)) ?_ | apply A0.drop)) ?_
 (exact ⟨p9, by omega, by omega, rfl, t9, cells9, rfl, hr9, hs9, by omega⟩)
section slaw
variable {P : Program} {Γ : M0} {env : M4} {hp : List A4} {G : IM} {ty : TypeId} {K : Po} {ops : Array Oper} {rest : List Oper}
theorem St.slc_open {a : Act} {w : World} {p : Option Addr} {c el sz n : Nat} {cs : List Value} {hp' : List A4} (hs : St Γ ⟨env, hp, G⟩ a w) (hk : Pk hp (.slc p c el sz n cs) hp') (h0 : 0 < n) :
  ∃ b C, p = some ⟨b, 0, none⟩ ∧ n ≤ c ∧ c ≤ maxLen ∧ St Γ ⟨env, .blk b (cs ++ C) :: hp', G⟩ a w := by
 have hown : T4 [.slc p c el sz n cs] G w := hs.res.own.of_mem hk.perm
 obtain ⟨hl, h⟩ := hown.ok _ List.mem_cons_self
 rcases h with ⟨hv, hn⟩ | ⟨g, cap, cur, hv, _, hg, hnc, hcm, hsz, ht⟩
 ·omega
 ·cases hv
  refine ⟨g, cur.toList.drop cs.length, rfl, hnc, hcm, ?_⟩
  have hcur : cur.toList = cs ++ cur.toList.drop cs.length := by
   have e : cs.length = n * sz := hl
   rw [e]
   conv => lhs; rw [← List.take_append_drop (n * sz) cur.toList, ht]
  have hr : R7 [.slc (some ⟨g, 0, none⟩) c el sz n cs] G w [.blk g (cs ++ cur.toList.drop cs.length)] G w := by
   refine ⟨⟨hown.inn, ?_, by simp [Fp, A4.fp], ?_⟩, Ext.refl _ _, B6.refl _, fun _ _ h => .inl h, ?_, fun b l h h0 => absurd h (by rw [h0]; simp)⟩
   ·intro e he
    simp at he; subst he
    refine ⟨el, ?_⟩
    rw [← hcur]; simpa using hg
   ·intro b' hb; exact hown.disj b' (by simpa [Fp, A4.fp, J4] using hb)
   ·intro b' hb; exact .inr (by simpa [Fp, A4.fp, J4] using hb)
  exact ⟨hs.size, hs.nod, hs.env, by have := (hs.res.perm hk.perm).frame hr; simpa using this⟩
theorem A3R {p : Option Addr} {c el sz n : Nat} {cs : List Value} {hp' : List A4} (hk : Pk hp (.slc p c el sz n cs) hp') (h0 : 0 < n)
  (h : ∀ b C, p = some ⟨b, 0, none⟩ → n ≤ c → c ≤ maxLen → I0 P Γ ops rest K ⟨env, .blk b (cs ++ C) :: hp', G⟩) : I0 P Γ ops rest K ⟨env, hp, G⟩ :=
 ⟨fun a w hs => let ⟨b, C, h1, h2, h3, h4⟩ := hs.slc_open hk h0; (h b C h1 h2 h3).run a w h4⟩
end slaw
theorem B3p {es : List (List Value)} {j : Nat} {vs : List Value} (hj : j < es.length) : (es.set j vs).flatten = (es.take j).flatten ++ (vs ++ (es.drop (j + 1)).flatten) := by
 rw [List.set_eq_take_append_cons_drop, if_pos hj]; simp
theorem A8X {es : List (List Value)} {j : Nat} (hj : j < es.length) : es.flatten = (es.take j).flatten ++ (es[j] ++ (es.drop (j + 1)).flatten) := by
 have h := congrArg List.flatten (List.take_append_drop j es).symm
 rw [List.drop_eq_getElem_cons hj, List.flatten_append, List.flatten_cons] at h
 exact h
theorem A3S {es : List (List Value)} {C vs : List Value} {j sz : Nat} (hj : j < es.length) (ha : ∀ e ∈ es, e.length = sz) (hv : vs.length = sz) : V4 (es.flatten ++ C) (0 + j * sz) vs = some ((es.set j vs).flatten ++ C) := by
 have := A7O (A := (es.take j).flatten) (B := es[j]) (C := (es.drop (j + 1)).flatten ++ C) (V := vs) (o := 0 + j * sz)
  (by rw [A1d (fun e he => ha e (List.mem_of_mem_take he)), List.length_take]; rw [Nat.min_eq_left (by omega)]; omega) (by rw [ha _ (List.getElem_mem hj), hv])
 rw [A8X hj, B3p hj]
 simp only [List.append_assoc] at this ⊢
 exact this
theorem D7.set {G : IM} : ∀ {ks : List Tm} {es : List (List Value)} {j : Nat} {y : Tm} {v : List Value}, D7 G ks es → A8 G y v → D7 G (ks.set j y) (es.set j v)
 | [], es, j, y, v, h, h2 => by simp only [D7] at h; subst h; simp [D7]
 | t :: ts, es, 0, y, v, h, h2 => by
  simp only [D7] at h
  obtain ⟨a, r, rfl, h3, h4⟩ := h
  simp only [List.set_cons_zero, D7]
  exact ⟨v, r, rfl, h2, h4⟩
 | t :: ts, es, j + 1, y, v, h, h2 => by
  simp only [D7] at h
  obtain ⟨a, r, rfl, h3, h4⟩ := h
  simp only [List.set_cons_succ, D7]
  exact ⟨a, r.set j v, rfl, h3, D7.set h4 h2⟩
def A8Y : Tm → List Int → Tm → Tm
 | _, [], x => x
 | .mk k nm num ty fr lb ks, i :: is, x => if h : 0 ≤ i ∧ i < ks.length then .mk k nm num ty fr lb (ks.set i.toNat (A8Y (ks[i.toNat]'(by omega)) is x)) else .mk k nm num ty fr lb ks
def TyV (e : Tm) (G : IM) : IM → Value → List A4 → Prop := L5 fun G' v => ∃ t cells b, v = .tuple ⟨[.agg ⟨cells⟩, .bool b]⟩ ∧ B7 G' t cells ∧ E5 t ∧ J7 t ≤ 960 ∧ (b = true → N9 e = true)
theorem B3q {G : IM} {e : Tm} {ce : List Value} {p : Option Addr} {c : Nat} (hr : A8 G e ce) (hs : Sl G p 1 c 9 ce) : D0 G p [e].length c 9 [ce] ∧ D7 G [e] [ce] := by
 refine ⟨D0.of (by simpa using hs) rfl (fun x hx => by simp only [List.mem_singleton] at hx; subst hx; exact hr.len) (fun x hx => by simp only [List.mem_singleton] at hx; subst hx; exact hr.one), ?_⟩
 simp only [D7]
 exact ⟨ce, [], rfl, hr, rfl⟩
def B7Q (e : Tm) (label : Int) (G : IM) : IM → Value → List A4 → Prop := L5 fun G' v => ∃ u cu l', v = .tuple ⟨[.agg ⟨cu⟩, .int .i64 l']⟩ ∧ A8 G' u cu ∧ (e.small → u.small) ∧ C6 u ≤ C6 e + 1 ∧ label ≤ l' ∧ l' ≤ label + 1
def B7R (n : Nat) (G : IM) : IM → Value → List A4 → Prop := L5 fun G' v => ∃ p c es ws, v = .slice p n c ∧ ws.length = n ∧ D0 G' p n c 2 es ∧ D2 G' ws es ∧ ∀ w ∈ ws, E5 w
theorem D7.at2 {G : IM} {ts : List Tm} {es : List (List Value)} {i : Nat} (h : D7 G ts es) (h1 : i < ts.length) (h2 : i < es.length) : i < es.length ∧ A8 G ts[i] es[i] := by
 have := (h.inv (List.getElem?_eq_getElem h2) F4).2
 rw [List.getD_eq_getElem?_getD, List.getElem?_eq_getElem h1] at this
 exact ⟨h2, this⟩
theorem A8Z {hp : List A4} {G : IM} {b sz i : Nat} {es : List (List Value)} {C : List Value} (hm : A4.blk b (es.flatten ++ C) ∈ hp) (hi : i < es.length) (ha : ∀ e ∈ es, e.length = sz) : At hp G b (0 + i * sz) es[i] := by
 refine .inl ⟨_, hm, fun j u hu => ?_⟩
 rw [A8X hi, List.append_assoc, List.append_assoc]
 have hl : (es.take i).flatten.length = i * sz := by
  rw [A1d (fun e he => ha e (List.mem_of_mem_take he)), List.length_take, Nat.min_eq_left (by omega)]
 have hj : j < es[i].length := (List.getElem?_eq_some_iff.1 hu).1
 rw [List.getElem?_append_right (by omega), show 0 + i * sz + j - (es.take i).flatten.length = j by omega, List.getElem?_append_left hj]
 exact hu
def B7S (e : Tm) (label : Int) (G : IM) : IM → Value → List A4 → Prop := L5 fun G' v => ∃ u cu t ct l', v = .tuple ⟨[.agg ⟨cu⟩, .agg ⟨ct⟩, .int .i64 l']⟩ ∧ A8 G' u cu ∧ u.small ∧ C6 u + 1 ≤ 2 * C6 e ∧ B7 G' t ct ∧ E5 t ∧ J7 t ≤ 32 * (C6 e : Int) ∧ label ≤ l' ∧ l' + 1 ≤ label + 2 * (C6 e : Int)
def Y7 (t : Ty) : Ty := if t.k = 4 ∨ t.k = 5 then .mk t.k [O9, O9] else .mk t.k []
def V1 (t : Ty) : Bool := decide (t.k ≠ 1) && O2 t (Y7 t)
def R4 (t : Tm) : Bool := decide (t.k = 14 ∧ t.fr.k = t.ty.k ∧ (t.ty.k = 4 ∨ t.ty.k = 5))
def inj (t : Tm) : Bool := decide (t.k = 14 ∧ t.ty.k = 1) && V1 t.fr
mutual
def C8 : Tm → Bool
 | .mk k nm num ty fr lb ks => if k = 10 ∨ (k = 14 ∧ fr.k = ty.k ∧ (ty.k = 4 ∨ ty.k = 5)) ∨ (k = 14 ∧ ty.k = 1 ∧ V1 fr = true) then A07 ks else decide (k = 2 ∨ k = 3 ∨ k = 4 ∨ k = 5)
def A07 : List Tm → Bool
 | [] => true
 | t :: ts => C8 t && A07 ts
end
mutual
def S2 (x : ByteArray) (v : Tm) : Tm → Tm
 | .mk k nm num ty fr lb ks => if k = 1 ∧ nm = x then v else if k = 5 ∧ nm = x then .mk k nm num ty fr lb ks else .mk k nm num ty fr lb (R5 x v ks)
def R5 (x : ByteArray) (v : Tm) : List Tm → List Tm
 | [] => []
 | t :: ts => S2 x v t :: R5 x v ts
end
theorem A4T (x : ByteArray) (v : Tm) : ∀ ks, R5 x v ks = ks.map (S2 x v)
 | [] => rfl
 | t :: ts => by rw [R5, A4T x v ts, List.map_cons]
def O7 (e : Tm) (fr to : Ty) (lb : Int) : Tm := .mk 14 ⟨#[]⟩ 0 to fr lb [e]
def A0t (k : Int) (ks : List Tm) : Tm := .mk k ⟨#[]⟩ 0 A7 A7 0 ks
def A1N (n : Int) : Tm := .mk 2 ⟨#[]⟩ n A7 A7 0 []
def W8 (b : Prop) [Decidable b] : Tm := A0t (if b then 3 else 4) []
abbrev Stp := Tm × Int × Int
def S8 : Stp := (F4, 3, 0)
def kd (ks : List Tm) (i : Nat) : Tm := ks.getD i F4
def kt (ks : List Ty) (i : Nat) : Ty := ks.getD i A7
def Q7 (k : Int) (ty fr : Ty) (lb : Int) (ks : List Tm) : Stp :=
 if k = 6 then
  (if (kd ks 0).k = 5 then (S2 (kd ks 0).nm (kd ks 1) (kd (kd ks 0).ks 0), 1, 0)
   else if R4 (kd ks 0) = true ∧ (kd ks 0).ty.k = 4 then (O7 (A0t 6 [kd (kd ks 0).ks 0, O7 (kd ks 1) (kt (kd ks 0).ty.ks 0) (kt (kd ks 0).fr.ks 0) (-(kd ks 0).lb)]) (kt (kd ks 0).fr.ks 1) (kt (kd ks 0).ty.ks 1) (kd ks 0).lb, 1, 0)
   else S8)
 else if k = 7 ∨ k = 8 then
  (if (kd ks 0).k = 2 ∧ (kd ks 1).k = 2 then (if k = 7 then A1N (((kd ks 0).num + (kd ks 1).num) % 1000) else W8 ((kd ks 0).num < (kd ks 1).num), 1, 0) else S8)
 else if k = 9 then (if (kd ks 0).k = 3 then (kd ks 1, 1, 0) else if (kd ks 0).k = 4 then (kd ks 2, 1, 0) else S8)
 else if k = 11 ∨ k = 12 then
  (if (kd ks 0).k = 10 then (kd (kd ks 0).ks (k - 11).toNat, 1, 0)
   else if R4 (kd ks 0) = true ∧ (kd ks 0).ty.k = 5 then (O7 (A0t k [kd (kd ks 0).ks 0]) (kt (kd ks 0).fr.ks (k - 11).toNat) (kt (kd ks 0).ty.ks (k - 11).toNat) (kd ks 0).lb, 1, 0)
   else S8)
 else if k = 14 then
  (if fr.k = ty.k then (kd ks 0, 1, 0)
   else if ty.k = 1 then (O7 (O7 (kd ks 0) fr (Y7 fr) lb) (Y7 fr) ty lb, 1, 0)
   else if V1 ty = false then (O7 (O7 (kd ks 0) fr (Y7 ty) lb) (Y7 ty) ty lb, 1, 0)
   else if inj (kd ks 0) = false then S8
   else if (kd ks 0).fr.k = ty.k then (kd (kd ks 0).ks 0, 1, 0)
   else (F4, 2, lb))
 else S8
mutual
def H7 : Tm → Stp
 | .mk k nm num ty fr lb ks => match V8 (if k = 9 then 1 else ks.length) ks with
  | some (ks', c, l) => if c = 1 then (.mk k nm num ty fr lb ks', 1, 0) else (F4, c, l)
  | none => Q7 k ty fr lb ks
def V8 : Nat → List Tm → Option (List Tm × Int × Int)
 | _, [] => none
 | n, t :: ts => match n with
  | 0 => none
  | n + 1 => if C8 t = true then (match V8 n ts with
    | some (us, c, l) => some (t :: us, c, l)
    | none => none)
   else some ((H7 t).1 :: ts, (H7 t).2.1, (H7 t).2.2)
end
def H5 (e : Tm) : Stp :=
 if J3 e = false then S8 else if C8 e = true then (e, 0, 0)
 else if (H7 e).2.1 ≠ 1 then (F4, (H7 e).2.1, (H7 e).2.2)
 else if J3 (H7 e).1 = false then (F4, 4, 0) else ((H7 e).1, 1, 0)
def N4 : Nat → Tm → Tm × Int × Int × Nat
 | 0, e => if (H5 e).2.1 = 1 then (F4, 5, 0, 0) else ((H5 e).1, (H5 e).2.1, (H5 e).2.2, 0)
 | n + 1, e => if (H5 e).2.1 = 1 then ((N4 n (H5 e).1).1, (N4 n (H5 e).1).2.1, (N4 n (H5 e).1).2.2.1, (N4 n (H5 e).1).2.2.2 + 1)
  else ((H5 e).1, (H5 e).2.1, (H5 e).2.2, 0)
def S3 (e : Tm) (fuel : Int) : Stp := if 0 ≤ fuel ∧ fuel ≤ 300 then ((N4 fuel.toNat e).1, (N4 fuel.toNat e).2.1, (N4 fuel.toNat e).2.2.1) else S8
def B7T (e : Tm) (fuel : Int) : Int := if 0 ≤ fuel ∧ fuel ≤ 300 then ((N4 fuel.toNat e).2.2.2 : Int) else 0
structure CvN (k : Int) (nm : ByteArray) (num : Int) (ty fr : Ty) (lb : Int) (ks : List Tm) : Prop where
 ops : C7 k = ks.length
 ne : k ≠ 13
 nm1 : nm.size ≤ 1
 num0 : 0 ≤ num ∧ num ≤ 999
 tyA : E5 ty
 frA : E5 fr
 lbB : -99 ≤ lb ∧ lb ≤ 99
 c14 : k = 14 → K1 fr ty = true ∧ E7 ty = true ∧ E7 fr = true
 ty5 : ¬(k = 5 ∨ k = 14) → ty = A7
 fr14 : k ≠ 14 → fr = A7 ∧ lb = 0
def cv (t : Tm) : Prop := ∃ d, J1 40 13 t d = true
theorem A3T {n lo hi : Int} : P8 n lo hi = true ↔ lo ≤ n ∧ n ≤ hi := by unfold P8; rw [decide_eq_true_eq]
theorem cv.node {k : Int} {nm : ByteArray} {num : Int} {ty fr : Ty} {lb : Int} {ks : List Tm} (h : cv (.mk k nm num ty fr lb ks)) : CvN k nm num ty fr lb ks ∧ ∀ t ∈ ks, cv t := by
 obtain ⟨d, h⟩ := h
 obtain ⟨_, h2, h3, h4⟩ := W6 h
 obtain ⟨n1, n2, n3, n4, n5, n6, n7, n8, n9⟩ := U8.1 h3
 refine ⟨⟨n1, h2, A8V h3, ?_, (A4S h3).1, ?_, ?_, ?_, ?_, ?_⟩, fun t ht => ?_⟩
 ·by_cases hk : k = 2
  ·exact A3T.1 (n4 hk)
  ·have := A3T.1 (n5 hk); omega
 ·by_cases hk : k = 14
  ·have := (n8 hk).1
   simp only [A0Z, Bool.and_eq_true] at this
   exact (A3Q this.1.1).1
  ·rw [A1J (n9 hk).1]; exact T9 (by decide) (by decide)
 ·by_cases hk : k = 14
  ·have := (n8 hk).2
   simp only [A00, Bool.or_eq_true, A3T] at this
   omega
  ·have := (n9 hk).2; omega
 ·intro hk
  have := (n8 hk).1
  simp only [A0Z, Bool.and_eq_true] at this
  exact ⟨this.2, this.1.2, this.1.1⟩
 ·intro hk
  exact A1J (n7 (by omega))
 ·intro hk
  exact ⟨A1J (n9 hk).1, (n9 hk).2⟩
 ·obtain ⟨i, hi, rfl⟩ := List.mem_iff_getElem.1 ht
  exact ⟨_, (A05 40 13 ks _).1 h4 i hi⟩
theorem A0Q {t : Tm} (h : J3 t = true) : cv t ∧ C6 t ≤ 200 := by
 obtain ⟨h1, h2⟩ := (A1I t).1 h
 exact ⟨⟨1, h1⟩, h2⟩
mutual
theorem A12 : ∀ (t : Tm), cv t → t.small
 | .mk k nm num ty fr lb ks, h => by
  obtain ⟨hn, hk⟩ := h.node
  rw [Tm.small]
  refine ⟨by have := hn.nm1; omega, hn.tyA.small, hn.frA.small, ?_, A80 ks hk⟩
  have := A1L k
  have := hn.ops
  omega
theorem A80 : ∀ (ts : List Tm), (∀ t ∈ ts, cv t) → Tm.smallL ts
 | [], _ => by rw [Tm.smallL]; trivial
 | t :: ts, h => by
  rw [Tm.smallL]
  exact ⟨A12 t (h t List.mem_cons_self), A80 ts fun u hu => h u (List.mem_cons_of_mem _ hu)⟩
end
theorem U1 (k : Int) (nm : ByteArray) (num : Int) (ty fr : Ty) (lb : Int) (ks : List Tm) : C6 (.mk k nm num ty fr lb ks) = D6 ks + 1 := by rw [C6]
theorem A0y {k : Int} {nm : ByteArray} {num : Int} {ty fr : Ty} {lb : Int} {ks : List Tm} : (Tm.mk k nm num ty fr lb ks).small ↔ nm.size ≤ 4294967296 ∧ ty.small ∧ fr.small ∧ ks.length ≤ 4294967296 ∧ Tm.smallL ks := by rw [Tm.small]
theorem A3U : F4.small := by simp [F4, Tm.small, Ty.small, Ty.smallL, Tm.smallL, ByteArray.size]
theorem A13 : A7.small := by simp [A7, Ty.small, Ty.smallL]
mutual
theorem A81 {x : ByteArray} {v : Tm} (hv : v.small) : ∀ (t : Tm), t.small → (S2 x v t).small ∧ C6 (S2 x v t) ≤ C6 t * C6 v
 | .mk k nm num ty fr lb ks, h => by
  obtain ⟨h1, h2, h3, h4, h5⟩ := A0y.1 h
  obtain ⟨s1, s2⟩ := A82 hv ks h5
  have hp : 1 ≤ C6 v := by cases v; rw [C6]; omega
  rw [S2]
  split
  ·refine ⟨hv, ?_⟩
   rw [U1]
   exact Nat.le_mul_of_pos_left _ (by omega)
  ·split
   ·exact ⟨h, Nat.le_mul_of_pos_right _ hp⟩
   ·refine ⟨A0y.2 ⟨h1, h2, h3, by rw [A4T, List.length_map]; exact h4, s1⟩, ?_⟩
    rw [U1, U1, Nat.add_mul]
    omega
theorem A82 {x : ByteArray} {v : Tm} (hv : v.small) : ∀ (ts : List Tm), Tm.smallL ts → Tm.smallL (R5 x v ts) ∧ D6 (R5 x v ts) ≤ D6 ts * C6 v
 | [], _ => by simp [R5, Tm.smallL, D6]
 | t :: ts, h => by
  simp only [Tm.smallL] at h
  obtain ⟨a1, a2⟩ := A81 hv t h.1
  obtain ⟨b1, b2⟩ := A82 hv ts h.2
  simp only [R5, Tm.smallL, D6, Nat.add_mul]
  exact ⟨⟨a1, b1⟩, by omega⟩
end
theorem A14 {ks : List Tm} (h : Tm.smallL ks) (i : Nat) : (kd ks i).small := by
 unfold kd
 rw [List.getD_eq_getElem?_getD]
 cases hi : ks[i]? with
 | none => exact A3U
 | some t => exact Tm.smallL_mem h t (List.mem_of_getElem? hi)
theorem A4U {ks : List Tm} (i : Nat) : C6 (kd ks i) ≤ D6 ks + 1 := by
 unfold kd
 rw [List.getD_eq_getElem?_getD]
 cases hi : ks[i]? with
 | none => simp [F4, C6, D6]
 | some t =>
  have := A5W (List.mem_of_getElem? hi)
  simp only [Option.getD_some]; omega
end Gw
end Go.Proofs.YtfpgncjeejickaaGreatDoor
