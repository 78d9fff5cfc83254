/-
  The reference model's TermValid. slices.Clone of numbers, paths, AllPaths. AllPaths. append of a slice in memory that no longer changes, empty or not. The reference model's paths. The reference model's AllPaths. The law that AllPaths gives what the reference model gives: its walk. Nodes at paths, casts by their labels. The node of a term at a path. Where ways meet again. The reference model's drawn types: what they are made of, and how big they are. The reference model's drawn types, changed at random. The reference model's drawn types, changed at random. Terms without casts and types, in plain words. Strings: cut, put together, compared. The reference model's drawn terms: what they are made of, and how big they are. The reference model's drawn terms. The reference model's source is opened; drawn closed terms and valid terms. The reference model's functions on types: they end, and what they give has operands as it must. The laws' reading of marks in types and terms. Contexts of bindings: looked up, made longer. The reference model's typing: it ends, and what it gives is a type whose nodes have their operands, not wider than the term is big. The reference model's terms that are sometimes made invalid; drawn arguments. Slices of slices; slices of the call's own opened as blocks; one element of a slice of terms replaced. Casts put in: one cast, the types that are asked for. InsertCasts of the reference model: it ends, and what it gives is not much bigger than what it is given. Which names are free, at which place a name is bound: what comes out is small. Evaluation of terms with casts, in plain words.
-/
import Derived.Test.YtebfignffjhnhaaGreatDoorKh2
import Derived.Test.YtebfignffjhnhaaGreatDoorKh1
import Derived.Test.YtebfignffjhnhaaGreatDoorKh0
import Derived.Laws.Slices
set_option linter.unusedVariables false
set_option linter.unusedSimpArgs false
set_option maxHeartbeats 0
set_option maxRecDepth 100000
set_option synthInstance.maxSize 4000
set_option synthInstance.maxHeartbeats 0
namespace Go.Proofs.YtebfignffjhnhaaGreatDoor
open Go Go.RowKit
namespace Gw
theorem A0C (t : Tm) : N9 t = true ↔ M8 12 14 t 1 = true ∧ D3 t ≤ 30 := by
 have := A6F 30 12 14 t 1 0 (by omega)
 rw [N9, this]
 constructor
 ·rintro ⟨a, b⟩; exact ⟨a, by omega⟩
 ·rintro ⟨a, b⟩; exact ⟨a, by omega⟩
theorem B34 : ∀ (t : Tm) (d : Int) (G : IM) (cells : List Value), 0 ≤ d ∧ d ≤ 12 → B1 G t cells →
  Fn Tryz.prog 185 [.agg ⟨cells⟩, .int .i64 d] [] G (I5 (.bool (M8 12 14 t (13 - d))) G) := by
 refine Tm.ind fun k nm num ty fr lb ks ih d G cells hd hr => ?_
 have hr0 := hr
 have hne := fun h : k ≠ 14 => @A9n k nm num ty fr lb ks.length h
 have har := fun h : V8 k nm num ty fr lb ks.length = true => (T9.1 h).1
 obtain ⟨R, hR⟩ : ∃ R, V8 k nm num ty fr lb ks.length = R := ⟨_, rfl⟩
 rw [hR] at hne har
 have hl2 := A9l k nm num ty fr lb ks G cells hr0 R
 have hk1 := A4T k G
 obtain ⟨tk, tks⟩ := ty
 obtain ⟨fk, fks⟩ := fr
 obtain ⟨pt, ct, pf, cf, p, c, es, rfl, hk, hnum, hlb, hty, hfr, hsl, hkl⟩ := hr.open9
 have hn := hsl.le
 clear hr hr0
 refine C1 Tryz.func185 rfl Tryz.ntmps185 Tryz.results185 rfl ?_
 intro w0
 refine A3 ?_
 refine sE (C7 rfl rfl) rfl (fun b3 => ?_)
 refine B0 ?_
 refine E2 E4 rfl ?_
 refine J4 (i := 0) (l' := [tt,ff,ff,ff,ff,ff,ff,ff,ff,ff,ff,ff,ff,ff,ff,ff,ff,ff,ff,ff,ff]) rfl D6 (qM rfl) rfl (by kernel_rfl) rfl rfl ?_
 refine A0v (i := 1) (l' := [tt,tt,ff,ff,ff,ff,ff,ff,ff,ff,ff,ff,ff,ff,ff,ff,ff,ff,ff,ff,ff]) rfl D6 (I8 rfl rfl) rfl (by kernel_rfl) rfl rfl (fun h11 => ?_) (fun h11 => ?_)
 refine aP 2 rfl (qM rfl) rfl ?_
 refine C4 3 rfl rfl rfl ?_
 refine C4 4 rfl rfl rfl ?_
 refine C4 6 rfl rfl rfl ?_
 refine C4 7 rfl rfl rfl ?_
 refine C4 8 rfl rfl rfl ?_
 refine C4 5 rfl rfl rfl ?_
 refine C4 9 rfl rfl rfl ?_
 refine aP 10 rfl (M9 rfl rfl) rfl ?_
 refine aP 11 rfl (qM rfl) rfl ?_
 refine C4 12 rfl rfl rfl ?_
 refine C4 13 rfl rfl rfl ?_
 refine C4 14 rfl rfl rfl ?_
 refine aP 15 rfl (M9 rfl rfl) rfl ?_
 refine aP 16 rfl (qM rfl) rfl ?_
 refine C4 17 rfl rfl rfl ?_
 refine C4 18 rfl rfl rfl ?_
 refine C4 19 rfl rfl rfl ?_
 refine aP 20 rfl (M9 rfl rfl) rfl ?_
 refine J1 ?_
 exact A1P
 refine aP 2 rfl (qM rfl) rfl ?_
 refine aP 3 rfl (B9 rfl) rfl ?_
 refine aL 4 rfl (C8 rfl rfl) rfl ?_
 refine aP 6 rfl (B9 rfl) rfl ?_
 refine aL 7 rfl (C8 rfl rfl) rfl ?_
 refine aP 8 rfl (pLn rfl rfl) rfl ?_
 refine A4 5 ?_
 refine N3 rfl rfl (hk1) rfl rfl rfl ?_
 refine A0v (i := 9) (l' := [tt,tt,tt,tt,tt,tt,tt,tt,tt,tt,ff,ff,ff,ff,ff,ff,ff,ff,ff,ff,ff]) rfl D6 (N5 rfl rfl) rfl (by kernel_rfl) rfl rfl (fun h51 => ?_) (fun h51 => ?_)
 refine aP 10 rfl (O6 rfl rfl) rfl ?_
 refine aP 11 rfl (qM rfl) rfl ?_
 refine C4 12 rfl rfl rfl ?_
 refine C4 13 rfl rfl rfl ?_
 refine C4 14 rfl rfl rfl ?_
 refine aP 15 rfl (M9 rfl rfl) rfl ?_
 refine aP 16 rfl (qM rfl) rfl ?_
 refine C4 17 rfl rfl rfl ?_
 refine C4 18 rfl rfl rfl ?_
 refine C4 19 rfl rfl rfl ?_
 refine aP 20 rfl (M9 rfl rfl) rfl ?_
 refine J1 ?_
 exact A1P
 refine aP 10 rfl (O6 rfl rfl) rfl ?_
 refine aP 11 rfl (qM rfl) rfl ?_
 refine aP 12 rfl (B9 rfl) rfl ?_
 refine aL 13 rfl (C8 rfl rfl) rfl ?_
 refine A0v (i := 14) (l' := [tt,tt,tt,tt,tt,tt,tt,tt,tt,tt,tt,tt,tt,tt,tt,ff,ff,ff,ff,ff,ff]) rfl D6 (qE rfl rfl) rfl (by kernel_rfl) rfl rfl (fun h79 => ?_) (fun h79 => ?_)
 refine aP 15 rfl (O6 rfl rfl) rfl ?_
 refine aP 16 rfl (qM rfl) rfl ?_
 refine C4 17 rfl rfl rfl ?_
 refine C4 18 rfl rfl rfl ?_
 refine C4 19 rfl rfl rfl ?_
 refine aP 20 rfl (M9 rfl rfl) rfl ?_
 refine J1 ?_
 exact A1P
 refine aP 15 rfl (O6 rfl rfl) rfl ?_
 refine aP 16 rfl (qM rfl) rfl ?_
 refine aL 17 rfl (A5 rfl rfl) rfl ?_
 refine A4 18 ?_
 refine T8 rfl rfl (hl2 (hne (by omega) (by omega))) rfl rfl rfl (fun h102 => ?_) (fun h102 => ?_)
 refine aP 19 rfl (pNt rfl) rfl ?_
 refine aP 20 rfl (O6 rfl rfl) rfl ?_
 refine J1 ?_
 refine C0 ?_
 (refine J0 (fun (i : Nat) => ⟨[(5, .int .i64 i), (2, .pointer (some ⟨b3, 0, none⟩)), (1, .int .i64 d)], [.blk b3 [.int .i64 k, .string nm, .int .i64 num, .int .i64 tk, .slice pt tks.length ct, .int .i64 fk, .slice pf fks.length cf, .int .i64 lb, .slice p ks.length c]], G⟩) (fun i => i ≤ ks.length ∧ ∀ j (h : j < ks.length), j < i → M8 12 14 ks[j] (13 - d + 1) = true) (fun i => ks.length - i) 0 ?_ ?_ ?_)
 exact D2
 exact ⟨by omega, by omega⟩
 (rintro i ⟨hi, hf⟩)
 refine B5 ?_
 refine sB (I8 rfl rfl) rfl rfl (fun h128 => ?_) (fun h128 => ?_)
 refine A8 ?_
 refine C0 ?_
 refine B0 ?_
 (obtain ⟨b, o, e, rfl, hl, hat, hre, hgb⟩ := hsl.kidTm hkl (i := i) (by omega) (by omega); refine sP (B6 rfl rfl rfl (by omega)) rfl rfl ?_)
 refine sL (A2 rfl rfl (hat _) hl) rfl rfl ?_
 refine E3 ?_
 refine sP (O9 rfl rfl (by omega) (by omega)) rfl rfl ?_
 (have hih := ih ks[i] (List.getElem_mem (by omega)) (d - 1) G _ (by omega) hre; rw [show 13 - (d - 1) = 13 - d + 1 by omega] at hih; refine F4 rfl hih rfl rfl (fun h145 => ?_) (fun h145 => ?_))
 refine E0 ?_
 refine sP (H5 rfl rfl (by omega) (by omega)) rfl rfl ?_
 refine A3 ?_
 refine I1 (i + 1) ?_ ?_ ?_
 exact D2
 exact A4W
 omega
 refine K0 ?_
 exact A6w
 refine I7 ?_
 (rw [A14 (by omega) (by omega) (hR.trans (by assumption)), (A1n 12 14 ks _).2 (fun j hj => hf j hj (by omega))]; exact ⟨rfl, rfl, rfl⟩)
 refine aP 19 rfl (pNf rfl) rfl ?_
 refine aP 20 rfl (O6 rfl rfl) rfl ?_
 refine J1 ?_
 exact A1P
theorem A4Z (t : Tm) (G : IM) (cells : List Value) (hcnt : D3 t ≤ 4294967296) (hr : B1 G t cells) :
  Fn Tryz.prog 135 [.agg ⟨cells⟩] [] G (I5 (.bool (N9 t)) G) := by
 have hl := hr.len
 have hv := B34 t 12 G cells (by omega) hr
 have hc := fun h => A9z 12 14 t 12 G cells (by omega) h hcnt hr
 have hi := A0C t
 obtain ⟨R, hR⟩ : ∃ R, N9 t = R := ⟨_, rfl⟩
 rw [hR] at hi ⊢
 refine C1 Tryz.func135 rfl Tryz.ntmps135 Tryz.results135 rfl ?_
 intro w0
 refine A3 ?_
 refine sE (C7 rfl rfl) rfl (fun b3 => ?_)
 refine B0 ?_
 refine sL (A2 rfl rfl (A9 (by repeat first | exact mH | apply mT)) (by assumption)) rfl rfl ?_
 refine F4 rfl (hv) rfl rfl (fun h10 => ?_) (fun h10 => ?_)
 refine E3 ?_
 refine sL (A2 rfl rfl (A9 (by repeat first | exact mH | apply mT)) (by assumption)) rfl rfl ?_
 refine E8 rfl (hc (by assumption)) rfl rfl ?_
 refine sB (Y4 rfl rfl) rfl rfl (fun h14 => ?_) (fun h14 => ?_)
 refine A8 ?_
 exact ⟨rfl, by rw [hi.2 ⟨by assumption, by omega⟩], rfl⟩
 refine A8 ?_
 exact A4Y
 refine J3 ?_
 exact A4Y
theorem Sw.same {hp hp' : List A6} {e : A6} (h : Sw hp e e hp') : hp' = hp := by
 generalize he : e = e' at h
 have : ∀ {hp e e' hp'}, Sw hp e e' hp' → e = e' → hp' = hp := by
  intro hp e e' hp' h
  induction h with
  | here => rintro rfl; rfl
  | there _ ih => intro he; rw [ih he]
 subst he
 exact this h rfl
section
variable {P : Program} {Γ : L7} {env : M2} {hp : List A6} {G : IM} {ty : TypeId}
theorem A9B {d : Nat} {x y : Operand} {t el : TypeId} {i : K9} {sz by' : Nat} {zs : List Value} [hI : I6 P t i] {ie : K9} [hEl : I6 P el ie] (hd' : i.desc = .slice el) [hE : X3 P el sz by' zs] {p q : Option Addr} {c n m c2 : Nat} {cs news : List Value} {hp' : Option Addr → Nat → List A6}
  (hd : Nat.blt d Γ.n = true) (hx : evo env x = some (.slice p n c)) (hy : evo env y = some (.slice q m c2)) (hsz : Nat.blt 0 sz = true)
  (hm : ∀ p' c', Sw hp (.slc p c el sz n cs) (.slc p' c' el sz (n + m) (cs ++ news)) (hp' p' c'))
  (hS : Sl G q m c2 sz news) (h1 : ∀ u ∈ news, u.oneCell' = true) (hc : n ≤ c)
  (h63 : n + m ≤ maxLen) (hb : (n + m) * by' ≤ 140737488355328) :
  W9 P Γ ⟨env, hp, G⟩ (some d) (.call ⟨.builtin .append, ⟨[x, y]⟩, ⟨[t, t]⟩⟩) ty (J5 p) (fun σ' => ∃ p' c', σ' = ⟨(d, .slice p' (n + m) c') :: env, hp' p' c', G⟩) := by
 obtain ⟨hl, _, _, hat⟩ := hS
 rcases Nat.eq_zero_or_pos m with rfl | hm0
 ·obtain rfl : news = [] := List.length_eq_zero_iff.1 (by omega)
  have hpu := B2T (P := P) (Γ := Γ) (hp := hp) (G := G) (ty := ty) (t := t) (el := el) hd' hx hy hc
  refine ⟨fun a w hs pos af gd Q next hn => ?_⟩
  simp only [Oper.wp, hpu.run a w hs, Oper.upon]
  refine hn _ _ _ (hs.put d _ (by simpa using hd) hs.res) (Ext.refl _ _) ⟨p, c, ?_⟩
  have h0 := hm p c
  simp only [Nat.add_zero, List.append_nil] at h0 ⊢
  rw [h0.same]
 ·obtain ⟨b, o, full, rfl, hg, hv⟩ := hat.resolve_left (by omega)
  exact A55 hd' hd hx hy hsz hm (A4u hg hv) hl h1 h63 hb
variable {K : Po} {ops : Array Oper} {rest : List Oper} {pos : String} {af : Array Edge} {gd : Option (Nat × Bool)}
theorem A31 {d : Nat} {x y : Operand} {t el : TypeId} {i : K9} {sz by' : Nat} {zs : List Value} [hI : I6 P t i] {ie : K9} [hEl : I6 P el ie] [hE : X3 P el sz by' zs] {p q : Option Addr} {c n m c2 : Nat} {cs news : List Value} {hp' : Option Addr → Nat → List A6}
  (hd' : i.desc = .slice el) (hd : Nat.blt d Γ.n = true) (hx : evo env x = some (.slice p n c)) (hy : evo env y = some (.slice q m c2)) (hsz : Nat.blt 0 sz = true)
  (hm : ∀ p' c', Sw hp (.slc p c el sz n cs) (.slc p' c' el sz (n + m) (cs ++ news)) (hp' p' c'))
  (hS : Sl G q m c2 sz news) (h1 : ∀ u ∈ news, u.oneCell' = true) (hc : n ≤ c)
  (h63 : n + m ≤ maxLen) (hb : (n + m) * by' ≤ 140737488355328) (hw : L8 ops env gd = some true)
  (k : ∀ p' c', I9 P Γ ops rest K ⟨(d, .slice p' (n + m) c') :: env, hp' p' c', G⟩) : I9 P Γ ops (⟨some d, .call ⟨.builtin .append, ⟨[x, y]⟩, ⟨[t, t]⟩⟩, ty, pos, af, gd⟩ :: rest) K ⟨env, hp, G⟩ :=
 I3 (A9B hd' hd hx hy hsz hm hS h1 hc h63 hb) hw (by rintro _ ⟨p', c', rfl⟩; exact k p' c')
theorem A3f {H : List (Nat × Nat)} {fuel : Nat} {listed l' : List Bool} {j d : Nat} {cs : List Value} {x y : Operand} {t el : TypeId} {i : K9} {sz by' : Nat} {zs : List Value} [hI : I6 P t i] {ie : K9} [hEl : I6 P el ie] [hE : X3 P el sz by' zs] {p q : Option Addr} {c n m c2 : Nat} {news : List Value} {hp' : Option Addr → Nat → List A6} {H' : List (Nat × Nat)}
  (hi : ops[j]? = some ⟨some d, .call ⟨.builtin .append, ⟨[x, y]⟩, ⟨[t, t]⟩⟩, ty, pos, af, gd⟩) (hd' : i.desc = .slice el)
  (hd : Nat.blt d Γ.n = true) (hx : evo env x = some (.slice p n c)) (hy : evo env y = some (.slice q m c2)) (hsz : Nat.blt 0 sz = true)
  (hm : ∀ p' c', Sw hp (.slc p c el sz n cs) (.slc p' c' el sz (n + m) (cs ++ news)) (hp' p' c'))
  (hS : Sl G q m c2 sz news) (h1 : ∀ u ∈ news, u.oneCell' = true) (hc : n ≤ c)
  (h63 : n + m ≤ maxLen) (hb : (n + m) * by' ≤ 140737488355328) (hw : L8 ops env gd = some true) (hl : listed.set j true = l')
  (hok : B2 ops j hp G (.slc p c el sz n cs) H H')
  (k : ∀ p' c', N2 P Γ ops K H' fuel l' ⟨(d, .slice p' (n + m) c') :: env, hp' p' c', G⟩) : V6 P Γ ops K H fuel listed j ⟨env, hp, G⟩ :=
 A3O hi (A9B hd' hd hx hy hsz hm hS h1 hc h63 hb) hw hl (fun _ _ hs => hok.spec hs) hok.filter (by rintro _ ⟨p', c', rfl⟩; exact k p' c')
theorem Y9 {H H' : List (Nat × Nat)} {fuel : Nat} {listed l' : List Bool} {j d : Nat} {f : FuncId} [hF : B8 P f] {xs : List Operand} {ats : Array TypeId} {vs : List Value} {e : A6} {rst : List A6} {post : IM → Value → List A6 → Prop}
  (hi : ops[j]? = some ⟨some d, .call ⟨.value (.func f), ⟨xs⟩, ats⟩, ty, pos, af, gd⟩) (hx : evl env xs = some vs) (h : Fn P f vs [e] G post) (hp' : hp.Perm ([e] ++ rst)) (hw : L8 ops env gd = some true) (hd : Nat.blt d Γ.n = true) (hl : listed.set j true = l')
  (hok : B2 ops j hp G e H H')
  (k : ∀ v G' outs, C2 G G' → post G' v outs → N2 P Γ ops K H' fuel l' ⟨(d, v) :: env, outs ++ rst, G'⟩) : V6 P Γ ops K H fuel listed j ⟨env, hp, G⟩ :=
 A3O hi (A4w hx h hp' hd) hw hl (fun _ _ hs => by simpa [Fp] using hok.spec hs) hok.filter (by rintro _ ⟨v, G', outs, rfl, hle, hq⟩; exact k v G' outs hle hq)
end
section forget
variable {P : Program} {Γ : L7} {env : M2} {hp : List A6} {G : IM} {K : Po} {ops : Array Oper} {rest : List Oper} {ty : TypeId} {pos : String} {af : Array Edge} {gd : Option (Nat × Bool)}
end forget
def tAt : Tm → List Int → Option Tm
 | t, [] => some t
 | .mk _ _ _ _ _ _ ks, i :: is => if h : 0 ≤ i ∧ i < ks.length then tAt (ks[i.toNat]'(by omega)) is else none
def z9 : List Value := [.int .i64 0, .string ⟨⟨[]⟩⟩, .int .i64 0, .int .i64 0, .slice none 0 0, .int .i64 0, .slice none 0 0, .int .i64 0, .slice none 0 0]
def AtP (t : Tm) (path : List Int) (G : IM) : IM → Value → List A6 → Prop := fun G' v outs => G' = G ∧ outs = [] ∧
 ((∃ x cells, tAt t path = some x ∧ B1 G x cells ∧ v = .tuple ⟨[.agg ⟨cells⟩, .bool true]⟩) ∨ (tAt t path = none ∧ v = .tuple ⟨[.agg ⟨z9⟩, .bool false]⟩))
def K7 : Tm := .mk 0 ⟨⟨[]⟩⟩ 0 (.mk 0 []) (.mk 0 []) 0 []
theorem P2.zero (G : IM) : P2 G K7 z9 [] := by
 simp only [K7, P2, Q1, N8, O5, z9]
 refine ⟨[.int .i64 0, .slice none 0 0], [.int .i64 0, .slice none 0 0], none, 0, [], [], [], [], rfl, ⟨by omega, by omega⟩, ⟨by omega, by omega⟩, ⟨by omega, by omega⟩, ?_, ?_, D7.nil _ _, ⟨rfl, rfl⟩, rfl, by simp [J5]⟩
 ·exact ⟨none, 0, [], [], rfl, ⟨by omega, by omega⟩, D7.nil _ _, ⟨rfl, rfl⟩, rfl, by simp [J5]⟩
 ·exact ⟨none, 0, [], [], rfl, ⟨by omega, by omega⟩, D7.nil _ _, ⟨rfl, rfl⟩, rfl, by simp [J5]⟩
def B8m (t : Tm) (path : List Int) : Tm × Bool := if O4 t = true then (match tAt t path with | some x => (x, true) | none => (K7, false)) else (K7, false)
def TbP (r : Tm × Bool) (G : IM) : IM → Value → List A6 → Prop := K1 fun G' v => ∃ cells F, v = .tuple ⟨[.agg ⟨cells⟩, .bool r.2]⟩ ∧ P2 (C5 G' G) r.1 cells F ∧ F.Nodup
structure A40 {ι : Type} (S : ι → Sy) (φ : ι → Prop) (e : Exit) (σ : Sy) : Prop where
 run : match e with
  | .normal => ∃ i, φ i ∧ Sub σ (S i)
  | _ => False
section cut
variable {P : Program} {Γ : L7} {K : Po} {σ : Sy} {ι : Type}
theorem A0k {c y : Code} (S : ι → Sy) (φ : ι → Prop) (h : J6 P Γ c (A40 S φ) σ) (k : ∀ i, φ i → J6 P Γ y K (S i)) : J6 P Γ c (A01 P Γ y K) σ := by
 refine tri_post h ?_
 rintro e σ ⟨hk⟩
 cases e with
 | normal => obtain ⟨i, hi, hs⟩ := hk; exact ⟨A76 hs (k i hi)⟩
 | _ => exact hk.elim
where
 tri_post {c : Code} {K K' : Po} {σ : Sy} (h : J6 P Γ c K σ) (hk : ∀ e σ, K e σ → K' e σ) : J6 P Γ c K' σ := A5T h hk
theorem P8 {S : ι → Sy} {φ : ι → Prop} {σ : Sy} (i : ι) (hs : Sub σ (S i)) (h : φ i) : A40 S φ .normal σ := ⟨⟨i, h, hs⟩⟩
theorem B35 {S : ι → Sy} {φ : ι → Prop} : Z3 (A40 S φ) := fun _ _ h => h.run
instance npC5 {S : ι → Sy} {φ : ι → Prop} : NpC (A40 S φ) := ⟨B35⟩
end cut
section take
variable {P : Program} {Γ : L7} {env : M2} {hp : List A6} {G : IM} {K : Po} {ops : Array Oper} {rest : List Oper} {ty : TypeId} {pos : String} {af : Array Edge} {gd : Option (Nat × Bool)}
theorem J2 {d : Nat} {f : FuncId} [hF : B8 P f] {xs : List Operand} {ats : Array TypeId} {vs : List Value} {ins rst : List A6} {post : IM → Value → List A6 → Prop}
  (hx : evl env xs = some vs) (h : Fn P f vs ins G post) (hp' : hp.Perm (ins ++ rst)) (hw : L8 ops env gd = some true) (hd : Nat.blt d Γ.n = true)
  (k : ∀ v G' outs, C2 G G' → post G' v outs → I9 P Γ ops rest K ⟨(d, v) :: env, outs ++ rst, G'⟩) : I9 P Γ ops (⟨some d, .call ⟨.value (.func f), ⟨xs⟩, ats⟩, ty, pos, af, gd⟩ :: rest) K ⟨env, hp, G⟩ :=
 I3 (A4w hx h hp' hd) hw (by rintro _ ⟨v, G', outs, rfl, hle, hq⟩; exact k v G' outs hle hq)
end take
theorem Z0 (G : IM) (br : Nat) (pb : Option Addr) (nb cb p : Nat) (bs : List UInt8) (q : Option Addr) (n c : Nat) (xs : List Value) (hb : Sl G pb nb cb 1 (M7 bs)) (hnb : nb ≤ 2000) (hp : p < 1099511627776) (hx : Sl G q n c 1 xs) (hn : 0 < n) :
  Fn Tryz.prog 117 [.pointer (some ⟨br, 0, none⟩), .slice q n c] [rd br pb nb cb p] G (fun G' v outs => G' = G ∧ outs = [rd br pb nb cb (p + 1)] ∧ v ∈ xs) := by
 refine C1 Tryz.func117 rfl Tryz.ntmps117 Tryz.results117 rfl ?_
 intro w0
 refine J1 ?_
 (refine J2 rfl (Y6 G br pb nb cb p bs (n : Int) hb hnb hp) (List.Perm.refl _) rfl rfl (fun v G1 outs hle1 hh => ?_); obtain ⟨rfl, rfl, k, rfl, hk0, hkn⟩ := hh; obtain ⟨j, rfl⟩ := Int.eq_ofNat_of_zero_le hk0)
 (obtain ⟨b, o, v, rfl, hv, hat, _⟩ := hx.kid (i := j) (by omega); refine sP (B6 rfl rfl rfl (by omega)) rfl rfl ?_)
 refine sL (T3 rfl rfl (hat _)) rfl rfl ?_
 refine B4 ?_
 refine H9 (rT rfl) A0.refl ?_
 exact ⟨rfl, rfl, List.mem_of_getElem? hv⟩
theorem A6H (G : IM) (br : Nat) (pb : Option Addr) (nb cb p : Nat) (bs : List UInt8) (q : Option Addr) (n c : Nat) (xs : List Value) (hb : Sl G pb nb cb 1 (M7 bs)) (hnb : nb ≤ 2000) (hp : p < 1099511627776) (hx : Sl G q n c 1 xs) (hn : 0 < n) :
  Fn Tryz.prog 121 [.pointer (some ⟨br, 0, none⟩), .slice q n c] [rd br pb nb cb p] G (fun G' v outs => G' = G ∧ outs = [rd br pb nb cb (p + 1)] ∧ v ∈ xs) := by
 refine C1 Tryz.func121 rfl Tryz.ntmps121 Tryz.results121 rfl ?_
 intro w0
 refine J1 ?_
 (refine J2 rfl (Y6 G br pb nb cb p bs (n : Int) hb hnb hp) (List.Perm.refl _) rfl rfl (fun v G1 outs hle1 hh => ?_); obtain ⟨rfl, rfl, k, rfl, hk0, hkn⟩ := hh; obtain ⟨j, rfl⟩ := Int.eq_ofNat_of_zero_le hk0)
 (obtain ⟨b, o, v, rfl, hv, hat, _⟩ := hx.kid (i := j) (by omega); refine sP (B6 rfl rfl rfl (by omega)) rfl rfl ?_)
 refine sL (T3 rfl rfl (hat _)) rfl rfl ?_
 refine B4 ?_
 refine H9 (rT rfl) A0.refl ?_
 exact ⟨rfl, rfl, List.mem_of_getElem? hv⟩
theorem A1q (G : IM) : Fn Tryz.prog 94 [] [] G (I5 (.agg ⟨[.int .i64 1, .slice none 0 0]⟩) G) := by
 refine C1 Tryz.func94 rfl Tryz.ntmps94 Tryz.results94 rfl ?_
 intro w0
 refine A3 ?_
 refine sE (A7 rfl) rfl (fun b3 => ?_)
 refine E0 ?_
 refine M3 (rC rfl (A5 rfl rfl)) ?_
 exact ⟨rfl, rfl, rfl⟩
def dB : Nat → Nat
 | 0 => 0
 | d + 1 => 2 * dB d + 2
theorem B36 {d : Nat} (h : d ≤ 3) : dB (d + 1) ≤ 30 := by
 have : d = 0 ∨ d = 1 ∨ d = 2 ∨ d = 3 := by omega
 rcases this with rfl | rfl | rfl | rfl <;> decide
theorem B37 (k : Int) : U8 k ≤ 2 := by
 unfold U8; split <;> try split
 all_goals omega
theorem A41 : ∀ (ts : List Ty) (t : Ty), P0 (ts ++ [t]) = P0 ts + K6 t
 | [], t => by simp [P0]
 | a :: ts, t => by simp only [List.cons_append, P0, A41 ts t]; omega
theorem C9.ty {G : IM} {k : Int} {ts : List Ty} {es : List (List Value)} {p : Option Addr} {n c : Nat} (h : C9 G ts es) (hn : ts.length = n) (hs : Sl G p n c 2 es.flatten) (hk : F8 k) : C3 G (.mk k ts) [.int .i64 k, .slice p n c] := by
 subst hn
 simp only [C3]
 exact ⟨p, c, es, rfl, hk, D7.of hs h.len h.all (fun e he => (h.each e he).2), h⟩
theorem A3g (br : Nat) (pb : Option Addr) (nb cb : Nat) (bs : List UInt8) (hnb : nb ≤ 2000) : ∀ (d p : Nat) (G : IM), d ≤ 1000 → Sl G pb nb cb 1 (M7 bs) → p + dB (d + 1) < 1099511627776 →
  Fn Tryz.prog 125 [.pointer (some ⟨br, 0, none⟩), .int .i64 ((d + 1 : Nat) : Int)] [rd br pb nb cb p] G
   (A0h br pb nb cb p (dB (d + 1)) (fun G' v => ∃ t cells, v = .agg ⟨cells⟩ ∧ C3 G' t cells ∧ K6 t ≤ ((dB (d + 1) : Nat) : Int) ∧ Q6 d t)) := by
 refine fun d => Nat.strongRecOn d fun d ih p G hd hb hp => ?_
 rw [dB] at hp ⊢
 refine C1 Tryz.func125 rfl Tryz.ntmps125 Tryz.results125 rfl ?_
 intro w0
 refine A3 ?_
 refine sE (A7 rfl) rfl (fun b3 => ?_)
 refine B0 ?_
 (refine I3 (D0 rfl rfl rfl (by omega) (by unfold maxLen; omega) rfl) rfl ?_; rintro _ ⟨b9, rfl⟩)
 (refine R9 (by repeat (first | exact Pk.here | apply Pk.there)) (fun G1 hle1 hsl1 _ => ?_); refine J2 rfl (Z0 G1 br pb nb cb p bs _ _ _ _ (hb.mono hle1) hnb (by omega) hsl1 (by decide)) (Pk.perm (by repeat (first | exact Pk.here | apply Pk.there))) rfl rfl (fun v G2 outs hle2 hh => ?_); obtain ⟨rfl, rfl, hv⟩ := hh; replace hb := hb.mono hle1; obtain ⟨k, rfl, hk1⟩ : ∃ k, v = .int .i64 k ∧ 1 ≤ k ∧ k ≤ 5 := (by simp only [List.mem_cons, List.not_mem_nil, or_false] at hv; rcases hv with rfl | rfl | rfl | rfl | rfl | rfl | rfl <;> exact ⟨_, rfl, by decide, by decide⟩))
 refine B0 ?_
 (have hv' := hv; refine A0k (fun (x : Bool) => ⟨(16, .bool x) :: [(5, .int .i64 k), (4, .pointer (some ⟨b3, 0, none⟩)), (0, .pointer (some ⟨br, 0, none⟩)), (1, .int .i64 ((d + 1 : Nat) : Int))], [rd br pb nb cb (p + 1), .blk b3 [.int .i64 0, .slice none 0 0]], G2⟩) (fun x => x = false → d = 0 → k < 4) ?_ ?_)
 refine A3 ?_
 refine sB (I8 rfl rfl) rfl rfl (fun h19 => ?_) (fun h19 => ?_)
 refine A3 ?_
 refine sB (A0I rfl rfl) rfl rfl (fun h22 => ?_) (fun h22 => ?_)
 refine A3 ?_
 refine P8 true (K2 (by repeat (first | exact D8.nil | refine D8.cons rfl ?_)) (by repeat (first | exact A0.refl | exact A0.nil | refine A0.cons (by repeat (first | exact Pk.here | apply Pk.there)) ?_ | apply A0.drop))) ?_
 (show _ = false → d = 0 → k < 4; intro hf h0; first | exact absurd hf (by decide) | omega)
 refine A3 ?_
 refine P8 false (K2 (by repeat (first | exact D8.nil | refine D8.cons rfl ?_)) (by repeat (first | exact A0.refl | exact A0.nil | refine A0.cons (by repeat (first | exact Pk.here | apply Pk.there)) ?_ | apply A0.drop))) ?_
 (show _ = false → d = 0 → k < 4; intro hf h0; first | exact absurd hf (by decide) | omega)
 refine B0 ?_
 refine P8 false (K2 (by repeat (first | exact D8.nil | refine D8.cons rfl ?_)) (by repeat (first | exact A0.refl | exact A0.nil | refine A0.cons (by repeat (first | exact Pk.here | apply Pk.there)) ?_ | apply A0.drop))) ?_
 (show _ = false → d = 0 → k < 4; intro hf h0; first | exact absurd hf (by decide) | omega)
 (rintro x hx; clear hv)
 (show J6 _ _ (.cond (.tmp 16) _ _) _ _; refine A0k (fun (x : Int) => ⟨[(5, .int .i64 x), (4, .pointer (some ⟨b3, 0, none⟩)), (0, .pointer (some ⟨br, 0, none⟩)), (1, .int .i64 ((d + 1 : Nat) : Int))], [rd br pb nb cb (p + 1), .blk b3 [.int .i64 0, .slice none 0 0]], G2⟩) (fun x => 1 ≤ x ∧ x ≤ 5 ∧ (d = 0 → x < 4)) (A3G rfl (fun hxt => ?_) (fun hxf => ?_)) ?_)
 refine B7 ?_
 refine P8 1 (K2 (by repeat (first | exact D8.nil | refine D8.cons rfl ?_)) (by repeat (first | exact A0.refl | exact A0.nil | refine A0.cons (by repeat (first | exact Pk.here | apply Pk.there)) ?_ | apply A0.drop))) ?_
 (first | exact ⟨by omega, by omega, by omega⟩ | exact ⟨by omega, by omega, fun h0 => by have := hx hxf h0; omega⟩)
 refine tK ?_
 refine P8 k (K2 (by repeat (first | exact D8.nil | refine D8.cons rfl ?_)) (by repeat (first | exact A0.refl | exact A0.nil | refine A0.cons (by repeat (first | exact Pk.here | apply Pk.there)) ?_ | apply A0.drop))) ?_
 (first | exact ⟨by omega, by omega, by omega⟩ | exact ⟨by omega, by omega, fun h0 => by have := hx hxf h0; omega⟩)
 (rintro kk ⟨hk2, hk3, hk4⟩; have hop := B37 kk; have hk5 := (A1l kk).1; have hk6 := (A1l kk).2.1; have hK := A86 kk)
 refine B4 ?_
 refine sE (A7 rfl) rfl (fun b53 => ?_)
 refine E0 ?_
 refine C0 ?_
 (refine Q9 34 2 ?_; refine J0 (fun (x : Nat × Option Addr × Nat × List Ty × List (List Value) × Nat × IM) => ⟨[(7, .int .i64 x.1), (5, .int .i64 kk), (6, .pointer (some ⟨b53, 0, none⟩)), (4, .pointer (some ⟨b3, 0, none⟩)), (0, .pointer (some ⟨br, 0, none⟩)), (1, .int .i64 ((d + 1 : Nat) : Int))], [.blk b53 [.int .i64 kk, .slice x.2.1 x.1 x.2.2.1], .slc x.2.1 x.2.2.1 34 2 x.1 x.2.2.2.2.1.flatten, rd br pb nb cb x.2.2.2.2.2.1, .blk b3 [.int .i64 0, .slice none 0 0]], x.2.2.2.2.2.2⟩) (fun x => (∀ u ∈ x.2.2.2.1, Q6 (d - 1) u) ∧ (x.1 : Int) ≤ U8 kk ∧ C2 G2 x.2.2.2.2.2.2 ∧ x.2.2.2.1.length = x.1 ∧ C9 x.2.2.2.2.2.2 x.2.2.2.1 x.2.2.2.2.1 ∧ P0 x.2.2.2.1 ≤ ((x.1 * dB d : Nat) : Int) ∧ p + 1 ≤ x.2.2.2.2.2.1 ∧ x.2.2.2.2.2.1 ≤ p + 1 + x.1 * dB d) (fun x => (U8 kk).toNat - x.1) (0, none, 0, [], [], p + 1, G2) ?_ ?_ ?_)
 (simp only [H6]; exact D2)
 (exact ⟨by simp, by dsimp only; omega, C2.refl _, rfl, by simp [C9], by simp [P0], by dsimp only; omega, by dsimp only; omega⟩)
 (rintro ⟨i, pn, cn, ts, es', p', Gi⟩ ⟨hah, hi, hle, hlt, hst, hsum, hq1, hq2⟩; simp only [] at hah hi hle hlt hst hsum hq1 hq2 ⊢; have hid : i * dB d ≤ 2 * dB d := Nat.mul_le_mul_right _ (by omega))
 refine B0 ?_
 refine E8 rfl ((hK _)) rfl rfl ?_
 refine sB (I8 rfl rfl) rfl rfl (fun h74 => ?_) (fun h74 => ?_)
 refine A8 ?_
 refine C0 ?_
 (obtain ⟨d', rfl⟩ : ∃ d', d = d' + 1 := ⟨d - 1, by omega⟩; have hih := ih d' (by omega) p' Gi (by omega) (hb.mono hle) (by have := Nat.mul_le_mul_right (dB (d' + 1)) (show i + 1 ≤ 2 by omega); rw [Nat.succ_mul] at this; omega); refine E2 E4 rfl ?_)
 refine J4 (i := 0) (l' := [tt,ff,ff,ff,ff,ff,ff,ff,ff,ff]) rfl D6 (B9 rfl) rfl (by kernel_rfl) rfl rfl ?_
 refine aL 1 rfl (C8 rfl rfl) rfl ?_
 refine aP 2 rfl (qM rfl) rfl ?_
 refine aP 3 rfl (qM rfl) rfl ?_
 refine aP 4 rfl (A4Q rfl rfl (by omega)) rfl ?_
 refine A4 5 ?_
 (refine Y9 (l' := [tt,tt,tt,tt,tt,tt,ff,ff,ff,ff]) rfl rfl hih (Pk.perm (by repeat (first | exact Pk.here | apply Pk.there))) rfl rfl rfl (by repeat (first | exact B2.nil | apply B2.dep (by decide +kernel) | apply B2.blk (by decide +kernel) (by repeat (first | exact Pk.here | apply Pk.there)) (by repeat first | exact mH | apply mT))) (fun v G3 outs hle3 hh => ?_); obtain ⟨p3, hp31, hp32, rfl, t3, cells3, rfl, hr3, hs3, ha3⟩ := hh; obtain ⟨q3, c3, es3, rfl, _⟩ := hr3.open)
 refine A4 6 ?_
 (refine E5 rfl (D0 rfl rfl rfl (by omega) (by unfold maxLen; omega) rfl) rfl rfl ?_; rintro _ ⟨b91, rfl⟩)
 refine A4 7 ?_
 refine R0 rfl rfl rfl rfl rfl rfl (fun _ _ => by repeat (first | exact Sw.here | apply Sw.there)) (M1 (by repeat first | exact mH | apply mT)) rfl (by simp [Value.oneCell']) (by unfold maxLen; omega) (by omega) rfl rfl (by repeat (first | exact B2.nil | apply B2.dep (by decide +kernel) | apply B2.blk (by decide +kernel) (by repeat (first | exact Pk.here | apply Pk.there)) (by repeat first | exact mH | apply mT))) (fun pn' cn' => ?_)
 refine aP 8 rfl (B9 rfl) rfl ?_
 refine A4 9 ?_
 refine R5 rfl rfl rfl rfl rfl rfl rfl rfl (by kernel_rfl) (by repeat first | exact Sw.here | apply Sw.there) (by rfl) ?_
 refine B0 ?_
 refine sP (H5 rfl rfl (by omega) (by omega)) rfl rfl ?_
 refine A3 ?_
 refine I1 (i + 1, pn', cn', ts ++ [t3], es' ++ [[.int .i64 t3.k, .slice q3 t3.ks.length c3]], p3, G3) ?_ ?_ ?_
 (simp only [H6]; exact D2)
 (dsimp only; have e1 : (i + 1) * dB (d' + 1) = i * dB (d' + 1) + dB (d' + 1) := Nat.succ_mul _ _; have e2 := A41 ts t3; exact ⟨by simp only [List.forall_mem_append, List.forall_mem_singleton]; exact ⟨hah, ha3⟩, by omega, hle.trans hle3, by simp [hlt], C9.snoc (hst.mono hle3) hr3, by omega, by omega, by omega⟩)
 (show (U8 kk).toNat - (i + 1) < (U8 kk).toNat - i; omega)
 refine J9 ?_
 (refine F0 (by repeat (first | exact Pk.here | apply Pk.there)) (fun G5 hle5 hsl5 hno5 => ?_))
 refine tT ?_
 refine H9 (outs := [rd br pb nb cb p']) (rC rfl (A5 rfl rfl)) (by repeat (first | exact A0.nil | refine A0.cons Pk.here ?_ | refine A0.cons (Pk.there Pk.here) ?_ | apply A0.drop)) ?_
 (refine ⟨p', by omega, by omega, rfl, .mk kk ts, _, rfl, (hst.mono hle5).ty hlt hsl5 ⟨by omega, by omega⟩, ?_, B3O hk4 (by omega) hk2 hk3 hah⟩; rw [K6]; omega)
theorem A9C (br : Nat) (pb : Option Addr) (nb cb : Nat) (bs : List UInt8) (hnb : nb ≤ 2000) (d p : Nat) (G : IM) (hd : d ≤ 1000) (hb : Sl G pb nb cb 1 (M7 bs)) (hp : p + dB (d + 1) < 1099511627776) :
  Fn Tryz.prog 125 [.pointer (some ⟨br, 0, none⟩), .int .i64 ((d + 1 : Nat) : Int)] [rd br pb nb cb p] G
   (A0h br pb nb cb p (dB (d + 1)) (fun G' v => ∃ t cells, v = .agg ⟨cells⟩ ∧ C3 G' t cells ∧ K6 t ≤ ((dB (d + 1) : Nat) : Int))) :=
 (A3g br pb nb cb bs hnb d p G hd hb hp).mono fun G' v outs _ ⟨p', h1, h2, h3, t, cells, h4, h5, h6, _⟩ => ⟨p', h1, h2, h3, t, cells, h4, h5, h6⟩
theorem B38 (br : Nat) (pb : Option Addr) (nb cb : Nat) (bs : List UInt8) (hnb : nb ≤ 2000) (p : Nat) (G : IM) (hb : Sl G pb nb cb 1 (M7 bs)) (hp : p + 31 < 1099511627776) :
  Fn Tryz.prog 123 [.pointer (some ⟨br, 0, none⟩)] [rd br pb nb cb p] G
   (A0h br pb nb cb p 31 (fun G' v => ∃ t cells, v = .agg ⟨cells⟩ ∧ C3 G' t cells ∧ K6 t ≤ 30 ∧ Q6 3 t)) := by
 refine C1 Tryz.func123 rfl Tryz.ntmps123 Tryz.results123 rfl ?_
 intro w0
 refine A3 ?_
 refine sE (A7 rfl) rfl (fun b3 => ?_)
 refine A8 ?_
 (refine I3 (D0 rfl rfl rfl (by omega) (by unfold maxLen; omega) rfl) rfl ?_; rintro _ ⟨b10, rfl⟩)
 (refine R9 (by repeat (first | exact Pk.here | apply Pk.there)) (fun G1 hle1 hsl1 _ => ?_); refine J2 rfl (Z0 G1 br pb nb cb p bs _ _ _ _ (hb.mono hle1) hnb (by omega) hsl1 (by decide)) (Pk.perm (by repeat (first | exact Pk.here | apply Pk.there))) rfl rfl (fun v G2 outs hle2 hh => ?_); obtain ⟨rfl, rfl, hv⟩ := hh; replace hb := hb.mono hle1; obtain ⟨d, rfl, hd⟩ : ∃ d : Nat, v = .int .i64 ((d + 1 : Nat) : Int) ∧ d ≤ 3 := (by simp only [List.mem_cons, List.not_mem_nil, or_false] at hv; rcases hv with rfl | rfl | rfl | rfl | rfl <;> first | exact ⟨0, rfl, by decide⟩ | exact ⟨1, rfl, by decide⟩ | exact ⟨2, rfl, by decide⟩ | exact ⟨3, rfl, by decide⟩))
 (have hdB := B36 hd; refine J2 rfl (A3g br pb nb cb bs hnb d (p + 1) G2 (by omega) hb (by omega)) (Pk.perm (by repeat (first | exact Pk.here | apply Pk.there))) rfl rfl (fun v G3 outs hle3 hh => ?_); obtain ⟨p3, hp31, hp32, rfl, t3, cells3, rfl, hr3, hs3, ha3⟩ := hh; obtain ⟨q3, c3, es3, rfl, _⟩ := hr3.open)
 refine B4 ?_
 refine H9 (outs := [rd br pb nb cb p3]) (rC rfl (A5 rfl rfl)) (by repeat (first | exact A0.nil | refine A0.cons Pk.here ?_ | refine A0.cons (Pk.there Pk.here) ?_ | apply A0.drop)) ?_
 exact ⟨p3, by omega, by omega, rfl, t3, _, rfl, hr3, by omega, ha3.le hd⟩
theorem B39 (br : Nat) (pb : Option Addr) (nb cb : Nat) (bs : List UInt8) (hnb : nb ≤ 2000) (p : Nat) (G : IM) (hb : Sl G pb nb cb 1 (M7 bs)) (hp : p + 31 < 1099511627776) :
  Fn Tryz.prog 123 [.pointer (some ⟨br, 0, none⟩)] [rd br pb nb cb p] G
   (A0h br pb nb cb p 31 (fun G' v => ∃ t cells, v = .agg ⟨cells⟩ ∧ C3 G' t cells ∧ K6 t ≤ 30)) :=
 (B38 br pb nb cb bs hnb p G hb hp).mono fun G' v outs _ ⟨p', h1, h2, h3, t, cells, h4, h5, h6, _⟩ => ⟨p', h1, h2, h3, t, cells, h4, h5, h6⟩
theorem B4a (k : Int) (ks : List Ty) (G : IM) (p : Option Addr) (c : Nat) (hts : (Ty.mk k ks).small) (hr : C3 G (.mk k ks) [.int .i64 k, .slice p ks.length c]) : Fn Tryz.prog 161 [.agg ⟨[.int .i64 k, .slice p ks.length c]⟩] [] G
  (fun G' v outs => ∃ p c es, v = .agg ⟨[.int .i64 k, .slice p ks.length c]⟩ ∧ outs = [.slc p c 34 2 ks.length es.flatten] ∧ C9 G' ks es) := by
 simp only [Ty.small] at hts
 obtain ⟨hsm, hks⟩ := hts
 obtain ⟨p', c', es, he, hk, hsl, hkl⟩ := hr.open
 simp only [Ty.k, Ty.ks, List.cons.injEq, Value.slice.injEq, true_and, and_true] at he hk hsl hkl
 obtain ⟨rfl, rfl⟩ := he
 have hn := hsl.le
 refine C1 Tryz.func161 rfl Tryz.ntmps161 Tryz.results161 rfl ?_
 intro w0
 refine A3 ?_
 refine sE (C7 rfl rfl) rfl (fun b3 => ?_)
 refine sE (A7 rfl) rfl (fun b4 => ?_)
 refine B5 ?_
 refine sE (A7 rfl) rfl (fun b12 => ?_)
 refine E0 ?_
 refine C0 ?_
 (refine Q9 34 2 ?_; refine J0 (fun (x : Nat × Option Addr × Nat × List (List Value) × IM) => ⟨[(4, .int .i64 x.1), (3, .pointer (some ⟨b12, 0, none⟩)), (1, .pointer (some ⟨b3, 0, none⟩)), (2, .pointer (some ⟨b4, 0, none⟩))], [.blk b12 [.int .i64 k, .slice x.2.1 x.1 x.2.2.1], .slc x.2.1 x.2.2.1 34 2 x.1 x.2.2.2.1.flatten, .blk b4 [.int .i64 0, .slice none 0 0], .blk b3 [.int .i64 k, .slice p ks.length c]], x.2.2.2.2⟩) (fun x => x.1 ≤ ks.length ∧ C2 G x.2.2.2.2 ∧ C9 x.2.2.2.2 (ks.take x.1) x.2.2.2.1) (fun x => ks.length - x.1) (0, none, 0, [], G) ?_ ?_ ?_)
 (simp only [H6]; exact D2)
 exact ⟨by simp, C2.refl _, by simp [C9]⟩
 (rintro ⟨i, pn, cn, es', Gi⟩ ⟨hi, hle, hst⟩; simp only [] at hi hle hst ⊢; replace hsl := hsl.mono hle; replace hkl := hkl.mono hle)
 refine B5 ?_
 refine sB (I8 rfl rfl) rfl rfl (fun h34 => ?_) (fun h34 => ?_)
 refine A8 ?_
 refine C0 ?_
 (obtain ⟨b, o, p2, c2, rfl, hat, hre, hgb⟩ := hsl.kidTy hkl (i := i) (by omega) (by omega); refine E2 E4 rfl ?_)
 refine J4 (i := 0) (l' := [tt,ff,ff,ff,ff,ff,ff,ff,ff,ff,ff,ff]) rfl D6 (B9 rfl) rfl (by kernel_rfl) rfl rfl ?_
 refine aL 1 rfl (C8 rfl rfl) rfl ?_
 refine aP 2 rfl (B9 rfl) rfl ?_
 refine aL 3 rfl (C8 rfl rfl) rfl ?_
 refine aP 4 rfl (qM rfl) rfl ?_
 refine aP 5 rfl (B6 rfl rfl rfl (by omega)) rfl ?_
 refine aL 6 rfl (A2 rfl rfl (hat _) rfl) rfl ?_
 refine A4 7 ?_
 (refine H7 rfl rfl (P7 ks[i] _ _ (Ty.smallL_mem hks _ (List.getElem_mem (by omega))) hre) rfl rfl rfl (fun v G1 hle1 hh => ?_); obtain ⟨cells', F', rfl, hs', hnd'⟩ := hh; have hr' := hs'.R.mono (C5.le _ _); obtain ⟨p3, c3, es3, rfl, _⟩ := hr'.open)
 refine A4 8 ?_
 (refine E5 rfl (D0 rfl rfl rfl (by omega) (by unfold maxLen; omega) rfl) rfl rfl ?_; rintro _ ⟨b53, rfl⟩)
 refine A4 9 ?_
 refine R0 rfl rfl rfl rfl rfl rfl (fun _ _ => by repeat (first | exact Sw.here | apply Sw.there)) (M1 (by repeat first | exact mH | apply mT)) rfl (by simp [Value.oneCell']) (by unfold maxLen; omega) (by omega) rfl rfl (by repeat (first | exact B2.nil | apply B2.dep (by decide +kernel) | apply B2.blk (by decide +kernel) (by repeat (first | exact Pk.here | apply Pk.there)) (by repeat first | exact mH | apply mT))) (fun pn' cn' => ?_)
 refine aP 10 rfl (B9 rfl) rfl ?_
 refine A4 11 ?_
 refine R5 rfl rfl rfl rfl rfl rfl rfl rfl (by kernel_rfl) (by repeat first | exact Sw.here | apply Sw.there) (by rfl) ?_
 refine B0 ?_
 refine sP (H5 rfl rfl (by omega) (by omega)) rfl rfl ?_
 refine A3 ?_
 refine I1 (i + 1, pn', cn', es' ++ [[.int .i64 ks[i].k, .slice p3 ks[i].ks.length c3]], G1) ?_ ?_ ?_
 (simp only [H6]; exact D2)
 (dsimp only; exact ⟨by omega, hle.trans hle1, by rw [List.take_succ_eq_append_getElem (by omega)]; exact C9.snoc (hst.mono hle1) hr'⟩)
 exact V0
 refine I7 ?_
 (obtain rfl : i = ks.length := (by omega); refine H9 (outs := [.slc pn cn 34 2 ks.length es'.flatten]) (rC rfl (A5 rfl rfl)) (by repeat (first | exact A0.nil | refine A0.cons Pk.here ?_ | refine A0.cons (Pk.there Pk.here) ?_ | apply A0.drop)) ?_)
 (rw [List.take_length] at hst; exact ⟨pn, cn, es', rfl, rfl, hst⟩)
theorem A0O (G : IM) : C3 G O8 [.int .i64 1, .slice none 0 0] := by
 simp only [O8, C3]
 exact ⟨none, 0, [], rfl, ⟨by omega, by omega⟩, D7.of (Sl.nil _ _) rfl (by simp) (by simp), by simp [C9]⟩
theorem A6I : K6 O8 = 0 := rfl
theorem B4b (br : Nat) (pb : Option Addr) (nb cb : Nat) (bs : List UInt8) (hnb : nb ≤ 2000) (p : Nat) (G : IM) (hb : Sl G pb nb cb 1 (M7 bs)) (hp : p + 31 < 1099511627776) (t : Ty) (cells : List Value) (hr : C3 G t cells) (hsz : K6 t ≤ 30) :
  Fn Tryz.prog 122 [.pointer (some ⟨br, 0, none⟩), .agg ⟨cells⟩] [rd br pb nb cb p] G
   (A0h br pb nb cb p 2 (fun G' v => ∃ t cells, v = .agg ⟨cells⟩ ∧ C3 G' t cells ∧ K6 t ≤ 38)) := by
 have hts := A3W t (by omega)
 obtain ⟨k, ks⟩ := t
 rw [K6] at hsz
 have hsn := A13 ks
 obtain ⟨q0, c0, es0, rfl, hk, _⟩ := hr.open
 simp only [Ty.k, Ty.ks] at hk hr ⊢
 refine C1 Tryz.func122 rfl Tryz.ntmps122 Tryz.results122 rfl ?_
 intro w0
 refine A3 ?_
 refine sE (C7 rfl rfl) rfl (fun b3 => ?_)
 refine sE (A7 rfl) rfl (fun b4 => ?_)
 refine B0 ?_
 (refine U6 rfl (B4a k ks G q0 c0 hts hr) rfl rfl (fun v G1 outs hle1 hh => ?_); obtain ⟨q, c, es, rfl, rfl, hst⟩ := hh)
 refine sE (A7 rfl) rfl (fun b11 => ?_)
 refine B5 ?_
 (refine J2 rfl (Y6 G1 br pb nb cb p bs 40 (hb.mono hle1) hnb (by omega)) (Pk.perm (by repeat (first | exact Pk.here | apply Pk.there))) rfl rfl (fun v G2 outs hle2 hh => ?_); obtain ⟨rfl, rfl, j, rfl, hj0, hj1⟩ := hh; replace hb := hb.mono hle1)
 refine A3 ?_
 (show J6 _ _ (.block 0 _) _ _; refine A0k (fun (x : Ty × Option Addr × Nat × Nat × IM) => ⟨[(5, .pointer (some ⟨b11, 0, none⟩)), (4, .pointer (some ⟨b4, 0, none⟩))], [.blk b11 [.int .i64 x.1.k, .slice x.2.1 x.1.ks.length x.2.2.1], .blk b4 [.int .i64 0, .slice none 0 0], rd br pb nb cb x.2.2.2.1], x.2.2.2.2⟩) (fun x => C2 G2 x.2.2.2.2 ∧ C3 x.2.2.2.2 x.1 [.int .i64 x.1.k, .slice x.2.1 x.1.ks.length x.2.2.1] ∧ K6 x.1 ≤ 38 ∧ p ≤ x.2.2.2.1 ∧ x.2.2.2.1 ≤ p + 2) ?_ ?_)
 refine C0 (tS (tR (sB (qE rfl rfl) rfl rfl (fun h26 => ?_) (fun h26 => ?_))))
 refine A8 ?_
 (refine I3 (D0 rfl rfl rfl (by omega) (by unfold maxLen; omega) rfl) rfl ?_; rintro _ ⟨b33, rfl⟩)
 (refine R9 (by repeat (first | exact Pk.here | apply Pk.there)) (fun G3 hle3 hsl3 _ => ?_); refine R9 (by repeat (first | exact Pk.here | apply Pk.there)) (fun G4 hle4 hsl4 _ => ?_); refine J2 rfl (Z0 G4 br pb nb cb (p + 1) bs _ _ _ _ (hb.mono (hle3.trans hle4)) hnb (by omega) (hsl3.mono hle4) (by decide)) (Pk.perm (by repeat (first | exact Pk.here | apply Pk.there))) rfl rfl (fun v G5 outs hle5 hh => ?_); obtain ⟨rfl, rfl, hv⟩ := hh; obtain ⟨k', rfl, hk'⟩ : ∃ k', v = .int .i64 k' ∧ F8 k' := (by simp only [List.mem_cons, List.not_mem_nil, or_false] at hv; rcases hv with rfl | rfl | rfl | rfl | rfl <;> exact ⟨_, rfl, by unfold F8; omega⟩))
 refine B4 ?_
 refine P8 (.mk k' ks, q, c, p + 2, G5) ?_ ?_
 (simp only [H6]; exact D2)
 (dsimp only; exact ⟨hle3.trans hle4, (hst.mono (hle3.trans hle4)).ty rfl hsl4 hk', by (rw [K6]; omega), by omega, by omega⟩)
 refine A8 ?_
 refine sB (qE rfl rfl) rfl rfl (fun h48 => ?_) (fun h48 => ?_)
 refine B4 ?_
 refine E2 E4 rfl ?_
 refine J4 (i := 0) (l' := [tt,ff,ff,ff,ff,ff,ff]) rfl D6 (B9 rfl) rfl (by kernel_rfl) rfl rfl ?_
 refine aL 1 rfl (C8 rfl rfl) rfl ?_
 refine A4 2 ?_
 refine N3 rfl rfl ((A1q _)) rfl rfl rfl ?_
 refine A4 3 ?_
 (refine E5 rfl (D0 rfl rfl rfl (by omega) (by unfold maxLen; omega) rfl) rfl rfl ?_; rintro _ ⟨b59, rfl⟩)
 refine A4 4 ?_
 refine R0 rfl rfl rfl rfl rfl rfl (fun _ _ => by repeat (first | exact Sw.here | apply Sw.there)) (M1 (by repeat first | exact mH | apply mT)) rfl (by simp [Value.oneCell']) (by unfold maxLen; omega) (by omega) rfl rfl (by repeat (first | exact B2.nil | apply B2.dep (by decide +kernel) | apply B2.blk (by decide +kernel) (by repeat (first | exact Pk.here | apply Pk.there)) (by repeat first | exact mH | apply mT))) (fun qn cn => ?_)
 (refine A4B (cs := es.flatten ++ [.int .i64 1, .slice none 0 0]) (by repeat (first | exact Pk.here | apply Pk.there)) (fun G6 hle6 hsl6 _ => ?_))
 refine aP 5 rfl (B9 rfl) rfl ?_
 refine A4 6 ?_
 refine R5 rfl rfl rfl rfl rfl rfl rfl rfl (by kernel_rfl) (by repeat first | exact Sw.here | apply Sw.there) (by rfl) ?_
 refine A3 ?_
 refine P8 (.mk k (ks ++ [O8]), qn, cn, p + 1, G6) (by rw [show (Ty.mk k (ks ++ [O8])).ks.length = ks.length + 1 from by simp [Ty.ks]]; exact D2) ?_
 (dsimp only; refine ⟨hle6, C9.ty (ts := ks ++ [O8]) (es := es ++ [[.int .i64 1, .slice none 0 0]]) (C9.snoc (hst.mono hle6) (A0O _)) rfl (by simpa [Ty.ks] using hsl6) hk, ?_, by omega, by omega⟩; rw [K6, A41, A6I, List.length_append]; simp only [List.length_singleton]; omega)
 refine A8 ?_
 refine sB (qE rfl rfl) rfl rfl (fun h76 => ?_) (fun h76 => ?_)
 refine E0 ?_
 refine C0 ?_
 (refine A10 (by repeat (first | exact Pk.here | apply Pk.there)) (fun G3 hle3 hsl3 _ => ?_); refine J0 (fun (x : Nat × Ty × Option Addr × Nat × IM) => ⟨[(6, .int .i64 x.1), (5, .pointer (some ⟨b11, 0, none⟩)), (4, .pointer (some ⟨b4, 0, none⟩))], [.blk b11 [.int .i64 x.2.1.k, .slice x.2.2.1 x.2.1.ks.length x.2.2.2.1], .blk b4 [.int .i64 0, .slice none 0 0], rd br pb nb cb (p + 1)], x.2.2.2.2⟩) (fun x => x.1 ≤ 4 ∧ C2 G3 x.2.2.2.2 ∧ C3 x.2.2.2.2 x.2.1 [.int .i64 x.2.1.k, .slice x.2.2.1 x.2.1.ks.length x.2.2.2.1] ∧ K6 x.2.1 ≤ 30 + 2 * x.1) (fun x => 4 - x.1) (0, .mk k ks, q, c, G3) ?_ ?_ ?_)
 (simp only [H6]; exact D2)
 (dsimp only; exact ⟨by omega, C2.refl _, (hst.mono hle3).ty rfl hsl3 hk, by (rw [K6]; omega)⟩)
 (rintro ⟨i, ⟨tk, tks⟩, qi, ci, Gi⟩ ⟨hi, hlei, hri, hsi⟩; simp only [Ty.k, Ty.ks] at hi hlei hri hsi ⊢)
 refine B4 ?_
 refine sB (I8 rfl rfl) rfl rfl (fun h95 => ?_) (fun h95 => ?_)
 refine A8 ?_
 refine C0 ?_
 refine E2 E4 rfl ?_
 refine L4 (i := 1) (l' := [ff,tt,ff,ff,ff]) rfl D6 (A5 rfl rfl) rfl (by kernel_rfl) rfl rfl ?_
 refine A4 0 ?_
 refine N3 rfl rfl ((A1q _)) rfl rfl rfl ?_
 refine A4 2 ?_
 (refine E5 rfl (D0 rfl rfl rfl (by omega) (by unfold maxLen; omega) rfl) rfl rfl ?_; rintro _ ⟨b108, rfl⟩)
 (refine A4B (cs := [.int .i64 1, .slice none 0 0, .int .i64 tk, .slice qi tks.length ci]) (by repeat (first | exact Pk.here | apply Pk.there)) (fun G7 hle7 hsl7 _ => ?_))
 refine aP 3 rfl (X0 rfl rfl) rfl ?_
 refine A4 4 ?_
 refine R5 rfl rfl rfl rfl rfl rfl rfl rfl (by kernel_rfl) (by repeat first | exact Sw.here | apply Sw.there) (by rfl) ?_
 refine B0 ?_
 refine sP (H5 rfl rfl (by omega) (by omega)) rfl rfl ?_
 refine A3 ?_
 refine I1 (i + 1, .mk 4 [O8, .mk tk tks], some ⟨b108, 0, none⟩, 2, G7) ?_ ?_ ?_
 (simp only [H6]; exact D2)
 (dsimp only; refine ⟨by omega, hlei.trans hle7, C9.ty (ts := [O8, .mk tk tks]) (es := [[.int .i64 1, .slice none 0 0], [.int .i64 tk, .slice qi tks.length ci]]) ⟨_, _, rfl, A0O _, _, _, rfl, hri.mono hle7, rfl⟩ rfl hsl7 ⟨by omega, by omega⟩, ?_⟩; rw [K6, P0, P0, P0, A6I]; simp only [List.length_cons, List.length_nil]; omega)
 (show 4 - (i + 1) < 4 - i; omega)
 refine D1 ?_
 refine P8 (.mk tk tks, qi, ci, p + 1, Gi) ?_ ?_
 (simp only [H6]; exact D2)
 (dsimp only; exact ⟨hle3.trans hlei, hri, by omega, by omega, by omega⟩)
 refine B4 ?_
 (refine A10 (by repeat (first | exact Pk.here | apply Pk.there)) (fun G8 hle8 hsl8 _ => ?_); refine tK ?_)
 refine E3 ?_
 refine P8 (.mk k ks, q, c, p + 1, G8) ?_ ?_
 (simp only [H6]; exact D2)
 (dsimp only; exact ⟨hle8, (hst.mono hle8).ty rfl hsl8 hk, by (rw [K6]; omega), by omega, by omega⟩)
 (rintro ⟨t', q', c', p', G'⟩ ⟨hle9, hr9, hs9, hp9, hp9'⟩; simp only [] at hle9 hr9 hs9 hp9 hp9' ⊢)
 refine B5 ?_
 refine H9 (outs := [rd br pb nb cb p']) (rC rfl (A5 rfl rfl)) (by repeat (first | exact A0.nil | refine A0.cons Pk.here ?_ | refine A0.cons (Pk.there Pk.here) ?_ | apply A0.drop)) ?_
 (exact ⟨p', by omega, by omega, rfl, t', _, rfl, hr9, by omega⟩)
mutual
def A9D : Tm → Tm
 | .mk k nm num ty fr lb ks => if k = 13 ∨ k = 14 then (A6J ks).headD K7 else .mk k nm num (if k = 5 then O8 else B3) B3 0 (A6J ks)
def A6J : List Tm → List Tm
 | [] => []
 | t :: ts => A9D t :: A6J ts
end
def B8n : Tm → Tm
 | .mk k nm num ty fr lb ks => if k = 13 ∨ k = 14 then ks.headD K7 else if k = 5 then .mk k nm num O8 fr lb ks else .mk k nm num ty fr lb ks
def B8o : Tm → Prop
 | .mk k _ _ _ _ _ ks => k = 13 ∨ k = 14 → ks ≠ []
theorem A15 {t : Ty} (h : A0K t = true) : t = B3 := by
 obtain ⟨k, ks⟩ := t
 obtain ⟨h1, h2⟩ : (Ty.mk k ks).k = 0 ∧ (Ty.mk k ks).ks.length = 0 := of_decide_eq_true h
 simp only [Ty.k, Ty.ks] at h1 h2
 have h3 : ks = [] := List.length_eq_zero_iff.1 (by omega)
 rw [h3, B3]
 congr
theorem A0P {D N : Int} {k : Int} {nm : ByteArray} {num : Int} {ty fr : Ty} {lb : Int} {ks : List Tm} {d : Int} (h : M8 D N (.mk k nm num ty fr lb ks) d = true) : d ≤ D ∧ k ≠ N ∧ V8 k nm num ty fr lb ks.length = true ∧ M4 D N ks (d + 1) = true := by
 rw [M8] at h
 simp only [Bool.and_eq_true, decide_eq_true_eq] at h
 exact ⟨h.1.1.1, h.1.1.2, h.1.2, h.2⟩
section slaws
variable {P : Program} {Γ : L7} {env : M2} {hp : List A6} {G : IM} {ty : TypeId}
theorem A42 {P : Program} {w : World} {l c : Nat} (hl : l ≤ c) (code : BoundsCode) : (Instr.sliceBound (.int .i64 (l : Int)) c code).run P w = .ok l w := by
 unfold Instr.sliceBound
 simp only [asIntOf, Sem.run_bind, Sem.run_pure, Result.andThen_ok]
 rw [if_pos ⟨by omega, by omega⟩]
 simp
theorem A6K {x y z : Operand} {t : TypeId} {i : K9} [hI : I6 P t i] (hd' : i.desc = .string) {s : ByteArray} {l h : Nat}
  (hx : evo env x = some (.string s)) (hy : evo env y = some (.int .i64 (l : Int))) (hz : evo env z = some (.int .i64 (h : Int))) (hl : l ≤ h) (hh : h ≤ s.size) :
  I4 P Γ ⟨env, hp, G⟩ (.slice t x (some y) (some z) none) ty (.string (s.extract l h)) := by
 refine ⟨fun a _ hs _ _ _ _ w => ?_⟩
 have hu := hI.und
 rw [hd'] at hu
 simp [execOp, (hs.evo hx : a.eval x = _), (hs.evo hy : a.eval y = _), (hs.evo hz : a.eval z = _), Instr.sliceAt, Sem.run_bind, run_underlying hu, Instr.slice, Instr.sliceBounds, A42 hl, A42 hh]
theorem A9E {x z : Operand} {t : TypeId} {i : K9} [hI : I6 P t i] (hd' : i.desc = .string) {s : ByteArray} {h : Nat}
  (hx : evo env x = some (.string s)) (hz : evo env z = some (.int .i64 (h : Int))) (hh : h ≤ s.size) :
  I4 P Γ ⟨env, hp, G⟩ (.slice t x none (some z) none) ty (.string (s.extract 0 h)) := by
 refine ⟨fun a _ hs _ _ _ _ w => ?_⟩
 have hu := hI.und
 rw [hd'] at hu
 simp [execOp, (hs.evo hx : a.eval x = _), (hs.evo hz : a.eval z = _), Instr.sliceAt, Sem.run_bind, run_underlying hu, Instr.slice, Instr.sliceBounds, A42 hh]
theorem A9F {x y : Operand} {t : TypeId} {i : K9} [hI : I6 P t i] (hd' : i.desc = .string) {s : ByteArray} {l : Nat}
  (hx : evo env x = some (.string s)) (hy : evo env y = some (.int .i64 (l : Int))) (hl : l ≤ s.size) :
  I4 P Γ ⟨env, hp, G⟩ (.slice t x (some y) none none) ty (.string (s.extract l s.size)) := by
 refine ⟨fun a _ hs _ _ _ _ w => ?_⟩
 have hu := hI.und
 rw [hd'] at hu
 simp [execOp, (hs.evo hx : a.eval x = _), (hs.evo hy : a.eval y = _), Instr.sliceAt, Sem.run_bind, run_underlying hu, Instr.slice, Instr.sliceBounds, A42 hl]
theorem B4c {x y : Operand} {t t' : TypeId} {r s : ByteArray} (hx : evo env x = some (.string r)) (hy : evo env y = some (.string s)) :
  I4 P Γ ⟨env, hp, G⟩ (.binOp .lss t x y t') ty (.bool (decide (Op.bytesLess r.toList s.toList = true))) := by
 refine ⟨fun a _ hs _ _ _ _ w => ?_⟩
 simp only [execOp, eqGuard, binOp, Op.stringOp, (hs.evo hx : a.eval x = _), (hs.evo hy : a.eval y = _)]
 simp
end slaws
theorem A9G {Q : Prop} (h : Q := by (exact ⟨rfl, rfl, _, rfl, by simp only [ByteArray.size_extract, ByteArray.size_append]; omega⟩)) : Q := h
theorem B4d (s nm : ByteArray) (G : IM) (hs : s.size ≤ 1000) (hn : nm.size ≤ 1000) :
  Fn Tryz.prog 208 [.string s, .string nm] [] G (fun G' v outs => G' = G ∧ outs = [] ∧ ∃ r, v = .string r ∧ r.size ≤ s.size + nm.size) := by
 refine C1 Tryz.func208 rfl Tryz.ntmps208 Tryz.results208 rfl ?_
 intro w0
 refine J1 ?_
 refine C0 ?_
 (refine J0 (fun (i : Nat) => ⟨[(5, .int .i64 (i : Int)), (0, .string s), (1, .string nm)], [], G⟩) (fun i => i ≤ s.size) (fun i => s.size - i) 0 ?_ ?_ ?_)
 exact D2
 exact Nat.zero_le _
 (intro i hi)
 refine B0 ?_
 refine sQ (A2p rfl rfl) rfl (sB (I8 rfl rfl) rfl rfl (fun h23 => ?_) (fun h23 => ?_))
 refine B4 ?_
 refine sP (A1L (n := 1) rfl rfl (by omega)) rfl rfl ?_
 refine sP (A6K (h := i + 1) rfl rfl rfl rfl (by omega) (by omega)) rfl rfl ?_
 refine E3 ?_
 refine sB (B4c rfl rfl) rfl rfl (fun h31 => ?_) (fun h31 => ?_)
 refine A8 ?_
 refine C0 ?_
 refine A3 ?_
 refine sP (A1L (n := 1) rfl rfl (by omega)) rfl rfl ?_
 refine B7 ?_
 refine I1 (i + 1) ?_ ?_ ?_
 exact D2
 (show _ ≤ s.size; omega)
 (show s.size - _ < s.size - _; omega)
 refine J9 ?_
 refine sQ (A2p rfl rfl) rfl ?_
 refine sP (B2M rfl rfl (by omega)) rfl rfl ?_
 refine B4 ?_
 refine sP (A1L (n := 1) rfl rfl (by omega)) rfl rfl ?_
 refine sP (A6K (h := i + 1) rfl rfl rfl rfl (by omega) (by omega)) rfl rfl ?_
 refine E3 ?_
 refine sB (A1G rfl rfl) rfl rfl (fun h72 => ?_) (fun h72 => ?_)
 refine K5 ?_
 refine H9 (outs := []) (rT rfl) A0.nil ?_
 (exact ⟨rfl, rfl, _, rfl, Nat.le_add_right _ _⟩)
 refine B5 ?_
 refine E2 E4 rfl ?_
 refine J4 (i := 0) (l' := [tt,ff,ff,ff,ff,ff,ff,ff,ff,ff]) rfl D6 (qM rfl) rfl (by kernel_rfl) rfl rfl ?_
 refine aP 1 rfl (qM rfl) rfl ?_
 refine aP 2 rfl (A9E rfl rfl rfl (by omega)) rfl ?_
 refine aP 3 rfl (qM rfl) rfl ?_
 refine aP 4 rfl (A20 rfl rfl (by simp only [ByteArray.size_extract, ByteArray.size_append]; omega)) rfl ?_
 refine aP 5 rfl (qM rfl) rfl ?_
 refine aP 6 rfl (qM rfl) rfl ?_
 refine aP 7 rfl (A9F rfl rfl rfl (by omega)) rfl ?_
 refine aP 8 rfl (A20 rfl rfl (by simp only [ByteArray.size_extract, ByteArray.size_append]; omega)) rfl ?_
 refine aP 9 rfl (qA rfl) rfl ?_
 refine B7 ?_
 refine H9 (outs := []) (rT rfl) A0.nil ?_
 exact A9G
 refine A57 ?_
 refine sQ (A2p rfl rfl) rfl ?_
 refine sP (A1I rfl rfl (by omega)) rfl rfl ?_
 refine I7 ?_
 refine E2 E4 rfl ?_
 refine J4 (i := 0) (l' := [tt,ff,ff,ff,ff,ff,ff,ff,ff,ff]) rfl D6 (qM rfl) rfl (by kernel_rfl) rfl rfl ?_
 refine aP 1 rfl (qM rfl) rfl ?_
 refine aP 2 rfl (A9E rfl rfl rfl (by omega)) rfl ?_
 refine aP 3 rfl (qM rfl) rfl ?_
 refine aP 4 rfl (A20 rfl rfl (by simp only [ByteArray.size_extract, ByteArray.size_append]; omega)) rfl ?_
 refine aP 5 rfl (qM rfl) rfl ?_
 refine aP 6 rfl (qM rfl) rfl ?_
 refine aP 7 rfl (A9F rfl rfl rfl (by omega)) rfl ?_
 refine aP 8 rfl (A20 rfl rfl (by simp only [ByteArray.size_extract, ByteArray.size_append]; omega)) rfl ?_
 refine aP 9 rfl (qA rfl) rfl ?_
 refine B7 ?_
 refine H9 (outs := []) (rT rfl) A0.nil ?_
 exact A9G
theorem A1R (G : IM) : C3 G B3 [.int .i64 0, .slice none 0 0] := by
 simp only [B3, C3]
 exact ⟨none, 0, [], rfl, ⟨by omega, by omega⟩, D7.of (Sl.nil _ _) rfl (by simp) (by simp), by simp [C9]⟩
theorem A6L : K6 B3 = 0 := rfl
theorem E1.tm {G : IM} {k : Int} {nm : ByteArray} {num : Int} {t : Ty} {q : Option Addr} {d : Nat} {ts : List Tm} {es : List (List Value)} {p : Option Addr} {n c : Nat} (h : E1 G ts es) (hn : ts.length = n) (hs : Sl G p n c 9 es.flatten) (hk : F8 k) (hm : F8 num)
  (ht : C3 G t [.int .i64 t.k, .slice q t.ks.length d]) : B1 G (.mk k nm num t B3 0 ts) [.int .i64 k, .string nm, .int .i64 num, .int .i64 t.k, .slice q t.ks.length d, .int .i64 0, .slice none 0 0, .int .i64 0, .slice p n c] := by
 subst hn
 simp only [B1]
 exact ⟨_, _, p, c, es, rfl, hk, hm, ⟨by omega, by omega⟩, ht, A1R G, D7.of hs h.len h.all (fun e he => (h.each e he).2), h⟩
theorem A1S {G : IM} {k : Int} {nm : ByteArray} {num : Int} (hk : F8 k) (hm : F8 num) :
  B1 G (.mk k nm num B3 B3 0 []) [.int .i64 k, .string nm, .int .i64 num, .int .i64 0, .slice none 0 0, .int .i64 0, .slice none 0 0, .int .i64 0, .slice none 0 0] :=
 E1.tm (ts := []) (es := []) (t := B3) (by simp [E1]) rfl (Sl.nil _ _) hk hm (A1R G)
theorem A16 (k : Int) (nm : ByteArray) (num : Int) : A0p (.mk k nm num B3 B3 0 []) = nm.size := by
 rw [A0p, A6L, X6]; simp
theorem A6M : ∀ (ts : List Tm) (t : Tm), X6 (ts ++ [t]) = X6 ts + A0p t
 | [], t => by simp [X6]
 | a :: ts, t => by simp only [List.cons_append, X6, A6M ts t]; omega
theorem A1r (k : Int) : E6 k ≤ 3 := by
 unfold E6; repeat (split; omega)
 omega
theorem A43 {d : Nat} (h : d ≤ 2) : dB (d + 1) ≤ 14 := by
 have : d = 0 ∨ d = 1 ∨ d = 2 := by omega
 rcases this with rfl | rfl | rfl <;> decide
theorem A17 (n : Int) (G : IM) : Fn Tryz.prog 159 [.int .i64 n] [] G (I5 (.agg ⟨[.int .i64 2, .string ⟨⟨[]⟩⟩, .int .i64 n, .int .i64 0, .slice none 0 0, .int .i64 0, .slice none 0 0, .int .i64 0, .slice none 0 0]⟩) G) := by
 refine C1 Tryz.func159 rfl Tryz.ntmps159 Tryz.results159 rfl ?_
 intro w0
 refine A3 ?_
 refine sE (A7 rfl) rfl (fun b3 => ?_)
 refine J3 ?_
 refine M3 (rC rfl (A5 rfl rfl)) ?_
 exact ⟨rfl, rfl, rfl⟩
theorem A9H (br : Nat) (pb : Option Addr) (nb cb : Nat) (bs : List UInt8) (hnb : nb ≤ 2000) (p : Nat) (G : IM) (hb : Sl G pb nb cb 1 (M7 bs)) (hp : p + 3 < 1099511627776) (s : ByteArray) (hs : s.size ≤ 1000) :
  Fn Tryz.prog 207 [.pointer (some ⟨br, 0, none⟩), .string s] [rd br pb nb cb p] G
   (A0h br pb nb cb p 3 (fun G' v => ∃ t cells, v = .agg ⟨cells⟩ ∧ B1 G' t cells ∧ A0p t ≤ 1)) := by
 refine C1 Tryz.func207 rfl Tryz.ntmps207 Tryz.results207 rfl ?_
 intro w0
 refine A3 ?_
 refine sE (A7 rfl) rfl (fun b3 => ?_)
 refine A8 ?_
 refine sQ (A2p rfl rfl) rfl ?_
 refine sB (W3 rfl rfl) rfl rfl (fun h11 => ?_) (fun h11 => ?_)
 refine A3 ?_
 (refine J2 rfl (Y6 _ br pb nb cb p bs _ hb hnb (by omega)) (Pk.perm (by repeat (first | exact Pk.here | apply Pk.there))) rfl rfl (fun v14 G14 outs14 hle14 hh => ?_); obtain ⟨rfl, rfl, j14, rfl, hj14, hk14⟩ := hh; obtain ⟨i14, rfl⟩ := Int.eq_ofNat_of_zero_le hj14)
 replace hb := hb.mono hle14
 refine sB (W3 rfl rfl) rfl rfl (fun h15 => ?_) (fun h15 => ?_)
 refine D1 ?_
 refine sQ (A2p rfl rfl) rfl ?_
 (refine J2 rfl (Y6 _ br pb nb cb (p + 1) bs _ hb hnb (by omega)) (Pk.perm (by repeat (first | exact Pk.here | apply Pk.there))) rfl rfl (fun v25 G25 outs25 hle25 hh => ?_); obtain ⟨rfl, rfl, j25, rfl, hj25, hk25⟩ := hh; obtain ⟨i25, rfl⟩ := Int.eq_ofNat_of_zero_le hj25)
 replace hb := hb.mono hle25
 refine D1 ?_
 refine sP (A1L (n := 1) rfl rfl (by omega)) rfl rfl ?_
 refine sP (A6K rfl rfl rfl rfl (by omega) (by omega)) rfl rfl ?_
 refine A8 ?_
 refine H9 (outs := [rd br pb nb cb (p + 1 + 1)]) (rC rfl (A5 rfl rfl)) (by repeat (first | exact A0.nil | refine A0.cons Pk.here ?_ | refine A0.cons (Pk.there Pk.here) ?_ | refine A0.cons (Pk.there (Pk.there Pk.here)) ?_ | apply A0.drop)) ?_
 focus (refine ⟨_, ?_, ?_, rfl, _, _, rfl, A1S ⟨by omega, by omega⟩ ⟨by omega, by omega⟩, ?_⟩; all_goals (try rw [A16]); all_goals (first | omega | (simp only [ByteArray.size_extract]; omega) | decide))
 refine J3 ?_
 (refine J2 rfl (Y6 _ br pb nb cb (p + 1) bs _ hb hnb (by omega)) (Pk.perm (by repeat (first | exact Pk.here | apply Pk.there))) rfl rfl (fun v54 G54 outs54 hle54 hh => ?_); obtain ⟨rfl, rfl, j54, rfl, hj54, hk54⟩ := hh; obtain ⟨i54, rfl⟩ := Int.eq_ofNat_of_zero_le hj54)
 replace hb := hb.mono hle54
 refine A3 ?_
 refine C0 (tS (tR (sB (qE rfl rfl) rfl rfl (fun h60 => ?_) (fun h60 => ?_))))
 refine J7 ?_
 refine H9 (outs := [rd br pb nb cb (p + 1 + 1)]) (rC rfl (A5 rfl rfl)) (by repeat (first | exact A0.nil | refine A0.cons Pk.here ?_ | refine A0.cons (Pk.there Pk.here) ?_ | refine A0.cons (Pk.there (Pk.there Pk.here)) ?_ | apply A0.drop)) ?_
 focus (refine ⟨_, ?_, ?_, rfl, _, _, rfl, A1S ⟨by omega, by omega⟩ ⟨by omega, by omega⟩, ?_⟩; all_goals (try rw [A16]); all_goals (first | omega | (simp only [ByteArray.size_extract]; omega) | decide))
 refine A8 ?_
 refine sB (qE rfl rfl) rfl rfl (fun h82 => ?_) (fun h82 => ?_)
 refine J7 ?_
 refine H9 (outs := [rd br pb nb cb (p + 1 + 1)]) (rC rfl (A5 rfl rfl)) (by repeat (first | exact A0.nil | refine A0.cons Pk.here ?_ | refine A0.cons (Pk.there Pk.here) ?_ | refine A0.cons (Pk.there (Pk.there Pk.here)) ?_ | apply A0.drop)) ?_
 focus (refine ⟨_, ?_, ?_, rfl, _, _, rfl, A1S ⟨by omega, by omega⟩ ⟨by omega, by omega⟩, ?_⟩; all_goals (try rw [A16]); all_goals (first | omega | (simp only [ByteArray.size_extract]; omega) | decide))
 refine J3 ?_
 (refine I3 (D0 rfl rfl rfl (by omega) (by unfold maxLen; omega) rfl) rfl ?_; rintro _ ⟨b108, rfl⟩)
 (refine R9 (by repeat (first | exact Pk.here | apply Pk.there)) (fun Gf hlef hslf _ => ?_); refine J2 rfl (Z0 Gf br pb nb cb (p + 1 + 1) bs _ _ _ _ (hb.mono hlef) hnb (by omega) hslf (by decide)) (Pk.perm (by repeat (first | exact Pk.here | apply Pk.there))) rfl rfl (fun v Gn outs hlen hh => ?_); obtain ⟨rfl, rfl, hv⟩ := hh; obtain ⟨kn, rfl, hkn⟩ : ∃ k, v = .int .i64 k ∧ F8 k := (by simp only [List.mem_cons, List.not_mem_nil, or_false] at hv; rcases hv with rfl | rfl | rfl | rfl | rfl | rfl <;> exact ⟨_, rfl, by unfold F8; omega⟩))
 refine E8 rfl ((A17 _ _)) rfl rfl ?_
 refine B4 ?_
 refine H9 (outs := [rd br pb nb cb (p + 1 + 1 + 1)]) (rC rfl (A5 rfl rfl)) (by repeat (first | exact A0.nil | refine A0.cons Pk.here ?_ | refine A0.cons (Pk.there Pk.here) ?_ | refine A0.cons (Pk.there (Pk.there Pk.here)) ?_ | apply A0.drop)) ?_
 focus (refine ⟨_, ?_, ?_, rfl, _, _, rfl, A1S ⟨by omega, by omega⟩ hkn, ?_⟩; all_goals (try rw [A16]); all_goals (first | omega | decide))
 refine J9 ?_
 (refine J2 rfl (Y6 _ br pb nb cb p bs _ hb hnb (by omega)) (Pk.perm (by repeat (first | exact Pk.here | apply Pk.there))) rfl rfl (fun v131 G131 outs131 hle131 hh => ?_); obtain ⟨rfl, rfl, j131, rfl, hj131, hk131⟩ := hh; obtain ⟨i131, rfl⟩ := Int.eq_ofNat_of_zero_le hj131)
 replace hb := hb.mono hle131
 refine A3 ?_
 refine C0 (tS (tR (sB (qE rfl rfl) rfl rfl (fun h137 => ?_) (fun h137 => ?_))))
 refine J7 ?_
 refine H9 (outs := [rd br pb nb cb (p + 1)]) (rC rfl (A5 rfl rfl)) (by repeat (first | exact A0.nil | refine A0.cons Pk.here ?_ | refine A0.cons (Pk.there Pk.here) ?_ | refine A0.cons (Pk.there (Pk.there Pk.here)) ?_ | apply A0.drop)) ?_
 focus (refine ⟨_, ?_, ?_, rfl, _, _, rfl, A1S ⟨by omega, by omega⟩ ⟨by omega, by omega⟩, ?_⟩; all_goals (try rw [A16]); all_goals (first | omega | (simp only [ByteArray.size_extract]; omega) | decide))
 refine A8 ?_
 refine sB (qE rfl rfl) rfl rfl (fun h159 => ?_) (fun h159 => ?_)
 refine J7 ?_
 refine H9 (outs := [rd br pb nb cb (p + 1)]) (rC rfl (A5 rfl rfl)) (by repeat (first | exact A0.nil | refine A0.cons Pk.here ?_ | refine A0.cons (Pk.there Pk.here) ?_ | refine A0.cons (Pk.there (Pk.there Pk.here)) ?_ | apply A0.drop)) ?_
 focus (refine ⟨_, ?_, ?_, rfl, _, _, rfl, A1S ⟨by omega, by omega⟩ ⟨by omega, by omega⟩, ?_⟩; all_goals (try rw [A16]); all_goals (first | omega | (simp only [ByteArray.size_extract]; omega) | decide))
 refine J3 ?_
 (refine I3 (D0 rfl rfl rfl (by omega) (by unfold maxLen; omega) rfl) rfl ?_; rintro _ ⟨b185, rfl⟩)
 (refine R9 (by repeat (first | exact Pk.here | apply Pk.there)) (fun Gf hlef hslf _ => ?_); refine J2 rfl (Z0 Gf br pb nb cb (p + 1) bs _ _ _ _ (hb.mono hlef) hnb (by omega) hslf (by decide)) (Pk.perm (by repeat (first | exact Pk.here | apply Pk.there))) rfl rfl (fun v Gn outs hlen hh => ?_); obtain ⟨rfl, rfl, hv⟩ := hh; obtain ⟨kn, rfl, hkn⟩ : ∃ k, v = .int .i64 k ∧ F8 k := (by simp only [List.mem_cons, List.not_mem_nil, or_false] at hv; rcases hv with rfl | rfl | rfl | rfl | rfl | rfl <;> exact ⟨_, rfl, by unfold F8; omega⟩))
 refine E8 rfl ((A17 _ _)) rfl rfl ?_
 refine B4 ?_
 refine H9 (outs := [rd br pb nb cb (p + 1 + 1)]) (rC rfl (A5 rfl rfl)) (by repeat (first | exact A0.nil | refine A0.cons Pk.here ?_ | refine A0.cons (Pk.there Pk.here) ?_ | refine A0.cons (Pk.there (Pk.there Pk.here)) ?_ | apply A0.drop)) ?_
 focus (refine ⟨_, ?_, ?_, rfl, _, _, rfl, A1S ⟨by omega, by omega⟩ hkn, ?_⟩; all_goals (try rw [A16]); all_goals (first | omega | decide))
def tB : Nat → Nat
 | 0 => 3
 | d + 1 => 3 * tB d + 20
theorem A9I (d : Nat) : 3 ≤ tB d := by cases d <;> simp only [tB] <;> omega
theorem A9J {Q : Prop} (h : Q := by (dsimp only; exact ⟨hlef3.trans hle3, hr3, by omega, by omega, by omega⟩)) : Q := h
theorem A9K {Q : Prop} (h : Q := by (dsimp only; exact ⟨C2.refl _, A1R _, by decide, by omega, by omega⟩)) : Q := h
theorem B4e (br : Nat) (pb : Option Addr) (nb cb : Nat) (bs : List UInt8) (hnb : nb ≤ 2000) : ∀ (d p : Nat) (G : IM) (s : ByteArray), d ≤ 900 → s.size + d ≤ 950 → Sl G pb nb cb 1 (M7 bs) → p + tB d < 1099511627776 →
  Fn Tryz.prog 169 [.pointer (some ⟨br, 0, none⟩), .string s, .int .i64 ((d + 1 : Nat) : Int)] [rd br pb nb cb p] G
   (A0h br pb nb cb p (tB d) (fun G' v => ∃ t cells, v = .agg ⟨cells⟩ ∧ B1 G' t cells ∧ A0p t ≤ ((tB d : Nat) : Int))) := by
 refine fun d => Nat.strongRecOn d fun d ih p G s hd hs hb hp => ?_
 have hge := A9I d
 refine C1 Tryz.func169 rfl Tryz.ntmps169 Tryz.results169 rfl ?_
 intro w0
 refine A3 ?_
 refine sE (A7 rfl) rfl (fun b3 => ?_)
 refine A8 ?_
 refine sB (I8 rfl rfl) rfl rfl (fun h10 => ?_) (fun h10 => ?_)
 ·refine K5 ?_
  (refine J2 rfl (A9H br pb nb cb bs hnb p _ hb (by omega) s (by omega)) (Pk.perm (by repeat (first | exact Pk.here | apply Pk.there))) rfl rfl (fun v Ga outs hlea hh => ?_); obtain ⟨pa, hpa1, hpa2, rfl, ta, cellsa, rfl, hra, hsa⟩ := hh; have hl9 := hra.len; have ho9 := hra.one)
  refine sS rfl rfl rfl hl9 ho9 rfl ?_ (hu := by exact D4 hl9.symm)
  refine B4 ?_
  refine H9 (outs := [rd br pb nb cb pa]) (rC rfl (A2 rfl rfl (A9 (by repeat first | exact mH | apply mT)) hl9)) (by repeat (first | exact A0.nil | refine A0.cons Pk.here ?_ | refine A0.cons (Pk.there Pk.here) ?_ | refine A0.cons (Pk.there (Pk.there Pk.here)) ?_ | apply A0.drop)) ?_
  (exact ⟨pa, by omega, by omega, rfl, ta, cellsa, rfl, hra, by omega⟩)
 ·refine A3 ?_
  (have hB4 : 4 ≤ tB d := (by obtain ⟨d1, rfl⟩ : ∃ d1, d = d1 + 1 := ⟨d - 1, by omega⟩; simp only [tB]; have := A9I d1; omega); refine J2 rfl (Y6 _ br pb nb cb p bs _ hb hnb (by omega)) (Pk.perm (by repeat (first | exact Pk.here | apply Pk.there))) rfl rfl (fun v33 G33 outs33 hle33 hh => ?_); obtain ⟨rfl, rfl, j33, rfl, hj33, hk33⟩ := hh)
  replace hb := hb.mono hle33
  refine sB (qE rfl rfl) rfl rfl (fun h34 => ?_) (fun h34 => ?_)
  ·refine D1 ?_
   (refine J2 rfl (A9H br pb nb cb bs hnb (p + 1) _ hb (by omega) s (by omega)) (Pk.perm (by repeat (first | exact Pk.here | apply Pk.there))) rfl rfl (fun v Ga outs hlea hh => ?_); obtain ⟨pa, hpa1, hpa2, rfl, ta, cellsa, rfl, hra, hsa⟩ := hh; have hl9 := hra.len; have ho9 := hra.one)
   refine sS rfl rfl rfl hl9 ho9 rfl ?_ (hu := by exact D4 hl9.symm)
   refine B4 ?_
   refine H9 (outs := [rd br pb nb cb pa]) (rC rfl (A2 rfl rfl (A9 (by repeat first | exact mH | apply mT)) hl9)) (by repeat (first | exact A0.nil | refine A0.cons Pk.here ?_ | refine A0.cons (Pk.there Pk.here) ?_ | refine A0.cons (Pk.there (Pk.there Pk.here)) ?_ | apply A0.drop)) ?_
   (exact ⟨pa, by omega, by omega, rfl, ta, cellsa, rfl, hra, by omega⟩)
  ·refine E0 ?_
   (refine I3 (D0 rfl rfl rfl (by omega) (by unfold maxLen; omega) rfl) rfl ?_; rintro _ ⟨b60, rfl⟩)
   (refine R9 (by repeat (first | exact Pk.here | apply Pk.there)) (fun Gf hlef hslf _ => ?_); refine J2 rfl (Z0 Gf br pb nb cb (p + 1) bs _ _ _ _ (hb.mono hlef) hnb (by omega) hslf (by decide)) (Pk.perm (by repeat (first | exact Pk.here | apply Pk.there))) rfl rfl (fun v Gk outs hlek hh => ?_); obtain ⟨rfl, rfl, hv⟩ := hh; replace hb := hb.mono hlef; obtain ⟨k, rfl, hk1, hk2⟩ : ∃ k, v = .int .i64 k ∧ 5 ≤ k ∧ k ≤ 13 := (by simp only [List.mem_cons, List.not_mem_nil, or_false] at hv; rcases hv with rfl | rfl | rfl | rfl | rfl | rfl | rfl | rfl | rfl | rfl | rfl <;> exact ⟨_, rfl, by decide, by decide⟩); obtain ⟨d1, rfl⟩ : ∃ d1, d = d1 + 1 := ⟨d - 1, by omega⟩; have hB : tB (d1 + 1) = 3 * tB d1 + 20 := rfl)
   refine B5 ?_
   refine sE (A7 rfl) rfl (fun b69 => ?_)
   refine B5 ?_
   refine sB (qE rfl rfl) rfl rfl (fun h77 => ?_) (fun h77 => ?_)
   ·refine A3 ?_
    (show J6 _ _ (.cond (.tmp 26) _ _) _ _; refine A0k (fun (x : ByteArray × ByteArray × Nat × IM) => ⟨[(7, .int .i64 k), (8, .pointer (some ⟨b69, 0, none⟩)), (6, .pointer (some ⟨b3, 0, none⟩)), (0, .pointer (some ⟨br, 0, none⟩)), (1, .string x.2.1), (2, .int .i64 ((d1 + 1 + 1 : Nat) : Int))], [.blk b69 [.int .i64 k, .string x.1, .int .i64 0, .int .i64 0, .slice none 0 0, .int .i64 0, .slice none 0 0, .int .i64 0, .slice none 0 0], .blk b3 [.int .i64 0, .string ⟨⟨[]⟩⟩, .int .i64 0, .int .i64 0, .slice none 0 0, .int .i64 0, .slice none 0 0, .int .i64 0, .slice none 0 0], rd br pb nb cb x.2.2.1], x.2.2.2⟩) (fun x => C2 Gk x.2.2.2 ∧ x.1.size ≤ 1 ∧ x.2.1.size ≤ s.size + 1 ∧ p + 2 ≤ x.2.2.1 ∧ x.2.2.1 ≤ p + 3) ?_ ?_)
    ·refine B4 ?_
     (refine I3 (D0 rfl rfl rfl (by omega) (by unfold maxLen; omega) rfl) rfl ?_; rintro _ ⟨b85, rfl⟩)
     (refine R9 (by repeat (first | exact Pk.here | apply Pk.there)) (fun Gf2 hlef2 hslf2 _ => ?_); refine J2 rfl (A6H Gf2 br pb nb cb (p + 1 + 1) bs _ _ _ _ (hb.mono hlef2) hnb (by omega) hslf2 (by decide)) (Pk.perm (by repeat (first | exact Pk.here | apply Pk.there))) rfl rfl (fun v Go outs hleo hh => ?_); obtain ⟨rfl, rfl, hv2⟩ := hh; obtain ⟨nmA, rfl, hnA⟩ : ∃ nm, v = .string nm ∧ nm.size ≤ 1 := (by simp only [List.mem_cons, List.not_mem_nil, or_false] at hv2; rcases hv2 with rfl | rfl | rfl | rfl <;> exact ⟨_, rfl, by decide⟩))
     refine D1 ?_
     (refine U6 rfl (B4d s nmA _ (by omega) (by omega)) rfl rfl (fun v Ga outs hlea hh => ?_); obtain ⟨rfl, rfl, sA, rfl, hsA⟩ := hh)
     refine A3 ?_
     refine P8 (nmA, sA, p + 1 + 1 + 1, Ga) (K2 (by repeat (first | exact D8.nil | refine D8.cons rfl ?_)) (by repeat (first | exact A0.refl | exact A0.nil | refine A0.cons (by repeat (first | exact Pk.here | apply Pk.there)) ?_ | apply A0.drop))) ?_
     (dsimp only; exact ⟨hlef2, hnA, by omega, by omega, by omega⟩)
    ·(rintro ⟨(nm : ByteArray), s', p1, G1⟩ ⟨hleA, hnm, hss, hpA, hpB⟩; simp only [] at hleA hnm hss hpA hpB ⊢; replace hb := hb.mono hleA; have hmark := hleA)
     refine A3 ?_
     (have hm' := hmark; refine A0k (fun (x : Bool) => ⟨(40, .bool x) :: [(7, .int .i64 k), (8, .pointer (some ⟨b69, 0, none⟩)), (6, .pointer (some ⟨b3, 0, none⟩)), (0, .pointer (some ⟨br, 0, none⟩)), (1, .string s'), (2, .int .i64 ((d1 + 1 + 1 : Nat) : Int))], [.blk b69 [.int .i64 k, .string nm, .int .i64 0, .int .i64 0, .slice none 0 0, .int .i64 0, .slice none 0 0, .int .i64 0, .slice none 0 0], .blk b3 [.int .i64 0, .string ⟨⟨[]⟩⟩, .int .i64 0, .int .i64 0, .slice none 0 0, .int .i64 0, .slice none 0 0, .int .i64 0, .slice none 0 0], rd br pb nb cb p1], G1⟩) (fun x => True) ?_ ?_)
     ·refine A3 ?_
      refine sP (X5 rfl rfl (by omega)) rfl rfl ?_
      refine B0 ?_
      refine P8 true (K2 (by repeat (first | exact D8.nil | refine D8.cons rfl ?_)) (by repeat (first | exact A0.refl | exact A0.nil | refine A0.cons (by repeat (first | exact Pk.here | apply Pk.there)) ?_ | apply A0.drop))) ?_
      trivial
     ·(rintro x _; clear hmark)
      (show J6 _ _ (.cond (.tmp 40) _ _) _ _; refine A0k (fun (x : Ty × Option Addr × Nat × Nat × IM) => ⟨[(7, .int .i64 k), (8, .pointer (some ⟨b69, 0, none⟩)), (6, .pointer (some ⟨b3, 0, none⟩)), (0, .pointer (some ⟨br, 0, none⟩)), (1, .string s'), (2, .int .i64 ((d1 + 1 + 1 : Nat) : Int))], [.blk b69 [.int .i64 k, .string nm, .int .i64 0, .int .i64 x.1.k, .slice x.2.1 x.1.ks.length x.2.2.1, .int .i64 0, .slice none 0 0, .int .i64 0, .slice none 0 0], .blk b3 [.int .i64 0, .string ⟨⟨[]⟩⟩, .int .i64 0, .int .i64 0, .slice none 0 0, .int .i64 0, .slice none 0 0, .int .i64 0, .slice none 0 0], rd br pb nb cb x.2.2.2.1], x.2.2.2.2⟩) (fun x => C2 G1 x.2.2.2.2 ∧ C3 x.2.2.2.2 x.1 [.int .i64 x.1.k, .slice x.2.1 x.1.ks.length x.2.2.1] ∧ K6 x.1 ≤ 14 ∧ p1 ≤ x.2.2.2.1 ∧ x.2.2.2.1 ≤ p1 + 15) (A3G rfl (fun hxt => ?_) (fun hxf => ?_)) ?_)
      ·refine B7 ?_
       (refine I3 (D0 rfl rfl rfl (by omega) (by unfold maxLen; omega) rfl) rfl ?_; rintro _ ⟨b119, rfl⟩)
       (refine R9 (by repeat (first | exact Pk.here | apply Pk.there)) (fun Gf hlef3 hslf _ => ?_); refine J2 rfl (Z0 Gf br pb nb cb p1 bs _ _ _ _ (hb.mono hlef3) hnb (by omega) hslf (by decide)) (Pk.perm (by repeat (first | exact Pk.here | apply Pk.there))) rfl rfl (fun v Gn outs hlen hh => ?_); obtain ⟨rfl, rfl, hv⟩ := hh; replace hb := hb.mono hlef3; obtain ⟨dd, rfl, hdd⟩ : ∃ d : Nat, v = .int .i64 ((d + 1 : Nat) : Int) ∧ d ≤ 2 := (by simp only [List.mem_cons, List.not_mem_nil, or_false] at hv; rcases hv with rfl | rfl | rfl | rfl <;> first | exact ⟨0, rfl, by decide⟩ | exact ⟨1, rfl, by decide⟩ | exact ⟨2, rfl, by decide⟩))
       (have hdB := A43 hdd; refine J2 rfl (A9C br pb nb cb bs hnb dd (p1 + 1) _ (by omega) hb (by omega)) (Pk.perm (by repeat (first | exact Pk.here | apply Pk.there))) rfl rfl (fun v G3 outs hle3 hh => ?_); obtain ⟨p3, hp31, hp32, rfl, t3, cells3, rfl, hr3, hs3⟩ := hh; obtain ⟨q3, c3, es3, rfl, _⟩ := hr3.open)
       refine B7 ?_
       refine P8 (t3, q3, c3, p3, G3) (K2 (by repeat (first | exact D8.nil | refine D8.cons rfl ?_)) (by repeat (first | exact A0.refl | exact A0.nil | refine A0.cons (by repeat (first | exact Pk.here | apply Pk.there)) ?_ | apply A0.drop))) ?_
       exact A9J
      ·refine tK ?_
       refine P8 (B3, none, 0, p1, G1) (K2 (by repeat (first | exact D8.nil | refine D8.cons rfl ?_)) (by repeat (first | exact A0.refl | exact A0.nil | refine A0.cons (by repeat (first | exact Pk.here | apply Pk.there)) ?_ | apply A0.drop))) ?_
       exact A9K
      ·(rintro ⟨(t' : Ty), q', c', p2, G2⟩ ⟨hleB, hrB, hsB, hpC, hpD⟩; simp only [] at hleB hrB hsB hpC hpD ⊢; replace hb := hb.mono hleB; have hop := A1r k; have hK := A4T k)
       refine A8 ?_
       refine C0 ?_
       (refine Q9 37 9 ?_; refine J0 (fun (x : Nat × Option Addr × Nat × List Tm × List (List Value) × Nat × IM) => ⟨[(9, .int .i64 x.1), (7, .int .i64 k), (8, .pointer (some ⟨b69, 0, none⟩)), (6, .pointer (some ⟨b3, 0, none⟩)), (0, .pointer (some ⟨br, 0, none⟩)), (1, .string s'), (2, .int .i64 ((d1 + 1 + 1 : Nat) : Int))], [.blk b69 [.int .i64 k, .string nm, .int .i64 0, .int .i64 t'.k, .slice q' t'.ks.length c', .int .i64 0, .slice none 0 0, .int .i64 0, .slice x.2.1 x.1 x.2.2.1], .slc x.2.1 x.2.2.1 37 9 x.1 x.2.2.2.2.1.flatten, rd br pb nb cb x.2.2.2.2.2.1, .blk b3 [.int .i64 0, .string ⟨⟨[]⟩⟩, .int .i64 0, .int .i64 0, .slice none 0 0, .int .i64 0, .slice none 0 0, .int .i64 0, .slice none 0 0]], x.2.2.2.2.2.2⟩) (fun x => ((x.1 : Int) ≤ E6 k ∨ x.1 = 0) ∧ C2 G2 x.2.2.2.2.2.2 ∧ x.2.2.2.1.length = x.1 ∧ E1 x.2.2.2.2.2.2 x.2.2.2.1 x.2.2.2.2.1 ∧ X6 x.2.2.2.1 ≤ ((x.1 * tB d1 : Nat) : Int) ∧ p2 ≤ x.2.2.2.2.2.1 ∧ x.2.2.2.2.2.1 ≤ p2 + x.1 * tB d1) (fun x => (E6 k).toNat - x.1) (0, none, 0, [], [], p2, G2) ?_ ?_ ?_)
       ·(simp only [H6]; exact D2)
       ·(exact ⟨.inr rfl, C2.refl _, rfl, by simp [E1], by simp [X6], by dsimp only; omega, by dsimp only; omega⟩)
       ·(rintro ⟨i, pn, cn, ts, es', p', Gi⟩ ⟨hi, hle, hlt, hst, hsum, hq1, hq2⟩; simp only [] at hi hle hlt hst hsum hq1 hq2 ⊢; have hid : i * tB d1 ≤ 3 * tB d1 := Nat.mul_le_mul_right _ (by omega))
        refine B0 ?_
        refine E8 rfl ((hK _)) rfl rfl ?_
        refine sB (I8 rfl rfl) rfl rfl (fun h148 => ?_) (fun h148 => ?_)
        ·refine A8 ?_
         refine C0 ?_
         (have hih := ih d1 (by omega) p' Gi s' (by omega) (by omega) (hb.mono hle) (by have := Nat.mul_le_mul_right (tB d1) (show i + 1 ≤ 3 by omega); rw [Nat.succ_mul] at this; omega); refine E2 E4 rfl ?_)
         refine J4 (i := 0) (l' := [tt,ff,ff,ff,ff,ff,ff,ff,ff,ff,ff]) rfl D6 (B9 rfl) rfl (by kernel_rfl) rfl rfl ?_
         refine aL 1 rfl (C8 rfl rfl) rfl ?_
         refine aP 2 rfl (qM rfl) rfl ?_
         refine aP 3 rfl (qM rfl) rfl ?_
         refine aP 4 rfl (qM rfl) rfl ?_
         refine aP 5 rfl (A4Q rfl rfl (by omega)) rfl ?_
         refine A4 6 ?_
         (refine Y9 (l' := [tt,tt,tt,tt,tt,tt,tt,ff,ff,ff,ff]) rfl rfl hih (Pk.perm (by repeat (first | exact Pk.here | apply Pk.there))) rfl rfl rfl (by repeat (first | exact B2.nil | apply B2.dep (by decide +kernel) | apply B2.blk (by decide +kernel) (by repeat (first | exact Pk.here | apply Pk.there)) (by repeat first | exact mH | apply mT))) (fun v G3 outs hle3 hh => ?_); obtain ⟨p3, hp31, hp32, rfl, t3, cells3, rfl, hr3, hs3⟩ := hh; obtain ⟨qt, dt, et, qf, df, ef, q3, d3, es3, rfl, _⟩ := hr3.open)
         refine A4 7 ?_
         (refine E5 rfl (D0 rfl rfl rfl (by omega) (by unfold maxLen; omega) rfl) rfl rfl ?_; rintro _ ⟨b166, rfl⟩)
         refine A4 8 ?_
         refine R0 rfl rfl rfl rfl rfl rfl (fun _ _ => by repeat (first | exact Sw.here | apply Sw.there)) (M1 (by repeat first | exact mH | apply mT)) rfl (by simp [Value.oneCell']) (by unfold maxLen; omega) (by omega) rfl rfl (by repeat (first | exact B2.nil | apply B2.dep (by decide +kernel) | apply B2.blk (by decide +kernel) (by repeat (first | exact Pk.here | apply Pk.there)) (by repeat first | exact mH | apply mT))) (fun pn' cn' => ?_)
         refine aP 9 rfl (B9 rfl) rfl ?_
         refine A4 10 ?_
         refine R5 rfl rfl rfl rfl rfl rfl rfl rfl (by kernel_rfl) (by repeat first | exact Sw.here | apply Sw.there) (by rfl) ?_
         refine B0 ?_
         refine sP (H5 rfl rfl (by omega) (by omega)) rfl rfl ?_
         refine A3 ?_
         refine I1 (i + 1, pn', cn', ts ++ [t3], es' ++ [[.int .i64 t3.k, .string t3.nm, .int .i64 t3.num, .int .i64 t3.ty.k, .slice qt t3.ty.ks.length dt, .int .i64 t3.fr.k, .slice qf t3.fr.ks.length df, .int .i64 t3.lb, .slice q3 t3.ks.length d3]], p3, G3) ?_ ?_ ?_
         ·(simp only [H6]; exact D2)
         ·(dsimp only; have e1 : (i + 1) * tB d1 = i * tB d1 + tB d1 := Nat.succ_mul _ _; have e2 := A6M ts t3; exact ⟨.inl (by omega), hle.trans hle3, by simp [hlt], E1.snoc (hst.mono hle3) hr3, by omega, by omega, by omega⟩)
         ·(show (E6 k).toNat - (i + 1) < (E6 k).toNat - i; omega)
        ·refine J9 ?_
         (refine F0 (by repeat (first | exact Pk.here | apply Pk.there)) (fun G5 hle5 hsl5 hno5 => ?_))
         refine tT ?_
         refine H9 (outs := [rd br pb nb cb p']) (rC rfl (A5 rfl rfl)) (by repeat (first | exact A0.nil | refine A0.cons Pk.here ?_ | refine A0.cons (Pk.there Pk.here) ?_ | refine A0.cons (Pk.there (Pk.there Pk.here)) ?_ | apply A0.drop)) ?_
         (refine ⟨p', by omega, by omega, rfl, .mk k nm 0 t' B3 0 ts, _, rfl, (hst.mono hle5).tm hlt hsl5 ⟨by omega, by omega⟩ ⟨by omega, by omega⟩ (hrB.mono (hle.trans hle5)), ?_⟩; rw [A0p, A6L]; omega)
   ·refine A3 ?_
    (show J6 _ _ (.cond (.tmp 26) _ _) _ _; refine A0k (fun (x : ByteArray × ByteArray × Nat × IM) => ⟨[(7, .int .i64 k), (8, .pointer (some ⟨b69, 0, none⟩)), (6, .pointer (some ⟨b3, 0, none⟩)), (0, .pointer (some ⟨br, 0, none⟩)), (1, .string x.2.1), (2, .int .i64 ((d1 + 1 + 1 : Nat) : Int))], [.blk b69 [.int .i64 k, .string x.1, .int .i64 0, .int .i64 0, .slice none 0 0, .int .i64 0, .slice none 0 0, .int .i64 0, .slice none 0 0], .blk b3 [.int .i64 0, .string ⟨⟨[]⟩⟩, .int .i64 0, .int .i64 0, .slice none 0 0, .int .i64 0, .slice none 0 0, .int .i64 0, .slice none 0 0], rd br pb nb cb x.2.2.1], x.2.2.2⟩) (fun x => C2 Gk x.2.2.2 ∧ x.1.size ≤ 1 ∧ x.2.1.size ≤ s.size + 1 ∧ p + 2 ≤ x.2.2.1 ∧ x.2.2.1 ≤ p + 3) ?_ ?_)
    ·refine A3 ?_
     refine P8 (⟨⟨[]⟩⟩, s, p + 1 + 1, Gk) (K2 (by repeat (first | exact D8.nil | refine D8.cons rfl ?_)) (by repeat (first | exact A0.refl | exact A0.nil | refine A0.cons (by repeat (first | exact Pk.here | apply Pk.there)) ?_ | apply A0.drop))) ?_
     (dsimp only; exact ⟨C2.refl _, by decide, by omega, by omega, by omega⟩)
    ·(rintro ⟨(nm : ByteArray), s', p1, G1⟩ ⟨hleA, hnm, hss, hpA, hpB⟩; simp only [] at hleA hnm hss hpA hpB ⊢; replace hb := hb.mono hleA; have hmark := hleA)
     refine A3 ?_
     (have hm' := hmark; refine A0k (fun (x : Bool) => ⟨(40, .bool x) :: [(7, .int .i64 k), (8, .pointer (some ⟨b69, 0, none⟩)), (6, .pointer (some ⟨b3, 0, none⟩)), (0, .pointer (some ⟨br, 0, none⟩)), (1, .string s'), (2, .int .i64 ((d1 + 1 + 1 : Nat) : Int))], [.blk b69 [.int .i64 k, .string nm, .int .i64 0, .int .i64 0, .slice none 0 0, .int .i64 0, .slice none 0 0, .int .i64 0, .slice none 0 0], .blk b3 [.int .i64 0, .string ⟨⟨[]⟩⟩, .int .i64 0, .int .i64 0, .slice none 0 0, .int .i64 0, .slice none 0 0, .int .i64 0, .slice none 0 0], rd br pb nb cb p1], G1⟩) (fun x => True) ?_ ?_)
     ·refine A3 ?_
      refine sP (J8 rfl rfl (by omega)) rfl rfl ?_
      refine A3 ?_
      refine sB (qE rfl rfl) rfl rfl (fun h218 => ?_) (fun h218 => ?_)
      ·refine A3 ?_
       refine P8 true (K2 (by repeat (first | exact D8.nil | refine D8.cons rfl ?_)) (by repeat (first | exact A0.refl | exact A0.nil | refine A0.cons (by repeat (first | exact Pk.here | apply Pk.there)) ?_ | apply A0.drop))) ?_
       trivial
      ·refine A3 ?_
       refine P8 false (K2 (by repeat (first | exact D8.nil | refine D8.cons rfl ?_)) (by repeat (first | exact A0.refl | exact A0.nil | refine A0.cons (by repeat (first | exact Pk.here | apply Pk.there)) ?_ | apply A0.drop))) ?_
       trivial
     ·(rintro x _; clear hmark)
      (show J6 _ _ (.cond (.tmp 40) _ _) _ _; refine A0k (fun (x : Ty × Option Addr × Nat × Nat × IM) => ⟨[(7, .int .i64 k), (8, .pointer (some ⟨b69, 0, none⟩)), (6, .pointer (some ⟨b3, 0, none⟩)), (0, .pointer (some ⟨br, 0, none⟩)), (1, .string s'), (2, .int .i64 ((d1 + 1 + 1 : Nat) : Int))], [.blk b69 [.int .i64 k, .string nm, .int .i64 0, .int .i64 x.1.k, .slice x.2.1 x.1.ks.length x.2.2.1, .int .i64 0, .slice none 0 0, .int .i64 0, .slice none 0 0], .blk b3 [.int .i64 0, .string ⟨⟨[]⟩⟩, .int .i64 0, .int .i64 0, .slice none 0 0, .int .i64 0, .slice none 0 0, .int .i64 0, .slice none 0 0], rd br pb nb cb x.2.2.2.1], x.2.2.2.2⟩) (fun x => C2 G1 x.2.2.2.2 ∧ C3 x.2.2.2.2 x.1 [.int .i64 x.1.k, .slice x.2.1 x.1.ks.length x.2.2.1] ∧ K6 x.1 ≤ 14 ∧ p1 ≤ x.2.2.2.1 ∧ x.2.2.2.1 ≤ p1 + 15) (A3G rfl (fun hxt => ?_) (fun hxf => ?_)) ?_)
      ·refine B7 ?_
       (refine I3 (D0 rfl rfl rfl (by omega) (by unfold maxLen; omega) rfl) rfl ?_; rintro _ ⟨b232, rfl⟩)
       (refine R9 (by repeat (first | exact Pk.here | apply Pk.there)) (fun Gf hlef3 hslf _ => ?_); refine J2 rfl (Z0 Gf br pb nb cb p1 bs _ _ _ _ (hb.mono hlef3) hnb (by omega) hslf (by decide)) (Pk.perm (by repeat (first | exact Pk.here | apply Pk.there))) rfl rfl (fun v Gn outs hlen hh => ?_); obtain ⟨rfl, rfl, hv⟩ := hh; replace hb := hb.mono hlef3; obtain ⟨dd, rfl, hdd⟩ : ∃ d : Nat, v = .int .i64 ((d + 1 : Nat) : Int) ∧ d ≤ 2 := (by simp only [List.mem_cons, List.not_mem_nil, or_false] at hv; rcases hv with rfl | rfl | rfl | rfl <;> first | exact ⟨0, rfl, by decide⟩ | exact ⟨1, rfl, by decide⟩ | exact ⟨2, rfl, by decide⟩))
       (have hdB := A43 hdd; refine J2 rfl (A9C br pb nb cb bs hnb dd (p1 + 1) _ (by omega) hb (by omega)) (Pk.perm (by repeat (first | exact Pk.here | apply Pk.there))) rfl rfl (fun v G3 outs hle3 hh => ?_); obtain ⟨p3, hp31, hp32, rfl, t3, cells3, rfl, hr3, hs3⟩ := hh; obtain ⟨q3, c3, es3, rfl, _⟩ := hr3.open)
       refine B7 ?_
       refine P8 (t3, q3, c3, p3, G3) (K2 (by repeat (first | exact D8.nil | refine D8.cons rfl ?_)) (by repeat (first | exact A0.refl | exact A0.nil | refine A0.cons (by repeat (first | exact Pk.here | apply Pk.there)) ?_ | apply A0.drop))) ?_
       exact A9J
      ·refine tK ?_
       refine P8 (B3, none, 0, p1, G1) (K2 (by repeat (first | exact D8.nil | refine D8.cons rfl ?_)) (by repeat (first | exact A0.refl | exact A0.nil | refine A0.cons (by repeat (first | exact Pk.here | apply Pk.there)) ?_ | apply A0.drop))) ?_
       exact A9K
      ·(rintro ⟨(t' : Ty), q', c', p2, G2⟩ ⟨hleB, hrB, hsB, hpC, hpD⟩; simp only [] at hleB hrB hsB hpC hpD ⊢; replace hb := hb.mono hleB; have hop := A1r k; have hK := A4T k)
       refine A8 ?_
       refine C0 ?_
       (refine Q9 37 9 ?_; refine J0 (fun (x : Nat × Option Addr × Nat × List Tm × List (List Value) × Nat × IM) => ⟨[(9, .int .i64 x.1), (7, .int .i64 k), (8, .pointer (some ⟨b69, 0, none⟩)), (6, .pointer (some ⟨b3, 0, none⟩)), (0, .pointer (some ⟨br, 0, none⟩)), (1, .string s'), (2, .int .i64 ((d1 + 1 + 1 : Nat) : Int))], [.blk b69 [.int .i64 k, .string nm, .int .i64 0, .int .i64 t'.k, .slice q' t'.ks.length c', .int .i64 0, .slice none 0 0, .int .i64 0, .slice x.2.1 x.1 x.2.2.1], .slc x.2.1 x.2.2.1 37 9 x.1 x.2.2.2.2.1.flatten, rd br pb nb cb x.2.2.2.2.2.1, .blk b3 [.int .i64 0, .string ⟨⟨[]⟩⟩, .int .i64 0, .int .i64 0, .slice none 0 0, .int .i64 0, .slice none 0 0, .int .i64 0, .slice none 0 0]], x.2.2.2.2.2.2⟩) (fun x => ((x.1 : Int) ≤ E6 k ∨ x.1 = 0) ∧ C2 G2 x.2.2.2.2.2.2 ∧ x.2.2.2.1.length = x.1 ∧ E1 x.2.2.2.2.2.2 x.2.2.2.1 x.2.2.2.2.1 ∧ X6 x.2.2.2.1 ≤ ((x.1 * tB d1 : Nat) : Int) ∧ p2 ≤ x.2.2.2.2.2.1 ∧ x.2.2.2.2.2.1 ≤ p2 + x.1 * tB d1) (fun x => (E6 k).toNat - x.1) (0, none, 0, [], [], p2, G2) ?_ ?_ ?_)
       ·(simp only [H6]; exact D2)
       ·(exact ⟨.inr rfl, C2.refl _, rfl, by simp [E1], by simp [X6], by dsimp only; omega, by dsimp only; omega⟩)
       ·(rintro ⟨i, pn, cn, ts, es', p', Gi⟩ ⟨hi, hle, hlt, hst, hsum, hq1, hq2⟩; simp only [] at hi hle hlt hst hsum hq1 hq2 ⊢; have hid : i * tB d1 ≤ 3 * tB d1 := Nat.mul_le_mul_right _ (by omega))
        refine B0 ?_
        refine E8 rfl ((hK _)) rfl rfl ?_
        refine sB (I8 rfl rfl) rfl rfl (fun h261 => ?_) (fun h261 => ?_)
        ·refine A8 ?_
         refine C0 ?_
         (have hih := ih d1 (by omega) p' Gi s' (by omega) (by omega) (hb.mono hle) (by have := Nat.mul_le_mul_right (tB d1) (show i + 1 ≤ 3 by omega); rw [Nat.succ_mul] at this; omega); refine E2 E4 rfl ?_)
         refine J4 (i := 0) (l' := [tt,ff,ff,ff,ff,ff,ff,ff,ff,ff,ff]) rfl D6 (B9 rfl) rfl (by kernel_rfl) rfl rfl ?_
         refine aL 1 rfl (C8 rfl rfl) rfl ?_
         refine aP 2 rfl (qM rfl) rfl ?_
         refine aP 3 rfl (qM rfl) rfl ?_
         refine aP 4 rfl (qM rfl) rfl ?_
         refine aP 5 rfl (A4Q rfl rfl (by omega)) rfl ?_
         refine A4 6 ?_
         (refine Y9 (l' := [tt,tt,tt,tt,tt,tt,tt,ff,ff,ff,ff]) rfl rfl hih (Pk.perm (by repeat (first | exact Pk.here | apply Pk.there))) rfl rfl rfl (by repeat (first | exact B2.nil | apply B2.dep (by decide +kernel) | apply B2.blk (by decide +kernel) (by repeat (first | exact Pk.here | apply Pk.there)) (by repeat first | exact mH | apply mT))) (fun v G3 outs hle3 hh => ?_); obtain ⟨p3, hp31, hp32, rfl, t3, cells3, rfl, hr3, hs3⟩ := hh; obtain ⟨qt, dt, et, qf, df, ef, q3, d3, es3, rfl, _⟩ := hr3.open)
         refine A4 7 ?_
         (refine E5 rfl (D0 rfl rfl rfl (by omega) (by unfold maxLen; omega) rfl) rfl rfl ?_; rintro _ ⟨b279, rfl⟩)
         refine A4 8 ?_
         refine R0 rfl rfl rfl rfl rfl rfl (fun _ _ => by repeat (first | exact Sw.here | apply Sw.there)) (M1 (by repeat first | exact mH | apply mT)) rfl (by simp [Value.oneCell']) (by unfold maxLen; omega) (by omega) rfl rfl (by repeat (first | exact B2.nil | apply B2.dep (by decide +kernel) | apply B2.blk (by decide +kernel) (by repeat (first | exact Pk.here | apply Pk.there)) (by repeat first | exact mH | apply mT))) (fun pn' cn' => ?_)
         refine aP 9 rfl (B9 rfl) rfl ?_
         refine A4 10 ?_
         refine R5 rfl rfl rfl rfl rfl rfl rfl rfl (by kernel_rfl) (by repeat first | exact Sw.here | apply Sw.there) (by rfl) ?_
         refine B0 ?_
         refine sP (H5 rfl rfl (by omega) (by omega)) rfl rfl ?_
         refine A3 ?_
         refine I1 (i + 1, pn', cn', ts ++ [t3], es' ++ [[.int .i64 t3.k, .string t3.nm, .int .i64 t3.num, .int .i64 t3.ty.k, .slice qt t3.ty.ks.length dt, .int .i64 t3.fr.k, .slice qf t3.fr.ks.length df, .int .i64 t3.lb, .slice q3 t3.ks.length d3]], p3, G3) ?_ ?_ ?_
         ·(simp only [H6]; exact D2)
         ·(dsimp only; have e1 : (i + 1) * tB d1 = i * tB d1 + tB d1 := Nat.succ_mul _ _; have e2 := A6M ts t3; exact ⟨.inl (by omega), hle.trans hle3, by simp [hlt], E1.snoc (hst.mono hle3) hr3, by omega, by omega, by omega⟩)
         ·(show (E6 k).toNat - (i + 1) < (E6 k).toNat - i; omega)
        ·refine J9 ?_
         (refine F0 (by repeat (first | exact Pk.here | apply Pk.there)) (fun G5 hle5 hsl5 hno5 => ?_))
         refine tT ?_
         refine H9 (outs := [rd br pb nb cb p']) (rC rfl (A5 rfl rfl)) (by repeat (first | exact A0.nil | refine A0.cons Pk.here ?_ | refine A0.cons (Pk.there Pk.here) ?_ | refine A0.cons (Pk.there (Pk.there Pk.here)) ?_ | apply A0.drop)) ?_
         (refine ⟨p', by omega, by omega, rfl, .mk k nm 0 t' B3 0 ts, _, rfl, (hst.mono hle5).tm hlt hsl5 ⟨by omega, by omega⟩ ⟨by omega, by omega⟩ (hrB.mono (hle.trans hle5)), ?_⟩; rw [A0p, A6L]; omega)
theorem Sl.pre {G : IM} {p : Option Addr} {n c m : Nat} {cs : List Value} (h : Sl G p n c 1 cs) (hm : m ≤ n) : Sl G p m c 1 (cs.take m) := by
 obtain ⟨h1, h2, h3, h4⟩ := h
 refine ⟨by rw [List.length_take]; omega, by omega, h3, ?_⟩
 rcases h4 with h4 | ⟨b, o, full, e1, e2, e3⟩
 ·exact .inl (by omega)
 ·refine .inr ⟨b, o, full, e1, e2, fun j v hj => e3 j v ?_⟩
  rw [List.getElem?_take] at hj
  split at hj
  ·exact hj
  ·cases hj
theorem B4f (bs : List UInt8) (m : Nat) : M7 (bs.take m) = (M7 bs).take m := by unfold M7; rw [List.map_take]
theorem B4g {d : Nat} (h : d ≤ 4) : tB d ≤ 1043 := by
 have : d = 0 ∨ d = 1 ∨ d = 2 ∨ d = 3 ∨ d = 4 := by omega
 rcases this with rfl | rfl | rfl | rfl | rfl <;> decide
def A32 (G : IM) : IM → Value → List A6 → Prop := fun G' v outs => G' = G ∧ ∃ br pb nb cb bs, v = .pointer (some ⟨br, 0, none⟩) ∧ outs = [rd br pb nb cb 0] ∧ nb ≤ 2000 ∧ Sl G pb nb cb 1 (M7 bs)
theorem A32.mk {G : IM} {b : Nat} {pb : Option Addr} {nb cb : Nat} {bs : List UInt8} (h : nb ≤ 2000) (hb : Sl G pb nb cb 1 (M7 bs)) : A32 G G (.pointer (some ⟨b, 0, none⟩)) [.blk b [.slice pb nb cb, .int .i64 0]] := ⟨rfl, _, _, _, _, bs, rfl, rfl, h, hb⟩
theorem B4h (G : IM) (q : Option Addr) (n c : Nat) (bs : List UInt8) (hb : Sl G q n c 1 (M7 bs)) :
  Fn Tryz.prog 69 [.slice q n c] [] G (A32 G) := by
 have hn := hb.le
 have hnc := hb.2.1
 have hpre := fun h : 2000 ≤ n => hb.pre h
 refine C1 Tryz.func69 rfl Tryz.ntmps69 Tryz.results69 rfl ?_
 intro w0
 refine J3 ?_
 refine sB (W3 rfl rfl) rfl rfl (fun h11 => ?_) (fun h11 => ?_)
 refine B0 ?_
 refine sP (A8T (l := 2000) rfl rfl rfl (by omega)) rfl rfl ?_
 refine B5 ?_
 refine sE (C7 rfl rfl) rfl (fun b25 => ?_)
 refine B4 ?_
 refine H9 (rT rfl) A0.refl ?_
 exact A32.mk (Nat.le_refl _) (by rw [B4f]; exact hpre (by omega))
 refine E0 ?_
 refine sE (C7 rfl rfl) rfl (fun b41 => ?_)
 refine B4 ?_
 refine H9 (rT rfl) A0.refl ?_
 exact A32.mk (by omega) hb
theorem B4i (br : Nat) (pb : Option Addr) (nb cb : Nat) (bs : List UInt8) (hnb : nb ≤ 2000) (p : Nat) (G : IM) (hb : Sl G pb nb cb 1 (M7 bs)) (hp : p + 1100 < 1099511627776) :
  Fn Tryz.prog 126 [.pointer (some ⟨br, 0, none⟩)] [rd br pb nb cb p] G
   (A0h br pb nb cb p 1100 (fun G' v => ∃ t cells, v = .agg ⟨cells⟩ ∧ B1 G' t cells ∧ A0p t ≤ 1043)) := by
 refine C1 Tryz.func126 rfl Tryz.ntmps126 Tryz.results126 rfl ?_
 intro w0
 refine A3 ?_
 refine sE (A7 rfl) rfl (fun b3 => ?_)
 refine A8 ?_
 (refine I3 (D0 rfl rfl rfl (by omega) (by unfold maxLen; omega) rfl) rfl ?_; rintro _ ⟨b10, rfl⟩)
 (refine R9 (by repeat (first | exact Pk.here | apply Pk.there)) (fun Gf hlef hslf _ => ?_); refine J2 rfl (Z0 Gf br pb nb cb p bs _ _ _ _ (hb.mono hlef) hnb (by omega) hslf (by decide)) (Pk.perm (by repeat (first | exact Pk.here | apply Pk.there))) rfl rfl (fun v Gn outs hlen hh => ?_); obtain ⟨rfl, rfl, hv⟩ := hh; replace hb := hb.mono hlef; obtain ⟨dd, rfl, hdd⟩ : ∃ d : Nat, v = .int .i64 ((d + 1 : Nat) : Int) ∧ d ≤ 4 := (by simp only [List.mem_cons, List.not_mem_nil, or_false] at hv; rcases hv with rfl | rfl | rfl | rfl | rfl <;> first | exact ⟨3, rfl, by decide⟩ | exact ⟨2, rfl, by decide⟩ | exact ⟨4, rfl, by decide⟩ | exact ⟨1, rfl, by decide⟩); have htB := B4g hdd)
 (refine J2 rfl (B4e br pb nb cb bs hnb dd (p + 1) Gn ⟨⟨[]⟩⟩ (by omega) (by have hz : (⟨⟨[]⟩⟩ : ByteArray).size ≤ 2 := (by decide); omega) hb (by omega)) (Pk.perm (by repeat (first | exact Pk.here | apply Pk.there))) rfl rfl (fun v G3 outs hle3 hh => ?_); obtain ⟨p3, hp31, hp32, rfl, t3, cells3, rfl, hr3, hs3⟩ := hh; have hl3 := hr3.len; have ho3 := hr3.one; have hc3 := A6t t3; have hv3 := A4Z t3 G3 cells3 (by omega) hr3)
 refine sE (A7 rfl) rfl (fun b13 => ?_)
 refine sS rfl rfl rfl hl3 ho3 rfl ?_ (hu := by exact D4 hl3.symm)
 refine B0 ?_
 refine sL (A2 rfl rfl (A9 (by repeat first | exact mH | apply mT)) hl3) rfl rfl ?_
 refine F4 rfl (hv3) rfl rfl (fun h21 => ?_) (fun h21 => ?_)
 refine B0 ?_
 refine sL (A2 rfl rfl (A9 (by repeat first | exact mH | apply mT)) hl3) rfl rfl ?_
 refine sS rfl rfl rfl hl3 ho3 rfl ?_ (hu := by exact D4 hl3.symm)
 refine B4 ?_
 refine H9 (outs := [rd br pb nb cb p3]) (rC rfl (A2 rfl rfl (A9 (by repeat first | exact mH | apply mT)) hl3)) (by repeat (first | exact A0.nil | refine A0.cons Pk.here ?_ | refine A0.cons (Pk.there Pk.here) ?_ | refine A0.cons (Pk.there (Pk.there Pk.here)) ?_ | apply A0.drop)) ?_
 (exact ⟨p3, by omega, by omega, rfl, t3, cells3, rfl, hr3, by omega⟩)
 refine B5 ?_
 refine E8 rfl ((A17 _ _)) rfl rfl ?_
 refine B4 ?_
 refine H9 (outs := [rd br pb nb cb p3]) (rC rfl (A5 rfl rfl)) (by repeat (first | exact A0.nil | refine A0.cons Pk.here ?_ | refine A0.cons (Pk.there Pk.here) ?_ | refine A0.cons (Pk.there (Pk.there Pk.here)) ?_ | apply A0.drop)) ?_
 (exact ⟨p3, by omega, by omega, rfl, _, _, rfl, A1S ⟨by omega, by omega⟩ ⟨by omega, by omega⟩, by rw [A16]; decide⟩)
theorem A0D (G : IM) : Fn Tryz.prog 167 [] [] G (I5 (.agg ⟨[.int .i64 2, .slice none 0 0]⟩) G) := by
 refine C1 Tryz.func167 rfl Tryz.ntmps167 Tryz.results167 rfl ?_
 intro w0
 refine A3 ?_
 refine sE (A7 rfl) rfl (fun b3 => ?_)
 refine E0 ?_
 refine M3 (rC rfl (A5 rfl rfl)) ?_
 exact ⟨rfl, rfl, rfl⟩
theorem A3h (G : IM) : Fn Tryz.prog 165 [] [] G (I5 (.agg ⟨[.int .i64 3, .slice none 0 0]⟩) G) := by
 refine C1 Tryz.func165 rfl Tryz.ntmps165 Tryz.results165 rfl ?_
 intro w0
 refine A3 ?_
 refine sE (A7 rfl) rfl (fun b3 => ?_)
 refine E0 ?_
 refine M3 (rC rfl (A5 rfl rfl)) ?_
 exact ⟨rfl, rfl, rfl⟩
theorem A0E (G : IM) (k : Int) (p : Option Addr) (n c : Nat) : Fn Tryz.prog 164 [.int .i64 k, .slice p n c] [] G (I5 (.agg ⟨[.int .i64 k, .string ⟨⟨[]⟩⟩, .int .i64 0, .int .i64 0, .slice none 0 0, .int .i64 0, .slice none 0 0, .int .i64 0, .slice p n c]⟩) G) := by
 refine C1 Tryz.func164 rfl Tryz.ntmps164 Tryz.results164 rfl ?_
 intro w0
 refine A3 ?_
 refine sE (A7 rfl) rfl (fun b3 => ?_)
 refine J1 ?_
 refine M3 (rC rfl (A5 rfl rfl)) ?_
 exact ⟨rfl, rfl, rfl⟩
theorem O1 (G : IM) {k : Int} (hk : F8 k) : C3 G (.mk k []) [.int .i64 k, .slice none 0 0] := by
 simp only [C3]
 exact ⟨none, 0, [], rfl, hk, D7.of (Sl.nil _ _) rfl (by simp) (by simp), by simp [C9]⟩
theorem A9L (k : Int) : K6 (.mk k []) = 0 := rfl
def TyB (B : Int) (G : IM) : IM → Value → List A6 → Prop := K1 fun G' v => ∃ t cells b, v = .tuple ⟨[.agg ⟨cells⟩, .bool b]⟩ ∧ C3 G' t cells ∧ F9 t ∧ K6 t ≤ B
theorem A9M {k : Int} {a b : Ty} (hk : k = 4 ∨ k = 5) (ha : F9 a) (hb : F9 b) : F9 (.mk k [a, b]) := by
 rw [F9]
 exact ⟨fun _ => rfl, fun h4 h5 => by omega, by simp [A0U, ha, hb]⟩
theorem W5 {k : Int} (h4 : k ≠ 4) (h5 : k ≠ 5) : F9 (.mk k []) := (A3b 0 h4 h5).ar
theorem F9.kid {k : Int} {ks : List Ty} (h : F9 (.mk k ks)) : ∀ t ∈ ks, F9 t := by
 rw [F9] at h; exact A1N.1 h.2.2
theorem F9.two {k : Int} {ks : List Ty} (h : F9 (.mk k ks)) : ks.length ≤ 2 := by
 rw [F9] at h
 have h1 := h.1
 have h2 := h.2.1
 omega
theorem A9N : ∀ {ks : List Ty} {t : Ty}, t ∈ ks → K6 t ≤ P0 ks
 | [], t, h => by simp at h
 | t' :: ts, t, h => by
  rw [P0]
  have := A1b t'
  have := A13 ts
  rcases List.mem_cons.1 h with rfl | h
  ·omega
  ·have := A9N h; omega
theorem B4j {k : Int} {ks : List Ty} {t : Ty} (h : t ∈ ks) : K6 t ≤ K6 (.mk k ks) := by
 have := A9N h
 rw [K6]; omega
def B8p (B : Int) (G : IM) : IM → Value → List A6 → Prop := K1 fun G' v => ∃ a ca b cb x, v = .tuple ⟨[.agg ⟨ca⟩, .agg ⟨cb⟩, .bool x]⟩ ∧ C3 G' a ca ∧ F9 a ∧ K6 a ≤ B ∧ C3 G' b cb ∧ F9 b ∧ K6 b ≤ B
def TyP (B : Int) (Q : Ty → Prop) (G : IM) : IM → Value → List A6 → Prop := K1 fun G' v => ∃ t cells, v = .agg ⟨cells⟩ ∧ C3 G' t cells ∧ F9 t ∧ K6 t ≤ B ∧ Q t
theorem A9O {k : Int} {ks us : List Ty} (h : F9 (.mk k ks)) (hl : us.length = ks.length) (hu : ∀ u ∈ us, F9 u) : F9 (.mk k us) := by
 rw [F9] at h ⊢
 exact ⟨fun hk => by rw [hl]; exact h.1 hk, fun a b => by rw [hl]; exact h.2.1 a b, A1N.2 hu⟩
theorem A3i {P : Ty → Prop} {us : List Ty} {u : Ty} (h : ∀ x ∈ us, P x) (hu : P u) : ∀ x ∈ us ++ [u], P x := by
 simp only [List.forall_mem_append, List.forall_mem_singleton]; exact ⟨h, hu⟩
theorem A1T : ∀ (t t' : Ty) (G : IM) (cells cells' : List Value), F9 t → F9 t' → C3 G t cells → C3 G t' cells' →
  Fn Tryz.prog 163 [.agg ⟨cells⟩, .agg ⟨cells'⟩] [] G (I5 (.bool (K4 t t')) G) := by
 refine Ty.ind fun k ks ih t' G cells cells' ha ha' hr hr' => ?_
 obtain ⟨k', ks'⟩ := t'
 obtain ⟨p, c, es, rfl, hk, hsl, hkl⟩ := hr.open
 obtain ⟨p', c', es', rfl, hk', hsl', hkl'⟩ := hr'.open
 simp only [Ty.k, Ty.ks] at hk hsl hkl hk' hsl' hkl' ⊢
 have hn := hsl.le
 have hn' := hsl'.le
 have hv2 := ha.kid
 have hv2' := ha'.kid
 rw [F9] at ha ha'
 have hle : k = k' → ks.length = ks'.length := by
  rintro rfl
  have h1 := ha.1
  have h2 := ha.2.1
  have h3 := ha'.1
  have h4 := ha'.2.1
  omega
 refine C1 Tryz.func163 rfl Tryz.ntmps163 Tryz.results163 rfl ?_
 intro w0
 refine A3 ?_
 refine sE (C7 rfl rfl) rfl (fun b3 => ?_)
 refine sE (C7 rfl rfl) rfl (fun b4 => ?_)
 refine D1 ?_
 refine sB (qE rfl rfl) rfl rfl (fun h13 => ?_) (fun h13 => ?_)
 refine K0 ?_
 exact A4X
 refine B7 ?_
 refine sB (qE rfl rfl) rfl rfl (fun h34 => ?_) (fun h34 => ?_)
 refine K5 ?_
 exact A4X
 refine J7 ?_
 refine sB (N5 rfl rfl) rfl rfl (fun h61 => ?_) (fun h61 => ?_)
 refine J1 ?_
 (rw [A9f (by omega) (by omega) (by omega)]; exact ⟨rfl, rfl, rfl⟩)
 refine J1 ?_
 refine C0 ?_
 (have hll : ks.length = ks'.length := hle (by omega); refine J0 (fun (i : Nat) => ⟨[(5, .int .i64 i), (3, .pointer (some ⟨b4, 0, none⟩)), (2, .pointer (some ⟨b3, 0, none⟩))], [.blk b3 [.int .i64 k, .slice p ks.length c], .blk b4 [.int .i64 k', .slice p' ks'.length c']], G⟩) (fun i => i ≤ ks.length ∧ ∀ j (h : j < ks.length) (h' : j < ks'.length), j < i → K4 ks[j] ks'[j] = true) (fun i => ks.length - i) 0 ?_ ?_ ?_)
 exact D2
 exact ⟨by omega, by omega⟩
 (rintro i ⟨hi, hf⟩)
 refine B5 ?_
 refine sB (I8 rfl rfl) rfl rfl (fun h97 => ?_) (fun h97 => ?_)
 refine A8 ?_
 refine C0 ?_
 refine tS ?_
 (obtain ⟨b, o, p2, c2, rfl, hat, hre, hgb⟩ := hsl.kidTy hkl (i := i) (by omega) (by omega); obtain ⟨b', o', p2', c2', rfl, hat', hre', hgb'⟩ := hsl'.kidTy hkl' (i := i) (by omega) (by omega); refine E2 E4 rfl ?_)
 refine J4 (i := 0) (l' := [tt,ff,ff,ff,ff,ff,ff,ff,ff,ff,ff,ff]) rfl D6 (B9 rfl) rfl (by kernel_rfl) rfl rfl ?_
 refine aL 1 rfl (C8 rfl rfl) rfl ?_
 refine aP 2 rfl (qM rfl) rfl ?_
 refine aP 3 rfl (B6 rfl rfl rfl (by omega)) rfl ?_
 refine aL 4 rfl (A2 rfl rfl (hat _) rfl) rfl ?_
 refine aP 5 rfl (B9 rfl) rfl ?_
 refine aL 6 rfl (C8 rfl rfl) rfl ?_
 refine aP 7 rfl (qM rfl) rfl ?_
 refine aP 8 rfl (B6 rfl rfl rfl (by omega)) rfl ?_
 refine aL 9 rfl (A2 rfl rfl (hat' _) rfl) rfl ?_
 refine A4 10 ?_
 refine T8 rfl rfl (ih ks[i] (List.getElem_mem (by omega)) ks'[i] G _ _ (hv2 _ (List.getElem_mem (by omega))) (hv2' _ (List.getElem_mem (by omega))) hre hre') rfl rfl rfl (fun h118 => ?_) (fun h118 => ?_)
 refine aP 11 rfl (pNt rfl) rfl ?_
 refine D1 ?_
 refine sP (H5 rfl rfl (by omega) (by omega)) rfl rfl ?_
 refine A3 ?_
 refine I1 (i + 1) ?_ ?_ ?_
 exact D2
 exact A9h
 omega
 refine aP 11 rfl (pNf rfl) rfl ?_
 refine I7 ?_
 exact A9i
 refine I7 ?_
 exact A9j
theorem A6N (br : Nat) (pb : Option Addr) (nb cb : Nat) (bs : List UInt8) (hnb : nb ≤ 2000) : ∀ (t : Ty) (p : Nat) (G : IM) (cells : List Value), F9 t → C3 G t cells → Sl G pb nb cb 1 (M7 bs) → p + (K6 t).toNat + 1 < 1099511627776 →
  Fn Tryz.prog 127 [.pointer (some ⟨br, 0, none⟩), .agg ⟨cells⟩] [rd br pb nb cb p] G
   (A0h br pb nb cb p ((K6 t).toNat + 1) (fun G' v => ∃ u cells, v = .agg ⟨cells⟩ ∧ C3 G' u cells ∧ F9 u ∧ K6 u ≤ K6 t ∧ ∀ n, Q6 n t → Q6 n u)) := by
 refine Ty.ind fun k ks ih p G cells ha hr hb hp => ?_
 have hkid := ha.kid
 have hnn := A13 ks
 have hz : K6 (.mk k ks) = ks.length + P0 ks := by rw [K6]
 rw [hz] at hp ⊢
 obtain ⟨q, c, es, rfl, hk, hsl, hkl⟩ := hr.open
 simp only [Ty.k, Ty.ks] at hk hsl hkl ⊢
 have hn := hsl.le
 have hl2 := ha.two
 refine C1 Tryz.func127 rfl Tryz.ntmps127 Tryz.results127 rfl ?_
 intro w0
 refine A3 ?_
 refine sE (C7 rfl rfl) rfl (fun b3 => ?_)
 refine sE (A7 rfl) rfl (fun b4 => ?_)
 refine A8 ?_
 (refine J2 rfl (Y6 _ br pb nb cb p bs _ hb hnb (by omega)) (Pk.perm (by repeat (first | exact Pk.here | apply Pk.there))) rfl rfl (fun v11 G11 outs11 hle11 hh => ?_); obtain ⟨rfl, rfl, j11, rfl, hj11, hk11⟩ := hh; have hm := hle11)
 replace hb := hb.mono hle11
 replace hr := hr.mono hle11
 replace hsl := hsl.mono hle11
 replace hkl := hkl.mono hle11
 refine sB (qE rfl rfl) rfl rfl (fun h12 => ?_) (fun h12 => ?_)
 refine B0 ?_
 refine E8 rfl ((A1q _)) rfl rfl ?_
 refine B0 ?_
 refine H9 (outs := [rd br pb nb cb (p + 1)]) (rC rfl (A5 rfl rfl)) (by repeat (first | exact A0.nil | refine A0.cons Pk.here ?_ | refine A0.cons (Pk.there Pk.here) ?_ | refine A0.cons (Pk.there (Pk.there Pk.here)) ?_ | apply A0.drop)) ?_
 (exact ⟨p + 1, by omega, by omega, rfl, O8, _, rfl, A0O _, A3X, by rw [A6I]; omega, fun n _ => A9c n⟩)
 refine J3 ?_
 refine sE (A7 rfl) rfl (fun b36 => ?_)
 refine E0 ?_
 refine C0 ?_
 (refine Q9 34 2 ?_; refine J0 (fun (x : Nat × Option Addr × Nat × List Ty × List (List Value) × Nat × IM) => ⟨[(6, .int .i64 x.1), (5, .pointer (some ⟨b36, 0, none⟩)), (4, .pointer (some ⟨b4, 0, none⟩)), (0, .pointer (some ⟨br, 0, none⟩)), (3, .pointer (some ⟨b3, 0, none⟩))], [.blk b36 [.int .i64 k, .slice x.2.1 x.1 x.2.2.1], .slc x.2.1 x.2.2.1 34 2 x.1 x.2.2.2.2.1.flatten, rd br pb nb cb x.2.2.2.2.2.1, .blk b4 [.int .i64 0, .slice none 0 0], .blk b3 [.int .i64 k, .slice q ks.length c]], x.2.2.2.2.2.2⟩) (fun x => x.1 ≤ ks.length ∧ C2 G11 x.2.2.2.2.2.2 ∧ x.2.2.2.1.length = x.1 ∧ C9 x.2.2.2.2.2.2 x.2.2.2.1 x.2.2.2.2.1 ∧ (∀ u ∈ x.2.2.2.1, F9 u) ∧ (∀ n, Q6 n (.mk k ks) → ∀ u ∈ x.2.2.2.1, Q6 (n - 1) u) ∧ P0 x.2.2.2.1 ≤ P0 (ks.take x.1) ∧ p + 1 ≤ x.2.2.2.2.2.1 ∧ (x.2.2.2.2.2.1 : Int) ≤ p + 1 + x.1 + P0 (ks.take x.1)) (fun x => ks.length - x.1) (0, none, 0, [], [], p + 1, G11) ?_ ?_ ?_)
 (simp only [H6]; exact D2)
 (exact ⟨by simp, C2.refl _, rfl, by simp [C9], by simp, by simp, by simp [P0], by dsimp only; omega, by simp [P0]⟩)
 (rintro ⟨i, pn, cn, us, es', p', Gi⟩ ⟨hi, hle, hlu, hst, hau, hhu, hsu, hp1, hp2⟩; simp only [] at hi hle hlu hst hau hhu hsu hp1 hp2 ⊢; replace hsl := hsl.mono hle; replace hkl := hkl.mono hle; have htk := A8P ks i)
 refine B5 ?_
 refine sB (I8 rfl rfl) rfl rfl (fun h58 => ?_) (fun h58 => ?_)
 refine A8 ?_
 refine C0 ?_
 (obtain ⟨b, o, q0, d0, hp0, hat0, hre0, hg0⟩ := hsl.kidTy hkl (i := i) (by omega) (by omega); subst hp0; have e1 := B3m (ks := ks) (i := i) (by omega); have e2 := A8P ks (i + 1); have e3 := A1b ks[i]; have hih := ih ks[i] (List.getElem_mem (by omega)) p' Gi _ (hkid _ (List.getElem_mem (by omega))) hre0 (hb.mono hle) (by omega); refine E2 E4 rfl ?_)
 refine J4 (i := 0) (l' := [tt,ff,ff,ff,ff,ff,ff,ff,ff,ff,ff,ff,ff]) rfl D6 (B9 rfl) rfl (by kernel_rfl) rfl rfl ?_
 refine aL 1 rfl (C8 rfl rfl) rfl ?_
 refine aP 2 rfl (qM rfl) rfl ?_
 refine aP 3 rfl (B9 rfl) rfl ?_
 refine aL 4 rfl (C8 rfl rfl) rfl ?_
 refine aP 5 rfl (qM rfl) rfl ?_
 refine aP 6 rfl (B6 rfl rfl rfl (by omega)) rfl ?_
 refine aL 7 rfl (A2 rfl rfl (hat0 _) rfl) rfl ?_
 refine A4 8 ?_
 (refine Y9 (l' := [tt,tt,tt,tt,tt,tt,tt,tt,tt,ff,ff,ff,ff]) rfl rfl hih (Pk.perm (by repeat (first | exact Pk.here | apply Pk.there))) rfl rfl rfl (by repeat (first | exact B2.nil | apply B2.dep (by decide +kernel) | apply B2.blk (by decide +kernel) (by repeat (first | exact Pk.here | apply Pk.there)) (by repeat first | exact mH | apply mT) | apply B2.im (by decide +kernel) hg0 (by repeat first | exact mH | apply mT))) (fun v G3 outs hle3 hh => ?_); obtain ⟨p3, hp31, hp32, rfl, u, cells3, rfl, hru, hua, hus, huh⟩ := hh; obtain ⟨q3, c3, es3, rfl, _⟩ := hru.open)
 refine A4 9 ?_
 (refine E5 rfl (D0 rfl rfl rfl (by omega) (by unfold maxLen; omega) rfl) rfl rfl ?_; rintro _ ⟨b78, rfl⟩)
 refine A4 10 ?_
 refine R0 rfl rfl rfl rfl rfl rfl (fun _ _ => by repeat (first | exact Sw.here | apply Sw.there)) (M1 (by repeat first | exact mH | apply mT)) rfl (by simp [Value.oneCell']) (by unfold maxLen; omega) (by omega) rfl rfl (by repeat (first | exact B2.nil | apply B2.dep (by decide +kernel) | apply B2.blk (by decide +kernel) (by repeat (first | exact Pk.here | apply Pk.there)) (by repeat first | exact mH | apply mT))) (fun pn' cn' => ?_)
 refine aP 11 rfl (B9 rfl) rfl ?_
 refine A4 12 ?_
 refine R5 rfl rfl rfl rfl rfl rfl rfl rfl (by kernel_rfl) (by repeat first | exact Sw.here | apply Sw.there) (by rfl) ?_
 refine B0 ?_
 refine sP (H5 rfl rfl (by omega) (by omega)) rfl rfl ?_
 refine A3 ?_
 refine I1 (i + 1, pn', cn', us ++ [u], es' ++ [[.int .i64 u.k, .slice q3 u.ks.length c3]], p3, G3) ?_ ?_ ?_
 (simp only [H6]; exact D2)
 (dsimp only; exact ⟨by omega, hle.trans hle3, by simp [hlu], C9.snoc (hst.mono hle3) hru, A3i hau hua, fun n hn => A3i (hhu n hn) (huh _ (A6u hn (List.getElem_mem _))), by rw [A41]; omega, by omega, by omega⟩)
 exact V0
 refine J9 ?_
 (refine F0 (by repeat (first | exact Pk.here | apply Pk.there)) (fun G5 hle5 hsl5 hno5 => ?_); obtain rfl : i = ks.length := (by omega))
 refine tT ?_
 refine H9 (outs := [rd br pb nb cb p']) (rC rfl (A5 rfl rfl)) (by repeat (first | exact A0.nil | refine A0.cons Pk.here ?_ | refine A0.cons (Pk.there Pk.here) ?_ | refine A0.cons (Pk.there (Pk.there Pk.here)) ?_ | apply A0.drop)) ?_
 (rw [List.take_length] at hsu hp2; refine ⟨p', by omega, by omega, rfl, .mk k us, _, rfl, (hst.mono hle5).ty hlu hsl5 hk, A9O ha hlu hau, by rw [K6]; omega, fun n hn => B3P hn hlu (hhu n hn)⟩)
theorem At.sub {hp : List A6} {G : IM} {b o j : Nat} {vs : List Value} {v : Value} (h : At hp G b o vs) (hj : vs[j]? = some v) : At hp G b (o + j) [v] := by
 have key : ∀ {cs : List Value}, (∀ i u, vs[i]? = some u → cs[o + i]? = some u) → ∀ i u, [v][i]? = some u → cs[o + j + i]? = some u := by
  intro cs hc i u hu
  cases i with
  | zero => simp at hu; subst hu; simpa using hc j v hj
  | succ i => simp at hu
 rcases h with ⟨cs, hm, hv⟩ | ⟨n, c, el, sz, cs, hm, hv⟩ | ⟨full, hg, hv⟩
 ·exact .inl ⟨cs, hm, key hv⟩
 ·exact .inr (.inl ⟨n, c, el, sz, cs, hm, key hv⟩)
 ·exact .inr (.inr ⟨full, hg, key hv⟩)
def HTm (G : IM) (t : Tm) (k : Int) (cells : List Value) : Prop := ∃ pt ct et pf cf ef p c es,
 cells = [.int .i64 t.k, .string t.nm, .int .i64 t.num, .int .i64 t.ty.k, .slice pt t.ty.ks.length ct, .int .i64 t.fr.k, .slice pf t.fr.ks.length cf, .int .i64 t.lb, .slice p t.ks.length c] ∧
 D7 G pt t.ty.ks.length ct 2 et ∧ C9 G (A12 t.ty.ks k) et ∧ D7 G pf t.fr.ks.length cf 2 ef ∧ C9 G (A12 t.fr.ks (k + A0g t.ty.ks)) ef ∧ D7 G p t.ks.length c 9 es ∧ E1 G (A4L t.ks (k + A0g t.ty.ks + A0g t.fr.ks)) es
theorem B4k {nm : ByteArray} (h : A07 nm = true) : nm.size = 1 := by
 unfold A07 at h
 simp at h
 omega
theorem A9P {k : Int} {nm : ByteArray} {num : Int} {ty fr : Ty} {lb : Int} {n : Nat} (h : V8 k nm num ty fr lb n = true) : nm.size ≤ 1 := by
 obtain ⟨_, h2, h3, _⟩ := T9.1 h
 by_cases hk : k = 1 ∨ k = 5
 ·rw [B4k (h2 hk)]; omega
 ·rw [h3 hk]; decide
def RBd (G : IM) (e : List Value) : Prop := ∃ nm t q d, e = [.string nm, .int .i64 t.k, .slice q t.ks.length d] ∧ C3 G t [.int .i64 t.k, .slice q t.ks.length d] ∧ F9 t ∧ K6 t ≤ 30 ∧ nm.size ≤ 1
def X9 (G : IM) (p : Option Addr) (n c : Nat) : Prop := ∃ es, es.length = n ∧ D7 G p n c 3 es ∧ ∀ e ∈ es, RBd G e
theorem RBd.mono {G G' : IM} {e : List Value} (h : RBd G e) (hg : C2 G G') : RBd G' e := by
 obtain ⟨nm, t, q, d, h1, h2, h3, h4⟩ := h
 exact ⟨nm, t, q, d, h1, h2.mono hg, h3, h4⟩
theorem X9.mono {G G' : IM} {p : Option Addr} {n c : Nat} (h : X9 G p n c) (hg : C2 G G') : X9 G' p n c := by
 obtain ⟨es, h1, h2, h3⟩ := h
 exact ⟨es, h1, h2.mono hg, fun e he => (h3 e he).mono hg⟩
theorem X9.nil (G : IM) : X9 G none 0 0 := ⟨[], rfl, D7.nil _ _, by simp⟩
theorem At.drop {hp : List A6} {G : IM} {b o : Nat} {v : Value} {vs : List Value} (h : At hp G b o (v :: vs)) : At hp G b (o + 1) vs := by
 have key : ∀ {cs : List Value}, (∀ i u, (v :: vs)[i]? = some u → cs[o + i]? = some u) → ∀ i u, vs[i]? = some u → cs[o + 1 + i]? = some u := by
  intro cs hc i u hu
  have := hc (i + 1) u (by simpa using hu)
  rwa [show o + 1 + i = o + (i + 1) by omega]
 rcases h with ⟨cs, hm, hv⟩ | ⟨n, c, el, sz, cs, hm, hv⟩ | ⟨full, hg, hv⟩
 ·exact .inl ⟨cs, hm, key hv⟩
 ·exact .inr (.inl ⟨n, c, el, sz, cs, hm, key hv⟩)
 ·exact .inr (.inr ⟨full, hg, key hv⟩)
theorem X9.get {G : IM} {p : Option Addr} {n c : Nat} (h : X9 G p n c) {i : Nat} (hi : i < n) :
  ∃ b o nm t q d, p = some ⟨b, o, none⟩ ∧ (∀ hp, At hp G b (o + i * 3) [.string nm, .int .i64 t.k, .slice q t.ks.length d]) ∧ C3 G t [.int .i64 t.k, .slice q t.ks.length d] ∧ F9 t ∧ K6 t ≤ 30 ∧ G b ≠ none ∧ nm.size ≤ 1 := by
 obtain ⟨es, h1, h2, h3⟩ := h
 obtain ⟨e, b, o, he, rfl, hl, _, hat, hgb⟩ := h2.get (i := i) (by omega)
 obtain ⟨nm, t, q, d, rfl, h5, h6, h7, h8⟩ := h3 e (List.mem_of_getElem? he)
 exact ⟨b, o, nm, t, q, d, rfl, hat, h5, h6, h7, hgb, h8⟩
theorem X9.le {G : IM} {p : Option Addr} {n c : Nat} (h : X9 G p n c) : n ≤ 9223372036854775807 := by
 obtain ⟨es, h1, h2, h3⟩ := h
 exact h2.le
theorem B4l (G : IM) (p : Option Addr) (n c : Nat) (nm : ByteArray) (hx : X9 G p n c) :
  Fn Tryz.prog 162 [.slice p n c, .string nm] [] G (TyB 30 G) := by
 have hn := hx.le
 refine C1 Tryz.func162 rfl Tryz.ntmps162 Tryz.results162 rfl ?_
 intro w0
 refine A3 ?_
 refine sE (A7 rfl) rfl (fun b3 => ?_)
 refine D1 ?_
 refine sP (O9 rfl rfl (by omega) (by omega)) rfl rfl ?_
 refine B7 ?_
 refine C0 ?_
 (refine J0 (fun (i : Nat) => ⟨[(6, .int .i64 ((i : Int) - 1)), (0, .slice p n c), (1, .string nm), (4, .pointer (some ⟨b3, 0, none⟩))], [.blk b3 [.int .i64 0, .slice none 0 0]], G⟩) (fun i => i ≤ n) (fun i => i) n ?_ ?_ ?_)
 exact D2
 exact Nat.le_refl _
 (rintro i hi)
 refine B4 ?_
 refine sB (A0I rfl rfl) rfl rfl (fun h25 => ?_) (fun h25 => ?_)
 refine A8 ?_
 (show J6 _ _ (.block 1 _) _ _; obtain ⟨j, rfl⟩ : ∃ j, i = j + 1 := ⟨i - 1, by omega⟩; rw [show ((j + 1 : Nat) : Int) - 1 = (j : Int) from by omega]; obtain ⟨b, o, nm1, t1, q1, d1, rfl, hat, hr1, ha1, hs1, hgb, hns1⟩ := hx.get (i := j) (by omega); refine C0 ?_)
 refine B4 ?_
 refine sP (B6 rfl rfl rfl (by omega)) rfl rfl ?_
 refine E3 ?_
 refine sL (T3 rfl rfl ((hat _).sub (j := 0) rfl)) rfl rfl ?_
 refine E3 ?_
 refine sB (A1G rfl rfl) rfl rfl (fun h41 => ?_) (fun h41 => ?_)
 refine B5 ?_
 refine sP (B6 rfl rfl rfl (by omega)) rfl rfl ?_
 refine E3 ?_
 refine sL (A2 rfl rfl (hat _).drop rfl) rfl rfl ?_
 (refine D9 rfl (P7 _ G _ ha1.small hr1) rfl rfl (fun v G1 hle1 hh => ?_); obtain ⟨cs1, F1, rfl, hs1', hn1⟩ := hh; obtain ⟨p1, c1, rfl, _⟩ := hs1'.open; have hrr := hs1'.R.mono (C5.le G1 G))
 refine J3 ?_
 refine E9 (rC rfl (A5 rfl rfl)) (rT rfl) ?_
 (exact ⟨rfl, _, _, _, rfl, hrr, ha1, hs1⟩)
 refine D1 ?_
 refine sP (O9 rfl rfl (by omega) (by omega)) rfl rfl ?_
 refine A3 ?_
 refine I1 j ?_ ?_ ?_
 exact D2
 (show _ ≤ n; omega)
 exact Nat.le_refl _
 refine K0 ?_
 refine E9 (rC rfl (A5 rfl rfl)) (rT rfl) ?_
 (exact ⟨rfl, _, _, _, rfl, O1 _ ⟨by omega, by omega⟩, W5 (by omega) (by omega), by rw [A9L]; omega⟩)
theorem B4m {G : IM} {nm : ByteArray} {k : Int} {ks : List Ty} {q : Option Addr} {d : Nat} (hr : C3 G (.mk k ks) [.int .i64 k, .slice q ks.length d]) (ha : F9 (.mk k ks)) (hs : K6 (.mk k ks) ≤ 30) (hn : nm.size ≤ 1) : RBd G [.string nm, .int .i64 k, .slice q ks.length d] := ⟨nm, .mk k ks, q, d, rfl, hr, ha, hs, hn⟩
theorem X9.snoc {G G' : IM} {p p' : Option Addr} {n c c' : Nat} {es : List (List Value)} {e : List Value} (h1 : es.length = n) (h2 : D7 G p n c 3 es) (h3 : ∀ e ∈ es, RBd G e) (hg : C2 G G') (he : RBd G' e) (hs : Sl G' p' (n + 1) c' 3 (es.flatten ++ e)) : X9 G' p' (n + 1) c' := by
 refine ⟨es ++ [e], by simp [h1], D7.of (by simpa using hs) (by simp [h1]) ?_ ?_, ?_⟩
 ·intro x hx
  rcases List.mem_append.1 hx with hx | hx
  ·obtain ⟨_, _, _, _, rfl, _⟩ := h3 x hx; rfl
  ·obtain ⟨_, _, _, _, rfl, _⟩ := he
   simp only [List.mem_singleton] at hx; subst hx; rfl
 ·intro x hx
  rcases List.mem_append.1 hx with hx | hx
  ·obtain ⟨_, _, _, _, rfl, _⟩ := h3 x hx; simp [Value.oneCell']
  ·obtain ⟨_, _, _, _, rfl, _⟩ := he
   simp only [List.mem_singleton] at hx; subst hx; simp [Value.oneCell']
 ·intro x hx
  rcases List.mem_append.1 hx with hx | hx
  ·exact (h3 x hx).mono hg
  ·simp only [List.mem_singleton] at hx; subst hx; exact he
theorem A6O {Q : Prop} (h : Q := by (exact ⟨rfl, _, _, rfl, X9.snoc h1 h2 h3 hle5 (B4m (hr.mono hle5) ha hs hnm) hsl5⟩)) : Q := h
theorem B4n (G : IM) (p : Option Addr) (n c : Nat) (nm : ByteArray) (t : Ty) (cells : List Value) (hx : X9 G p n c) (hn : n ≤ 1000) (hr : C3 G t cells) (ha : F9 t) (hs : K6 t ≤ 30) (hnm : nm.size ≤ 1) :
  Fn Tryz.prog 141 [.slice p n c, .string nm, .agg ⟨cells⟩] [] G (K1 fun G' v => ∃ p' c', v = .slice p' (n + 1) c' ∧ X9 G' p' (n + 1) c') := by
 obtain ⟨k, ks⟩ := t
 obtain ⟨q, d, es0, rfl, _⟩ := hr.open
 simp only [Ty.k, Ty.ks] at hr ⊢
 obtain ⟨es, h1, h2, h3⟩ := hx
 have hSl : Sl G p n c 3 es.flatten := h2.1
 have h1c : ∀ u ∈ es.flatten, u.oneCell' = true := by
  intro u hu
  obtain ⟨e, he, hue⟩ := List.mem_flatten.1 hu
  obtain ⟨_, _, _, _, rfl, _⟩ := h3 e he
  simp only [List.mem_cons, List.not_mem_nil, or_false] at hue
  rcases hue with rfl | rfl | rfl <;> rfl
 refine C1 Tryz.func141 rfl Tryz.ntmps141 Tryz.results141 rfl ?_
 intro w0
 refine A3 ?_
 refine sE (C7 rfl rfl) rfl (fun b3 => ?_)
 refine B4 ?_
 refine E2 E4 rfl ?_
 refine J4 (i := 1) (l' := [ff,tt,ff,ff,ff,ff,ff,ff,ff]) rfl D6 (qM rfl) rfl (by kernel_rfl) rfl rfl ?_
 refine aP 3 rfl (qM rfl) rfl ?_
 refine aL 4 rfl (A5 rfl rfl) rfl ?_
 refine aP 5 rfl (X0 rfl rfl) rfl ?_
 refine Q8 (j := 0) (j' := 6) (by kernel_rfl) ?_ ?_
 (refine E5 rfl (D0 rfl rfl rfl (by omega) (by unfold maxLen; omega) rfl) rfl rfl ?_; rintro _ ⟨b14, rfl⟩)
 refine Q8 (j := 2) (j' := 6) (by kernel_rfl) ?_ ?_
 (refine A3f rfl rfl rfl rfl rfl rfl (fun _ _ => by repeat (first | exact Sw.here | apply Sw.there)) hSl h1c (Nat.zero_le _) (by unfold maxLen; omega) (by omega) rfl rfl (by repeat (first | exact B2.nil | apply B2.dep (by decide +kernel) | apply B2.blk (by decide +kernel) (by repeat (first | exact Pk.here | apply Pk.there)) (by repeat first | exact mH | apply mT))) (fun p4 c4 => ?_); simp only [Nat.zero_add, List.nil_append])
 refine A4 6 ?_
 (refine E5 rfl (D0 rfl rfl rfl (by omega) (by unfold maxLen; omega) rfl) rfl rfl ?_; rintro _ ⟨b18, rfl⟩)
 refine A4 7 ?_
 (refine R0 rfl rfl rfl rfl rfl rfl (fun _ _ => by repeat (first | exact Sw.here | apply Sw.there)) (M1 (by repeat first | exact mH | apply mT)) rfl (by simp [Value.oneCell']) (by unfold maxLen; omega) (by omega) rfl rfl (by repeat (first | exact B2.nil | apply B2.dep (by decide +kernel) | apply B2.blk (by decide +kernel) (by repeat (first | exact Pk.here | apply Pk.there)) (by repeat first | exact mH | apply mT))) (fun p5 c5 => ?_))
 refine aP 8 rfl (qA rfl) rfl ?_
 refine A3 ?_
 (refine F0 (cs := es.flatten ++ [.string nm, .int .i64 k, .slice q ks.length d]) (by repeat (first | exact Pk.here | apply Pk.there)) (fun G5 hle5 hsl5 hno5 => ?_))
 refine A3 ?_
 exact A6O
 (refine E5 rfl (D0 rfl rfl rfl (by omega) (by unfold maxLen; omega) rfl) rfl rfl ?_; rintro _ ⟨b28, rfl⟩)
 refine A4 2 ?_
 (refine A3f rfl rfl rfl rfl rfl rfl (fun _ _ => by repeat (first | exact Sw.here | apply Sw.there)) hSl h1c (Nat.zero_le _) (by unfold maxLen; omega) (by omega) rfl rfl (by repeat (first | exact B2.nil | apply B2.dep (by decide +kernel) | apply B2.blk (by decide +kernel) (by repeat (first | exact Pk.here | apply Pk.there)) (by repeat first | exact mH | apply mT))) (fun p4 c4 => ?_); simp only [Nat.zero_add, List.nil_append])
 refine A4 7 ?_
 (refine R0 rfl rfl rfl rfl rfl rfl (fun _ _ => by repeat (first | exact Sw.here | apply Sw.there)) (M1 (by repeat first | exact mH | apply mT)) rfl (by simp [Value.oneCell']) (by unfold maxLen; omega) (by omega) rfl rfl (by repeat (first | exact B2.nil | apply B2.dep (by decide +kernel) | apply B2.blk (by decide +kernel) (by repeat (first | exact Pk.here | apply Pk.there)) (by repeat first | exact mH | apply mT))) (fun p5 c5 => ?_))
 refine aP 8 rfl (qA rfl) rfl ?_
 refine A3 ?_
 (refine F0 (cs := es.flatten ++ [.string nm, .int .i64 k, .slice q ks.length d]) (by repeat (first | exact Pk.here | apply Pk.there)) (fun G5 hle5 hsl5 hno5 => ?_))
 refine A3 ?_
 exact A6O
 (refine E5 rfl (D0 rfl rfl rfl (by omega) (by unfold maxLen; omega) rfl) rfl rfl ?_; rintro _ ⟨b40, rfl⟩)
 refine A4 0 ?_
 (refine E5 rfl (D0 rfl rfl rfl (by omega) (by unfold maxLen; omega) rfl) rfl rfl ?_; rintro _ ⟨b42, rfl⟩)
 refine A4 2 ?_
 (refine A3f rfl rfl rfl rfl rfl rfl (fun _ _ => by repeat (first | exact Sw.here | apply Sw.there)) hSl h1c (Nat.zero_le _) (by unfold maxLen; omega) (by omega) rfl rfl (by repeat (first | exact B2.nil | apply B2.dep (by decide +kernel) | apply B2.blk (by decide +kernel) (by repeat (first | exact Pk.here | apply Pk.there)) (by repeat first | exact mH | apply mT))) (fun p4 c4 => ?_); simp only [Nat.zero_add, List.nil_append])
 refine A4 7 ?_
 (refine R0 rfl rfl rfl rfl rfl rfl (fun _ _ => by repeat (first | exact Sw.here | apply Sw.there)) (M1 (by repeat first | exact mH | apply mT)) rfl (by simp [Value.oneCell']) (by unfold maxLen; omega) (by omega) rfl rfl (by repeat (first | exact B2.nil | apply B2.dep (by decide +kernel) | apply B2.blk (by decide +kernel) (by repeat (first | exact Pk.here | apply Pk.there)) (by repeat first | exact mH | apply mT))) (fun p5 c5 => ?_))
 refine aP 8 rfl (qA rfl) rfl ?_
 refine A3 ?_
 (refine F0 (cs := es.flatten ++ [.string nm, .int .i64 k, .slice q ks.length d]) (by repeat (first | exact Pk.here | apply Pk.there)) (fun G5 hle5 hsl5 hno5 => ?_))
 refine A3 ?_
 exact A6O
theorem B4o (G : IM) : Fn Tryz.prog 183 [.slice none 0 0] [] G (I5 (.bool true) G) := by
 refine C1 Tryz.func183 rfl Tryz.ntmps183 Tryz.results183 rfl ?_
 intro w0
 refine J1 ?_
 refine C0 ?_
 (refine J0 (fun (_ : Nat) => ⟨[(3, .int .i64 0), (0, .slice none 0 0)], [], G⟩) (fun _ => True) (fun i => i) 0 ?_ ?_ ?_)
 ·exact D2
 ·trivial
 ·(rintro i _)
  refine A8 ?_
  refine sP (A1I rfl rfl (by omega)) rfl rfl ?_
  refine K5 ?_
  refine sP (A8j rfl rfl (by omega)) rfl rfl ?_
  refine B0 ?_
  trivial
theorem A3j {k : Int} {n : Nat} (h : E6 k = n) : (k = 6 ∨ k = 7 ∨ k = 8 ∨ k = 10 → n = 2) ∧ (k = 9 → n = 3) ∧ (k = 5 ∨ k = 11 ∨ k = 12 ∨ k = 13 → n = 1) := by
 refine ⟨?_, ?_, ?_⟩
 ·rintro (rfl | rfl | rfl | rfl)
  ·rw [show E6 6 = 2 from rfl] at h; omega
  ·rw [show E6 7 = 2 from rfl] at h; omega
  ·rw [show E6 8 = 2 from rfl] at h; omega
  ·rw [show E6 10 = 2 from rfl] at h; omega
 ·rintro rfl
  rw [show E6 9 = 3 from rfl] at h; omega
 ·rintro (rfl | rfl | rfl | rfl)
  ·rw [show E6 5 = 1 from rfl] at h; omega
  ·rw [show E6 11 = 1 from rfl] at h; omega
  ·rw [show E6 12 = 1 from rfl] at h; omega
  ·rw [show E6 13 = 1 from rfl] at h; omega
theorem B4p : ∀ (t : Ty) (d : Int), P5 t d = true → F9 t := by
 refine Ty.ind fun k ks ih d h => ?_
 obtain ⟨h1, h2⟩ := A3Y h
 rw [F9]
 refine ⟨fun hk => ?_, fun h4 h5 => ?_, A1N.2 fun t ht => ?_⟩
 ·have := (A1l k).2.1 hk
  omega
 ·have h5' := A1l k
  have h6 := h5'.1
  have h7 := h5'.2.2
  omega
 ·obtain ⟨i, hi, rfl⟩ := List.getElem_of_mem ht
  exact ih _ ht _ (h2 i hi)
theorem B4q : ∀ (n : Nat) (t : Ty) (d : Int), P5 t d = true → 4 - d ≤ n → Q6 n t := by
 intro n
 induction n with
 | zero =>
  rintro ⟨k, ks⟩ d h hd
  obtain ⟨h1, h2⟩ := A3Y h
  have hks : ks.length = 0 := by
   rcases Nat.eq_zero_or_pos ks.length with h0 | h0
   ·exact h0
   ·have h3 := h2 0 h0
    obtain ⟨k', ks'⟩ : Ty := ks[0]
    have h4 : ∀ (u : Ty) (d : Int), P5 u d = true → d ≤ 4 := by
     rintro ⟨a, b⟩ d hu
     rw [P5] at hu
     simp only [Bool.and_eq_true, decide_eq_true_eq] at hu
     exact hu.1.1
    have := h4 _ _ h3
    omega
  have h5 := A1l k
  have h6 := h5.2.1
  exact ⟨List.length_eq_zero_iff.1 hks, by intro h; have := h6 (.inl h); omega, by intro h; have := h6 (.inr h); omega⟩
 | succ n ih =>
  rintro ⟨k, ks⟩ d h hd
  have ha := B4p _ _ h
  rw [F9] at ha
  obtain ⟨h1, h2⟩ := A3Y h
  refine ⟨ha.1, ha.2.1, fun t ht => ?_⟩
  obtain ⟨i, hi, rfl⟩ := List.getElem_of_mem ht
  exact ih _ _ (h2 i hi) (by omega)
theorem A33 {t : Ty} (h : H1 t = true) : F9 t ∧ K6 t ≤ 30 := by
 have h1 := B4q 3 t 1 h (by omega)
 have h2 := A4V h1
 have h3 : ((2 ^ (3 + 1) - 2 : Nat) : Int) = 14 := rfl
 exact ⟨h1.ar, by omega⟩
theorem B4r {t : Ty} (h : A0K t = true) : F9 t ∧ K6 t ≤ 30 := by
 rw [A15 h]
 exact ⟨W5 (by decide) (by decide), by rw [B3, A9L]; omega⟩
theorem A3k {k : Int} {nm : ByteArray} {num : Int} {ty fr : Ty} {lb : Int} {n : Nat} (h : V8 k nm num ty fr lb n = true) : F9 ty ∧ K6 ty ≤ 30 := by
 have hn := T9.1 h
 by_cases hk : k = 5 ∨ k = 13 ∨ k = 14
 ·exact A33 (hn.2.2.2.2.2.1 hk)
 ·exact B4r (hn.2.2.2.2.2.2.1 hk)
theorem B1.of9 {G : IM} {k : Int} {nm : ByteArray} {num tk fk : Int} {tks fks : List Ty} {lb : Int} {ks : List Tm} {q1 q2 q3 : Option Addr} {c1 c2 c3 : Nat} {es : List (List Value)} (hk : F8 k) (hnum : F8 num) (hlb : F8 lb) (hty : C3 G (.mk tk tks) [.int .i64 tk, .slice q1 tks.length c1])
  (hfr : C3 G (.mk fk fks) [.int .i64 fk, .slice q2 fks.length c2]) (hsl : D7 G q3 ks.length c3 9 es) (hkl : E1 G ks es) :
  B1 G (.mk k nm num (.mk tk tks) (.mk fk fks) lb ks) [.int .i64 k, .string nm, .int .i64 num, .int .i64 tk, .slice q1 tks.length c1, .int .i64 fk, .slice q2 fks.length c2, .int .i64 lb, .slice q3 ks.length c3] := by
 simp only [B1]
 exact ⟨_, _, q3, c3, es, rfl, hk, hnum, hlb, hty, hfr, hsl, hkl⟩
theorem A2B {k k' : Int} {nm nm' : ByteArray} {num num' : Int} {ty fr ty' fr' : Ty} {lb lb' : Int} {ks : List Tm} (h : (Tm.mk k nm num ty fr lb ks).small) (h1 : nm'.size ≤ 4294967296) (h2 : ty'.small) (h3 : fr'.small) : (Tm.mk k' nm' num' ty' fr' lb' ks).small := by
 simp only [Tm.small] at h ⊢
 exact ⟨h1, h2, h3, h.2.2.2⟩
def Tm.fit (t : Tm) (N : Nat) : Prop := t.small ∧ D3 t ≤ N
theorem B4s (br : Nat) (pb : Option Addr) (nb cb : Nat) (bs : List UInt8) (hnb : nb ≤ 2000) (p : Nat) (G : IM) (hb : Sl G pb nb cb 1 (M7 bs)) (hp : p + 100 < 1099511627776) (t : Tm) (cells : List Value) (N : Nat) (hfit : t.fit N) (hr : B1 G t cells) :
  Fn Tryz.prog 81 [.pointer (some ⟨br, 0, none⟩), .agg ⟨cells⟩] [rd br pb nb cb p] G
   (A0h br pb nb cb p 40 (fun G' v => ∃ t cells, v = .agg ⟨cells⟩ ∧ B1 G' t cells ∧ t.fit N)) := by
 have hl := hr.len
 have hone := hr.one
 obtain ⟨k, nm, num, ⟨tk, tks⟩, ⟨fk, fks⟩, lb, ks⟩ := t
 have hfit0 := hfit
 obtain ⟨hsm, hcn⟩ := hfit0
 replace hfit : (Tm.mk k nm num (.mk tk tks) (.mk fk fks) lb ks).small ∧ D3 (Tm.mk k nm num (.mk tk tks) (.mk fk fks) lb ks) ≤ N := hfit
 rw [show (Tm.mk k nm num (.mk tk tks) (.mk fk fks) lb ks).small = (nm.size ≤ 4294967296 ∧ (Ty.mk tk tks).small ∧ (Ty.mk fk fks).small ∧ ks.length ≤ 4294967296 ∧ Tm.smallL ks) from by rw [Tm.small]] at hfit
 refine C1 Tryz.func81 rfl Tryz.ntmps81 Tryz.results81 rfl ?_
 intro w0
 refine A3 ?_
 refine sE (C7 rfl rfl) rfl (fun b3 => ?_)
 refine sE (A7 rfl) rfl (fun b4 => ?_)
 refine B4 ?_
 refine sL (A2 rfl rfl (A9 (by repeat first | exact mH | apply mT)) (by assumption)) rfl rfl ?_
 (refine D9 rfl (A3e _ G cells hsm hr) rfl rfl (fun v G1 hle1 hh => ?_); obtain ⟨cells1, F1, rfl, hs1, hn1⟩ := hh; have hr1 := hs1.R.mono (C5.le G1 G); obtain ⟨q1, c1, q2, c2, q3, c3, es, rfl, hk, hnum, hlb, hty, hfr, hsl, hkl⟩ := hr1.open9)
 refine sE (A7 rfl) rfl (fun b11 => ?_)
 refine B5 ?_
 (refine J2 rfl (Y6 _ br pb nb cb p bs 50 (hb.mono hle1) hnb (by omega)) (Pk.perm (by repeat (first | exact Pk.here | apply Pk.there))) rfl rfl (fun v G2 outs hle2 hh => ?_); obtain ⟨rfl, rfl, j, rfl, hj0, hj1⟩ := hh; replace hb := hb.mono hle1)
 refine A3 ?_
 (show J6 _ _ (.block 0 _) _ _; refine A0k (fun (x : List Value × Nat × IM) => ⟨[(5, .pointer (some ⟨b11, 0, none⟩)), (4, .pointer (some ⟨b4, 0, none⟩))], [.blk b11 x.1, .blk b4 [.int .i64 0, .string ⟨⟨[]⟩⟩, .int .i64 0, .int .i64 0, .slice none 0 0, .int .i64 0, .slice none 0 0, .int .i64 0, .slice none 0 0], rd br pb nb cb x.2.1], x.2.2⟩) (fun x => C2 G2 x.2.2 ∧ p ≤ x.2.1 ∧ x.2.1 ≤ p + 40 ∧ ∃ t, B1 x.2.2 t x.1 ∧ t.small ∧ D3 t = D3 (.mk k nm num (.mk tk tks) (.mk fk fks) lb ks)) ?_ ?_)
 refine C0 (tS (tR (sB (qE rfl rfl) rfl rfl (fun h26 => ?_) (fun h26 => ?_))))
 refine A8 ?_
 (refine I3 (D0 rfl rfl rfl (by omega) (by unfold maxLen; omega) rfl) rfl ?_; rintro _ ⟨b33, rfl⟩)
 (refine R9 (by repeat (first | exact Pk.here | apply Pk.there)) (fun G4 hle4 hsl4 _ => ?_); refine J2 rfl (Z0 G4 br pb nb cb (p + 1) bs _ _ _ _ (hb.mono hle4) hnb (by omega) hsl4 (by decide)) (Pk.perm (by repeat (first | exact Pk.here | apply Pk.there))) rfl rfl (fun v G5 outs hle5 hh => ?_); obtain ⟨rfl, rfl, hv⟩ := hh; obtain ⟨k', rfl, hk'⟩ : ∃ k', v = .int .i64 k' ∧ F8 k' := (by simp only [List.mem_cons, List.not_mem_nil, or_false] at hv; rcases hv with rfl | rfl | rfl | rfl | rfl | rfl <;> exact ⟨_, rfl, by unfold F8; omega⟩))
 refine B4 ?_
 refine P8 ([.int .i64 k', .string nm, .int .i64 num, .int .i64 tk, .slice q1 tks.length c1, .int .i64 fk, .slice q2 fks.length c2, .int .i64 lb, .slice q3 ks.length c3], p + 1 + 1, G5) (K2 (by repeat (first | exact D8.nil | refine D8.cons rfl ?_)) (by repeat (first | exact A0.refl | exact A0.nil | refine A0.cons (by repeat (first | exact Pk.here | apply Pk.there)) ?_ | apply A0.drop))) ?_
 (dsimp only; exact ⟨hle4, by omega, by omega, _, B1.of9 hk' hnum hlb (hty.mono hle4) (hfr.mono hle4) (hsl.mono hle4) (hkl.mono hle4), A2B hsm hfit.1.1 hfit.1.2.1 hfit.1.2.2.1, rfl⟩)
 refine A8 ?_
 refine sB (qE rfl rfl) rfl rfl (fun h47 => ?_) (fun h47 => ?_)
 refine A8 ?_
 (refine I3 (D0 rfl rfl rfl (by omega) (by unfold maxLen; omega) rfl) rfl ?_; rintro _ ⟨b54, rfl⟩)
 (refine R9 (by repeat (first | exact Pk.here | apply Pk.there)) (fun G4 hle4 hsl4 _ => ?_); refine J2 rfl (A6H G4 br pb nb cb (p + 1) bs _ _ _ _ (hb.mono hle4) hnb (by omega) hsl4 (by decide)) (Pk.perm (by repeat (first | exact Pk.here | apply Pk.there))) rfl rfl (fun v G5 outs hle5 hh => ?_); obtain ⟨rfl, rfl, hv⟩ := hh; obtain ⟨nm', rfl, hnm'⟩ : ∃ nm', v = .string nm' ∧ nm'.size ≤ 2 := (by simp only [List.mem_cons, List.not_mem_nil, or_false] at hv; rcases hv with rfl | rfl | rfl | rfl <;> exact ⟨_, rfl, by decide⟩))
 refine B4 ?_
 refine P8 ([.int .i64 k, .string nm', .int .i64 num, .int .i64 tk, .slice q1 tks.length c1, .int .i64 fk, .slice q2 fks.length c2, .int .i64 lb, .slice q3 ks.length c3], p + 1 + 1, G5) (K2 (by repeat (first | exact D8.nil | refine D8.cons rfl ?_)) (by repeat (first | exact A0.refl | exact A0.nil | refine A0.cons (by repeat (first | exact Pk.here | apply Pk.there)) ?_ | apply A0.drop))) ?_
 (dsimp only; exact ⟨hle4, by omega, by omega, _, B1.of9 hk hnum hlb (hty.mono hle4) (hfr.mono hle4) (hsl.mono hle4) (hkl.mono hle4), A2B hsm (by omega) hfit.1.2.1 hfit.1.2.2.1, rfl⟩)
 refine A8 ?_
 refine sB (qE rfl rfl) rfl rfl (fun h68 => ?_) (fun h68 => ?_)
 refine A8 ?_
 (refine I3 (D0 rfl rfl rfl (by omega) (by unfold maxLen; omega) rfl) rfl ?_; rintro _ ⟨b75, rfl⟩)
 (refine R9 (by repeat (first | exact Pk.here | apply Pk.there)) (fun G4 hle4 hsl4 _ => ?_); refine J2 rfl (Z0 G4 br pb nb cb (p + 1) bs _ _ _ _ (hb.mono hle4) hnb (by omega) hsl4 (by decide)) (Pk.perm (by repeat (first | exact Pk.here | apply Pk.there))) rfl rfl (fun v G5 outs hle5 hh => ?_); obtain ⟨rfl, rfl, hv⟩ := hh; obtain ⟨k', rfl, hk'⟩ : ∃ k', v = .int .i64 k' ∧ F8 k' := (by simp only [List.mem_cons, List.not_mem_nil, or_false] at hv; rcases hv with rfl | rfl | rfl | rfl | rfl | rfl <;> exact ⟨_, rfl, by unfold F8; omega⟩))
 refine B4 ?_
 refine P8 ([.int .i64 k, .string nm, .int .i64 k', .int .i64 tk, .slice q1 tks.length c1, .int .i64 fk, .slice q2 fks.length c2, .int .i64 lb, .slice q3 ks.length c3], p + 1 + 1, G5) (K2 (by repeat (first | exact D8.nil | refine D8.cons rfl ?_)) (by repeat (first | exact A0.refl | exact A0.nil | refine A0.cons (by repeat (first | exact Pk.here | apply Pk.there)) ?_ | apply A0.drop))) ?_
 (dsimp only; exact ⟨hle4, by omega, by omega, _, B1.of9 hk hk' hlb (hty.mono hle4) (hfr.mono hle4) (hsl.mono hle4) (hkl.mono hle4), A2B hsm hfit.1.1 hfit.1.2.1 hfit.1.2.2.1, rfl⟩)
 refine A8 ?_
 refine sB (qE rfl rfl) rfl rfl (fun h89 => ?_) (fun h89 => ?_)
 refine B5 ?_
 (refine J2 rfl (B39 br pb nb cb bs hnb (p + 1) _ hb (by omega)) (Pk.perm (by repeat (first | exact Pk.here | apply Pk.there))) rfl rfl (fun v G3 outs hle3 hh => ?_); obtain ⟨p3, hp31, hp32, rfl, t3, cells3, rfl, hr3, hs3⟩ := hh)
 (refine J2 rfl (B4b br pb nb cb bs hnb p3 _ (hb.mono hle3) (by omega) t3 cells3 hr3 hs3) (Pk.perm (by repeat (first | exact Pk.here | apply Pk.there))) rfl rfl (fun v G4 outs hle4 hh => ?_); obtain ⟨p4, hp41, hp42, rfl, t4, cells4, rfl, hr4, hs4⟩ := hh; have hts4 := A3W t4 (by omega); obtain ⟨t4k, t4s⟩ := t4; obtain ⟨q4, c4, es4, rfl, _⟩ := hr4.open; have hle24 := hle3.trans hle4)
 refine B4 ?_
 refine P8 ([.int .i64 k, .string nm, .int .i64 num, .int .i64 t4k, .slice q4 t4s.length c4, .int .i64 fk, .slice q2 fks.length c2, .int .i64 lb, .slice q3 ks.length c3], p4, G4) (K2 (by repeat (first | exact D8.nil | refine D8.cons rfl ?_)) (by repeat (first | exact A0.refl | exact A0.nil | refine A0.cons (by repeat (first | exact Pk.here | apply Pk.there)) ?_ | apply A0.drop))) ?_
 (dsimp only; exact ⟨hle24, by omega, by omega, _, B1.of9 hk hnum hlb hr4 (hfr.mono hle24) (hsl.mono hle24) (hkl.mono hle24), A2B hsm hfit.1.1 hts4 hfit.1.2.2.1, rfl⟩)
 refine A8 ?_
 refine sB (qE rfl rfl) rfl rfl (fun h111 => ?_) (fun h111 => ?_)
 refine E0 ?_
 refine P8 ([.int .i64 k, .string nm, .int .i64 num, .int .i64 tk, .slice q1 tks.length c1, .int .i64 fk, .slice q2 fks.length c2, .int .i64 1, .slice q3 ks.length c3], p + 1, G2) (K2 (by repeat (first | exact D8.nil | refine D8.cons rfl ?_)) (by repeat (first | exact A0.refl | exact A0.nil | refine A0.cons (by repeat (first | exact Pk.here | apply Pk.there)) ?_ | apply A0.drop))) ?_
 (dsimp only; exact ⟨C2.refl _, by omega, by omega, _, B1.of9 hk hnum ⟨by omega, by omega⟩ hty hfr hsl hkl, A2B hsm hfit.1.1 hfit.1.2.1 hfit.1.2.2.1, rfl⟩)
 refine A8 ?_
 refine sB (qE rfl rfl) rfl rfl (fun h129 => ?_) (fun h129 => ?_)
 refine B0 ?_
 refine E8 rfl ((A1q _)) rfl rfl ?_
 refine B4 ?_
 refine P8 ([.int .i64 k, .string nm, .int .i64 num, .int .i64 tk, .slice q1 tks.length c1, .int .i64 1, .slice none 0 0, .int .i64 lb, .slice q3 ks.length c3], p + 1, G2) (K2 (by repeat (first | exact D8.nil | refine D8.cons rfl ?_)) (by repeat (first | exact A0.refl | exact A0.nil | refine A0.cons (by repeat (first | exact Pk.here | apply Pk.there)) ?_ | apply A0.drop))) ?_
 (dsimp only; exact ⟨C2.refl _, by omega, by omega, _, B1.of9 hk hnum hlb hty (A0O _) hsl hkl, A2B hsm hfit.1.1 hfit.1.2.1 (by simp [Ty.small, Ty.smallL]), rfl⟩)
 refine A8 ?_
 refine P8 ([.int .i64 k, .string nm, .int .i64 num, .int .i64 tk, .slice q1 tks.length c1, .int .i64 fk, .slice q2 fks.length c2, .int .i64 lb, .slice q3 ks.length c3], p + 1, G2) (K2 (by repeat (first | exact D8.nil | refine D8.cons rfl ?_)) (by repeat (first | exact A0.refl | exact A0.nil | refine A0.cons (by repeat (first | exact Pk.here | apply Pk.there)) ?_ | apply A0.drop))) ?_
 (dsimp only; exact ⟨C2.refl _, by omega, by omega, _, B1.of9 hk hnum hlb hty hfr hsl hkl, A2B hsm hfit.1.1 hfit.1.2.1 hfit.1.2.2.1, rfl⟩)
 (rintro ⟨cells9, p9, G9⟩ ⟨hle9, hp9, hp9', t9, hr9, hs9, hc9⟩; simp only [] at hle9 hp9 hp9' hr9 hs9 hc9 ⊢; have hl9 := hr9.len; have ho9 := hr9.one)
 refine A3 ?_
 refine sL (A2 rfl rfl (A9 (by repeat first | exact mH | apply mT)) hl9) rfl rfl ?_
 refine sS rfl rfl rfl hl9 ho9 rfl ?_ (hu := by exact D4 hl9.symm)
 refine B7 ?_
 refine H9 (outs := [rd br pb nb cb p9]) (rC rfl (A2 rfl rfl (A9 (by repeat first | exact mH | apply mT)) hl9)) (by repeat (first | exact A0.nil | refine A0.cons Pk.here ?_ | refine A0.cons (Pk.there Pk.here) ?_ | refine A0.cons (Pk.there (Pk.there Pk.here)) ?_ | apply A0.drop)) ?_
 (exact ⟨p9, by omega, by omega, rfl, t9, cells9, rfl, hr9, hs9, by omega⟩)
section slaw
variable {P : Program} {Γ : L7} {env : M2} {hp : List A6} {G : IM} {ty : TypeId} {K : Po} {ops : Array Oper} {rest : List Oper}
theorem B4t {x y : Operand} {t el : TypeId} {i : K9} {sz by' : Nat} {zs : List Value} [hI : I6 P t i] (hd' : i.desc = .slice el) [hE : X3 P el sz by' zs] {b o n c l : Nat}
  (hx : evo env x = some (.slice (some ⟨b, o, none⟩) n c)) (hy : evo env y = some (.int .i64 (l : Int))) (hl : l ≤ n) :
  I4 P Γ ⟨env, hp, G⟩ (.slice t x (some y) none none) ty (.slice (some ⟨b, if c = l then o else o + l * sz, none⟩) (n - l) (c - l)) := by
 refine ⟨fun a _ hs _ _ _ _ w => ?_⟩
 have hu := hI.und
 rw [hd'] at hu
 obtain ⟨d, hE⟩ := hE.ok
 obtain ⟨inf, z, t1, t2, t3, _⟩ := A25 (P := P) (t := el)
 have e1 : a.eval x = _ := hs.evo hx
 have e2 : a.eval y = _ := hs.evo hy
 have hb : ∀ code, (Instr.sliceBound (.int .i64 (l : Int)) n code).run P w = .ok l w := fun code => by
  have := run_sliceBound (P := P) w .i64 (l : Int) n code (by omega) (by omega)
  simpa using this
 simp only [execOp, Option.map, e1, e2, Instr.sliceAt, Sem.run_bind, run_underlying hu, Result.andThen_ok, Instr.slice, Instr.sliceBounds, Sem.run_pure, hb, t3]
 by_cases h : c = l
 ·simp [h]
 ·simp [h, A2o]
theorem Sl.from {G : IM} {b o n c l sz : Nat} {cs : List Value} (h : Sl G (some ⟨b, o, none⟩) n c sz cs) (hl : l ≤ n) : Sl G (some ⟨b, if c = l then o else o + l * sz, none⟩) (n - l) (c - l) sz (cs.drop (l * sz)) := by
 obtain ⟨h1, h2, h3, h4⟩ := h
 refine ⟨by rw [List.length_drop, h1, Nat.sub_mul], by omega, by omega, ?_⟩
 by_cases h : c = l
 ·left; omega
 ·rcases h4 with h0 | ⟨b', o', full, he, hg, hv⟩
  ·left; omega
  ·right
   cases he
   rw [if_neg h]
   refine ⟨b, _, full, rfl, hg, fun j v hj => ?_⟩
   rw [List.getElem?_drop] at hj
   have := hv _ v hj
   rw [Nat.add_assoc]; exact this
theorem St.slc_open {a : Act} {w : World} {p : Option Addr} {c el sz n : Nat} {cs : List Value} {hp' : List A6} (hs : St Γ ⟨env, hp, G⟩ a w) (hk : Pk hp (.slc p c el sz n cs) hp') (h0 : 0 < n) :
  ∃ b C, p = some ⟨b, 0, none⟩ ∧ n ≤ c ∧ c ≤ maxLen ∧ St Γ ⟨env, .blk b (cs ++ C) :: hp', G⟩ a w := by
 have hown : T2 [.slc p c el sz n cs] G w := hs.res.own.of_mem hk.perm
 obtain ⟨hl, h⟩ := hown.ok _ List.mem_cons_self
 rcases h with ⟨hv, hn⟩ | ⟨g, cap, cur, hv, _, hg, hnc, hcm, hsz, ht⟩
 ·omega
 ·cases hv
  refine ⟨g, cur.toList.drop cs.length, rfl, hnc, hcm, ?_⟩
  have hcur : cur.toList = cs ++ cur.toList.drop cs.length := by
   have e : cs.length = n * sz := hl
   rw [e]
   conv => lhs; rw [← List.take_append_drop (n * sz) cur.toList, ht]
  have hr : Q4 [.slc (some ⟨g, 0, none⟩) c el sz n cs] G w [.blk g (cs ++ cur.toList.drop cs.length)] G w := by
   refine ⟨⟨hown.inn, ?_, by simp [Fp, A6.fp], ?_⟩, Ext.refl _ _, C2.refl _, fun _ _ h => .inl h, ?_, fun b l h h0 => absurd h (by rw [h0]; simp)⟩
   ·intro e he
    simp at he; subst he
    refine ⟨el, ?_⟩
    rw [← hcur]; simpa using hg
   ·intro b' hb; exact hown.disj b' (by simpa [Fp, A6.fp, J5] using hb)
   ·intro b' hb; exact .inr (by simpa [Fp, A6.fp, J5] using hb)
  exact ⟨hs.size, hs.nod, hs.env, by have := (hs.res.perm hk.perm).frame hr; simpa using this⟩
theorem A34 {p : Option Addr} {c el sz n : Nat} {cs : List Value} {hp' : List A6} (hk : Pk hp (.slc p c el sz n cs) hp') (h0 : 0 < n)
  (h : ∀ b C, p = some ⟨b, 0, none⟩ → n ≤ c → c ≤ maxLen → I9 P Γ ops rest K ⟨env, .blk b (cs ++ C) :: hp', G⟩) : I9 P Γ ops rest K ⟨env, hp, G⟩ :=
 ⟨fun a w hs => let ⟨b, C, h1, h2, h3, h4⟩ := hs.slc_open hk h0; (h b C h1 h2 h3).run a w h4⟩
end slaw
theorem B4u {es : List (List Value)} {j : Nat} {vs : List Value} (hj : j < es.length) : (es.set j vs).flatten = (es.take j).flatten ++ (vs ++ (es.drop (j + 1)).flatten) := by
 rw [List.set_eq_take_append_cons_drop, if_pos hj]; simp
theorem A9Q {es : List (List Value)} {j : Nat} (hj : j < es.length) : es.flatten = (es.take j).flatten ++ (es[j] ++ (es.drop (j + 1)).flatten) := by
 have h := congrArg List.flatten (List.take_append_drop j es).symm
 rw [List.drop_eq_getElem_cons hj, List.flatten_append, List.flatten_cons] at h
 exact h
theorem A35 {es : List (List Value)} {C vs : List Value} {j sz : Nat} (hj : j < es.length) (ha : ∀ e ∈ es, e.length = sz) (hv : vs.length = sz) : S3 (es.flatten ++ C) (0 + j * sz) vs = some ((es.set j vs).flatten ++ C) := by
 have := A6d (A := (es.take j).flatten) (B := es[j]) (C := (es.drop (j + 1)).flatten ++ C) (V := vs) (o := 0 + j * sz)
  (by rw [A09 (fun e he => ha e (List.mem_of_mem_take he)), List.length_take]; rw [Nat.min_eq_left (by omega)]; omega) (by rw [ha _ (List.getElem_mem hj), hv])
 rw [A9Q hj, B4u hj]
 simp only [List.append_assoc] at this ⊢
 exact this
theorem E1.set {G : IM} : ∀ {ks : List Tm} {es : List (List Value)} {j : Nat} {y : Tm} {v : List Value}, E1 G ks es → B1 G y v → E1 G (ks.set j y) (es.set j v)
 | [], es, j, y, v, h, h2 => by simp only [E1] at h; subst h; simp [E1]
 | t :: ts, es, 0, y, v, h, h2 => by
  simp only [E1] at h
  obtain ⟨a, r, rfl, h3, h4⟩ := h
  simp only [List.set_cons_zero, E1]
  exact ⟨v, r, rfl, h2, h4⟩
 | t :: ts, es, j + 1, y, v, h, h2 => by
  simp only [E1] at h
  obtain ⟨a, r, rfl, h3, h4⟩ := h
  simp only [List.set_cons_succ, E1]
  exact ⟨a, r.set j v, rfl, h3, E1.set h4 h2⟩
def A9R : Tm → List Int → Tm → Tm
 | _, [], x => x
 | .mk k nm num ty fr lb ks, i :: is, x => if h : 0 ≤ i ∧ i < ks.length then .mk k nm num ty fr lb (ks.set i.toNat (A9R (ks[i.toNat]'(by omega)) is x)) else .mk k nm num ty fr lb ks
def TyV (e : Tm) (G : IM) : IM → Value → List A6 → Prop := K1 fun G' v => ∃ t cells b, v = .tuple ⟨[.agg ⟨cells⟩, .bool b]⟩ ∧ C3 G' t cells ∧ F9 t ∧ K6 t ≤ 960 ∧ (b = true → N9 e = true)
theorem A2C {G : IM} {e : Tm} {ce : List Value} {p : Option Addr} {c : Nat} (hr : B1 G e ce) (hs : Sl G p 1 c 9 ce) : D7 G p [e].length c 9 [ce] ∧ E1 G [e] [ce] := by
 refine ⟨D7.of (by simpa using hs) rfl (fun x hx => by simp only [List.mem_singleton] at hx; subst hx; exact hr.len) (fun x hx => by simp only [List.mem_singleton] at hx; subst hx; exact hr.one), ?_⟩
 simp only [E1]
 exact ⟨ce, [], rfl, hr, rfl⟩
def B8q (e : Tm) (label : Int) (G : IM) : IM → Value → List A6 → Prop := K1 fun G' v => ∃ u cu l', v = .tuple ⟨[.agg ⟨cu⟩, .int .i64 l']⟩ ∧ B1 G' u cu ∧ (e.small → u.small) ∧ D3 u ≤ D3 e + 1 ∧ label ≤ l' ∧ l' ≤ label + 1
def B8r (n : Nat) (G : IM) : IM → Value → List A6 → Prop := K1 fun G' v => ∃ p c es ws, v = .slice p n c ∧ ws.length = n ∧ D7 G' p n c 2 es ∧ C9 G' ws es ∧ ∀ w ∈ ws, F9 w
theorem E1.at2 {G : IM} {ts : List Tm} {es : List (List Value)} {i : Nat} (h : E1 G ts es) (h1 : i < ts.length) (h2 : i < es.length) : i < es.length ∧ B1 G ts[i] es[i] := by
 have := (h.inv (List.getElem?_eq_getElem h2) K7).2
 rw [List.getD_eq_getElem?_getD, List.getElem?_eq_getElem h1] at this
 exact ⟨h2, this⟩
mutual
theorem A9S : ∀ (t : Tm) (d : Int), M8 12 14 t d = true → t.small
 | .mk k nm num ty fr lb ks, d, h => by
  obtain ⟨h1, h2, h3, h4⟩ := A0P h
  have hn := T9.1 h3
  rw [Tm.small]
  refine ⟨?_, (A3k h3).1.small, ?_, ?_, A9T ks _ h4⟩
  ·by_cases hk : k = 1 ∨ k = 5
   ·have := hn.2.1 hk
    simp only [A07, decide_eq_true_eq] at this
    omega
   ·rw [hn.2.2.1 hk]; decide
  ·rw [A15 (hn.2.2.2.2.2.2.2.2 (by omega)).1]
   simp [B3, Ty.small, Ty.smallL]
  ·have := A1r k
   omega
theorem A9T : ∀ (ts : List Tm) (d : Int), M4 12 14 ts d = true → Tm.smallL ts
 | [], d, h => by rw [Tm.smallL]; trivial
 | t :: ts, d, h => by
  rw [M4, Bool.and_eq_true] at h
  rw [Tm.smallL]
  exact ⟨A9S t d h.1, A9T ts d h.2⟩
end
theorem A44 {hp : List A6} {G : IM} {b sz i : Nat} {es : List (List Value)} {C : List Value} (hm : A6.blk b (es.flatten ++ C) ∈ hp) (hi : i < es.length) (ha : ∀ e ∈ es, e.length = sz) : At hp G b (0 + i * sz) es[i] := by
 refine .inl ⟨_, hm, fun j u hu => ?_⟩
 rw [A9Q hi, List.append_assoc, List.append_assoc]
 have hl : (es.take i).flatten.length = i * sz := by
  rw [A09 (fun e he => ha e (List.mem_of_mem_take he)), List.length_take, Nat.min_eq_left (by omega)]
 have hj : j < es[i].length := (List.getElem?_eq_some_iff.1 hu).1
 rw [List.getElem?_append_right (by omega), show 0 + i * sz + j - (es.take i).flatten.length = j by omega, List.getElem?_append_left hj]
 exact hu
def B8s (e : Tm) (label : Int) (G : IM) : IM → Value → List A6 → Prop := K1 fun G' v => ∃ u cu t ct l', v = .tuple ⟨[.agg ⟨cu⟩, .agg ⟨ct⟩, .int .i64 l']⟩ ∧ B1 G' u cu ∧ u.small ∧ D3 u + 1 ≤ 2 * D3 e ∧ C3 G' t ct ∧ F9 t ∧ K6 t ≤ 32 * (D3 e : Int) ∧ label ≤ l' ∧ l' + 1 ≤ label + 2 * (D3 e : Int)
def V1 (t : Ty) : Ty := if t.k = 4 ∨ t.k = 5 then .mk t.k [O8, O8] else .mk t.k []
def U3 (t : Ty) : Bool := decide (t.k ≠ 1) && M5 t (V1 t)
def R3 (t : Tm) : Bool := decide (t.k = 14 ∧ t.fr.k = t.ty.k ∧ (t.ty.k = 4 ∨ t.ty.k = 5))
def inj (t : Tm) : Bool := decide (t.k = 14 ∧ t.ty.k = 1) && U3 t.fr
mutual
def H2 : Tm → Bool
 | .mk k nm num ty fr lb ks => if k = 10 ∨ (k = 14 ∧ fr.k = ty.k ∧ (ty.k = 4 ∨ ty.k = 5)) ∨ (k = 14 ∧ ty.k = 1 ∧ U3 fr = true) then A1f ks else decide (k = 2 ∨ k = 3 ∨ k = 4 ∨ k = 5)
def A1f : List Tm → Bool
 | [] => true
 | t :: ts => H2 t && A1f ts
end
mutual
def T7 (x : ByteArray) (v : Tm) : Tm → Tm
 | .mk k nm num ty fr lb ks => if k = 1 ∧ nm = x then v else if k = 5 ∧ nm = x then .mk k nm num ty fr lb ks else .mk k nm num ty fr lb (S7 x v ks)
def S7 (x : ByteArray) (v : Tm) : List Tm → List Tm
 | [] => []
 | t :: ts => T7 x v t :: S7 x v ts
end
theorem A45 (x : ByteArray) (v : Tm) : ∀ ks, S7 x v ks = ks.map (T7 x v)
 | [] => rfl
 | t :: ts => by rw [S7, A45 x v ts, List.map_cons]
def L3 (e : Tm) (fr to : Ty) (lb : Int) : Tm := .mk 14 ⟨#[]⟩ 0 to fr lb [e]
def A0r (k : Int) (ks : List Tm) : Tm := .mk k ⟨#[]⟩ 0 B3 B3 0 ks
def A2D (n : Int) : Tm := .mk 2 ⟨#[]⟩ n B3 B3 0 []
def Z7 (b : Prop) [Decidable b] : Tm := A0r (if b then 3 else 4) []
abbrev Stp := Tm × Int × Int
def R4 : Stp := (K7, 3, 0)
def kd (ks : List Tm) (i : Nat) : Tm := ks.getD i K7
def kt (ks : List Ty) (i : Nat) : Ty := ks.getD i B3
def N7 (k : Int) (ty fr : Ty) (lb : Int) (ks : List Tm) : Stp :=
 if k = 6 then
  (if (kd ks 0).k = 5 then (T7 (kd ks 0).nm (kd ks 1) (kd (kd ks 0).ks 0), 1, 0)
   else if R3 (kd ks 0) = true ∧ (kd ks 0).ty.k = 4 then (L3 (A0r 6 [kd (kd ks 0).ks 0, L3 (kd ks 1) (kt (kd ks 0).ty.ks 0) (kt (kd ks 0).fr.ks 0) (-(kd ks 0).lb)]) (kt (kd ks 0).fr.ks 1) (kt (kd ks 0).ty.ks 1) (kd ks 0).lb, 1, 0)
   else R4)
 else if k = 7 ∨ k = 8 then
  (if (kd ks 0).k = 2 ∧ (kd ks 1).k = 2 then (if k = 7 then A2D (((kd ks 0).num + (kd ks 1).num) % 1000) else Z7 ((kd ks 0).num < (kd ks 1).num), 1, 0) else R4)
 else if k = 9 then (if (kd ks 0).k = 3 then (kd ks 1, 1, 0) else if (kd ks 0).k = 4 then (kd ks 2, 1, 0) else R4)
 else if k = 11 ∨ k = 12 then
  (if (kd ks 0).k = 10 then (kd (kd ks 0).ks (k - 11).toNat, 1, 0)
   else if R3 (kd ks 0) = true ∧ (kd ks 0).ty.k = 5 then (L3 (A0r k [kd (kd ks 0).ks 0]) (kt (kd ks 0).fr.ks (k - 11).toNat) (kt (kd ks 0).ty.ks (k - 11).toNat) (kd ks 0).lb, 1, 0)
   else R4)
 else if k = 14 then
  (if fr.k = ty.k then (kd ks 0, 1, 0)
   else if ty.k = 1 then (L3 (L3 (kd ks 0) fr (V1 fr) lb) (V1 fr) ty lb, 1, 0)
   else if U3 ty = false then (L3 (L3 (kd ks 0) fr (V1 ty) lb) (V1 ty) ty lb, 1, 0)
   else if inj (kd ks 0) = false then R4
   else if (kd ks 0).fr.k = ty.k then (kd (kd ks 0).ks 0, 1, 0)
   else (K7, 2, lb))
 else R4
mutual
def H8 : Tm → Stp
 | .mk k nm num ty fr lb ks => match V2 (if k = 9 then 1 else ks.length) ks with
  | some (ks', c, l) => if c = 1 then (.mk k nm num ty fr lb ks', 1, 0) else (K7, c, l)
  | none => N7 k ty fr lb ks
def V2 : Nat → List Tm → Option (List Tm × Int × Int)
 | _, [] => none
 | n, t :: ts => match n with
  | 0 => none
  | n + 1 => if H2 t = true then (match V2 n ts with
    | some (us, c, l) => some (t :: us, c, l)
    | none => none)
   else some ((H8 t).1 :: ts, (H8 t).2.1, (H8 t).2.2)
end
def H3 (e : Tm) : Stp :=
 if O4 e = false then R4 else if H2 e = true then (e, 0, 0)
 else if (H8 e).2.1 ≠ 1 then (K7, (H8 e).2.1, (H8 e).2.2)
 else if O4 (H8 e).1 = false then (K7, 4, 0) else ((H8 e).1, 1, 0)
def K3 : Nat → Tm → Tm × Int × Int × Nat
 | 0, e => if (H3 e).2.1 = 1 then (K7, 5, 0, 0) else ((H3 e).1, (H3 e).2.1, (H3 e).2.2, 0)
 | n + 1, e => if (H3 e).2.1 = 1 then ((K3 n (H3 e).1).1, (K3 n (H3 e).1).2.1, (K3 n (H3 e).1).2.2.1, (K3 n (H3 e).1).2.2.2 + 1)
  else ((H3 e).1, (H3 e).2.1, (H3 e).2.2, 0)
def S8 (e : Tm) (fuel : Int) : Stp := if 0 ≤ fuel ∧ fuel ≤ 300 then ((K3 fuel.toNat e).1, (K3 fuel.toNat e).2.1, (K3 fuel.toNat e).2.2.1) else R4
def B8t (e : Tm) (fuel : Int) : Int := if 0 ≤ fuel ∧ fuel ≤ 300 then ((K3 fuel.toNat e).2.2.2 : Int) else 0
structure CvN (k : Int) (nm : ByteArray) (num : Int) (ty fr : Ty) (lb : Int) (ks : List Tm) : Prop where
 ops : E6 k = ks.length
 ne : k ≠ 13
 nm1 : nm.size ≤ 1
 num0 : 0 ≤ num ∧ num ≤ 999
 tyA : F9 ty
 frA : F9 fr
 lbB : -99 ≤ lb ∧ lb ≤ 99
 c14 : k = 14 → K4 fr ty = true ∧ H1 ty = true ∧ H1 fr = true
 ty5 : ¬(k = 5 ∨ k = 14) → ty = B3
 fr14 : k ≠ 14 → fr = B3 ∧ lb = 0
def cv (t : Tm) : Prop := ∃ d, M8 40 13 t d = true
theorem A1U {n lo hi : Int} : O7 n lo hi = true ↔ lo ≤ n ∧ n ≤ hi := by unfold O7; rw [decide_eq_true_eq]
theorem cv.node {k : Int} {nm : ByteArray} {num : Int} {ty fr : Ty} {lb : Int} {ks : List Tm} (h : cv (.mk k nm num ty fr lb ks)) : CvN k nm num ty fr lb ks ∧ ∀ t ∈ ks, cv t := by
 obtain ⟨d, h⟩ := h
 obtain ⟨_, h2, h3, h4⟩ := A0P h
 obtain ⟨n1, n2, n3, n4, n5, n6, n7, n8, n9⟩ := T9.1 h3
 refine ⟨⟨n1, h2, A9P h3, ?_, (A3k h3).1, ?_, ?_, ?_, ?_, ?_⟩, fun t ht => ?_⟩
 ·by_cases hk : k = 2
  ·exact A1U.1 (n4 hk)
  ·have := A1U.1 (n5 hk); omega
 ·by_cases hk : k = 14
  ·have := (n8 hk).1
   simp only [A11, Bool.and_eq_true] at this
   exact (A33 this.1.1).1
  ·rw [A15 (n9 hk).1]; exact W5 (by decide) (by decide)
 ·by_cases hk : k = 14
  ·have := (n8 hk).2
   simp only [A08, Bool.or_eq_true, A1U] at this
   omega
  ·have := (n9 hk).2; omega
 ·intro hk
  have := (n8 hk).1
  simp only [A11, Bool.and_eq_true] at this
  exact ⟨this.2, this.1.2, this.1.1⟩
 ·intro hk
  exact A15 (n7 (by omega))
 ·intro hk
  exact ⟨A15 (n9 hk).1, (n9 hk).2⟩
 ·obtain ⟨i, hi, rfl⟩ := List.mem_iff_getElem.1 ht
  exact ⟨_, (A1n 40 13 ks _).1 h4 i hi⟩
theorem A2E {t : Tm} (h : O4 t = true) : cv t ∧ D3 t ≤ 200 := by
 obtain ⟨h1, h2⟩ := (A6G t).1 h
 exact ⟨⟨1, h1⟩, h2⟩
mutual
theorem A2F : ∀ (t : Tm), cv t → t.small
 | .mk k nm num ty fr lb ks, h => by
  obtain ⟨hn, hk⟩ := h.node
  rw [Tm.small]
  refine ⟨by have := hn.nm1; omega, hn.tyA.small, hn.frA.small, ?_, A9U ks hk⟩
  have := A1r k
  have := hn.ops
  omega
theorem A9U : ∀ (ts : List Tm), (∀ t ∈ ts, cv t) → Tm.smallL ts
 | [], _ => by rw [Tm.smallL]; trivial
 | t :: ts, h => by
  rw [Tm.smallL]
  exact ⟨A2F t (h t List.mem_cons_self), A9U ts fun u hu => h u (List.mem_cons_of_mem _ hu)⟩
end
theorem Z1 (k : Int) (nm : ByteArray) (num : Int) (ty fr : Ty) (lb : Int) (ks : List Tm) : D3 (.mk k nm num ty fr lb ks) = E7 ks + 1 := by rw [D3]
theorem A0s {k : Int} {nm : ByteArray} {num : Int} {ty fr : Ty} {lb : Int} {ks : List Tm} : (Tm.mk k nm num ty fr lb ks).small ↔ nm.size ≤ 4294967296 ∧ ty.small ∧ fr.small ∧ ks.length ≤ 4294967296 ∧ Tm.smallL ks := by rw [Tm.small]
theorem A46 : K7.small := by simp [K7, Tm.small, Ty.small, Ty.smallL, Tm.smallL, ByteArray.size]
theorem A2G : B3.small := by simp [B3, Ty.small, Ty.smallL]
mutual
theorem A9V {x : ByteArray} {v : Tm} (hv : v.small) : ∀ (t : Tm), t.small → (T7 x v t).small ∧ D3 (T7 x v t) ≤ D3 t * D3 v
 | .mk k nm num ty fr lb ks, h => by
  obtain ⟨h1, h2, h3, h4, h5⟩ := A0s.1 h
  obtain ⟨s1, s2⟩ := A9W hv ks h5
  have hp : 1 ≤ D3 v := by cases v; rw [D3]; omega
  rw [T7]
  split
  ·refine ⟨hv, ?_⟩
   rw [Z1]
   exact Nat.le_mul_of_pos_left _ (by omega)
  ·split
   ·exact ⟨h, Nat.le_mul_of_pos_right _ hp⟩
   ·refine ⟨A0s.2 ⟨h1, h2, h3, by rw [A45, List.length_map]; exact h4, s1⟩, ?_⟩
    rw [Z1, Z1, Nat.add_mul]
    omega
theorem A9W {x : ByteArray} {v : Tm} (hv : v.small) : ∀ (ts : List Tm), Tm.smallL ts → Tm.smallL (S7 x v ts) ∧ E7 (S7 x v ts) ≤ E7 ts * D3 v
 | [], _ => by simp [S7, Tm.smallL, E7]
 | t :: ts, h => by
  simp only [Tm.smallL] at h
  obtain ⟨a1, a2⟩ := A9V hv t h.1
  obtain ⟨b1, b2⟩ := A9W hv ts h.2
  simp only [S7, Tm.smallL, E7, Nat.add_mul]
  exact ⟨⟨a1, b1⟩, by omega⟩
end
theorem A18 {ks : List Tm} (h : Tm.smallL ks) (i : Nat) : (kd ks i).small := by
 unfold kd
 rw [List.getD_eq_getElem?_getD]
 cases hi : ks[i]? with
 | none => exact A46
 | some t => exact Tm.smallL_mem h t (List.mem_of_getElem? hi)
theorem A47 {ks : List Tm} (i : Nat) : D3 (kd ks i) ≤ E7 ks + 1 := by
 unfold kd
 rw [List.getD_eq_getElem?_getD]
 cases hi : ks[i]? with
 | none => simp [K7, D3, E7]
 | some t =>
  have := A6g (List.mem_of_getElem? hi)
  simp only [Option.getD_some]; omega
end Gw
end Go.Proofs.YtebfignffjhnhaaGreatDoor
