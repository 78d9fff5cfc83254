/-
  The reference model's TermValid. slices.Clone of numbers, paths, AllPaths. AllPaths. append of a slice in memory that no longer changes, empty or not. The reference model's paths. The reference model's AllPaths. The law that AllPaths gives what the reference model gives: its walk. Nodes at paths, casts by their labels. The node of a term at a path. Where ways meet again. The reference model's drawn types: what they are made of, and how big they are. The reference model's drawn types, changed at random. The reference model's drawn types, changed at random. Terms without casts and types, in plain words. Strings: cut, put together, compared. The reference model's drawn terms: what they are made of, and how big they are. The reference model's drawn terms. The reference model's source is opened; drawn closed terms and valid terms. The reference model's functions on types: they end, and what they give has operands as it must. The laws' reading of marks in types and terms. Contexts of bindings: looked up, made longer. The reference model's typing: it ends, and what it gives is a type whose nodes have their operands, not wider than the term is big. The reference model's terms that are sometimes made invalid; drawn arguments. Slices of slices; slices of the call's own opened as blocks; one element of a slice of terms replaced. Casts put in: one cast, the types that are asked for. InsertCasts of the reference model: it ends, and what it gives is not much bigger than what it is given. Which names are free, at which place a name is bound: what comes out is small. Evaluation of terms with casts, in plain words.
-/
import Derived.Test.YthpdjmbpbdbodaaGreatDoorKl2
import Derived.Test.YthpdjmbpbdbodaaGreatDoorKl1
import Derived.Test.YthpdjmbpbdbodaaGreatDoorKl0
import Derived.Laws.Slices
set_option linter.unusedVariables false
set_option linter.unusedSimpArgs false
set_option maxHeartbeats 0
set_option maxRecDepth 100000
set_option synthInstance.maxSize 4000
set_option synthInstance.maxHeartbeats 0
namespace Go.Proofs.YthpdjmbpbdbodaaGreatDoor
open Go Go.RowKit
namespace Gw
theorem A0L (t : Tm) : S9 t = true ↔ M8 12 14 t 1 = true ∧ D6 t ≤ 30 := by
 have := A6u 30 12 14 t 1 0 (by omega)
 rw [S9, this]
 constructor
 ·rintro ⟨a, b⟩; exact ⟨a, by omega⟩
 ·rintro ⟨a, b⟩; exact ⟨a, by omega⟩
theorem B3Z : ∀ (t : Tm) (d : Int) (G : IM) (cells : List Value), 0 ≤ d ∧ d ≤ 12 → B3 G t cells →
  Fn Tryz.prog 138 [.agg ⟨cells⟩, .int .i64 d] [] G (H5 (.bool (M8 12 14 t (13 - d))) G) := by
 refine Tm.ind fun k nm num ty fr lb ks ih d G cells hd hr => ?_
 have hr0 := hr
 have hne := fun h : k ≠ 14 => @A9c k nm num ty fr lb ks.length h
 have har := fun h : V7 k nm num ty fr lb ks.length = true => (U3.1 h).1
 obtain ⟨R, hR⟩ : ∃ R, V7 k nm num ty fr lb ks.length = R := ⟨_, rfl⟩
 rw [hR] at hne har
 have hl2 := A9a k nm num ty fr lb ks G cells hr0 R
 have hk1 := A43 k G
 obtain ⟨tk, tks⟩ := ty
 obtain ⟨fk, fks⟩ := fr
 obtain ⟨pt, ct, pf, cf, p, c, es, rfl, hk, hnum, hlb, hty, hfr, hsl, hkl⟩ := hr.open9
 have hn := hsl.le
 clear hr hr0
 refine C2 Tryz.func138 rfl Tryz.ntmps138 Tryz.results138 rfl ?_
 intro w0
 refine A5 ?_
 refine sE (C7 rfl rfl) rfl (fun b3 => ?_)
 refine B2 ?_
 refine D8 D9 rfl ?_
 refine I6 (i := 0) (l' := [tt,ff,ff,ff,ff,ff,ff,ff,ff,ff,ff,ff,ff,ff,ff,ff,ff,ff,ff,ff,ff]) rfl D3 (qM rfl) rfl (by kernel_rfl) rfl rfl ?_
 refine A0R (i := 1) (l' := [tt,tt,ff,ff,ff,ff,ff,ff,ff,ff,ff,ff,ff,ff,ff,ff,ff,ff,ff,ff,ff]) rfl D3 (J8 rfl rfl) rfl (by kernel_rfl) rfl rfl (fun h11 => ?_) (fun h11 => ?_)
 refine aP 2 rfl (qM rfl) rfl ?_
 refine C5 3 rfl rfl rfl ?_
 refine C5 4 rfl rfl rfl ?_
 refine C5 6 rfl rfl rfl ?_
 refine C5 7 rfl rfl rfl ?_
 refine C5 8 rfl rfl rfl ?_
 refine C5 5 rfl rfl rfl ?_
 refine C5 9 rfl rfl rfl ?_
 refine aP 10 rfl (N3 rfl rfl) rfl ?_
 refine aP 11 rfl (qM rfl) rfl ?_
 refine C5 12 rfl rfl rfl ?_
 refine C5 13 rfl rfl rfl ?_
 refine C5 14 rfl rfl rfl ?_
 refine aP 15 rfl (N3 rfl rfl) rfl ?_
 refine aP 16 rfl (qM rfl) rfl ?_
 refine C5 17 rfl rfl rfl ?_
 refine C5 18 rfl rfl rfl ?_
 refine C5 19 rfl rfl rfl ?_
 refine aP 20 rfl (N3 rfl rfl) rfl ?_
 refine I8 ?_
 exact A1P
 refine aP 2 rfl (qM rfl) rfl ?_
 refine aP 3 rfl (B8 rfl) rfl ?_
 refine aL 4 rfl (C4 rfl rfl) rfl ?_
 refine aP 6 rfl (B8 rfl) rfl ?_
 refine aL 7 rfl (C4 rfl rfl) rfl ?_
 refine aP 8 rfl (pLn rfl rfl) rfl ?_
 refine A4 5 ?_
 refine N6 rfl rfl (hk1) rfl rfl rfl ?_
 refine A0R (i := 9) (l' := [tt,tt,tt,tt,tt,tt,tt,tt,tt,tt,ff,ff,ff,ff,ff,ff,ff,ff,ff,ff,ff]) rfl D3 (M1 rfl rfl) rfl (by kernel_rfl) rfl rfl (fun h51 => ?_) (fun h51 => ?_)
 refine aP 10 rfl (P6 rfl rfl) rfl ?_
 refine aP 11 rfl (qM rfl) rfl ?_
 refine C5 12 rfl rfl rfl ?_
 refine C5 13 rfl rfl rfl ?_
 refine C5 14 rfl rfl rfl ?_
 refine aP 15 rfl (N3 rfl rfl) rfl ?_
 refine aP 16 rfl (qM rfl) rfl ?_
 refine C5 17 rfl rfl rfl ?_
 refine C5 18 rfl rfl rfl ?_
 refine C5 19 rfl rfl rfl ?_
 refine aP 20 rfl (N3 rfl rfl) rfl ?_
 refine I8 ?_
 exact A1P
 refine aP 10 rfl (P6 rfl rfl) rfl ?_
 refine aP 11 rfl (qM rfl) rfl ?_
 refine aP 12 rfl (B8 rfl) rfl ?_
 refine aL 13 rfl (C4 rfl rfl) rfl ?_
 refine A0R (i := 14) (l' := [tt,tt,tt,tt,tt,tt,tt,tt,tt,tt,tt,tt,tt,tt,tt,ff,ff,ff,ff,ff,ff]) rfl D3 (qE rfl rfl) rfl (by kernel_rfl) rfl rfl (fun h79 => ?_) (fun h79 => ?_)
 refine aP 15 rfl (P6 rfl rfl) rfl ?_
 refine aP 16 rfl (qM rfl) rfl ?_
 refine C5 17 rfl rfl rfl ?_
 refine C5 18 rfl rfl rfl ?_
 refine C5 19 rfl rfl rfl ?_
 refine aP 20 rfl (N3 rfl rfl) rfl ?_
 refine I8 ?_
 exact A1P
 refine aP 15 rfl (P6 rfl rfl) rfl ?_
 refine aP 16 rfl (qM rfl) rfl ?_
 refine aL 17 rfl (A6 rfl rfl) rfl ?_
 refine A4 18 ?_
 refine S2 rfl rfl (hl2 (hne (by omega) (by omega))) rfl rfl rfl (fun h102 => ?_) (fun h102 => ?_)
 refine aP 19 rfl (pNt rfl) rfl ?_
 refine aP 20 rfl (P6 rfl rfl) rfl ?_
 refine I8 ?_
 refine C3 ?_
 (refine K2 (fun (i : Nat) => ⟨[(5, .int .i64 i), (2, .pointer (some ⟨b3, 0, none⟩)), (1, .int .i64 d)], [.blk b3 [.int .i64 k, .string nm, .int .i64 num, .int .i64 tk, .slice pt tks.length ct, .int .i64 fk, .slice pf fks.length cf, .int .i64 lb, .slice p ks.length c]], G⟩) (fun i => i ≤ ks.length ∧ ∀ j (h : j < ks.length), j < i → M8 12 14 ks[j] (13 - d + 1) = true) (fun i => ks.length - i) 0 ?_ ?_ ?_)
 exact E2
 exact ⟨by omega, by omega⟩
 (rintro i ⟨hi, hf⟩)
 refine B5 ?_
 refine sB (J8 rfl rfl) rfl rfl (fun h128 => ?_) (fun h128 => ?_)
 refine B0 ?_
 refine C3 ?_
 refine B2 ?_
 (obtain ⟨b, o, e, rfl, hl, hat, hre, hgb⟩ := hsl.kidTm hkl (i := i) (by omega) (by omega); refine sP (B6 rfl rfl rfl (by omega)) rfl rfl ?_)
 refine sL (A3 rfl rfl (hat _) hl) rfl rfl ?_
 refine F0 ?_
 refine sP (P3 rfl rfl (by omega) (by omega)) rfl rfl ?_
 (have hih := ih ks[i] (List.getElem_mem (by omega)) (d - 1) G _ (by omega) hre; rw [show 13 - (d - 1) = 13 - d + 1 by omega] at hih; refine E8 rfl hih rfl rfl (fun h145 => ?_) (fun h145 => ?_))
 refine E1 ?_
 refine sP (J6 rfl rfl (by omega) (by omega)) rfl rfl ?_
 refine A5 ?_
 refine K3 (i + 1) ?_ ?_ ?_
 exact E2
 exact A46
 omega
 refine K4 ?_
 exact A6p
 refine H6 ?_
 (rw [A2E (by omega) (by omega) (hR.trans (by assumption)), (A0W 12 14 ks _).2 (fun j hj => hf j hj (by omega))]; exact ⟨rfl, rfl, rfl⟩)
 refine aP 19 rfl (pNf rfl) rfl ?_
 refine aP 20 rfl (P6 rfl rfl) rfl ?_
 refine I8 ?_
 exact A1P
theorem A3h (t : Tm) (G : IM) (cells : List Value) (hcnt : D6 t ≤ 4294967296) (hr : B3 G t cells) :
  Fn Tryz.prog 95 [.agg ⟨cells⟩] [] G (H5 (.bool (S9 t)) G) := by
 have hl := hr.len
 have hv := B3Z t 12 G cells (by omega) hr
 have hc := fun h => A9p 12 14 t 12 G cells (by omega) h hcnt hr
 have hi := A0L t
 obtain ⟨R, hR⟩ : ∃ R, S9 t = R := ⟨_, rfl⟩
 rw [hR] at hi ⊢
 refine C2 Tryz.func95 rfl Tryz.ntmps95 Tryz.results95 rfl ?_
 intro w0
 refine A5 ?_
 refine sE (C7 rfl rfl) rfl (fun b3 => ?_)
 refine B2 ?_
 refine sL (A3 rfl rfl (B1 (by repeat first | exact mH | apply mT)) (by assumption)) rfl rfl ?_
 refine E8 rfl (hv) rfl rfl (fun h10 => ?_) (fun h10 => ?_)
 refine F0 ?_
 refine sL (A3 rfl rfl (B1 (by repeat first | exact mH | apply mT)) (by assumption)) rfl rfl ?_
 refine H9 rfl (hc (by assumption)) rfl rfl ?_
 refine sB (A0n rfl rfl) rfl rfl (fun h14 => ?_) (fun h14 => ?_)
 refine B0 ?_
 exact ⟨rfl, by rw [hi.2 ⟨by assumption, by omega⟩], rfl⟩
 refine B0 ?_
 exact A48
 refine J0 ?_
 exact A48
theorem Sw.same {hp hp' : List A7} {e : A7} (h : Sw hp e e hp') : hp' = hp := by
 generalize he : e = e' at h
 have : ∀ {hp e e' hp'}, Sw hp e e' hp' → e = e' → hp' = hp := by
  intro hp e e' hp' h
  induction h with
  | here => rintro rfl; rfl
  | there _ ih => intro he; rw [ih he]
 subst he
 exact this h rfl
section
variable {P : Program} {Γ : M2} {env : M7} {hp : List A7} {G : IM} {ty : TypeId}
theorem A9r {d : Nat} {x y : Operand} {t el : TypeId} {i : L4} {sz by' : Nat} {zs : List Value} [hI : I4 P t i] {ie : L4} [hEl : I4 P el ie] (hd' : i.desc = .slice el) [hE : Y8 P el sz by' zs] {p q : Option Addr} {c n m c2 : Nat} {cs news : List Value} {hp' : Option Addr → Nat → List A7}
  (hd : Nat.blt d Γ.n = true) (hx : evo env x = some (.slice p n c)) (hy : evo env y = some (.slice q m c2)) (hsz : Nat.blt 0 sz = true)
  (hm : ∀ p' c', Sw hp (.slc p c el sz n cs) (.slc p' c' el sz (n + m) (cs ++ news)) (hp' p' c'))
  (hS : Sl G q m c2 sz news) (h1 : ∀ u ∈ news, u.oneCell' = true) (hc : n ≤ c)
  (h63 : n + m ≤ maxLen) (hb : (n + m) * by' ≤ 140737488355328) :
  X4 P Γ ⟨env, hp, G⟩ (some d) (.call ⟨.builtin .append, ⟨[x, y]⟩, ⟨[t, t]⟩⟩) ty (K0 p) (fun σ' => ∃ p' c', σ' = ⟨(d, .slice p' (n + m) c') :: env, hp' p' c', G⟩) := by
 obtain ⟨hl, _, _, hat⟩ := hS
 rcases Nat.eq_zero_or_pos m with rfl | hm0
 ·obtain rfl : news = [] := List.length_eq_zero_iff.1 (by omega)
  have hpu := B2Q (P := P) (Γ := Γ) (hp := hp) (G := G) (ty := ty) (t := t) (el := el) hd' hx hy hc
  refine ⟨fun a w hs pos af gd Q next hn => ?_⟩
  simp only [Oper.wp, hpu.run a w hs, Oper.upon]
  refine hn _ _ _ (hs.put d _ (by simpa using hd) hs.res) (Ext.refl _ _) ⟨p, c, ?_⟩
  have h0 := hm p c
  simp only [Nat.add_zero, List.append_nil] at h0 ⊢
  rw [h0.same]
 ·obtain ⟨b, o, full, rfl, hg, hv⟩ := hat.resolve_left (by omega)
  exact A5W hd' hd hx hy hsz hm (A4J hg hv) hl h1 h63 hb
variable {K : Po} {ops : Array Oper} {rest : List Oper} {pos : String} {af : Array Edge} {gd : Option (Nat × Bool)}
theorem A6w {d : Nat} {x y : Operand} {t el : TypeId} {i : L4} {sz by' : Nat} {zs : List Value} [hI : I4 P t i] {ie : L4} [hEl : I4 P el ie] [hE : Y8 P el sz by' zs] {p q : Option Addr} {c n m c2 : Nat} {cs news : List Value} {hp' : Option Addr → Nat → List A7}
  (hd' : i.desc = .slice el) (hd : Nat.blt d Γ.n = true) (hx : evo env x = some (.slice p n c)) (hy : evo env y = some (.slice q m c2)) (hsz : Nat.blt 0 sz = true)
  (hm : ∀ p' c', Sw hp (.slc p c el sz n cs) (.slc p' c' el sz (n + m) (cs ++ news)) (hp' p' c'))
  (hS : Sl G q m c2 sz news) (h1 : ∀ u ∈ news, u.oneCell' = true) (hc : n ≤ c)
  (h63 : n + m ≤ maxLen) (hb : (n + m) * by' ≤ 140737488355328) (hw : L6 ops env gd = some true)
  (k : ∀ p' c', I1 P Γ ops rest K ⟨(d, .slice p' (n + m) c') :: env, hp' p' c', G⟩) : I1 P Γ ops (⟨some d, .call ⟨.builtin .append, ⟨[x, y]⟩, ⟨[t, t]⟩⟩, ty, pos, af, gd⟩ :: rest) K ⟨env, hp, G⟩ :=
 J5 (A9r hd' hd hx hy hsz hm hS h1 hc h63 hb) hw (by rintro _ ⟨p', c', rfl⟩; exact k p' c')
theorem A3i {H : List (Nat × Nat)} {fuel : Nat} {listed l' : List Bool} {j d : Nat} {cs : List Value} {x y : Operand} {t el : TypeId} {i : L4} {sz by' : Nat} {zs : List Value} [hI : I4 P t i] {ie : L4} [hEl : I4 P el ie] [hE : Y8 P el sz by' zs] {p q : Option Addr} {c n m c2 : Nat} {news : List Value} {hp' : Option Addr → Nat → List A7} {H' : List (Nat × Nat)}
  (hi : ops[j]? = some ⟨some d, .call ⟨.builtin .append, ⟨[x, y]⟩, ⟨[t, t]⟩⟩, ty, pos, af, gd⟩) (hd' : i.desc = .slice el)
  (hd : Nat.blt d Γ.n = true) (hx : evo env x = some (.slice p n c)) (hy : evo env y = some (.slice q m c2)) (hsz : Nat.blt 0 sz = true)
  (hm : ∀ p' c', Sw hp (.slc p c el sz n cs) (.slc p' c' el sz (n + m) (cs ++ news)) (hp' p' c'))
  (hS : Sl G q m c2 sz news) (h1 : ∀ u ∈ news, u.oneCell' = true) (hc : n ≤ c)
  (h63 : n + m ≤ maxLen) (hb : (n + m) * by' ≤ 140737488355328) (hw : L6 ops env gd = some true) (hl : listed.set j true = l')
  (hok : A9 ops j hp G (.slc p c el sz n cs) H H')
  (k : ∀ p' c', N2 P Γ ops K H' fuel l' ⟨(d, .slice p' (n + m) c') :: env, hp' p' c', G⟩) : V6 P Γ ops K H fuel listed j ⟨env, hp, G⟩ :=
 A3S hi (A9r hd' hd hx hy hsz hm hS h1 hc h63 hb) hw hl (fun _ _ hs => hok.spec hs) hok.filter (by rintro _ ⟨p', c', rfl⟩; exact k p' c')
theorem X8 {H H' : List (Nat × Nat)} {fuel : Nat} {listed l' : List Bool} {j d : Nat} {f : FuncId} [hF : C0 P f] {xs : List Operand} {ats : Array TypeId} {vs : List Value} {e : A7} {rst : List A7} {post : IM → Value → List A7 → Prop}
  (hi : ops[j]? = some ⟨some d, .call ⟨.value (.func f), ⟨xs⟩, ats⟩, ty, pos, af, gd⟩) (hx : evl env xs = some vs) (h : Fn P f vs [e] G post) (hp' : hp.Perm ([e] ++ rst)) (hw : L6 ops env gd = some true) (hd : Nat.blt d Γ.n = true) (hl : listed.set j true = l')
  (hok : A9 ops j hp G e H H')
  (k : ∀ v G' outs, C6 G G' → post G' v outs → N2 P Γ ops K H' fuel l' ⟨(d, v) :: env, outs ++ rst, G'⟩) : V6 P Γ ops K H fuel listed j ⟨env, hp, G⟩ :=
 A3S hi (A4L hx h hp' hd) hw hl (fun _ _ hs => by simpa [Fp] using hok.spec hs) hok.filter (by rintro _ ⟨v, G', outs, rfl, hle, hq⟩; exact k v G' outs hle hq)
end
section forget
variable {P : Program} {Γ : M2} {env : M7} {hp : List A7} {G : IM} {K : Po} {ops : Array Oper} {rest : List Oper} {ty : TypeId} {pos : String} {af : Array Edge} {gd : Option (Nat × Bool)}
end forget
def tAt : Tm → List Int → Option Tm
 | t, [] => some t
 | .mk _ _ _ _ _ _ ks, i :: is => if h : 0 ≤ i ∧ i < ks.length then tAt (ks[i.toNat]'(by omega)) is else none
def z9 : List Value := [.int .i64 0, .string ⟨⟨[]⟩⟩, .int .i64 0, .int .i64 0, .slice none 0 0, .int .i64 0, .slice none 0 0, .int .i64 0, .slice none 0 0]
def AtP (t : Tm) (path : List Int) (G : IM) : IM → Value → List A7 → Prop := fun G' v outs => G' = G ∧ outs = [] ∧
 ((∃ x cells, tAt t path = some x ∧ B3 G x cells ∧ v = .tuple ⟨[.agg ⟨cells⟩, .bool true]⟩) ∨ (tAt t path = none ∧ v = .tuple ⟨[.agg ⟨z9⟩, .bool false]⟩))
def I3 : Tm := .mk 0 ⟨⟨[]⟩⟩ 0 (.mk 0 []) (.mk 0 []) 0 []
theorem Q4.zero (G : IM) : Q4 G I3 z9 [] := by
 simp only [I3, Q4, Q9, O5, O6, z9]
 refine ⟨[.int .i64 0, .slice none 0 0], [.int .i64 0, .slice none 0 0], none, 0, [], [], [], [], rfl, ⟨by omega, by omega⟩, ⟨by omega, by omega⟩, ⟨by omega, by omega⟩, ?_, ?_, E0.nil _ _, ⟨rfl, rfl⟩, rfl, by simp [K0]⟩
 ·exact ⟨none, 0, [], [], rfl, ⟨by omega, by omega⟩, E0.nil _ _, ⟨rfl, rfl⟩, rfl, by simp [K0]⟩
 ·exact ⟨none, 0, [], [], rfl, ⟨by omega, by omega⟩, E0.nil _ _, ⟨rfl, rfl⟩, rfl, by simp [K0]⟩
def B8n (t : Tm) (path : List Int) : Tm × Bool := if M9 t = true then (match tAt t path with | some x => (x, true) | none => (I3, false)) else (I3, false)
def TbP (r : Tm × Bool) (G : IM) : IM → Value → List A7 → Prop := M3 fun G' v => ∃ cells F, v = .tuple ⟨[.agg ⟨cells⟩, .bool r.2]⟩ ∧ Q4 (C9 G' G) r.1 cells F ∧ F.Nodup
structure A49 {ι : Type} (S : ι → Sy) (φ : ι → Prop) (e : Exit) (σ : Sy) : Prop where
 run : match e with
  | .normal => ∃ i, φ i ∧ Sub σ (S i)
  | _ => False
section cut
variable {P : Program} {Γ : M2} {K : Po} {σ : Sy} {ι : Type}
theorem A0j {c y : Code} (S : ι → Sy) (φ : ι → Prop) (h : J2 P Γ c (A49 S φ) σ) (k : ∀ i, φ i → J2 P Γ y K (S i)) : J2 P Γ c (A02 P Γ y K) σ := by
 refine tri_post h ?_
 rintro e σ ⟨hk⟩
 cases e with
 | normal => obtain ⟨i, hi, hs⟩ := hk; exact ⟨A7S hs (k i hi)⟩
 | _ => exact hk.elim
where
 tri_post {c : Code} {K K' : Po} {σ : Sy} (h : J2 P Γ c K σ) (hk : ∀ e σ, K e σ → K' e σ) : J2 P Γ c K' σ := A5K h hk
theorem P8 {S : ι → Sy} {φ : ι → Prop} {σ : Sy} (i : ι) (hs : Sub σ (S i)) (h : φ i) : A49 S φ .normal σ := ⟨⟨i, h, hs⟩⟩
theorem B30 {S : ι → Sy} {φ : ι → Prop} : Z7 (A49 S φ) := fun _ _ h => h.run
instance npC5 {S : ι → Sy} {φ : ι → Prop} : NpC (A49 S φ) := ⟨B30⟩
end cut
section take
variable {P : Program} {Γ : M2} {env : M7} {hp : List A7} {G : IM} {K : Po} {ops : Array Oper} {rest : List Oper} {ty : TypeId} {pos : String} {af : Array Edge} {gd : Option (Nat × Bool)}
theorem I9 {d : Nat} {f : FuncId} [hF : C0 P f] {xs : List Operand} {ats : Array TypeId} {vs : List Value} {ins rst : List A7} {post : IM → Value → List A7 → Prop}
  (hx : evl env xs = some vs) (h : Fn P f vs ins G post) (hp' : hp.Perm (ins ++ rst)) (hw : L6 ops env gd = some true) (hd : Nat.blt d Γ.n = true)
  (k : ∀ v G' outs, C6 G G' → post G' v outs → I1 P Γ ops rest K ⟨(d, v) :: env, outs ++ rst, G'⟩) : I1 P Γ ops (⟨some d, .call ⟨.value (.func f), ⟨xs⟩, ats⟩, ty, pos, af, gd⟩ :: rest) K ⟨env, hp, G⟩ :=
 J5 (A4L hx h hp' hd) hw (by rintro _ ⟨v, G', outs, rfl, hle, hq⟩; exact k v G' outs hle hq)
end take
theorem A0k (G : IM) (br : Nat) (pb : Option Addr) (nb cb p : Nat) (bs : List UInt8) (q : Option Addr) (n c : Nat) (xs : List Value) (hb : Sl G pb nb cb 1 (N9 bs)) (hnb : nb ≤ 2000) (hp : p < 1099511627776) (hx : Sl G q n c 1 xs) (hn : 0 < n) :
  Fn Tryz.prog 55 [.pointer (some ⟨br, 0, none⟩), .slice q n c] [rd br pb nb cb p] G (fun G' v outs => G' = G ∧ outs = [rd br pb nb cb (p + 1)] ∧ v ∈ xs) := by
 refine C2 Tryz.func55 rfl Tryz.ntmps55 Tryz.results55 rfl ?_
 intro w0
 refine I8 ?_
 (refine I9 rfl (Z1 G br pb nb cb p bs (n : Int) hb hnb hp) (List.Perm.refl _) rfl rfl (fun v G1 outs hle1 hh => ?_); obtain ⟨rfl, rfl, k, rfl, hk0, hkn⟩ := hh; obtain ⟨j, rfl⟩ := Int.eq_ofNat_of_zero_le hk0)
 (obtain ⟨b, o, v, rfl, hv, hat, _⟩ := hx.kid (i := j) (by omega); refine sP (B6 rfl rfl rfl (by omega)) rfl rfl ?_)
 refine sL (A0E rfl rfl (hat _)) rfl rfl ?_
 refine B7 ?_
 refine H7 (rT rfl) A0.refl ?_
 exact ⟨rfl, rfl, List.mem_of_getElem? hv⟩
theorem A6x (G : IM) (br : Nat) (pb : Option Addr) (nb cb p : Nat) (bs : List UInt8) (q : Option Addr) (n c : Nat) (xs : List Value) (hb : Sl G pb nb cb 1 (N9 bs)) (hnb : nb ≤ 2000) (hp : p < 1099511627776) (hx : Sl G q n c 1 xs) (hn : 0 < n) :
  Fn Tryz.prog 76 [.pointer (some ⟨br, 0, none⟩), .slice q n c] [rd br pb nb cb p] G (fun G' v outs => G' = G ∧ outs = [rd br pb nb cb (p + 1)] ∧ v ∈ xs) := by
 refine C2 Tryz.func76 rfl Tryz.ntmps76 Tryz.results76 rfl ?_
 intro w0
 refine I8 ?_
 (refine I9 rfl (Z1 G br pb nb cb p bs (n : Int) hb hnb hp) (List.Perm.refl _) rfl rfl (fun v G1 outs hle1 hh => ?_); obtain ⟨rfl, rfl, k, rfl, hk0, hkn⟩ := hh; obtain ⟨j, rfl⟩ := Int.eq_ofNat_of_zero_le hk0)
 (obtain ⟨b, o, v, rfl, hv, hat, _⟩ := hx.kid (i := j) (by omega); refine sP (B6 rfl rfl rfl (by omega)) rfl rfl ?_)
 refine sL (A0E rfl rfl (hat _)) rfl rfl ?_
 refine B7 ?_
 refine H7 (rT rfl) A0.refl ?_
 exact ⟨rfl, rfl, List.mem_of_getElem? hv⟩
theorem A1Q (G : IM) : Fn Tryz.prog 77 [] [] G (H5 (.agg ⟨[.int .i64 1, .slice none 0 0]⟩) G) := by
 refine C2 Tryz.func77 rfl Tryz.ntmps77 Tryz.results77 rfl ?_
 intro w0
 refine A5 ?_
 refine sE (A8 rfl) rfl (fun b3 => ?_)
 refine E1 ?_
 refine N4 (rC rfl (A6 rfl rfl)) ?_
 exact ⟨rfl, rfl, rfl⟩
def dB : Nat → Nat
 | 0 => 0
 | d + 1 => 2 * dB d + 2
theorem B31 {d : Nat} (h : d ≤ 3) : dB (d + 1) ≤ 30 := by
 have : d = 0 ∨ d = 1 ∨ d = 2 ∨ d = 3 := by omega
 rcases this with rfl | rfl | rfl | rfl <;> decide
theorem B32 (k : Int) : V1 k ≤ 2 := by
 unfold V1; split <;> try split
 all_goals omega
theorem A5a : ∀ (ts : List Ty) (t : Ty), O8 (ts ++ [t]) = O8 ts + K6 t
 | [], t => by simp [O8]
 | a :: ts, t => by simp only [List.cons_append, O8, A5a ts t]; omega
theorem D5.ty {G : IM} {k : Int} {ts : List Ty} {es : List (List Value)} {p : Option Addr} {n c : Nat} (h : D5 G ts es) (hn : ts.length = n) (hs : Sl G p n c 2 es.flatten) (hk : H1 k) : C1 G (.mk k ts) [.int .i64 k, .slice p n c] := by
 subst hn
 simp only [C1]
 exact ⟨p, c, es, rfl, hk, E0.of hs h.len h.all (fun e he => (h.each e he).2), h⟩
theorem A35 (br : Nat) (pb : Option Addr) (nb cb : Nat) (bs : List UInt8) (hnb : nb ≤ 2000) : ∀ (d p : Nat) (G : IM), d ≤ 1000 → Sl G pb nb cb 1 (N9 bs) → p + dB (d + 1) < 1099511627776 →
  Fn Tryz.prog 79 [.pointer (some ⟨br, 0, none⟩), .int .i64 ((d + 1 : Nat) : Int)] [rd br pb nb cb p] G
   (A0q br pb nb cb p (dB (d + 1)) (fun G' v => ∃ t cells, v = .agg ⟨cells⟩ ∧ C1 G' t cells ∧ K6 t ≤ ((dB (d + 1) : Nat) : Int) ∧ Q6 d t)) := by
 refine fun d => Nat.strongRecOn d fun d ih p G hd hb hp => ?_
 rw [dB] at hp ⊢
 refine C2 Tryz.func79 rfl Tryz.ntmps79 Tryz.results79 rfl ?_
 intro w0
 refine A5 ?_
 refine sE (A8 rfl) rfl (fun b3 => ?_)
 refine B2 ?_
 (refine J5 (D2 rfl rfl rfl (by omega) (by unfold maxLen; omega) rfl) rfl ?_; rintro _ ⟨b9, rfl⟩)
 (refine V0 (by repeat (first | exact Pk.here | apply Pk.there)) (fun G1 hle1 hsl1 _ => ?_); refine I9 rfl (A0k G1 br pb nb cb p bs _ _ _ _ (hb.mono hle1) hnb (by omega) hsl1 (by decide)) (Pk.perm (by repeat (first | exact Pk.here | apply Pk.there))) rfl rfl (fun v G2 outs hle2 hh => ?_); obtain ⟨rfl, rfl, hv⟩ := hh; replace hb := hb.mono hle1; obtain ⟨k, rfl, hk1⟩ : ∃ k, v = .int .i64 k ∧ 1 ≤ k ∧ k ≤ 5 := (by simp only [List.mem_cons, List.not_mem_nil, or_false] at hv; rcases hv with rfl | rfl | rfl | rfl | rfl | rfl | rfl <;> exact ⟨_, rfl, by decide, by decide⟩))
 refine B2 ?_
 (have hv' := hv; refine A0j (fun (x : Bool) => ⟨(16, .bool x) :: [(5, .int .i64 k), (4, .pointer (some ⟨b3, 0, none⟩)), (0, .pointer (some ⟨br, 0, none⟩)), (1, .int .i64 ((d + 1 : Nat) : Int))], [rd br pb nb cb (p + 1), .blk b3 [.int .i64 0, .slice none 0 0]], G2⟩) (fun x => x = false → d = 0 → k < 4) ?_ ?_)
 refine A5 ?_
 refine sB (J8 rfl rfl) rfl rfl (fun h19 => ?_) (fun h19 => ?_)
 refine A5 ?_
 refine sB (A0S rfl rfl) rfl rfl (fun h22 => ?_) (fun h22 => ?_)
 refine A5 ?_
 refine P8 true (M0 (by repeat (first | exact E7.nil | refine E7.cons rfl ?_)) (by repeat (first | exact A0.refl | exact A0.nil | refine A0.cons (by repeat (first | exact Pk.here | apply Pk.there)) ?_ | apply A0.drop))) ?_
 (show _ = false → d = 0 → k < 4; intro hf h0; first | exact absurd hf (by decide) | omega)
 refine A5 ?_
 refine P8 false (M0 (by repeat (first | exact E7.nil | refine E7.cons rfl ?_)) (by repeat (first | exact A0.refl | exact A0.nil | refine A0.cons (by repeat (first | exact Pk.here | apply Pk.there)) ?_ | apply A0.drop))) ?_
 (show _ = false → d = 0 → k < 4; intro hf h0; first | exact absurd hf (by decide) | omega)
 refine B2 ?_
 refine P8 false (M0 (by repeat (first | exact E7.nil | refine E7.cons rfl ?_)) (by repeat (first | exact A0.refl | exact A0.nil | refine A0.cons (by repeat (first | exact Pk.here | apply Pk.there)) ?_ | apply A0.drop))) ?_
 (show _ = false → d = 0 → k < 4; intro hf h0; first | exact absurd hf (by decide) | omega)
 (rintro x hx; clear hv)
 (show J2 _ _ (.cond (.tmp 16) _ _) _ _; refine A0j (fun (x : Int) => ⟨[(5, .int .i64 x), (4, .pointer (some ⟨b3, 0, none⟩)), (0, .pointer (some ⟨br, 0, none⟩)), (1, .int .i64 ((d + 1 : Nat) : Int))], [rd br pb nb cb (p + 1), .blk b3 [.int .i64 0, .slice none 0 0]], G2⟩) (fun x => 1 ≤ x ∧ x ≤ 5 ∧ (d = 0 → x < 4)) (A3K rfl (fun hxt => ?_) (fun hxf => ?_)) ?_)
 refine B9 ?_
 refine P8 1 (M0 (by repeat (first | exact E7.nil | refine E7.cons rfl ?_)) (by repeat (first | exact A0.refl | exact A0.nil | refine A0.cons (by repeat (first | exact Pk.here | apply Pk.there)) ?_ | apply A0.drop))) ?_
 (first | exact ⟨by omega, by omega, by omega⟩ | exact ⟨by omega, by omega, fun h0 => by have := hx hxf h0; omega⟩)
 refine tK ?_
 refine P8 k (M0 (by repeat (first | exact E7.nil | refine E7.cons rfl ?_)) (by repeat (first | exact A0.refl | exact A0.nil | refine A0.cons (by repeat (first | exact Pk.here | apply Pk.there)) ?_ | apply A0.drop))) ?_
 (first | exact ⟨by omega, by omega, by omega⟩ | exact ⟨by omega, by omega, fun h0 => by have := hx hxf h0; omega⟩)
 (rintro kk ⟨hk2, hk3, hk4⟩; have hop := B32 kk; have hk5 := (A1j kk).1; have hk6 := (A1j kk).2.1; have hK := A8W kk)
 refine B7 ?_
 refine sE (A8 rfl) rfl (fun b53 => ?_)
 refine E1 ?_
 refine C3 ?_
 (refine U9 25 2 ?_; refine K2 (fun (x : Nat × Option Addr × Nat × List Ty × List (List Value) × Nat × IM) => ⟨[(7, .int .i64 x.1), (5, .int .i64 kk), (6, .pointer (some ⟨b53, 0, none⟩)), (4, .pointer (some ⟨b3, 0, none⟩)), (0, .pointer (some ⟨br, 0, none⟩)), (1, .int .i64 ((d + 1 : Nat) : Int))], [.blk b53 [.int .i64 kk, .slice x.2.1 x.1 x.2.2.1], .slc x.2.1 x.2.2.1 25 2 x.1 x.2.2.2.2.1.flatten, rd br pb nb cb x.2.2.2.2.2.1, .blk b3 [.int .i64 0, .slice none 0 0]], x.2.2.2.2.2.2⟩) (fun x => (∀ u ∈ x.2.2.2.1, Q6 (d - 1) u) ∧ (x.1 : Int) ≤ V1 kk ∧ C6 G2 x.2.2.2.2.2.2 ∧ x.2.2.2.1.length = x.1 ∧ D5 x.2.2.2.2.2.2 x.2.2.2.1 x.2.2.2.2.1 ∧ O8 x.2.2.2.1 ≤ ((x.1 * dB d : Nat) : Int) ∧ p + 1 ≤ x.2.2.2.2.2.1 ∧ x.2.2.2.2.2.1 ≤ p + 1 + x.1 * dB d) (fun x => (V1 kk).toNat - x.1) (0, none, 0, [], [], p + 1, G2) ?_ ?_ ?_)
 (simp only [J9]; exact E2)
 (exact ⟨by simp, by dsimp only; omega, C6.refl _, rfl, by simp [D5], by simp [O8], by dsimp only; omega, by dsimp only; omega⟩)
 (rintro ⟨i, pn, cn, ts, es', p', Gi⟩ ⟨hah, hi, hle, hlt, hst, hsum, hq1, hq2⟩; simp only [] at hah hi hle hlt hst hsum hq1 hq2 ⊢; have hid : i * dB d ≤ 2 * dB d := Nat.mul_le_mul_right _ (by omega))
 refine B2 ?_
 refine H9 rfl ((hK _)) rfl rfl ?_
 refine sB (J8 rfl rfl) rfl rfl (fun h74 => ?_) (fun h74 => ?_)
 refine B0 ?_
 refine C3 ?_
 (obtain ⟨d', rfl⟩ : ∃ d', d = d' + 1 := ⟨d - 1, by omega⟩; have hih := ih d' (by omega) p' Gi (by omega) (hb.mono hle) (by have := Nat.mul_le_mul_right (dB (d' + 1)) (show i + 1 ≤ 2 by omega); rw [Nat.succ_mul] at this; omega); refine D8 D9 rfl ?_)
 refine I6 (i := 0) (l' := [tt,ff,ff,ff,ff,ff,ff,ff,ff,ff]) rfl D3 (B8 rfl) rfl (by kernel_rfl) rfl rfl ?_
 refine aL 1 rfl (C4 rfl rfl) rfl ?_
 refine aP 2 rfl (qM rfl) rfl ?_
 refine aP 3 rfl (qM rfl) rfl ?_
 refine aP 4 rfl (A4Z rfl rfl (by omega)) rfl ?_
 refine A4 5 ?_
 (refine X8 (l' := [tt,tt,tt,tt,tt,tt,ff,ff,ff,ff]) rfl rfl hih (Pk.perm (by repeat (first | exact Pk.here | apply Pk.there))) rfl rfl rfl (by repeat (first | exact A9.nil | apply A9.dep (by decide +kernel) | apply A9.blk (by decide +kernel) (by repeat (first | exact Pk.here | apply Pk.there)) (by repeat first | exact mH | apply mT))) (fun v G3 outs hle3 hh => ?_); obtain ⟨p3, hp31, hp32, rfl, t3, cells3, rfl, hr3, hs3, ha3⟩ := hh; obtain ⟨q3, c3, es3, rfl, _⟩ := hr3.open)
 refine A4 6 ?_
 (refine E6 rfl (D2 rfl rfl rfl (by omega) (by unfold maxLen; omega) rfl) rfl rfl ?_; rintro _ ⟨b91, rfl⟩)
 refine A4 7 ?_
 refine R4 rfl rfl rfl rfl rfl rfl (fun _ _ => by repeat (first | exact Sw.here | apply Sw.there)) (O2 (by repeat first | exact mH | apply mT)) rfl (by simp [Value.oneCell']) (by unfold maxLen; omega) (by omega) rfl rfl (by repeat (first | exact A9.nil | apply A9.dep (by decide +kernel) | apply A9.blk (by decide +kernel) (by repeat (first | exact Pk.here | apply Pk.there)) (by repeat first | exact mH | apply mT))) (fun pn' cn' => ?_)
 refine aP 8 rfl (B8 rfl) rfl ?_
 refine A4 9 ?_
 refine R9 rfl rfl rfl rfl rfl rfl rfl rfl (by kernel_rfl) (by repeat first | exact Sw.here | apply Sw.there) (by rfl) ?_
 refine B2 ?_
 refine sP (J6 rfl rfl (by omega) (by omega)) rfl rfl ?_
 refine A5 ?_
 refine K3 (i + 1, pn', cn', ts ++ [t3], es' ++ [[.int .i64 t3.k, .slice q3 t3.ks.length c3]], p3, G3) ?_ ?_ ?_
 (simp only [J9]; exact E2)
 (dsimp only; have e1 : (i + 1) * dB (d' + 1) = i * dB (d' + 1) + dB (d' + 1) := Nat.succ_mul _ _; have e2 := A5a ts t3; exact ⟨by simp only [List.forall_mem_append, List.forall_mem_singleton]; exact ⟨hah, ha3⟩, by omega, hle.trans hle3, by simp [hlt], D5.snoc (hst.mono hle3) hr3, by omega, by omega, by omega⟩)
 (show (V1 kk).toNat - (i + 1) < (V1 kk).toNat - i; omega)
 refine J1 ?_
 (refine H3 (by repeat (first | exact Pk.here | apply Pk.there)) (fun G5 hle5 hsl5 hno5 => ?_))
 refine tT ?_
 refine H7 (outs := [rd br pb nb cb p']) (rC rfl (A6 rfl rfl)) (by repeat (first | exact A0.nil | refine A0.cons Pk.here ?_ | refine A0.cons (Pk.there Pk.here) ?_ | apply A0.drop)) ?_
 (refine ⟨p', by omega, by omega, rfl, .mk kk ts, _, rfl, (hst.mono hle5).ty hlt hsl5 ⟨by omega, by omega⟩, ?_, B3I hk4 (by omega) hk2 hk3 hah⟩; rw [K6]; omega)
theorem A9s (br : Nat) (pb : Option Addr) (nb cb : Nat) (bs : List UInt8) (hnb : nb ≤ 2000) (d p : Nat) (G : IM) (hd : d ≤ 1000) (hb : Sl G pb nb cb 1 (N9 bs)) (hp : p + dB (d + 1) < 1099511627776) :
  Fn Tryz.prog 79 [.pointer (some ⟨br, 0, none⟩), .int .i64 ((d + 1 : Nat) : Int)] [rd br pb nb cb p] G
   (A0q br pb nb cb p (dB (d + 1)) (fun G' v => ∃ t cells, v = .agg ⟨cells⟩ ∧ C1 G' t cells ∧ K6 t ≤ ((dB (d + 1) : Nat) : Int))) :=
 (A35 br pb nb cb bs hnb d p G hd hb hp).mono fun G' v outs _ ⟨p', h1, h2, h3, t, cells, h4, h5, h6, _⟩ => ⟨p', h1, h2, h3, t, cells, h4, h5, h6⟩
theorem B33 (br : Nat) (pb : Option Addr) (nb cb : Nat) (bs : List UInt8) (hnb : nb ≤ 2000) (p : Nat) (G : IM) (hb : Sl G pb nb cb 1 (N9 bs)) (hp : p + 31 < 1099511627776) :
  Fn Tryz.prog 57 [.pointer (some ⟨br, 0, none⟩)] [rd br pb nb cb p] G
   (A0q br pb nb cb p 31 (fun G' v => ∃ t cells, v = .agg ⟨cells⟩ ∧ C1 G' t cells ∧ K6 t ≤ 30 ∧ Q6 3 t)) := by
 refine C2 Tryz.func57 rfl Tryz.ntmps57 Tryz.results57 rfl ?_
 intro w0
 refine A5 ?_
 refine sE (A8 rfl) rfl (fun b3 => ?_)
 refine B0 ?_
 (refine J5 (D2 rfl rfl rfl (by omega) (by unfold maxLen; omega) rfl) rfl ?_; rintro _ ⟨b10, rfl⟩)
 (refine V0 (by repeat (first | exact Pk.here | apply Pk.there)) (fun G1 hle1 hsl1 _ => ?_); refine I9 rfl (A0k G1 br pb nb cb p bs _ _ _ _ (hb.mono hle1) hnb (by omega) hsl1 (by decide)) (Pk.perm (by repeat (first | exact Pk.here | apply Pk.there))) rfl rfl (fun v G2 outs hle2 hh => ?_); obtain ⟨rfl, rfl, hv⟩ := hh; replace hb := hb.mono hle1; obtain ⟨d, rfl, hd⟩ : ∃ d : Nat, v = .int .i64 ((d + 1 : Nat) : Int) ∧ d ≤ 3 := (by simp only [List.mem_cons, List.not_mem_nil, or_false] at hv; rcases hv with rfl | rfl | rfl | rfl | rfl <;> first | exact ⟨0, rfl, by decide⟩ | exact ⟨1, rfl, by decide⟩ | exact ⟨2, rfl, by decide⟩ | exact ⟨3, rfl, by decide⟩))
 (have hdB := B31 hd; refine I9 rfl (A35 br pb nb cb bs hnb d (p + 1) G2 (by omega) hb (by omega)) (Pk.perm (by repeat (first | exact Pk.here | apply Pk.there))) rfl rfl (fun v G3 outs hle3 hh => ?_); obtain ⟨p3, hp31, hp32, rfl, t3, cells3, rfl, hr3, hs3, ha3⟩ := hh; obtain ⟨q3, c3, es3, rfl, _⟩ := hr3.open)
 refine B7 ?_
 refine H7 (outs := [rd br pb nb cb p3]) (rC rfl (A6 rfl rfl)) (by repeat (first | exact A0.nil | refine A0.cons Pk.here ?_ | refine A0.cons (Pk.there Pk.here) ?_ | apply A0.drop)) ?_
 exact ⟨p3, by omega, by omega, rfl, t3, _, rfl, hr3, by omega, ha3.le hd⟩
theorem B34 (br : Nat) (pb : Option Addr) (nb cb : Nat) (bs : List UInt8) (hnb : nb ≤ 2000) (p : Nat) (G : IM) (hb : Sl G pb nb cb 1 (N9 bs)) (hp : p + 31 < 1099511627776) :
  Fn Tryz.prog 57 [.pointer (some ⟨br, 0, none⟩)] [rd br pb nb cb p] G
   (A0q br pb nb cb p 31 (fun G' v => ∃ t cells, v = .agg ⟨cells⟩ ∧ C1 G' t cells ∧ K6 t ≤ 30)) :=
 (B33 br pb nb cb bs hnb p G hb hp).mono fun G' v outs _ ⟨p', h1, h2, h3, t, cells, h4, h5, h6, _⟩ => ⟨p', h1, h2, h3, t, cells, h4, h5, h6⟩
theorem B35 (k : Int) (ks : List Ty) (G : IM) (p : Option Addr) (c : Nat) (hts : (Ty.mk k ks).small) (hr : C1 G (.mk k ks) [.int .i64 k, .slice p ks.length c]) : Fn Tryz.prog 97 [.agg ⟨[.int .i64 k, .slice p ks.length c]⟩] [] G
  (fun G' v outs => ∃ p c es, v = .agg ⟨[.int .i64 k, .slice p ks.length c]⟩ ∧ outs = [.slc p c 25 2 ks.length es.flatten] ∧ D5 G' ks es) := by
 simp only [Ty.small] at hts
 obtain ⟨hsm, hks⟩ := hts
 obtain ⟨p', c', es, he, hk, hsl, hkl⟩ := hr.open
 simp only [Ty.k, Ty.ks, List.cons.injEq, Value.slice.injEq, true_and, and_true] at he hk hsl hkl
 obtain ⟨rfl, rfl⟩ := he
 have hn := hsl.le
 refine C2 Tryz.func97 rfl Tryz.ntmps97 Tryz.results97 rfl ?_
 intro w0
 refine A5 ?_
 refine sE (C7 rfl rfl) rfl (fun b3 => ?_)
 refine sE (A8 rfl) rfl (fun b4 => ?_)
 refine B5 ?_
 refine sE (A8 rfl) rfl (fun b12 => ?_)
 refine E1 ?_
 refine C3 ?_
 (refine U9 25 2 ?_; refine K2 (fun (x : Nat × Option Addr × Nat × List (List Value) × IM) => ⟨[(4, .int .i64 x.1), (3, .pointer (some ⟨b12, 0, none⟩)), (1, .pointer (some ⟨b3, 0, none⟩)), (2, .pointer (some ⟨b4, 0, none⟩))], [.blk b12 [.int .i64 k, .slice x.2.1 x.1 x.2.2.1], .slc x.2.1 x.2.2.1 25 2 x.1 x.2.2.2.1.flatten, .blk b4 [.int .i64 0, .slice none 0 0], .blk b3 [.int .i64 k, .slice p ks.length c]], x.2.2.2.2⟩) (fun x => x.1 ≤ ks.length ∧ C6 G x.2.2.2.2 ∧ D5 x.2.2.2.2 (ks.take x.1) x.2.2.2.1) (fun x => ks.length - x.1) (0, none, 0, [], G) ?_ ?_ ?_)
 (simp only [J9]; exact E2)
 exact ⟨by simp, C6.refl _, by simp [D5]⟩
 (rintro ⟨i, pn, cn, es', Gi⟩ ⟨hi, hle, hst⟩; simp only [] at hi hle hst ⊢; replace hsl := hsl.mono hle; replace hkl := hkl.mono hle)
 refine B5 ?_
 refine sB (J8 rfl rfl) rfl rfl (fun h34 => ?_) (fun h34 => ?_)
 refine B0 ?_
 refine C3 ?_
 (obtain ⟨b, o, p2, c2, rfl, hat, hre, hgb⟩ := hsl.kidTy hkl (i := i) (by omega) (by omega); refine D8 D9 rfl ?_)
 refine I6 (i := 0) (l' := [tt,ff,ff,ff,ff,ff,ff,ff,ff,ff,ff,ff]) rfl D3 (B8 rfl) rfl (by kernel_rfl) rfl rfl ?_
 refine aL 1 rfl (C4 rfl rfl) rfl ?_
 refine aP 2 rfl (B8 rfl) rfl ?_
 refine aL 3 rfl (C4 rfl rfl) rfl ?_
 refine aP 4 rfl (qM rfl) rfl ?_
 refine aP 5 rfl (B6 rfl rfl rfl (by omega)) rfl ?_
 refine aL 6 rfl (A3 rfl rfl (hat _) rfl) rfl ?_
 refine A4 7 ?_
 (refine H4 rfl rfl (P7 ks[i] _ _ (Ty.smallL_mem hks _ (List.getElem_mem (by omega))) hre) rfl rfl rfl (fun v G1 hle1 hh => ?_); obtain ⟨cells', F', rfl, hs', hnd'⟩ := hh; have hr' := hs'.R.mono (C9.le _ _); obtain ⟨p3, c3, es3, rfl, _⟩ := hr'.open)
 refine A4 8 ?_
 (refine E6 rfl (D2 rfl rfl rfl (by omega) (by unfold maxLen; omega) rfl) rfl rfl ?_; rintro _ ⟨b53, rfl⟩)
 refine A4 9 ?_
 refine R4 rfl rfl rfl rfl rfl rfl (fun _ _ => by repeat (first | exact Sw.here | apply Sw.there)) (O2 (by repeat first | exact mH | apply mT)) rfl (by simp [Value.oneCell']) (by unfold maxLen; omega) (by omega) rfl rfl (by repeat (first | exact A9.nil | apply A9.dep (by decide +kernel) | apply A9.blk (by decide +kernel) (by repeat (first | exact Pk.here | apply Pk.there)) (by repeat first | exact mH | apply mT))) (fun pn' cn' => ?_)
 refine aP 10 rfl (B8 rfl) rfl ?_
 refine A4 11 ?_
 refine R9 rfl rfl rfl rfl rfl rfl rfl rfl (by kernel_rfl) (by repeat first | exact Sw.here | apply Sw.there) (by rfl) ?_
 refine B2 ?_
 refine sP (J6 rfl rfl (by omega) (by omega)) rfl rfl ?_
 refine A5 ?_
 refine K3 (i + 1, pn', cn', es' ++ [[.int .i64 ks[i].k, .slice p3 ks[i].ks.length c3]], G1) ?_ ?_ ?_
 (simp only [J9]; exact E2)
 (dsimp only; exact ⟨by omega, hle.trans hle1, by rw [List.take_succ_eq_append_getElem (by omega)]; exact D5.snoc (hst.mono hle1) hr'⟩)
 exact X7
 refine H6 ?_
 (obtain rfl : i = ks.length := (by omega); refine H7 (outs := [.slc pn cn 25 2 ks.length es'.flatten]) (rC rfl (A6 rfl rfl)) (by repeat (first | exact A0.nil | refine A0.cons Pk.here ?_ | refine A0.cons (Pk.there Pk.here) ?_ | apply A0.drop)) ?_)
 (rw [List.take_length] at hst; exact ⟨pn, cn, es', rfl, rfl, hst⟩)
theorem A0M (G : IM) : C1 G Q5 [.int .i64 1, .slice none 0 0] := by
 simp only [Q5, C1]
 exact ⟨none, 0, [], rfl, ⟨by omega, by omega⟩, E0.of (Sl.nil _ _) rfl (by simp) (by simp), by simp [D5]⟩
theorem A6y : K6 Q5 = 0 := rfl
theorem B36 (br : Nat) (pb : Option Addr) (nb cb : Nat) (bs : List UInt8) (hnb : nb ≤ 2000) (p : Nat) (G : IM) (hb : Sl G pb nb cb 1 (N9 bs)) (hp : p + 31 < 1099511627776) (t : Ty) (cells : List Value) (hr : C1 G t cells) (hsz : K6 t ≤ 30) :
  Fn Tryz.prog 56 [.pointer (some ⟨br, 0, none⟩), .agg ⟨cells⟩] [rd br pb nb cb p] G
   (A0q br pb nb cb p 2 (fun G' v => ∃ t cells, v = .agg ⟨cells⟩ ∧ C1 G' t cells ∧ K6 t ≤ 38)) := by
 have hts := A3Z t (by omega)
 obtain ⟨k, ks⟩ := t
 rw [K6] at hsz
 have hsn := A17 ks
 obtain ⟨q0, c0, es0, rfl, hk, _⟩ := hr.open
 simp only [Ty.k, Ty.ks] at hk hr ⊢
 refine C2 Tryz.func56 rfl Tryz.ntmps56 Tryz.results56 rfl ?_
 intro w0
 refine A5 ?_
 refine sE (C7 rfl rfl) rfl (fun b3 => ?_)
 refine sE (A8 rfl) rfl (fun b4 => ?_)
 refine B2 ?_
 (refine A1F rfl (B35 k ks G q0 c0 hts hr) rfl rfl (fun v G1 outs hle1 hh => ?_); obtain ⟨q, c, es, rfl, rfl, hst⟩ := hh)
 refine sE (A8 rfl) rfl (fun b11 => ?_)
 refine B5 ?_
 (refine I9 rfl (Z1 G1 br pb nb cb p bs 40 (hb.mono hle1) hnb (by omega)) (Pk.perm (by repeat (first | exact Pk.here | apply Pk.there))) rfl rfl (fun v G2 outs hle2 hh => ?_); obtain ⟨rfl, rfl, j, rfl, hj0, hj1⟩ := hh; replace hb := hb.mono hle1)
 refine A5 ?_
 (show J2 _ _ (.block 0 _) _ _; refine A0j (fun (x : Ty × Option Addr × Nat × Nat × IM) => ⟨[(5, .pointer (some ⟨b11, 0, none⟩)), (4, .pointer (some ⟨b4, 0, none⟩))], [.blk b11 [.int .i64 x.1.k, .slice x.2.1 x.1.ks.length x.2.2.1], .blk b4 [.int .i64 0, .slice none 0 0], rd br pb nb cb x.2.2.2.1], x.2.2.2.2⟩) (fun x => C6 G2 x.2.2.2.2 ∧ C1 x.2.2.2.2 x.1 [.int .i64 x.1.k, .slice x.2.1 x.1.ks.length x.2.2.1] ∧ K6 x.1 ≤ 38 ∧ p ≤ x.2.2.2.1 ∧ x.2.2.2.1 ≤ p + 2) ?_ ?_)
 refine C3 (tS (tR (sB (qE rfl rfl) rfl rfl (fun h26 => ?_) (fun h26 => ?_))))
 refine B0 ?_
 (refine J5 (D2 rfl rfl rfl (by omega) (by unfold maxLen; omega) rfl) rfl ?_; rintro _ ⟨b33, rfl⟩)
 (refine V0 (by repeat (first | exact Pk.here | apply Pk.there)) (fun G3 hle3 hsl3 _ => ?_); refine V0 (by repeat (first | exact Pk.here | apply Pk.there)) (fun G4 hle4 hsl4 _ => ?_); refine I9 rfl (A0k G4 br pb nb cb (p + 1) bs _ _ _ _ (hb.mono (hle3.trans hle4)) hnb (by omega) (hsl3.mono hle4) (by decide)) (Pk.perm (by repeat (first | exact Pk.here | apply Pk.there))) rfl rfl (fun v G5 outs hle5 hh => ?_); obtain ⟨rfl, rfl, hv⟩ := hh; obtain ⟨k', rfl, hk'⟩ : ∃ k', v = .int .i64 k' ∧ H1 k' := (by simp only [List.mem_cons, List.not_mem_nil, or_false] at hv; rcases hv with rfl | rfl | rfl | rfl | rfl <;> exact ⟨_, rfl, by unfold H1; omega⟩))
 refine B7 ?_
 refine P8 (.mk k' ks, q, c, p + 2, G5) ?_ ?_
 (simp only [J9]; exact E2)
 (dsimp only; exact ⟨hle3.trans hle4, (hst.mono (hle3.trans hle4)).ty rfl hsl4 hk', by (rw [K6]; omega), by omega, by omega⟩)
 refine B0 ?_
 refine sB (qE rfl rfl) rfl rfl (fun h48 => ?_) (fun h48 => ?_)
 refine B7 ?_
 refine D8 D9 rfl ?_
 refine I6 (i := 0) (l' := [tt,ff,ff,ff,ff,ff,ff]) rfl D3 (B8 rfl) rfl (by kernel_rfl) rfl rfl ?_
 refine aL 1 rfl (C4 rfl rfl) rfl ?_
 refine A4 2 ?_
 refine N6 rfl rfl ((A1Q _)) rfl rfl rfl ?_
 refine A4 3 ?_
 (refine E6 rfl (D2 rfl rfl rfl (by omega) (by unfold maxLen; omega) rfl) rfl rfl ?_; rintro _ ⟨b59, rfl⟩)
 refine A4 4 ?_
 refine R4 rfl rfl rfl rfl rfl rfl (fun _ _ => by repeat (first | exact Sw.here | apply Sw.there)) (O2 (by repeat first | exact mH | apply mT)) rfl (by simp [Value.oneCell']) (by unfold maxLen; omega) (by omega) rfl rfl (by repeat (first | exact A9.nil | apply A9.dep (by decide +kernel) | apply A9.blk (by decide +kernel) (by repeat (first | exact Pk.here | apply Pk.there)) (by repeat first | exact mH | apply mT))) (fun qn cn => ?_)
 (refine A4O (cs := es.flatten ++ [.int .i64 1, .slice none 0 0]) (by repeat (first | exact Pk.here | apply Pk.there)) (fun G6 hle6 hsl6 _ => ?_))
 refine aP 5 rfl (B8 rfl) rfl ?_
 refine A4 6 ?_
 refine R9 rfl rfl rfl rfl rfl rfl rfl rfl (by kernel_rfl) (by repeat first | exact Sw.here | apply Sw.there) (by rfl) ?_
 refine A5 ?_
 refine P8 (.mk k (ks ++ [Q5]), qn, cn, p + 1, G6) (by rw [show (Ty.mk k (ks ++ [Q5])).ks.length = ks.length + 1 from by simp [Ty.ks]]; exact E2) ?_
 (dsimp only; refine ⟨hle6, D5.ty (ts := ks ++ [Q5]) (es := es ++ [[.int .i64 1, .slice none 0 0]]) (D5.snoc (hst.mono hle6) (A0M _)) rfl (by simpa [Ty.ks] using hsl6) hk, ?_, by omega, by omega⟩; rw [K6, A5a, A6y, List.length_append]; simp only [List.length_singleton]; omega)
 refine B0 ?_
 refine sB (qE rfl rfl) rfl rfl (fun h76 => ?_) (fun h76 => ?_)
 refine E1 ?_
 refine C3 ?_
 (refine A14 (by repeat (first | exact Pk.here | apply Pk.there)) (fun G3 hle3 hsl3 _ => ?_); refine K2 (fun (x : Nat × Ty × Option Addr × Nat × IM) => ⟨[(6, .int .i64 x.1), (5, .pointer (some ⟨b11, 0, none⟩)), (4, .pointer (some ⟨b4, 0, none⟩))], [.blk b11 [.int .i64 x.2.1.k, .slice x.2.2.1 x.2.1.ks.length x.2.2.2.1], .blk b4 [.int .i64 0, .slice none 0 0], rd br pb nb cb (p + 1)], x.2.2.2.2⟩) (fun x => x.1 ≤ 4 ∧ C6 G3 x.2.2.2.2 ∧ C1 x.2.2.2.2 x.2.1 [.int .i64 x.2.1.k, .slice x.2.2.1 x.2.1.ks.length x.2.2.2.1] ∧ K6 x.2.1 ≤ 30 + 2 * x.1) (fun x => 4 - x.1) (0, .mk k ks, q, c, G3) ?_ ?_ ?_)
 (simp only [J9]; exact E2)
 (dsimp only; exact ⟨by omega, C6.refl _, (hst.mono hle3).ty rfl hsl3 hk, by (rw [K6]; omega)⟩)
 (rintro ⟨i, ⟨tk, tks⟩, qi, ci, Gi⟩ ⟨hi, hlei, hri, hsi⟩; simp only [Ty.k, Ty.ks] at hi hlei hri hsi ⊢)
 refine B7 ?_
 refine sB (J8 rfl rfl) rfl rfl (fun h95 => ?_) (fun h95 => ?_)
 refine B0 ?_
 refine C3 ?_
 refine D8 D9 rfl ?_
 refine L3 (i := 1) (l' := [ff,tt,ff,ff,ff]) rfl D3 (A6 rfl rfl) rfl (by kernel_rfl) rfl rfl ?_
 refine A4 0 ?_
 refine N6 rfl rfl ((A1Q _)) rfl rfl rfl ?_
 refine A4 2 ?_
 (refine E6 rfl (D2 rfl rfl rfl (by omega) (by unfold maxLen; omega) rfl) rfl rfl ?_; rintro _ ⟨b108, rfl⟩)
 (refine A4O (cs := [.int .i64 1, .slice none 0 0, .int .i64 tk, .slice qi tks.length ci]) (by repeat (first | exact Pk.here | apply Pk.there)) (fun G7 hle7 hsl7 _ => ?_))
 refine aP 3 rfl (X5 rfl rfl) rfl ?_
 refine A4 4 ?_
 refine R9 rfl rfl rfl rfl rfl rfl rfl rfl (by kernel_rfl) (by repeat first | exact Sw.here | apply Sw.there) (by rfl) ?_
 refine B2 ?_
 refine sP (J6 rfl rfl (by omega) (by omega)) rfl rfl ?_
 refine A5 ?_
 refine K3 (i + 1, .mk 4 [Q5, .mk tk tks], some ⟨b108, 0, none⟩, 2, G7) ?_ ?_ ?_
 (simp only [J9]; exact E2)
 (dsimp only; refine ⟨by omega, hlei.trans hle7, D5.ty (ts := [Q5, .mk tk tks]) (es := [[.int .i64 1, .slice none 0 0], [.int .i64 tk, .slice qi tks.length ci]]) ⟨_, _, rfl, A0M _, _, _, rfl, hri.mono hle7, rfl⟩ rfl hsl7 ⟨by omega, by omega⟩, ?_⟩; rw [K6, O8, O8, O8, A6y]; simp only [List.length_cons, List.length_nil]; omega)
 (show 4 - (i + 1) < 4 - i; omega)
 refine D0 ?_
 refine P8 (.mk tk tks, qi, ci, p + 1, Gi) ?_ ?_
 (simp only [J9]; exact E2)
 (dsimp only; exact ⟨hle3.trans hlei, hri, by omega, by omega, by omega⟩)
 refine B7 ?_
 (refine A14 (by repeat (first | exact Pk.here | apply Pk.there)) (fun G8 hle8 hsl8 _ => ?_); refine tK ?_)
 refine F0 ?_
 refine P8 (.mk k ks, q, c, p + 1, G8) ?_ ?_
 (simp only [J9]; exact E2)
 (dsimp only; exact ⟨hle8, (hst.mono hle8).ty rfl hsl8 hk, by (rw [K6]; omega), by omega, by omega⟩)
 (rintro ⟨t', q', c', p', G'⟩ ⟨hle9, hr9, hs9, hp9, hp9'⟩; simp only [] at hle9 hr9 hs9 hp9 hp9' ⊢)
 refine B5 ?_
 refine H7 (outs := [rd br pb nb cb p']) (rC rfl (A6 rfl rfl)) (by repeat (first | exact A0.nil | refine A0.cons Pk.here ?_ | refine A0.cons (Pk.there Pk.here) ?_ | apply A0.drop)) ?_
 (exact ⟨p', by omega, by omega, rfl, t', _, rfl, hr9, by omega⟩)
mutual
def B37 : Tm → Tm
 | .mk k nm num ty fr lb ks => if k = 13 ∨ k = 14 then (A6z ks).headD I3 else .mk k nm num (if k = 5 then Q5 else B4) B4 0 (A6z ks)
def A6z : List Tm → List Tm
 | [] => []
 | t :: ts => B37 t :: A6z ts
end
def B8o : Tm → Tm
 | .mk k nm num ty fr lb ks => if k = 13 ∨ k = 14 then ks.headD I3 else if k = 5 then .mk k nm num Q5 fr lb ks else .mk k nm num ty fr lb ks
def B8p : Tm → Prop
 | .mk k _ _ _ _ _ ks => k = 13 ∨ k = 14 → ks ≠ []
theorem A18 {t : Ty} (h : A0I t = true) : t = B4 := by
 obtain ⟨k, ks⟩ := t
 obtain ⟨h1, h2⟩ : (Ty.mk k ks).k = 0 ∧ (Ty.mk k ks).ks.length = 0 := of_decide_eq_true h
 simp only [Ty.k, Ty.ks] at h1 h2
 have h3 : ks = [] := List.length_eq_zero_iff.1 (by omega)
 rw [h3, B4]
 congr
theorem A0s {D N : Int} {k : Int} {nm : ByteArray} {num : Int} {ty fr : Ty} {lb : Int} {ks : List Tm} {d : Int} (h : M8 D N (.mk k nm num ty fr lb ks) d = true) : d ≤ D ∧ k ≠ N ∧ V7 k nm num ty fr lb ks.length = true ∧ O0 D N ks (d + 1) = true := by
 rw [M8] at h
 simp only [Bool.and_eq_true, decide_eq_true_eq] at h
 exact ⟨h.1.1.1, h.1.1.2, h.1.2, h.2⟩
section slaws
variable {P : Program} {Γ : M2} {env : M7} {hp : List A7} {G : IM} {ty : TypeId}
theorem A5b {P : Program} {w : World} {l c : Nat} (hl : l ≤ c) (code : BoundsCode) : (Instr.sliceBound (.int .i64 (l : Int)) c code).run P w = .ok l w := by
 unfold Instr.sliceBound
 simp only [asIntOf, Sem.run_bind, Sem.run_pure, Result.andThen_ok]
 rw [if_pos ⟨by omega, by omega⟩]
 simp
theorem A6A {x y z : Operand} {t : TypeId} {i : L4} [hI : I4 P t i] (hd' : i.desc = .string) {s : ByteArray} {l h : Nat}
  (hx : evo env x = some (.string s)) (hy : evo env y = some (.int .i64 (l : Int))) (hz : evo env z = some (.int .i64 (h : Int))) (hl : l ≤ h) (hh : h ≤ s.size) :
  J3 P Γ ⟨env, hp, G⟩ (.slice t x (some y) (some z) none) ty (.string (s.extract l h)) := by
 refine ⟨fun a _ hs _ _ _ _ w => ?_⟩
 have hu := hI.und
 rw [hd'] at hu
 simp [execOp, (hs.evo hx : a.eval x = _), (hs.evo hy : a.eval y = _), (hs.evo hz : a.eval z = _), Instr.sliceAt, Sem.run_bind, run_underlying hu, Instr.slice, Instr.sliceBounds, A5b hl, A5b hh]
theorem A9t {x z : Operand} {t : TypeId} {i : L4} [hI : I4 P t i] (hd' : i.desc = .string) {s : ByteArray} {h : Nat}
  (hx : evo env x = some (.string s)) (hz : evo env z = some (.int .i64 (h : Int))) (hh : h ≤ s.size) :
  J3 P Γ ⟨env, hp, G⟩ (.slice t x none (some z) none) ty (.string (s.extract 0 h)) := by
 refine ⟨fun a _ hs _ _ _ _ w => ?_⟩
 have hu := hI.und
 rw [hd'] at hu
 simp [execOp, (hs.evo hx : a.eval x = _), (hs.evo hz : a.eval z = _), Instr.sliceAt, Sem.run_bind, run_underlying hu, Instr.slice, Instr.sliceBounds, A5b hh]
theorem A9u {x y : Operand} {t : TypeId} {i : L4} [hI : I4 P t i] (hd' : i.desc = .string) {s : ByteArray} {l : Nat}
  (hx : evo env x = some (.string s)) (hy : evo env y = some (.int .i64 (l : Int))) (hl : l ≤ s.size) :
  J3 P Γ ⟨env, hp, G⟩ (.slice t x (some y) none none) ty (.string (s.extract l s.size)) := by
 refine ⟨fun a _ hs _ _ _ _ w => ?_⟩
 have hu := hI.und
 rw [hd'] at hu
 simp [execOp, (hs.evo hx : a.eval x = _), (hs.evo hy : a.eval y = _), Instr.sliceAt, Sem.run_bind, run_underlying hu, Instr.slice, Instr.sliceBounds, A5b hl]
theorem B38 {x y : Operand} {t t' : TypeId} {r s : ByteArray} (hx : evo env x = some (.string r)) (hy : evo env y = some (.string s)) :
  J3 P Γ ⟨env, hp, G⟩ (.binOp .lss t x y t') ty (.bool (decide (Op.bytesLess r.toList s.toList = true))) := by
 refine ⟨fun a _ hs _ _ _ _ w => ?_⟩
 simp only [execOp, eqGuard, binOp, Op.stringOp, (hs.evo hx : a.eval x = _), (hs.evo hy : a.eval y = _)]
 simp
end slaws
theorem A9v {Q : Prop} (h : Q := by (exact ⟨rfl, rfl, _, rfl, by simp only [ByteArray.size_extract, ByteArray.size_append]; omega⟩)) : Q := h
theorem B39 (s nm : ByteArray) (G : IM) (hs : s.size ≤ 1000) (hn : nm.size ≤ 1000) :
  Fn Tryz.prog 158 [.string s, .string nm] [] G (fun G' v outs => G' = G ∧ outs = [] ∧ ∃ r, v = .string r ∧ r.size ≤ s.size + nm.size) := by
 refine C2 Tryz.func158 rfl Tryz.ntmps158 Tryz.results158 rfl ?_
 intro w0
 refine I8 ?_
 refine C3 ?_
 (refine K2 (fun (i : Nat) => ⟨[(5, .int .i64 (i : Int)), (0, .string s), (1, .string nm)], [], G⟩) (fun i => i ≤ s.size) (fun i => s.size - i) 0 ?_ ?_ ?_)
 exact E2
 exact Nat.zero_le _
 (intro i hi)
 refine B2 ?_
 refine sQ (A2r rfl rfl) rfl (sB (J8 rfl rfl) rfl rfl (fun h23 => ?_) (fun h23 => ?_))
 refine B7 ?_
 refine sP (A1K (n := 1) rfl rfl (by omega)) rfl rfl ?_
 refine sP (A6A (h := i + 1) rfl rfl rfl rfl (by omega) (by omega)) rfl rfl ?_
 refine F0 ?_
 refine sB (B38 rfl rfl) rfl rfl (fun h31 => ?_) (fun h31 => ?_)
 refine B0 ?_
 refine C3 ?_
 refine A5 ?_
 refine sP (A1K (n := 1) rfl rfl (by omega)) rfl rfl ?_
 refine B9 ?_
 refine K3 (i + 1) ?_ ?_ ?_
 exact E2
 (show _ ≤ s.size; omega)
 (show s.size - _ < s.size - _; omega)
 refine J1 ?_
 refine sQ (A2r rfl rfl) rfl ?_
 refine sP (B2I rfl rfl (by omega)) rfl rfl ?_
 refine B7 ?_
 refine sP (A1K (n := 1) rfl rfl (by omega)) rfl rfl ?_
 refine sP (A6A (h := i + 1) rfl rfl rfl rfl (by omega) (by omega)) rfl rfl ?_
 refine F0 ?_
 refine sB (A0F rfl rfl) rfl rfl (fun h72 => ?_) (fun h72 => ?_)
 refine N5 ?_
 refine H7 (outs := []) (rT rfl) A0.nil ?_
 (exact ⟨rfl, rfl, _, rfl, Nat.le_add_right _ _⟩)
 refine B5 ?_
 refine D8 D9 rfl ?_
 refine I6 (i := 0) (l' := [tt,ff,ff,ff,ff,ff,ff,ff,ff,ff]) rfl D3 (qM rfl) rfl (by kernel_rfl) rfl rfl ?_
 refine aP 1 rfl (qM rfl) rfl ?_
 refine aP 2 rfl (A9t rfl rfl rfl (by omega)) rfl ?_
 refine aP 3 rfl (qM rfl) rfl ?_
 refine aP 4 rfl (A24 rfl rfl (by simp only [ByteArray.size_extract, ByteArray.size_append]; omega)) rfl ?_
 refine aP 5 rfl (qM rfl) rfl ?_
 refine aP 6 rfl (qM rfl) rfl ?_
 refine aP 7 rfl (A9u rfl rfl rfl (by omega)) rfl ?_
 refine aP 8 rfl (A24 rfl rfl (by simp only [ByteArray.size_extract, ByteArray.size_append]; omega)) rfl ?_
 refine aP 9 rfl (qA rfl) rfl ?_
 refine B9 ?_
 refine H7 (outs := []) (rT rfl) A0.nil ?_
 exact A9v
 refine A8e ?_
 refine sQ (A2r rfl rfl) rfl ?_
 refine sP (A2t rfl rfl (by omega)) rfl rfl ?_
 refine H6 ?_
 refine D8 D9 rfl ?_
 refine I6 (i := 0) (l' := [tt,ff,ff,ff,ff,ff,ff,ff,ff,ff]) rfl D3 (qM rfl) rfl (by kernel_rfl) rfl rfl ?_
 refine aP 1 rfl (qM rfl) rfl ?_
 refine aP 2 rfl (A9t rfl rfl rfl (by omega)) rfl ?_
 refine aP 3 rfl (qM rfl) rfl ?_
 refine aP 4 rfl (A24 rfl rfl (by simp only [ByteArray.size_extract, ByteArray.size_append]; omega)) rfl ?_
 refine aP 5 rfl (qM rfl) rfl ?_
 refine aP 6 rfl (qM rfl) rfl ?_
 refine aP 7 rfl (A9u rfl rfl rfl (by omega)) rfl ?_
 refine aP 8 rfl (A24 rfl rfl (by simp only [ByteArray.size_extract, ByteArray.size_append]; omega)) rfl ?_
 refine aP 9 rfl (qA rfl) rfl ?_
 refine B9 ?_
 refine H7 (outs := []) (rT rfl) A0.nil ?_
 exact A9v
theorem A1R (G : IM) : C1 G B4 [.int .i64 0, .slice none 0 0] := by
 simp only [B4, C1]
 exact ⟨none, 0, [], rfl, ⟨by omega, by omega⟩, E0.of (Sl.nil _ _) rfl (by simp) (by simp), by simp [D5]⟩
theorem A6B : K6 B4 = 0 := rfl
theorem E4.tm {G : IM} {k : Int} {nm : ByteArray} {num : Int} {t : Ty} {q : Option Addr} {d : Nat} {ts : List Tm} {es : List (List Value)} {p : Option Addr} {n c : Nat} (h : E4 G ts es) (hn : ts.length = n) (hs : Sl G p n c 9 es.flatten) (hk : H1 k) (hm : H1 num)
  (ht : C1 G t [.int .i64 t.k, .slice q t.ks.length d]) : B3 G (.mk k nm num t B4 0 ts) [.int .i64 k, .string nm, .int .i64 num, .int .i64 t.k, .slice q t.ks.length d, .int .i64 0, .slice none 0 0, .int .i64 0, .slice p n c] := by
 subst hn
 simp only [B3]
 exact ⟨_, _, p, c, es, rfl, hk, hm, ⟨by omega, by omega⟩, ht, A1R G, E0.of hs h.len h.all (fun e he => (h.each e he).2), h⟩
theorem A1S {G : IM} {k : Int} {nm : ByteArray} {num : Int} (hk : H1 k) (hm : H1 num) :
  B3 G (.mk k nm num B4 B4 0 []) [.int .i64 k, .string nm, .int .i64 num, .int .i64 0, .slice none 0 0, .int .i64 0, .slice none 0 0, .int .i64 0, .slice none 0 0] :=
 E4.tm (ts := []) (es := []) (t := B4) (by simp [E4]) rfl (Sl.nil _ _) hk hm (A1R G)
theorem A19 (k : Int) (nm : ByteArray) (num : Int) : A0p (.mk k nm num B4 B4 0 []) = nm.size := by
 rw [A0p, A6B, Y1]; simp
theorem A6C : ∀ (ts : List Tm) (t : Tm), Y1 (ts ++ [t]) = Y1 ts + A0p t
 | [], t => by simp [Y1]
 | a :: ts, t => by simp only [List.cons_append, Y1, A6C ts t]; omega
theorem A1m (k : Int) : D7 k ≤ 3 := by
 unfold D7; repeat (split; omega)
 omega
theorem A6D {d : Nat} (h : d ≤ 2) : dB (d + 1) ≤ 14 := by
 have : d = 0 ∨ d = 1 ∨ d = 2 := by omega
 rcases this with rfl | rfl | rfl <;> decide
theorem A2I (n : Int) (G : IM) : Fn Tryz.prog 58 [.int .i64 n] [] G (H5 (.agg ⟨[.int .i64 2, .string ⟨⟨[]⟩⟩, .int .i64 n, .int .i64 0, .slice none 0 0, .int .i64 0, .slice none 0 0, .int .i64 0, .slice none 0 0]⟩) G) := by
 refine C2 Tryz.func58 rfl Tryz.ntmps58 Tryz.results58 rfl ?_
 intro w0
 refine A5 ?_
 refine sE (A8 rfl) rfl (fun b3 => ?_)
 refine J0 ?_
 refine N4 (rC rfl (A6 rfl rfl)) ?_
 exact ⟨rfl, rfl, rfl⟩
theorem A9w (br : Nat) (pb : Option Addr) (nb cb : Nat) (bs : List UInt8) (hnb : nb ≤ 2000) (p : Nat) (G : IM) (hb : Sl G pb nb cb 1 (N9 bs)) (hp : p + 3 < 1099511627776) (s : ByteArray) (hs : s.size ≤ 1000) :
  Fn Tryz.prog 157 [.pointer (some ⟨br, 0, none⟩), .string s] [rd br pb nb cb p] G
   (A0q br pb nb cb p 3 (fun G' v => ∃ t cells, v = .agg ⟨cells⟩ ∧ B3 G' t cells ∧ A0p t ≤ 1)) := by
 refine C2 Tryz.func157 rfl Tryz.ntmps157 Tryz.results157 rfl ?_
 intro w0
 refine A5 ?_
 refine sE (A8 rfl) rfl (fun b3 => ?_)
 refine B0 ?_
 refine sQ (A2r rfl rfl) rfl ?_
 refine sB (Y9 rfl rfl) rfl rfl (fun h11 => ?_) (fun h11 => ?_)
 refine A5 ?_
 (refine I9 rfl (Z1 _ br pb nb cb p bs _ hb hnb (by omega)) (Pk.perm (by repeat (first | exact Pk.here | apply Pk.there))) rfl rfl (fun v14 G14 outs14 hle14 hh => ?_); obtain ⟨rfl, rfl, j14, rfl, hj14, hk14⟩ := hh; obtain ⟨i14, rfl⟩ := Int.eq_ofNat_of_zero_le hj14)
 replace hb := hb.mono hle14
 refine sB (Y9 rfl rfl) rfl rfl (fun h15 => ?_) (fun h15 => ?_)
 refine D0 ?_
 refine sQ (A2r rfl rfl) rfl ?_
 (refine I9 rfl (Z1 _ br pb nb cb (p + 1) bs _ hb hnb (by omega)) (Pk.perm (by repeat (first | exact Pk.here | apply Pk.there))) rfl rfl (fun v25 G25 outs25 hle25 hh => ?_); obtain ⟨rfl, rfl, j25, rfl, hj25, hk25⟩ := hh; obtain ⟨i25, rfl⟩ := Int.eq_ofNat_of_zero_le hj25)
 replace hb := hb.mono hle25
 refine D0 ?_
 refine sP (A1K (n := 1) rfl rfl (by omega)) rfl rfl ?_
 refine sP (A6A rfl rfl rfl rfl (by omega) (by omega)) rfl rfl ?_
 refine B0 ?_
 refine H7 (outs := [rd br pb nb cb (p + 1 + 1)]) (rC rfl (A6 rfl rfl)) (by repeat (first | exact A0.nil | refine A0.cons Pk.here ?_ | refine A0.cons (Pk.there Pk.here) ?_ | refine A0.cons (Pk.there (Pk.there Pk.here)) ?_ | apply A0.drop)) ?_
 focus (refine ⟨_, ?_, ?_, rfl, _, _, rfl, A1S ⟨by omega, by omega⟩ ⟨by omega, by omega⟩, ?_⟩; all_goals (try rw [A19]); all_goals (first | omega | (simp only [ByteArray.size_extract]; omega) | decide))
 refine J0 ?_
 (refine I9 rfl (Z1 _ br pb nb cb (p + 1) bs _ hb hnb (by omega)) (Pk.perm (by repeat (first | exact Pk.here | apply Pk.there))) rfl rfl (fun v54 G54 outs54 hle54 hh => ?_); obtain ⟨rfl, rfl, j54, rfl, hj54, hk54⟩ := hh; obtain ⟨i54, rfl⟩ := Int.eq_ofNat_of_zero_le hj54)
 replace hb := hb.mono hle54
 refine A5 ?_
 refine C3 (tS (tR (sB (qE rfl rfl) rfl rfl (fun h60 => ?_) (fun h60 => ?_))))
 refine J4 ?_
 refine H7 (outs := [rd br pb nb cb (p + 1 + 1)]) (rC rfl (A6 rfl rfl)) (by repeat (first | exact A0.nil | refine A0.cons Pk.here ?_ | refine A0.cons (Pk.there Pk.here) ?_ | refine A0.cons (Pk.there (Pk.there Pk.here)) ?_ | apply A0.drop)) ?_
 focus (refine ⟨_, ?_, ?_, rfl, _, _, rfl, A1S ⟨by omega, by omega⟩ ⟨by omega, by omega⟩, ?_⟩; all_goals (try rw [A19]); all_goals (first | omega | (simp only [ByteArray.size_extract]; omega) | decide))
 refine B0 ?_
 refine sB (qE rfl rfl) rfl rfl (fun h82 => ?_) (fun h82 => ?_)
 refine J4 ?_
 refine H7 (outs := [rd br pb nb cb (p + 1 + 1)]) (rC rfl (A6 rfl rfl)) (by repeat (first | exact A0.nil | refine A0.cons Pk.here ?_ | refine A0.cons (Pk.there Pk.here) ?_ | refine A0.cons (Pk.there (Pk.there Pk.here)) ?_ | apply A0.drop)) ?_
 focus (refine ⟨_, ?_, ?_, rfl, _, _, rfl, A1S ⟨by omega, by omega⟩ ⟨by omega, by omega⟩, ?_⟩; all_goals (try rw [A19]); all_goals (first | omega | (simp only [ByteArray.size_extract]; omega) | decide))
 refine J0 ?_
 (refine J5 (D2 rfl rfl rfl (by omega) (by unfold maxLen; omega) rfl) rfl ?_; rintro _ ⟨b108, rfl⟩)
 (refine V0 (by repeat (first | exact Pk.here | apply Pk.there)) (fun Gf hlef hslf _ => ?_); refine I9 rfl (A0k Gf br pb nb cb (p + 1 + 1) bs _ _ _ _ (hb.mono hlef) hnb (by omega) hslf (by decide)) (Pk.perm (by repeat (first | exact Pk.here | apply Pk.there))) rfl rfl (fun v Gn outs hlen hh => ?_); obtain ⟨rfl, rfl, hv⟩ := hh; obtain ⟨kn, rfl, hkn⟩ : ∃ k, v = .int .i64 k ∧ H1 k := (by simp only [List.mem_cons, List.not_mem_nil, or_false] at hv; rcases hv with rfl | rfl | rfl | rfl | rfl | rfl <;> exact ⟨_, rfl, by unfold H1; omega⟩))
 refine H9 rfl ((A2I _ _)) rfl rfl ?_
 refine B7 ?_
 refine H7 (outs := [rd br pb nb cb (p + 1 + 1 + 1)]) (rC rfl (A6 rfl rfl)) (by repeat (first | exact A0.nil | refine A0.cons Pk.here ?_ | refine A0.cons (Pk.there Pk.here) ?_ | refine A0.cons (Pk.there (Pk.there Pk.here)) ?_ | apply A0.drop)) ?_
 focus (refine ⟨_, ?_, ?_, rfl, _, _, rfl, A1S ⟨by omega, by omega⟩ hkn, ?_⟩; all_goals (try rw [A19]); all_goals (first | omega | decide))
 refine J1 ?_
 (refine I9 rfl (Z1 _ br pb nb cb p bs _ hb hnb (by omega)) (Pk.perm (by repeat (first | exact Pk.here | apply Pk.there))) rfl rfl (fun v131 G131 outs131 hle131 hh => ?_); obtain ⟨rfl, rfl, j131, rfl, hj131, hk131⟩ := hh; obtain ⟨i131, rfl⟩ := Int.eq_ofNat_of_zero_le hj131)
 replace hb := hb.mono hle131
 refine A5 ?_
 refine C3 (tS (tR (sB (qE rfl rfl) rfl rfl (fun h137 => ?_) (fun h137 => ?_))))
 refine J4 ?_
 refine H7 (outs := [rd br pb nb cb (p + 1)]) (rC rfl (A6 rfl rfl)) (by repeat (first | exact A0.nil | refine A0.cons Pk.here ?_ | refine A0.cons (Pk.there Pk.here) ?_ | refine A0.cons (Pk.there (Pk.there Pk.here)) ?_ | apply A0.drop)) ?_
 focus (refine ⟨_, ?_, ?_, rfl, _, _, rfl, A1S ⟨by omega, by omega⟩ ⟨by omega, by omega⟩, ?_⟩; all_goals (try rw [A19]); all_goals (first | omega | (simp only [ByteArray.size_extract]; omega) | decide))
 refine B0 ?_
 refine sB (qE rfl rfl) rfl rfl (fun h159 => ?_) (fun h159 => ?_)
 refine J4 ?_
 refine H7 (outs := [rd br pb nb cb (p + 1)]) (rC rfl (A6 rfl rfl)) (by repeat (first | exact A0.nil | refine A0.cons Pk.here ?_ | refine A0.cons (Pk.there Pk.here) ?_ | refine A0.cons (Pk.there (Pk.there Pk.here)) ?_ | apply A0.drop)) ?_
 focus (refine ⟨_, ?_, ?_, rfl, _, _, rfl, A1S ⟨by omega, by omega⟩ ⟨by omega, by omega⟩, ?_⟩; all_goals (try rw [A19]); all_goals (first | omega | (simp only [ByteArray.size_extract]; omega) | decide))
 refine J0 ?_
 (refine J5 (D2 rfl rfl rfl (by omega) (by unfold maxLen; omega) rfl) rfl ?_; rintro _ ⟨b185, rfl⟩)
 (refine V0 (by repeat (first | exact Pk.here | apply Pk.there)) (fun Gf hlef hslf _ => ?_); refine I9 rfl (A0k Gf br pb nb cb (p + 1) bs _ _ _ _ (hb.mono hlef) hnb (by omega) hslf (by decide)) (Pk.perm (by repeat (first | exact Pk.here | apply Pk.there))) rfl rfl (fun v Gn outs hlen hh => ?_); obtain ⟨rfl, rfl, hv⟩ := hh; obtain ⟨kn, rfl, hkn⟩ : ∃ k, v = .int .i64 k ∧ H1 k := (by simp only [List.mem_cons, List.not_mem_nil, or_false] at hv; rcases hv with rfl | rfl | rfl | rfl | rfl | rfl <;> exact ⟨_, rfl, by unfold H1; omega⟩))
 refine H9 rfl ((A2I _ _)) rfl rfl ?_
 refine B7 ?_
 refine H7 (outs := [rd br pb nb cb (p + 1 + 1)]) (rC rfl (A6 rfl rfl)) (by repeat (first | exact A0.nil | refine A0.cons Pk.here ?_ | refine A0.cons (Pk.there Pk.here) ?_ | refine A0.cons (Pk.there (Pk.there Pk.here)) ?_ | apply A0.drop)) ?_
 focus (refine ⟨_, ?_, ?_, rfl, _, _, rfl, A1S ⟨by omega, by omega⟩ hkn, ?_⟩; all_goals (try rw [A19]); all_goals (first | omega | decide))
def tB : Nat → Nat
 | 0 => 3
 | d + 1 => 3 * tB d + 20
theorem A9x (d : Nat) : 3 ≤ tB d := by cases d <;> simp only [tB] <;> omega
theorem A9y {Q : Prop} (h : Q := by (dsimp only; exact ⟨hlef3.trans hle3, hr3, by omega, by omega, by omega⟩)) : Q := h
theorem A9z {Q : Prop} (h : Q := by (dsimp only; exact ⟨C6.refl _, A1R _, by decide, by omega, by omega⟩)) : Q := h
theorem B4a (br : Nat) (pb : Option Addr) (nb cb : Nat) (bs : List UInt8) (hnb : nb ≤ 2000) : ∀ (d p : Nat) (G : IM) (s : ByteArray), d ≤ 900 → s.size + d ≤ 950 → Sl G pb nb cb 1 (N9 bs) → p + tB d < 1099511627776 →
  Fn Tryz.prog 123 [.pointer (some ⟨br, 0, none⟩), .string s, .int .i64 ((d + 1 : Nat) : Int)] [rd br pb nb cb p] G
   (A0q br pb nb cb p (tB d) (fun G' v => ∃ t cells, v = .agg ⟨cells⟩ ∧ B3 G' t cells ∧ A0p t ≤ ((tB d : Nat) : Int))) := by
 refine fun d => Nat.strongRecOn d fun d ih p G s hd hs hb hp => ?_
 have hge := A9x d
 refine C2 Tryz.func123 rfl Tryz.ntmps123 Tryz.results123 rfl ?_
 intro w0
 refine A5 ?_
 refine sE (A8 rfl) rfl (fun b3 => ?_)
 refine B0 ?_
 refine sB (J8 rfl rfl) rfl rfl (fun h10 => ?_) (fun h10 => ?_)
 ·refine N5 ?_
  (refine I9 rfl (A9w br pb nb cb bs hnb p _ hb (by omega) s (by omega)) (Pk.perm (by repeat (first | exact Pk.here | apply Pk.there))) rfl rfl (fun v Ga outs hlea hh => ?_); obtain ⟨pa, hpa1, hpa2, rfl, ta, cellsa, rfl, hra, hsa⟩ := hh; have hl9 := hra.len; have ho9 := hra.one)
  refine sS rfl rfl rfl hl9 ho9 rfl ?_ (hu := by exact D4 hl9.symm)
  refine B7 ?_
  refine H7 (outs := [rd br pb nb cb pa]) (rC rfl (A3 rfl rfl (B1 (by repeat first | exact mH | apply mT)) hl9)) (by repeat (first | exact A0.nil | refine A0.cons Pk.here ?_ | refine A0.cons (Pk.there Pk.here) ?_ | refine A0.cons (Pk.there (Pk.there Pk.here)) ?_ | apply A0.drop)) ?_
  (exact ⟨pa, by omega, by omega, rfl, ta, cellsa, rfl, hra, by omega⟩)
 ·refine A5 ?_
  (have hB4 : 4 ≤ tB d := (by obtain ⟨d1, rfl⟩ : ∃ d1, d = d1 + 1 := ⟨d - 1, by omega⟩; simp only [tB]; have := A9x d1; omega); refine I9 rfl (Z1 _ br pb nb cb p bs _ hb hnb (by omega)) (Pk.perm (by repeat (first | exact Pk.here | apply Pk.there))) rfl rfl (fun v33 G33 outs33 hle33 hh => ?_); obtain ⟨rfl, rfl, j33, rfl, hj33, hk33⟩ := hh)
  replace hb := hb.mono hle33
  refine sB (qE rfl rfl) rfl rfl (fun h34 => ?_) (fun h34 => ?_)
  ·refine D0 ?_
   (refine I9 rfl (A9w br pb nb cb bs hnb (p + 1) _ hb (by omega) s (by omega)) (Pk.perm (by repeat (first | exact Pk.here | apply Pk.there))) rfl rfl (fun v Ga outs hlea hh => ?_); obtain ⟨pa, hpa1, hpa2, rfl, ta, cellsa, rfl, hra, hsa⟩ := hh; have hl9 := hra.len; have ho9 := hra.one)
   refine sS rfl rfl rfl hl9 ho9 rfl ?_ (hu := by exact D4 hl9.symm)
   refine B7 ?_
   refine H7 (outs := [rd br pb nb cb pa]) (rC rfl (A3 rfl rfl (B1 (by repeat first | exact mH | apply mT)) hl9)) (by repeat (first | exact A0.nil | refine A0.cons Pk.here ?_ | refine A0.cons (Pk.there Pk.here) ?_ | refine A0.cons (Pk.there (Pk.there Pk.here)) ?_ | apply A0.drop)) ?_
   (exact ⟨pa, by omega, by omega, rfl, ta, cellsa, rfl, hra, by omega⟩)
  ·refine E1 ?_
   (refine J5 (D2 rfl rfl rfl (by omega) (by unfold maxLen; omega) rfl) rfl ?_; rintro _ ⟨b60, rfl⟩)
   (refine V0 (by repeat (first | exact Pk.here | apply Pk.there)) (fun Gf hlef hslf _ => ?_); refine I9 rfl (A0k Gf br pb nb cb (p + 1) bs _ _ _ _ (hb.mono hlef) hnb (by omega) hslf (by decide)) (Pk.perm (by repeat (first | exact Pk.here | apply Pk.there))) rfl rfl (fun v Gk outs hlek hh => ?_); obtain ⟨rfl, rfl, hv⟩ := hh; replace hb := hb.mono hlef; obtain ⟨k, rfl, hk1, hk2⟩ : ∃ k, v = .int .i64 k ∧ 5 ≤ k ∧ k ≤ 13 := (by simp only [List.mem_cons, List.not_mem_nil, or_false] at hv; rcases hv with rfl | rfl | rfl | rfl | rfl | rfl | rfl | rfl | rfl | rfl | rfl <;> exact ⟨_, rfl, by decide, by decide⟩); obtain ⟨d1, rfl⟩ : ∃ d1, d = d1 + 1 := ⟨d - 1, by omega⟩; have hB : tB (d1 + 1) = 3 * tB d1 + 20 := rfl)
   refine B5 ?_
   refine sE (A8 rfl) rfl (fun b69 => ?_)
   refine B5 ?_
   refine sB (qE rfl rfl) rfl rfl (fun h77 => ?_) (fun h77 => ?_)
   ·refine A5 ?_
    (show J2 _ _ (.cond (.tmp 26) _ _) _ _; refine A0j (fun (x : ByteArray × ByteArray × Nat × IM) => ⟨[(7, .int .i64 k), (8, .pointer (some ⟨b69, 0, none⟩)), (6, .pointer (some ⟨b3, 0, none⟩)), (0, .pointer (some ⟨br, 0, none⟩)), (1, .string x.2.1), (2, .int .i64 ((d1 + 1 + 1 : Nat) : Int))], [.blk b69 [.int .i64 k, .string x.1, .int .i64 0, .int .i64 0, .slice none 0 0, .int .i64 0, .slice none 0 0, .int .i64 0, .slice none 0 0], .blk b3 [.int .i64 0, .string ⟨⟨[]⟩⟩, .int .i64 0, .int .i64 0, .slice none 0 0, .int .i64 0, .slice none 0 0, .int .i64 0, .slice none 0 0], rd br pb nb cb x.2.2.1], x.2.2.2⟩) (fun x => C6 Gk x.2.2.2 ∧ x.1.size ≤ 1 ∧ x.2.1.size ≤ s.size + 1 ∧ p + 2 ≤ x.2.2.1 ∧ x.2.2.1 ≤ p + 3) ?_ ?_)
    ·refine B7 ?_
     (refine J5 (D2 rfl rfl rfl (by omega) (by unfold maxLen; omega) rfl) rfl ?_; rintro _ ⟨b85, rfl⟩)
     (refine V0 (by repeat (first | exact Pk.here | apply Pk.there)) (fun Gf2 hlef2 hslf2 _ => ?_); refine I9 rfl (A6x Gf2 br pb nb cb (p + 1 + 1) bs _ _ _ _ (hb.mono hlef2) hnb (by omega) hslf2 (by decide)) (Pk.perm (by repeat (first | exact Pk.here | apply Pk.there))) rfl rfl (fun v Go outs hleo hh => ?_); obtain ⟨rfl, rfl, hv2⟩ := hh; obtain ⟨nmA, rfl, hnA⟩ : ∃ nm, v = .string nm ∧ nm.size ≤ 1 := (by simp only [List.mem_cons, List.not_mem_nil, or_false] at hv2; rcases hv2 with rfl | rfl | rfl | rfl <;> exact ⟨_, rfl, by decide⟩))
     refine D0 ?_
     (refine A1F rfl (B39 s nmA _ (by omega) (by omega)) rfl rfl (fun v Ga outs hlea hh => ?_); obtain ⟨rfl, rfl, sA, rfl, hsA⟩ := hh)
     refine A5 ?_
     refine P8 (nmA, sA, p + 1 + 1 + 1, Ga) (M0 (by repeat (first | exact E7.nil | refine E7.cons rfl ?_)) (by repeat (first | exact A0.refl | exact A0.nil | refine A0.cons (by repeat (first | exact Pk.here | apply Pk.there)) ?_ | apply A0.drop))) ?_
     (dsimp only; exact ⟨hlef2, hnA, by omega, by omega, by omega⟩)
    ·(rintro ⟨(nm : ByteArray), s', p1, G1⟩ ⟨hleA, hnm, hss, hpA, hpB⟩; simp only [] at hleA hnm hss hpA hpB ⊢; replace hb := hb.mono hleA; have hmark := hleA)
     refine A5 ?_
     (have hm' := hmark; refine A0j (fun (x : Bool) => ⟨(40, .bool x) :: [(7, .int .i64 k), (8, .pointer (some ⟨b69, 0, none⟩)), (6, .pointer (some ⟨b3, 0, none⟩)), (0, .pointer (some ⟨br, 0, none⟩)), (1, .string s'), (2, .int .i64 ((d1 + 1 + 1 : Nat) : Int))], [.blk b69 [.int .i64 k, .string nm, .int .i64 0, .int .i64 0, .slice none 0 0, .int .i64 0, .slice none 0 0, .int .i64 0, .slice none 0 0], .blk b3 [.int .i64 0, .string ⟨⟨[]⟩⟩, .int .i64 0, .int .i64 0, .slice none 0 0, .int .i64 0, .slice none 0 0, .int .i64 0, .slice none 0 0], rd br pb nb cb p1], G1⟩) (fun x => True) ?_ ?_)
     ·refine A5 ?_
      refine sP (W8 rfl rfl (by omega)) rfl rfl ?_
      refine B2 ?_
      refine P8 true (M0 (by repeat (first | exact E7.nil | refine E7.cons rfl ?_)) (by repeat (first | exact A0.refl | exact A0.nil | refine A0.cons (by repeat (first | exact Pk.here | apply Pk.there)) ?_ | apply A0.drop))) ?_
      trivial
     ·(rintro x _; clear hmark)
      (show J2 _ _ (.cond (.tmp 40) _ _) _ _; refine A0j (fun (x : Ty × Option Addr × Nat × Nat × IM) => ⟨[(7, .int .i64 k), (8, .pointer (some ⟨b69, 0, none⟩)), (6, .pointer (some ⟨b3, 0, none⟩)), (0, .pointer (some ⟨br, 0, none⟩)), (1, .string s'), (2, .int .i64 ((d1 + 1 + 1 : Nat) : Int))], [.blk b69 [.int .i64 k, .string nm, .int .i64 0, .int .i64 x.1.k, .slice x.2.1 x.1.ks.length x.2.2.1, .int .i64 0, .slice none 0 0, .int .i64 0, .slice none 0 0], .blk b3 [.int .i64 0, .string ⟨⟨[]⟩⟩, .int .i64 0, .int .i64 0, .slice none 0 0, .int .i64 0, .slice none 0 0, .int .i64 0, .slice none 0 0], rd br pb nb cb x.2.2.2.1], x.2.2.2.2⟩) (fun x => C6 G1 x.2.2.2.2 ∧ C1 x.2.2.2.2 x.1 [.int .i64 x.1.k, .slice x.2.1 x.1.ks.length x.2.2.1] ∧ K6 x.1 ≤ 14 ∧ p1 ≤ x.2.2.2.1 ∧ x.2.2.2.1 ≤ p1 + 15) (A3K rfl (fun hxt => ?_) (fun hxf => ?_)) ?_)
      ·refine B9 ?_
       (refine J5 (D2 rfl rfl rfl (by omega) (by unfold maxLen; omega) rfl) rfl ?_; rintro _ ⟨b119, rfl⟩)
       (refine V0 (by repeat (first | exact Pk.here | apply Pk.there)) (fun Gf hlef3 hslf _ => ?_); refine I9 rfl (A0k Gf br pb nb cb p1 bs _ _ _ _ (hb.mono hlef3) hnb (by omega) hslf (by decide)) (Pk.perm (by repeat (first | exact Pk.here | apply Pk.there))) rfl rfl (fun v Gn outs hlen hh => ?_); obtain ⟨rfl, rfl, hv⟩ := hh; replace hb := hb.mono hlef3; obtain ⟨dd, rfl, hdd⟩ : ∃ d : Nat, v = .int .i64 ((d + 1 : Nat) : Int) ∧ d ≤ 2 := (by simp only [List.mem_cons, List.not_mem_nil, or_false] at hv; rcases hv with rfl | rfl | rfl | rfl <;> first | exact ⟨0, rfl, by decide⟩ | exact ⟨1, rfl, by decide⟩ | exact ⟨2, rfl, by decide⟩))
       (have hdB := A6D hdd; refine I9 rfl (A9s br pb nb cb bs hnb dd (p1 + 1) _ (by omega) hb (by omega)) (Pk.perm (by repeat (first | exact Pk.here | apply Pk.there))) rfl rfl (fun v G3 outs hle3 hh => ?_); obtain ⟨p3, hp31, hp32, rfl, t3, cells3, rfl, hr3, hs3⟩ := hh; obtain ⟨q3, c3, es3, rfl, _⟩ := hr3.open)
       refine B9 ?_
       refine P8 (t3, q3, c3, p3, G3) (M0 (by repeat (first | exact E7.nil | refine E7.cons rfl ?_)) (by repeat (first | exact A0.refl | exact A0.nil | refine A0.cons (by repeat (first | exact Pk.here | apply Pk.there)) ?_ | apply A0.drop))) ?_
       exact A9y
      ·refine tK ?_
       refine P8 (B4, none, 0, p1, G1) (M0 (by repeat (first | exact E7.nil | refine E7.cons rfl ?_)) (by repeat (first | exact A0.refl | exact A0.nil | refine A0.cons (by repeat (first | exact Pk.here | apply Pk.there)) ?_ | apply A0.drop))) ?_
       exact A9z
      ·(rintro ⟨(t' : Ty), q', c', p2, G2⟩ ⟨hleB, hrB, hsB, hpC, hpD⟩; simp only [] at hleB hrB hsB hpC hpD ⊢; replace hb := hb.mono hleB; have hop := A1m k; have hK := A43 k)
       refine B0 ?_
       refine C3 ?_
       (refine U9 28 9 ?_; refine K2 (fun (x : Nat × Option Addr × Nat × List Tm × List (List Value) × Nat × IM) => ⟨[(9, .int .i64 x.1), (7, .int .i64 k), (8, .pointer (some ⟨b69, 0, none⟩)), (6, .pointer (some ⟨b3, 0, none⟩)), (0, .pointer (some ⟨br, 0, none⟩)), (1, .string s'), (2, .int .i64 ((d1 + 1 + 1 : Nat) : Int))], [.blk b69 [.int .i64 k, .string nm, .int .i64 0, .int .i64 t'.k, .slice q' t'.ks.length c', .int .i64 0, .slice none 0 0, .int .i64 0, .slice x.2.1 x.1 x.2.2.1], .slc x.2.1 x.2.2.1 28 9 x.1 x.2.2.2.2.1.flatten, rd br pb nb cb x.2.2.2.2.2.1, .blk b3 [.int .i64 0, .string ⟨⟨[]⟩⟩, .int .i64 0, .int .i64 0, .slice none 0 0, .int .i64 0, .slice none 0 0, .int .i64 0, .slice none 0 0]], x.2.2.2.2.2.2⟩) (fun x => ((x.1 : Int) ≤ D7 k ∨ x.1 = 0) ∧ C6 G2 x.2.2.2.2.2.2 ∧ x.2.2.2.1.length = x.1 ∧ E4 x.2.2.2.2.2.2 x.2.2.2.1 x.2.2.2.2.1 ∧ Y1 x.2.2.2.1 ≤ ((x.1 * tB d1 : Nat) : Int) ∧ p2 ≤ x.2.2.2.2.2.1 ∧ x.2.2.2.2.2.1 ≤ p2 + x.1 * tB d1) (fun x => (D7 k).toNat - x.1) (0, none, 0, [], [], p2, G2) ?_ ?_ ?_)
       ·(simp only [J9]; exact E2)
       ·(exact ⟨.inr rfl, C6.refl _, rfl, by simp [E4], by simp [Y1], by dsimp only; omega, by dsimp only; omega⟩)
       ·(rintro ⟨i, pn, cn, ts, es', p', Gi⟩ ⟨hi, hle, hlt, hst, hsum, hq1, hq2⟩; simp only [] at hi hle hlt hst hsum hq1 hq2 ⊢; have hid : i * tB d1 ≤ 3 * tB d1 := Nat.mul_le_mul_right _ (by omega))
        refine B2 ?_
        refine H9 rfl ((hK _)) rfl rfl ?_
        refine sB (J8 rfl rfl) rfl rfl (fun h148 => ?_) (fun h148 => ?_)
        ·refine B0 ?_
         refine C3 ?_
         (have hih := ih d1 (by omega) p' Gi s' (by omega) (by omega) (hb.mono hle) (by have := Nat.mul_le_mul_right (tB d1) (show i + 1 ≤ 3 by omega); rw [Nat.succ_mul] at this; omega); refine D8 D9 rfl ?_)
         refine I6 (i := 0) (l' := [tt,ff,ff,ff,ff,ff,ff,ff,ff,ff,ff]) rfl D3 (B8 rfl) rfl (by kernel_rfl) rfl rfl ?_
         refine aL 1 rfl (C4 rfl rfl) rfl ?_
         refine aP 2 rfl (qM rfl) rfl ?_
         refine aP 3 rfl (qM rfl) rfl ?_
         refine aP 4 rfl (qM rfl) rfl ?_
         refine aP 5 rfl (A4Z rfl rfl (by omega)) rfl ?_
         refine A4 6 ?_
         (refine X8 (l' := [tt,tt,tt,tt,tt,tt,tt,ff,ff,ff,ff]) rfl rfl hih (Pk.perm (by repeat (first | exact Pk.here | apply Pk.there))) rfl rfl rfl (by repeat (first | exact A9.nil | apply A9.dep (by decide +kernel) | apply A9.blk (by decide +kernel) (by repeat (first | exact Pk.here | apply Pk.there)) (by repeat first | exact mH | apply mT))) (fun v G3 outs hle3 hh => ?_); obtain ⟨p3, hp31, hp32, rfl, t3, cells3, rfl, hr3, hs3⟩ := hh; obtain ⟨qt, dt, et, qf, df, ef, q3, d3, es3, rfl, _⟩ := hr3.open)
         refine A4 7 ?_
         (refine E6 rfl (D2 rfl rfl rfl (by omega) (by unfold maxLen; omega) rfl) rfl rfl ?_; rintro _ ⟨b166, rfl⟩)
         refine A4 8 ?_
         refine R4 rfl rfl rfl rfl rfl rfl (fun _ _ => by repeat (first | exact Sw.here | apply Sw.there)) (O2 (by repeat first | exact mH | apply mT)) rfl (by simp [Value.oneCell']) (by unfold maxLen; omega) (by omega) rfl rfl (by repeat (first | exact A9.nil | apply A9.dep (by decide +kernel) | apply A9.blk (by decide +kernel) (by repeat (first | exact Pk.here | apply Pk.there)) (by repeat first | exact mH | apply mT))) (fun pn' cn' => ?_)
         refine aP 9 rfl (B8 rfl) rfl ?_
         refine A4 10 ?_
         refine R9 rfl rfl rfl rfl rfl rfl rfl rfl (by kernel_rfl) (by repeat first | exact Sw.here | apply Sw.there) (by rfl) ?_
         refine B2 ?_
         refine sP (J6 rfl rfl (by omega) (by omega)) rfl rfl ?_
         refine A5 ?_
         refine K3 (i + 1, pn', cn', ts ++ [t3], es' ++ [[.int .i64 t3.k, .string t3.nm, .int .i64 t3.num, .int .i64 t3.ty.k, .slice qt t3.ty.ks.length dt, .int .i64 t3.fr.k, .slice qf t3.fr.ks.length df, .int .i64 t3.lb, .slice q3 t3.ks.length d3]], p3, G3) ?_ ?_ ?_
         ·(simp only [J9]; exact E2)
         ·(dsimp only; have e1 : (i + 1) * tB d1 = i * tB d1 + tB d1 := Nat.succ_mul _ _; have e2 := A6C ts t3; exact ⟨.inl (by omega), hle.trans hle3, by simp [hlt], E4.snoc (hst.mono hle3) hr3, by omega, by omega, by omega⟩)
         ·(show (D7 k).toNat - (i + 1) < (D7 k).toNat - i; omega)
        ·refine J1 ?_
         (refine H3 (by repeat (first | exact Pk.here | apply Pk.there)) (fun G5 hle5 hsl5 hno5 => ?_))
         refine tT ?_
         refine H7 (outs := [rd br pb nb cb p']) (rC rfl (A6 rfl rfl)) (by repeat (first | exact A0.nil | refine A0.cons Pk.here ?_ | refine A0.cons (Pk.there Pk.here) ?_ | refine A0.cons (Pk.there (Pk.there Pk.here)) ?_ | apply A0.drop)) ?_
         (refine ⟨p', by omega, by omega, rfl, .mk k nm 0 t' B4 0 ts, _, rfl, (hst.mono hle5).tm hlt hsl5 ⟨by omega, by omega⟩ ⟨by omega, by omega⟩ (hrB.mono (hle.trans hle5)), ?_⟩; rw [A0p, A6B]; omega)
   ·refine A5 ?_
    (show J2 _ _ (.cond (.tmp 26) _ _) _ _; refine A0j (fun (x : ByteArray × ByteArray × Nat × IM) => ⟨[(7, .int .i64 k), (8, .pointer (some ⟨b69, 0, none⟩)), (6, .pointer (some ⟨b3, 0, none⟩)), (0, .pointer (some ⟨br, 0, none⟩)), (1, .string x.2.1), (2, .int .i64 ((d1 + 1 + 1 : Nat) : Int))], [.blk b69 [.int .i64 k, .string x.1, .int .i64 0, .int .i64 0, .slice none 0 0, .int .i64 0, .slice none 0 0, .int .i64 0, .slice none 0 0], .blk b3 [.int .i64 0, .string ⟨⟨[]⟩⟩, .int .i64 0, .int .i64 0, .slice none 0 0, .int .i64 0, .slice none 0 0, .int .i64 0, .slice none 0 0], rd br pb nb cb x.2.2.1], x.2.2.2⟩) (fun x => C6 Gk x.2.2.2 ∧ x.1.size ≤ 1 ∧ x.2.1.size ≤ s.size + 1 ∧ p + 2 ≤ x.2.2.1 ∧ x.2.2.1 ≤ p + 3) ?_ ?_)
    ·refine A5 ?_
     refine P8 (⟨⟨[]⟩⟩, s, p + 1 + 1, Gk) (M0 (by repeat (first | exact E7.nil | refine E7.cons rfl ?_)) (by repeat (first | exact A0.refl | exact A0.nil | refine A0.cons (by repeat (first | exact Pk.here | apply Pk.there)) ?_ | apply A0.drop))) ?_
     (dsimp only; exact ⟨C6.refl _, by decide, by omega, by omega, by omega⟩)
    ·(rintro ⟨(nm : ByteArray), s', p1, G1⟩ ⟨hleA, hnm, hss, hpA, hpB⟩; simp only [] at hleA hnm hss hpA hpB ⊢; replace hb := hb.mono hleA; have hmark := hleA)
     refine A5 ?_
     (have hm' := hmark; refine A0j (fun (x : Bool) => ⟨(40, .bool x) :: [(7, .int .i64 k), (8, .pointer (some ⟨b69, 0, none⟩)), (6, .pointer (some ⟨b3, 0, none⟩)), (0, .pointer (some ⟨br, 0, none⟩)), (1, .string s'), (2, .int .i64 ((d1 + 1 + 1 : Nat) : Int))], [.blk b69 [.int .i64 k, .string nm, .int .i64 0, .int .i64 0, .slice none 0 0, .int .i64 0, .slice none 0 0, .int .i64 0, .slice none 0 0], .blk b3 [.int .i64 0, .string ⟨⟨[]⟩⟩, .int .i64 0, .int .i64 0, .slice none 0 0, .int .i64 0, .slice none 0 0, .int .i64 0, .slice none 0 0], rd br pb nb cb p1], G1⟩) (fun x => True) ?_ ?_)
     ·refine A5 ?_
      refine sP (I7 rfl rfl (by omega)) rfl rfl ?_
      refine A5 ?_
      refine sB (qE rfl rfl) rfl rfl (fun h218 => ?_) (fun h218 => ?_)
      ·refine A5 ?_
       refine P8 true (M0 (by repeat (first | exact E7.nil | refine E7.cons rfl ?_)) (by repeat (first | exact A0.refl | exact A0.nil | refine A0.cons (by repeat (first | exact Pk.here | apply Pk.there)) ?_ | apply A0.drop))) ?_
       trivial
      ·refine A5 ?_
       refine P8 false (M0 (by repeat (first | exact E7.nil | refine E7.cons rfl ?_)) (by repeat (first | exact A0.refl | exact A0.nil | refine A0.cons (by repeat (first | exact Pk.here | apply Pk.there)) ?_ | apply A0.drop))) ?_
       trivial
     ·(rintro x _; clear hmark)
      (show J2 _ _ (.cond (.tmp 40) _ _) _ _; refine A0j (fun (x : Ty × Option Addr × Nat × Nat × IM) => ⟨[(7, .int .i64 k), (8, .pointer (some ⟨b69, 0, none⟩)), (6, .pointer (some ⟨b3, 0, none⟩)), (0, .pointer (some ⟨br, 0, none⟩)), (1, .string s'), (2, .int .i64 ((d1 + 1 + 1 : Nat) : Int))], [.blk b69 [.int .i64 k, .string nm, .int .i64 0, .int .i64 x.1.k, .slice x.2.1 x.1.ks.length x.2.2.1, .int .i64 0, .slice none 0 0, .int .i64 0, .slice none 0 0], .blk b3 [.int .i64 0, .string ⟨⟨[]⟩⟩, .int .i64 0, .int .i64 0, .slice none 0 0, .int .i64 0, .slice none 0 0, .int .i64 0, .slice none 0 0], rd br pb nb cb x.2.2.2.1], x.2.2.2.2⟩) (fun x => C6 G1 x.2.2.2.2 ∧ C1 x.2.2.2.2 x.1 [.int .i64 x.1.k, .slice x.2.1 x.1.ks.length x.2.2.1] ∧ K6 x.1 ≤ 14 ∧ p1 ≤ x.2.2.2.1 ∧ x.2.2.2.1 ≤ p1 + 15) (A3K rfl (fun hxt => ?_) (fun hxf => ?_)) ?_)
      ·refine B9 ?_
       (refine J5 (D2 rfl rfl rfl (by omega) (by unfold maxLen; omega) rfl) rfl ?_; rintro _ ⟨b232, rfl⟩)
       (refine V0 (by repeat (first | exact Pk.here | apply Pk.there)) (fun Gf hlef3 hslf _ => ?_); refine I9 rfl (A0k Gf br pb nb cb p1 bs _ _ _ _ (hb.mono hlef3) hnb (by omega) hslf (by decide)) (Pk.perm (by repeat (first | exact Pk.here | apply Pk.there))) rfl rfl (fun v Gn outs hlen hh => ?_); obtain ⟨rfl, rfl, hv⟩ := hh; replace hb := hb.mono hlef3; obtain ⟨dd, rfl, hdd⟩ : ∃ d : Nat, v = .int .i64 ((d + 1 : Nat) : Int) ∧ d ≤ 2 := (by simp only [List.mem_cons, List.not_mem_nil, or_false] at hv; rcases hv with rfl | rfl | rfl | rfl <;> first | exact ⟨0, rfl, by decide⟩ | exact ⟨1, rfl, by decide⟩ | exact ⟨2, rfl, by decide⟩))
       (have hdB := A6D hdd; refine I9 rfl (A9s br pb nb cb bs hnb dd (p1 + 1) _ (by omega) hb (by omega)) (Pk.perm (by repeat (first | exact Pk.here | apply Pk.there))) rfl rfl (fun v G3 outs hle3 hh => ?_); obtain ⟨p3, hp31, hp32, rfl, t3, cells3, rfl, hr3, hs3⟩ := hh; obtain ⟨q3, c3, es3, rfl, _⟩ := hr3.open)
       refine B9 ?_
       refine P8 (t3, q3, c3, p3, G3) (M0 (by repeat (first | exact E7.nil | refine E7.cons rfl ?_)) (by repeat (first | exact A0.refl | exact A0.nil | refine A0.cons (by repeat (first | exact Pk.here | apply Pk.there)) ?_ | apply A0.drop))) ?_
       exact A9y
      ·refine tK ?_
       refine P8 (B4, none, 0, p1, G1) (M0 (by repeat (first | exact E7.nil | refine E7.cons rfl ?_)) (by repeat (first | exact A0.refl | exact A0.nil | refine A0.cons (by repeat (first | exact Pk.here | apply Pk.there)) ?_ | apply A0.drop))) ?_
       exact A9z
      ·(rintro ⟨(t' : Ty), q', c', p2, G2⟩ ⟨hleB, hrB, hsB, hpC, hpD⟩; simp only [] at hleB hrB hsB hpC hpD ⊢; replace hb := hb.mono hleB; have hop := A1m k; have hK := A43 k)
       refine B0 ?_
       refine C3 ?_
       (refine U9 28 9 ?_; refine K2 (fun (x : Nat × Option Addr × Nat × List Tm × List (List Value) × Nat × IM) => ⟨[(9, .int .i64 x.1), (7, .int .i64 k), (8, .pointer (some ⟨b69, 0, none⟩)), (6, .pointer (some ⟨b3, 0, none⟩)), (0, .pointer (some ⟨br, 0, none⟩)), (1, .string s'), (2, .int .i64 ((d1 + 1 + 1 : Nat) : Int))], [.blk b69 [.int .i64 k, .string nm, .int .i64 0, .int .i64 t'.k, .slice q' t'.ks.length c', .int .i64 0, .slice none 0 0, .int .i64 0, .slice x.2.1 x.1 x.2.2.1], .slc x.2.1 x.2.2.1 28 9 x.1 x.2.2.2.2.1.flatten, rd br pb nb cb x.2.2.2.2.2.1, .blk b3 [.int .i64 0, .string ⟨⟨[]⟩⟩, .int .i64 0, .int .i64 0, .slice none 0 0, .int .i64 0, .slice none 0 0, .int .i64 0, .slice none 0 0]], x.2.2.2.2.2.2⟩) (fun x => ((x.1 : Int) ≤ D7 k ∨ x.1 = 0) ∧ C6 G2 x.2.2.2.2.2.2 ∧ x.2.2.2.1.length = x.1 ∧ E4 x.2.2.2.2.2.2 x.2.2.2.1 x.2.2.2.2.1 ∧ Y1 x.2.2.2.1 ≤ ((x.1 * tB d1 : Nat) : Int) ∧ p2 ≤ x.2.2.2.2.2.1 ∧ x.2.2.2.2.2.1 ≤ p2 + x.1 * tB d1) (fun x => (D7 k).toNat - x.1) (0, none, 0, [], [], p2, G2) ?_ ?_ ?_)
       ·(simp only [J9]; exact E2)
       ·(exact ⟨.inr rfl, C6.refl _, rfl, by simp [E4], by simp [Y1], by dsimp only; omega, by dsimp only; omega⟩)
       ·(rintro ⟨i, pn, cn, ts, es', p', Gi⟩ ⟨hi, hle, hlt, hst, hsum, hq1, hq2⟩; simp only [] at hi hle hlt hst hsum hq1 hq2 ⊢; have hid : i * tB d1 ≤ 3 * tB d1 := Nat.mul_le_mul_right _ (by omega))
        refine B2 ?_
        refine H9 rfl ((hK _)) rfl rfl ?_
        refine sB (J8 rfl rfl) rfl rfl (fun h261 => ?_) (fun h261 => ?_)
        ·refine B0 ?_
         refine C3 ?_
         (have hih := ih d1 (by omega) p' Gi s' (by omega) (by omega) (hb.mono hle) (by have := Nat.mul_le_mul_right (tB d1) (show i + 1 ≤ 3 by omega); rw [Nat.succ_mul] at this; omega); refine D8 D9 rfl ?_)
         refine I6 (i := 0) (l' := [tt,ff,ff,ff,ff,ff,ff,ff,ff,ff,ff]) rfl D3 (B8 rfl) rfl (by kernel_rfl) rfl rfl ?_
         refine aL 1 rfl (C4 rfl rfl) rfl ?_
         refine aP 2 rfl (qM rfl) rfl ?_
         refine aP 3 rfl (qM rfl) rfl ?_
         refine aP 4 rfl (qM rfl) rfl ?_
         refine aP 5 rfl (A4Z rfl rfl (by omega)) rfl ?_
         refine A4 6 ?_
         (refine X8 (l' := [tt,tt,tt,tt,tt,tt,tt,ff,ff,ff,ff]) rfl rfl hih (Pk.perm (by repeat (first | exact Pk.here | apply Pk.there))) rfl rfl rfl (by repeat (first | exact A9.nil | apply A9.dep (by decide +kernel) | apply A9.blk (by decide +kernel) (by repeat (first | exact Pk.here | apply Pk.there)) (by repeat first | exact mH | apply mT))) (fun v G3 outs hle3 hh => ?_); obtain ⟨p3, hp31, hp32, rfl, t3, cells3, rfl, hr3, hs3⟩ := hh; obtain ⟨qt, dt, et, qf, df, ef, q3, d3, es3, rfl, _⟩ := hr3.open)
         refine A4 7 ?_
         (refine E6 rfl (D2 rfl rfl rfl (by omega) (by unfold maxLen; omega) rfl) rfl rfl ?_; rintro _ ⟨b279, rfl⟩)
         refine A4 8 ?_
         refine R4 rfl rfl rfl rfl rfl rfl (fun _ _ => by repeat (first | exact Sw.here | apply Sw.there)) (O2 (by repeat first | exact mH | apply mT)) rfl (by simp [Value.oneCell']) (by unfold maxLen; omega) (by omega) rfl rfl (by repeat (first | exact A9.nil | apply A9.dep (by decide +kernel) | apply A9.blk (by decide +kernel) (by repeat (first | exact Pk.here | apply Pk.there)) (by repeat first | exact mH | apply mT))) (fun pn' cn' => ?_)
         refine aP 9 rfl (B8 rfl) rfl ?_
         refine A4 10 ?_
         refine R9 rfl rfl rfl rfl rfl rfl rfl rfl (by kernel_rfl) (by repeat first | exact Sw.here | apply Sw.there) (by rfl) ?_
         refine B2 ?_
         refine sP (J6 rfl rfl (by omega) (by omega)) rfl rfl ?_
         refine A5 ?_
         refine K3 (i + 1, pn', cn', ts ++ [t3], es' ++ [[.int .i64 t3.k, .string t3.nm, .int .i64 t3.num, .int .i64 t3.ty.k, .slice qt t3.ty.ks.length dt, .int .i64 t3.fr.k, .slice qf t3.fr.ks.length df, .int .i64 t3.lb, .slice q3 t3.ks.length d3]], p3, G3) ?_ ?_ ?_
         ·(simp only [J9]; exact E2)
         ·(dsimp only; have e1 : (i + 1) * tB d1 = i * tB d1 + tB d1 := Nat.succ_mul _ _; have e2 := A6C ts t3; exact ⟨.inl (by omega), hle.trans hle3, by simp [hlt], E4.snoc (hst.mono hle3) hr3, by omega, by omega, by omega⟩)
         ·(show (D7 k).toNat - (i + 1) < (D7 k).toNat - i; omega)
        ·refine J1 ?_
         (refine H3 (by repeat (first | exact Pk.here | apply Pk.there)) (fun G5 hle5 hsl5 hno5 => ?_))
         refine tT ?_
         refine H7 (outs := [rd br pb nb cb p']) (rC rfl (A6 rfl rfl)) (by repeat (first | exact A0.nil | refine A0.cons Pk.here ?_ | refine A0.cons (Pk.there Pk.here) ?_ | refine A0.cons (Pk.there (Pk.there Pk.here)) ?_ | apply A0.drop)) ?_
         (refine ⟨p', by omega, by omega, rfl, .mk k nm 0 t' B4 0 ts, _, rfl, (hst.mono hle5).tm hlt hsl5 ⟨by omega, by omega⟩ ⟨by omega, by omega⟩ (hrB.mono (hle.trans hle5)), ?_⟩; rw [A0p, A6B]; omega)
theorem Sl.pre {G : IM} {p : Option Addr} {n c m : Nat} {cs : List Value} (h : Sl G p n c 1 cs) (hm : m ≤ n) : Sl G p m c 1 (cs.take m) := by
 obtain ⟨h1, h2, h3, h4⟩ := h
 refine ⟨by rw [List.length_take]; omega, by omega, h3, ?_⟩
 rcases h4 with h4 | ⟨b, o, full, e1, e2, e3⟩
 ·exact .inl (by omega)
 ·refine .inr ⟨b, o, full, e1, e2, fun j v hj => e3 j v ?_⟩
  rw [List.getElem?_take] at hj
  split at hj
  ·exact hj
  ·cases hj
theorem B4b (bs : List UInt8) (m : Nat) : N9 (bs.take m) = (N9 bs).take m := by unfold N9; rw [List.map_take]
theorem B4c {d : Nat} (h : d ≤ 4) : tB d ≤ 1043 := by
 have : d = 0 ∨ d = 1 ∨ d = 2 ∨ d = 3 ∨ d = 4 := by omega
 rcases this with rfl | rfl | rfl | rfl | rfl <;> decide
def A36 (G : IM) : IM → Value → List A7 → Prop := fun G' v outs => G' = G ∧ ∃ br pb nb cb bs, v = .pointer (some ⟨br, 0, none⟩) ∧ outs = [rd br pb nb cb 0] ∧ nb ≤ 2000 ∧ Sl G pb nb cb 1 (N9 bs)
theorem A36.mk {G : IM} {b : Nat} {pb : Option Addr} {nb cb : Nat} {bs : List UInt8} (h : nb ≤ 2000) (hb : Sl G pb nb cb 1 (N9 bs)) : A36 G G (.pointer (some ⟨b, 0, none⟩)) [.blk b [.slice pb nb cb, .int .i64 0]] := ⟨rfl, _, _, _, _, bs, rfl, rfl, h, hb⟩
theorem A9A (G : IM) (q : Option Addr) (n c : Nat) (bs : List UInt8) (hb : Sl G q n c 1 (N9 bs)) :
  Fn Tryz.prog 24 [.slice q n c] [] G (A36 G) := by
 have hn := hb.le
 have hnc := hb.2.1
 have hpre := fun h : 2000 ≤ n => hb.pre h
 refine C2 Tryz.func24 rfl Tryz.ntmps24 Tryz.results24 rfl ?_
 intro w0
 refine J0 ?_
 refine sB (Y9 rfl rfl) rfl rfl (fun h11 => ?_) (fun h11 => ?_)
 refine B2 ?_
 refine sP (A8J (l := 2000) rfl rfl rfl (by omega)) rfl rfl ?_
 refine B5 ?_
 refine sE (C7 rfl rfl) rfl (fun b25 => ?_)
 refine B7 ?_
 refine H7 (rT rfl) A0.refl ?_
 exact A36.mk (Nat.le_refl _) (by rw [B4b]; exact hpre (by omega))
 refine E1 ?_
 refine sE (C7 rfl rfl) rfl (fun b41 => ?_)
 refine B7 ?_
 refine H7 (rT rfl) A0.refl ?_
 exact A36.mk (by omega) hb
theorem B4d (br : Nat) (pb : Option Addr) (nb cb : Nat) (bs : List UInt8) (hnb : nb ≤ 2000) (p : Nat) (G : IM) (hb : Sl G pb nb cb 1 (N9 bs)) (hp : p + 1100 < 1099511627776) :
  Fn Tryz.prog 80 [.pointer (some ⟨br, 0, none⟩)] [rd br pb nb cb p] G
   (A0q br pb nb cb p 1100 (fun G' v => ∃ t cells, v = .agg ⟨cells⟩ ∧ B3 G' t cells ∧ A0p t ≤ 1043)) := by
 refine C2 Tryz.func80 rfl Tryz.ntmps80 Tryz.results80 rfl ?_
 intro w0
 refine A5 ?_
 refine sE (A8 rfl) rfl (fun b3 => ?_)
 refine B0 ?_
 (refine J5 (D2 rfl rfl rfl (by omega) (by unfold maxLen; omega) rfl) rfl ?_; rintro _ ⟨b10, rfl⟩)
 (refine V0 (by repeat (first | exact Pk.here | apply Pk.there)) (fun Gf hlef hslf _ => ?_); refine I9 rfl (A0k Gf br pb nb cb p bs _ _ _ _ (hb.mono hlef) hnb (by omega) hslf (by decide)) (Pk.perm (by repeat (first | exact Pk.here | apply Pk.there))) rfl rfl (fun v Gn outs hlen hh => ?_); obtain ⟨rfl, rfl, hv⟩ := hh; replace hb := hb.mono hlef; obtain ⟨dd, rfl, hdd⟩ : ∃ d : Nat, v = .int .i64 ((d + 1 : Nat) : Int) ∧ d ≤ 4 := (by simp only [List.mem_cons, List.not_mem_nil, or_false] at hv; rcases hv with rfl | rfl | rfl | rfl | rfl <;> first | exact ⟨3, rfl, by decide⟩ | exact ⟨2, rfl, by decide⟩ | exact ⟨4, rfl, by decide⟩ | exact ⟨1, rfl, by decide⟩); have htB := B4c hdd)
 (refine I9 rfl (B4a br pb nb cb bs hnb dd (p + 1) Gn ⟨⟨[]⟩⟩ (by omega) (by have hz : (⟨⟨[]⟩⟩ : ByteArray).size ≤ 2 := (by decide); omega) hb (by omega)) (Pk.perm (by repeat (first | exact Pk.here | apply Pk.there))) rfl rfl (fun v G3 outs hle3 hh => ?_); obtain ⟨p3, hp31, hp32, rfl, t3, cells3, rfl, hr3, hs3⟩ := hh; have hl3 := hr3.len; have ho3 := hr3.one; have hc3 := A6l t3; have hv3 := A3h t3 G3 cells3 (by omega) hr3)
 refine sE (A8 rfl) rfl (fun b13 => ?_)
 refine sS rfl rfl rfl hl3 ho3 rfl ?_ (hu := by exact D4 hl3.symm)
 refine B2 ?_
 refine sL (A3 rfl rfl (B1 (by repeat first | exact mH | apply mT)) hl3) rfl rfl ?_
 refine E8 rfl (hv3) rfl rfl (fun h21 => ?_) (fun h21 => ?_)
 refine B2 ?_
 refine sL (A3 rfl rfl (B1 (by repeat first | exact mH | apply mT)) hl3) rfl rfl ?_
 refine sS rfl rfl rfl hl3 ho3 rfl ?_ (hu := by exact D4 hl3.symm)
 refine B7 ?_
 refine H7 (outs := [rd br pb nb cb p3]) (rC rfl (A3 rfl rfl (B1 (by repeat first | exact mH | apply mT)) hl3)) (by repeat (first | exact A0.nil | refine A0.cons Pk.here ?_ | refine A0.cons (Pk.there Pk.here) ?_ | refine A0.cons (Pk.there (Pk.there Pk.here)) ?_ | apply A0.drop)) ?_
 (exact ⟨p3, by omega, by omega, rfl, t3, cells3, rfl, hr3, by omega⟩)
 refine B5 ?_
 refine H9 rfl ((A2I _ _)) rfl rfl ?_
 refine B7 ?_
 refine H7 (outs := [rd br pb nb cb p3]) (rC rfl (A6 rfl rfl)) (by repeat (first | exact A0.nil | refine A0.cons Pk.here ?_ | refine A0.cons (Pk.there Pk.here) ?_ | refine A0.cons (Pk.there (Pk.there Pk.here)) ?_ | apply A0.drop)) ?_
 (exact ⟨p3, by omega, by omega, rfl, _, _, rfl, A1S ⟨by omega, by omega⟩ ⟨by omega, by omega⟩, by rw [A19]; decide⟩)
theorem A0y (G : IM) : Fn Tryz.prog 121 [] [] G (H5 (.agg ⟨[.int .i64 2, .slice none 0 0]⟩) G) := by
 refine C2 Tryz.func121 rfl Tryz.ntmps121 Tryz.results121 rfl ?_
 intro w0
 refine A5 ?_
 refine sE (A8 rfl) rfl (fun b3 => ?_)
 refine E1 ?_
 refine N4 (rC rfl (A6 rfl rfl)) ?_
 exact ⟨rfl, rfl, rfl⟩
theorem A3j (G : IM) : Fn Tryz.prog 119 [] [] G (H5 (.agg ⟨[.int .i64 3, .slice none 0 0]⟩) G) := by
 refine C2 Tryz.func119 rfl Tryz.ntmps119 Tryz.results119 rfl ?_
 intro w0
 refine A5 ?_
 refine sE (A8 rfl) rfl (fun b3 => ?_)
 refine E1 ?_
 refine N4 (rC rfl (A6 rfl rfl)) ?_
 exact ⟨rfl, rfl, rfl⟩
theorem A0z (G : IM) (k : Int) (p : Option Addr) (n c : Nat) : Fn Tryz.prog 118 [.int .i64 k, .slice p n c] [] G (H5 (.agg ⟨[.int .i64 k, .string ⟨⟨[]⟩⟩, .int .i64 0, .int .i64 0, .slice none 0 0, .int .i64 0, .slice none 0 0, .int .i64 0, .slice p n c]⟩) G) := by
 refine C2 Tryz.func118 rfl Tryz.ntmps118 Tryz.results118 rfl ?_
 intro w0
 refine A5 ?_
 refine sE (A8 rfl) rfl (fun b3 => ?_)
 refine I8 ?_
 refine N4 (rC rfl (A6 rfl rfl)) ?_
 exact ⟨rfl, rfl, rfl⟩
theorem O3 (G : IM) {k : Int} (hk : H1 k) : C1 G (.mk k []) [.int .i64 k, .slice none 0 0] := by
 simp only [C1]
 exact ⟨none, 0, [], rfl, hk, E0.of (Sl.nil _ _) rfl (by simp) (by simp), by simp [D5]⟩
theorem A9B (k : Int) : K6 (.mk k []) = 0 := rfl
def TyB (B : Int) (G : IM) : IM → Value → List A7 → Prop := M3 fun G' v => ∃ t cells b, v = .tuple ⟨[.agg ⟨cells⟩, .bool b]⟩ ∧ C1 G' t cells ∧ F8 t ∧ K6 t ≤ B
theorem A9C {k : Int} {a b : Ty} (hk : k = 4 ∨ k = 5) (ha : F8 a) (hb : F8 b) : F8 (.mk k [a, b]) := by
 rw [F8]
 exact ⟨fun _ => rfl, fun h4 h5 => by omega, by simp [A0V, ha, hb]⟩
theorem X0 {k : Int} (h4 : k ≠ 4) (h5 : k ≠ 5) : F8 (.mk k []) := (A3d 0 h4 h5).ar
theorem F8.kid {k : Int} {ks : List Ty} (h : F8 (.mk k ks)) : ∀ t ∈ ks, F8 t := by
 rw [F8] at h; exact A1N.1 h.2.2
theorem F8.two {k : Int} {ks : List Ty} (h : F8 (.mk k ks)) : ks.length ≤ 2 := by
 rw [F8] at h
 have h1 := h.1
 have h2 := h.2.1
 omega
theorem A9D : ∀ {ks : List Ty} {t : Ty}, t ∈ ks → K6 t ≤ O8 ks
 | [], t, h => by simp at h
 | t' :: ts, t, h => by
  rw [O8]
  have := A09 t'
  have := A17 ts
  rcases List.mem_cons.1 h with rfl | h
  ·omega
  ·have := A9D h; omega
theorem B4e {k : Int} {ks : List Ty} {t : Ty} (h : t ∈ ks) : K6 t ≤ K6 (.mk k ks) := by
 have := A9D h
 rw [K6]; omega
def B8q (B : Int) (G : IM) : IM → Value → List A7 → Prop := M3 fun G' v => ∃ a ca b cb x, v = .tuple ⟨[.agg ⟨ca⟩, .agg ⟨cb⟩, .bool x]⟩ ∧ C1 G' a ca ∧ F8 a ∧ K6 a ≤ B ∧ C1 G' b cb ∧ F8 b ∧ K6 b ≤ B
def TyP (B : Int) (Q : Ty → Prop) (G : IM) : IM → Value → List A7 → Prop := M3 fun G' v => ∃ t cells, v = .agg ⟨cells⟩ ∧ C1 G' t cells ∧ F8 t ∧ K6 t ≤ B ∧ Q t
theorem A9E {k : Int} {ks us : List Ty} (h : F8 (.mk k ks)) (hl : us.length = ks.length) (hu : ∀ u ∈ us, F8 u) : F8 (.mk k us) := by
 rw [F8] at h ⊢
 exact ⟨fun hk => by rw [hl]; exact h.1 hk, fun a b => by rw [hl]; exact h.2.1 a b, A1N.2 hu⟩
theorem A3k {P : Ty → Prop} {us : List Ty} {u : Ty} (h : ∀ x ∈ us, P x) (hu : P u) : ∀ x ∈ us ++ [u], P x := by
 simp only [List.forall_mem_append, List.forall_mem_singleton]; exact ⟨h, hu⟩
theorem A1T : ∀ (t t' : Ty) (G : IM) (cells cells' : List Value), F8 t → F8 t' → C1 G t cells → C1 G t' cells' →
  Fn Tryz.prog 60 [.agg ⟨cells⟩, .agg ⟨cells'⟩] [] G (H5 (.bool (K5 t t')) G) := by
 refine Ty.ind fun k ks ih t' G cells cells' ha ha' hr hr' => ?_
 obtain ⟨k', ks'⟩ := t'
 obtain ⟨p, c, es, rfl, hk, hsl, hkl⟩ := hr.open
 obtain ⟨p', c', es', rfl, hk', hsl', hkl'⟩ := hr'.open
 simp only [Ty.k, Ty.ks] at hk hsl hkl hk' hsl' hkl' ⊢
 have hn := hsl.le
 have hn' := hsl'.le
 have hv2 := ha.kid
 have hv2' := ha'.kid
 rw [F8] at ha ha'
 have hle : k = k' → ks.length = ks'.length := by
  rintro rfl
  have h1 := ha.1
  have h2 := ha.2.1
  have h3 := ha'.1
  have h4 := ha'.2.1
  omega
 refine C2 Tryz.func60 rfl Tryz.ntmps60 Tryz.results60 rfl ?_
 intro w0
 refine A5 ?_
 refine sE (C7 rfl rfl) rfl (fun b3 => ?_)
 refine sE (C7 rfl rfl) rfl (fun b4 => ?_)
 refine D0 ?_
 refine sB (qE rfl rfl) rfl rfl (fun h13 => ?_) (fun h13 => ?_)
 refine K4 ?_
 exact A47
 refine B9 ?_
 refine sB (qE rfl rfl) rfl rfl (fun h34 => ?_) (fun h34 => ?_)
 refine N5 ?_
 exact A47
 refine J4 ?_
 refine sB (M1 rfl rfl) rfl rfl (fun h61 => ?_) (fun h61 => ?_)
 refine I8 ?_
 (rw [A85 (by omega) (by omega) (by omega)]; exact ⟨rfl, rfl, rfl⟩)
 refine I8 ?_
 refine C3 ?_
 (have hll : ks.length = ks'.length := hle (by omega); refine K2 (fun (i : Nat) => ⟨[(5, .int .i64 i), (3, .pointer (some ⟨b4, 0, none⟩)), (2, .pointer (some ⟨b3, 0, none⟩))], [.blk b3 [.int .i64 k, .slice p ks.length c], .blk b4 [.int .i64 k', .slice p' ks'.length c']], G⟩) (fun i => i ≤ ks.length ∧ ∀ j (h : j < ks.length) (h' : j < ks'.length), j < i → K5 ks[j] ks'[j] = true) (fun i => ks.length - i) 0 ?_ ?_ ?_)
 exact E2
 exact ⟨by omega, by omega⟩
 (rintro i ⟨hi, hf⟩)
 refine B5 ?_
 refine sB (J8 rfl rfl) rfl rfl (fun h97 => ?_) (fun h97 => ?_)
 refine B0 ?_
 refine C3 ?_
 refine tS ?_
 (obtain ⟨b, o, p2, c2, rfl, hat, hre, hgb⟩ := hsl.kidTy hkl (i := i) (by omega) (by omega); obtain ⟨b', o', p2', c2', rfl, hat', hre', hgb'⟩ := hsl'.kidTy hkl' (i := i) (by omega) (by omega); refine D8 D9 rfl ?_)
 refine I6 (i := 0) (l' := [tt,ff,ff,ff,ff,ff,ff,ff,ff,ff,ff,ff]) rfl D3 (B8 rfl) rfl (by kernel_rfl) rfl rfl ?_
 refine aL 1 rfl (C4 rfl rfl) rfl ?_
 refine aP 2 rfl (qM rfl) rfl ?_
 refine aP 3 rfl (B6 rfl rfl rfl (by omega)) rfl ?_
 refine aL 4 rfl (A3 rfl rfl (hat _) rfl) rfl ?_
 refine aP 5 rfl (B8 rfl) rfl ?_
 refine aL 6 rfl (C4 rfl rfl) rfl ?_
 refine aP 7 rfl (qM rfl) rfl ?_
 refine aP 8 rfl (B6 rfl rfl rfl (by omega)) rfl ?_
 refine aL 9 rfl (A3 rfl rfl (hat' _) rfl) rfl ?_
 refine A4 10 ?_
 refine S2 rfl rfl (ih ks[i] (List.getElem_mem (by omega)) ks'[i] G _ _ (hv2 _ (List.getElem_mem (by omega))) (hv2' _ (List.getElem_mem (by omega))) hre hre') rfl rfl rfl (fun h118 => ?_) (fun h118 => ?_)
 refine aP 11 rfl (pNt rfl) rfl ?_
 refine D0 ?_
 refine sP (J6 rfl rfl (by omega) (by omega)) rfl rfl ?_
 refine A5 ?_
 refine K3 (i + 1) ?_ ?_ ?_
 exact E2
 exact A6n
 omega
 refine aP 11 rfl (pNf rfl) rfl ?_
 refine H6 ?_
 exact A87
 refine H6 ?_
 exact A88
theorem A5c (br : Nat) (pb : Option Addr) (nb cb : Nat) (bs : List UInt8) (hnb : nb ≤ 2000) : ∀ (t : Ty) (p : Nat) (G : IM) (cells : List Value), F8 t → C1 G t cells → Sl G pb nb cb 1 (N9 bs) → p + (K6 t).toNat + 1 < 1099511627776 →
  Fn Tryz.prog 59 [.pointer (some ⟨br, 0, none⟩), .agg ⟨cells⟩] [rd br pb nb cb p] G
   (A0q br pb nb cb p ((K6 t).toNat + 1) (fun G' v => ∃ u cells, v = .agg ⟨cells⟩ ∧ C1 G' u cells ∧ F8 u ∧ K6 u ≤ K6 t ∧ ∀ n, Q6 n t → Q6 n u)) := by
 refine Ty.ind fun k ks ih p G cells ha hr hb hp => ?_
 have hkid := ha.kid
 have hnn := A17 ks
 have hz : K6 (.mk k ks) = ks.length + O8 ks := by rw [K6]
 rw [hz] at hp ⊢
 obtain ⟨q, c, es, rfl, hk, hsl, hkl⟩ := hr.open
 simp only [Ty.k, Ty.ks] at hk hsl hkl ⊢
 have hn := hsl.le
 have hl2 := ha.two
 refine C2 Tryz.func59 rfl Tryz.ntmps59 Tryz.results59 rfl ?_
 intro w0
 refine A5 ?_
 refine sE (C7 rfl rfl) rfl (fun b3 => ?_)
 refine sE (A8 rfl) rfl (fun b4 => ?_)
 refine B0 ?_
 (refine I9 rfl (Z1 _ br pb nb cb p bs _ hb hnb (by omega)) (Pk.perm (by repeat (first | exact Pk.here | apply Pk.there))) rfl rfl (fun v11 G11 outs11 hle11 hh => ?_); obtain ⟨rfl, rfl, j11, rfl, hj11, hk11⟩ := hh; have hm := hle11)
 replace hb := hb.mono hle11
 replace hr := hr.mono hle11
 replace hsl := hsl.mono hle11
 replace hkl := hkl.mono hle11
 refine sB (qE rfl rfl) rfl rfl (fun h12 => ?_) (fun h12 => ?_)
 refine B2 ?_
 refine H9 rfl ((A1Q _)) rfl rfl ?_
 refine B2 ?_
 refine H7 (outs := [rd br pb nb cb (p + 1)]) (rC rfl (A6 rfl rfl)) (by repeat (first | exact A0.nil | refine A0.cons Pk.here ?_ | refine A0.cons (Pk.there Pk.here) ?_ | refine A0.cons (Pk.there (Pk.there Pk.here)) ?_ | apply A0.drop)) ?_
 (exact ⟨p + 1, by omega, by omega, rfl, Q5, _, rfl, A0M _, A30, by rw [A6y]; omega, fun n _ => A82 n⟩)
 refine J0 ?_
 refine sE (A8 rfl) rfl (fun b36 => ?_)
 refine E1 ?_
 refine C3 ?_
 (refine U9 25 2 ?_; refine K2 (fun (x : Nat × Option Addr × Nat × List Ty × List (List Value) × Nat × IM) => ⟨[(6, .int .i64 x.1), (5, .pointer (some ⟨b36, 0, none⟩)), (4, .pointer (some ⟨b4, 0, none⟩)), (0, .pointer (some ⟨br, 0, none⟩)), (3, .pointer (some ⟨b3, 0, none⟩))], [.blk b36 [.int .i64 k, .slice x.2.1 x.1 x.2.2.1], .slc x.2.1 x.2.2.1 25 2 x.1 x.2.2.2.2.1.flatten, rd br pb nb cb x.2.2.2.2.2.1, .blk b4 [.int .i64 0, .slice none 0 0], .blk b3 [.int .i64 k, .slice q ks.length c]], x.2.2.2.2.2.2⟩) (fun x => x.1 ≤ ks.length ∧ C6 G11 x.2.2.2.2.2.2 ∧ x.2.2.2.1.length = x.1 ∧ D5 x.2.2.2.2.2.2 x.2.2.2.1 x.2.2.2.2.1 ∧ (∀ u ∈ x.2.2.2.1, F8 u) ∧ (∀ n, Q6 n (.mk k ks) → ∀ u ∈ x.2.2.2.1, Q6 (n - 1) u) ∧ O8 x.2.2.2.1 ≤ O8 (ks.take x.1) ∧ p + 1 ≤ x.2.2.2.2.2.1 ∧ (x.2.2.2.2.2.1 : Int) ≤ p + 1 + x.1 + O8 (ks.take x.1)) (fun x => ks.length - x.1) (0, none, 0, [], [], p + 1, G11) ?_ ?_ ?_)
 (simp only [J9]; exact E2)
 (exact ⟨by simp, C6.refl _, rfl, by simp [D5], by simp, by simp, by simp [O8], by dsimp only; omega, by simp [O8]⟩)
 (rintro ⟨i, pn, cn, us, es', p', Gi⟩ ⟨hi, hle, hlu, hst, hau, hhu, hsu, hp1, hp2⟩; simp only [] at hi hle hlu hst hau hhu hsu hp1 hp2 ⊢; replace hsl := hsl.mono hle; replace hkl := hkl.mono hle; have htk := A8C ks i)
 refine B5 ?_
 refine sB (J8 rfl rfl) rfl rfl (fun h58 => ?_) (fun h58 => ?_)
 refine B0 ?_
 refine C3 ?_
 (obtain ⟨b, o, q0, d0, hp0, hat0, hre0, hg0⟩ := hsl.kidTy hkl (i := i) (by omega) (by omega); subst hp0; have e1 := B3g (ks := ks) (i := i) (by omega); have e2 := A8C ks (i + 1); have e3 := A09 ks[i]; have hih := ih ks[i] (List.getElem_mem (by omega)) p' Gi _ (hkid _ (List.getElem_mem (by omega))) hre0 (hb.mono hle) (by omega); refine D8 D9 rfl ?_)
 refine I6 (i := 0) (l' := [tt,ff,ff,ff,ff,ff,ff,ff,ff,ff,ff,ff,ff]) rfl D3 (B8 rfl) rfl (by kernel_rfl) rfl rfl ?_
 refine aL 1 rfl (C4 rfl rfl) rfl ?_
 refine aP 2 rfl (qM rfl) rfl ?_
 refine aP 3 rfl (B8 rfl) rfl ?_
 refine aL 4 rfl (C4 rfl rfl) rfl ?_
 refine aP 5 rfl (qM rfl) rfl ?_
 refine aP 6 rfl (B6 rfl rfl rfl (by omega)) rfl ?_
 refine aL 7 rfl (A3 rfl rfl (hat0 _) rfl) rfl ?_
 refine A4 8 ?_
 (refine X8 (l' := [tt,tt,tt,tt,tt,tt,tt,tt,tt,ff,ff,ff,ff]) rfl rfl hih (Pk.perm (by repeat (first | exact Pk.here | apply Pk.there))) rfl rfl rfl (by repeat (first | exact A9.nil | apply A9.dep (by decide +kernel) | apply A9.blk (by decide +kernel) (by repeat (first | exact Pk.here | apply Pk.there)) (by repeat first | exact mH | apply mT) | apply A9.im (by decide +kernel) hg0 (by repeat first | exact mH | apply mT))) (fun v G3 outs hle3 hh => ?_); obtain ⟨p3, hp31, hp32, rfl, u, cells3, rfl, hru, hua, hus, huh⟩ := hh; obtain ⟨q3, c3, es3, rfl, _⟩ := hru.open)
 refine A4 9 ?_
 (refine E6 rfl (D2 rfl rfl rfl (by omega) (by unfold maxLen; omega) rfl) rfl rfl ?_; rintro _ ⟨b78, rfl⟩)
 refine A4 10 ?_
 refine R4 rfl rfl rfl rfl rfl rfl (fun _ _ => by repeat (first | exact Sw.here | apply Sw.there)) (O2 (by repeat first | exact mH | apply mT)) rfl (by simp [Value.oneCell']) (by unfold maxLen; omega) (by omega) rfl rfl (by repeat (first | exact A9.nil | apply A9.dep (by decide +kernel) | apply A9.blk (by decide +kernel) (by repeat (first | exact Pk.here | apply Pk.there)) (by repeat first | exact mH | apply mT))) (fun pn' cn' => ?_)
 refine aP 11 rfl (B8 rfl) rfl ?_
 refine A4 12 ?_
 refine R9 rfl rfl rfl rfl rfl rfl rfl rfl (by kernel_rfl) (by repeat first | exact Sw.here | apply Sw.there) (by rfl) ?_
 refine B2 ?_
 refine sP (J6 rfl rfl (by omega) (by omega)) rfl rfl ?_
 refine A5 ?_
 refine K3 (i + 1, pn', cn', us ++ [u], es' ++ [[.int .i64 u.k, .slice q3 u.ks.length c3]], p3, G3) ?_ ?_ ?_
 (simp only [J9]; exact E2)
 (dsimp only; exact ⟨by omega, hle.trans hle3, by simp [hlu], D5.snoc (hst.mono hle3) hru, A3k hau hua, fun n hn => A3k (hhu n hn) (huh _ (A6m hn (List.getElem_mem _))), by rw [A5a]; omega, by omega, by omega⟩)
 exact X7
 refine J1 ?_
 (refine H3 (by repeat (first | exact Pk.here | apply Pk.there)) (fun G5 hle5 hsl5 hno5 => ?_); obtain rfl : i = ks.length := (by omega))
 refine tT ?_
 refine H7 (outs := [rd br pb nb cb p']) (rC rfl (A6 rfl rfl)) (by repeat (first | exact A0.nil | refine A0.cons Pk.here ?_ | refine A0.cons (Pk.there Pk.here) ?_ | refine A0.cons (Pk.there (Pk.there Pk.here)) ?_ | apply A0.drop)) ?_
 (rw [List.take_length] at hsu hp2; refine ⟨p', by omega, by omega, rfl, .mk k us, _, rfl, (hst.mono hle5).ty hlu hsl5 hk, A9E ha hlu hau, by rw [K6]; omega, fun n hn => B3J hn hlu (hhu n hn)⟩)
theorem At.sub {hp : List A7} {G : IM} {b o j : Nat} {vs : List Value} {v : Value} (h : At hp G b o vs) (hj : vs[j]? = some v) : At hp G b (o + j) [v] := by
 have key : ∀ {cs : List Value}, (∀ i u, vs[i]? = some u → cs[o + i]? = some u) → ∀ i u, [v][i]? = some u → cs[o + j + i]? = some u := by
  intro cs hc i u hu
  cases i with
  | zero => simp at hu; subst hu; simpa using hc j v hj
  | succ i => simp at hu
 rcases h with ⟨cs, hm, hv⟩ | ⟨n, c, el, sz, cs, hm, hv⟩ | ⟨full, hg, hv⟩
 ·exact .inl ⟨cs, hm, key hv⟩
 ·exact .inr (.inl ⟨n, c, el, sz, cs, hm, key hv⟩)
 ·exact .inr (.inr ⟨full, hg, key hv⟩)
def HTm (G : IM) (t : Tm) (k : Int) (cells : List Value) : Prop := ∃ pt ct et pf cf ef p c es,
 cells = [.int .i64 t.k, .string t.nm, .int .i64 t.num, .int .i64 t.ty.k, .slice pt t.ty.ks.length ct, .int .i64 t.fr.k, .slice pf t.fr.ks.length cf, .int .i64 t.lb, .slice p t.ks.length c] ∧
 E0 G pt t.ty.ks.length ct 2 et ∧ D5 G (A16 t.ty.ks k) et ∧ E0 G pf t.fr.ks.length cf 2 ef ∧ D5 G (A16 t.fr.ks (k + A0h t.ty.ks)) ef ∧ E0 G p t.ks.length c 9 es ∧ E4 G (A4X t.ks (k + A0h t.ty.ks + A0h t.fr.ks)) es
theorem B4f {nm : ByteArray} (h : A07 nm = true) : nm.size = 1 := by
 unfold A07 at h
 simp at h
 omega
theorem A9F {k : Int} {nm : ByteArray} {num : Int} {ty fr : Ty} {lb : Int} {n : Nat} (h : V7 k nm num ty fr lb n = true) : nm.size ≤ 1 := by
 obtain ⟨_, h2, h3, _⟩ := U3.1 h
 by_cases hk : k = 1 ∨ k = 5
 ·rw [B4f (h2 hk)]; omega
 ·rw [h3 hk]; decide
def RBd (G : IM) (e : List Value) : Prop := ∃ nm t q d, e = [.string nm, .int .i64 t.k, .slice q t.ks.length d] ∧ C1 G t [.int .i64 t.k, .slice q t.ks.length d] ∧ F8 t ∧ K6 t ≤ 30 ∧ nm.size ≤ 1
def Z3 (G : IM) (p : Option Addr) (n c : Nat) : Prop := ∃ es, es.length = n ∧ E0 G p n c 3 es ∧ ∀ e ∈ es, RBd G e
theorem RBd.mono {G G' : IM} {e : List Value} (h : RBd G e) (hg : C6 G G') : RBd G' e := by
 obtain ⟨nm, t, q, d, h1, h2, h3, h4⟩ := h
 exact ⟨nm, t, q, d, h1, h2.mono hg, h3, h4⟩
theorem Z3.mono {G G' : IM} {p : Option Addr} {n c : Nat} (h : Z3 G p n c) (hg : C6 G G') : Z3 G' p n c := by
 obtain ⟨es, h1, h2, h3⟩ := h
 exact ⟨es, h1, h2.mono hg, fun e he => (h3 e he).mono hg⟩
theorem Z3.nil (G : IM) : Z3 G none 0 0 := ⟨[], rfl, E0.nil _ _, by simp⟩
theorem At.drop {hp : List A7} {G : IM} {b o : Nat} {v : Value} {vs : List Value} (h : At hp G b o (v :: vs)) : At hp G b (o + 1) vs := by
 have key : ∀ {cs : List Value}, (∀ i u, (v :: vs)[i]? = some u → cs[o + i]? = some u) → ∀ i u, vs[i]? = some u → cs[o + 1 + i]? = some u := by
  intro cs hc i u hu
  have := hc (i + 1) u (by simpa using hu)
  rwa [show o + 1 + i = o + (i + 1) by omega]
 rcases h with ⟨cs, hm, hv⟩ | ⟨n, c, el, sz, cs, hm, hv⟩ | ⟨full, hg, hv⟩
 ·exact .inl ⟨cs, hm, key hv⟩
 ·exact .inr (.inl ⟨n, c, el, sz, cs, hm, key hv⟩)
 ·exact .inr (.inr ⟨full, hg, key hv⟩)
theorem Z3.get {G : IM} {p : Option Addr} {n c : Nat} (h : Z3 G p n c) {i : Nat} (hi : i < n) :
  ∃ b o nm t q d, p = some ⟨b, o, none⟩ ∧ (∀ hp, At hp G b (o + i * 3) [.string nm, .int .i64 t.k, .slice q t.ks.length d]) ∧ C1 G t [.int .i64 t.k, .slice q t.ks.length d] ∧ F8 t ∧ K6 t ≤ 30 ∧ G b ≠ none ∧ nm.size ≤ 1 := by
 obtain ⟨es, h1, h2, h3⟩ := h
 obtain ⟨e, b, o, he, rfl, hl, _, hat, hgb⟩ := h2.get (i := i) (by omega)
 obtain ⟨nm, t, q, d, rfl, h5, h6, h7, h8⟩ := h3 e (List.mem_of_getElem? he)
 exact ⟨b, o, nm, t, q, d, rfl, hat, h5, h6, h7, hgb, h8⟩
theorem Z3.le {G : IM} {p : Option Addr} {n c : Nat} (h : Z3 G p n c) : n ≤ 9223372036854775807 := by
 obtain ⟨es, h1, h2, h3⟩ := h
 exact h2.le
theorem B4g (G : IM) (p : Option Addr) (n c : Nat) (nm : ByteArray) (hx : Z3 G p n c) :
  Fn Tryz.prog 116 [.slice p n c, .string nm] [] G (TyB 30 G) := by
 have hn := hx.le
 refine C2 Tryz.func116 rfl Tryz.ntmps116 Tryz.results116 rfl ?_
 intro w0
 refine A5 ?_
 refine sE (A8 rfl) rfl (fun b3 => ?_)
 refine D0 ?_
 refine sP (P3 rfl rfl (by omega) (by omega)) rfl rfl ?_
 refine B9 ?_
 refine C3 ?_
 (refine K2 (fun (i : Nat) => ⟨[(6, .int .i64 ((i : Int) - 1)), (0, .slice p n c), (1, .string nm), (4, .pointer (some ⟨b3, 0, none⟩))], [.blk b3 [.int .i64 0, .slice none 0 0]], G⟩) (fun i => i ≤ n) (fun i => i) n ?_ ?_ ?_)
 exact E2
 exact Nat.le_refl _
 (rintro i hi)
 refine B7 ?_
 refine sB (A0S rfl rfl) rfl rfl (fun h25 => ?_) (fun h25 => ?_)
 refine B0 ?_
 (show J2 _ _ (.block 1 _) _ _; obtain ⟨j, rfl⟩ : ∃ j, i = j + 1 := ⟨i - 1, by omega⟩; rw [show ((j + 1 : Nat) : Int) - 1 = (j : Int) from by omega]; obtain ⟨b, o, nm1, t1, q1, d1, rfl, hat, hr1, ha1, hs1, hgb, hns1⟩ := hx.get (i := j) (by omega); refine C3 ?_)
 refine B7 ?_
 refine sP (B6 rfl rfl rfl (by omega)) rfl rfl ?_
 refine F0 ?_
 refine sL (A0E rfl rfl ((hat _).sub (j := 0) rfl)) rfl rfl ?_
 refine F0 ?_
 refine sB (A0F rfl rfl) rfl rfl (fun h41 => ?_) (fun h41 => ?_)
 refine B5 ?_
 refine sP (B6 rfl rfl rfl (by omega)) rfl rfl ?_
 refine F0 ?_
 refine sL (A3 rfl rfl (hat _).drop rfl) rfl rfl ?_
 (refine E5 rfl (P7 _ G _ ha1.small hr1) rfl rfl (fun v G1 hle1 hh => ?_); obtain ⟨cs1, F1, rfl, hs1', hn1⟩ := hh; obtain ⟨p1, c1, rfl, _⟩ := hs1'.open; have hrr := hs1'.R.mono (C9.le G1 G))
 refine J0 ?_
 refine I5 (rC rfl (A6 rfl rfl)) (rT rfl) ?_
 (exact ⟨rfl, _, _, _, rfl, hrr, ha1, hs1⟩)
 refine D0 ?_
 refine sP (P3 rfl rfl (by omega) (by omega)) rfl rfl ?_
 refine A5 ?_
 refine K3 j ?_ ?_ ?_
 exact E2
 (show _ ≤ n; omega)
 exact Nat.le_refl _
 refine K4 ?_
 refine I5 (rC rfl (A6 rfl rfl)) (rT rfl) ?_
 (exact ⟨rfl, _, _, _, rfl, O3 _ ⟨by omega, by omega⟩, X0 (by omega) (by omega), by rw [A9B]; omega⟩)
theorem B4h {G : IM} {nm : ByteArray} {k : Int} {ks : List Ty} {q : Option Addr} {d : Nat} (hr : C1 G (.mk k ks) [.int .i64 k, .slice q ks.length d]) (ha : F8 (.mk k ks)) (hs : K6 (.mk k ks) ≤ 30) (hn : nm.size ≤ 1) : RBd G [.string nm, .int .i64 k, .slice q ks.length d] := ⟨nm, .mk k ks, q, d, rfl, hr, ha, hs, hn⟩
theorem Z3.snoc {G G' : IM} {p p' : Option Addr} {n c c' : Nat} {es : List (List Value)} {e : List Value} (h1 : es.length = n) (h2 : E0 G p n c 3 es) (h3 : ∀ e ∈ es, RBd G e) (hg : C6 G G') (he : RBd G' e) (hs : Sl G' p' (n + 1) c' 3 (es.flatten ++ e)) : Z3 G' p' (n + 1) c' := by
 refine ⟨es ++ [e], by simp [h1], E0.of (by simpa using hs) (by simp [h1]) ?_ ?_, ?_⟩
 ·intro x hx
  rcases List.mem_append.1 hx with hx | hx
  ·obtain ⟨_, _, _, _, rfl, _⟩ := h3 x hx; rfl
  ·obtain ⟨_, _, _, _, rfl, _⟩ := he
   simp only [List.mem_singleton] at hx; subst hx; rfl
 ·intro x hx
  rcases List.mem_append.1 hx with hx | hx
  ·obtain ⟨_, _, _, _, rfl, _⟩ := h3 x hx; simp [Value.oneCell']
  ·obtain ⟨_, _, _, _, rfl, _⟩ := he
   simp only [List.mem_singleton] at hx; subst hx; simp [Value.oneCell']
 ·intro x hx
  rcases List.mem_append.1 hx with hx | hx
  ·exact (h3 x hx).mono hg
  ·simp only [List.mem_singleton] at hx; subst hx; exact he
theorem A6E {Q : Prop} (h : Q := by (exact ⟨rfl, _, _, rfl, Z3.snoc h1 h2 h3 hle5 (B4h (hr.mono hle5) ha hs hnm) hsl5⟩)) : Q := h
theorem B4i (G : IM) (p : Option Addr) (n c : Nat) (nm : ByteArray) (t : Ty) (cells : List Value) (hx : Z3 G p n c) (hn : n ≤ 1000) (hr : C1 G t cells) (ha : F8 t) (hs : K6 t ≤ 30) (hnm : nm.size ≤ 1) :
  Fn Tryz.prog 130 [.slice p n c, .string nm, .agg ⟨cells⟩] [] G (M3 fun G' v => ∃ p' c', v = .slice p' (n + 1) c' ∧ Z3 G' p' (n + 1) c') := by
 obtain ⟨k, ks⟩ := t
 obtain ⟨q, d, es0, rfl, _⟩ := hr.open
 simp only [Ty.k, Ty.ks] at hr ⊢
 obtain ⟨es, h1, h2, h3⟩ := hx
 have hSl : Sl G p n c 3 es.flatten := h2.1
 have h1c : ∀ u ∈ es.flatten, u.oneCell' = true := by
  intro u hu
  obtain ⟨e, he, hue⟩ := List.mem_flatten.1 hu
  obtain ⟨_, _, _, _, rfl, _⟩ := h3 e he
  simp only [List.mem_cons, List.not_mem_nil, or_false] at hue
  rcases hue with rfl | rfl | rfl <;> rfl
 refine C2 Tryz.func130 rfl Tryz.ntmps130 Tryz.results130 rfl ?_
 intro w0
 refine A5 ?_
 refine sE (C7 rfl rfl) rfl (fun b3 => ?_)
 refine B7 ?_
 refine D8 D9 rfl ?_
 refine I6 (i := 1) (l' := [ff,tt,ff,ff,ff,ff,ff,ff,ff]) rfl D3 (qM rfl) rfl (by kernel_rfl) rfl rfl ?_
 refine aP 3 rfl (qM rfl) rfl ?_
 refine aL 4 rfl (A6 rfl rfl) rfl ?_
 refine aP 5 rfl (X5 rfl rfl) rfl ?_
 refine Q8 (j := 0) (j' := 6) (by kernel_rfl) ?_ ?_
 (refine E6 rfl (D2 rfl rfl rfl (by omega) (by unfold maxLen; omega) rfl) rfl rfl ?_; rintro _ ⟨b14, rfl⟩)
 refine Q8 (j := 2) (j' := 6) (by kernel_rfl) ?_ ?_
 (refine A3i rfl rfl rfl rfl rfl rfl (fun _ _ => by repeat (first | exact Sw.here | apply Sw.there)) hSl h1c (Nat.zero_le _) (by unfold maxLen; omega) (by omega) rfl rfl (by repeat (first | exact A9.nil | apply A9.dep (by decide +kernel) | apply A9.blk (by decide +kernel) (by repeat (first | exact Pk.here | apply Pk.there)) (by repeat first | exact mH | apply mT))) (fun p4 c4 => ?_); simp only [Nat.zero_add, List.nil_append])
 refine A4 6 ?_
 (refine E6 rfl (D2 rfl rfl rfl (by omega) (by unfold maxLen; omega) rfl) rfl rfl ?_; rintro _ ⟨b18, rfl⟩)
 refine A4 7 ?_
 (refine R4 rfl rfl rfl rfl rfl rfl (fun _ _ => by repeat (first | exact Sw.here | apply Sw.there)) (O2 (by repeat first | exact mH | apply mT)) rfl (by simp [Value.oneCell']) (by unfold maxLen; omega) (by omega) rfl rfl (by repeat (first | exact A9.nil | apply A9.dep (by decide +kernel) | apply A9.blk (by decide +kernel) (by repeat (first | exact Pk.here | apply Pk.there)) (by repeat first | exact mH | apply mT))) (fun p5 c5 => ?_))
 refine aP 8 rfl (qA rfl) rfl ?_
 refine A5 ?_
 (refine H3 (cs := es.flatten ++ [.string nm, .int .i64 k, .slice q ks.length d]) (by repeat (first | exact Pk.here | apply Pk.there)) (fun G5 hle5 hsl5 hno5 => ?_))
 refine A5 ?_
 exact A6E
 (refine E6 rfl (D2 rfl rfl rfl (by omega) (by unfold maxLen; omega) rfl) rfl rfl ?_; rintro _ ⟨b28, rfl⟩)
 refine A4 2 ?_
 (refine A3i rfl rfl rfl rfl rfl rfl (fun _ _ => by repeat (first | exact Sw.here | apply Sw.there)) hSl h1c (Nat.zero_le _) (by unfold maxLen; omega) (by omega) rfl rfl (by repeat (first | exact A9.nil | apply A9.dep (by decide +kernel) | apply A9.blk (by decide +kernel) (by repeat (first | exact Pk.here | apply Pk.there)) (by repeat first | exact mH | apply mT))) (fun p4 c4 => ?_); simp only [Nat.zero_add, List.nil_append])
 refine A4 7 ?_
 (refine R4 rfl rfl rfl rfl rfl rfl (fun _ _ => by repeat (first | exact Sw.here | apply Sw.there)) (O2 (by repeat first | exact mH | apply mT)) rfl (by simp [Value.oneCell']) (by unfold maxLen; omega) (by omega) rfl rfl (by repeat (first | exact A9.nil | apply A9.dep (by decide +kernel) | apply A9.blk (by decide +kernel) (by repeat (first | exact Pk.here | apply Pk.there)) (by repeat first | exact mH | apply mT))) (fun p5 c5 => ?_))
 refine aP 8 rfl (qA rfl) rfl ?_
 refine A5 ?_
 (refine H3 (cs := es.flatten ++ [.string nm, .int .i64 k, .slice q ks.length d]) (by repeat (first | exact Pk.here | apply Pk.there)) (fun G5 hle5 hsl5 hno5 => ?_))
 refine A5 ?_
 exact A6E
 (refine E6 rfl (D2 rfl rfl rfl (by omega) (by unfold maxLen; omega) rfl) rfl rfl ?_; rintro _ ⟨b40, rfl⟩)
 refine A4 0 ?_
 (refine E6 rfl (D2 rfl rfl rfl (by omega) (by unfold maxLen; omega) rfl) rfl rfl ?_; rintro _ ⟨b42, rfl⟩)
 refine A4 2 ?_
 (refine A3i rfl rfl rfl rfl rfl rfl (fun _ _ => by repeat (first | exact Sw.here | apply Sw.there)) hSl h1c (Nat.zero_le _) (by unfold maxLen; omega) (by omega) rfl rfl (by repeat (first | exact A9.nil | apply A9.dep (by decide +kernel) | apply A9.blk (by decide +kernel) (by repeat (first | exact Pk.here | apply Pk.there)) (by repeat first | exact mH | apply mT))) (fun p4 c4 => ?_); simp only [Nat.zero_add, List.nil_append])
 refine A4 7 ?_
 (refine R4 rfl rfl rfl rfl rfl rfl (fun _ _ => by repeat (first | exact Sw.here | apply Sw.there)) (O2 (by repeat first | exact mH | apply mT)) rfl (by simp [Value.oneCell']) (by unfold maxLen; omega) (by omega) rfl rfl (by repeat (first | exact A9.nil | apply A9.dep (by decide +kernel) | apply A9.blk (by decide +kernel) (by repeat (first | exact Pk.here | apply Pk.there)) (by repeat first | exact mH | apply mT))) (fun p5 c5 => ?_))
 refine aP 8 rfl (qA rfl) rfl ?_
 refine A5 ?_
 (refine H3 (cs := es.flatten ++ [.string nm, .int .i64 k, .slice q ks.length d]) (by repeat (first | exact Pk.here | apply Pk.there)) (fun G5 hle5 hsl5 hno5 => ?_))
 refine A5 ?_
 exact A6E
theorem B4j (G : IM) : Fn Tryz.prog 136 [.slice none 0 0] [] G (H5 (.bool true) G) := by
 refine C2 Tryz.func136 rfl Tryz.ntmps136 Tryz.results136 rfl ?_
 intro w0
 refine I8 ?_
 refine C3 ?_
 (refine K2 (fun (_ : Nat) => ⟨[(3, .int .i64 0), (0, .slice none 0 0)], [], G⟩) (fun _ => True) (fun i => i) 0 ?_ ?_ ?_)
 ·exact E2
 ·trivial
 ·(rintro i _)
  refine B0 ?_
  refine sP (A2t rfl rfl (by omega)) rfl rfl ?_
  refine N5 ?_
  refine sP (A76 rfl rfl (by omega)) rfl rfl ?_
  refine B2 ?_
  trivial
theorem A3l {k : Int} {n : Nat} (h : D7 k = n) : (k = 6 ∨ k = 7 ∨ k = 8 ∨ k = 10 → n = 2) ∧ (k = 9 → n = 3) ∧ (k = 5 ∨ k = 11 ∨ k = 12 ∨ k = 13 → n = 1) := by
 refine ⟨?_, ?_, ?_⟩
 ·rintro (rfl | rfl | rfl | rfl)
  ·rw [show D7 6 = 2 from rfl] at h; omega
  ·rw [show D7 7 = 2 from rfl] at h; omega
  ·rw [show D7 8 = 2 from rfl] at h; omega
  ·rw [show D7 10 = 2 from rfl] at h; omega
 ·rintro rfl
  rw [show D7 9 = 3 from rfl] at h; omega
 ·rintro (rfl | rfl | rfl | rfl)
  ·rw [show D7 5 = 1 from rfl] at h; omega
  ·rw [show D7 11 = 1 from rfl] at h; omega
  ·rw [show D7 12 = 1 from rfl] at h; omega
  ·rw [show D7 13 = 1 from rfl] at h; omega
theorem B4k : ∀ (t : Ty) (d : Int), O7 t d = true → F8 t := by
 refine Ty.ind fun k ks ih d h => ?_
 obtain ⟨h1, h2⟩ := A2C h
 rw [F8]
 refine ⟨fun hk => ?_, fun h4 h5 => ?_, A1N.2 fun t ht => ?_⟩
 ·have := (A1j k).2.1 hk
  omega
 ·have h5' := A1j k
  have h6 := h5'.1
  have h7 := h5'.2.2
  omega
 ·obtain ⟨i, hi, rfl⟩ := List.getElem_of_mem ht
  exact ih _ ht _ (h2 i hi)
theorem B4l : ∀ (n : Nat) (t : Ty) (d : Int), O7 t d = true → 4 - d ≤ n → Q6 n t := by
 intro n
 induction n with
 | zero =>
  rintro ⟨k, ks⟩ d h hd
  obtain ⟨h1, h2⟩ := A2C h
  have hks : ks.length = 0 := by
   rcases Nat.eq_zero_or_pos ks.length with h0 | h0
   ·exact h0
   ·have h3 := h2 0 h0
    obtain ⟨k', ks'⟩ : Ty := ks[0]
    have h4 : ∀ (u : Ty) (d : Int), O7 u d = true → d ≤ 4 := by
     rintro ⟨a, b⟩ d hu
     rw [O7] at hu
     simp only [Bool.and_eq_true, decide_eq_true_eq] at hu
     exact hu.1.1
    have := h4 _ _ h3
    omega
  have h5 := A1j k
  have h6 := h5.2.1
  exact ⟨List.length_eq_zero_iff.1 hks, by intro h; have := h6 (.inl h); omega, by intro h; have := h6 (.inr h); omega⟩
 | succ n ih =>
  rintro ⟨k, ks⟩ d h hd
  have ha := B4k _ _ h
  rw [F8] at ha
  obtain ⟨h1, h2⟩ := A2C h
  refine ⟨ha.1, ha.2.1, fun t ht => ?_⟩
  obtain ⟨i, hi, rfl⟩ := List.getElem_of_mem ht
  exact ih _ _ (h2 i hi) (by omega)
theorem A37 {t : Ty} (h : F4 t = true) : F8 t ∧ K6 t ≤ 30 := by
 have h1 := B4l 3 t 1 h (by omega)
 have h2 := A45 h1
 have h3 : ((2 ^ (3 + 1) - 2 : Nat) : Int) = 14 := rfl
 exact ⟨h1.ar, by omega⟩
theorem B4m {t : Ty} (h : A0I t = true) : F8 t ∧ K6 t ≤ 30 := by
 rw [A18 h]
 exact ⟨X0 (by decide) (by decide), by rw [B4, A9B]; omega⟩
theorem A3m {k : Int} {nm : ByteArray} {num : Int} {ty fr : Ty} {lb : Int} {n : Nat} (h : V7 k nm num ty fr lb n = true) : F8 ty ∧ K6 ty ≤ 30 := by
 have hn := U3.1 h
 by_cases hk : k = 5 ∨ k = 13 ∨ k = 14
 ·exact A37 (hn.2.2.2.2.2.1 hk)
 ·exact B4m (hn.2.2.2.2.2.2.1 hk)
theorem B3.of9 {G : IM} {k : Int} {nm : ByteArray} {num tk fk : Int} {tks fks : List Ty} {lb : Int} {ks : List Tm} {q1 q2 q3 : Option Addr} {c1 c2 c3 : Nat} {es : List (List Value)} (hk : H1 k) (hnum : H1 num) (hlb : H1 lb) (hty : C1 G (.mk tk tks) [.int .i64 tk, .slice q1 tks.length c1])
  (hfr : C1 G (.mk fk fks) [.int .i64 fk, .slice q2 fks.length c2]) (hsl : E0 G q3 ks.length c3 9 es) (hkl : E4 G ks es) :
  B3 G (.mk k nm num (.mk tk tks) (.mk fk fks) lb ks) [.int .i64 k, .string nm, .int .i64 num, .int .i64 tk, .slice q1 tks.length c1, .int .i64 fk, .slice q2 fks.length c2, .int .i64 lb, .slice q3 ks.length c3] := by
 simp only [B3]
 exact ⟨_, _, q3, c3, es, rfl, hk, hnum, hlb, hty, hfr, hsl, hkl⟩
theorem A2J {k k' : Int} {nm nm' : ByteArray} {num num' : Int} {ty fr ty' fr' : Ty} {lb lb' : Int} {ks : List Tm} (h : (Tm.mk k nm num ty fr lb ks).small) (h1 : nm'.size ≤ 4294967296) (h2 : ty'.small) (h3 : fr'.small) : (Tm.mk k' nm' num' ty' fr' lb' ks).small := by
 simp only [Tm.small] at h ⊢
 exact ⟨h1, h2, h3, h.2.2.2⟩
def Tm.fit (t : Tm) (N : Nat) : Prop := t.small ∧ D6 t ≤ N
theorem B4n (br : Nat) (pb : Option Addr) (nb cb : Nat) (bs : List UInt8) (hnb : nb ≤ 2000) (p : Nat) (G : IM) (hb : Sl G pb nb cb 1 (N9 bs)) (hp : p + 100 < 1099511627776) (t : Tm) (cells : List Value) (N : Nat) (hfit : t.fit N) (hr : B3 G t cells) :
  Fn Tryz.prog 39 [.pointer (some ⟨br, 0, none⟩), .agg ⟨cells⟩] [rd br pb nb cb p] G
   (A0q br pb nb cb p 40 (fun G' v => ∃ t cells, v = .agg ⟨cells⟩ ∧ B3 G' t cells ∧ t.fit N)) := by
 have hl := hr.len
 have hone := hr.one
 obtain ⟨k, nm, num, ⟨tk, tks⟩, ⟨fk, fks⟩, lb, ks⟩ := t
 have hfit0 := hfit
 obtain ⟨hsm, hcn⟩ := hfit0
 replace hfit : (Tm.mk k nm num (.mk tk tks) (.mk fk fks) lb ks).small ∧ D6 (Tm.mk k nm num (.mk tk tks) (.mk fk fks) lb ks) ≤ N := hfit
 rw [show (Tm.mk k nm num (.mk tk tks) (.mk fk fks) lb ks).small = (nm.size ≤ 4294967296 ∧ (Ty.mk tk tks).small ∧ (Ty.mk fk fks).small ∧ ks.length ≤ 4294967296 ∧ Tm.smallL ks) from by rw [Tm.small]] at hfit
 refine C2 Tryz.func39 rfl Tryz.ntmps39 Tryz.results39 rfl ?_
 intro w0
 refine A5 ?_
 refine sE (C7 rfl rfl) rfl (fun b3 => ?_)
 refine sE (A8 rfl) rfl (fun b4 => ?_)
 refine B7 ?_
 refine sL (A3 rfl rfl (B1 (by repeat first | exact mH | apply mT)) (by assumption)) rfl rfl ?_
 (refine E5 rfl (A3g _ G cells hsm hr) rfl rfl (fun v G1 hle1 hh => ?_); obtain ⟨cells1, F1, rfl, hs1, hn1⟩ := hh; have hr1 := hs1.R.mono (C9.le G1 G); obtain ⟨q1, c1, q2, c2, q3, c3, es, rfl, hk, hnum, hlb, hty, hfr, hsl, hkl⟩ := hr1.open9)
 refine sE (A8 rfl) rfl (fun b11 => ?_)
 refine B5 ?_
 (refine I9 rfl (Z1 _ br pb nb cb p bs 50 (hb.mono hle1) hnb (by omega)) (Pk.perm (by repeat (first | exact Pk.here | apply Pk.there))) rfl rfl (fun v G2 outs hle2 hh => ?_); obtain ⟨rfl, rfl, j, rfl, hj0, hj1⟩ := hh; replace hb := hb.mono hle1)
 refine A5 ?_
 (show J2 _ _ (.block 0 _) _ _; refine A0j (fun (x : List Value × Nat × IM) => ⟨[(5, .pointer (some ⟨b11, 0, none⟩)), (4, .pointer (some ⟨b4, 0, none⟩))], [.blk b11 x.1, .blk b4 [.int .i64 0, .string ⟨⟨[]⟩⟩, .int .i64 0, .int .i64 0, .slice none 0 0, .int .i64 0, .slice none 0 0, .int .i64 0, .slice none 0 0], rd br pb nb cb x.2.1], x.2.2⟩) (fun x => C6 G2 x.2.2 ∧ p ≤ x.2.1 ∧ x.2.1 ≤ p + 40 ∧ ∃ t, B3 x.2.2 t x.1 ∧ t.small ∧ D6 t = D6 (.mk k nm num (.mk tk tks) (.mk fk fks) lb ks)) ?_ ?_)
 refine C3 (tS (tR (sB (qE rfl rfl) rfl rfl (fun h26 => ?_) (fun h26 => ?_))))
 refine B0 ?_
 (refine J5 (D2 rfl rfl rfl (by omega) (by unfold maxLen; omega) rfl) rfl ?_; rintro _ ⟨b33, rfl⟩)
 (refine V0 (by repeat (first | exact Pk.here | apply Pk.there)) (fun G4 hle4 hsl4 _ => ?_); refine I9 rfl (A0k G4 br pb nb cb (p + 1) bs _ _ _ _ (hb.mono hle4) hnb (by omega) hsl4 (by decide)) (Pk.perm (by repeat (first | exact Pk.here | apply Pk.there))) rfl rfl (fun v G5 outs hle5 hh => ?_); obtain ⟨rfl, rfl, hv⟩ := hh; obtain ⟨k', rfl, hk'⟩ : ∃ k', v = .int .i64 k' ∧ H1 k' := (by simp only [List.mem_cons, List.not_mem_nil, or_false] at hv; rcases hv with rfl | rfl | rfl | rfl | rfl | rfl <;> exact ⟨_, rfl, by unfold H1; omega⟩))
 refine B7 ?_
 refine P8 ([.int .i64 k', .string nm, .int .i64 num, .int .i64 tk, .slice q1 tks.length c1, .int .i64 fk, .slice q2 fks.length c2, .int .i64 lb, .slice q3 ks.length c3], p + 1 + 1, G5) (M0 (by repeat (first | exact E7.nil | refine E7.cons rfl ?_)) (by repeat (first | exact A0.refl | exact A0.nil | refine A0.cons (by repeat (first | exact Pk.here | apply Pk.there)) ?_ | apply A0.drop))) ?_
 (dsimp only; exact ⟨hle4, by omega, by omega, _, B3.of9 hk' hnum hlb (hty.mono hle4) (hfr.mono hle4) (hsl.mono hle4) (hkl.mono hle4), A2J hsm hfit.1.1 hfit.1.2.1 hfit.1.2.2.1, rfl⟩)
 refine B0 ?_
 refine sB (qE rfl rfl) rfl rfl (fun h47 => ?_) (fun h47 => ?_)
 refine B0 ?_
 (refine J5 (D2 rfl rfl rfl (by omega) (by unfold maxLen; omega) rfl) rfl ?_; rintro _ ⟨b54, rfl⟩)
 (refine V0 (by repeat (first | exact Pk.here | apply Pk.there)) (fun G4 hle4 hsl4 _ => ?_); refine I9 rfl (A6x G4 br pb nb cb (p + 1) bs _ _ _ _ (hb.mono hle4) hnb (by omega) hsl4 (by decide)) (Pk.perm (by repeat (first | exact Pk.here | apply Pk.there))) rfl rfl (fun v G5 outs hle5 hh => ?_); obtain ⟨rfl, rfl, hv⟩ := hh; obtain ⟨nm', rfl, hnm'⟩ : ∃ nm', v = .string nm' ∧ nm'.size ≤ 2 := (by simp only [List.mem_cons, List.not_mem_nil, or_false] at hv; rcases hv with rfl | rfl | rfl | rfl <;> exact ⟨_, rfl, by decide⟩))
 refine B7 ?_
 refine P8 ([.int .i64 k, .string nm', .int .i64 num, .int .i64 tk, .slice q1 tks.length c1, .int .i64 fk, .slice q2 fks.length c2, .int .i64 lb, .slice q3 ks.length c3], p + 1 + 1, G5) (M0 (by repeat (first | exact E7.nil | refine E7.cons rfl ?_)) (by repeat (first | exact A0.refl | exact A0.nil | refine A0.cons (by repeat (first | exact Pk.here | apply Pk.there)) ?_ | apply A0.drop))) ?_
 (dsimp only; exact ⟨hle4, by omega, by omega, _, B3.of9 hk hnum hlb (hty.mono hle4) (hfr.mono hle4) (hsl.mono hle4) (hkl.mono hle4), A2J hsm (by omega) hfit.1.2.1 hfit.1.2.2.1, rfl⟩)
 refine B0 ?_
 refine sB (qE rfl rfl) rfl rfl (fun h68 => ?_) (fun h68 => ?_)
 refine B0 ?_
 (refine J5 (D2 rfl rfl rfl (by omega) (by unfold maxLen; omega) rfl) rfl ?_; rintro _ ⟨b75, rfl⟩)
 (refine V0 (by repeat (first | exact Pk.here | apply Pk.there)) (fun G4 hle4 hsl4 _ => ?_); refine I9 rfl (A0k G4 br pb nb cb (p + 1) bs _ _ _ _ (hb.mono hle4) hnb (by omega) hsl4 (by decide)) (Pk.perm (by repeat (first | exact Pk.here | apply Pk.there))) rfl rfl (fun v G5 outs hle5 hh => ?_); obtain ⟨rfl, rfl, hv⟩ := hh; obtain ⟨k', rfl, hk'⟩ : ∃ k', v = .int .i64 k' ∧ H1 k' := (by simp only [List.mem_cons, List.not_mem_nil, or_false] at hv; rcases hv with rfl | rfl | rfl | rfl | rfl | rfl <;> exact ⟨_, rfl, by unfold H1; omega⟩))
 refine B7 ?_
 refine P8 ([.int .i64 k, .string nm, .int .i64 k', .int .i64 tk, .slice q1 tks.length c1, .int .i64 fk, .slice q2 fks.length c2, .int .i64 lb, .slice q3 ks.length c3], p + 1 + 1, G5) (M0 (by repeat (first | exact E7.nil | refine E7.cons rfl ?_)) (by repeat (first | exact A0.refl | exact A0.nil | refine A0.cons (by repeat (first | exact Pk.here | apply Pk.there)) ?_ | apply A0.drop))) ?_
 (dsimp only; exact ⟨hle4, by omega, by omega, _, B3.of9 hk hk' hlb (hty.mono hle4) (hfr.mono hle4) (hsl.mono hle4) (hkl.mono hle4), A2J hsm hfit.1.1 hfit.1.2.1 hfit.1.2.2.1, rfl⟩)
 refine B0 ?_
 refine sB (qE rfl rfl) rfl rfl (fun h89 => ?_) (fun h89 => ?_)
 refine B5 ?_
 (refine I9 rfl (B34 br pb nb cb bs hnb (p + 1) _ hb (by omega)) (Pk.perm (by repeat (first | exact Pk.here | apply Pk.there))) rfl rfl (fun v G3 outs hle3 hh => ?_); obtain ⟨p3, hp31, hp32, rfl, t3, cells3, rfl, hr3, hs3⟩ := hh)
 (refine I9 rfl (B36 br pb nb cb bs hnb p3 _ (hb.mono hle3) (by omega) t3 cells3 hr3 hs3) (Pk.perm (by repeat (first | exact Pk.here | apply Pk.there))) rfl rfl (fun v G4 outs hle4 hh => ?_); obtain ⟨p4, hp41, hp42, rfl, t4, cells4, rfl, hr4, hs4⟩ := hh; have hts4 := A3Z t4 (by omega); obtain ⟨t4k, t4s⟩ := t4; obtain ⟨q4, c4, es4, rfl, _⟩ := hr4.open; have hle24 := hle3.trans hle4)
 refine B7 ?_
 refine P8 ([.int .i64 k, .string nm, .int .i64 num, .int .i64 t4k, .slice q4 t4s.length c4, .int .i64 fk, .slice q2 fks.length c2, .int .i64 lb, .slice q3 ks.length c3], p4, G4) (M0 (by repeat (first | exact E7.nil | refine E7.cons rfl ?_)) (by repeat (first | exact A0.refl | exact A0.nil | refine A0.cons (by repeat (first | exact Pk.here | apply Pk.there)) ?_ | apply A0.drop))) ?_
 (dsimp only; exact ⟨hle24, by omega, by omega, _, B3.of9 hk hnum hlb hr4 (hfr.mono hle24) (hsl.mono hle24) (hkl.mono hle24), A2J hsm hfit.1.1 hts4 hfit.1.2.2.1, rfl⟩)
 refine B0 ?_
 refine sB (qE rfl rfl) rfl rfl (fun h111 => ?_) (fun h111 => ?_)
 refine E1 ?_
 refine P8 ([.int .i64 k, .string nm, .int .i64 num, .int .i64 tk, .slice q1 tks.length c1, .int .i64 fk, .slice q2 fks.length c2, .int .i64 1, .slice q3 ks.length c3], p + 1, G2) (M0 (by repeat (first | exact E7.nil | refine E7.cons rfl ?_)) (by repeat (first | exact A0.refl | exact A0.nil | refine A0.cons (by repeat (first | exact Pk.here | apply Pk.there)) ?_ | apply A0.drop))) ?_
 (dsimp only; exact ⟨C6.refl _, by omega, by omega, _, B3.of9 hk hnum ⟨by omega, by omega⟩ hty hfr hsl hkl, A2J hsm hfit.1.1 hfit.1.2.1 hfit.1.2.2.1, rfl⟩)
 refine B0 ?_
 refine sB (qE rfl rfl) rfl rfl (fun h129 => ?_) (fun h129 => ?_)
 refine B2 ?_
 refine H9 rfl ((A1Q _)) rfl rfl ?_
 refine B7 ?_
 refine P8 ([.int .i64 k, .string nm, .int .i64 num, .int .i64 tk, .slice q1 tks.length c1, .int .i64 1, .slice none 0 0, .int .i64 lb, .slice q3 ks.length c3], p + 1, G2) (M0 (by repeat (first | exact E7.nil | refine E7.cons rfl ?_)) (by repeat (first | exact A0.refl | exact A0.nil | refine A0.cons (by repeat (first | exact Pk.here | apply Pk.there)) ?_ | apply A0.drop))) ?_
 (dsimp only; exact ⟨C6.refl _, by omega, by omega, _, B3.of9 hk hnum hlb hty (A0M _) hsl hkl, A2J hsm hfit.1.1 hfit.1.2.1 (by simp [Ty.small, Ty.smallL]), rfl⟩)
 refine B0 ?_
 refine P8 ([.int .i64 k, .string nm, .int .i64 num, .int .i64 tk, .slice q1 tks.length c1, .int .i64 fk, .slice q2 fks.length c2, .int .i64 lb, .slice q3 ks.length c3], p + 1, G2) (M0 (by repeat (first | exact E7.nil | refine E7.cons rfl ?_)) (by repeat (first | exact A0.refl | exact A0.nil | refine A0.cons (by repeat (first | exact Pk.here | apply Pk.there)) ?_ | apply A0.drop))) ?_
 (dsimp only; exact ⟨C6.refl _, by omega, by omega, _, B3.of9 hk hnum hlb hty hfr hsl hkl, A2J hsm hfit.1.1 hfit.1.2.1 hfit.1.2.2.1, rfl⟩)
 (rintro ⟨cells9, p9, G9⟩ ⟨hle9, hp9, hp9', t9, hr9, hs9, hc9⟩; simp only [] at hle9 hp9 hp9' hr9 hs9 hc9 ⊢; have hl9 := hr9.len; have ho9 := hr9.one)
 refine A5 ?_
 refine sL (A3 rfl rfl (B1 (by repeat first | exact mH | apply mT)) hl9) rfl rfl ?_
 refine sS rfl rfl rfl hl9 ho9 rfl ?_ (hu := by exact D4 hl9.symm)
 refine B9 ?_
 refine H7 (outs := [rd br pb nb cb p9]) (rC rfl (A3 rfl rfl (B1 (by repeat first | exact mH | apply mT)) hl9)) (by repeat (first | exact A0.nil | refine A0.cons Pk.here ?_ | refine A0.cons (Pk.there Pk.here) ?_ | refine A0.cons (Pk.there (Pk.there Pk.here)) ?_ | apply A0.drop)) ?_
 (exact ⟨p9, by omega, by omega, rfl, t9, cells9, rfl, hr9, hs9, by omega⟩)
section slaw
variable {P : Program} {Γ : M2} {env : M7} {hp : List A7} {G : IM} {ty : TypeId} {K : Po} {ops : Array Oper} {rest : List Oper}
theorem St.slc_open {a : Act} {w : World} {p : Option Addr} {c el sz n : Nat} {cs : List Value} {hp' : List A7} (hs : St Γ ⟨env, hp, G⟩ a w) (hk : Pk hp (.slc p c el sz n cs) hp') (h0 : 0 < n) :
  ∃ b C, p = some ⟨b, 0, none⟩ ∧ n ≤ c ∧ c ≤ maxLen ∧ St Γ ⟨env, .blk b (cs ++ C) :: hp', G⟩ a w := by
 have hown : T8 [.slc p c el sz n cs] G w := hs.res.own.of_mem hk.perm
 obtain ⟨hl, h⟩ := hown.ok _ List.mem_cons_self
 rcases h with ⟨hv, hn⟩ | ⟨g, cap, cur, hv, _, hg, hnc, hcm, hsz, ht⟩
 ·omega
 ·cases hv
  refine ⟨g, cur.toList.drop cs.length, rfl, hnc, hcm, ?_⟩
  have hcur : cur.toList = cs ++ cur.toList.drop cs.length := by
   have e : cs.length = n * sz := hl
   rw [e]
   conv => lhs; rw [← List.take_append_drop (n * sz) cur.toList, ht]
  have hr : R0 [.slc (some ⟨g, 0, none⟩) c el sz n cs] G w [.blk g (cs ++ cur.toList.drop cs.length)] G w := by
   refine ⟨⟨hown.inn, ?_, by simp [Fp, A7.fp], ?_⟩, Ext.refl _ _, C6.refl _, fun _ _ h => .inl h, ?_, fun b l h h0 => absurd h (by rw [h0]; simp)⟩
   ·intro e he
    simp at he; subst he
    refine ⟨el, ?_⟩
    rw [← hcur]; simpa using hg
   ·intro b' hb; exact hown.disj b' (by simpa [Fp, A7.fp, K0] using hb)
   ·intro b' hb; exact .inr (by simpa [Fp, A7.fp, K0] using hb)
  exact ⟨hs.size, hs.nod, hs.env, by have := (hs.res.perm hk.perm).frame hr; simpa using this⟩
theorem A38 {p : Option Addr} {c el sz n : Nat} {cs : List Value} {hp' : List A7} (hk : Pk hp (.slc p c el sz n cs) hp') (h0 : 0 < n)
  (h : ∀ b C, p = some ⟨b, 0, none⟩ → n ≤ c → c ≤ maxLen → I1 P Γ ops rest K ⟨env, .blk b (cs ++ C) :: hp', G⟩) : I1 P Γ ops rest K ⟨env, hp, G⟩ :=
 ⟨fun a w hs => let ⟨b, C, h1, h2, h3, h4⟩ := hs.slc_open hk h0; (h b C h1 h2 h3).run a w h4⟩
end slaw
theorem B4o {es : List (List Value)} {j : Nat} {vs : List Value} (hj : j < es.length) : (es.set j vs).flatten = (es.take j).flatten ++ (vs ++ (es.drop (j + 1)).flatten) := by
 rw [List.set_eq_take_append_cons_drop, if_pos hj]; simp
theorem A9G {es : List (List Value)} {j : Nat} (hj : j < es.length) : es.flatten = (es.take j).flatten ++ (es[j] ++ (es.drop (j + 1)).flatten) := by
 have h := congrArg List.flatten (List.take_append_drop j es).symm
 rw [List.drop_eq_getElem_cons hj, List.flatten_append, List.flatten_cons] at h
 exact h
theorem A39 {es : List (List Value)} {C vs : List Value} {j sz : Nat} (hj : j < es.length) (ha : ∀ e ∈ es, e.length = sz) (hv : vs.length = sz) : S7 (es.flatten ++ C) (0 + j * sz) vs = some ((es.set j vs).flatten ++ C) := by
 have := A52 (A := (es.take j).flatten) (B := es[j]) (C := (es.drop (j + 1)).flatten ++ C) (V := vs) (o := 0 + j * sz)
  (by rw [A0T (fun e he => ha e (List.mem_of_mem_take he)), List.length_take]; rw [Nat.min_eq_left (by omega)]; omega) (by rw [ha _ (List.getElem_mem hj), hv])
 rw [A9G hj, B4o hj]
 simp only [List.append_assoc] at this ⊢
 exact this
theorem E4.set {G : IM} : ∀ {ks : List Tm} {es : List (List Value)} {j : Nat} {y : Tm} {v : List Value}, E4 G ks es → B3 G y v → E4 G (ks.set j y) (es.set j v)
 | [], es, j, y, v, h, h2 => by simp only [E4] at h; subst h; simp [E4]
 | t :: ts, es, 0, y, v, h, h2 => by
  simp only [E4] at h
  obtain ⟨a, r, rfl, h3, h4⟩ := h
  simp only [List.set_cons_zero, E4]
  exact ⟨v, r, rfl, h2, h4⟩
 | t :: ts, es, j + 1, y, v, h, h2 => by
  simp only [E4] at h
  obtain ⟨a, r, rfl, h3, h4⟩ := h
  simp only [List.set_cons_succ, E4]
  exact ⟨a, r.set j v, rfl, h3, E4.set h4 h2⟩
def A9H : Tm → List Int → Tm → Tm
 | _, [], x => x
 | .mk k nm num ty fr lb ks, i :: is, x => if h : 0 ≤ i ∧ i < ks.length then .mk k nm num ty fr lb (ks.set i.toNat (A9H (ks[i.toNat]'(by omega)) is x)) else .mk k nm num ty fr lb ks
def TyV (e : Tm) (G : IM) : IM → Value → List A7 → Prop := M3 fun G' v => ∃ t cells b, v = .tuple ⟨[.agg ⟨cells⟩, .bool b]⟩ ∧ C1 G' t cells ∧ F8 t ∧ K6 t ≤ 960 ∧ (b = true → S9 e = true)
theorem A2K {G : IM} {e : Tm} {ce : List Value} {p : Option Addr} {c : Nat} (hr : B3 G e ce) (hs : Sl G p 1 c 9 ce) : E0 G p [e].length c 9 [ce] ∧ E4 G [e] [ce] := by
 refine ⟨E0.of (by simpa using hs) rfl (fun x hx => by simp only [List.mem_singleton] at hx; subst hx; exact hr.len) (fun x hx => by simp only [List.mem_singleton] at hx; subst hx; exact hr.one), ?_⟩
 simp only [E4]
 exact ⟨ce, [], rfl, hr, rfl⟩
def B8r (e : Tm) (label : Int) (G : IM) : IM → Value → List A7 → Prop := M3 fun G' v => ∃ u cu l', v = .tuple ⟨[.agg ⟨cu⟩, .int .i64 l']⟩ ∧ B3 G' u cu ∧ (e.small → u.small) ∧ D6 u ≤ D6 e + 1 ∧ label ≤ l' ∧ l' ≤ label + 1
def B8s (n : Nat) (G : IM) : IM → Value → List A7 → Prop := M3 fun G' v => ∃ p c es ws, v = .slice p n c ∧ ws.length = n ∧ E0 G' p n c 2 es ∧ D5 G' ws es ∧ ∀ w ∈ ws, F8 w
theorem E4.at2 {G : IM} {ts : List Tm} {es : List (List Value)} {i : Nat} (h : E4 G ts es) (h1 : i < ts.length) (h2 : i < es.length) : i < es.length ∧ B3 G ts[i] es[i] := by
 have := (h.inv (List.getElem?_eq_getElem h2) I3).2
 rw [List.getD_eq_getElem?_getD, List.getElem?_eq_getElem h1] at this
 exact ⟨h2, this⟩
mutual
theorem A9I : ∀ (t : Tm) (d : Int), M8 12 14 t d = true → t.small
 | .mk k nm num ty fr lb ks, d, h => by
  obtain ⟨h1, h2, h3, h4⟩ := A0s h
  have hn := U3.1 h3
  rw [Tm.small]
  refine ⟨?_, (A3m h3).1.small, ?_, ?_, A9J ks _ h4⟩
  ·by_cases hk : k = 1 ∨ k = 5
   ·have := hn.2.1 hk
    simp only [A07, decide_eq_true_eq] at this
    omega
   ·rw [hn.2.2.1 hk]; decide
  ·rw [A18 (hn.2.2.2.2.2.2.2.2 (by omega)).1]
   simp [B4, Ty.small, Ty.smallL]
  ·have := A1m k
   omega
theorem A9J : ∀ (ts : List Tm) (d : Int), O0 12 14 ts d = true → Tm.smallL ts
 | [], d, h => by rw [Tm.smallL]; trivial
 | t :: ts, d, h => by
  rw [O0, Bool.and_eq_true] at h
  rw [Tm.smallL]
  exact ⟨A9I t d h.1, A9J ts d h.2⟩
end
theorem A5d {hp : List A7} {G : IM} {b sz i : Nat} {es : List (List Value)} {C : List Value} (hm : A7.blk b (es.flatten ++ C) ∈ hp) (hi : i < es.length) (ha : ∀ e ∈ es, e.length = sz) : At hp G b (0 + i * sz) es[i] := by
 refine .inl ⟨_, hm, fun j u hu => ?_⟩
 rw [A9G hi, List.append_assoc, List.append_assoc]
 have hl : (es.take i).flatten.length = i * sz := by
  rw [A0T (fun e he => ha e (List.mem_of_mem_take he)), List.length_take, Nat.min_eq_left (by omega)]
 have hj : j < es[i].length := (List.getElem?_eq_some_iff.1 hu).1
 rw [List.getElem?_append_right (by omega), show 0 + i * sz + j - (es.take i).flatten.length = j by omega, List.getElem?_append_left hj]
 exact hu
def B8t (e : Tm) (label : Int) (G : IM) : IM → Value → List A7 → Prop := M3 fun G' v => ∃ u cu t ct l', v = .tuple ⟨[.agg ⟨cu⟩, .agg ⟨ct⟩, .int .i64 l']⟩ ∧ B3 G' u cu ∧ u.small ∧ D6 u + 1 ≤ 2 * D6 e ∧ C1 G' t ct ∧ F8 t ∧ K6 t ≤ 32 * (D6 e : Int) ∧ label ≤ l' ∧ l' + 1 ≤ label + 2 * (D6 e : Int)
def T3 (t : Ty) : Ty := if t.k = 4 ∨ t.k = 5 then .mk t.k [Q5, Q5] else .mk t.k []
def R7 (t : Ty) : Bool := decide (t.k ≠ 1) && M5 t (T3 t)
def O9 (t : Tm) : Bool := decide (t.k = 14 ∧ t.fr.k = t.ty.k ∧ (t.ty.k = 4 ∨ t.ty.k = 5))
def inj (t : Tm) : Bool := decide (t.k = 14 ∧ t.ty.k = 1) && R7 t.fr
mutual
def E3 : Tm → Bool
 | .mk k nm num ty fr lb ks => if k = 10 ∨ (k = 14 ∧ fr.k = ty.k ∧ (ty.k = 4 ∨ ty.k = 5)) ∨ (k = 14 ∧ ty.k = 1 ∧ R7 fr = true) then A1c ks else decide (k = 2 ∨ k = 3 ∨ k = 4 ∨ k = 5)
def A1c : List Tm → Bool
 | [] => true
 | t :: ts => E3 t && A1c ts
end
mutual
def R8 (x : ByteArray) (v : Tm) : Tm → Tm
 | .mk k nm num ty fr lb ks => if k = 1 ∧ nm = x then v else if k = 5 ∧ nm = x then .mk k nm num ty fr lb ks else .mk k nm num ty fr lb (Q0 x v ks)
def Q0 (x : ByteArray) (v : Tm) : List Tm → List Tm
 | [] => []
 | t :: ts => R8 x v t :: Q0 x v ts
end
theorem A5e (x : ByteArray) (v : Tm) : ∀ ks, Q0 x v ks = ks.map (R8 x v)
 | [] => rfl
 | t :: ts => by rw [Q0, A5e x v ts, List.map_cons]
def K7 (e : Tm) (fr to : Ty) (lb : Int) : Tm := .mk 14 ⟨#[]⟩ 0 to fr lb [e]
def Y2 (k : Int) (ks : List Tm) : Tm := .mk k ⟨#[]⟩ 0 B4 B4 0 ks
def A2a (n : Int) : Tm := .mk 2 ⟨#[]⟩ n B4 B4 0 []
def Y3 (b : Prop) [Decidable b] : Tm := Y2 (if b then 3 else 4) []
abbrev Stp := Tm × Int × Int
def Q2 : Stp := (I3, 3, 0)
def kd (ks : List Tm) (i : Nat) : Tm := ks.getD i I3
def kt (ks : List Ty) (i : Nat) : Ty := ks.getD i B4
def N1 (k : Int) (ty fr : Ty) (lb : Int) (ks : List Tm) : Stp :=
 if k = 6 then
  (if (kd ks 0).k = 5 then (R8 (kd ks 0).nm (kd ks 1) (kd (kd ks 0).ks 0), 1, 0)
   else if O9 (kd ks 0) = true ∧ (kd ks 0).ty.k = 4 then (K7 (Y2 6 [kd (kd ks 0).ks 0, K7 (kd ks 1) (kt (kd ks 0).ty.ks 0) (kt (kd ks 0).fr.ks 0) (-(kd ks 0).lb)]) (kt (kd ks 0).fr.ks 1) (kt (kd ks 0).ty.ks 1) (kd ks 0).lb, 1, 0)
   else Q2)
 else if k = 7 ∨ k = 8 then
  (if (kd ks 0).k = 2 ∧ (kd ks 1).k = 2 then (if k = 7 then A2a (((kd ks 0).num + (kd ks 1).num) % 1000) else Y3 ((kd ks 0).num < (kd ks 1).num), 1, 0) else Q2)
 else if k = 9 then (if (kd ks 0).k = 3 then (kd ks 1, 1, 0) else if (kd ks 0).k = 4 then (kd ks 2, 1, 0) else Q2)
 else if k = 11 ∨ k = 12 then
  (if (kd ks 0).k = 10 then (kd (kd ks 0).ks (k - 11).toNat, 1, 0)
   else if O9 (kd ks 0) = true ∧ (kd ks 0).ty.k = 5 then (K7 (Y2 k [kd (kd ks 0).ks 0]) (kt (kd ks 0).fr.ks (k - 11).toNat) (kt (kd ks 0).ty.ks (k - 11).toNat) (kd ks 0).lb, 1, 0)
   else Q2)
 else if k = 14 then
  (if fr.k = ty.k then (kd ks 0, 1, 0)
   else if ty.k = 1 then (K7 (K7 (kd ks 0) fr (T3 fr) lb) (T3 fr) ty lb, 1, 0)
   else if R7 ty = false then (K7 (K7 (kd ks 0) fr (T3 ty) lb) (T3 ty) ty lb, 1, 0)
   else if inj (kd ks 0) = false then Q2
   else if (kd ks 0).fr.k = ty.k then (kd (kd ks 0).ks 0, 1, 0)
   else (I3, 2, lb))
 else Q2
mutual
def H0 : Tm → Stp
 | .mk k nm num ty fr lb ks => match V2 (if k = 9 then 1 else ks.length) ks with
  | some (ks', c, l) => if c = 1 then (.mk k nm num ty fr lb ks', 1, 0) else (I3, c, l)
  | none => N1 k ty fr lb ks
def V2 : Nat → List Tm → Option (List Tm × Int × Int)
 | _, [] => none
 | n, t :: ts => match n with
  | 0 => none
  | n + 1 => if E3 t = true then (match V2 n ts with
    | some (us, c, l) => some (t :: us, c, l)
    | none => none)
   else some ((H0 t).1 :: ts, (H0 t).2.1, (H0 t).2.2)
end
def F9 (e : Tm) : Stp :=
 if M9 e = false then Q2 else if E3 e = true then (e, 0, 0)
 else if (H0 e).2.1 ≠ 1 then (I3, (H0 e).2.1, (H0 e).2.2)
 else if M9 (H0 e).1 = false then (I3, 4, 0) else ((H0 e).1, 1, 0)
def I0 : Nat → Tm → Tm × Int × Int × Nat
 | 0, e => if (F9 e).2.1 = 1 then (I3, 5, 0, 0) else ((F9 e).1, (F9 e).2.1, (F9 e).2.2, 0)
 | n + 1, e => if (F9 e).2.1 = 1 then ((I0 n (F9 e).1).1, (I0 n (F9 e).1).2.1, (I0 n (F9 e).1).2.2.1, (I0 n (F9 e).1).2.2.2 + 1)
  else ((F9 e).1, (F9 e).2.1, (F9 e).2.2, 0)
def S3 (e : Tm) (fuel : Int) : Stp := if 0 ≤ fuel ∧ fuel ≤ 300 then ((I0 fuel.toNat e).1, (I0 fuel.toNat e).2.1, (I0 fuel.toNat e).2.2.1) else Q2
def B8u (e : Tm) (fuel : Int) : Int := if 0 ≤ fuel ∧ fuel ≤ 300 then ((I0 fuel.toNat e).2.2.2 : Int) else 0
structure CvN (k : Int) (nm : ByteArray) (num : Int) (ty fr : Ty) (lb : Int) (ks : List Tm) : Prop where
 ops : D7 k = ks.length
 ne : k ≠ 13
 nm1 : nm.size ≤ 1
 num0 : 0 ≤ num ∧ num ≤ 999
 tyA : F8 ty
 frA : F8 fr
 lbB : -99 ≤ lb ∧ lb ≤ 99
 c14 : k = 14 → K5 fr ty = true ∧ F4 ty = true ∧ F4 fr = true
 ty5 : ¬(k = 5 ∨ k = 14) → ty = B4
 fr14 : k ≠ 14 → fr = B4 ∧ lb = 0
def cv (t : Tm) : Prop := ∃ d, M8 40 13 t d = true
theorem A2b {n lo hi : Int} : N7 n lo hi = true ↔ lo ≤ n ∧ n ≤ hi := by unfold N7; rw [decide_eq_true_eq]
theorem cv.node {k : Int} {nm : ByteArray} {num : Int} {ty fr : Ty} {lb : Int} {ks : List Tm} (h : cv (.mk k nm num ty fr lb ks)) : CvN k nm num ty fr lb ks ∧ ∀ t ∈ ks, cv t := by
 obtain ⟨d, h⟩ := h
 obtain ⟨_, h2, h3, h4⟩ := A0s h
 obtain ⟨n1, n2, n3, n4, n5, n6, n7, n8, n9⟩ := U3.1 h3
 refine ⟨⟨n1, h2, A9F h3, ?_, (A3m h3).1, ?_, ?_, ?_, ?_, ?_⟩, fun t ht => ?_⟩
 ·by_cases hk : k = 2
  ·exact A2b.1 (n4 hk)
  ·have := A2b.1 (n5 hk); omega
 ·by_cases hk : k = 14
  ·have := (n8 hk).1
   simp only [A15, Bool.and_eq_true] at this
   exact (A37 this.1.1).1
  ·rw [A18 (n9 hk).1]; exact X0 (by decide) (by decide)
 ·by_cases hk : k = 14
  ·have := (n8 hk).2
   simp only [A0J, Bool.or_eq_true, A2b] at this
   omega
  ·have := (n9 hk).2; omega
 ·intro hk
  have := (n8 hk).1
  simp only [A15, Bool.and_eq_true] at this
  exact ⟨this.2, this.1.2, this.1.1⟩
 ·intro hk
  exact A18 (n7 (by omega))
 ·intro hk
  exact ⟨A18 (n9 hk).1, (n9 hk).2⟩
 ·obtain ⟨i, hi, rfl⟩ := List.mem_iff_getElem.1 ht
  exact ⟨_, (A0W 40 13 ks _).1 h4 i hi⟩
theorem A1U {t : Tm} (h : M9 t = true) : cv t ∧ D6 t ≤ 200 := by
 obtain ⟨h1, h2⟩ := (A6v t).1 h
 exact ⟨⟨1, h1⟩, h2⟩
mutual
theorem A2L : ∀ (t : Tm), cv t → t.small
 | .mk k nm num ty fr lb ks, h => by
  obtain ⟨hn, hk⟩ := h.node
  rw [Tm.small]
  refine ⟨by have := hn.nm1; omega, hn.tyA.small, hn.frA.small, ?_, A9K ks hk⟩
  have := A1m k
  have := hn.ops
  omega
theorem A9K : ∀ (ts : List Tm), (∀ t ∈ ts, cv t) → Tm.smallL ts
 | [], _ => by rw [Tm.smallL]; trivial
 | t :: ts, h => by
  rw [Tm.smallL]
  exact ⟨A2L t (h t List.mem_cons_self), A9K ts fun u hu => h u (List.mem_cons_of_mem _ hu)⟩
end
theorem Z4 (k : Int) (nm : ByteArray) (num : Int) (ty fr : Ty) (lb : Int) (ks : List Tm) : D6 (.mk k nm num ty fr lb ks) = E9 ks + 1 := by rw [D6]
theorem A0t {k : Int} {nm : ByteArray} {num : Int} {ty fr : Ty} {lb : Int} {ks : List Tm} : (Tm.mk k nm num ty fr lb ks).small ↔ nm.size ≤ 4294967296 ∧ ty.small ∧ fr.small ∧ ks.length ≤ 4294967296 ∧ Tm.smallL ks := by rw [Tm.small]
theorem A4a : I3.small := by simp [I3, Tm.small, Ty.small, Ty.smallL, Tm.smallL, ByteArray.size]
theorem A2M : B4.small := by simp [B4, Ty.small, Ty.smallL]
mutual
theorem A9L {x : ByteArray} {v : Tm} (hv : v.small) : ∀ (t : Tm), t.small → (R8 x v t).small ∧ D6 (R8 x v t) ≤ D6 t * D6 v
 | .mk k nm num ty fr lb ks, h => by
  obtain ⟨h1, h2, h3, h4, h5⟩ := A0t.1 h
  obtain ⟨s1, s2⟩ := A9M hv ks h5
  have hp : 1 ≤ D6 v := by cases v; rw [D6]; omega
  rw [R8]
  split
  ·refine ⟨hv, ?_⟩
   rw [Z4]
   exact Nat.le_mul_of_pos_left _ (by omega)
  ·split
   ·exact ⟨h, Nat.le_mul_of_pos_right _ hp⟩
   ·refine ⟨A0t.2 ⟨h1, h2, h3, by rw [A5e, List.length_map]; exact h4, s1⟩, ?_⟩
    rw [Z4, Z4, Nat.add_mul]
    omega
theorem A9M {x : ByteArray} {v : Tm} (hv : v.small) : ∀ (ts : List Tm), Tm.smallL ts → Tm.smallL (Q0 x v ts) ∧ E9 (Q0 x v ts) ≤ E9 ts * D6 v
 | [], _ => by simp [Q0, Tm.smallL, E9]
 | t :: ts, h => by
  simp only [Tm.smallL] at h
  obtain ⟨a1, a2⟩ := A9L hv t h.1
  obtain ⟨b1, b2⟩ := A9M hv ts h.2
  simp only [Q0, Tm.smallL, E9, Nat.add_mul]
  exact ⟨⟨a1, b1⟩, by omega⟩
end
theorem A2c {ks : List Tm} (h : Tm.smallL ks) (i : Nat) : (kd ks i).small := by
 unfold kd
 rw [List.getD_eq_getElem?_getD]
 cases hi : ks[i]? with
 | none => exact A4a
 | some t => exact Tm.smallL_mem h t (List.mem_of_getElem? hi)
theorem A5f {ks : List Tm} (i : Nat) : D6 (kd ks i) ≤ E9 ks + 1 := by
 unfold kd
 rw [List.getD_eq_getElem?_getD]
 cases hi : ks[i]? with
 | none => simp [I3, D6, E9]
 | some t =>
  have := A56 (List.mem_of_getElem? hi)
  simp only [Option.getD_some]; omega
end Gw
end Go.Proofs.YthpdjmbpbdbodaaGreatDoor
