/-
  The reference model's TermValid.
-/
import Derived.Test.YtfpgncjeejickaaGreatKe2
import Derived.Test.YtfpgncjeejickaaGreatKe1
import Derived.Test.YtfpgncjeejickaaGreatKe0
import Derived.Laws.Slices
set_option linter.unusedVariables false
set_option linter.unusedSimpArgs false
set_option maxHeartbeats 0
set_option maxRecDepth 100000
set_option synthInstance.maxSize 4000
set_option synthInstance.maxHeartbeats 0
namespace Go.Proofs.YtfpgncjeejickaaGreat
open Go Go.RowKit
namespace Gw
theorem A0b (t : Tm) : O4 t = true ↔ M3 12 14 t 1 = true ∧ C6 t ≤ 30 := by
 have := A5H 30 12 14 t 1 0 (by omega)
 rw [O4, this]
 constructor
 ·rintro ⟨a, b⟩; exact ⟨a, by omega⟩
 ·rintro ⟨a, b⟩; exact ⟨a, by omega⟩
theorem B1U : ∀ (t : Tm) (d : Int) (G : IM) (cells : List Value), 0 ≤ d ∧ d ≤ 12 → A6 G t cells →
  Fn Tryz.prog 195 [.agg ⟨cells⟩, .int .i64 d] [] G (H6 (.bool (M3 12 14 t (13 - d))) G) := by
 refine Tm.ind fun k nm num ty fr lb ks ih d G cells hd hr => ?_
 have hr0 := hr
 have hne := fun h : k ≠ 14 => @A7H k nm num ty fr lb ks.length h
 have har := fun h : U8 k nm num ty fr lb ks.length = true => (V3.1 h).1
 obtain ⟨R, hR⟩ : ∃ R, U8 k nm num ty fr lb ks.length = R := ⟨_, rfl⟩
 rw [hR] at hne har
 have hl2 := A7G k nm num ty fr lb ks G cells hr0 R
 have hk1 := A4j k G
 obtain ⟨tk, tks⟩ := ty
 obtain ⟨fk, fks⟩ := fr
 obtain ⟨pt, ct, pf, cf, p, c, es, rfl, hk, hnum, hlb, hty, hfr, hsl, hkl⟩ := hr.open9
 have hn := hsl.le
 clear hr hr0
 refine B3 Tryz.func195 rfl Tryz.ntmps195 Tryz.results195 rfl ?_
 intro w0
 refine tS (tR ?_)
 refine sE (C0 rfl rfl) rfl (fun b3 => ?_)
 refine sQ (qA rfl) rfl (sD (nS (tS (tS ?_))))
 refine D5 D6 rfl ?_
 refine I3 (i := 0) (l' := [tt,ff,ff,ff,ff,ff,ff,ff,ff,ff,ff,ff,ff,ff,ff,ff,ff,ff,ff,ff,ff]) rfl D1 (qM rfl) rfl (by kernel_rfl) rfl rfl ?_
 refine A0C (i := 1) (l' := [tt,tt,ff,ff,ff,ff,ff,ff,ff,ff,ff,ff,ff,ff,ff,ff,ff,ff,ff,ff,ff]) rfl D1 (J9 rfl rfl) rfl (by kernel_rfl) rfl rfl (fun h11 => ?_) (fun h11 => ?_)
 refine aP 2 rfl (qM rfl) rfl ?_
 refine B4 3 rfl rfl rfl ?_
 refine B4 4 rfl rfl rfl ?_
 refine B4 6 rfl rfl rfl ?_
 refine B4 7 rfl rfl rfl ?_
 refine B4 8 rfl rfl rfl ?_
 refine B4 5 rfl rfl rfl ?_
 refine B4 9 rfl rfl rfl ?_
 refine aP 10 rfl (K8 rfl rfl) rfl ?_
 refine aP 11 rfl (qM rfl) rfl ?_
 refine B4 12 rfl rfl rfl ?_
 refine B4 13 rfl rfl rfl ?_
 refine B4 14 rfl rfl rfl ?_
 refine aP 15 rfl (K8 rfl rfl) rfl ?_
 refine aP 16 rfl (qM rfl) rfl ?_
 refine B4 17 rfl rfl rfl ?_
 refine B4 18 rfl rfl rfl ?_
 refine B4 19 rfl rfl rfl ?_
 refine aP 20 rfl (K8 rfl rfl) rfl ?_
 refine J2 ?_
 (rw [A1b (by rw [hR]; first | omega | exact .inr (.inr (by assumption)) | exact .inr (.inr (by cases R with | false => rfl | true => exact absurd (har rfl) (by omega))))]; exact ⟨rfl, rfl, rfl⟩)
 refine aP 2 rfl (qM rfl) rfl ?_
 refine aP 3 rfl (B0 rfl) rfl ?_
 refine aL 4 rfl (B9 rfl rfl) rfl ?_
 refine aP 6 rfl (B0 rfl) rfl ?_
 refine aL 7 rfl (B9 rfl rfl) rfl ?_
 refine aP 8 rfl (pLn rfl rfl) rfl ?_
 refine A2 5 ?_
 refine O5 rfl rfl (hk1) rfl rfl rfl ?_
 refine A0C (i := 9) (l' := [tt,tt,tt,tt,tt,tt,tt,tt,tt,tt,ff,ff,ff,ff,ff,ff,ff,ff,ff,ff,ff]) rfl D1 (M8 rfl rfl) rfl (by kernel_rfl) rfl rfl (fun h51 => ?_) (fun h51 => ?_)
 refine aP 10 rfl (N2 rfl rfl) rfl ?_
 refine aP 11 rfl (qM rfl) rfl ?_
 refine B4 12 rfl rfl rfl ?_
 refine B4 13 rfl rfl rfl ?_
 refine B4 14 rfl rfl rfl ?_
 refine aP 15 rfl (K8 rfl rfl) rfl ?_
 refine aP 16 rfl (qM rfl) rfl ?_
 refine B4 17 rfl rfl rfl ?_
 refine B4 18 rfl rfl rfl ?_
 refine B4 19 rfl rfl rfl ?_
 refine aP 20 rfl (K8 rfl rfl) rfl ?_
 refine J2 ?_
 (rw [A1b (by rw [hR]; first | omega | exact .inr (.inr (by assumption)) | exact .inr (.inr (by cases R with | false => rfl | true => exact absurd (har rfl) (by omega))))]; exact ⟨rfl, rfl, rfl⟩)
 refine aP 10 rfl (N2 rfl rfl) rfl ?_
 refine aP 11 rfl (qM rfl) rfl ?_
 refine aP 12 rfl (B0 rfl) rfl ?_
 refine aL 13 rfl (B9 rfl rfl) rfl ?_
 refine A0C (i := 14) (l' := [tt,tt,tt,tt,tt,tt,tt,tt,tt,tt,tt,tt,tt,tt,tt,ff,ff,ff,ff,ff,ff]) rfl D1 (qE rfl rfl) rfl (by kernel_rfl) rfl rfl (fun h79 => ?_) (fun h79 => ?_)
 refine aP 15 rfl (N2 rfl rfl) rfl ?_
 refine aP 16 rfl (qM rfl) rfl ?_
 refine B4 17 rfl rfl rfl ?_
 refine B4 18 rfl rfl rfl ?_
 refine B4 19 rfl rfl rfl ?_
 refine aP 20 rfl (K8 rfl rfl) rfl ?_
 refine J2 ?_
 (rw [A1b (by rw [hR]; first | omega | exact .inr (.inr (by assumption)) | exact .inr (.inr (by cases R with | false => rfl | true => exact absurd (har rfl) (by omega))))]; exact ⟨rfl, rfl, rfl⟩)
 refine aP 15 rfl (N2 rfl rfl) rfl ?_
 refine aP 16 rfl (qM rfl) rfl ?_
 refine aL 17 rfl (A1 rfl rfl) rfl ?_
 refine A2 18 ?_
 refine T4 rfl rfl (hl2 (hne (by omega) (by omega))) rfl rfl rfl (fun h102 => ?_) (fun h102 => ?_)
 refine aP 19 rfl (W0 rfl) rfl ?_
 refine aP 20 rfl (N2 rfl rfl) rfl ?_
 refine J2 ?_
 refine B7 ?_
 (refine L3 (fun (i : Nat) => ⟨[(5, .int .i64 i), (2, .pointer (some ⟨b3, 0, none⟩)), (1, .int .i64 d)], [.blk b3 [.int .i64 k, .string nm, .int .i64 num, .int .i64 tk, .slice pt tks.length ct, .int .i64 fk, .slice pf fks.length cf, .int .i64 lb, .slice p ks.length c]], G⟩) (fun i => i ≤ ks.length ∧ ∀ j (h : j < ks.length), j < i → M3 12 14 ks[j] (13 - d + 1) = true) (fun i => ks.length - i) 0 ?_ ?_ ?_)
 exact D3
 exact ⟨by omega, by omega⟩
 (rintro i ⟨hi, hf⟩)
 refine C4 ?_
 refine sB (J9 rfl rfl) rfl rfl (fun h128 => ?_) (fun h128 => ?_)
 refine sD (nS (qT rfl (tK (nS (tS ?_)))))
 refine B7 ?_
 refine Q3 ?_
 (obtain ⟨b, o, e, rfl, hl, hat, hre, hgb⟩ := hsl.kidTm hkl (i := i) (by omega) (by omega); refine sP (B2 rfl rfl rfl (by omega)) rfl rfl ?_)
 refine sL (A3 rfl rfl (hat _) hl) rfl rfl ?_
 refine sQ (qM rfl) rfl ?_
 refine sP (P0 rfl rfl (by omega) (by omega)) rfl rfl ?_
 (have hih := ih ks[i] (List.getElem_mem (by omega)) (d - 1) G _ (by omega) hre; rw [show 13 - (d - 1) = 13 - d + 1 by omega] at hih; refine E2 rfl hih rfl rfl (fun h145 => ?_) (fun h145 => ?_))
 refine D9 ?_
 refine sP (K4 rfl rfl (by omega) (by omega)) rfl rfl ?_
 refine sQ (qA rfl) rfl (sD ?_)
 refine K7 (i + 1) ?_ ?_ ?_
 exact D3
 exact ⟨by omega, fun j hj hji => by (by_cases he : j = i; (subst he; assumption); exact hf j hj (by omega))⟩
 omega
 refine I8 ?_
 (rw [A1c (by omega) (by omega) (hR.trans (by assumption)), A5D (i := i) (by omega) (by assumption)]; exact ⟨rfl, rfl, rfl⟩)
 refine I0 ?_
 (rw [A1c (by omega) (by omega) (hR.trans (by assumption)), (A0Z 12 14 ks _).2 (fun j hj => hf j hj (by omega))]; exact ⟨rfl, rfl, rfl⟩)
 refine aP 19 rfl (pNf rfl) rfl ?_
 refine aP 20 rfl (N2 rfl rfl) rfl ?_
 refine J2 ?_
 (rw [A1b (by rw [hR]; first | omega | exact .inr (.inr (by assumption)) | exact .inr (.inr (by cases R with | false => rfl | true => exact absurd (har rfl) (by omega))))]; exact ⟨rfl, rfl, rfl⟩)
theorem A5I (t : Tm) (G : IM) (cells : List Value) (hcnt : C6 t ≤ 4294967296) (hr : A6 G t cells) :
  Fn Tryz.prog 141 [.agg ⟨cells⟩] [] G (H6 (.bool (O4 t)) G) := by
 have hl := hr.len
 have hv := B1U t 12 G cells (by omega) hr
 have hc := fun h => A7R 12 14 t 12 G cells (by omega) h hcnt hr
 have hi := A0b t
 obtain ⟨R, hR⟩ : ∃ R, O4 t = R := ⟨_, rfl⟩
 rw [hR] at hi ⊢
 refine B3 Tryz.func141 rfl Tryz.ntmps141 Tryz.results141 rfl ?_
 intro w0
 refine tS (tR ?_)
 refine sE (C0 rfl rfl) rfl (fun b3 => ?_)
 refine sQ (qA rfl) rfl (sD (nS (tS (tR ?_))))
 refine sL (A3 rfl rfl (A9 (by repeat first | exact mH | apply mT)) (by assumption)) rfl rfl ?_
 refine E2 rfl (hv) rfl rfl (fun h10 => ?_) (fun h10 => ?_)
 refine sQ (qM rfl) rfl ?_
 refine sL (A3 rfl rfl (A9 (by repeat first | exact mH | apply mT)) (by assumption)) rfl rfl ?_
 refine I5 rfl (hc (by assumption)) rfl rfl ?_
 refine sB (A0g rfl rfl) rfl rfl (fun h14 => ?_) (fun h14 => ?_)
 refine J7 ?_
 exact ⟨rfl, by rw [hi.2 ⟨by assumption, by omega⟩], rfl⟩
 refine J7 ?_
 exact ⟨rfl, by (cases R with | false => rfl | true => (exfalso; have h0 := hi.1 rfl; first | omega | simp_all)), rfl⟩
 refine I7 ?_
 exact ⟨rfl, by (cases R with | false => rfl | true => (exfalso; have h0 := hi.1 rfl; first | omega | simp_all)), rfl⟩
theorem Sw.same {hp hp' : List A4} {e : A4} (h : Sw hp e e hp') : hp' = hp := by
 generalize he : e = e' at h
 have : ∀ {hp e e' hp'}, Sw hp e e' hp' → e = e' → hp' = hp := by
  intro hp e e' hp' h
  induction h with
  | here => rintro rfl; rfl
  | there _ ih => intro he; rw [ih he]
 subst he
 exact this h rfl
section
variable {P : Program} {Γ : K6} {env : L6} {hp : List A4} {G : IM} {ty : TypeId}
theorem A7T {d : Nat} {x y : Operand} {t el : TypeId} {i : L7} {sz by' : Nat} {zs : List Value} [hI : H9 P t i] {ie : L7} [hEl : H9 P el ie] (hd' : i.desc = .slice el) [hE : W9 P el sz by' zs] {p q : Option Addr} {c n m c2 : Nat} {cs news : List Value} {hp' : Option Addr → Nat → List A4}
  (hd : Nat.blt d Γ.n = true) (hx : evo env x = some (.slice p n c)) (hy : evo env y = some (.slice q m c2)) (hsz : Nat.blt 0 sz = true)
  (hm : ∀ p' c', Sw hp (.slc p c el sz n cs) (.slc p' c' el sz (n + m) (cs ++ news)) (hp' p' c'))
  (hS : Sl G q m c2 sz news) (h1 : ∀ u ∈ news, u.oneCell' = true) (hc : n ≤ c)
  (h63 : n + m ≤ maxLen) (hb : (n + m) * by' ≤ 140737488355328) :
  W8 P Γ ⟨env, hp, G⟩ (some d) (.call ⟨.builtin .append, ⟨[x, y]⟩, ⟨[t, t]⟩⟩) ty (J1 p) (fun σ' => ∃ p' c', σ' = ⟨(d, .slice p' (n + m) c') :: env, hp' p' c', G⟩) := by
 obtain ⟨hl, _, _, hat⟩ := hS
 rcases Nat.eq_zero_or_pos m with rfl | hm0
 ·obtain rfl : news = [] := List.length_eq_zero_iff.1 (by omega)
  have hpu := B0R (P := P) (Γ := Γ) (hp := hp) (G := G) (ty := ty) (t := t) (el := el) hd' hx hy hc
  refine ⟨fun a w hs pos af gd Q next hn => ?_⟩
  simp only [Oper.wp, hpu.run a w hs, Oper.upon]
  refine hn _ _ _ (hs.put d _ (by simpa using hd) hs.res) (Ext.refl _ _) ⟨p, c, ?_⟩
  have h0 := hm p c
  simp only [Nat.add_zero, List.append_nil] at h0 ⊢
  rw [h0.same]
 ·obtain ⟨b, o, full, rfl, hg, hv⟩ := hat.resolve_left (by omega)
  exact A5l hd' hd hx hy hsz hm (A3V hg hv) hl h1 h63 hb
variable {K : Po} {ops : Array Oper} {rest : List Oper} {pos : String} {af : Array Edge} {gd : Option (Nat × Bool)}
theorem A5J {d : Nat} {x y : Operand} {t el : TypeId} {i : L7} {sz by' : Nat} {zs : List Value} [hI : H9 P t i] {ie : L7} [hEl : H9 P el ie] [hE : W9 P el sz by' zs] {p q : Option Addr} {c n m c2 : Nat} {cs news : List Value} {hp' : Option Addr → Nat → List A4}
  (hd' : i.desc = .slice el) (hd : Nat.blt d Γ.n = true) (hx : evo env x = some (.slice p n c)) (hy : evo env y = some (.slice q m c2)) (hsz : Nat.blt 0 sz = true)
  (hm : ∀ p' c', Sw hp (.slc p c el sz n cs) (.slc p' c' el sz (n + m) (cs ++ news)) (hp' p' c'))
  (hS : Sl G q m c2 sz news) (h1 : ∀ u ∈ news, u.oneCell' = true) (hc : n ≤ c)
  (h63 : n + m ≤ maxLen) (hb : (n + m) * by' ≤ 140737488355328) (hw : L8 ops env gd = some true)
  (k : ∀ p' c', H3 P Γ ops rest K ⟨(d, .slice p' (n + m) c') :: env, hp' p' c', G⟩) : H3 P Γ ops (⟨some d, .call ⟨.builtin .append, ⟨[x, y]⟩, ⟨[t, t]⟩⟩, ty, pos, af, gd⟩ :: rest) K ⟨env, hp, G⟩ :=
 L4 (A7T hd' hd hx hy hsz hm hS h1 hc h63 hb) hw (by rintro _ ⟨p', c', rfl⟩; exact k p' c')
theorem A2L {H : List (Nat × Nat)} {fuel : Nat} {listed l' : List Bool} {j d : Nat} {cs : List Value} {x y : Operand} {t el : TypeId} {i : L7} {sz by' : Nat} {zs : List Value} [hI : H9 P t i] {ie : L7} [hEl : H9 P el ie] [hE : W9 P el sz by' zs] {p q : Option Addr} {c n m c2 : Nat} {news : List Value} {hp' : Option Addr → Nat → List A4} {H' : List (Nat × Nat)}
  (hi : ops[j]? = some ⟨some d, .call ⟨.builtin .append, ⟨[x, y]⟩, ⟨[t, t]⟩⟩, ty, pos, af, gd⟩) (hd' : i.desc = .slice el)
  (hd : Nat.blt d Γ.n = true) (hx : evo env x = some (.slice p n c)) (hy : evo env y = some (.slice q m c2)) (hsz : Nat.blt 0 sz = true)
  (hm : ∀ p' c', Sw hp (.slc p c el sz n cs) (.slc p' c' el sz (n + m) (cs ++ news)) (hp' p' c'))
  (hS : Sl G q m c2 sz news) (h1 : ∀ u ∈ news, u.oneCell' = true) (hc : n ≤ c)
  (h63 : n + m ≤ maxLen) (hb : (n + m) * by' ≤ 140737488355328) (hw : L8 ops env gd = some true) (hl : listed.set j true = l')
  (hok : A5 ops j hp G (.slc p c el sz n cs) H H')
  (k : ∀ p' c', N7 P Γ ops K H' fuel l' ⟨(d, .slice p' (n + m) c') :: env, hp' p' c', G⟩) : U4 P Γ ops K H fuel listed j ⟨env, hp, G⟩ :=
 A3g hi (A7T hd' hd hx hy hsz hm hS h1 hc h63 hb) hw hl (fun _ _ hs => hok.spec hs) hok.filter (by rintro _ ⟨p', c', rfl⟩; exact k p' c')
theorem X8 {H H' : List (Nat × Nat)} {fuel : Nat} {listed l' : List Bool} {j d : Nat} {f : FuncId} [hF : B1 P f] {xs : List Operand} {ats : Array TypeId} {vs : List Value} {e : A4} {rst : List A4} {post : IM → Value → List A4 → Prop}
  (hi : ops[j]? = some ⟨some d, .call ⟨.value (.func f), ⟨xs⟩, ats⟩, ty, pos, af, gd⟩) (hx : evl env xs = some vs) (h : Fn P f vs [e] G post) (hp' : hp.Perm ([e] ++ rst)) (hw : L8 ops env gd = some true) (hd : Nat.blt d Γ.n = true) (hl : listed.set j true = l')
  (hok : A5 ops j hp G e H H')
  (k : ∀ v G' outs, B6 G G' → post G' v outs → N7 P Γ ops K H' fuel l' ⟨(d, v) :: env, outs ++ rst, G'⟩) : U4 P Γ ops K H fuel listed j ⟨env, hp, G⟩ :=
 A3g hi (A3Z hx h hp' hd) hw hl (fun _ _ hs => by simpa [Fp] using hok.spec hs) hok.filter (by rintro _ ⟨v, G', outs, rfl, hle, hq⟩; exact k v G' outs hle hq)
end
section forget
variable {P : Program} {Γ : K6} {env : L6} {hp : List A4} {G : IM} {K : Po} {ops : Array Oper} {rest : List Oper} {ty : TypeId} {pos : String} {af : Array Edge} {gd : Option (Nat × Bool)}
end forget
def tAt : Tm → List Int → Option Tm
 | t, [] => some t
 | .mk _ _ _ _ _ _ ks, i :: is => if h : 0 ≤ i ∧ i < ks.length then tAt (ks[i.toNat]'(by omega)) is else none
def z9 : List Value := [.int .i64 0, .string ⟨⟨[]⟩⟩, .int .i64 0, .int .i64 0, .slice none 0 0, .int .i64 0, .slice none 0 0, .int .i64 0, .slice none 0 0]
def AtP (t : Tm) (path : List Int) (G : IM) : IM → Value → List A4 → Prop := fun G' v outs => G' = G ∧ outs = [] ∧
 ((∃ x cells, tAt t path = some x ∧ A6 G x cells ∧ v = .tuple ⟨[.agg ⟨cells⟩, .bool true]⟩) ∨ (tAt t path = none ∧ v = .tuple ⟨[.agg ⟨z9⟩, .bool false]⟩))
def D7 : Tm := .mk 0 ⟨⟨[]⟩⟩ 0 (.mk 0 []) (.mk 0 []) 0 []
theorem P9.zero (G : IM) : P9 G D7 z9 [] := by
 simp only [D7, P9, P1, N8, M2, z9]
 refine ⟨[.int .i64 0, .slice none 0 0], [.int .i64 0, .slice none 0 0], none, 0, [], [], [], [], rfl, ⟨by omega, by omega⟩, ⟨by omega, by omega⟩, ⟨by omega, by omega⟩, ?_, ?_, C9.nil _ _, ⟨rfl, rfl⟩, rfl, by simp [J1]⟩
 ·exact ⟨none, 0, [], [], rfl, ⟨by omega, by omega⟩, C9.nil _ _, ⟨rfl, rfl⟩, rfl, by simp [J1]⟩
 ·exact ⟨none, 0, [], [], rfl, ⟨by omega, by omega⟩, C9.nil _ _, ⟨rfl, rfl⟩, rfl, by simp [J1]⟩
def B6V (t : Tm) (path : List Int) : Tm × Bool := if O3 t = true then (match tAt t path with | some x => (x, true) | none => (D7, false)) else (D7, false)
def TbP (r : Tm × Bool) (G : IM) : IM → Value → List A4 → Prop := K5 fun G' v => ∃ cells F, v = .tuple ⟨[.agg ⟨cells⟩, .bool r.2]⟩ ∧ P9 (C1 G' G) r.1 cells F ∧ F.Nodup
structure A4p {ι : Type} (S : ι → Sy) (φ : ι → Prop) (e : Exit) (σ : Sy) : Prop where
 run : match e with
  | .normal => ∃ i, φ i ∧ Sub σ (S i)
  | _ => False
section cut
variable {P : Program} {Γ : K6} {K : Po} {σ : Sy} {ι : Type}
theorem A0c {c y : Code} (S : ι → Sy) (φ : ι → Prop) (h : I2 P Γ c (A4p S φ) σ) (k : ∀ i, φ i → I2 P Γ y K (S i)) : I2 P Γ c (A0O P Γ y K) σ := by
 refine tri_post h ?_
 rintro e σ ⟨hk⟩
 cases e with
 | normal => obtain ⟨i, hi, hs⟩ := hk; exact ⟨A6A hs (k i hi)⟩
 | _ => exact hk.elim
where
 tri_post {c : Code} {K K' : Po} {σ : Sy} (h : I2 P Γ c K σ) (hk : ∀ e σ, K e σ → K' e σ) : I2 P Γ c K' σ := A49 h hk
theorem Q0 {S : ι → Sy} {φ : ι → Prop} {σ : Sy} (i : ι) (hs : Sub σ (S i)) (h : φ i) : A4p S φ .normal σ := ⟨⟨i, h, hs⟩⟩
theorem B1V {S : ι → Sy} {φ : ι → Prop} : Y3 (A4p S φ) := fun _ _ h => h.run
instance npC5 {S : ι → Sy} {φ : ι → Prop} : NpC (A4p S φ) := ⟨B1V⟩
end cut
section take
variable {P : Program} {Γ : K6} {env : L6} {hp : List A4} {G : IM} {K : Po} {ops : Array Oper} {rest : List Oper} {ty : TypeId} {pos : String} {af : Array Edge} {gd : Option (Nat × Bool)}
theorem H4 {d : Nat} {f : FuncId} [hF : B1 P f] {xs : List Operand} {ats : Array TypeId} {vs : List Value} {ins rst : List A4} {post : IM → Value → List A4 → Prop}
  (hx : evl env xs = some vs) (h : Fn P f vs ins G post) (hp' : hp.Perm (ins ++ rst)) (hw : L8 ops env gd = some true) (hd : Nat.blt d Γ.n = true)
  (k : ∀ v G' outs, B6 G G' → post G' v outs → H3 P Γ ops rest K ⟨(d, v) :: env, outs ++ rst, G'⟩) : H3 P Γ ops (⟨some d, .call ⟨.value (.func f), ⟨xs⟩, ats⟩, ty, pos, af, gd⟩ :: rest) K ⟨env, hp, G⟩ :=
 L4 (A3Z hx h hp' hd) hw (by rintro _ ⟨v, G', outs, rfl, hle, hq⟩; exact k v G' outs hle hq)
end take
theorem X9 (G : IM) (br : Nat) (pb : Option Addr) (nb cb p : Nat) (bs : List UInt8) (q : Option Addr) (n c : Nat) (xs : List Value) (hb : Sl G pb nb cb 1 (N9 bs)) (hnb : nb ≤ 2000) (hp : p < 1099511627776) (hx : Sl G q n c 1 xs) (hn : 0 < n) :
  Fn Tryz.prog 118 [.pointer (some ⟨br, 0, none⟩), .slice q n c] [rd br pb nb cb p] G (fun G' v outs => G' = G ∧ outs = [rd br pb nb cb (p + 1)] ∧ v ∈ xs) := by
 refine B3 Tryz.func118 rfl Tryz.ntmps118 Tryz.results118 rfl ?_
 intro w0
 refine J2 ?_
 (refine H4 rfl (W3 G br pb nb cb p bs (n : Int) hb hnb hp) (List.Perm.refl _) rfl rfl (fun v G1 outs hle1 hh => ?_); obtain ⟨rfl, rfl, k, rfl, hk0, hkn⟩ := hh; obtain ⟨j, rfl⟩ := Int.eq_ofNat_of_zero_le hk0)
 (obtain ⟨b, o, v, rfl, hv, hat, _⟩ := hx.kid (i := j) (by omega); refine sP (B2 rfl rfl rfl (by omega)) rfl rfl ?_)
 refine sL (A0h rfl rfl (hat _)) rfl rfl ?_
 refine sQ (qA rfl) rfl (sD (nS (tT ?_)))
 refine F8 (rT rfl) A0.refl ?_
 exact ⟨rfl, rfl, List.mem_of_getElem? hv⟩
theorem A5K (G : IM) (br : Nat) (pb : Option Addr) (nb cb p : Nat) (bs : List UInt8) (q : Option Addr) (n c : Nat) (xs : List Value) (hb : Sl G pb nb cb 1 (N9 bs)) (hnb : nb ≤ 2000) (hp : p < 1099511627776) (hx : Sl G q n c 1 xs) (hn : 0 < n) :
  Fn Tryz.prog 155 [.pointer (some ⟨br, 0, none⟩), .slice q n c] [rd br pb nb cb p] G (fun G' v outs => G' = G ∧ outs = [rd br pb nb cb (p + 1)] ∧ v ∈ xs) := by
 refine B3 Tryz.func155 rfl Tryz.ntmps155 Tryz.results155 rfl ?_
 intro w0
 refine J2 ?_
 (refine H4 rfl (W3 G br pb nb cb p bs (n : Int) hb hnb hp) (List.Perm.refl _) rfl rfl (fun v G1 outs hle1 hh => ?_); obtain ⟨rfl, rfl, k, rfl, hk0, hkn⟩ := hh; obtain ⟨j, rfl⟩ := Int.eq_ofNat_of_zero_le hk0)
 (obtain ⟨b, o, v, rfl, hv, hat, _⟩ := hx.kid (i := j) (by omega); refine sP (B2 rfl rfl rfl (by omega)) rfl rfl ?_)
 refine sL (A0h rfl rfl (hat _)) rfl rfl ?_
 refine sQ (qA rfl) rfl (sD (nS (tT ?_)))
 refine F8 (rT rfl) A0.refl ?_
 exact ⟨rfl, rfl, List.mem_of_getElem? hv⟩
theorem A1e (G : IM) : Fn Tryz.prog 101 [] [] G (H6 (.agg ⟨[.int .i64 1, .slice none 0 0]⟩) G) := by
 refine B3 Tryz.func101 rfl Tryz.ntmps101 Tryz.results101 rfl ?_
 intro w0
 refine tS (tR ?_)
 refine sE (A7 rfl) rfl (fun b3 => ?_)
 refine D9 ?_
 refine E0 (rC rfl (A1 rfl rfl)) ?_
 exact ⟨rfl, rfl, rfl⟩
def dB : Nat → Nat
 | 0 => 0
 | d + 1 => 2 * dB d + 2
theorem B1W {d : Nat} (h : d ≤ 3) : dB (d + 1) ≤ 30 := by
 have : d = 0 ∨ d = 1 ∨ d = 2 ∨ d = 3 := by omega
 rcases this with rfl | rfl | rfl | rfl <;> decide
theorem B1X (k : Int) : U1 k ≤ 2 := by
 unfold U1; split <;> try split
 all_goals omega
theorem A4q : ∀ (ts : List Ty) (t : Ty), O6 (ts ++ [t]) = O6 ts + J8 t
 | [], t => by simp [O6]
 | a :: ts, t => by simp only [List.cons_append, O6, A4q ts t]; omega
theorem E6.ty {G : IM} {k : Int} {ts : List Ty} {es : List (List Value)} {p : Option Addr} {n c : Nat} (h : E6 G ts es) (hn : ts.length = n) (hs : Sl G p n c 2 es.flatten) (hk : E3 k) : B5 G (.mk k ts) [.int .i64 k, .slice p n c] := by
 subst hn
 simp only [B5]
 exact ⟨p, c, es, rfl, hk, C9.of hs h.len h.all (fun e he => (h.each e he).2), h⟩
theorem A3w (br : Nat) (pb : Option Addr) (nb cb : Nat) (bs : List UInt8) (hnb : nb ≤ 2000) : ∀ (d p : Nat) (G : IM), d ≤ 1000 → Sl G pb nb cb 1 (N9 bs) → p + dB (d + 1) < 1099511627776 →
  Fn Tryz.prog 152 [.pointer (some ⟨br, 0, none⟩), .int .i64 ((d + 1 : Nat) : Int)] [rd br pb nb cb p] G
   (Y7 br pb nb cb p (dB (d + 1)) (fun G' v => ∃ t cells, v = .agg ⟨cells⟩ ∧ B5 G' t cells ∧ J8 t ≤ ((dB (d + 1) : Nat) : Int) ∧ Q6 d t)) := by
 refine fun d => Nat.strongRecOn d fun d ih p G hd hb hp => ?_
 rw [dB] at hp ⊢
 refine B3 Tryz.func152 rfl Tryz.ntmps152 Tryz.results152 rfl ?_
 intro w0
 refine tS (tR ?_)
 refine sE (A7 rfl) rfl (fun b3 => ?_)
 refine sD (nS (tS (tR (sQ (qM rfl) rfl ?_))))
 (refine L4 (C8 rfl rfl rfl (by omega) (by unfold maxLen; omega) rfl) rfl ?_; rintro _ ⟨b9, rfl⟩)
 (refine T8 (by repeat (first | exact Pk.here | apply Pk.there)) (fun G1 hle1 hsl1 _ => ?_); refine H4 rfl (X9 G1 br pb nb cb p bs _ _ _ _ (hb.mono hle1) hnb (by omega) hsl1 (by decide)) (Pk.perm (by repeat (first | exact Pk.here | apply Pk.there))) rfl rfl (fun v G2 outs hle2 hh => ?_); obtain ⟨rfl, rfl, hv⟩ := hh; replace hb := hb.mono hle1; obtain ⟨k, rfl, hk1⟩ : ∃ k, v = .int .i64 k ∧ 1 ≤ k ∧ k ≤ 5 := (by simp only [List.mem_cons, List.not_mem_nil, or_false] at hv; rcases hv with rfl | rfl | rfl | rfl | rfl | rfl | rfl <;> exact ⟨_, rfl, by decide, by decide⟩))
 refine sQ (qA rfl) rfl (sD (nS (tS (tS ?_))))
 (have hv' := hv; refine A0c (fun (x : Bool) => ⟨(16, .bool x) :: [(5, .int .i64 k), (4, .pointer (some ⟨b3, 0, none⟩)), (0, .pointer (some ⟨br, 0, none⟩)), (1, .int .i64 ((d + 1 : Nat) : Int))], [rd br pb nb cb (p + 1), .blk b3 [.int .i64 0, .slice none 0 0]], G2⟩) (fun x => x = false → d = 0 → k < 4) ?_ ?_)
 refine tR (sQ (qM rfl) rfl ?_)
 refine sB (J9 rfl rfl) rfl rfl (fun h19 => ?_) (fun h19 => ?_)
 refine sQ (qM rfl) rfl (sQ (qM rfl) rfl ?_)
 refine sB (A0R rfl rfl) rfl rfl (fun h22 => ?_) (fun h22 => ?_)
 refine sQ (K8 rfl rfl) rfl (sD ?_)
 refine Q0 true (O2 (by repeat (first | exact E7.nil | refine E7.cons rfl ?_)) (by repeat (first | exact A0.refl | exact A0.nil | refine A0.cons (by repeat (first | exact Pk.here | apply Pk.there)) ?_ | apply A0.drop))) ?_
 (show _ = false → d = 0 → k < 4; intro hf h0; first | exact absurd hf (by decide) | omega)
 refine sQ (K8 rfl rfl) rfl (sD ?_)
 refine Q0 false (O2 (by repeat (first | exact E7.nil | refine E7.cons rfl ?_)) (by repeat (first | exact A0.refl | exact A0.nil | refine A0.cons (by repeat (first | exact Pk.here | apply Pk.there)) ?_ | apply A0.drop))) ?_
 (show _ = false → d = 0 → k < 4; intro hf h0; first | exact absurd hf (by decide) | omega)
 refine Q3 ?_
 refine Q0 false (O2 (by repeat (first | exact E7.nil | refine E7.cons rfl ?_)) (by repeat (first | exact A0.refl | exact A0.nil | refine A0.cons (by repeat (first | exact Pk.here | apply Pk.there)) ?_ | apply A0.drop))) ?_
 (show _ = false → d = 0 → k < 4; intro hf h0; first | exact absurd hf (by decide) | omega)
 (rintro x hx; clear hv)
 (show I2 _ _ (.cond (.tmp 16) _ _) _ _; refine A0c (fun (x : Int) => ⟨[(5, .int .i64 x), (4, .pointer (some ⟨b3, 0, none⟩)), (0, .pointer (some ⟨br, 0, none⟩)), (1, .int .i64 ((d + 1 : Nat) : Int))], [rd br pb nb cb (p + 1), .blk b3 [.int .i64 0, .slice none 0 0]], G2⟩) (fun x => 1 ≤ x ∧ x ≤ 5 ∧ (d = 0 → x < 4)) (A3S rfl (fun hxt => ?_) (fun hxf => ?_)) ?_)
 refine tR (sQ (qA rfl) rfl (sD ?_))
 refine Q0 1 (O2 (by repeat (first | exact E7.nil | refine E7.cons rfl ?_)) (by repeat (first | exact A0.refl | exact A0.nil | refine A0.cons (by repeat (first | exact Pk.here | apply Pk.there)) ?_ | apply A0.drop))) ?_
 (first | exact ⟨by omega, by omega, by omega⟩ | exact ⟨by omega, by omega, fun h0 => by have := hx hxf h0; omega⟩)
 refine tK ?_
 refine Q0 k (O2 (by repeat (first | exact E7.nil | refine E7.cons rfl ?_)) (by repeat (first | exact A0.refl | exact A0.nil | refine A0.cons (by repeat (first | exact Pk.here | apply Pk.there)) ?_ | apply A0.drop))) ?_
 (first | exact ⟨by omega, by omega, by omega⟩ | exact ⟨by omega, by omega, fun h0 => by have := hx hxf h0; omega⟩)
 (rintro kk ⟨hk2, hk3, hk4⟩; have hop := B1X kk; have hk5 := (M9 kk).1; have hk6 := (M9 kk).2.1; have hK := A7v kk)
 refine tS (tR (sQ (qM rfl) rfl (sQ (T3 rfl rfl) rfl ?_)))
 refine sE (A7 rfl) rfl (fun b53 => ?_)
 refine F4 ?_
 refine sD (nS (tS (tS (tR (sQ (qA rfl) rfl (sD (nS ?_)))))))
 refine B7 ?_
 (refine U5 25 2 ?_; refine L3 (fun (x : Nat × Option Addr × Nat × List Ty × List (List Value) × Nat × IM) => ⟨[(7, .int .i64 x.1), (5, .int .i64 kk), (6, .pointer (some ⟨b53, 0, none⟩)), (4, .pointer (some ⟨b3, 0, none⟩)), (0, .pointer (some ⟨br, 0, none⟩)), (1, .int .i64 ((d + 1 : Nat) : Int))], [.blk b53 [.int .i64 kk, .slice x.2.1 x.1 x.2.2.1], .slc x.2.1 x.2.2.1 25 2 x.1 x.2.2.2.2.1.flatten, rd br pb nb cb x.2.2.2.2.2.1, .blk b3 [.int .i64 0, .slice none 0 0]], x.2.2.2.2.2.2⟩) (fun x => (∀ u ∈ x.2.2.2.1, Q6 (d - 1) u) ∧ (x.1 : Int) ≤ U1 kk ∧ B6 G2 x.2.2.2.2.2.2 ∧ x.2.2.2.1.length = x.1 ∧ E6 x.2.2.2.2.2.2 x.2.2.2.1 x.2.2.2.2.1 ∧ O6 x.2.2.2.1 ≤ ((x.1 * dB d : Nat) : Int) ∧ p + 1 ≤ x.2.2.2.2.2.1 ∧ x.2.2.2.2.2.1 ≤ p + 1 + x.1 * dB d) (fun x => (U1 kk).toNat - x.1) (0, none, 0, [], [], p + 1, G2) ?_ ?_ ?_)
 (simp only [I6]; exact D3)
 (exact ⟨by simp, by dsimp only; omega, B6.refl _, rfl, by simp [E6], by simp [O6], by dsimp only; omega, by dsimp only; omega⟩)
 (rintro ⟨i, pn, cn, ts, es', p', Gi⟩ ⟨hah, hi, hle, hlt, hst, hsum, hq1, hq2⟩; simp only [] at hah hi hle hlt hst hsum hq1 hq2 ⊢; have hid : i * dB d ≤ 2 * dB d := Nat.mul_le_mul_right _ (by omega))
 refine tS (tS (tR (sQ (qM rfl) rfl (sQ (qM rfl) rfl ?_))))
 refine I5 rfl ((hK _)) rfl rfl ?_
 refine sB (J9 rfl rfl) rfl rfl (fun h74 => ?_) (fun h74 => ?_)
 refine sD (nS (qT rfl (tK (nS (tS ?_)))))
 refine B7 ?_
 (obtain ⟨d', rfl⟩ : ∃ d', d = d' + 1 := ⟨d - 1, by omega⟩; have hih := ih d' (by omega) p' Gi (by omega) (hb.mono hle) (by have := Nat.mul_le_mul_right (dB (d' + 1)) (show i + 1 ≤ 2 by omega); rw [Nat.succ_mul] at this; omega); refine D5 D6 rfl ?_)
 refine I3 (i := 0) (l' := [tt,ff,ff,ff,ff,ff,ff,ff,ff,ff]) rfl D1 (B0 rfl) rfl (by kernel_rfl) rfl rfl ?_
 refine aL 1 rfl (B9 rfl rfl) rfl ?_
 refine aP 2 rfl (qM rfl) rfl ?_
 refine aP 3 rfl (qM rfl) rfl ?_
 refine aP 4 rfl (A4h rfl rfl (by omega)) rfl ?_
 refine A2 5 ?_
 (refine X8 (l' := [tt,tt,tt,tt,tt,tt,ff,ff,ff,ff]) rfl rfl hih (Pk.perm (by repeat (first | exact Pk.here | apply Pk.there))) rfl rfl rfl (by repeat (first | exact A5.nil | apply A5.dep (by decide +kernel) | apply A5.blk (by decide +kernel) (by repeat (first | exact Pk.here | apply Pk.there)) (by repeat first | exact mH | apply mT))) (fun v G3 outs hle3 hh => ?_); obtain ⟨p3, hp31, hp32, rfl, t3, cells3, rfl, hr3, hs3, ha3⟩ := hh; obtain ⟨q3, c3, es3, rfl, _⟩ := hr3.open)
 refine A2 6 ?_
 (refine E1 rfl (C8 rfl rfl rfl (by omega) (by unfold maxLen; omega) rfl) rfl rfl ?_; rintro _ ⟨b91, rfl⟩)
 refine A2 7 ?_
 refine Q5 rfl rfl rfl rfl rfl rfl (fun _ _ => by repeat (first | exact Sw.here | apply Sw.there)) (P5 (by repeat first | exact mH | apply mT)) rfl (by simp [Value.oneCell']) (by unfold maxLen; omega) (by omega) rfl rfl (by repeat (first | exact A5.nil | apply A5.dep (by decide +kernel) | apply A5.blk (by decide +kernel) (by repeat (first | exact Pk.here | apply Pk.there)) (by repeat first | exact mH | apply mT))) (fun pn' cn' => ?_)
 refine aP 8 rfl (B0 rfl) rfl ?_
 refine A2 9 ?_
 refine Q4 rfl rfl rfl rfl rfl rfl rfl rfl (by kernel_rfl) (by repeat first | exact Sw.here | apply Sw.there) (by rfl) ?_
 refine C2 (N3 (nS (tR (sQ (qM rfl) rfl ?_))))
 refine sP (K4 rfl rfl (by omega) (by omega)) rfl rfl ?_
 refine sQ (qA rfl) rfl (sD ?_)
 refine K7 (i + 1, pn', cn', ts ++ [t3], es' ++ [[.int .i64 t3.k, .slice q3 t3.ks.length c3]], p3, G3) ?_ ?_ ?_
 (simp only [I6]; exact D3)
 (dsimp only; have e1 : (i + 1) * dB (d' + 1) = i * dB (d' + 1) + dB (d' + 1) := Nat.succ_mul _ _; have e2 := A4q ts t3; exact ⟨by simp only [List.forall_mem_append, List.forall_mem_singleton]; exact ⟨hah, ha3⟩, by omega, hle.trans hle3, by simp [hlt], E6.snoc (hst.mono hle3) hr3, by omega, by omega, by omega⟩)
 (show (U1 kk).toNat - (i + 1) < (U1 kk).toNat - i; omega)
 refine L5 ?_
 (refine H5 (by repeat (first | exact Pk.here | apply Pk.there)) (fun G5 hle5 hsl5 hno5 => ?_))
 refine tT ?_
 refine F8 (outs := [rd br pb nb cb p']) (rC rfl (A1 rfl rfl)) (by repeat (first | exact A0.nil | refine A0.cons Pk.here ?_ | refine A0.cons (Pk.there Pk.here) ?_ | apply A0.drop)) ?_
 (refine ⟨p', by omega, by omega, rfl, .mk kk ts, _, rfl, (hst.mono hle5).ty hlt hsl5 ⟨by omega, by omega⟩, ?_, B1F hk4 (by omega) hk2 hk3 hah⟩; rw [J8]; omega)
theorem A7U (br : Nat) (pb : Option Addr) (nb cb : Nat) (bs : List UInt8) (hnb : nb ≤ 2000) (d p : Nat) (G : IM) (hd : d ≤ 1000) (hb : Sl G pb nb cb 1 (N9 bs)) (hp : p + dB (d + 1) < 1099511627776) :
  Fn Tryz.prog 152 [.pointer (some ⟨br, 0, none⟩), .int .i64 ((d + 1 : Nat) : Int)] [rd br pb nb cb p] G
   (Y7 br pb nb cb p (dB (d + 1)) (fun G' v => ∃ t cells, v = .agg ⟨cells⟩ ∧ B5 G' t cells ∧ J8 t ≤ ((dB (d + 1) : Nat) : Int))) :=
 (A3w br pb nb cb bs hnb d p G hd hb hp).mono fun G' v outs _ ⟨p', h1, h2, h3, t, cells, h4, h5, h6, _⟩ => ⟨p', h1, h2, h3, t, cells, h4, h5, h6⟩
theorem B1Y (br : Nat) (pb : Option Addr) (nb cb : Nat) (bs : List UInt8) (hnb : nb ≤ 2000) (p : Nat) (G : IM) (hb : Sl G pb nb cb 1 (N9 bs)) (hp : p + 31 < 1099511627776) :
  Fn Tryz.prog 120 [.pointer (some ⟨br, 0, none⟩)] [rd br pb nb cb p] G
   (Y7 br pb nb cb p 31 (fun G' v => ∃ t cells, v = .agg ⟨cells⟩ ∧ B5 G' t cells ∧ J8 t ≤ 30 ∧ Q6 3 t)) := by
 refine B3 Tryz.func120 rfl Tryz.ntmps120 Tryz.results120 rfl ?_
 intro w0
 refine tS (tR ?_)
 refine sE (A7 rfl) rfl (fun b3 => ?_)
 refine sD (nS (tS (tR (sQ (qM rfl) rfl (sQ (qM rfl) rfl ?_)))))
 (refine L4 (C8 rfl rfl rfl (by omega) (by unfold maxLen; omega) rfl) rfl ?_; rintro _ ⟨b10, rfl⟩)
 (refine T8 (by repeat (first | exact Pk.here | apply Pk.there)) (fun G1 hle1 hsl1 _ => ?_); refine H4 rfl (X9 G1 br pb nb cb p bs _ _ _ _ (hb.mono hle1) hnb (by omega) hsl1 (by decide)) (Pk.perm (by repeat (first | exact Pk.here | apply Pk.there))) rfl rfl (fun v G2 outs hle2 hh => ?_); obtain ⟨rfl, rfl, hv⟩ := hh; replace hb := hb.mono hle1; obtain ⟨d, rfl, hd⟩ : ∃ d : Nat, v = .int .i64 ((d + 1 : Nat) : Int) ∧ d ≤ 3 := (by simp only [List.mem_cons, List.not_mem_nil, or_false] at hv; rcases hv with rfl | rfl | rfl | rfl | rfl <;> first | exact ⟨0, rfl, by decide⟩ | exact ⟨1, rfl, by decide⟩ | exact ⟨2, rfl, by decide⟩ | exact ⟨3, rfl, by decide⟩))
 (have hdB := B1W hd; refine H4 rfl (A3w br pb nb cb bs hnb d (p + 1) G2 (by omega) hb (by omega)) (Pk.perm (by repeat (first | exact Pk.here | apply Pk.there))) rfl rfl (fun v G3 outs hle3 hh => ?_); obtain ⟨p3, hp31, hp32, rfl, t3, cells3, rfl, hr3, hs3, ha3⟩ := hh; obtain ⟨q3, c3, es3, rfl, _⟩ := hr3.open)
 refine F4 ?_
 refine sD (nS (tT ?_))
 refine F8 (outs := [rd br pb nb cb p3]) (rC rfl (A1 rfl rfl)) (by repeat (first | exact A0.nil | refine A0.cons Pk.here ?_ | refine A0.cons (Pk.there Pk.here) ?_ | apply A0.drop)) ?_
 exact ⟨p3, by omega, by omega, rfl, t3, _, rfl, hr3, by omega, ha3.le hd⟩
theorem A7V (br : Nat) (pb : Option Addr) (nb cb : Nat) (bs : List UInt8) (hnb : nb ≤ 2000) (p : Nat) (G : IM) (hb : Sl G pb nb cb 1 (N9 bs)) (hp : p + 31 < 1099511627776) :
  Fn Tryz.prog 120 [.pointer (some ⟨br, 0, none⟩)] [rd br pb nb cb p] G
   (Y7 br pb nb cb p 31 (fun G' v => ∃ t cells, v = .agg ⟨cells⟩ ∧ B5 G' t cells ∧ J8 t ≤ 30)) :=
 (B1Y br pb nb cb bs hnb p G hb hp).mono fun G' v outs _ ⟨p', h1, h2, h3, t, cells, h4, h5, h6, _⟩ => ⟨p', h1, h2, h3, t, cells, h4, h5, h6⟩
theorem B1Z (k : Int) (ks : List Ty) (G : IM) (p : Option Addr) (c : Nat) (hts : (Ty.mk k ks).small) (hr : B5 G (.mk k ks) [.int .i64 k, .slice p ks.length c]) : Fn Tryz.prog 167 [.agg ⟨[.int .i64 k, .slice p ks.length c]⟩] [] G
  (fun G' v outs => ∃ p c es, v = .agg ⟨[.int .i64 k, .slice p ks.length c]⟩ ∧ outs = [.slc p c 25 2 ks.length es.flatten] ∧ E6 G' ks es) := by
 simp only [Ty.small] at hts
 obtain ⟨hsm, hks⟩ := hts
 obtain ⟨p', c', es, he, hk, hsl, hkl⟩ := hr.open
 simp only [Ty.k, Ty.ks, List.cons.injEq, Value.slice.injEq, true_and, and_true] at he hk hsl hkl
 obtain ⟨rfl, rfl⟩ := he
 have hn := hsl.le
 refine B3 Tryz.func167 rfl Tryz.ntmps167 Tryz.results167 rfl ?_
 intro w0
 refine tS (tR ?_)
 refine sE (C0 rfl rfl) rfl (fun b3 => ?_)
 refine sE (A7 rfl) rfl (fun b4 => ?_)
 refine C4 ?_
 refine sE (A7 rfl) rfl (fun b12 => ?_)
 refine F4 ?_
 refine sD (nS (tS (tS (tR (sQ (qA rfl) rfl (sD (nS ?_)))))))
 refine B7 ?_
 (refine U5 25 2 ?_; refine L3 (fun (x : Nat × Option Addr × Nat × List (List Value) × IM) => ⟨[(4, .int .i64 x.1), (3, .pointer (some ⟨b12, 0, none⟩)), (1, .pointer (some ⟨b3, 0, none⟩)), (2, .pointer (some ⟨b4, 0, none⟩))], [.blk b12 [.int .i64 k, .slice x.2.1 x.1 x.2.2.1], .slc x.2.1 x.2.2.1 25 2 x.1 x.2.2.2.1.flatten, .blk b4 [.int .i64 0, .slice none 0 0], .blk b3 [.int .i64 k, .slice p ks.length c]], x.2.2.2.2⟩) (fun x => x.1 ≤ ks.length ∧ B6 G x.2.2.2.2 ∧ E6 x.2.2.2.2 (ks.take x.1) x.2.2.2.1) (fun x => ks.length - x.1) (0, none, 0, [], G) ?_ ?_ ?_)
 (simp only [I6]; exact D3)
 exact ⟨by simp, B6.refl _, by simp [E6]⟩
 (rintro ⟨i, pn, cn, es', Gi⟩ ⟨hi, hle, hst⟩; simp only [] at hi hle hst ⊢; replace hsl := hsl.mono hle; replace hkl := hkl.mono hle)
 refine C4 ?_
 refine sB (J9 rfl rfl) rfl rfl (fun h34 => ?_) (fun h34 => ?_)
 refine sD (nS (qT rfl (tK (nS (tS ?_)))))
 refine B7 ?_
 (obtain ⟨b, o, p2, c2, rfl, hat, hre, hgb⟩ := hsl.kidTy hkl (i := i) (by omega) (by omega); refine D5 D6 rfl ?_)
 refine I3 (i := 0) (l' := [tt,ff,ff,ff,ff,ff,ff,ff,ff,ff,ff,ff]) rfl D1 (B0 rfl) rfl (by kernel_rfl) rfl rfl ?_
 refine aL 1 rfl (B9 rfl rfl) rfl ?_
 refine aP 2 rfl (B0 rfl) rfl ?_
 refine aL 3 rfl (B9 rfl rfl) rfl ?_
 refine aP 4 rfl (qM rfl) rfl ?_
 refine aP 5 rfl (B2 rfl rfl rfl (by omega)) rfl ?_
 refine aL 6 rfl (A3 rfl rfl (hat _) rfl) rfl ?_
 refine A2 7 ?_
 (refine I9 rfl rfl (V4 ks[i] _ _ (Ty.smallL_mem hks _ (List.getElem_mem (by omega))) hre) rfl rfl rfl (fun v G1 hle1 hh => ?_); obtain ⟨cells', F', rfl, hs', hnd'⟩ := hh; have hr' := hs'.R.mono (C1.le _ _); obtain ⟨p3, c3, es3, rfl, _⟩ := hr'.open)
 refine A2 8 ?_
 (refine E1 rfl (C8 rfl rfl rfl (by omega) (by unfold maxLen; omega) rfl) rfl rfl ?_; rintro _ ⟨b53, rfl⟩)
 refine A2 9 ?_
 refine Q5 rfl rfl rfl rfl rfl rfl (fun _ _ => by repeat (first | exact Sw.here | apply Sw.there)) (P5 (by repeat first | exact mH | apply mT)) rfl (by simp [Value.oneCell']) (by unfold maxLen; omega) (by omega) rfl rfl (by repeat (first | exact A5.nil | apply A5.dep (by decide +kernel) | apply A5.blk (by decide +kernel) (by repeat (first | exact Pk.here | apply Pk.there)) (by repeat first | exact mH | apply mT))) (fun pn' cn' => ?_)
 refine aP 10 rfl (B0 rfl) rfl ?_
 refine A2 11 ?_
 refine Q4 rfl rfl rfl rfl rfl rfl rfl rfl (by kernel_rfl) (by repeat first | exact Sw.here | apply Sw.there) (by rfl) ?_
 refine C2 (N3 (nS (tR (sQ (qM rfl) rfl ?_))))
 refine sP (K4 rfl rfl (by omega) (by omega)) rfl rfl ?_
 refine sQ (qA rfl) rfl (sD ?_)
 refine K7 (i + 1, pn', cn', es' ++ [[.int .i64 ks[i].k, .slice p3 ks[i].ks.length c3]], G1) ?_ ?_ ?_
 (simp only [I6]; exact D3)
 (dsimp only; exact ⟨by omega, hle.trans hle1, by rw [List.take_succ_eq_append_getElem (by omega)]; exact E6.snoc (hst.mono hle1) hr'⟩)
 (show ks.length - (i + 1) < ks.length - i; omega)
 refine I0 ?_
 (obtain rfl : i = ks.length := (by omega); refine F8 (outs := [.slc pn cn 25 2 ks.length es'.flatten]) (rC rfl (A1 rfl rfl)) (by repeat (first | exact A0.nil | refine A0.cons Pk.here ?_ | refine A0.cons (Pk.there Pk.here) ?_ | apply A0.drop)) ?_)
 (rw [List.take_length] at hst; exact ⟨pn, cn, es', rfl, rfl, hst⟩)
theorem A0A (G : IM) : B5 G N4 [.int .i64 1, .slice none 0 0] := by
 simp only [N4, B5]
 exact ⟨none, 0, [], rfl, ⟨by omega, by omega⟩, C9.of (Sl.nil _ _) rfl (by simp) (by simp), by simp [E6]⟩
theorem A5L : J8 N4 = 0 := rfl
theorem A7W (br : Nat) (pb : Option Addr) (nb cb : Nat) (bs : List UInt8) (hnb : nb ≤ 2000) (p : Nat) (G : IM) (hb : Sl G pb nb cb 1 (N9 bs)) (hp : p + 31 < 1099511627776) (t : Ty) (cells : List Value) (hr : B5 G t cells) (hsz : J8 t ≤ 30) :
  Fn Tryz.prog 119 [.pointer (some ⟨br, 0, none⟩), .agg ⟨cells⟩] [rd br pb nb cb p] G
   (Y7 br pb nb cb p 2 (fun G' v => ∃ t cells, v = .agg ⟨cells⟩ ∧ B5 G' t cells ∧ J8 t ≤ 38)) := by
 have hts := A2I t (by omega)
 obtain ⟨k, ks⟩ := t
 rw [J8] at hsz
 have hsn := A1R ks
 obtain ⟨q0, c0, es0, rfl, hk, _⟩ := hr.open
 simp only [Ty.k, Ty.ks] at hk hr ⊢
 refine B3 Tryz.func119 rfl Tryz.ntmps119 Tryz.results119 rfl ?_
 intro w0
 refine tS (tR ?_)
 refine sE (C0 rfl rfl) rfl (fun b3 => ?_)
 refine sE (A7 rfl) rfl (fun b4 => ?_)
 refine sD (nS (tS (tR (sL (A1 rfl rfl) rfl rfl ?_))))
 (refine A34 rfl (B1Z k ks G q0 c0 hts hr) rfl rfl (fun v G1 outs hle1 hh => ?_); obtain ⟨q, c, es, rfl, rfl, hst⟩ := hh)
 refine sE (A7 rfl) rfl (fun b11 => ?_)
 refine F4 ?_
 refine sD (nS (tS (tS (tR (sQ (qM rfl) rfl ?_)))))
 (refine H4 rfl (W3 G1 br pb nb cb p bs 40 (hb.mono hle1) hnb (by omega)) (Pk.perm (by repeat (first | exact Pk.here | apply Pk.there))) rfl rfl (fun v G2 outs hle2 hh => ?_); obtain ⟨rfl, rfl, j, rfl, hj0, hj1⟩ := hh; replace hb := hb.mono hle1)
 refine sD (nS ?_)
 (show I2 _ _ (.block 0 _) _ _; refine A0c (fun (x : Ty × Option Addr × Nat × Nat × IM) => ⟨[(5, .pointer (some ⟨b11, 0, none⟩)), (4, .pointer (some ⟨b4, 0, none⟩))], [.blk b11 [.int .i64 x.1.k, .slice x.2.1 x.1.ks.length x.2.2.1], .blk b4 [.int .i64 0, .slice none 0 0], rd br pb nb cb x.2.2.2.1], x.2.2.2.2⟩) (fun x => B6 G2 x.2.2.2.2 ∧ B5 x.2.2.2.2 x.1 [.int .i64 x.1.k, .slice x.2.1 x.1.ks.length x.2.2.1] ∧ J8 x.1 ≤ 38 ∧ p ≤ x.2.2.2.1 ∧ x.2.2.2.1 ≤ p + 2) ?_ ?_)
 refine B7 (tS (tR (sB (qE rfl rfl) rfl rfl (fun h26 => ?_) (fun h26 => ?_))))
 refine sQ (qA rfl) rfl (sD (nS (qT rfl (tR (sQ (qM rfl) rfl ?_)))))
 (refine L4 (C8 rfl rfl rfl (by omega) (by unfold maxLen; omega) rfl) rfl ?_; rintro _ ⟨b33, rfl⟩)
 (refine T8 (by repeat (first | exact Pk.here | apply Pk.there)) (fun G3 hle3 hsl3 _ => ?_); refine T8 (by repeat (first | exact Pk.here | apply Pk.there)) (fun G4 hle4 hsl4 _ => ?_); refine H4 rfl (X9 G4 br pb nb cb (p + 1) bs _ _ _ _ (hb.mono (hle3.trans hle4)) hnb (by omega) (hsl3.mono hle4) (by decide)) (Pk.perm (by repeat (first | exact Pk.here | apply Pk.there))) rfl rfl (fun v G5 outs hle5 hh => ?_); obtain ⟨rfl, rfl, hv⟩ := hh; obtain ⟨k', rfl, hk'⟩ : ∃ k', v = .int .i64 k' ∧ E3 k' := (by simp only [List.mem_cons, List.not_mem_nil, or_false] at hv; rcases hv with rfl | rfl | rfl | rfl | rfl <;> exact ⟨_, rfl, by unfold E3; omega⟩))
 refine sQ (B0 rfl) rfl (F4 ?_)
 refine sD (N3 ?_)
 refine Q0 (.mk k' ks, q, c, p + 2, G5) ?_ ?_
 (simp only [I6]; exact D3)
 (dsimp only; exact ⟨hle3.trans hle4, (hst.mono (hle3.trans hle4)).ty rfl hsl4 hk', by (rw [J8]; omega), by omega, by omega⟩)
 refine sQ (qA rfl) rfl (sD (nS (cF rfl (tS (tR ?_)))))
 refine sB (qE rfl rfl) rfl rfl (fun h48 => ?_) (fun h48 => ?_)
 refine sQ (qA rfl) rfl (sD (nS (qT rfl ?_)))
 refine D5 D6 rfl ?_
 refine I3 (i := 0) (l' := [tt,ff,ff,ff,ff,ff,ff]) rfl D1 (B0 rfl) rfl (by kernel_rfl) rfl rfl ?_
 refine aL 1 rfl (B9 rfl rfl) rfl ?_
 refine A2 2 ?_
 refine O5 rfl rfl ((A1e _)) rfl rfl rfl ?_
 refine A2 3 ?_
 (refine E1 rfl (C8 rfl rfl rfl (by omega) (by unfold maxLen; omega) rfl) rfl rfl ?_; rintro _ ⟨b59, rfl⟩)
 refine A2 4 ?_
 refine Q5 rfl rfl rfl rfl rfl rfl (fun _ _ => by repeat (first | exact Sw.here | apply Sw.there)) (P5 (by repeat first | exact mH | apply mT)) rfl (by simp [Value.oneCell']) (by unfold maxLen; omega) (by omega) rfl rfl (by repeat (first | exact A5.nil | apply A5.dep (by decide +kernel) | apply A5.blk (by decide +kernel) (by repeat (first | exact Pk.here | apply Pk.there)) (by repeat first | exact mH | apply mT))) (fun qn cn => ?_)
 (refine A33 (cs := es.flatten ++ [.int .i64 1, .slice none 0 0]) (by repeat (first | exact Pk.here | apply Pk.there)) (fun G6 hle6 hsl6 _ => ?_))
 refine aP 5 rfl (B0 rfl) rfl ?_
 refine A2 6 ?_
 refine Q4 rfl rfl rfl rfl rfl rfl rfl rfl (by kernel_rfl) (by repeat first | exact Sw.here | apply Sw.there) (by rfl) ?_
 refine C2 (N3 ?_)
 refine Q0 (.mk k (ks ++ [N4]), qn, cn, p + 1, G6) (by rw [show (Ty.mk k (ks ++ [N4])).ks.length = ks.length + 1 from by simp [Ty.ks]]; exact D3) ?_
 (dsimp only; refine ⟨hle6, E6.ty (ts := ks ++ [N4]) (es := es ++ [[.int .i64 1, .slice none 0 0]]) (E6.snoc (hst.mono hle6) (A0A _)) rfl (by simpa [Ty.ks] using hsl6) hk, ?_, by omega, by omega⟩; rw [J8, A4q, A5L, List.length_append]; simp only [List.length_singleton]; omega)
 refine sQ (qA rfl) rfl (sD (nS (cF rfl (tS (tR ?_)))))
 refine sB (qE rfl rfl) rfl rfl (fun h76 => ?_) (fun h76 => ?_)
 refine D9 ?_
 refine B7 ?_
 (refine A1y (by repeat (first | exact Pk.here | apply Pk.there)) (fun G3 hle3 hsl3 _ => ?_); refine L3 (fun (x : Nat × Ty × Option Addr × Nat × IM) => ⟨[(6, .int .i64 x.1), (5, .pointer (some ⟨b11, 0, none⟩)), (4, .pointer (some ⟨b4, 0, none⟩))], [.blk b11 [.int .i64 x.2.1.k, .slice x.2.2.1 x.2.1.ks.length x.2.2.2.1], .blk b4 [.int .i64 0, .slice none 0 0], rd br pb nb cb (p + 1)], x.2.2.2.2⟩) (fun x => x.1 ≤ 4 ∧ B6 G3 x.2.2.2.2 ∧ B5 x.2.2.2.2 x.2.1 [.int .i64 x.2.1.k, .slice x.2.2.1 x.2.1.ks.length x.2.2.2.1] ∧ J8 x.2.1 ≤ 30 + 2 * x.1) (fun x => 4 - x.1) (0, .mk k ks, q, c, G3) ?_ ?_ ?_)
 (simp only [I6]; exact D3)
 (dsimp only; exact ⟨by omega, B6.refl _, (hst.mono hle3).ty rfl hsl3 hk, by (rw [J8]; omega)⟩)
 (rintro ⟨i, ⟨tk, tks⟩, qi, ci, Gi⟩ ⟨hi, hlei, hri, hsi⟩; simp only [Ty.k, Ty.ks] at hi hlei hri hsi ⊢)
 refine tS (tS (tR (sQ (qM rfl) rfl ?_)))
 refine sB (J9 rfl rfl) rfl rfl (fun h95 => ?_) (fun h95 => ?_)
 refine sD (nS (qT rfl (tK (nS (tS ?_)))))
 refine B7 ?_
 refine D5 D6 rfl ?_
 refine O9 (i := 1) (l' := [ff,tt,ff,ff,ff]) rfl D1 (A1 rfl rfl) rfl (by kernel_rfl) rfl rfl ?_
 refine A2 0 ?_
 refine O5 rfl rfl ((A1e _)) rfl rfl rfl ?_
 refine A2 2 ?_
 (refine E1 rfl (C8 rfl rfl rfl (by omega) (by unfold maxLen; omega) rfl) rfl rfl ?_; rintro _ ⟨b108, rfl⟩)
 (refine A33 (cs := [.int .i64 1, .slice none 0 0, .int .i64 tk, .slice qi tks.length ci]) (by repeat (first | exact Pk.here | apply Pk.there)) (fun G7 hle7 hsl7 _ => ?_))
 refine aP 3 rfl (T3 rfl rfl) rfl ?_
 refine A2 4 ?_
 refine Q4 rfl rfl rfl rfl rfl rfl rfl rfl (by kernel_rfl) (by repeat first | exact Sw.here | apply Sw.there) (by rfl) ?_
 refine C2 (N3 (nS (tR (sQ (qM rfl) rfl ?_))))
 refine sP (K4 rfl rfl (by omega) (by omega)) rfl rfl ?_
 refine sQ (qA rfl) rfl (sD ?_)
 refine K7 (i + 1, .mk 4 [N4, .mk tk tks], some ⟨b108, 0, none⟩, 2, G7) ?_ ?_ ?_
 (simp only [I6]; exact D3)
 (dsimp only; refine ⟨by omega, hlei.trans hle7, E6.ty (ts := [N4, .mk tk tks]) (es := [[.int .i64 1, .slice none 0 0], [.int .i64 tk, .slice qi tks.length ci]]) ⟨_, _, rfl, A0A _, _, _, rfl, hri.mono hle7, rfl⟩ rfl hsl7 ⟨by omega, by omega⟩, ?_⟩; rw [J8, O6, O6, O6, A5L]; simp only [List.length_cons, List.length_nil]; omega)
 (show 4 - (i + 1) < 4 - i; omega)
 refine D8 ?_
 refine Q0 (.mk tk tks, qi, ci, p + 1, Gi) ?_ ?_
 (simp only [I6]; exact D3)
 (dsimp only; exact ⟨hle3.trans hlei, hri, by omega, by omega, by omega⟩)
 refine sQ (qA rfl) rfl (sD (nS (cF rfl ?_)))
 (refine A1y (by repeat (first | exact Pk.here | apply Pk.there)) (fun G8 hle8 hsl8 _ => ?_); refine tK ?_)
 refine N3 ?_
 refine Q0 (.mk k ks, q, c, p + 1, G8) ?_ ?_
 (simp only [I6]; exact D3)
 (dsimp only; exact ⟨hle8, (hst.mono hle8).ty rfl hsl8 hk, by (rw [J8]; omega), by omega, by omega⟩)
 (rintro ⟨t', q', c', p', G'⟩ ⟨hle9, hr9, hs9, hp9, hp9'⟩; simp only [] at hle9 hr9 hs9 hp9 hp9' ⊢)
 refine tS (tR (sL (A1 rfl rfl) rfl rfl (F4 ?_)))
 refine sD (nS (tT ?_))
 refine F8 (outs := [rd br pb nb cb p']) (rC rfl (A1 rfl rfl)) (by repeat (first | exact A0.nil | refine A0.cons Pk.here ?_ | refine A0.cons (Pk.there Pk.here) ?_ | apply A0.drop)) ?_
 (exact ⟨p', by omega, by omega, rfl, t', _, rfl, hr9, by omega⟩)
mutual
def J4 : Tm → Tm
 | .mk k nm num ty fr lb ks => if k = 13 ∨ k = 14 then (E9 ks).headD D7 else .mk k nm num (if k = 5 then N4 else A8) A8 0 (E9 ks)
def E9 : List Tm → List Tm
 | [] => []
 | t :: ts => J4 t :: E9 ts
end
theorem A4r : ∀ ks, E9 ks = ks.map J4
 | [] => rfl
 | t :: ts => by rw [E9, A4r ts, List.map_cons]
def B6W : Tm → Tm
 | .mk k nm num ty fr lb ks => if k = 13 ∨ k = 14 then ks.headD D7 else if k = 5 then .mk k nm num N4 fr lb ks else .mk k nm num ty fr lb ks
def B6X : Tm → Prop
 | .mk k _ _ _ _ _ ks => k = 13 ∨ k = 14 → ks ≠ []
theorem A1f {t : Ty} (h : X5 t = true) : t = A8 := by
 obtain ⟨k, ks⟩ := t
 obtain ⟨h1, h2⟩ : (Ty.mk k ks).k = 0 ∧ (Ty.mk k ks).ks.length = 0 := of_decide_eq_true h
 simp only [Ty.k, Ty.ks] at h1 h2
 have h3 : ks = [] := List.length_eq_zero_iff.1 (by omega)
 rw [h3, A8]
 congr
theorem A0r {D N : Int} {k : Int} {nm : ByteArray} {num : Int} {ty fr : Ty} {lb : Int} {ks : List Tm} {d : Int} (h : M3 D N (.mk k nm num ty fr lb ks) d = true) : d ≤ D ∧ k ≠ N ∧ U8 k nm num ty fr lb ks.length = true ∧ M4 D N ks (d + 1) = true := by
 rw [M3] at h
 simp only [Bool.and_eq_true, decide_eq_true_eq] at h
 exact ⟨h.1.1.1, h.1.1.2, h.1.2, h.2⟩
mutual
theorem A4s : ∀ t : Tm, t.small → (J4 t).small ∧ C6 (J4 t) ≤ C6 t
 | .mk k nm num ty fr lb ks, h => by
  simp only [Tm.small] at h
  obtain ⟨h1, h2, h3, h4, h5⟩ := h
  obtain ⟨b1, b2⟩ := A7X ks h5
  rw [J4]
  by_cases hk : k = 13 ∨ k = 14
  ·rw [if_pos hk]
   cases ks with
   | nil => exact ⟨by simp [E9, D7, Tm.small, Ty.small, Ty.smallL, Tm.smallL, ByteArray.size], by rw [C6]; simp [E9, D7, C6, D4]⟩
   | cons x xs =>
    simp only [Tm.smallL] at h5
    obtain ⟨c1, c2⟩ := A4s x h5.1
    rw [E9, C6, D4]
    exact ⟨c1, by show C6 (J4 x) ≤ _; omega⟩
  ·rw [if_neg hk]
   simp only [Tm.small, C6]
   refine ⟨⟨h1, ?_, by simp [A8, Ty.small, Ty.smallL], by rw [A4r, List.length_map]; exact h4, b1⟩, by omega⟩
   by_cases hk5 : k = 5
   ·rw [if_pos hk5]; simp [N4, Ty.small, Ty.smallL]
   ·rw [if_neg hk5]; simp [A8, Ty.small, Ty.smallL]
theorem A7X : ∀ ts : List Tm, Tm.smallL ts → Tm.smallL (E9 ts) ∧ D4 (E9 ts) ≤ D4 ts
 | [], h => by rw [E9]; simp [Tm.smallL]
 | t :: ts, h => by
  simp only [Tm.smallL] at h
  obtain ⟨a1, a2⟩ := A4s t h.1
  obtain ⟨b1, b2⟩ := A7X ts h.2
  rw [E9, D4, D4]
  simp only [Tm.smallL]
  exact ⟨⟨a1, b1⟩, by omega⟩
end
section slaws
variable {P : Program} {Γ : K6} {env : L6} {hp : List A4} {G : IM} {ty : TypeId}
theorem A4t {P : Program} {w : World} {l c : Nat} (hl : l ≤ c) (code : BoundsCode) : (Instr.sliceBound (.int .i64 (l : Int)) c code).run P w = .ok l w := by
 unfold Instr.sliceBound
 simp only [asIntOf, Sem.run_bind, Sem.run_pure, Result.andThen_ok]
 rw [if_pos ⟨by omega, by omega⟩]
 simp
theorem A5M {x y z : Operand} {t : TypeId} {i : L7} [hI : H9 P t i] (hd' : i.desc = .string) {s : ByteArray} {l h : Nat}
  (hx : evo env x = some (.string s)) (hy : evo env y = some (.int .i64 (l : Int))) (hz : evo env z = some (.int .i64 (h : Int))) (hl : l ≤ h) (hh : h ≤ s.size) :
  I1 P Γ ⟨env, hp, G⟩ (.slice t x (some y) (some z) none) ty (.string (s.extract l h)) := by
 refine ⟨fun a _ hs _ _ _ _ w => ?_⟩
 have hu := hI.und
 rw [hd'] at hu
 simp [execOp, (hs.evo hx : a.eval x = _), (hs.evo hy : a.eval y = _), (hs.evo hz : a.eval z = _), Instr.sliceAt, Sem.run_bind, run_underlying hu, Instr.slice, Instr.sliceBounds, A4t hl, A4t hh]
theorem A7Y {x z : Operand} {t : TypeId} {i : L7} [hI : H9 P t i] (hd' : i.desc = .string) {s : ByteArray} {h : Nat}
  (hx : evo env x = some (.string s)) (hz : evo env z = some (.int .i64 (h : Int))) (hh : h ≤ s.size) :
  I1 P Γ ⟨env, hp, G⟩ (.slice t x none (some z) none) ty (.string (s.extract 0 h)) := by
 refine ⟨fun a _ hs _ _ _ _ w => ?_⟩
 have hu := hI.und
 rw [hd'] at hu
 simp [execOp, (hs.evo hx : a.eval x = _), (hs.evo hz : a.eval z = _), Instr.sliceAt, Sem.run_bind, run_underlying hu, Instr.slice, Instr.sliceBounds, A4t hh]
theorem A7Z {x y : Operand} {t : TypeId} {i : L7} [hI : H9 P t i] (hd' : i.desc = .string) {s : ByteArray} {l : Nat}
  (hx : evo env x = some (.string s)) (hy : evo env y = some (.int .i64 (l : Int))) (hl : l ≤ s.size) :
  I1 P Γ ⟨env, hp, G⟩ (.slice t x (some y) none none) ty (.string (s.extract l s.size)) := by
 refine ⟨fun a _ hs _ _ _ _ w => ?_⟩
 have hu := hI.und
 rw [hd'] at hu
 simp [execOp, (hs.evo hx : a.eval x = _), (hs.evo hy : a.eval y = _), Instr.sliceAt, Sem.run_bind, run_underlying hu, Instr.slice, Instr.sliceBounds, A4t hl]
theorem B10 {x y : Operand} {t t' : TypeId} {r s : ByteArray} (hx : evo env x = some (.string r)) (hy : evo env y = some (.string s)) :
  I1 P Γ ⟨env, hp, G⟩ (.binOp .lss t x y t') ty (.bool (decide (Op.bytesLess r.toList s.toList = true))) := by
 refine ⟨fun a _ hs _ _ _ _ w => ?_⟩
 simp only [execOp, eqGuard, binOp, Op.stringOp, (hs.evo hx : a.eval x = _), (hs.evo hy : a.eval y = _)]
 simp
end slaws
theorem B11 (s nm : ByteArray) (G : IM) (hs : s.size ≤ 1000) (hn : nm.size ≤ 1000) :
  Fn Tryz.prog 218 [.string s, .string nm] [] G (fun G' v outs => G' = G ∧ outs = [] ∧ ∃ r, v = .string r ∧ r.size ≤ s.size + nm.size) := by
 refine B3 Tryz.func218 rfl Tryz.ntmps218 Tryz.results218 rfl ?_
 intro w0
 refine J2 ?_
 refine B7 ?_
 (refine L3 (fun (i : Nat) => ⟨[(5, .int .i64 (i : Int)), (0, .string s), (1, .string nm)], [], G⟩) (fun i => i ≤ s.size) (fun i => s.size - i) 0 ?_ ?_ ?_)
 exact D3
 exact Nat.zero_le _
 (intro i hi)
 refine tS (tS (tR (sQ (qM rfl) rfl (sQ (qM rfl) rfl ?_))))
 refine sQ (A2d rfl rfl) rfl (sB (J9 rfl rfl) rfl rfl (fun h23 => ?_) (fun h23 => ?_))
 refine H1 ?_
 refine sP (A1B (n := 1) rfl rfl (by omega)) rfl rfl ?_
 refine sP (A5M (h := i + 1) rfl rfl rfl rfl (by omega) (by omega)) rfl rfl ?_
 refine sQ (qM rfl) rfl ?_
 refine sB (B10 rfl rfl) rfl rfl (fun h31 => ?_) (fun h31 => ?_)
 refine sQ (K8 rfl rfl) rfl (sD (nS (qT rfl (tK (nS ?_)))))
 refine B7 ?_
 refine tR (sQ (qM rfl) rfl ?_)
 refine sP (A1B (n := 1) rfl rfl (by omega)) rfl rfl ?_
 refine sQ (qA rfl) rfl (sD (N3 ?_))
 refine K7 (i + 1) ?_ ?_ ?_
 exact D3
 (show _ ≤ s.size; omega)
 (show s.size - _ < s.size - _; omega)
 refine L5 ?_
 refine sQ (A2d rfl rfl) rfl ?_
 refine sP (B0K rfl rfl (by omega)) rfl rfl ?_
 refine H1 ?_
 refine sP (A1B (n := 1) rfl rfl (by omega)) rfl rfl ?_
 refine sP (A5M (h := i + 1) rfl rfl rfl rfl (by omega) (by omega)) rfl rfl ?_
 refine sQ (qM rfl) rfl ?_
 refine sB (A1v rfl rfl) rfl rfl (fun h72 => ?_) (fun h72 => ?_)
 refine M6 ?_
 refine F8 (outs := []) (rT rfl) A0.nil ?_
 (exact ⟨rfl, rfl, _, rfl, Nat.le_add_right _ _⟩)
 refine sQ (K8 rfl rfl) rfl (sD (nS (cF rfl (tK (nS (tS ?_))))))
 refine D5 D6 rfl ?_
 refine I3 (i := 0) (l' := [tt,ff,ff,ff,ff,ff,ff,ff,ff,ff]) rfl D1 (qM rfl) rfl (by kernel_rfl) rfl rfl ?_
 refine aP 1 rfl (qM rfl) rfl ?_
 refine aP 2 rfl (A7Y rfl rfl rfl (by omega)) rfl ?_
 refine aP 3 rfl (qM rfl) rfl ?_
 refine aP 4 rfl (A3X rfl rfl (by simp only [ByteArray.size_extract, ByteArray.size_append]; omega)) rfl ?_
 refine aP 5 rfl (qM rfl) rfl ?_
 refine aP 6 rfl (qM rfl) rfl ?_
 refine aP 7 rfl (A7Z rfl rfl rfl (by omega)) rfl ?_
 refine aP 8 rfl (A3X rfl rfl (by simp only [ByteArray.size_extract, ByteArray.size_append]; omega)) rfl ?_
 refine aP 9 rfl (qA rfl) rfl ?_
 refine C2 (nS (tT ?_))
 refine F8 (outs := []) (rT rfl) A0.nil ?_
 (exact ⟨rfl, rfl, _, rfl, by simp only [ByteArray.size_extract, ByteArray.size_append]; omega⟩)
 refine A5n ?_
 refine sQ (A2d rfl rfl) rfl ?_
 refine sP (A31 rfl rfl (by omega)) rfl rfl ?_
 refine I0 ?_
 refine D5 D6 rfl ?_
 refine I3 (i := 0) (l' := [tt,ff,ff,ff,ff,ff,ff,ff,ff,ff]) rfl D1 (qM rfl) rfl (by kernel_rfl) rfl rfl ?_
 refine aP 1 rfl (qM rfl) rfl ?_
 refine aP 2 rfl (A7Y rfl rfl rfl (by omega)) rfl ?_
 refine aP 3 rfl (qM rfl) rfl ?_
 refine aP 4 rfl (A3X rfl rfl (by simp only [ByteArray.size_extract, ByteArray.size_append]; omega)) rfl ?_
 refine aP 5 rfl (qM rfl) rfl ?_
 refine aP 6 rfl (qM rfl) rfl ?_
 refine aP 7 rfl (A7Z rfl rfl rfl (by omega)) rfl ?_
 refine aP 8 rfl (A3X rfl rfl (by simp only [ByteArray.size_extract, ByteArray.size_append]; omega)) rfl ?_
 refine aP 9 rfl (qA rfl) rfl ?_
 refine C2 (nS (tT ?_))
 refine F8 (outs := []) (rT rfl) A0.nil ?_
 (exact ⟨rfl, rfl, _, rfl, by simp only [ByteArray.size_extract, ByteArray.size_append]; omega⟩)
theorem A0J (G : IM) : B5 G A8 [.int .i64 0, .slice none 0 0] := by
 simp only [A8, B5]
 exact ⟨none, 0, [], rfl, ⟨by omega, by omega⟩, C9.of (Sl.nil _ _) rfl (by simp) (by simp), by simp [E6]⟩
theorem A5N : J8 A8 = 0 := rfl
theorem D2.tm {G : IM} {k : Int} {nm : ByteArray} {num : Int} {t : Ty} {q : Option Addr} {d : Nat} {ts : List Tm} {es : List (List Value)} {p : Option Addr} {n c : Nat} (h : D2 G ts es) (hn : ts.length = n) (hs : Sl G p n c 9 es.flatten) (hk : E3 k) (hm : E3 num)
  (ht : B5 G t [.int .i64 t.k, .slice q t.ks.length d]) : A6 G (.mk k nm num t A8 0 ts) [.int .i64 k, .string nm, .int .i64 num, .int .i64 t.k, .slice q t.ks.length d, .int .i64 0, .slice none 0 0, .int .i64 0, .slice p n c] := by
 subst hn
 simp only [A6]
 exact ⟨_, _, p, c, es, rfl, hk, hm, ⟨by omega, by omega⟩, ht, A0J G, C9.of hs h.len h.all (fun e he => (h.each e he).2), h⟩
theorem A1g {G : IM} {k : Int} {nm : ByteArray} {num : Int} (hk : E3 k) (hm : E3 num) :
  A6 G (.mk k nm num A8 A8 0 []) [.int .i64 k, .string nm, .int .i64 num, .int .i64 0, .slice none 0 0, .int .i64 0, .slice none 0 0, .int .i64 0, .slice none 0 0] :=
 D2.tm (ts := []) (es := []) (t := A8) (by simp [D2]) rfl (Sl.nil _ _) hk hm (A0J G)
theorem A1D (k : Int) (nm : ByteArray) (num : Int) : Z7 (.mk k nm num A8 A8 0 []) = nm.size := by
 rw [Z7, A5N, X0]; simp
theorem A5O : ∀ (ts : List Tm) (t : Tm), X0 (ts ++ [t]) = X0 ts + Z7 t
 | [], t => by simp [X0]
 | a :: ts, t => by simp only [List.cons_append, X0, A5O ts t]; omega
theorem A1h (k : Int) : C5 k ≤ 3 := by
 unfold C5; repeat (split; omega)
 omega
theorem A5P {d : Nat} (h : d ≤ 2) : dB (d + 1) ≤ 14 := by
 have : d = 0 ∨ d = 1 ∨ d = 2 := by omega
 rcases this with rfl | rfl | rfl <;> decide
theorem A1U (n : Int) (G : IM) : Fn Tryz.prog 153 [.int .i64 n] [] G (H6 (.agg ⟨[.int .i64 2, .string ⟨⟨[]⟩⟩, .int .i64 n, .int .i64 0, .slice none 0 0, .int .i64 0, .slice none 0 0, .int .i64 0, .slice none 0 0]⟩) G) := by
 refine B3 Tryz.func153 rfl Tryz.ntmps153 Tryz.results153 rfl ?_
 intro w0
 refine tS (tR ?_)
 refine sE (A7 rfl) rfl (fun b3 => ?_)
 refine I7 ?_
 refine E0 (rC rfl (A1 rfl rfl)) ?_
 exact ⟨rfl, rfl, rfl⟩
theorem A70 (br : Nat) (pb : Option Addr) (nb cb : Nat) (bs : List UInt8) (hnb : nb ≤ 2000) (p : Nat) (G : IM) (hb : Sl G pb nb cb 1 (N9 bs)) (hp : p + 3 < 1099511627776) (s : ByteArray) (hs : s.size ≤ 1000) :
  Fn Tryz.prog 217 [.pointer (some ⟨br, 0, none⟩), .string s] [rd br pb nb cb p] G
   (Y7 br pb nb cb p 3 (fun G' v => ∃ t cells, v = .agg ⟨cells⟩ ∧ A6 G' t cells ∧ Z7 t ≤ 1)) := by
 refine B3 Tryz.func217 rfl Tryz.ntmps217 Tryz.results217 rfl ?_
 intro w0
 refine tS (tR ?_)
 refine sE (A7 rfl) rfl (fun b3 => ?_)
 refine sD (nS (tS (tS (tR (sQ (qM rfl) rfl ?_)))))
 refine sQ (A2d rfl rfl) rfl ?_
 refine sB (Y6 rfl rfl) rfl rfl (fun h11 => ?_) (fun h11 => ?_)
 refine sQ (qM rfl) rfl (sQ (qM rfl) rfl ?_)
 (refine H4 rfl (W3 _ br pb nb cb p bs _ hb hnb (by omega)) (Pk.perm (by repeat (first | exact Pk.here | apply Pk.there))) rfl rfl (fun v14 G14 outs14 hle14 hh => ?_); obtain ⟨rfl, rfl, j14, rfl, hj14, hk14⟩ := hh; obtain ⟨i14, rfl⟩ := Int.eq_ofNat_of_zero_le hj14)
 replace hb := hb.mono hle14
 refine sB (Y6 rfl rfl) rfl rfl (fun h15 => ?_) (fun h15 => ?_)
 refine D8 ?_
 refine sQ (A2d rfl rfl) rfl ?_
 (refine H4 rfl (W3 _ br pb nb cb (p + 1) bs _ hb hnb (by omega)) (Pk.perm (by repeat (first | exact Pk.here | apply Pk.there))) rfl rfl (fun v25 G25 outs25 hle25 hh => ?_); obtain ⟨rfl, rfl, j25, rfl, hj25, hk25⟩ := hh; obtain ⟨i25, rfl⟩ := Int.eq_ofNat_of_zero_le hj25)
 replace hb := hb.mono hle25
 refine D8 ?_
 refine sP (A1B (n := 1) rfl rfl (by omega)) rfl rfl ?_
 refine sP (A5M rfl rfl rfl rfl (by omega) (by omega)) rfl rfl ?_
 refine sQ (T3 rfl rfl) rfl (F4 ?_)
 refine sD (nS (tT (rS ?_)))
 refine F8 (outs := [rd br pb nb cb (p + 1 + 1)]) (rC rfl (A1 rfl rfl)) (by repeat (first | exact A0.nil | refine A0.cons Pk.here ?_ | refine A0.cons (Pk.there Pk.here) ?_ | refine A0.cons (Pk.there (Pk.there Pk.here)) ?_ | apply A0.drop)) ?_
 focus (refine ⟨_, ?_, ?_, rfl, _, _, rfl, A1g ⟨by omega, by omega⟩ ⟨by omega, by omega⟩, ?_⟩; all_goals (try rw [A1D]); all_goals (first | omega | (simp only [ByteArray.size_extract]; omega) | decide))
 refine I7 ?_
 (refine H4 rfl (W3 _ br pb nb cb (p + 1) bs _ hb hnb (by omega)) (Pk.perm (by repeat (first | exact Pk.here | apply Pk.there))) rfl rfl (fun v54 G54 outs54 hle54 hh => ?_); obtain ⟨rfl, rfl, j54, rfl, hj54, hk54⟩ := hh; obtain ⟨i54, rfl⟩ := Int.eq_ofNat_of_zero_le hj54)
 replace hb := hb.mono hle54
 refine sD (nS ?_)
 refine B7 (tS (tR (sB (qE rfl rfl) rfl rfl (fun h60 => ?_) (fun h60 => ?_))))
 refine J3 ?_
 refine F8 (outs := [rd br pb nb cb (p + 1 + 1)]) (rC rfl (A1 rfl rfl)) (by repeat (first | exact A0.nil | refine A0.cons Pk.here ?_ | refine A0.cons (Pk.there Pk.here) ?_ | refine A0.cons (Pk.there (Pk.there Pk.here)) ?_ | apply A0.drop)) ?_
 focus (refine ⟨_, ?_, ?_, rfl, _, _, rfl, A1g ⟨by omega, by omega⟩ ⟨by omega, by omega⟩, ?_⟩; all_goals (try rw [A1D]); all_goals (first | omega | (simp only [ByteArray.size_extract]; omega) | decide))
 refine sQ (qA rfl) rfl (sD (nS (cF rfl (tS (tR ?_)))))
 refine sB (qE rfl rfl) rfl rfl (fun h82 => ?_) (fun h82 => ?_)
 refine J3 ?_
 refine F8 (outs := [rd br pb nb cb (p + 1 + 1)]) (rC rfl (A1 rfl rfl)) (by repeat (first | exact A0.nil | refine A0.cons Pk.here ?_ | refine A0.cons (Pk.there Pk.here) ?_ | refine A0.cons (Pk.there (Pk.there Pk.here)) ?_ | apply A0.drop)) ?_
 focus (refine ⟨_, ?_, ?_, rfl, _, _, rfl, A1g ⟨by omega, by omega⟩ ⟨by omega, by omega⟩, ?_⟩; all_goals (try rw [A1D]); all_goals (first | omega | (simp only [ByteArray.size_extract]; omega) | decide))
 refine I7 ?_
 (refine L4 (C8 rfl rfl rfl (by omega) (by unfold maxLen; omega) rfl) rfl ?_; rintro _ ⟨b108, rfl⟩)
 (refine T8 (by repeat (first | exact Pk.here | apply Pk.there)) (fun Gf hlef hslf _ => ?_); refine H4 rfl (X9 Gf br pb nb cb (p + 1 + 1) bs _ _ _ _ (hb.mono hlef) hnb (by omega) hslf (by decide)) (Pk.perm (by repeat (first | exact Pk.here | apply Pk.there))) rfl rfl (fun v Gn outs hlen hh => ?_); obtain ⟨rfl, rfl, hv⟩ := hh; obtain ⟨kn, rfl, hkn⟩ : ∃ k, v = .int .i64 k ∧ E3 k := (by simp only [List.mem_cons, List.not_mem_nil, or_false] at hv; rcases hv with rfl | rfl | rfl | rfl | rfl | rfl <;> exact ⟨_, rfl, by unfold E3; omega⟩))
 refine I5 rfl ((A1U _ _)) rfl rfl ?_
 refine F4 ?_
 refine sD (nS (tT ?_))
 refine F8 (outs := [rd br pb nb cb (p + 1 + 1 + 1)]) (rC rfl (A1 rfl rfl)) (by repeat (first | exact A0.nil | refine A0.cons Pk.here ?_ | refine A0.cons (Pk.there Pk.here) ?_ | refine A0.cons (Pk.there (Pk.there Pk.here)) ?_ | apply A0.drop)) ?_
 focus (refine ⟨_, ?_, ?_, rfl, _, _, rfl, A1g ⟨by omega, by omega⟩ hkn, ?_⟩; all_goals (try rw [A1D]); all_goals (first | omega | decide))
 refine L5 ?_
 (refine H4 rfl (W3 _ br pb nb cb p bs _ hb hnb (by omega)) (Pk.perm (by repeat (first | exact Pk.here | apply Pk.there))) rfl rfl (fun v131 G131 outs131 hle131 hh => ?_); obtain ⟨rfl, rfl, j131, rfl, hj131, hk131⟩ := hh; obtain ⟨i131, rfl⟩ := Int.eq_ofNat_of_zero_le hj131)
 replace hb := hb.mono hle131
 refine sD (nS ?_)
 refine B7 (tS (tR (sB (qE rfl rfl) rfl rfl (fun h137 => ?_) (fun h137 => ?_))))
 refine J3 ?_
 refine F8 (outs := [rd br pb nb cb (p + 1)]) (rC rfl (A1 rfl rfl)) (by repeat (first | exact A0.nil | refine A0.cons Pk.here ?_ | refine A0.cons (Pk.there Pk.here) ?_ | refine A0.cons (Pk.there (Pk.there Pk.here)) ?_ | apply A0.drop)) ?_
 focus (refine ⟨_, ?_, ?_, rfl, _, _, rfl, A1g ⟨by omega, by omega⟩ ⟨by omega, by omega⟩, ?_⟩; all_goals (try rw [A1D]); all_goals (first | omega | (simp only [ByteArray.size_extract]; omega) | decide))
 refine sQ (qA rfl) rfl (sD (nS (cF rfl (tS (tR ?_)))))
 refine sB (qE rfl rfl) rfl rfl (fun h159 => ?_) (fun h159 => ?_)
 refine J3 ?_
 refine F8 (outs := [rd br pb nb cb (p + 1)]) (rC rfl (A1 rfl rfl)) (by repeat (first | exact A0.nil | refine A0.cons Pk.here ?_ | refine A0.cons (Pk.there Pk.here) ?_ | refine A0.cons (Pk.there (Pk.there Pk.here)) ?_ | apply A0.drop)) ?_
 focus (refine ⟨_, ?_, ?_, rfl, _, _, rfl, A1g ⟨by omega, by omega⟩ ⟨by omega, by omega⟩, ?_⟩; all_goals (try rw [A1D]); all_goals (first | omega | (simp only [ByteArray.size_extract]; omega) | decide))
 refine I7 ?_
 (refine L4 (C8 rfl rfl rfl (by omega) (by unfold maxLen; omega) rfl) rfl ?_; rintro _ ⟨b185, rfl⟩)
 (refine T8 (by repeat (first | exact Pk.here | apply Pk.there)) (fun Gf hlef hslf _ => ?_); refine H4 rfl (X9 Gf br pb nb cb (p + 1) bs _ _ _ _ (hb.mono hlef) hnb (by omega) hslf (by decide)) (Pk.perm (by repeat (first | exact Pk.here | apply Pk.there))) rfl rfl (fun v Gn outs hlen hh => ?_); obtain ⟨rfl, rfl, hv⟩ := hh; obtain ⟨kn, rfl, hkn⟩ : ∃ k, v = .int .i64 k ∧ E3 k := (by simp only [List.mem_cons, List.not_mem_nil, or_false] at hv; rcases hv with rfl | rfl | rfl | rfl | rfl | rfl <;> exact ⟨_, rfl, by unfold E3; omega⟩))
 refine I5 rfl ((A1U _ _)) rfl rfl ?_
 refine F4 ?_
 refine sD (nS (tT ?_))
 refine F8 (outs := [rd br pb nb cb (p + 1 + 1)]) (rC rfl (A1 rfl rfl)) (by repeat (first | exact A0.nil | refine A0.cons Pk.here ?_ | refine A0.cons (Pk.there Pk.here) ?_ | refine A0.cons (Pk.there (Pk.there Pk.here)) ?_ | apply A0.drop)) ?_
 focus (refine ⟨_, ?_, ?_, rfl, _, _, rfl, A1g ⟨by omega, by omega⟩ hkn, ?_⟩; all_goals (try rw [A1D]); all_goals (first | omega | decide))
def tB : Nat → Nat
 | 0 => 3
 | d + 1 => 3 * tB d + 20
theorem A71 (d : Nat) : 3 ≤ tB d := by cases d <;> simp only [tB] <;> omega
theorem A72 (br : Nat) (pb : Option Addr) (nb cb : Nat) (bs : List UInt8) (hnb : nb ≤ 2000) : ∀ (d p : Nat) (G : IM) (s : ByteArray), d ≤ 900 → s.size + d ≤ 950 → Sl G pb nb cb 1 (N9 bs) → p + tB d < 1099511627776 →
  Fn Tryz.prog 168 [.pointer (some ⟨br, 0, none⟩), .string s, .int .i64 ((d + 1 : Nat) : Int)] [rd br pb nb cb p] G
   (Y7 br pb nb cb p (tB d) (fun G' v => ∃ t cells, v = .agg ⟨cells⟩ ∧ A6 G' t cells ∧ Z7 t ≤ ((tB d : Nat) : Int))) := by
 refine fun d => Nat.strongRecOn d fun d ih p G s hd hs hb hp => ?_
 have hge := A71 d
 refine B3 Tryz.func168 rfl Tryz.ntmps168 Tryz.results168 rfl ?_
 intro w0
 refine tS (tR ?_)
 refine sE (A7 rfl) rfl (fun b3 => ?_)
 refine sD (nS (tS (tS (tR (sQ (qM rfl) rfl ?_)))))
 refine sB (J9 rfl rfl) rfl rfl (fun h10 => ?_) (fun h10 => ?_)
 ·refine M6 ?_
  (refine H4 rfl (A70 br pb nb cb bs hnb p _ hb (by omega) s (by omega)) (Pk.perm (by repeat (first | exact Pk.here | apply Pk.there))) rfl rfl (fun v Ga outs hlea hh => ?_); obtain ⟨pa, hpa1, hpa2, rfl, ta, cellsa, rfl, hra, hsa⟩ := hh; have hl9 := hra.len; have ho9 := hra.one)
  refine sS rfl rfl rfl hl9 ho9 rfl ?_ (hu := by exact C3 hl9.symm)
  refine sD (nS (tT (rS ?_)))
  refine F8 (outs := [rd br pb nb cb pa]) (rC rfl (A3 rfl rfl (A9 (by repeat first | exact mH | apply mT)) hl9)) (by repeat (first | exact A0.nil | refine A0.cons Pk.here ?_ | refine A0.cons (Pk.there Pk.here) ?_ | refine A0.cons (Pk.there (Pk.there Pk.here)) ?_ | apply A0.drop)) ?_
  (exact ⟨pa, by omega, by omega, rfl, ta, cellsa, rfl, hra, by omega⟩)
 ·refine sQ (qM rfl) rfl (sQ (qM rfl) rfl ?_)
  (have hB4 : 4 ≤ tB d := (by obtain ⟨d1, rfl⟩ : ∃ d1, d = d1 + 1 := ⟨d - 1, by omega⟩; simp only [tB]; have := A71 d1; omega); refine H4 rfl (W3 _ br pb nb cb p bs _ hb hnb (by omega)) (Pk.perm (by repeat (first | exact Pk.here | apply Pk.there))) rfl rfl (fun v33 G33 outs33 hle33 hh => ?_); obtain ⟨rfl, rfl, j33, rfl, hj33, hk33⟩ := hh)
  replace hb := hb.mono hle33
  refine sB (qE rfl rfl) rfl rfl (fun h34 => ?_) (fun h34 => ?_)
  ·refine D8 ?_
   (refine H4 rfl (A70 br pb nb cb bs hnb (p + 1) _ hb (by omega) s (by omega)) (Pk.perm (by repeat (first | exact Pk.here | apply Pk.there))) rfl rfl (fun v Ga outs hlea hh => ?_); obtain ⟨pa, hpa1, hpa2, rfl, ta, cellsa, rfl, hra, hsa⟩ := hh; have hl9 := hra.len; have ho9 := hra.one)
   refine sS rfl rfl rfl hl9 ho9 rfl ?_ (hu := by exact C3 hl9.symm)
   refine sD (nS (tT (rS ?_)))
   refine F8 (outs := [rd br pb nb cb pa]) (rC rfl (A3 rfl rfl (A9 (by repeat first | exact mH | apply mT)) hl9)) (by repeat (first | exact A0.nil | refine A0.cons Pk.here ?_ | refine A0.cons (Pk.there Pk.here) ?_ | refine A0.cons (Pk.there (Pk.there Pk.here)) ?_ | apply A0.drop)) ?_
   (exact ⟨pa, by omega, by omega, rfl, ta, cellsa, rfl, hra, by omega⟩)
  ·refine D9 ?_
   (refine L4 (C8 rfl rfl rfl (by omega) (by unfold maxLen; omega) rfl) rfl ?_; rintro _ ⟨b60, rfl⟩)
   (refine T8 (by repeat (first | exact Pk.here | apply Pk.there)) (fun Gf hlef hslf _ => ?_); refine H4 rfl (X9 Gf br pb nb cb (p + 1) bs _ _ _ _ (hb.mono hlef) hnb (by omega) hslf (by decide)) (Pk.perm (by repeat (first | exact Pk.here | apply Pk.there))) rfl rfl (fun v Gk outs hlek hh => ?_); obtain ⟨rfl, rfl, hv⟩ := hh; replace hb := hb.mono hlef; obtain ⟨k, rfl, hk1, hk2⟩ : ∃ k, v = .int .i64 k ∧ 5 ≤ k ∧ k ≤ 13 := (by simp only [List.mem_cons, List.not_mem_nil, or_false] at hv; rcases hv with rfl | rfl | rfl | rfl | rfl | rfl | rfl | rfl | rfl | rfl | rfl <;> exact ⟨_, rfl, by decide, by decide⟩); obtain ⟨d1, rfl⟩ : ∃ d1, d = d1 + 1 := ⟨d - 1, by omega⟩; have hB : tB (d1 + 1) = 3 * tB d1 + 20 := rfl)
   refine C4 ?_
   refine sE (A7 rfl) rfl (fun b69 => ?_)
   refine F4 ?_
   refine sD (nS (tS (tS (tR (sQ (qM rfl) rfl ?_)))))
   refine sB (qE rfl rfl) rfl rfl (fun h77 => ?_) (fun h77 => ?_)
   ·refine sD (nS ?_)
    (show I2 _ _ (.cond (.tmp 26) _ _) _ _; refine A0c (fun (x : ByteArray × ByteArray × Nat × IM) => ⟨[(7, .int .i64 k), (8, .pointer (some ⟨b69, 0, none⟩)), (6, .pointer (some ⟨b3, 0, none⟩)), (0, .pointer (some ⟨br, 0, none⟩)), (1, .string x.2.1), (2, .int .i64 ((d1 + 1 + 1 : Nat) : Int))], [.blk b69 [.int .i64 k, .string x.1, .int .i64 0, .int .i64 0, .slice none 0 0, .int .i64 0, .slice none 0 0, .int .i64 0, .slice none 0 0], .blk b3 [.int .i64 0, .string ⟨⟨[]⟩⟩, .int .i64 0, .int .i64 0, .slice none 0 0, .int .i64 0, .slice none 0 0, .int .i64 0, .slice none 0 0], rd br pb nb cb x.2.2.1], x.2.2.2⟩) (fun x => B6 Gk x.2.2.2 ∧ x.1.size ≤ 1 ∧ x.2.1.size ≤ s.size + 1 ∧ p + 2 ≤ x.2.2.1 ∧ x.2.2.1 ≤ p + 3) ?_ ?_)
    ·refine qT rfl (tS (tR (sQ (qM rfl) rfl ?_)))
     (refine L4 (C8 rfl rfl rfl (by omega) (by unfold maxLen; omega) rfl) rfl ?_; rintro _ ⟨b85, rfl⟩)
     (refine T8 (by repeat (first | exact Pk.here | apply Pk.there)) (fun Gf2 hlef2 hslf2 _ => ?_); refine H4 rfl (A5K Gf2 br pb nb cb (p + 1 + 1) bs _ _ _ _ (hb.mono hlef2) hnb (by omega) hslf2 (by decide)) (Pk.perm (by repeat (first | exact Pk.here | apply Pk.there))) rfl rfl (fun v Go outs hleo hh => ?_); obtain ⟨rfl, rfl, hv2⟩ := hh; obtain ⟨nmA, rfl, hnA⟩ : ∃ nm, v = .string nm ∧ nm.size ≤ 1 := (by simp only [List.mem_cons, List.not_mem_nil, or_false] at hv2; rcases hv2 with rfl | rfl | rfl | rfl <;> exact ⟨_, rfl, by decide⟩))
     refine D8 ?_
     (refine A34 rfl (B11 s nmA _ (by omega) (by omega)) rfl rfl (fun v Ga outs hlea hh => ?_); obtain ⟨rfl, rfl, sA, rfl, hsA⟩ := hh)
     refine sQ (qA rfl) rfl (sD ?_)
     refine Q0 (nmA, sA, p + 1 + 1 + 1, Ga) (O2 (by repeat (first | exact E7.nil | refine E7.cons rfl ?_)) (by repeat (first | exact A0.refl | exact A0.nil | refine A0.cons (by repeat (first | exact Pk.here | apply Pk.there)) ?_ | apply A0.drop))) ?_
     (dsimp only; exact ⟨hlef2, hnA, by omega, by omega, by omega⟩)
    ·(rintro ⟨(nm : ByteArray), s', p1, G1⟩ ⟨hleA, hnm, hss, hpA, hpB⟩; simp only [] at hleA hnm hss hpA hpB ⊢; replace hb := hb.mono hleA; have hmark := hleA)
     refine tS (tS ?_)
     (have hm' := hmark; refine A0c (fun (x : Bool) => ⟨(40, .bool x) :: [(7, .int .i64 k), (8, .pointer (some ⟨b69, 0, none⟩)), (6, .pointer (some ⟨b3, 0, none⟩)), (0, .pointer (some ⟨br, 0, none⟩)), (1, .string s'), (2, .int .i64 ((d1 + 1 + 1 : Nat) : Int))], [.blk b69 [.int .i64 k, .string nm, .int .i64 0, .int .i64 0, .slice none 0 0, .int .i64 0, .slice none 0 0, .int .i64 0, .slice none 0 0], .blk b3 [.int .i64 0, .string ⟨⟨[]⟩⟩, .int .i64 0, .int .i64 0, .slice none 0 0, .int .i64 0, .slice none 0 0, .int .i64 0, .slice none 0 0], rd br pb nb cb p1], G1⟩) (fun x => True) ?_ ?_)
     ·refine tR (sQ (qM rfl) rfl ?_)
      refine sP (W2 rfl rfl (by omega)) rfl rfl ?_
      refine Q3 ?_
      refine Q0 true (O2 (by repeat (first | exact E7.nil | refine E7.cons rfl ?_)) (by repeat (first | exact A0.refl | exact A0.nil | refine A0.cons (by repeat (first | exact Pk.here | apply Pk.there)) ?_ | apply A0.drop))) ?_
      trivial
     ·(rintro x _; clear hmark)
      (show I2 _ _ (.cond (.tmp 40) _ _) _ _; refine A0c (fun (x : Ty × Option Addr × Nat × Nat × IM) => ⟨[(7, .int .i64 k), (8, .pointer (some ⟨b69, 0, none⟩)), (6, .pointer (some ⟨b3, 0, none⟩)), (0, .pointer (some ⟨br, 0, none⟩)), (1, .string s'), (2, .int .i64 ((d1 + 1 + 1 : Nat) : Int))], [.blk b69 [.int .i64 k, .string nm, .int .i64 0, .int .i64 x.1.k, .slice x.2.1 x.1.ks.length x.2.2.1, .int .i64 0, .slice none 0 0, .int .i64 0, .slice none 0 0], .blk b3 [.int .i64 0, .string ⟨⟨[]⟩⟩, .int .i64 0, .int .i64 0, .slice none 0 0, .int .i64 0, .slice none 0 0, .int .i64 0, .slice none 0 0], rd br pb nb cb x.2.2.2.1], x.2.2.2.2⟩) (fun x => B6 G1 x.2.2.2.2 ∧ B5 x.2.2.2.2 x.1 [.int .i64 x.1.k, .slice x.2.1 x.1.ks.length x.2.2.1] ∧ J8 x.1 ≤ 14 ∧ p1 ≤ x.2.2.2.1 ∧ x.2.2.2.1 ≤ p1 + 15) (A3S rfl (fun hxt => ?_) (fun hxf => ?_)) ?_)
      ·refine tR (sQ (qM rfl) rfl (sQ (qM rfl) rfl ?_))
       (refine L4 (C8 rfl rfl rfl (by omega) (by unfold maxLen; omega) rfl) rfl ?_; rintro _ ⟨b119, rfl⟩)
       (refine T8 (by repeat (first | exact Pk.here | apply Pk.there)) (fun Gf hlef3 hslf _ => ?_); refine H4 rfl (X9 Gf br pb nb cb p1 bs _ _ _ _ (hb.mono hlef3) hnb (by omega) hslf (by decide)) (Pk.perm (by repeat (first | exact Pk.here | apply Pk.there))) rfl rfl (fun v Gn outs hlen hh => ?_); obtain ⟨rfl, rfl, hv⟩ := hh; replace hb := hb.mono hlef3; obtain ⟨dd, rfl, hdd⟩ : ∃ d : Nat, v = .int .i64 ((d + 1 : Nat) : Int) ∧ d ≤ 2 := (by simp only [List.mem_cons, List.not_mem_nil, or_false] at hv; rcases hv with rfl | rfl | rfl | rfl <;> first | exact ⟨0, rfl, by decide⟩ | exact ⟨1, rfl, by decide⟩ | exact ⟨2, rfl, by decide⟩))
       (have hdB := A5P hdd; refine H4 rfl (A7U br pb nb cb bs hnb dd (p1 + 1) _ (by omega) hb (by omega)) (Pk.perm (by repeat (first | exact Pk.here | apply Pk.there))) rfl rfl (fun v G3 outs hle3 hh => ?_); obtain ⟨p3, hp31, hp32, rfl, t3, cells3, rfl, hr3, hs3⟩ := hh; obtain ⟨q3, c3, es3, rfl, _⟩ := hr3.open)
       refine sQ (B0 rfl) rfl (F4 ?_)
       refine sD ?_
       refine Q0 (t3, q3, c3, p3, G3) (O2 (by repeat (first | exact E7.nil | refine E7.cons rfl ?_)) (by repeat (first | exact A0.refl | exact A0.nil | refine A0.cons (by repeat (first | exact Pk.here | apply Pk.there)) ?_ | apply A0.drop))) ?_
       (dsimp only; exact ⟨hlef3.trans hle3, hr3, by omega, by omega, by omega⟩)
      ·refine tK ?_
       refine Q0 (A8, none, 0, p1, G1) (O2 (by repeat (first | exact E7.nil | refine E7.cons rfl ?_)) (by repeat (first | exact A0.refl | exact A0.nil | refine A0.cons (by repeat (first | exact Pk.here | apply Pk.there)) ?_ | apply A0.drop))) ?_
       (dsimp only; exact ⟨B6.refl _, A0J _, by decide, by omega, by omega⟩)
      ·(rintro ⟨(t' : Ty), q', c', p2, G2⟩ ⟨hleB, hrB, hsB, hpC, hpD⟩; simp only [] at hleB hrB hsB hpC hpD ⊢; replace hb := hb.mono hleB; have hop := A1h k; have hK := A4j k)
       refine tS (tS (tR (sQ (qA rfl) rfl (sD (nS ?_)))))
       refine B7 ?_
       (refine U5 28 9 ?_; refine L3 (fun (x : Nat × Option Addr × Nat × List Tm × List (List Value) × Nat × IM) => ⟨[(9, .int .i64 x.1), (7, .int .i64 k), (8, .pointer (some ⟨b69, 0, none⟩)), (6, .pointer (some ⟨b3, 0, none⟩)), (0, .pointer (some ⟨br, 0, none⟩)), (1, .string s'), (2, .int .i64 ((d1 + 1 + 1 : Nat) : Int))], [.blk b69 [.int .i64 k, .string nm, .int .i64 0, .int .i64 t'.k, .slice q' t'.ks.length c', .int .i64 0, .slice none 0 0, .int .i64 0, .slice x.2.1 x.1 x.2.2.1], .slc x.2.1 x.2.2.1 28 9 x.1 x.2.2.2.2.1.flatten, rd br pb nb cb x.2.2.2.2.2.1, .blk b3 [.int .i64 0, .string ⟨⟨[]⟩⟩, .int .i64 0, .int .i64 0, .slice none 0 0, .int .i64 0, .slice none 0 0, .int .i64 0, .slice none 0 0]], x.2.2.2.2.2.2⟩) (fun x => ((x.1 : Int) ≤ C5 k ∨ x.1 = 0) ∧ B6 G2 x.2.2.2.2.2.2 ∧ x.2.2.2.1.length = x.1 ∧ D2 x.2.2.2.2.2.2 x.2.2.2.1 x.2.2.2.2.1 ∧ X0 x.2.2.2.1 ≤ ((x.1 * tB d1 : Nat) : Int) ∧ p2 ≤ x.2.2.2.2.2.1 ∧ x.2.2.2.2.2.1 ≤ p2 + x.1 * tB d1) (fun x => (C5 k).toNat - x.1) (0, none, 0, [], [], p2, G2) ?_ ?_ ?_)
       ·(simp only [I6]; exact D3)
       ·(exact ⟨.inr rfl, B6.refl _, rfl, by simp [D2], by simp [X0], by dsimp only; omega, by dsimp only; omega⟩)
       ·(rintro ⟨i, pn, cn, ts, es', p', Gi⟩ ⟨hi, hle, hlt, hst, hsum, hq1, hq2⟩; simp only [] at hi hle hlt hst hsum hq1 hq2 ⊢; have hid : i * tB d1 ≤ 3 * tB d1 := Nat.mul_le_mul_right _ (by omega))
        refine tS (tS (tR (sQ (qM rfl) rfl (sQ (qM rfl) rfl ?_))))
        refine I5 rfl ((hK _)) rfl rfl ?_
        refine sB (J9 rfl rfl) rfl rfl (fun h148 => ?_) (fun h148 => ?_)
        ·refine sD (nS (qT rfl (tK (nS (tS ?_)))))
         refine B7 ?_
         (have hih := ih d1 (by omega) p' Gi s' (by omega) (by omega) (hb.mono hle) (by have := Nat.mul_le_mul_right (tB d1) (show i + 1 ≤ 3 by omega); rw [Nat.succ_mul] at this; omega); refine D5 D6 rfl ?_)
         refine I3 (i := 0) (l' := [tt,ff,ff,ff,ff,ff,ff,ff,ff,ff,ff]) rfl D1 (B0 rfl) rfl (by kernel_rfl) rfl rfl ?_
         refine aL 1 rfl (B9 rfl rfl) rfl ?_
         refine aP 2 rfl (qM rfl) rfl ?_
         refine aP 3 rfl (qM rfl) rfl ?_
         refine aP 4 rfl (qM rfl) rfl ?_
         refine aP 5 rfl (A4h rfl rfl (by omega)) rfl ?_
         refine A2 6 ?_
         (refine X8 (l' := [tt,tt,tt,tt,tt,tt,tt,ff,ff,ff,ff]) rfl rfl hih (Pk.perm (by repeat (first | exact Pk.here | apply Pk.there))) rfl rfl rfl (by repeat (first | exact A5.nil | apply A5.dep (by decide +kernel) | apply A5.blk (by decide +kernel) (by repeat (first | exact Pk.here | apply Pk.there)) (by repeat first | exact mH | apply mT))) (fun v G3 outs hle3 hh => ?_); obtain ⟨p3, hp31, hp32, rfl, t3, cells3, rfl, hr3, hs3⟩ := hh; obtain ⟨qt, dt, et, qf, df, ef, q3, d3, es3, rfl, _⟩ := hr3.open)
         refine A2 7 ?_
         (refine E1 rfl (C8 rfl rfl rfl (by omega) (by unfold maxLen; omega) rfl) rfl rfl ?_; rintro _ ⟨b166, rfl⟩)
         refine A2 8 ?_
         refine Q5 rfl rfl rfl rfl rfl rfl (fun _ _ => by repeat (first | exact Sw.here | apply Sw.there)) (P5 (by repeat first | exact mH | apply mT)) rfl (by simp [Value.oneCell']) (by unfold maxLen; omega) (by omega) rfl rfl (by repeat (first | exact A5.nil | apply A5.dep (by decide +kernel) | apply A5.blk (by decide +kernel) (by repeat (first | exact Pk.here | apply Pk.there)) (by repeat first | exact mH | apply mT))) (fun pn' cn' => ?_)
         refine aP 9 rfl (B0 rfl) rfl ?_
         refine A2 10 ?_
         refine Q4 rfl rfl rfl rfl rfl rfl rfl rfl (by kernel_rfl) (by repeat first | exact Sw.here | apply Sw.there) (by rfl) ?_
         refine C2 (N3 (nS (tR (sQ (qM rfl) rfl ?_))))
         refine sP (K4 rfl rfl (by omega) (by omega)) rfl rfl ?_
         refine sQ (qA rfl) rfl (sD ?_)
         refine K7 (i + 1, pn', cn', ts ++ [t3], es' ++ [[.int .i64 t3.k, .string t3.nm, .int .i64 t3.num, .int .i64 t3.ty.k, .slice qt t3.ty.ks.length dt, .int .i64 t3.fr.k, .slice qf t3.fr.ks.length df, .int .i64 t3.lb, .slice q3 t3.ks.length d3]], p3, G3) ?_ ?_ ?_
         ·(simp only [I6]; exact D3)
         ·(dsimp only; have e1 : (i + 1) * tB d1 = i * tB d1 + tB d1 := Nat.succ_mul _ _; have e2 := A5O ts t3; exact ⟨.inl (by omega), hle.trans hle3, by simp [hlt], D2.snoc (hst.mono hle3) hr3, by omega, by omega, by omega⟩)
         ·(show (C5 k).toNat - (i + 1) < (C5 k).toNat - i; omega)
        ·refine L5 ?_
         (refine H5 (by repeat (first | exact Pk.here | apply Pk.there)) (fun G5 hle5 hsl5 hno5 => ?_))
         refine tT ?_
         refine F8 (outs := [rd br pb nb cb p']) (rC rfl (A1 rfl rfl)) (by repeat (first | exact A0.nil | refine A0.cons Pk.here ?_ | refine A0.cons (Pk.there Pk.here) ?_ | refine A0.cons (Pk.there (Pk.there Pk.here)) ?_ | apply A0.drop)) ?_
         (refine ⟨p', by omega, by omega, rfl, .mk k nm 0 t' A8 0 ts, _, rfl, (hst.mono hle5).tm hlt hsl5 ⟨by omega, by omega⟩ ⟨by omega, by omega⟩ (hrB.mono (hle.trans hle5)), ?_⟩; rw [Z7, A5N]; omega)
   ·refine sD (nS ?_)
    (show I2 _ _ (.cond (.tmp 26) _ _) _ _; refine A0c (fun (x : ByteArray × ByteArray × Nat × IM) => ⟨[(7, .int .i64 k), (8, .pointer (some ⟨b69, 0, none⟩)), (6, .pointer (some ⟨b3, 0, none⟩)), (0, .pointer (some ⟨br, 0, none⟩)), (1, .string x.2.1), (2, .int .i64 ((d1 + 1 + 1 : Nat) : Int))], [.blk b69 [.int .i64 k, .string x.1, .int .i64 0, .int .i64 0, .slice none 0 0, .int .i64 0, .slice none 0 0, .int .i64 0, .slice none 0 0], .blk b3 [.int .i64 0, .string ⟨⟨[]⟩⟩, .int .i64 0, .int .i64 0, .slice none 0 0, .int .i64 0, .slice none 0 0, .int .i64 0, .slice none 0 0], rd br pb nb cb x.2.2.1], x.2.2.2⟩) (fun x => B6 Gk x.2.2.2 ∧ x.1.size ≤ 1 ∧ x.2.1.size ≤ s.size + 1 ∧ p + 2 ≤ x.2.2.1 ∧ x.2.2.1 ≤ p + 3) ?_ ?_)
    ·refine cF rfl (tK ?_)
     refine Q0 (⟨⟨[]⟩⟩, s, p + 1 + 1, Gk) (O2 (by repeat (first | exact E7.nil | refine E7.cons rfl ?_)) (by repeat (first | exact A0.refl | exact A0.nil | refine A0.cons (by repeat (first | exact Pk.here | apply Pk.there)) ?_ | apply A0.drop))) ?_
     (dsimp only; exact ⟨B6.refl _, by decide, by omega, by omega, by omega⟩)
    ·(rintro ⟨(nm : ByteArray), s', p1, G1⟩ ⟨hleA, hnm, hss, hpA, hpB⟩; simp only [] at hleA hnm hss hpA hpB ⊢; replace hb := hb.mono hleA; have hmark := hleA)
     refine tS (tS ?_)
     (have hm' := hmark; refine A0c (fun (x : Bool) => ⟨(40, .bool x) :: [(7, .int .i64 k), (8, .pointer (some ⟨b69, 0, none⟩)), (6, .pointer (some ⟨b3, 0, none⟩)), (0, .pointer (some ⟨br, 0, none⟩)), (1, .string s'), (2, .int .i64 ((d1 + 1 + 1 : Nat) : Int))], [.blk b69 [.int .i64 k, .string nm, .int .i64 0, .int .i64 0, .slice none 0 0, .int .i64 0, .slice none 0 0, .int .i64 0, .slice none 0 0], .blk b3 [.int .i64 0, .string ⟨⟨[]⟩⟩, .int .i64 0, .int .i64 0, .slice none 0 0, .int .i64 0, .slice none 0 0, .int .i64 0, .slice none 0 0], rd br pb nb cb p1], G1⟩) (fun x => True) ?_ ?_)
     ·refine tR (sQ (qM rfl) rfl ?_)
      refine sP (H0 rfl rfl (by omega)) rfl rfl ?_
      refine sQ (qM rfl) rfl (sQ (qM rfl) rfl ?_)
      refine sB (qE rfl rfl) rfl rfl (fun h218 => ?_) (fun h218 => ?_)
      ·refine sQ (N2 rfl rfl) rfl (sD ?_)
       refine Q0 true (O2 (by repeat (first | exact E7.nil | refine E7.cons rfl ?_)) (by repeat (first | exact A0.refl | exact A0.nil | refine A0.cons (by repeat (first | exact Pk.here | apply Pk.there)) ?_ | apply A0.drop))) ?_
       trivial
      ·refine sQ (N2 rfl rfl) rfl (sD ?_)
       refine Q0 false (O2 (by repeat (first | exact E7.nil | refine E7.cons rfl ?_)) (by repeat (first | exact A0.refl | exact A0.nil | refine A0.cons (by repeat (first | exact Pk.here | apply Pk.there)) ?_ | apply A0.drop))) ?_
       trivial
     ·(rintro x _; clear hmark)
      (show I2 _ _ (.cond (.tmp 40) _ _) _ _; refine A0c (fun (x : Ty × Option Addr × Nat × Nat × IM) => ⟨[(7, .int .i64 k), (8, .pointer (some ⟨b69, 0, none⟩)), (6, .pointer (some ⟨b3, 0, none⟩)), (0, .pointer (some ⟨br, 0, none⟩)), (1, .string s'), (2, .int .i64 ((d1 + 1 + 1 : Nat) : Int))], [.blk b69 [.int .i64 k, .string nm, .int .i64 0, .int .i64 x.1.k, .slice x.2.1 x.1.ks.length x.2.2.1, .int .i64 0, .slice none 0 0, .int .i64 0, .slice none 0 0], .blk b3 [.int .i64 0, .string ⟨⟨[]⟩⟩, .int .i64 0, .int .i64 0, .slice none 0 0, .int .i64 0, .slice none 0 0, .int .i64 0, .slice none 0 0], rd br pb nb cb x.2.2.2.1], x.2.2.2.2⟩) (fun x => B6 G1 x.2.2.2.2 ∧ B5 x.2.2.2.2 x.1 [.int .i64 x.1.k, .slice x.2.1 x.1.ks.length x.2.2.1] ∧ J8 x.1 ≤ 14 ∧ p1 ≤ x.2.2.2.1 ∧ x.2.2.2.1 ≤ p1 + 15) (A3S rfl (fun hxt => ?_) (fun hxf => ?_)) ?_)
      ·refine tR (sQ (qM rfl) rfl (sQ (qM rfl) rfl ?_))
       (refine L4 (C8 rfl rfl rfl (by omega) (by unfold maxLen; omega) rfl) rfl ?_; rintro _ ⟨b232, rfl⟩)
       (refine T8 (by repeat (first | exact Pk.here | apply Pk.there)) (fun Gf hlef3 hslf _ => ?_); refine H4 rfl (X9 Gf br pb nb cb p1 bs _ _ _ _ (hb.mono hlef3) hnb (by omega) hslf (by decide)) (Pk.perm (by repeat (first | exact Pk.here | apply Pk.there))) rfl rfl (fun v Gn outs hlen hh => ?_); obtain ⟨rfl, rfl, hv⟩ := hh; replace hb := hb.mono hlef3; obtain ⟨dd, rfl, hdd⟩ : ∃ d : Nat, v = .int .i64 ((d + 1 : Nat) : Int) ∧ d ≤ 2 := (by simp only [List.mem_cons, List.not_mem_nil, or_false] at hv; rcases hv with rfl | rfl | rfl | rfl <;> first | exact ⟨0, rfl, by decide⟩ | exact ⟨1, rfl, by decide⟩ | exact ⟨2, rfl, by decide⟩))
       (have hdB := A5P hdd; refine H4 rfl (A7U br pb nb cb bs hnb dd (p1 + 1) _ (by omega) hb (by omega)) (Pk.perm (by repeat (first | exact Pk.here | apply Pk.there))) rfl rfl (fun v G3 outs hle3 hh => ?_); obtain ⟨p3, hp31, hp32, rfl, t3, cells3, rfl, hr3, hs3⟩ := hh; obtain ⟨q3, c3, es3, rfl, _⟩ := hr3.open)
       refine sQ (B0 rfl) rfl (F4 ?_)
       refine sD ?_
       refine Q0 (t3, q3, c3, p3, G3) (O2 (by repeat (first | exact E7.nil | refine E7.cons rfl ?_)) (by repeat (first | exact A0.refl | exact A0.nil | refine A0.cons (by repeat (first | exact Pk.here | apply Pk.there)) ?_ | apply A0.drop))) ?_
       (dsimp only; exact ⟨hlef3.trans hle3, hr3, by omega, by omega, by omega⟩)
      ·refine tK ?_
       refine Q0 (A8, none, 0, p1, G1) (O2 (by repeat (first | exact E7.nil | refine E7.cons rfl ?_)) (by repeat (first | exact A0.refl | exact A0.nil | refine A0.cons (by repeat (first | exact Pk.here | apply Pk.there)) ?_ | apply A0.drop))) ?_
       (dsimp only; exact ⟨B6.refl _, A0J _, by decide, by omega, by omega⟩)
      ·(rintro ⟨(t' : Ty), q', c', p2, G2⟩ ⟨hleB, hrB, hsB, hpC, hpD⟩; simp only [] at hleB hrB hsB hpC hpD ⊢; replace hb := hb.mono hleB; have hop := A1h k; have hK := A4j k)
       refine tS (tS (tR (sQ (qA rfl) rfl (sD (nS ?_)))))
       refine B7 ?_
       (refine U5 28 9 ?_; refine L3 (fun (x : Nat × Option Addr × Nat × List Tm × List (List Value) × Nat × IM) => ⟨[(9, .int .i64 x.1), (7, .int .i64 k), (8, .pointer (some ⟨b69, 0, none⟩)), (6, .pointer (some ⟨b3, 0, none⟩)), (0, .pointer (some ⟨br, 0, none⟩)), (1, .string s'), (2, .int .i64 ((d1 + 1 + 1 : Nat) : Int))], [.blk b69 [.int .i64 k, .string nm, .int .i64 0, .int .i64 t'.k, .slice q' t'.ks.length c', .int .i64 0, .slice none 0 0, .int .i64 0, .slice x.2.1 x.1 x.2.2.1], .slc x.2.1 x.2.2.1 28 9 x.1 x.2.2.2.2.1.flatten, rd br pb nb cb x.2.2.2.2.2.1, .blk b3 [.int .i64 0, .string ⟨⟨[]⟩⟩, .int .i64 0, .int .i64 0, .slice none 0 0, .int .i64 0, .slice none 0 0, .int .i64 0, .slice none 0 0]], x.2.2.2.2.2.2⟩) (fun x => ((x.1 : Int) ≤ C5 k ∨ x.1 = 0) ∧ B6 G2 x.2.2.2.2.2.2 ∧ x.2.2.2.1.length = x.1 ∧ D2 x.2.2.2.2.2.2 x.2.2.2.1 x.2.2.2.2.1 ∧ X0 x.2.2.2.1 ≤ ((x.1 * tB d1 : Nat) : Int) ∧ p2 ≤ x.2.2.2.2.2.1 ∧ x.2.2.2.2.2.1 ≤ p2 + x.1 * tB d1) (fun x => (C5 k).toNat - x.1) (0, none, 0, [], [], p2, G2) ?_ ?_ ?_)
       ·(simp only [I6]; exact D3)
       ·(exact ⟨.inr rfl, B6.refl _, rfl, by simp [D2], by simp [X0], by dsimp only; omega, by dsimp only; omega⟩)
       ·(rintro ⟨i, pn, cn, ts, es', p', Gi⟩ ⟨hi, hle, hlt, hst, hsum, hq1, hq2⟩; simp only [] at hi hle hlt hst hsum hq1 hq2 ⊢; have hid : i * tB d1 ≤ 3 * tB d1 := Nat.mul_le_mul_right _ (by omega))
        refine tS (tS (tR (sQ (qM rfl) rfl (sQ (qM rfl) rfl ?_))))
        refine I5 rfl ((hK _)) rfl rfl ?_
        refine sB (J9 rfl rfl) rfl rfl (fun h261 => ?_) (fun h261 => ?_)
        ·refine sD (nS (qT rfl (tK (nS (tS ?_)))))
         refine B7 ?_
         (have hih := ih d1 (by omega) p' Gi s' (by omega) (by omega) (hb.mono hle) (by have := Nat.mul_le_mul_right (tB d1) (show i + 1 ≤ 3 by omega); rw [Nat.succ_mul] at this; omega); refine D5 D6 rfl ?_)
         refine I3 (i := 0) (l' := [tt,ff,ff,ff,ff,ff,ff,ff,ff,ff,ff]) rfl D1 (B0 rfl) rfl (by kernel_rfl) rfl rfl ?_
         refine aL 1 rfl (B9 rfl rfl) rfl ?_
         refine aP 2 rfl (qM rfl) rfl ?_
         refine aP 3 rfl (qM rfl) rfl ?_
         refine aP 4 rfl (qM rfl) rfl ?_
         refine aP 5 rfl (A4h rfl rfl (by omega)) rfl ?_
         refine A2 6 ?_
         (refine X8 (l' := [tt,tt,tt,tt,tt,tt,tt,ff,ff,ff,ff]) rfl rfl hih (Pk.perm (by repeat (first | exact Pk.here | apply Pk.there))) rfl rfl rfl (by repeat (first | exact A5.nil | apply A5.dep (by decide +kernel) | apply A5.blk (by decide +kernel) (by repeat (first | exact Pk.here | apply Pk.there)) (by repeat first | exact mH | apply mT))) (fun v G3 outs hle3 hh => ?_); obtain ⟨p3, hp31, hp32, rfl, t3, cells3, rfl, hr3, hs3⟩ := hh; obtain ⟨qt, dt, et, qf, df, ef, q3, d3, es3, rfl, _⟩ := hr3.open)
         refine A2 7 ?_
         (refine E1 rfl (C8 rfl rfl rfl (by omega) (by unfold maxLen; omega) rfl) rfl rfl ?_; rintro _ ⟨b279, rfl⟩)
         refine A2 8 ?_
         refine Q5 rfl rfl rfl rfl rfl rfl (fun _ _ => by repeat (first | exact Sw.here | apply Sw.there)) (P5 (by repeat first | exact mH | apply mT)) rfl (by simp [Value.oneCell']) (by unfold maxLen; omega) (by omega) rfl rfl (by repeat (first | exact A5.nil | apply A5.dep (by decide +kernel) | apply A5.blk (by decide +kernel) (by repeat (first | exact Pk.here | apply Pk.there)) (by repeat first | exact mH | apply mT))) (fun pn' cn' => ?_)
         refine aP 9 rfl (B0 rfl) rfl ?_
         refine A2 10 ?_
         refine Q4 rfl rfl rfl rfl rfl rfl rfl rfl (by kernel_rfl) (by repeat first | exact Sw.here | apply Sw.there) (by rfl) ?_
         refine C2 (N3 (nS (tR (sQ (qM rfl) rfl ?_))))
         refine sP (K4 rfl rfl (by omega) (by omega)) rfl rfl ?_
         refine sQ (qA rfl) rfl (sD ?_)
         refine K7 (i + 1, pn', cn', ts ++ [t3], es' ++ [[.int .i64 t3.k, .string t3.nm, .int .i64 t3.num, .int .i64 t3.ty.k, .slice qt t3.ty.ks.length dt, .int .i64 t3.fr.k, .slice qf t3.fr.ks.length df, .int .i64 t3.lb, .slice q3 t3.ks.length d3]], p3, G3) ?_ ?_ ?_
         ·(simp only [I6]; exact D3)
         ·(dsimp only; have e1 : (i + 1) * tB d1 = i * tB d1 + tB d1 := Nat.succ_mul _ _; have e2 := A5O ts t3; exact ⟨.inl (by omega), hle.trans hle3, by simp [hlt], D2.snoc (hst.mono hle3) hr3, by omega, by omega, by omega⟩)
         ·(show (C5 k).toNat - (i + 1) < (C5 k).toNat - i; omega)
        ·refine L5 ?_
         (refine H5 (by repeat (first | exact Pk.here | apply Pk.there)) (fun G5 hle5 hsl5 hno5 => ?_))
         refine tT ?_
         refine F8 (outs := [rd br pb nb cb p']) (rC rfl (A1 rfl rfl)) (by repeat (first | exact A0.nil | refine A0.cons Pk.here ?_ | refine A0.cons (Pk.there Pk.here) ?_ | refine A0.cons (Pk.there (Pk.there Pk.here)) ?_ | apply A0.drop)) ?_
         (refine ⟨p', by omega, by omega, rfl, .mk k nm 0 t' A8 0 ts, _, rfl, (hst.mono hle5).tm hlt hsl5 ⟨by omega, by omega⟩ ⟨by omega, by omega⟩ (hrB.mono (hle.trans hle5)), ?_⟩; rw [Z7, A5N]; omega)
theorem Sl.pre {G : IM} {p : Option Addr} {n c m : Nat} {cs : List Value} (h : Sl G p n c 1 cs) (hm : m ≤ n) : Sl G p m c 1 (cs.take m) := by
 obtain ⟨h1, h2, h3, h4⟩ := h
 refine ⟨by rw [List.length_take]; omega, by omega, h3, ?_⟩
 rcases h4 with h4 | ⟨b, o, full, e1, e2, e3⟩
 ·exact .inl (by omega)
 ·refine .inr ⟨b, o, full, e1, e2, fun j v hj => e3 j v ?_⟩
  rw [List.getElem?_take] at hj
  split at hj
  ·exact hj
  ·cases hj
theorem B12 (bs : List UInt8) (m : Nat) : N9 (bs.take m) = (N9 bs).take m := by unfold N9; rw [List.map_take]
theorem A73 {d : Nat} (h : d ≤ 4) : tB d ≤ 1043 := by
 have : d = 0 ∨ d = 1 ∨ d = 2 ∨ d = 3 ∨ d = 4 := by omega
 rcases this with rfl | rfl | rfl | rfl | rfl <;> decide
def A3x (G : IM) : IM → Value → List A4 → Prop := fun G' v outs => G' = G ∧ ∃ br pb nb cb bs, v = .pointer (some ⟨br, 0, none⟩) ∧ outs = [rd br pb nb cb 0] ∧ nb ≤ 2000 ∧ Sl G pb nb cb 1 (N9 bs)
theorem A3x.mk {G : IM} {b : Nat} {pb : Option Addr} {nb cb : Nat} {bs : List UInt8} (h : nb ≤ 2000) (hb : Sl G pb nb cb 1 (N9 bs)) : A3x G G (.pointer (some ⟨b, 0, none⟩)) [.blk b [.slice pb nb cb, .int .i64 0]] := ⟨rfl, _, _, _, _, bs, rfl, rfl, h, hb⟩
theorem B13 (G : IM) (q : Option Addr) (n c : Nat) (bs : List UInt8) (hb : Sl G q n c 1 (N9 bs)) :
  Fn Tryz.prog 70 [.slice q n c] [] G (A3x G) := by
 have hn := hb.le
 have hnc := hb.2.1
 have hpre := fun h : 2000 ≤ n => hb.pre h
 refine B3 Tryz.func70 rfl Tryz.ntmps70 Tryz.results70 rfl ?_
 intro w0
 refine I7 ?_
 refine sB (Y6 rfl rfl) rfl rfl (fun h11 => ?_) (fun h11 => ?_)
 refine sD (nS (qT rfl (tR (sQ (qM rfl) rfl ?_))))
 refine sP (A5w (l := 2000) rfl rfl rfl (by omega)) rfl rfl ?_
 refine C4 ?_
 refine sE (C0 rfl rfl) rfl (fun b25 => ?_)
 refine sQ (qA rfl) rfl (sD (nS (tT ?_)))
 refine F8 (rT rfl) A0.refl ?_
 exact A3x.mk (Nat.le_refl _) (by rw [B12]; exact hpre (by omega))
 refine D9 ?_
 refine sE (C0 rfl rfl) rfl (fun b41 => ?_)
 refine sQ (qA rfl) rfl (sD (nS (tT ?_)))
 refine F8 (rT rfl) A0.refl ?_
 exact A3x.mk (by omega) hb
theorem A1i (G : IM) : Fn Tryz.prog 198 [] [] G (H6 (.agg ⟨[.int .i64 2, .slice none 0 0]⟩) G) := by
 refine B3 Tryz.func198 rfl Tryz.ntmps198 Tryz.results198 rfl ?_
 intro w0
 refine tS (tR ?_)
 refine sE (A7 rfl) rfl (fun b3 => ?_)
 refine D9 ?_
 refine E0 (rC rfl (A1 rfl rfl)) ?_
 exact ⟨rfl, rfl, rfl⟩
theorem A3y (G : IM) : Fn Tryz.prog 199 [] [] G (H6 (.agg ⟨[.int .i64 3, .slice none 0 0]⟩) G) := by
 refine B3 Tryz.func199 rfl Tryz.ntmps199 Tryz.results199 rfl ?_
 intro w0
 refine tS (tR ?_)
 refine sE (A7 rfl) rfl (fun b3 => ?_)
 refine D9 ?_
 refine E0 (rC rfl (A1 rfl rfl)) ?_
 exact ⟨rfl, rfl, rfl⟩
theorem A2k (G : IM) (k : Int) (p : Option Addr) (n c : Nat) : Fn Tryz.prog 208 [.int .i64 k, .slice p n c] [] G (H6 (.agg ⟨[.int .i64 k, .string ⟨⟨[]⟩⟩, .int .i64 0, .int .i64 0, .slice none 0 0, .int .i64 0, .slice none 0 0, .int .i64 0, .slice p n c]⟩) G) := by
 refine B3 Tryz.func208 rfl Tryz.ntmps208 Tryz.results208 rfl ?_
 intro w0
 refine tS (tR ?_)
 refine sE (A7 rfl) rfl (fun b3 => ?_)
 refine J2 ?_
 refine E0 (rC rfl (A1 rfl rfl)) ?_
 exact ⟨rfl, rfl, rfl⟩
theorem N6 (G : IM) {k : Int} (hk : E3 k) : B5 G (.mk k []) [.int .i64 k, .slice none 0 0] := by
 simp only [B5]
 exact ⟨none, 0, [], rfl, hk, C9.of (Sl.nil _ _) rfl (by simp) (by simp), by simp [E6]⟩
theorem A74 (k : Int) : J8 (.mk k []) = 0 := rfl
def TyB (B : Int) (G : IM) : IM → Value → List A4 → Prop := K5 fun G' v => ∃ t cells b, v = .tuple ⟨[.agg ⟨cells⟩, .bool b]⟩ ∧ B5 G' t cells ∧ E4 t ∧ J8 t ≤ B
theorem A4u {k : Int} {a b : Ty} (hk : k = 4 ∨ k = 5) (ha : E4 a) (hb : E4 b) : E4 (.mk k [a, b]) := by
 rw [E4]
 exact ⟨fun _ => rfl, fun h4 h5 => by omega, by simp [A0G, ha, hb]⟩
theorem S8 {k : Int} (h4 : k ≠ 4) (h5 : k ≠ 5) : E4 (.mk k []) := (A2J 0 h4 h5).ar
theorem E4.kid {k : Int} {ks : List Ty} (h : E4 (.mk k ks)) : ∀ t ∈ ks, E4 t := by
 rw [E4] at h; exact A3p.1 h.2.2
theorem E4.two {k : Int} {ks : List Ty} (h : E4 (.mk k ks)) : ks.length ≤ 2 := by
 rw [E4] at h
 have h1 := h.1
 have h2 := h.2.1
 omega
theorem A75 : ∀ {ks : List Ty} {t : Ty}, t ∈ ks → J8 t ≤ O6 ks
 | [], t, h => by simp at h
 | t' :: ts, t, h => by
  rw [O6]
  have := A0X t'
  have := A1R ts
  rcases List.mem_cons.1 h with rfl | h
  ·omega
  ·have := A75 h; omega
theorem B14 {k : Int} {ks : List Ty} {t : Ty} (h : t ∈ ks) : J8 t ≤ J8 (.mk k ks) := by
 have := A75 h
 rw [J8]; omega
def B6Y (B : Int) (G : IM) : IM → Value → List A4 → Prop := K5 fun G' v => ∃ a ca b cb x, v = .tuple ⟨[.agg ⟨ca⟩, .agg ⟨cb⟩, .bool x]⟩ ∧ B5 G' a ca ∧ E4 a ∧ J8 a ≤ B ∧ B5 G' b cb ∧ E4 b ∧ J8 b ≤ B
def TyP (B : Int) (Q : Ty → Prop) (G : IM) : IM → Value → List A4 → Prop := K5 fun G' v => ∃ t cells, v = .agg ⟨cells⟩ ∧ B5 G' t cells ∧ E4 t ∧ J8 t ≤ B ∧ Q t
theorem A76 {k : Int} {ks us : List Ty} (h : E4 (.mk k ks)) (hl : us.length = ks.length) (hu : ∀ u ∈ us, E4 u) : E4 (.mk k us) := by
 rw [E4] at h ⊢
 exact ⟨fun hk => by rw [hl]; exact h.1 hk, fun a b => by rw [hl]; exact h.2.1 a b, A3p.2 hu⟩
theorem A2M {P : Ty → Prop} {us : List Ty} {u : Ty} (h : ∀ x ∈ us, P x) (hu : P u) : ∀ x ∈ us ++ [u], P x := by
 simp only [List.forall_mem_append, List.forall_mem_singleton]; exact ⟨h, hu⟩
theorem A1E : ∀ (t t' : Ty) (G : IM) (cells cells' : List Value), E4 t → E4 t' → B5 G t cells → B5 G t' cells' →
  Fn Tryz.prog 206 [.agg ⟨cells⟩, .agg ⟨cells'⟩] [] G (H6 (.bool (J6 t t')) G) := by
 refine Ty.ind fun k ks ih t' G cells cells' ha ha' hr hr' => ?_
 obtain ⟨k', ks'⟩ := t'
 obtain ⟨p, c, es, rfl, hk, hsl, hkl⟩ := hr.open
 obtain ⟨p', c', es', rfl, hk', hsl', hkl'⟩ := hr'.open
 simp only [Ty.k, Ty.ks] at hk hsl hkl hk' hsl' hkl' ⊢
 have hn := hsl.le
 have hn' := hsl'.le
 have hv2 := ha.kid
 have hv2' := ha'.kid
 rw [E4] at ha ha'
 have hle : k = k' → ks.length = ks'.length := by
  rintro rfl
  have h1 := ha.1
  have h2 := ha.2.1
  have h3 := ha'.1
  have h4 := ha'.2.1
  omega
 refine B3 Tryz.func206 rfl Tryz.ntmps206 Tryz.results206 rfl ?_
 intro w0
 refine tS (tR ?_)
 refine sE (C0 rfl rfl) rfl (fun b3 => ?_)
 refine sE (C0 rfl rfl) rfl (fun b4 => ?_)
 refine D8 ?_
 refine sB (qE rfl rfl) rfl rfl (fun h13 => ?_) (fun h13 => ?_)
 refine I8 ?_
 (rw [A4l (by omega)]; exact ⟨rfl, rfl, rfl⟩)
 refine L9 ?_
 refine sB (qE rfl rfl) rfl rfl (fun h34 => ?_) (fun h34 => ?_)
 refine M6 ?_
 (rw [A4l (by omega)]; exact ⟨rfl, rfl, rfl⟩)
 refine J3 ?_
 refine sB (M8 rfl rfl) rfl rfl (fun h61 => ?_) (fun h61 => ?_)
 refine J2 ?_
 (rw [A7D (by omega) (by omega) (by omega)]; exact ⟨rfl, rfl, rfl⟩)
 refine J2 ?_
 refine B7 ?_
 (have hll : ks.length = ks'.length := hle (by omega); refine L3 (fun (i : Nat) => ⟨[(5, .int .i64 i), (3, .pointer (some ⟨b4, 0, none⟩)), (2, .pointer (some ⟨b3, 0, none⟩))], [.blk b3 [.int .i64 k, .slice p ks.length c], .blk b4 [.int .i64 k', .slice p' ks'.length c']], G⟩) (fun i => i ≤ ks.length ∧ ∀ j (h : j < ks.length) (h' : j < ks'.length), j < i → J6 ks[j] ks'[j] = true) (fun i => ks.length - i) 0 ?_ ?_ ?_)
 exact D3
 exact ⟨by omega, by omega⟩
 (rintro i ⟨hi, hf⟩)
 refine C4 ?_
 refine sB (J9 rfl rfl) rfl rfl (fun h97 => ?_) (fun h97 => ?_)
 refine sD (nS (qT rfl (tK (nS (tS ?_)))))
 refine B7 ?_
 refine tS ?_
 (obtain ⟨b, o, p2, c2, rfl, hat, hre, hgb⟩ := hsl.kidTy hkl (i := i) (by omega) (by omega); obtain ⟨b', o', p2', c2', rfl, hat', hre', hgb'⟩ := hsl'.kidTy hkl' (i := i) (by omega) (by omega); refine D5 D6 rfl ?_)
 refine I3 (i := 0) (l' := [tt,ff,ff,ff,ff,ff,ff,ff,ff,ff,ff,ff]) rfl D1 (B0 rfl) rfl (by kernel_rfl) rfl rfl ?_
 refine aL 1 rfl (B9 rfl rfl) rfl ?_
 refine aP 2 rfl (qM rfl) rfl ?_
 refine aP 3 rfl (B2 rfl rfl rfl (by omega)) rfl ?_
 refine aL 4 rfl (A3 rfl rfl (hat _) rfl) rfl ?_
 refine aP 5 rfl (B0 rfl) rfl ?_
 refine aL 6 rfl (B9 rfl rfl) rfl ?_
 refine aP 7 rfl (qM rfl) rfl ?_
 refine aP 8 rfl (B2 rfl rfl rfl (by omega)) rfl ?_
 refine aL 9 rfl (A3 rfl rfl (hat' _) rfl) rfl ?_
 refine A2 10 ?_
 refine T4 rfl rfl (ih ks[i] (List.getElem_mem (by omega)) ks'[i] G _ _ (hv2 _ (List.getElem_mem (by omega))) (hv2' _ (List.getElem_mem (by omega))) hre hre') rfl rfl rfl (fun h118 => ?_) (fun h118 => ?_)
 refine aP 11 rfl (W0 rfl) rfl ?_
 refine D8 ?_
 refine sP (K4 rfl rfl (by omega) (by omega)) rfl rfl ?_
 refine sQ (qA rfl) rfl (sD ?_)
 refine K7 (i + 1) ?_ ?_ ?_
 exact D3
 exact ⟨by omega, fun j hj hj' hji => by (by_cases he : j = i; (subst he; assumption); exact hf j hj hj' (by omega))⟩
 omega
 refine aP 11 rfl (pNf rfl) rfl ?_
 refine I0 ?_
 (rw [A4m (by omega) (by omega) (by omega), A7E (i := i) (by omega) (by omega) (by assumption)]; exact ⟨rfl, rfl, rfl⟩)
 refine I0 ?_
 (rw [A4m (by omega) (by omega) (by omega), (A1P ks _).2 ⟨hll, fun j hj hj' => hf j hj hj' (by omega)⟩]; exact ⟨rfl, rfl, rfl⟩)
theorem A5Q (br : Nat) (pb : Option Addr) (nb cb : Nat) (bs : List UInt8) (hnb : nb ≤ 2000) : ∀ (t : Ty) (p : Nat) (G : IM) (cells : List Value), E4 t → B5 G t cells → Sl G pb nb cb 1 (N9 bs) → p + (J8 t).toNat + 1 < 1099511627776 →
  Fn Tryz.prog 207 [.pointer (some ⟨br, 0, none⟩), .agg ⟨cells⟩] [rd br pb nb cb p] G
   (Y7 br pb nb cb p ((J8 t).toNat + 1) (fun G' v => ∃ u cells, v = .agg ⟨cells⟩ ∧ B5 G' u cells ∧ E4 u ∧ J8 u ≤ J8 t ∧ ∀ n, Q6 n t → Q6 n u)) := by
 refine Ty.ind fun k ks ih p G cells ha hr hb hp => ?_
 have hkid := ha.kid
 have hnn := A1R ks
 have hz : J8 (.mk k ks) = ks.length + O6 ks := by rw [J8]
 rw [hz] at hp ⊢
 obtain ⟨q, c, es, rfl, hk, hsl, hkl⟩ := hr.open
 simp only [Ty.k, Ty.ks] at hk hsl hkl ⊢
 have hn := hsl.le
 have hl2 := ha.two
 refine B3 Tryz.func207 rfl Tryz.ntmps207 Tryz.results207 rfl ?_
 intro w0
 refine tS (tR ?_)
 refine sE (C0 rfl rfl) rfl (fun b3 => ?_)
 refine sE (A7 rfl) rfl (fun b4 => ?_)
 refine sD (nS (tS (tS (tR (sQ (qM rfl) rfl ?_)))))
 (refine H4 rfl (W3 _ br pb nb cb p bs _ hb hnb (by omega)) (Pk.perm (by repeat (first | exact Pk.here | apply Pk.there))) rfl rfl (fun v11 G11 outs11 hle11 hh => ?_); obtain ⟨rfl, rfl, j11, rfl, hj11, hk11⟩ := hh; have hm := hle11)
 replace hb := hb.mono hle11
 replace hr := hr.mono hle11
 replace hsl := hsl.mono hle11
 replace hkl := hkl.mono hle11
 refine sB (qE rfl rfl) rfl rfl (fun h12 => ?_) (fun h12 => ?_)
 refine sD (nS (qT rfl (tS (tR ?_))))
 refine I5 rfl ((A1e _)) rfl rfl ?_
 refine F4 ?_
 refine sD (nS (tT (rS ?_)))
 refine F8 (outs := [rd br pb nb cb (p + 1)]) (rC rfl (A1 rfl rfl)) (by repeat (first | exact A0.nil | refine A0.cons Pk.here ?_ | refine A0.cons (Pk.there Pk.here) ?_ | refine A0.cons (Pk.there (Pk.there Pk.here)) ?_ | apply A0.drop)) ?_
 (exact ⟨p + 1, by omega, by omega, rfl, N4, _, rfl, A0A _, A3q, by rw [A5L]; omega, fun n _ => A7A n⟩)
 refine I7 ?_
 refine sE (A7 rfl) rfl (fun b36 => ?_)
 refine F4 ?_
 refine sD (nS (tS (tS (tR (sQ (qA rfl) rfl (sD (nS ?_)))))))
 refine B7 ?_
 (refine U5 25 2 ?_; refine L3 (fun (x : Nat × Option Addr × Nat × List Ty × List (List Value) × Nat × IM) => ⟨[(6, .int .i64 x.1), (5, .pointer (some ⟨b36, 0, none⟩)), (4, .pointer (some ⟨b4, 0, none⟩)), (0, .pointer (some ⟨br, 0, none⟩)), (3, .pointer (some ⟨b3, 0, none⟩))], [.blk b36 [.int .i64 k, .slice x.2.1 x.1 x.2.2.1], .slc x.2.1 x.2.2.1 25 2 x.1 x.2.2.2.2.1.flatten, rd br pb nb cb x.2.2.2.2.2.1, .blk b4 [.int .i64 0, .slice none 0 0], .blk b3 [.int .i64 k, .slice q ks.length c]], x.2.2.2.2.2.2⟩) (fun x => x.1 ≤ ks.length ∧ B6 G11 x.2.2.2.2.2.2 ∧ x.2.2.2.1.length = x.1 ∧ E6 x.2.2.2.2.2.2 x.2.2.2.1 x.2.2.2.2.1 ∧ (∀ u ∈ x.2.2.2.1, E4 u) ∧ (∀ n, Q6 n (.mk k ks) → ∀ u ∈ x.2.2.2.1, Q6 (n - 1) u) ∧ O6 x.2.2.2.1 ≤ O6 (ks.take x.1) ∧ p + 1 ≤ x.2.2.2.2.2.1 ∧ (x.2.2.2.2.2.1 : Int) ≤ p + 1 + x.1 + O6 (ks.take x.1)) (fun x => ks.length - x.1) (0, none, 0, [], [], p + 1, G11) ?_ ?_ ?_)
 (simp only [I6]; exact D3)
 (exact ⟨by simp, B6.refl _, rfl, by simp [E6], by simp, by simp, by simp [O6], by dsimp only; omega, by simp [O6]⟩)
 (rintro ⟨i, pn, cn, us, es', p', Gi⟩ ⟨hi, hle, hlu, hst, hau, hhu, hsu, hp1, hp2⟩; simp only [] at hi hle hlu hst hau hhu hsu hp1 hp2 ⊢; replace hsl := hsl.mono hle; replace hkl := hkl.mono hle; have htk := A7j ks i)
 refine C4 ?_
 refine sB (J9 rfl rfl) rfl rfl (fun h58 => ?_) (fun h58 => ?_)
 refine sD (nS (qT rfl (tK (nS (tS ?_)))))
 refine B7 ?_
 (obtain ⟨b, o, q0, d0, hp0, hat0, hre0, hg0⟩ := hsl.kidTy hkl (i := i) (by omega) (by omega); subst hp0; have e1 := B1h (ks := ks) (i := i) (by omega); have e2 := A7j ks (i + 1); have e3 := A0X ks[i]; have hih := ih ks[i] (List.getElem_mem (by omega)) p' Gi _ (hkid _ (List.getElem_mem (by omega))) hre0 (hb.mono hle) (by omega); refine D5 D6 rfl ?_)
 refine I3 (i := 0) (l' := [tt,ff,ff,ff,ff,ff,ff,ff,ff,ff,ff,ff,ff]) rfl D1 (B0 rfl) rfl (by kernel_rfl) rfl rfl ?_
 refine aL 1 rfl (B9 rfl rfl) rfl ?_
 refine aP 2 rfl (qM rfl) rfl ?_
 refine aP 3 rfl (B0 rfl) rfl ?_
 refine aL 4 rfl (B9 rfl rfl) rfl ?_
 refine aP 5 rfl (qM rfl) rfl ?_
 refine aP 6 rfl (B2 rfl rfl rfl (by omega)) rfl ?_
 refine aL 7 rfl (A3 rfl rfl (hat0 _) rfl) rfl ?_
 refine A2 8 ?_
 (refine X8 (l' := [tt,tt,tt,tt,tt,tt,tt,tt,tt,ff,ff,ff,ff]) rfl rfl hih (Pk.perm (by repeat (first | exact Pk.here | apply Pk.there))) rfl rfl rfl (by repeat (first | exact A5.nil | apply A5.dep (by decide +kernel) | apply A5.blk (by decide +kernel) (by repeat (first | exact Pk.here | apply Pk.there)) (by repeat first | exact mH | apply mT) | apply A5.im (by decide +kernel) hg0 (by repeat first | exact mH | apply mT))) (fun v G3 outs hle3 hh => ?_); obtain ⟨p3, hp31, hp32, rfl, u, cells3, rfl, hru, hua, hus, huh⟩ := hh; obtain ⟨q3, c3, es3, rfl, _⟩ := hru.open)
 refine A2 9 ?_
 (refine E1 rfl (C8 rfl rfl rfl (by omega) (by unfold maxLen; omega) rfl) rfl rfl ?_; rintro _ ⟨b78, rfl⟩)
 refine A2 10 ?_
 refine Q5 rfl rfl rfl rfl rfl rfl (fun _ _ => by repeat (first | exact Sw.here | apply Sw.there)) (P5 (by repeat first | exact mH | apply mT)) rfl (by simp [Value.oneCell']) (by unfold maxLen; omega) (by omega) rfl rfl (by repeat (first | exact A5.nil | apply A5.dep (by decide +kernel) | apply A5.blk (by decide +kernel) (by repeat (first | exact Pk.here | apply Pk.there)) (by repeat first | exact mH | apply mT))) (fun pn' cn' => ?_)
 refine aP 11 rfl (B0 rfl) rfl ?_
 refine A2 12 ?_
 refine Q4 rfl rfl rfl rfl rfl rfl rfl rfl (by kernel_rfl) (by repeat first | exact Sw.here | apply Sw.there) (by rfl) ?_
 refine C2 (N3 (nS (tR (sQ (qM rfl) rfl ?_))))
 refine sP (K4 rfl rfl (by omega) (by omega)) rfl rfl ?_
 refine sQ (qA rfl) rfl (sD ?_)
 refine K7 (i + 1, pn', cn', us ++ [u], es' ++ [[.int .i64 u.k, .slice q3 u.ks.length c3]], p3, G3) ?_ ?_ ?_
 (simp only [I6]; exact D3)
 (dsimp only; exact ⟨by omega, hle.trans hle3, by simp [hlu], E6.snoc (hst.mono hle3) hru, A2M hau hua, fun n hn => A2M (hhu n hn) (huh _ (A5B hn (List.getElem_mem _))), by rw [A4q]; omega, by omega, by omega⟩)
 (show ks.length - (i + 1) < ks.length - i; omega)
 refine L5 ?_
 (refine H5 (by repeat (first | exact Pk.here | apply Pk.there)) (fun G5 hle5 hsl5 hno5 => ?_); obtain rfl : i = ks.length := (by omega))
 refine tT ?_
 refine F8 (outs := [rd br pb nb cb p']) (rC rfl (A1 rfl rfl)) (by repeat (first | exact A0.nil | refine A0.cons Pk.here ?_ | refine A0.cons (Pk.there Pk.here) ?_ | refine A0.cons (Pk.there (Pk.there Pk.here)) ?_ | apply A0.drop)) ?_
 (rw [List.take_length] at hsu hp2; refine ⟨p', by omega, by omega, rfl, .mk k us, _, rfl, (hst.mono hle5).ty hlu hsl5 hk, A76 ha hlu hau, by rw [J8]; omega, fun n hn => B1G hn hlu (hhu n hn)⟩)
theorem At.sub {hp : List A4} {G : IM} {b o j : Nat} {vs : List Value} {v : Value} (h : At hp G b o vs) (hj : vs[j]? = some v) : At hp G b (o + j) [v] := by
 have key : ∀ {cs : List Value}, (∀ i u, vs[i]? = some u → cs[o + i]? = some u) → ∀ i u, [v][i]? = some u → cs[o + j + i]? = some u := by
  intro cs hc i u hu
  cases i with
  | zero => simp at hu; subst hu; simpa using hc j v hj
  | succ i => simp at hu
 rcases h with ⟨cs, hm, hv⟩ | ⟨n, c, el, sz, cs, hm, hv⟩ | ⟨full, hg, hv⟩
 ·exact .inl ⟨cs, hm, key hv⟩
 ·exact .inr (.inl ⟨n, c, el, sz, cs, hm, key hv⟩)
 ·exact .inr (.inr ⟨full, hg, key hv⟩)
def HTm (G : IM) (t : Tm) (k : Int) (cells : List Value) : Prop := ∃ pt ct et pf cf ef p c es,
 cells = [.int .i64 t.k, .string t.nm, .int .i64 t.num, .int .i64 t.ty.k, .slice pt t.ty.ks.length ct, .int .i64 t.fr.k, .slice pf t.fr.ks.length cf, .int .i64 t.lb, .slice p t.ks.length c] ∧
 C9 G pt t.ty.ks.length ct 2 et ∧ E6 G (A1Q t.ty.ks k) et ∧ C9 G pf t.fr.ks.length cf 2 ef ∧ E6 G (A1Q t.fr.ks (k + Z6 t.ty.ks)) ef ∧ C9 G p t.ks.length c 9 es ∧ D2 G (A4f t.ks (k + Z6 t.ty.ks + Z6 t.fr.ks)) es
theorem B15 {nm : ByteArray} (h : X6 nm = true) : nm.size = 1 := by
 unfold X6 at h
 simp at h
 omega
theorem A77 {k : Int} {nm : ByteArray} {num : Int} {ty fr : Ty} {lb : Int} {n : Nat} (h : U8 k nm num ty fr lb n = true) : nm.size ≤ 1 := by
 obtain ⟨_, h2, h3, _⟩ := V3.1 h
 by_cases hk : k = 1 ∨ k = 5
 ·rw [B15 (h2 hk)]; omega
 ·rw [h3 hk]; decide
def RBd (G : IM) (e : List Value) : Prop := ∃ nm t q d, e = [.string nm, .int .i64 t.k, .slice q t.ks.length d] ∧ B5 G t [.int .i64 t.k, .slice q t.ks.length d] ∧ E4 t ∧ J8 t ≤ 30 ∧ nm.size ≤ 1
def W4 (G : IM) (p : Option Addr) (n c : Nat) : Prop := ∃ es, es.length = n ∧ C9 G p n c 3 es ∧ ∀ e ∈ es, RBd G e
theorem RBd.mono {G G' : IM} {e : List Value} (h : RBd G e) (hg : B6 G G') : RBd G' e := by
 obtain ⟨nm, t, q, d, h1, h2, h3, h4⟩ := h
 exact ⟨nm, t, q, d, h1, h2.mono hg, h3, h4⟩
theorem W4.mono {G G' : IM} {p : Option Addr} {n c : Nat} (h : W4 G p n c) (hg : B6 G G') : W4 G' p n c := by
 obtain ⟨es, h1, h2, h3⟩ := h
 exact ⟨es, h1, h2.mono hg, fun e he => (h3 e he).mono hg⟩
theorem W4.nil (G : IM) : W4 G none 0 0 := ⟨[], rfl, C9.nil _ _, by simp⟩
theorem At.drop {hp : List A4} {G : IM} {b o : Nat} {v : Value} {vs : List Value} (h : At hp G b o (v :: vs)) : At hp G b (o + 1) vs := by
 have key : ∀ {cs : List Value}, (∀ i u, (v :: vs)[i]? = some u → cs[o + i]? = some u) → ∀ i u, vs[i]? = some u → cs[o + 1 + i]? = some u := by
  intro cs hc i u hu
  have := hc (i + 1) u (by simpa using hu)
  rwa [show o + 1 + i = o + (i + 1) by omega]
 rcases h with ⟨cs, hm, hv⟩ | ⟨n, c, el, sz, cs, hm, hv⟩ | ⟨full, hg, hv⟩
 ·exact .inl ⟨cs, hm, key hv⟩
 ·exact .inr (.inl ⟨n, c, el, sz, cs, hm, key hv⟩)
 ·exact .inr (.inr ⟨full, hg, key hv⟩)
theorem W4.get {G : IM} {p : Option Addr} {n c : Nat} (h : W4 G p n c) {i : Nat} (hi : i < n) :
  ∃ b o nm t q d, p = some ⟨b, o, none⟩ ∧ (∀ hp, At hp G b (o + i * 3) [.string nm, .int .i64 t.k, .slice q t.ks.length d]) ∧ B5 G t [.int .i64 t.k, .slice q t.ks.length d] ∧ E4 t ∧ J8 t ≤ 30 ∧ G b ≠ none ∧ nm.size ≤ 1 := by
 obtain ⟨es, h1, h2, h3⟩ := h
 obtain ⟨e, b, o, he, rfl, hl, _, hat, hgb⟩ := h2.get (i := i) (by omega)
 obtain ⟨nm, t, q, d, rfl, h5, h6, h7, h8⟩ := h3 e (List.mem_of_getElem? he)
 exact ⟨b, o, nm, t, q, d, rfl, hat, h5, h6, h7, hgb, h8⟩
theorem W4.le {G : IM} {p : Option Addr} {n c : Nat} (h : W4 G p n c) : n ≤ 9223372036854775807 := by
 obtain ⟨es, h1, h2, h3⟩ := h
 exact h2.le
theorem B16 (G : IM) (p : Option Addr) (n c : Nat) (nm : ByteArray) (hx : W4 G p n c) :
  Fn Tryz.prog 197 [.slice p n c, .string nm] [] G (TyB 30 G) := by
 have hn := hx.le
 refine B3 Tryz.func197 rfl Tryz.ntmps197 Tryz.results197 rfl ?_
 intro w0
 refine tS (tR ?_)
 refine sE (A7 rfl) rfl (fun b3 => ?_)
 refine D8 ?_
 refine sP (P0 rfl rfl (by omega) (by omega)) rfl rfl ?_
 refine sQ (qA rfl) rfl (sD (nS ?_))
 refine B7 ?_
 (refine L3 (fun (i : Nat) => ⟨[(6, .int .i64 ((i : Int) - 1)), (0, .slice p n c), (1, .string nm), (4, .pointer (some ⟨b3, 0, none⟩))], [.blk b3 [.int .i64 0, .slice none 0 0]], G⟩) (fun i => i ≤ n) (fun i => i) n ?_ ?_ ?_)
 exact D3
 exact Nat.le_refl _
 (rintro i hi)
 refine tS (tS (tR (sQ (qM rfl) rfl ?_)))
 refine sB (A0R rfl rfl) rfl rfl (fun h25 => ?_) (fun h25 => ?_)
 refine sD (nS (qT rfl (tK (nS (tS ?_)))))
 (show I2 _ _ (.block 1 _) _ _; obtain ⟨j, rfl⟩ : ∃ j, i = j + 1 := ⟨i - 1, by omega⟩; rw [show ((j + 1 : Nat) : Int) - 1 = (j : Int) from by omega]; obtain ⟨b, o, nm1, t1, q1, d1, rfl, hat, hr1, ha1, hs1, hgb, hns1⟩ := hx.get (i := j) (by omega); refine B7 ?_)
 refine tS (tR (sQ (qM rfl) rfl (sQ (qM rfl) rfl ?_)))
 refine sP (B2 rfl rfl rfl (by omega)) rfl rfl ?_
 refine sQ (qF rfl) rfl ?_
 refine sL (A0h rfl rfl ((hat _).sub (j := 0) rfl)) rfl rfl ?_
 refine sQ (qM rfl) rfl ?_
 refine sB (A1v rfl rfl) rfl rfl (fun h41 => ?_) (fun h41 => ?_)
 refine C4 ?_
 refine sP (B2 rfl rfl rfl (by omega)) rfl rfl ?_
 refine sQ (qF rfl) rfl ?_
 refine sL (A3 rfl rfl (hat _).drop rfl) rfl rfl ?_
 (refine E5 rfl (V4 _ G _ ha1.small hr1) rfl rfl (fun v G1 hle1 hh => ?_); obtain ⟨S6, F1, rfl, hs1', hn1⟩ := hh; obtain ⟨p1, c1, rfl, _⟩ := hs1'.open; have hrr := hs1'.R.mono (C1.le G1 G))
 refine I7 ?_
 refine I4 (rC rfl (A1 rfl rfl)) (rT rfl) ?_
 (exact ⟨rfl, _, _, _, rfl, hrr, ha1, hs1⟩)
 refine D8 ?_
 refine sP (P0 rfl rfl (by omega) (by omega)) rfl rfl ?_
 refine sQ (qA rfl) rfl (sD ?_)
 refine K7 j ?_ ?_ ?_
 exact D3
 (show _ ≤ n; omega)
 exact Nat.le_refl _
 refine I8 ?_
 refine I4 (rC rfl (A1 rfl rfl)) (rT rfl) ?_
 (exact ⟨rfl, _, _, _, rfl, N6 _ ⟨by omega, by omega⟩, S8 (by omega) (by omega), by rw [A74]; omega⟩)
theorem A5R {G : IM} {nm : ByteArray} {k : Int} {ks : List Ty} {q : Option Addr} {d : Nat} (hr : B5 G (.mk k ks) [.int .i64 k, .slice q ks.length d]) (ha : E4 (.mk k ks)) (hs : J8 (.mk k ks) ≤ 30) (hn : nm.size ≤ 1) : RBd G [.string nm, .int .i64 k, .slice q ks.length d] := ⟨nm, .mk k ks, q, d, rfl, hr, ha, hs, hn⟩
theorem W4.snoc {G G' : IM} {p p' : Option Addr} {n c c' : Nat} {es : List (List Value)} {e : List Value} (h1 : es.length = n) (h2 : C9 G p n c 3 es) (h3 : ∀ e ∈ es, RBd G e) (hg : B6 G G') (he : RBd G' e) (hs : Sl G' p' (n + 1) c' 3 (es.flatten ++ e)) : W4 G' p' (n + 1) c' := by
 refine ⟨es ++ [e], by simp [h1], C9.of (by simpa using hs) (by simp [h1]) ?_ ?_, ?_⟩
 ·intro x hx
  rcases List.mem_append.1 hx with hx | hx
  ·obtain ⟨_, _, _, _, rfl, _⟩ := h3 x hx; rfl
  ·obtain ⟨_, _, _, _, rfl, _⟩ := he
   simp only [List.mem_singleton] at hx; subst hx; rfl
 ·intro x hx
  rcases List.mem_append.1 hx with hx | hx
  ·obtain ⟨_, _, _, _, rfl, _⟩ := h3 x hx; simp [Value.oneCell']
  ·obtain ⟨_, _, _, _, rfl, _⟩ := he
   simp only [List.mem_singleton] at hx; subst hx; simp [Value.oneCell']
 ·intro x hx
  rcases List.mem_append.1 hx with hx | hx
  ·exact (h3 x hx).mono hg
  ·simp only [List.mem_singleton] at hx; subst hx; exact he
theorem B17 (G : IM) (p : Option Addr) (n c : Nat) (nm : ByteArray) (t : Ty) (cells : List Value) (hx : W4 G p n c) (hn : n ≤ 1000) (hr : B5 G t cells) (ha : E4 t) (hs : J8 t ≤ 30) (hnm : nm.size ≤ 1) :
  Fn Tryz.prog 146 [.slice p n c, .string nm, .agg ⟨cells⟩] [] G (K5 fun G' v => ∃ p' c', v = .slice p' (n + 1) c' ∧ W4 G' p' (n + 1) c') := by
 obtain ⟨k, ks⟩ := t
 obtain ⟨q, d, es0, rfl, _⟩ := hr.open
 simp only [Ty.k, Ty.ks] at hr ⊢
 obtain ⟨es, h1, h2, h3⟩ := hx
 have hSl : Sl G p n c 3 es.flatten := h2.1
 have h1c : ∀ u ∈ es.flatten, u.oneCell' = true := by
  intro u hu
  obtain ⟨e, he, hue⟩ := List.mem_flatten.1 hu
  obtain ⟨_, _, _, _, rfl, _⟩ := h3 e he
  simp only [List.mem_cons, List.not_mem_nil, or_false] at hue
  rcases hue with rfl | rfl | rfl <;> rfl
 refine B3 Tryz.func146 rfl Tryz.ntmps146 Tryz.results146 rfl ?_
 intro w0
 refine tS (tR ?_)
 refine sE (C0 rfl rfl) rfl (fun b3 => ?_)
 refine sQ (qA rfl) rfl (sD (nS (tS ?_)))
 refine D5 D6 rfl ?_
 refine I3 (i := 1) (l' := [ff,tt,ff,ff,ff,ff,ff,ff,ff]) rfl D1 (qM rfl) rfl (by kernel_rfl) rfl rfl ?_
 refine aP 3 rfl (qM rfl) rfl ?_
 refine aL 4 rfl (A1 rfl rfl) rfl ?_
 refine aP 5 rfl (T3 rfl rfl) rfl ?_
 refine T2 (j := 0) (j' := 6) (by kernel_rfl) ?_ ?_
 (refine E1 rfl (C8 rfl rfl rfl (by omega) (by unfold maxLen; omega) rfl) rfl rfl ?_; rintro _ ⟨b14, rfl⟩)
 refine T2 (j := 2) (j' := 6) (by kernel_rfl) ?_ ?_
 (refine A2L rfl rfl rfl rfl rfl rfl (fun _ _ => by repeat (first | exact Sw.here | apply Sw.there)) hSl h1c (Nat.zero_le _) (by unfold maxLen; omega) (by omega) rfl rfl (by repeat (first | exact A5.nil | apply A5.dep (by decide +kernel) | apply A5.blk (by decide +kernel) (by repeat (first | exact Pk.here | apply Pk.there)) (by repeat first | exact mH | apply mT))) (fun p4 c4 => ?_); simp only [Nat.zero_add, List.nil_append])
 refine A2 6 ?_
 (refine E1 rfl (C8 rfl rfl rfl (by omega) (by unfold maxLen; omega) rfl) rfl rfl ?_; rintro _ ⟨b18, rfl⟩)
 refine A2 7 ?_
 (refine Q5 rfl rfl rfl rfl rfl rfl (fun _ _ => by repeat (first | exact Sw.here | apply Sw.there)) (P5 (by repeat first | exact mH | apply mT)) rfl (by simp [Value.oneCell']) (by unfold maxLen; omega) (by omega) rfl rfl (by repeat (first | exact A5.nil | apply A5.dep (by decide +kernel) | apply A5.blk (by decide +kernel) (by repeat (first | exact Pk.here | apply Pk.there)) (by repeat first | exact mH | apply mT))) (fun p5 c5 => ?_))
 refine aP 8 rfl (qA rfl) rfl ?_
 refine C2 (nS ?_)
 (refine H5 (cs := es.flatten ++ [.string nm, .int .i64 k, .slice q ks.length d]) (by repeat (first | exact Pk.here | apply Pk.there)) (fun G5 hle5 hsl5 hno5 => ?_))
 refine tT (E0 (rT rfl) ?_)
 (exact ⟨rfl, _, _, rfl, W4.snoc h1 h2 h3 hle5 (A5R (hr.mono hle5) ha hs hnm) hsl5⟩)
 (refine E1 rfl (C8 rfl rfl rfl (by omega) (by unfold maxLen; omega) rfl) rfl rfl ?_; rintro _ ⟨b28, rfl⟩)
 refine A2 2 ?_
 (refine A2L rfl rfl rfl rfl rfl rfl (fun _ _ => by repeat (first | exact Sw.here | apply Sw.there)) hSl h1c (Nat.zero_le _) (by unfold maxLen; omega) (by omega) rfl rfl (by repeat (first | exact A5.nil | apply A5.dep (by decide +kernel) | apply A5.blk (by decide +kernel) (by repeat (first | exact Pk.here | apply Pk.there)) (by repeat first | exact mH | apply mT))) (fun p4 c4 => ?_); simp only [Nat.zero_add, List.nil_append])
 refine A2 7 ?_
 (refine Q5 rfl rfl rfl rfl rfl rfl (fun _ _ => by repeat (first | exact Sw.here | apply Sw.there)) (P5 (by repeat first | exact mH | apply mT)) rfl (by simp [Value.oneCell']) (by unfold maxLen; omega) (by omega) rfl rfl (by repeat (first | exact A5.nil | apply A5.dep (by decide +kernel) | apply A5.blk (by decide +kernel) (by repeat (first | exact Pk.here | apply Pk.there)) (by repeat first | exact mH | apply mT))) (fun p5 c5 => ?_))
 refine aP 8 rfl (qA rfl) rfl ?_
 refine C2 (nS ?_)
 (refine H5 (cs := es.flatten ++ [.string nm, .int .i64 k, .slice q ks.length d]) (by repeat (first | exact Pk.here | apply Pk.there)) (fun G5 hle5 hsl5 hno5 => ?_))
 refine tT (E0 (rT rfl) ?_)
 (exact ⟨rfl, _, _, rfl, W4.snoc h1 h2 h3 hle5 (A5R (hr.mono hle5) ha hs hnm) hsl5⟩)
 (refine E1 rfl (C8 rfl rfl rfl (by omega) (by unfold maxLen; omega) rfl) rfl rfl ?_; rintro _ ⟨b40, rfl⟩)
 refine A2 0 ?_
 (refine E1 rfl (C8 rfl rfl rfl (by omega) (by unfold maxLen; omega) rfl) rfl rfl ?_; rintro _ ⟨b42, rfl⟩)
 refine A2 2 ?_
 (refine A2L rfl rfl rfl rfl rfl rfl (fun _ _ => by repeat (first | exact Sw.here | apply Sw.there)) hSl h1c (Nat.zero_le _) (by unfold maxLen; omega) (by omega) rfl rfl (by repeat (first | exact A5.nil | apply A5.dep (by decide +kernel) | apply A5.blk (by decide +kernel) (by repeat (first | exact Pk.here | apply Pk.there)) (by repeat first | exact mH | apply mT))) (fun p4 c4 => ?_); simp only [Nat.zero_add, List.nil_append])
 refine A2 7 ?_
 (refine Q5 rfl rfl rfl rfl rfl rfl (fun _ _ => by repeat (first | exact Sw.here | apply Sw.there)) (P5 (by repeat first | exact mH | apply mT)) rfl (by simp [Value.oneCell']) (by unfold maxLen; omega) (by omega) rfl rfl (by repeat (first | exact A5.nil | apply A5.dep (by decide +kernel) | apply A5.blk (by decide +kernel) (by repeat (first | exact Pk.here | apply Pk.there)) (by repeat first | exact mH | apply mT))) (fun p5 c5 => ?_))
 refine aP 8 rfl (qA rfl) rfl ?_
 refine C2 (nS ?_)
 (refine H5 (cs := es.flatten ++ [.string nm, .int .i64 k, .slice q ks.length d]) (by repeat (first | exact Pk.here | apply Pk.there)) (fun G5 hle5 hsl5 hno5 => ?_))
 refine tT (E0 (rT rfl) ?_)
 (exact ⟨rfl, _, _, rfl, W4.snoc h1 h2 h3 hle5 (A5R (hr.mono hle5) ha hs hnm) hsl5⟩)
theorem B18 (G : IM) : Fn Tryz.prog 193 [.slice none 0 0] [] G (H6 (.bool true) G) := by
 refine B3 Tryz.func193 rfl Tryz.ntmps193 Tryz.results193 rfl ?_
 intro w0
 refine J2 ?_
 refine B7 ?_
 (refine L3 (fun (_ : Nat) => ⟨[(3, .int .i64 0), (0, .slice none 0 0)], [], G⟩) (fun _ => True) (fun i => i) 0 ?_ ?_ ?_)
 ·exact D3
 ·trivial
 ·(rintro i _)
  refine J7 ?_
  refine sP (A31 rfl rfl (by omega)) rfl rfl ?_
  refine M6 ?_
  refine sP (A2E rfl rfl (by omega)) rfl rfl ?_
  refine sQ (qA rfl) rfl (sD (nS (tT (E0 (rT rfl) ?_))))
  trivial
theorem A4v {k : Int} {n : Nat} (h : C5 k = n) : (k = 6 ∨ k = 7 ∨ k = 8 ∨ k = 10 → n = 2) ∧ (k = 9 → n = 3) ∧ (k = 5 ∨ k = 11 ∨ k = 12 ∨ k = 13 → n = 1) := by
 refine ⟨?_, ?_, ?_⟩
 ·rintro (rfl | rfl | rfl | rfl)
  ·rw [show C5 6 = 2 from rfl] at h; omega
  ·rw [show C5 7 = 2 from rfl] at h; omega
  ·rw [show C5 8 = 2 from rfl] at h; omega
  ·rw [show C5 10 = 2 from rfl] at h; omega
 ·rintro rfl
  rw [show C5 9 = 3 from rfl] at h; omega
 ·rintro (rfl | rfl | rfl | rfl)
  ·rw [show C5 5 = 1 from rfl] at h; omega
  ·rw [show C5 11 = 1 from rfl] at h; omega
  ·rw [show C5 12 = 1 from rfl] at h; omega
  ·rw [show C5 13 = 1 from rfl] at h; omega
theorem B19 : ∀ (t : Ty) (d : Int), K0 t d = true → E4 t := by
 refine Ty.ind fun k ks ih d h => ?_
 obtain ⟨h1, h2⟩ := A3r h
 rw [E4]
 refine ⟨fun hk => ?_, fun h4 h5 => ?_, A3p.2 fun t ht => ?_⟩
 ·have := (M9 k).2.1 hk
  omega
 ·have h5' := M9 k
  have h6 := h5'.1
  have h7 := h5'.2.2
  omega
 ·obtain ⟨i, hi, rfl⟩ := List.getElem_of_mem ht
  exact ih _ ht _ (h2 i hi)
theorem B2a : ∀ (n : Nat) (t : Ty) (d : Int), K0 t d = true → 4 - d ≤ n → Q6 n t := by
 intro n
 induction n with
 | zero =>
  rintro ⟨k, ks⟩ d h hd
  obtain ⟨h1, h2⟩ := A3r h
  have hks : ks.length = 0 := by
   rcases Nat.eq_zero_or_pos ks.length with h0 | h0
   ·exact h0
   ·have h3 := h2 0 h0
    obtain ⟨k', ks'⟩ : Ty := ks[0]
    have h4 : ∀ (u : Ty) (d : Int), K0 u d = true → d ≤ 4 := by
     rintro ⟨a, b⟩ d hu
     rw [K0] at hu
     simp only [Bool.and_eq_true, decide_eq_true_eq] at hu
     exact hu.1.1
    have := h4 _ _ h3
    omega
  have h5 := M9 k
  have h6 := h5.2.1
  exact ⟨List.length_eq_zero_iff.1 hks, by intro h; have := h6 (.inl h); omega, by intro h; have := h6 (.inr h); omega⟩
 | succ n ih =>
  rintro ⟨k, ks⟩ d h hd
  have ha := B19 _ _ h
  rw [E4] at ha
  obtain ⟨h1, h2⟩ := A3r h
  refine ⟨ha.1, ha.2.1, fun t ht => ?_⟩
  obtain ⟨i, hi, rfl⟩ := List.getElem_of_mem ht
  exact ih _ _ (h2 i hi) (by omega)
theorem A4w {t : Ty} (h : E8 t = true) : E4 t ∧ J8 t ≤ 30 := by
 have h1 := B2a 3 t 1 h (by omega)
 have h2 := A4k h1
 have h3 : ((2 ^ (3 + 1) - 2 : Nat) : Int) = 14 := rfl
 exact ⟨h1.ar, by omega⟩
theorem B2b {t : Ty} (h : X5 t = true) : E4 t ∧ J8 t ≤ 30 := by
 rw [A1f h]
 exact ⟨S8 (by decide) (by decide), by rw [A8, A74]; omega⟩
theorem A3z {k : Int} {nm : ByteArray} {num : Int} {ty fr : Ty} {lb : Int} {n : Nat} (h : U8 k nm num ty fr lb n = true) : E4 ty ∧ J8 ty ≤ 30 := by
 have hn := V3.1 h
 by_cases hk : k = 5 ∨ k = 13 ∨ k = 14
 ·exact A4w (hn.2.2.2.2.2.1 hk)
 ·exact B2b (hn.2.2.2.2.2.2.1 hk)
theorem A6.of9 {G : IM} {k : Int} {nm : ByteArray} {num tk fk : Int} {tks fks : List Ty} {lb : Int} {ks : List Tm} {q1 q2 q3 : Option Addr} {c1 c2 c3 : Nat} {es : List (List Value)} (hk : E3 k) (hnum : E3 num) (hlb : E3 lb) (hty : B5 G (.mk tk tks) [.int .i64 tk, .slice q1 tks.length c1])
  (hfr : B5 G (.mk fk fks) [.int .i64 fk, .slice q2 fks.length c2]) (hsl : C9 G q3 ks.length c3 9 es) (hkl : D2 G ks es) :
  A6 G (.mk k nm num (.mk tk tks) (.mk fk fks) lb ks) [.int .i64 k, .string nm, .int .i64 num, .int .i64 tk, .slice q1 tks.length c1, .int .i64 fk, .slice q2 fks.length c2, .int .i64 lb, .slice q3 ks.length c3] := by
 simp only [A6]
 exact ⟨_, _, q3, c3, es, rfl, hk, hnum, hlb, hty, hfr, hsl, hkl⟩
theorem A1F {k k' : Int} {nm nm' : ByteArray} {num num' : Int} {ty fr ty' fr' : Ty} {lb lb' : Int} {ks : List Tm} (h : (Tm.mk k nm num ty fr lb ks).small) (h1 : nm'.size ≤ 4294967296) (h2 : ty'.small) (h3 : fr'.small) : (Tm.mk k' nm' num' ty' fr' lb' ks).small := by
 simp only [Tm.small] at h ⊢
 exact ⟨h1, h2, h3, h.2.2.2⟩
def Tm.fit (t : Tm) (N : Nat) : Prop := t.small ∧ C6 t ≤ N
theorem B2c (br : Nat) (pb : Option Addr) (nb cb : Nat) (bs : List UInt8) (hnb : nb ≤ 2000) (p : Nat) (G : IM) (hb : Sl G pb nb cb 1 (N9 bs)) (hp : p + 100 < 1099511627776) (t : Tm) (cells : List Value) (N : Nat) (hfit : t.fit N) (hr : A6 G t cells) :
  Fn Tryz.prog 111 [.pointer (some ⟨br, 0, none⟩), .agg ⟨cells⟩] [rd br pb nb cb p] G
   (Y7 br pb nb cb p 40 (fun G' v => ∃ t cells, v = .agg ⟨cells⟩ ∧ A6 G' t cells ∧ t.fit N)) := by
 have hl := hr.len
 have hone := hr.one
 obtain ⟨k, nm, num, ⟨tk, tks⟩, ⟨fk, fks⟩, lb, ks⟩ := t
 have hfit0 := hfit
 obtain ⟨hsm, hcn⟩ := hfit0
 replace hfit : (Tm.mk k nm num (.mk tk tks) (.mk fk fks) lb ks).small ∧ C6 (Tm.mk k nm num (.mk tk tks) (.mk fk fks) lb ks) ≤ N := hfit
 rw [show (Tm.mk k nm num (.mk tk tks) (.mk fk fks) lb ks).small = (nm.size ≤ 4294967296 ∧ (Ty.mk tk tks).small ∧ (Ty.mk fk fks).small ∧ ks.length ≤ 4294967296 ∧ Tm.smallL ks) from by rw [Tm.small]] at hfit
 refine B3 Tryz.func111 rfl Tryz.ntmps111 Tryz.results111 rfl ?_
 intro w0
 refine tS (tR ?_)
 refine sE (C0 rfl rfl) rfl (fun b3 => ?_)
 refine sE (A7 rfl) rfl (fun b4 => ?_)
 refine sD (nS (tS (tR ?_)))
 refine sL (A3 rfl rfl (A9 (by repeat first | exact mH | apply mT)) (by assumption)) rfl rfl ?_
 (refine E5 rfl (A3v _ G cells hsm hr) rfl rfl (fun v G1 hle1 hh => ?_); obtain ⟨cells1, F1, rfl, hs1, hn1⟩ := hh; have hr1 := hs1.R.mono (C1.le G1 G); obtain ⟨q1, c1, q2, c2, q3, c3, es, rfl, hk, hnum, hlb, hty, hfr, hsl, hkl⟩ := hr1.open9)
 refine sE (A7 rfl) rfl (fun b11 => ?_)
 refine F4 ?_
 refine sD (nS (tS (tS (tR (sQ (qM rfl) rfl ?_)))))
 (refine H4 rfl (W3 _ br pb nb cb p bs 50 (hb.mono hle1) hnb (by omega)) (Pk.perm (by repeat (first | exact Pk.here | apply Pk.there))) rfl rfl (fun v G2 outs hle2 hh => ?_); obtain ⟨rfl, rfl, j, rfl, hj0, hj1⟩ := hh; replace hb := hb.mono hle1)
 refine sD (nS ?_)
 (show I2 _ _ (.block 0 _) _ _; refine A0c (fun (x : List Value × Nat × IM) => ⟨[(5, .pointer (some ⟨b11, 0, none⟩)), (4, .pointer (some ⟨b4, 0, none⟩))], [.blk b11 x.1, .blk b4 [.int .i64 0, .string ⟨⟨[]⟩⟩, .int .i64 0, .int .i64 0, .slice none 0 0, .int .i64 0, .slice none 0 0, .int .i64 0, .slice none 0 0], rd br pb nb cb x.2.1], x.2.2⟩) (fun x => B6 G2 x.2.2 ∧ p ≤ x.2.1 ∧ x.2.1 ≤ p + 40 ∧ ∃ t, A6 x.2.2 t x.1 ∧ t.small ∧ C6 t = C6 (.mk k nm num (.mk tk tks) (.mk fk fks) lb ks)) ?_ ?_)
 refine B7 (tS (tR (sB (qE rfl rfl) rfl rfl (fun h26 => ?_) (fun h26 => ?_))))
 refine sQ (qA rfl) rfl (sD (nS (qT rfl (tR (sQ (qM rfl) rfl ?_)))))
 (refine L4 (C8 rfl rfl rfl (by omega) (by unfold maxLen; omega) rfl) rfl ?_; rintro _ ⟨b33, rfl⟩)
 (refine T8 (by repeat (first | exact Pk.here | apply Pk.there)) (fun G4 hle4 hsl4 _ => ?_); refine H4 rfl (X9 G4 br pb nb cb (p + 1) bs _ _ _ _ (hb.mono hle4) hnb (by omega) hsl4 (by decide)) (Pk.perm (by repeat (first | exact Pk.here | apply Pk.there))) rfl rfl (fun v G5 outs hle5 hh => ?_); obtain ⟨rfl, rfl, hv⟩ := hh; obtain ⟨k', rfl, hk'⟩ : ∃ k', v = .int .i64 k' ∧ E3 k' := (by simp only [List.mem_cons, List.not_mem_nil, or_false] at hv; rcases hv with rfl | rfl | rfl | rfl | rfl | rfl <;> exact ⟨_, rfl, by unfold E3; omega⟩))
 refine sQ (B0 rfl) rfl (F4 ?_)
 refine sD (N3 ?_)
 refine Q0 ([.int .i64 k', .string nm, .int .i64 num, .int .i64 tk, .slice q1 tks.length c1, .int .i64 fk, .slice q2 fks.length c2, .int .i64 lb, .slice q3 ks.length c3], p + 1 + 1, G5) (O2 (by repeat (first | exact E7.nil | refine E7.cons rfl ?_)) (by repeat (first | exact A0.refl | exact A0.nil | refine A0.cons (by repeat (first | exact Pk.here | apply Pk.there)) ?_ | apply A0.drop))) ?_
 (dsimp only; exact ⟨hle4, by omega, by omega, _, A6.of9 hk' hnum hlb (hty.mono hle4) (hfr.mono hle4) (hsl.mono hle4) (hkl.mono hle4), A1F hsm hfit.1.1 hfit.1.2.1 hfit.1.2.2.1, rfl⟩)
 refine sQ (qA rfl) rfl (sD (nS (cF rfl (tS (tR ?_)))))
 refine sB (qE rfl rfl) rfl rfl (fun h47 => ?_) (fun h47 => ?_)
 refine sQ (qA rfl) rfl (sD (nS (qT rfl (tR (sQ (qM rfl) rfl ?_)))))
 (refine L4 (C8 rfl rfl rfl (by omega) (by unfold maxLen; omega) rfl) rfl ?_; rintro _ ⟨b54, rfl⟩)
 (refine T8 (by repeat (first | exact Pk.here | apply Pk.there)) (fun G4 hle4 hsl4 _ => ?_); refine H4 rfl (A5K G4 br pb nb cb (p + 1) bs _ _ _ _ (hb.mono hle4) hnb (by omega) hsl4 (by decide)) (Pk.perm (by repeat (first | exact Pk.here | apply Pk.there))) rfl rfl (fun v G5 outs hle5 hh => ?_); obtain ⟨rfl, rfl, hv⟩ := hh; obtain ⟨nm', rfl, hnm'⟩ : ∃ nm', v = .string nm' ∧ nm'.size ≤ 2 := (by simp only [List.mem_cons, List.not_mem_nil, or_false] at hv; rcases hv with rfl | rfl | rfl | rfl <;> exact ⟨_, rfl, by decide⟩))
 refine sQ (B0 rfl) rfl (F4 ?_)
 refine sD (N3 ?_)
 refine Q0 ([.int .i64 k, .string nm', .int .i64 num, .int .i64 tk, .slice q1 tks.length c1, .int .i64 fk, .slice q2 fks.length c2, .int .i64 lb, .slice q3 ks.length c3], p + 1 + 1, G5) (O2 (by repeat (first | exact E7.nil | refine E7.cons rfl ?_)) (by repeat (first | exact A0.refl | exact A0.nil | refine A0.cons (by repeat (first | exact Pk.here | apply Pk.there)) ?_ | apply A0.drop))) ?_
 (dsimp only; exact ⟨hle4, by omega, by omega, _, A6.of9 hk hnum hlb (hty.mono hle4) (hfr.mono hle4) (hsl.mono hle4) (hkl.mono hle4), A1F hsm (by omega) hfit.1.2.1 hfit.1.2.2.1, rfl⟩)
 refine sQ (qA rfl) rfl (sD (nS (cF rfl (tS (tR ?_)))))
 refine sB (qE rfl rfl) rfl rfl (fun h68 => ?_) (fun h68 => ?_)
 refine sQ (qA rfl) rfl (sD (nS (qT rfl (tR (sQ (qM rfl) rfl ?_)))))
 (refine L4 (C8 rfl rfl rfl (by omega) (by unfold maxLen; omega) rfl) rfl ?_; rintro _ ⟨b75, rfl⟩)
 (refine T8 (by repeat (first | exact Pk.here | apply Pk.there)) (fun G4 hle4 hsl4 _ => ?_); refine H4 rfl (X9 G4 br pb nb cb (p + 1) bs _ _ _ _ (hb.mono hle4) hnb (by omega) hsl4 (by decide)) (Pk.perm (by repeat (first | exact Pk.here | apply Pk.there))) rfl rfl (fun v G5 outs hle5 hh => ?_); obtain ⟨rfl, rfl, hv⟩ := hh; obtain ⟨k', rfl, hk'⟩ : ∃ k', v = .int .i64 k' ∧ E3 k' := (by simp only [List.mem_cons, List.not_mem_nil, or_false] at hv; rcases hv with rfl | rfl | rfl | rfl | rfl | rfl <;> exact ⟨_, rfl, by unfold E3; omega⟩))
 refine sQ (B0 rfl) rfl (F4 ?_)
 refine sD (N3 ?_)
 refine Q0 ([.int .i64 k, .string nm, .int .i64 k', .int .i64 tk, .slice q1 tks.length c1, .int .i64 fk, .slice q2 fks.length c2, .int .i64 lb, .slice q3 ks.length c3], p + 1 + 1, G5) (O2 (by repeat (first | exact E7.nil | refine E7.cons rfl ?_)) (by repeat (first | exact A0.refl | exact A0.nil | refine A0.cons (by repeat (first | exact Pk.here | apply Pk.there)) ?_ | apply A0.drop))) ?_
 (dsimp only; exact ⟨hle4, by omega, by omega, _, A6.of9 hk hk' hlb (hty.mono hle4) (hfr.mono hle4) (hsl.mono hle4) (hkl.mono hle4), A1F hsm hfit.1.1 hfit.1.2.1 hfit.1.2.2.1, rfl⟩)
 refine sQ (qA rfl) rfl (sD (nS (cF rfl (tS (tR ?_)))))
 refine sB (qE rfl rfl) rfl rfl (fun h89 => ?_) (fun h89 => ?_)
 refine C4 ?_
 (refine H4 rfl (A7V br pb nb cb bs hnb (p + 1) _ hb (by omega)) (Pk.perm (by repeat (first | exact Pk.here | apply Pk.there))) rfl rfl (fun v G3 outs hle3 hh => ?_); obtain ⟨p3, hp31, hp32, rfl, t3, cells3, rfl, hr3, hs3⟩ := hh)
 (refine H4 rfl (A7W br pb nb cb bs hnb p3 _ (hb.mono hle3) (by omega) t3 cells3 hr3 hs3) (Pk.perm (by repeat (first | exact Pk.here | apply Pk.there))) rfl rfl (fun v G4 outs hle4 hh => ?_); obtain ⟨p4, hp41, hp42, rfl, t4, cells4, rfl, hr4, hs4⟩ := hh; have hts4 := A2I t4 (by omega); obtain ⟨t4k, t4s⟩ := t4; obtain ⟨q4, c4, es4, rfl, _⟩ := hr4.open; have hle24 := hle3.trans hle4)
 refine sQ (B0 rfl) rfl (F4 ?_)
 refine sD (N3 ?_)
 refine Q0 ([.int .i64 k, .string nm, .int .i64 num, .int .i64 t4k, .slice q4 t4s.length c4, .int .i64 fk, .slice q2 fks.length c2, .int .i64 lb, .slice q3 ks.length c3], p4, G4) (O2 (by repeat (first | exact E7.nil | refine E7.cons rfl ?_)) (by repeat (first | exact A0.refl | exact A0.nil | refine A0.cons (by repeat (first | exact Pk.here | apply Pk.there)) ?_ | apply A0.drop))) ?_
 (dsimp only; exact ⟨hle24, by omega, by omega, _, A6.of9 hk hnum hlb hr4 (hfr.mono hle24) (hsl.mono hle24) (hkl.mono hle24), A1F hsm hfit.1.1 hts4 hfit.1.2.2.1, rfl⟩)
 refine sQ (qA rfl) rfl (sD (nS (cF rfl (tS (tR ?_)))))
 refine sB (qE rfl rfl) rfl rfl (fun h111 => ?_) (fun h111 => ?_)
 refine D9 ?_
 refine Q0 ([.int .i64 k, .string nm, .int .i64 num, .int .i64 tk, .slice q1 tks.length c1, .int .i64 fk, .slice q2 fks.length c2, .int .i64 1, .slice q3 ks.length c3], p + 1, G2) (O2 (by repeat (first | exact E7.nil | refine E7.cons rfl ?_)) (by repeat (first | exact A0.refl | exact A0.nil | refine A0.cons (by repeat (first | exact Pk.here | apply Pk.there)) ?_ | apply A0.drop))) ?_
 (dsimp only; exact ⟨B6.refl _, by omega, by omega, _, A6.of9 hk hnum ⟨by omega, by omega⟩ hty hfr hsl hkl, A1F hsm hfit.1.1 hfit.1.2.1 hfit.1.2.2.1, rfl⟩)
 refine sQ (qA rfl) rfl (sD (nS (cF rfl (tS (tR ?_)))))
 refine sB (qE rfl rfl) rfl rfl (fun h129 => ?_) (fun h129 => ?_)
 refine sQ (qA rfl) rfl (sD (nS (qT rfl (tR ?_))))
 refine I5 rfl ((A1e _)) rfl rfl ?_
 refine sQ (B0 rfl) rfl (F4 ?_)
 refine sD (N3 ?_)
 refine Q0 ([.int .i64 k, .string nm, .int .i64 num, .int .i64 tk, .slice q1 tks.length c1, .int .i64 1, .slice none 0 0, .int .i64 lb, .slice q3 ks.length c3], p + 1, G2) (O2 (by repeat (first | exact E7.nil | refine E7.cons rfl ?_)) (by repeat (first | exact A0.refl | exact A0.nil | refine A0.cons (by repeat (first | exact Pk.here | apply Pk.there)) ?_ | apply A0.drop))) ?_
 (dsimp only; exact ⟨B6.refl _, by omega, by omega, _, A6.of9 hk hnum hlb hty (A0A _) hsl hkl, A1F hsm hfit.1.1 hfit.1.2.1 (by simp [Ty.small, Ty.smallL]), rfl⟩)
 refine sQ (qA rfl) rfl (sD (nS (cF rfl (tK (N3 ?_)))))
 refine Q0 ([.int .i64 k, .string nm, .int .i64 num, .int .i64 tk, .slice q1 tks.length c1, .int .i64 fk, .slice q2 fks.length c2, .int .i64 lb, .slice q3 ks.length c3], p + 1, G2) (O2 (by repeat (first | exact E7.nil | refine E7.cons rfl ?_)) (by repeat (first | exact A0.refl | exact A0.nil | refine A0.cons (by repeat (first | exact Pk.here | apply Pk.there)) ?_ | apply A0.drop))) ?_
 (dsimp only; exact ⟨B6.refl _, by omega, by omega, _, A6.of9 hk hnum hlb hty hfr hsl hkl, A1F hsm hfit.1.1 hfit.1.2.1 hfit.1.2.2.1, rfl⟩)
 (rintro ⟨cells9, p9, G9⟩ ⟨hle9, hp9, hp9', t9, hr9, hs9, hc9⟩; simp only [] at hle9 hp9 hp9' hr9 hs9 hc9 ⊢; have hl9 := hr9.len; have ho9 := hr9.one)
 refine tS (tR ?_)
 refine sL (A3 rfl rfl (A9 (by repeat first | exact mH | apply mT)) hl9) rfl rfl ?_
 refine sS rfl rfl rfl hl9 ho9 rfl ?_ (hu := by exact C3 hl9.symm)
 refine sD (nS (tT ?_))
 refine F8 (outs := [rd br pb nb cb p9]) (rC rfl (A3 rfl rfl (A9 (by repeat first | exact mH | apply mT)) hl9)) (by repeat (first | exact A0.nil | refine A0.cons Pk.here ?_ | refine A0.cons (Pk.there Pk.here) ?_ | refine A0.cons (Pk.there (Pk.there Pk.here)) ?_ | apply A0.drop)) ?_
 (exact ⟨p9, by omega, by omega, rfl, t9, cells9, rfl, hr9, hs9, by omega⟩)
section slaw
variable {P : Program} {Γ : K6} {env : L6} {hp : List A4} {G : IM} {ty : TypeId} {K : Po} {ops : Array Oper} {rest : List Oper}
theorem St.slc_open {a : Act} {w : World} {p : Option Addr} {c el sz n : Nat} {cs : List Value} {hp' : List A4} (hs : St Γ ⟨env, hp, G⟩ a w) (hk : Pk hp (.slc p c el sz n cs) hp') (h0 : 0 < n) :
  ∃ b C, p = some ⟨b, 0, none⟩ ∧ n ≤ c ∧ c ≤ maxLen ∧ St Γ ⟨env, .blk b (cs ++ C) :: hp', G⟩ a w := by
 have hown : S5 [.slc p c el sz n cs] G w := hs.res.own.of_mem hk.perm
 obtain ⟨hl, h⟩ := hown.ok _ List.mem_cons_self
 rcases h with ⟨hv, hn⟩ | ⟨g, cap, cur, hv, _, hg, hnc, hcm, hsz, ht⟩
 ·omega
 ·cases hv
  refine ⟨g, cur.toList.drop cs.length, rfl, hnc, hcm, ?_⟩
  have hcur : cur.toList = cs ++ cur.toList.drop cs.length := by
   have e : cs.length = n * sz := hl
   rw [e]
   conv => lhs; rw [← List.take_append_drop (n * sz) cur.toList, ht]
  have hr : R4 [.slc (some ⟨g, 0, none⟩) c el sz n cs] G w [.blk g (cs ++ cur.toList.drop cs.length)] G w := by
   refine ⟨⟨hown.inn, ?_, by simp [Fp, A4.fp], ?_⟩, Ext.refl _ _, B6.refl _, fun _ _ h => .inl h, ?_, fun b l h h0 => absurd h (by rw [h0]; simp)⟩
   ·intro e he
    simp at he; subst he
    refine ⟨el, ?_⟩
    rw [← hcur]; simpa using hg
   ·intro b' hb; exact hown.disj b' (by simpa [Fp, A4.fp, J1] using hb)
   ·intro b' hb; exact .inr (by simpa [Fp, A4.fp, J1] using hb)
  exact ⟨hs.size, hs.nod, hs.env, by have := (hs.res.perm hk.perm).frame hr; simpa using this⟩
theorem A3A {p : Option Addr} {c el sz n : Nat} {cs : List Value} {hp' : List A4} (hk : Pk hp (.slc p c el sz n cs) hp') (h0 : 0 < n)
  (h : ∀ b C, p = some ⟨b, 0, none⟩ → n ≤ c → c ≤ maxLen → H3 P Γ ops rest K ⟨env, .blk b (cs ++ C) :: hp', G⟩) : H3 P Γ ops rest K ⟨env, hp, G⟩ :=
 ⟨fun a w hs => let ⟨b, C, h1, h2, h3, h4⟩ := hs.slc_open hk h0; (h b C h1 h2 h3).run a w h4⟩
end slaw
theorem B2d {es : List (List Value)} {j : Nat} {vs : List Value} (hj : j < es.length) : (es.set j vs).flatten = (es.take j).flatten ++ (vs ++ (es.drop (j + 1)).flatten) := by
 rw [List.set_eq_take_append_cons_drop, if_pos hj]; simp
theorem A78 {es : List (List Value)} {j : Nat} (hj : j < es.length) : es.flatten = (es.take j).flatten ++ (es[j] ++ (es.drop (j + 1)).flatten) := by
 have h := congrArg List.flatten (List.take_append_drop j es).symm
 rw [List.drop_eq_getElem_cons hj, List.flatten_append, List.flatten_cons] at h
 exact h
theorem A3B {es : List (List Value)} {C vs : List Value} {j sz : Nat} (hj : j < es.length) (ha : ∀ e ∈ es, e.length = sz) (hv : vs.length = sz) : T7 (es.flatten ++ C) (0 + j * sz) vs = some ((es.set j vs).flatten ++ C) := by
 have := A62 (A := (es.take j).flatten) (B := es[j]) (C := (es.drop (j + 1)).flatten ++ C) (V := vs) (o := 0 + j * sz)
  (by rw [A08 (fun e he => ha e (List.mem_of_mem_take he)), List.length_take]; rw [Nat.min_eq_left (by omega)]; omega) (by rw [ha _ (List.getElem_mem hj), hv])
 rw [A78 hj, B2d hj]
 simp only [List.append_assoc] at this ⊢
 exact this
theorem D2.set {G : IM} : ∀ {ks : List Tm} {es : List (List Value)} {j : Nat} {y : Tm} {v : List Value}, D2 G ks es → A6 G y v → D2 G (ks.set j y) (es.set j v)
 | [], es, j, y, v, h, h2 => by simp only [D2] at h; subst h; simp [D2]
 | t :: ts, es, 0, y, v, h, h2 => by
  simp only [D2] at h
  obtain ⟨a, r, rfl, h3, h4⟩ := h
  simp only [List.set_cons_zero, D2]
  exact ⟨v, r, rfl, h2, h4⟩
 | t :: ts, es, j + 1, y, v, h, h2 => by
  simp only [D2] at h
  obtain ⟨a, r, rfl, h3, h4⟩ := h
  simp only [List.set_cons_succ, D2]
  exact ⟨a, r.set j v, rfl, h3, D2.set h4 h2⟩
def A79 : Tm → List Int → Tm → Tm
 | _, [], x => x
 | .mk k nm num ty fr lb ks, i :: is, x => if h : 0 ≤ i ∧ i < ks.length then .mk k nm num ty fr lb (ks.set i.toNat (A79 (ks[i.toNat]'(by omega)) is x)) else .mk k nm num ty fr lb ks
def TyV (e : Tm) (G : IM) : IM → Value → List A4 → Prop := K5 fun G' v => ∃ t cells b, v = .tuple ⟨[.agg ⟨cells⟩, .bool b]⟩ ∧ B5 G' t cells ∧ E4 t ∧ J8 t ≤ 960 ∧ (b = true → O4 e = true)
theorem B2e {G : IM} {e : Tm} {ce : List Value} {p : Option Addr} {c : Nat} (hr : A6 G e ce) (hs : Sl G p 1 c 9 ce) : C9 G p [e].length c 9 [ce] ∧ D2 G [e] [ce] := by
 refine ⟨C9.of (by simpa using hs) rfl (fun x hx => by simp only [List.mem_singleton] at hx; subst hx; exact hr.len) (fun x hx => by simp only [List.mem_singleton] at hx; subst hx; exact hr.one), ?_⟩
 simp only [D2]
 exact ⟨ce, [], rfl, hr, rfl⟩
def B6Z (e : Tm) (label : Int) (G : IM) : IM → Value → List A4 → Prop := K5 fun G' v => ∃ u cu l', v = .tuple ⟨[.agg ⟨cu⟩, .int .i64 l']⟩ ∧ A6 G' u cu ∧ (e.small → u.small) ∧ C6 u ≤ C6 e + 1 ∧ label ≤ l' ∧ l' ≤ label + 1
def B60 (n : Nat) (G : IM) : IM → Value → List A4 → Prop := K5 fun G' v => ∃ p c es ws, v = .slice p n c ∧ ws.length = n ∧ C9 G' p n c 2 es ∧ E6 G' ws es ∧ ∀ w ∈ ws, E4 w
theorem D2.at2 {G : IM} {ts : List Tm} {es : List (List Value)} {i : Nat} (h : D2 G ts es) (h1 : i < ts.length) (h2 : i < es.length) : i < es.length ∧ A6 G ts[i] es[i] := by
 have := (h.inv (List.getElem?_eq_getElem h2) D7).2
 rw [List.getD_eq_getElem?_getD, List.getElem?_eq_getElem h1] at this
 exact ⟨h2, this⟩
mutual
theorem A5S : ∀ (t : Tm) (d : Int), M3 12 14 t d = true → t.small
 | .mk k nm num ty fr lb ks, d, h => by
  obtain ⟨h1, h2, h3, h4⟩ := A0r h
  have hn := V3.1 h3
  rw [Tm.small]
  refine ⟨?_, (A3z h3).1.small, ?_, ?_, A8a ks _ h4⟩
  ·by_cases hk : k = 1 ∨ k = 5
   ·have := hn.2.1 hk
    simp only [X6, decide_eq_true_eq] at this
    omega
   ·rw [hn.2.2.1 hk]; decide
  ·rw [A1f (hn.2.2.2.2.2.2.2.2 (by omega)).1]
   simp [A8, Ty.small, Ty.smallL]
  ·have := A1h k
   omega
theorem A8a : ∀ (ts : List Tm) (d : Int), M4 12 14 ts d = true → Tm.smallL ts
 | [], d, h => by rw [Tm.smallL]; trivial
 | t :: ts, d, h => by
  rw [M4, Bool.and_eq_true] at h
  rw [Tm.smallL]
  exact ⟨A5S t d h.1, A8a ts d h.2⟩
end
theorem A8b {hp : List A4} {G : IM} {b sz i : Nat} {es : List (List Value)} {C : List Value} (hm : A4.blk b (es.flatten ++ C) ∈ hp) (hi : i < es.length) (ha : ∀ e ∈ es, e.length = sz) : At hp G b (0 + i * sz) es[i] := by
 refine .inl ⟨_, hm, fun j u hu => ?_⟩
 rw [A78 hi, List.append_assoc, List.append_assoc]
 have hl : (es.take i).flatten.length = i * sz := by
  rw [A08 (fun e he => ha e (List.mem_of_mem_take he)), List.length_take, Nat.min_eq_left (by omega)]
 have hj : j < es[i].length := (List.getElem?_eq_some_iff.1 hu).1
 rw [List.getElem?_append_right (by omega), show 0 + i * sz + j - (es.take i).flatten.length = j by omega, List.getElem?_append_left hj]
 exact hu
def B61 (e : Tm) (label : Int) (G : IM) : IM → Value → List A4 → Prop := K5 fun G' v => ∃ u cu t ct l', v = .tuple ⟨[.agg ⟨cu⟩, .agg ⟨ct⟩, .int .i64 l']⟩ ∧ A6 G' u cu ∧ u.small ∧ C6 u + 1 ≤ 2 * C6 e ∧ B5 G' t ct ∧ E4 t ∧ J8 t ≤ 32 * (C6 e : Int) ∧ label ≤ l' ∧ l' + 1 ≤ label + 2 * (C6 e : Int)
def Y0 (t : Ty) : Ty := if t.k = 4 ∨ t.k = 5 then .mk t.k [N4, N4] else .mk t.k []
def U2 (t : Ty) : Bool := decide (t.k ≠ 1) && M5 t (Y0 t)
def W5 (t : Tm) : Bool := decide (t.k = 14 ∧ t.fr.k = t.ty.k ∧ (t.ty.k = 4 ∨ t.ty.k = 5))
def inj (t : Tm) : Bool := decide (t.k = 14 ∧ t.ty.k = 1) && U2 t.fr
mutual
def D0 : Tm → Bool
 | .mk k nm num ty fr lb ks => if k = 10 ∨ (k = 14 ∧ fr.k = ty.k ∧ (ty.k = 4 ∨ ty.k = 5)) ∨ (k = 14 ∧ ty.k = 1 ∧ U2 fr = true) then A01 ks else decide (k = 2 ∨ k = 3 ∨ k = 4 ∨ k = 5)
def A01 : List Tm → Bool
 | [] => true
 | t :: ts => D0 t && A01 ts
end
mutual
def R7 (x : ByteArray) (v : Tm) : Tm → Tm
 | .mk k nm num ty fr lb ks => if k = 1 ∧ nm = x then v else if k = 5 ∧ nm = x then .mk k nm num ty fr lb ks else .mk k nm num ty fr lb (R0 x v ks)
def R0 (x : ByteArray) (v : Tm) : List Tm → List Tm
 | [] => []
 | t :: ts => R7 x v t :: R0 x v ts
end
theorem A4x (x : ByteArray) (v : Tm) : ∀ ks, R0 x v ks = ks.map (R7 x v)
 | [] => rfl
 | t :: ts => by rw [R0, A4x x v ts, List.map_cons]
def N1 (e : Tm) (fr to : Ty) (lb : Int) : Tm := .mk 14 ⟨#[]⟩ 0 to fr lb [e]
def A0k (k : Int) (ks : List Tm) : Tm := .mk k ⟨#[]⟩ 0 A8 A8 0 ks
def A1G (n : Int) : Tm := .mk 2 ⟨#[]⟩ n A8 A8 0 []
def V8 (b : Prop) [Decidable b] : Tm := A0k (if b then 3 else 4) []
abbrev Z0 := Tm × Int × Int
def S9 : Z0 := (D7, 3, 0)
def kd (ks : List Tm) (i : Nat) : Tm := ks.getD i D7
def kt (ks : List Ty) (i : Nat) : Ty := ks.getD i A8
def T0 (k : Int) (ty fr : Ty) (lb : Int) (ks : List Tm) : Z0 :=
 if k = 6 then
  (if (kd ks 0).k = 5 then (R7 (kd ks 0).nm (kd ks 1) (kd (kd ks 0).ks 0), 1, 0)
   else if W5 (kd ks 0) = true ∧ (kd ks 0).ty.k = 4 then (N1 (A0k 6 [kd (kd ks 0).ks 0, N1 (kd ks 1) (kt (kd ks 0).ty.ks 0) (kt (kd ks 0).fr.ks 0) (-(kd ks 0).lb)]) (kt (kd ks 0).fr.ks 1) (kt (kd ks 0).ty.ks 1) (kd ks 0).lb, 1, 0)
   else S9)
 else if k = 7 ∨ k = 8 then
  (if (kd ks 0).k = 2 ∧ (kd ks 1).k = 2 then (if k = 7 then A1G (((kd ks 0).num + (kd ks 1).num) % 1000) else V8 ((kd ks 0).num < (kd ks 1).num), 1, 0) else S9)
 else if k = 9 then (if (kd ks 0).k = 3 then (kd ks 1, 1, 0) else if (kd ks 0).k = 4 then (kd ks 2, 1, 0) else S9)
 else if k = 11 ∨ k = 12 then
  (if (kd ks 0).k = 10 then (kd (kd ks 0).ks (k - 11).toNat, 1, 0)
   else if W5 (kd ks 0) = true ∧ (kd ks 0).ty.k = 5 then (N1 (A0k k [kd (kd ks 0).ks 0]) (kt (kd ks 0).fr.ks (k - 11).toNat) (kt (kd ks 0).ty.ks (k - 11).toNat) (kd ks 0).lb, 1, 0)
   else S9)
 else if k = 14 then
  (if fr.k = ty.k then (kd ks 0, 1, 0)
   else if ty.k = 1 then (N1 (N1 (kd ks 0) fr (Y0 fr) lb) (Y0 fr) ty lb, 1, 0)
   else if U2 ty = false then (N1 (N1 (kd ks 0) fr (Y0 ty) lb) (Y0 ty) ty lb, 1, 0)
   else if inj (kd ks 0) = false then S9
   else if (kd ks 0).fr.k = ty.k then (kd (kd ks 0).ks 0, 1, 0)
   else (D7, 2, lb))
 else S9
mutual
def J5 : Tm → Z0
 | .mk k nm num ty fr lb ks => match A0d (if k = 9 then 1 else ks.length) ks with
  | some (ks', c, l) => if c = 1 then (.mk k nm num ty fr lb ks', 1, 0) else (D7, c, l)
  | none => T0 k ty fr lb ks
def A0d : Nat → List Tm → Option (List Tm × Int × Int)
 | _, [] => none
 | n, t :: ts => match n with
  | 0 => none
  | n + 1 => if D0 t = true then (match A0d n ts with
    | some (us, c, l) => some (t :: us, c, l)
    | none => none)
   else some ((J5 t).1 :: ts, (J5 t).2.1, (J5 t).2.2)
end
def H8 (e : Tm) : Z0 :=
 if O3 e = false then S9 else if D0 e = true then (e, 0, 0)
 else if (J5 e).2.1 ≠ 1 then (D7, (J5 e).2.1, (J5 e).2.2)
 else if O3 (J5 e).1 = false then (D7, 4, 0) else ((J5 e).1, 1, 0)
def Q1 : Nat → Tm → Tm × Int × Int × Nat
 | 0, e => if (H8 e).2.1 = 1 then (D7, 5, 0, 0) else ((H8 e).1, (H8 e).2.1, (H8 e).2.2, 0)
 | n + 1, e => if (H8 e).2.1 = 1 then ((Q1 n (H8 e).1).1, (Q1 n (H8 e).1).2.1, (Q1 n (H8 e).1).2.2.1, (Q1 n (H8 e).1).2.2.2 + 1)
  else ((H8 e).1, (H8 e).2.1, (H8 e).2.2, 0)
def S4 (e : Tm) (fuel : Int) : Z0 := if 0 ≤ fuel ∧ fuel ≤ 300 then ((Q1 fuel.toNat e).1, (Q1 fuel.toNat e).2.1, (Q1 fuel.toNat e).2.2.1) else S9
def A1V (e : Tm) (fuel : Int) : Int := if 0 ≤ fuel ∧ fuel ≤ 300 then ((Q1 fuel.toNat e).2.2.2 : Int) else 0
structure CvN (k : Int) (nm : ByteArray) (num : Int) (ty fr : Ty) (lb : Int) (ks : List Tm) : Prop where
 ops : C5 k = ks.length
 ne : k ≠ 13
 nm1 : nm.size ≤ 1
 num0 : 0 ≤ num ∧ num ≤ 999
 tyA : E4 ty
 frA : E4 fr
 lbB : -99 ≤ lb ∧ lb ≤ 99
 c14 : k = 14 → J6 fr ty = true ∧ E8 ty = true ∧ E8 fr = true
 ty5 : ¬(k = 5 ∨ k = 14) → ty = A8
 fr14 : k ≠ 14 → fr = A8 ∧ lb = 0
def cv (t : Tm) : Prop := ∃ d, M3 40 13 t d = true
theorem A3C {n lo hi : Int} : P6 n lo hi = true ↔ lo ≤ n ∧ n ≤ hi := by unfold P6; rw [decide_eq_true_eq]
theorem cv.node {k : Int} {nm : ByteArray} {num : Int} {ty fr : Ty} {lb : Int} {ks : List Tm} (h : cv (.mk k nm num ty fr lb ks)) : CvN k nm num ty fr lb ks ∧ ∀ t ∈ ks, cv t := by
 obtain ⟨d, h⟩ := h
 obtain ⟨_, h2, h3, h4⟩ := A0r h
 obtain ⟨n1, n2, n3, n4, n5, n6, n7, n8, n9⟩ := V3.1 h3
 refine ⟨⟨n1, h2, A77 h3, ?_, (A3z h3).1, ?_, ?_, ?_, ?_, ?_⟩, fun t ht => ?_⟩
 ·by_cases hk : k = 2
  ·exact A3C.1 (n4 hk)
  ·have := A3C.1 (n5 hk); omega
 ·by_cases hk : k = 14
  ·have := (n8 hk).1
   simp only [A0U, Bool.and_eq_true] at this
   exact (A4w this.1.1).1
  ·rw [A1f (n9 hk).1]; exact S8 (by decide) (by decide)
 ·by_cases hk : k = 14
  ·have := (n8 hk).2
   simp only [A0z, Bool.or_eq_true, A3C] at this
   omega
  ·have := (n9 hk).2; omega
 ·intro hk
  have := (n8 hk).1
  simp only [A0U, Bool.and_eq_true] at this
  exact ⟨this.2, this.1.2, this.1.1⟩
 ·intro hk
  exact A1f (n7 (by omega))
 ·intro hk
  exact ⟨A1f (n9 hk).1, (n9 hk).2⟩
 ·obtain ⟨i, hi, rfl⟩ := List.mem_iff_getElem.1 ht
  exact ⟨_, (A0Z 40 13 ks _).1 h4 i hi⟩
theorem A2l {t : Tm} (h : O3 t = true) : cv t ∧ C6 t ≤ 200 := by
 obtain ⟨h1, h2⟩ := (A4o t).1 h
 exact ⟨⟨1, h1⟩, h2⟩
mutual
theorem A1W : ∀ (t : Tm), cv t → t.small
 | .mk k nm num ty fr lb ks, h => by
  obtain ⟨hn, hk⟩ := h.node
  rw [Tm.small]
  refine ⟨by have := hn.nm1; omega, hn.tyA.small, hn.frA.small, ?_, A8c ks hk⟩
  have := A1h k
  have := hn.ops
  omega
theorem A8c : ∀ (ts : List Tm), (∀ t ∈ ts, cv t) → Tm.smallL ts
 | [], _ => by rw [Tm.smallL]; trivial
 | t :: ts, h => by
  rw [Tm.smallL]
  exact ⟨A1W t (h t List.mem_cons_self), A8c ts fun u hu => h u (List.mem_cons_of_mem _ hu)⟩
end
theorem A0s (k : Int) (nm : ByteArray) (num : Int) (ty fr : Ty) (lb : Int) (ks : List Tm) : C6 (.mk k nm num ty fr lb ks) = D4 ks + 1 := by rw [C6]
theorem A0t {k : Int} {nm : ByteArray} {num : Int} {ty fr : Ty} {lb : Int} {ks : List Tm} : (Tm.mk k nm num ty fr lb ks).small ↔ nm.size ≤ 4294967296 ∧ ty.small ∧ fr.small ∧ ks.length ≤ 4294967296 ∧ Tm.smallL ks := by rw [Tm.small]
theorem A3D : D7.small := by simp [D7, Tm.small, Ty.small, Ty.smallL, Tm.smallL, ByteArray.size]
theorem A1X : A8.small := by simp [A8, Ty.small, Ty.smallL]
mutual
theorem A8d {x : ByteArray} {v : Tm} (hv : v.small) : ∀ (t : Tm), t.small → (R7 x v t).small ∧ C6 (R7 x v t) ≤ C6 t * C6 v
 | .mk k nm num ty fr lb ks, h => by
  obtain ⟨h1, h2, h3, h4, h5⟩ := A0t.1 h
  obtain ⟨s1, s2⟩ := A8e hv ks h5
  have hp : 1 ≤ C6 v := by cases v; rw [C6]; omega
  rw [R7]
  split
  ·refine ⟨hv, ?_⟩
   rw [A0s]
   exact Nat.le_mul_of_pos_left _ (by omega)
  ·split
   ·exact ⟨h, Nat.le_mul_of_pos_right _ hp⟩
   ·refine ⟨A0t.2 ⟨h1, h2, h3, by rw [A4x, List.length_map]; exact h4, s1⟩, ?_⟩
    rw [A0s, A0s, Nat.add_mul]
    omega
theorem A8e {x : ByteArray} {v : Tm} (hv : v.small) : ∀ (ts : List Tm), Tm.smallL ts → Tm.smallL (R0 x v ts) ∧ D4 (R0 x v ts) ≤ D4 ts * C6 v
 | [], _ => by simp [R0, Tm.smallL, D4]
 | t :: ts, h => by
  simp only [Tm.smallL] at h
  obtain ⟨a1, a2⟩ := A8d hv t h.1
  obtain ⟨b1, b2⟩ := A8e hv ts h.2
  simp only [R0, Tm.smallL, D4, Nat.add_mul]
  exact ⟨⟨a1, b1⟩, by omega⟩
end
theorem A1Y {ks : List Tm} (h : Tm.smallL ks) (i : Nat) : (kd ks i).small := by
 unfold kd
 rw [List.getD_eq_getElem?_getD]
 cases hi : ks[i]? with
 | none => exact A3D
 | some t => exact Tm.smallL_mem h t (List.mem_of_getElem? hi)
theorem A4y {ks : List Tm} (i : Nat) : C6 (kd ks i) ≤ D4 ks + 1 := by
 unfold kd
 rw [List.getD_eq_getElem?_getD]
 cases hi : ks[i]? with
 | none => simp [D7, C6, D4]
 | some t =>
  have := A5r (List.mem_of_getElem? hi)
  simp only [Option.getD_some]; omega
def GT.ty : GT → Ty
 | .any => .mk 1 []
 | .int => .mk 2 []
 | .bool => .mk 3 []
 | .fn a b => .mk 4 [a.ty, b.ty]
 | .pr a b => .mk 5 [a.ty, b.ty]
def GE.tm : GE → Tm
 | .var x => .mk 1 x 0 A8 A8 0 []
 | .num n => .mk 2 ⟨#[]⟩ n A8 A8 0 []
 | .tru b => .mk (if b = true then 3 else 4) ⟨#[]⟩ 0 A8 A8 0 []
 | .lam x A e => .mk 5 x 0 A.ty A8 0 [e.tm]
 | .app f a => .mk 6 ⟨#[]⟩ 0 A8 A8 0 [f.tm, a.tm]
 | .ar s a b => .mk (if s = true then 8 else 7) ⟨#[]⟩ 0 A8 A8 0 [a.tm, b.tm]
 | .ite c a b => .mk 9 ⟨#[]⟩ 0 A8 A8 0 [c.tm, a.tm, b.tm]
 | .pair a b => .mk 10 ⟨#[]⟩ 0 A8 A8 0 [a.tm, b.tm]
 | .part s e => .mk (if s = true then 12 else 11) ⟨#[]⟩ 0 A8 A8 0 [e.tm]
 | .cast A B l e => .mk 14 ⟨#[]⟩ 0 B.ty A.ty l [e.tm]
theorem GT.inj : ∀ {a b : GT}, a.ty = b.ty → a = b := by
 intro a
 induction a with
 | any => intro b h; cases b <;> first | rfl | (simp [GT.ty] at h)
 | int => intro b h; cases b <;> first | rfl | (simp [GT.ty] at h)
 | bool => intro b h; cases b <;> first | rfl | (simp [GT.ty] at h)
 | fn a1 a2 i j =>
  intro b h
  cases b with
  | fn b1 b2 => simp only [GT.ty, Ty.mk.injEq, List.cons.injEq, true_and, and_true] at h; rw [i h.1, j h.2]
  | _ => simp [GT.ty] at h
 | pr a1 a2 i j =>
  intro b h
  cases b with
  | pr b1 b2 => simp only [GT.ty, Ty.mk.injEq, List.cons.injEq, true_and, and_true] at h; rw [i h.1, j h.2]
  | _ => simp [GT.ty] at h
theorem A8f (a : GT) : Y0 a.ty = a.gr.ty := by cases a <;> rfl
theorem A1j {a : GT} : a.ty.k = 1 ↔ a = .any := by cases a <;> simp [GT.ty, Ty.k]
theorem A2N {a : GT} : U2 a.ty = true ↔ a.Gd := by
 unfold U2 GT.Gd
 rw [Bool.and_eq_true, decide_eq_true_eq, A1d, A8f, Ne, A1j]
 constructor
 ·rintro ⟨h1, h2⟩; exact ⟨h1, (GT.inj h2).symm⟩
 ·rintro ⟨h1, h2⟩; exact ⟨h1, by rw [h2]⟩
theorem B2f {a : GT} (h : ¬a.Gd) : U2 a.ty = false := by
 cases h2 : U2 a.ty with
 | false => rfl
 | true => exact absurd (A2N.1 h2) h
theorem R1 : ∀ e : GE, D0 e.tm = true ↔ GV e := by
 intro e
 induction e with
 | var x => rw [GE.tm, D0]; simp; intro h; cases h
 | num n => rw [GE.tm, D0]; simp; exact .num
 | tru b => rw [GE.tm, D0]; cases b <;> (simp; exact .tru)
 | lam x A e _ => rw [GE.tm, D0]; simp; exact .lam
 | app f a _ _ => rw [GE.tm, D0]; simp; intro h; cases h
 | ar s a b _ _ => rw [GE.tm, D0]; cases s <;> (simp; intro h; cases h)
 | ite c a b _ _ _ => rw [GE.tm, D0]; simp; intro h; cases h
 | pair a b i j =>
  rw [GE.tm, D0, if_pos (.inl rfl), A01, A01, A01, Bool.and_true, Bool.and_eq_true, i, j]
  exact ⟨fun h => .pair h.1 h.2, fun h => by cases h with | pair a b => exact ⟨a, b⟩⟩
 | part s e _ => rw [GE.tm, D0]; cases s <;> (simp; intro h; cases h)
 | cast A B l e i =>
  rw [GE.tm, D0]
  by_cases hp : A.ty.k = B.ty.k ∧ (B.ty.k = 4 ∨ B.ty.k = 5)
  ·rw [if_pos (.inr (.inl ⟨rfl, hp⟩)), A01, A01, Bool.and_true, i]
   constructor
   ·intro h
    cases B <;> cases A <;> first | exact .pf h | exact .pp h | (exfalso; simp [GT.ty, Ty.k] at hp)
   ·intro h; exact h.ofCast
  ·by_cases hi : B.ty.k = 1 ∧ U2 A.ty = true
   ·rw [if_pos (.inr (.inr ⟨rfl, hi⟩)), A01, A01, Bool.and_true, i]
    constructor
    ·intro h
     obtain rfl := A1j.1 hi.1
     exact .inj h (A2N.1 hi.2)
    ·intro h; exact h.ofCast
   ·rw [if_neg (by rintro (h | h | h); exact absurd h (by decide); exact hp h.2; exact hi h.2)]
    constructor
    ·intro h; exact absurd (of_decide_eq_true h) (by decide)
    ·intro h
     exfalso
     cases h with
     | pf _ => exact hp ⟨rfl, .inl rfl⟩
     | pp _ => exact hp ⟨rfl, .inr rfl⟩
     | inj _ hg => exact hi ⟨rfl, A2N.2 hg⟩
theorem A4z {e : GE} (h : ¬GV e) : D0 e.tm = false := by
 cases h2 : D0 e.tm with
 | false => rfl
 | true => exact absurd ((R1 e).1 h2) h
theorem nv {e r : GE} (h : GS e r) : D0 e.tm = false := A4z fun hv => hv.noS _ h
theorem A8g (x : ByteArray) (v : GE) : ∀ e : GE, (e.sub x v).tm = R7 x v.tm e.tm := by
 intro e
 induction e with
 | var y =>
  rw [GE.sub, GE.tm, R7]
  by_cases h : y = x
  ·rw [if_pos h, if_pos ⟨rfl, h⟩]
  ·rw [if_neg h, if_neg (fun c => h c.2), if_neg (by rintro ⟨h, _⟩; exact absurd h (by decide)), GE.tm, R0]
 | num n => rw [GE.sub, GE.tm, R7]; simp [R0]
 | tru b => rw [GE.sub, GE.tm, R7]; cases b <;> simp [R0]
 | lam y A e i =>
  by_cases h : y = x
  ·rw [GE.sub, if_pos h, GE.tm, R7, if_neg (by rintro ⟨h, _⟩; exact absurd h (by decide)), if_pos ⟨rfl, h⟩]
  ·rw [GE.sub, if_neg h, GE.tm, GE.tm, R7, if_neg (by rintro ⟨h, _⟩; exact absurd h (by decide)), if_neg (fun c => h c.2), i, R0, R0]
 | app f a i j => rw [GE.sub, GE.tm, GE.tm, R7, i, j]; simp [R0]
 | ar s a b i j => rw [GE.sub, GE.tm, GE.tm, R7, i, j]; cases s <;> simp [R0]
 | ite c a b i j k => rw [GE.sub, GE.tm, GE.tm, R7, i, j, k]; simp [R0]
 | pair a b i j => rw [GE.sub, GE.tm, GE.tm, R7, i, j]; simp [R0]
 | part s e i => rw [GE.sub, GE.tm, GE.tm, R7, i]; cases s <;> simp [R0]
 | cast A B l e i => rw [GE.sub, GE.tm, GE.tm, R7, i]; simp [R0]
section
variable {k : Int} {nm : ByteArray} {num : Int} {ty fr : Ty} {lb : Int} {a b c : Tm} {t : Tm} {l : Int}
theorem A2O (h : D0 a = false) (ks : List Tm) (hn : k = 9 ∨ ks.length < 3) (r : Tm) (hs : J5 a = (r, 1, 0)) : J5 (.mk k nm num ty fr lb (a :: ks)) = (.mk k nm num ty fr lb (r :: ks), 1, 0) := by
 have : ∃ n, (if k = 9 then 1 else (a :: ks).length) = n + 1 := ⟨if k = 9 then 0 else ks.length, by split <;> simp⟩
 obtain ⟨n, hn⟩ := this
 rw [J5, hn, A0d, if_neg (by rw [h]; decide), hs]
 simp
theorem B2g (h : D0 a = false) (ks : List Tm) (hs : (J5 a).2.1 = 2) : (J5 (.mk k nm num ty fr lb (a :: ks))).2.1 = 2 := by
 have : ∃ n, (if k = 9 then 1 else (a :: ks).length) = n + 1 := ⟨if k = 9 then 0 else ks.length, by split <;> simp⟩
 obtain ⟨n, hn⟩ := this
 rw [J5, hn, A0d, if_neg (by rw [h]; decide), hs]
 simp
theorem A5T (h0 : D0 a = true) (h : D0 b = false) (hk : k ≠ 9) (r : Tm) (hs : J5 b = (r, 1, 0)) : J5 (.mk k nm num ty fr lb [a, b]) = (.mk k nm num ty fr lb [a, r], 1, 0) := by
 rw [J5, if_neg hk]
 simp only [List.length_cons, List.length_nil, A0d, h0, h, if_true, hs]
 simp
theorem B2h (h0 : D0 a = true) (h : D0 b = false) (hk : k ≠ 9) (hs : (J5 b).2.1 = 2) : (J5 (.mk k nm num ty fr lb [a, b])).2.1 = 2 := by
 rw [J5, if_neg hk]
 simp only [List.length_cons, List.length_nil, A0d, h0, h, if_true, hs]
 simp
theorem A2m (h : D0 a = true) : J5 (.mk k nm num ty fr lb [a]) = T0 k ty fr lb [a] := by
 rw [J5, show (if k = 9 then 1 else [a].length) = 1 by split <;> rfl, A0d, h]
 simp [A0d]
theorem A5U (h : D0 a = true) (h2 : D0 b = true) (hk : k ≠ 9) : J5 (.mk k nm num ty fr lb [a, b]) = T0 k ty fr lb [a, b] := by
 rw [J5, if_neg hk]
 simp [A0d, h, h2]
theorem B2i (h : D0 a = true) : J5 (.mk 9 nm num ty fr lb [a, b, c]) = T0 9 ty fr lb [a, b, c] := by
 rw [J5, if_pos rfl]
 simp [A0d, h]
end
theorem A8h {e r : GE} (h : GS e r) : J5 e.tm = (r.tm, 1, 0) := by
 induction h with
 | app1 s i => rw [GE.tm, A2O (nv s) _ (.inr (by simp)) _ i, GE.tm]
 | app2 v s i => rw [GE.tm, A5T ((R1 _).2 v) (nv s) (by decide) _ i, GE.tm]
 | ar1 s i => rw [GE.tm, A2O (nv s) _ (.inr (by simp)) _ i, GE.tm]
 | @ar2 t _ _ _ v s i => rw [GE.tm, A5T ((R1 _).2 v) (nv s) (by cases t <;> decide) _ i, GE.tm]
 | ite1 s i => rw [GE.tm, A2O (nv s) _ (.inl rfl) _ i, GE.tm]
 | pair1 s i => rw [GE.tm, A2O (nv s) _ (.inr (by simp)) _ i, GE.tm]
 | pair2 v s i => rw [GE.tm, A5T ((R1 _).2 v) (nv s) (by decide) _ i, GE.tm]
 | part1 s i => rw [GE.tm, A2O (nv s) _ (.inr (by simp)) _ i, GE.tm]
 | cast1 s i => rw [GE.tm, A2O (nv s) _ (.inr (by simp)) _ i, GE.tm]
 | beta v =>
  rw [GE.tm, A5U ((R1 _).2 .lam) ((R1 _).2 v) (by decide), A8g]
  rfl
 | appx v w =>
  rw [GE.tm, A5U ((R1 _).2 (.pf v)) ((R1 _).2 w) (by decide)]
  rfl
 | @ar t m n =>
  rw [GE.tm, A5U ((R1 _).2 .num) ((R1 _).2 .num) (by cases t <;> decide)]
  cases t
  ·rfl
  ·unfold A1C
   simp only [if_true]
   show (V8 (m < n), (1 : Int), (0 : Int)) = _
   unfold V8
   by_cases h : m < n
   ·simp only [h, if_true, GE.tm, decide_true]; rfl
   ·simp only [h, if_false, GE.tm, decide_false]; rfl
 | @ite b x y =>
  rw [GE.tm, B2i ((R1 _).2 .tru)]
  cases b <;> rfl
 | @part t a b v w =>
  rw [GE.tm, A2m ((R1 _).2 (.pair v w))]
  cases t <;> rfl
 | @partx t a b c d l e v =>
  rw [GE.tm, A2m ((R1 _).2 (.pp v))]
  cases t <;> rfl
 | @cid A l v hv hA =>
  rw [GE.tm, A2m ((R1 _).2 hv)]
  rcases hA with rfl | rfl | rfl <;> rfl
 | @up A l v hv hA hg =>
  rw [GE.tm, A2m ((R1 _).2 hv)]
  cases A with
  | any => exact absurd rfl hA
  | int => exact absurd rfl hg
  | bool => exact absurd rfl hg
  | _ => rfl
 | @down B l v hv hB hg =>
  rw [GE.tm, A2m ((R1 _).2 hv)]
  have hg' := B2f (a := B) fun h => hg h.2
  unfold T0
  rw [if_neg (by decide), if_neg (by decide), if_neg (by decide), if_neg (by decide), if_pos rfl, if_neg, if_neg, if_pos hg', A8f]
  ·rfl
  ·rw [A1j]; exact hB
  ·intro h; exact hB (A1j.1 h.symm)
 | @hit G l m w hv hG =>
  rw [GE.tm, A2m ((R1 _).2 (.inj hv hG))]
  have hg' := A2N.2 hG
  have hi : inj (GE.tm (.cast G .any m w)) = true := by
   rw [GE.tm]; unfold inj; rw [Bool.and_eq_true]; exact ⟨rfl, hg'⟩
  unfold T0
  rw [if_neg (by decide), if_neg (by decide), if_neg (by decide), if_neg (by decide), if_pos rfl, if_neg, if_neg, if_neg (by rw [hg']; decide), if_neg (by show ¬inj (GE.tm (.cast G .any m w)) = false; rw [hi]; decide), if_pos]
  ·rfl
  ·rfl
  ·rw [A1j]; exact hG.1
  ·intro h; exact hG.1 (A1j.1 h.symm)
def Bd (e : GE) : Prop := D0 e.tm = false ∧ (J5 e.tm).2.1 = 2
theorem B2j {Γ : GC} {v v' : GE} {U U' : GT} (h : GP Γ v v' U U') : Γ = N0 → GV v → ∀ {A B}, U = .fn A B → (∃ x C e, v = .lam x C e) ∨ ∃ a b c d l e, v = .cast (.fn a b) (.fn c d) l e ∧ GV e := by
 induction h with
 | castR _ _ _ i => exact i
 | castL _ _ _ _ => intro _ hv A B hU; subst hU; cases hv with | pf h => exact .inr ⟨_, _, _, _, _, _, rfl, h⟩
 | castB _ _ _ _ _ => intro _ hv A B hU; subst hU; cases hv with | pf h => exact .inr ⟨_, _, _, _, _, _, rfl, h⟩
 | lam _ _ _ => intro _ _ _ _ _; exact .inl ⟨_, _, _, rfl⟩
 | app _ _ _ _ => intro _ hv; cases hv
 | ite _ _ _ _ _ _ => intro _ hv; cases hv
 | part _ _ => intro _ hv; cases hv
 | ar _ _ _ _ => intro _ hv; cases hv
 | var _ _ => intro _ hv; cases hv
 | _ => intro _ _ _ _ hU; cases hU
theorem B2k {Γ : GC} {v v' : GE} {U U' : GT} (h : GP Γ v v' U U') : Γ = N0 → GV v → ∀ {A B}, U = .pr A B → (∃ a b, v = .pair a b ∧ GV a ∧ GV b) ∨ ∃ a b c d l e, v = .cast (.pr a b) (.pr c d) l e ∧ GV e := by
 induction h with
 | castR _ _ _ i => exact i
 | castL _ _ _ _ => intro _ hv A B hU; subst hU; cases hv with | pp h => exact .inr ⟨_, _, _, _, _, _, rfl, h⟩
 | castB _ _ _ _ _ => intro _ hv A B hU; subst hU; cases hv with | pp h => exact .inr ⟨_, _, _, _, _, _, rfl, h⟩
 | pair _ _ _ _ => intro _ hv _ _ _; cases hv with | pair a b => exact .inl ⟨_, _, rfl, a, b⟩
 | app _ _ _ _ => intro _ hv; cases hv
 | ite _ _ _ _ _ _ => intro _ hv; cases hv
 | part _ _ => intro _ hv; cases hv
 | ar _ _ _ _ => intro _ hv; cases hv
 | var _ _ => intro _ hv; cases hv
 | _ => intro _ _ _ _ hU; cases hU
theorem A8i {Γ : GC} {v v' : GE} {U U' : GT} (h : GP Γ v v' U U') : Γ = N0 → GV v → U = .int → ∃ n, v = .num n := by
 induction h with
 | castR _ _ _ i => exact i
 | castL _ _ _ _ => intro _ hv hU; subst hU; cases hv
 | castB _ _ _ _ _ => intro _ hv hU; subst hU; cases hv
 | num => intro _ _ _; exact ⟨_, rfl⟩
 | app _ _ _ _ => intro _ hv; cases hv
 | ite _ _ _ _ _ _ => intro _ hv; cases hv
 | part _ _ => intro _ hv; cases hv
 | ar _ _ _ _ => intro _ hv; cases hv
 | var _ _ => intro _ hv; cases hv
 | _ => intro _ _ hU; cases hU
theorem B2l {Γ : GC} {v v' : GE} {U U' : GT} (h : GP Γ v v' U U') : Γ = N0 → GV v → U = .bool → ∃ b, v = .tru b := by
 induction h with
 | castR _ _ _ i => exact i
 | castL _ _ _ _ => intro _ hv hU; subst hU; cases hv
 | castB _ _ _ _ _ => intro _ hv hU; subst hU; cases hv
 | tru => intro _ _ _; exact ⟨_, rfl⟩
 | app _ _ _ _ => intro _ hv; cases hv
 | ite _ _ _ _ _ _ => intro _ hv; cases hv
 | part _ _ => intro _ hv; cases hv
 | ar _ _ _ _ => intro _ hv; cases hv
 | var _ _ => intro _ hv; cases hv
 | _ => intro _ _ hU; cases hU
theorem B2m {Γ : GC} {v v' : GE} {U U' : GT} (h : GP Γ v v' U U') : Γ = N0 → GV v → U = .any → ∃ H l w, v = .cast H .any l w ∧ GV w ∧ H.Gd := by
 induction h with
 | castR _ _ _ i => exact i
 | castL _ _ _ _ => intro _ hv hU; subst hU; cases hv with | inj h g => exact ⟨_, _, _, rfl, h, g⟩
 | castB _ _ _ _ _ => intro _ hv hU; subst hU; cases hv with | inj h g => exact ⟨_, _, _, rfl, h, g⟩
 | app _ _ _ _ => intro _ hv; cases hv
 | ite _ _ _ _ _ _ => intro _ hv; cases hv
 | part _ _ => intro _ hv; cases hv
 | ar _ _ _ _ => intro _ hv; cases hv
 | var _ _ => intro _ hv; cases hv
 | _ => intro _ _ hU; cases hU
theorem A8j {e e' : GE} {A B A' : GT} {l : Int} (h : GP N0 e e' A A') (hc : Co A B) (hv : GV e) : GV (.cast A B l e) ∨ (∃ r, GS (.cast A B l e) r) ∨ Bd (.cast A B l e) := by
 by_cases hA : A = .any
 ·subst hA
  by_cases hB : B = .any
  ·subst hB; exact .inr (.inl ⟨_, .cid hv (.inl rfl)⟩)
  ·by_cases hg : B.gr = B
   ·obtain ⟨H, m, w, rfl, hw, hH⟩ := B2m h rfl hv rfl
    by_cases he : H = B
    ·subst he; exact .inr (.inl ⟨_, .hit hw hH⟩)
    ·refine .inr (.inr ⟨A4z (by intro h; cases h; exact hB rfl), ?_⟩)
     have hg' := A2N.2 (show B.Gd from ⟨hB, hg⟩)
     have hi : inj (GE.tm (.cast H .any m w)) = true := by
      rw [GE.tm]; unfold inj; rw [Bool.and_eq_true]; exact ⟨rfl, A2N.2 hH⟩
     rw [GE.tm, A2m ((R1 _).2 hv)]
     unfold T0
     rw [if_neg (by decide), if_neg (by decide), if_neg (by decide), if_neg (by decide), if_pos rfl, if_neg, if_neg, if_neg (by rw [hg']; decide), if_neg (by show ¬inj (GE.tm (.cast H .any m w)) = false; rw [hi]; decide), if_neg]
     ·show ¬H.ty.k = B.ty.k
      intro hk
      apply he
      rw [← hH.2, ← hg]
      cases H <;> cases B <;> first | rfl | (simp [GT.ty, Ty.k] at hk)
     ·rw [A1j]; exact hB
     ·intro h; exact hB (A1j.1 h.symm)
   ·exact .inr (.inl ⟨_, .down hv hB hg⟩)
 ·by_cases hB : B = .any
  ·subst hB
   by_cases hg : A.gr = A
   ·exact .inl (.inj hv ⟨hA, hg⟩)
   ·exact .inr (.inl ⟨_, .up hv hA hg⟩)
  ·cases hc with
   | l => exact absurd rfl hA
   | r => exact absurd rfl hB
   | int => exact .inr (.inl ⟨_, .cid hv (.inr (.inl rfl))⟩)
   | bool => exact .inr (.inl ⟨_, .cid hv (.inr (.inr rfl))⟩)
   | fn _ _ => exact .inl (.pf hv)
   | pr _ _ => exact .inl (.pp hv)
theorem A2n {a : GE} (h : Bd a) {e : GE} {k : Int} {nm : ByteArray} {num : Int} {ty fr : Ty} {lb : Int} {ks : List Tm} (he : e.tm = .mk k nm num ty fr lb (a.tm :: ks)) (hv : ¬GV e) : Bd e :=
 ⟨A4z hv, by rw [he]; exact B2g h.1 ks h.2⟩
theorem A5V {a b : GE} (ha : GV a) (h : Bd b) {e : GE} {k : Int} {nm : ByteArray} {num : Int} {ty fr : Ty} {lb : Int} (hk : k ≠ 9) (he : e.tm = .mk k nm num ty fr lb [a.tm, b.tm]) (hv : ¬GV e) : Bd e :=
 ⟨A4z hv, by rw [he]; exact B2h ((R1 _).2 ha) h.1 hk h.2⟩
theorem A4A {e : GE} (h : Bd e) : ¬GV e := fun hv => by have := (R1 e).2 hv; rw [h.1] at this; cases this
theorem A8k {Γ : GC} {e e' : GE} {A A' : GT} (h : GP Γ e e' A A') : Γ = N0 → GV e ∨ (∃ r, GS e r) ∨ Bd e := by
 induction h with
 | var hx _ => intro hE; subst hE; cases hx
 | num => intro _; exact .inl .num
 | tru => intro _; exact .inl .tru
 | lam _ _ _ => intro _; exact .inl .lam
 | app hf ha i j =>
  intro hE
  refine .inr ?_
  rcases i hE with vf | ⟨r, s⟩ | b
  ·rcases j hE with va | ⟨r, s⟩ | b
   ·rcases B2j hf hE vf rfl with ⟨x, C, e, rfl⟩ | ⟨_, _, _, _, _, _, rfl, hw⟩
    ·exact .inl ⟨_, .beta va⟩
    ·exact .inl ⟨_, .appx hw va⟩
   ·exact .inl ⟨_, .app2 vf s⟩
   ·exact .inr (A5V vf b (k := 6) (by decide) rfl (by intro h; cases h))
  ·exact .inl ⟨_, .app1 s⟩
  ·exact .inr (A2n b (k := 6) rfl (by intro h; cases h))
 | @ar Γ t _ _ _ _ ha hb i j =>
  intro hE
  refine .inr ?_
  rcases i hE with va | ⟨r, s⟩ | b
  ·rcases j hE with vb | ⟨r, s⟩ | b
   ·obtain ⟨m, rfl⟩ := A8i ha hE va rfl
    obtain ⟨n, rfl⟩ := A8i hb hE vb rfl
    exact .inl ⟨_, .ar⟩
   ·exact .inl ⟨_, .ar2 va s⟩
   ·exact .inr (A5V va b (k := if t = true then 8 else 7) (by cases t <;> decide) rfl (by intro h; cases h))
  ·exact .inl ⟨_, .ar1 s⟩
  ·exact .inr (A2n b rfl (by intro h; cases h))
 | ite hc _ _ i _ _ =>
  intro hE
  refine .inr ?_
  rcases i hE with vc | ⟨r, s⟩ | b
  ·obtain ⟨m, rfl⟩ := B2l hc hE vc rfl
   exact .inl ⟨_, .ite⟩
  ·exact .inl ⟨_, .ite1 s⟩
  ·exact .inr (A2n b rfl (by intro h; cases h))
 | pair ha hb i j =>
  intro hE
  rcases i hE with va | ⟨r, s⟩ | b
  ·rcases j hE with vb | ⟨r, s⟩ | b
   ·exact .inl (.pair va vb)
   ·exact .inr (.inl ⟨_, .pair2 va s⟩)
   ·exact .inr (.inr (A5V va b (k := 10) (by decide) rfl (by intro h; cases h with | pair _ h => exact A4A b h)))
  ·exact .inr (.inl ⟨_, .pair1 s⟩)
  ·exact .inr (.inr (A2n b rfl (by intro h; cases h with | pair h _ => exact A4A b h)))
 | part h i =>
  intro hE
  refine .inr ?_
  rcases i hE with vc | ⟨r, s⟩ | b
  ·rcases B2k h hE vc rfl with ⟨_, _, rfl, ha, hb⟩ | ⟨_, _, _, _, _, _, rfl, hw⟩
   ·exact .inl ⟨_, .part ha hb⟩
   ·exact .inl ⟨_, .partx hw⟩
  ·exact .inl ⟨_, .part1 s⟩
  ·exact .inr (A2n b rfl (by intro h; cases h))
 | castL h hc _ i =>
  intro hE
  rcases i hE with hv | ⟨r, s⟩ | b
  ·subst hE; exact A8j h hc hv
  ·exact .inr (.inl ⟨_, .cast1 s⟩)
  ·exact .inr (.inr (A2n b rfl (fun h => A4A b h.ofCast)))
 | castR _ _ _ i => exact i
 | castB h hc _ _ i =>
  intro hE
  rcases i hE with hv | ⟨r, s⟩ | b
  ·subst hE; exact A8j h hc hv
  ·exact .inr (.inl ⟨_, .cast1 s⟩)
  ·exact .inr (.inr (A2n b rfl (fun h => A4A b h.ofCast)))
theorem B2n {e : Tm} (h : (H8 e).2.1 = 1) : O3 e = true ∧ D0 e = false ∧ (J5 e).2.1 = 1 ∧ (H8 e).1 = (J5 e).1 := by
 unfold H8 at h ⊢
 split at h
 ·cases h
 ·rename_i h1
  split at h
  ·cases h
  ·rename_i h2
   split at h
   ·rename_i h3; exact absurd h h3
   ·rename_i h3
    split at h
    ·cases h
    ·rename_i h4
     rw [if_neg h1, if_neg h2, if_neg h3, if_neg h4]
     refine ⟨by cases hv : O3 e with | true => rfl | false => exact absurd hv h1, by cases hv : D0 e with | false => rfl | true => exact absurd hv h2, ?_, rfl⟩
     apply Classical.byContradiction
     intro hc; exact h3 hc
theorem A8l {e : Tm} (h : (H8 e).2.1 = 0) (hc : (J5 e).2.1 ≠ 0) : D0 e = true ∧ (H8 e).1 = e := by
 unfold H8 at h ⊢
 split at h
 ·cases h
 ·rename_i h1
  split at h
  ·rename_i h2; rw [if_neg h1, if_pos h2]; exact ⟨h2, rfl⟩
  ·split at h
   ·exact absurd h hc
   ·split at h <;> cases h
theorem B2o {n : Nat} {e : Tm} (h : (H8 e).2.1 = 1) : Q1 (n + 1) e = ((Q1 n (H8 e).1).1, (Q1 n (H8 e).1).2.1, (Q1 n (H8 e).1).2.2.1, (Q1 n (H8 e).1).2.2.2 + 1) := by rw [Q1, if_pos h]
end Gw
end Go.Proofs.YtfpgncjeejickaaGreat
