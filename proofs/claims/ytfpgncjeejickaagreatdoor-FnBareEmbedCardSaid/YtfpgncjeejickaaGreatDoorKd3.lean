/-
  The reference model's TermValid.
-/
import Derived.Test.YtfpgncjeejickaaGreatDoorKd2
import Derived.Test.YtfpgncjeejickaaGreatDoorKd1
import Derived.Test.YtfpgncjeejickaaGreatDoorKd0
import Derived.Laws.Slices
set_option linter.unusedVariables false
set_option linter.unusedSimpArgs false
set_option maxHeartbeats 0
set_option maxRecDepth 100000
set_option synthInstance.maxSize 4000
set_option synthInstance.maxHeartbeats 0
namespace Go.Proofs.YtfpgncjeejickaaGreatDoor
open Go Go.RowKit
namespace Gw
theorem X7 (t : Tm) : M8 t = true ↔ L7 12 14 t 1 = true ∧ D2 t ≤ 30 := by
 have := A6C 30 12 14 t 1 0 (by omega)
 rw [M8, this]
 constructor
 ·rintro ⟨a, b⟩; exact ⟨a, by omega⟩
 ·rintro ⟨a, b⟩; exact ⟨a, by omega⟩
theorem B39 : ∀ (t : Tm) (d : Int) (G : IM) (cells : List Value), 0 ≤ d ∧ d ≤ 12 → A8 G t cells →
  Fn Tryz.prog 187 [.agg ⟨cells⟩, .int .i64 d] [] G (H8 (.bool (L7 12 14 t (13 - d))) G) := by
 refine Tm.ind fun k nm num ty fr lb ks ih d G cells hd hr => ?_
 have hr0 := hr
 have hne := fun h : k ≠ 14 => @A87 k nm num ty fr lb ks.length h
 have har := fun h : W1 k nm num ty fr lb ks.length = true => (T0.1 h).1
 obtain ⟨R, hR⟩ : ∃ R, W1 k nm num ty fr lb ks.length = R := ⟨_, rfl⟩
 rw [hR] at hne har
 have hl2 := A86 k nm num ty fr lb ks G cells hr0 R
 have hk1 := A42 k G
 obtain ⟨tk, tks⟩ := ty
 obtain ⟨fk, fks⟩ := fr
 obtain ⟨pt, ct, pf, cf, p, c, es, rfl, hk, hnum, hlb, hty, hfr, hsl, hkl⟩ := hr.open9
 have hn := hsl.le
 clear hr hr0
 refine B7 Tryz.func187 rfl Tryz.ntmps187 Tryz.results187 rfl ?_
 intro w0
 refine A1 ?_
 refine sE (C7 rfl rfl) rfl (fun b3 => ?_)
 refine B1 ?_
 refine E3 E4 rfl ?_
 refine J5 (i := 0) (l' := [tt,ff,ff,ff,ff,ff,ff,ff,ff,ff,ff,ff,ff,ff,ff,ff,ff,ff,ff,ff,ff]) rfl D7 (qM rfl) rfl (by kernel_rfl) rfl rfl ?_
 refine A0Q (i := 1) (l' := [tt,tt,ff,ff,ff,ff,ff,ff,ff,ff,ff,ff,ff,ff,ff,ff,ff,ff,ff,ff,ff]) rfl D7 (K6 rfl rfl) rfl (by kernel_rfl) rfl rfl (fun h11 => ?_) (fun h11 => ?_)
 refine aP 2 rfl (qM rfl) rfl ?_
 refine C1 3 rfl rfl rfl ?_
 refine C1 4 rfl rfl rfl ?_
 refine C1 6 rfl rfl rfl ?_
 refine C1 7 rfl rfl rfl ?_
 refine C1 8 rfl rfl rfl ?_
 refine C1 5 rfl rfl rfl ?_
 refine C1 9 rfl rfl rfl ?_
 refine aP 10 rfl (O4 rfl rfl) rfl ?_
 refine aP 11 rfl (qM rfl) rfl ?_
 refine C1 12 rfl rfl rfl ?_
 refine C1 13 rfl rfl rfl ?_
 refine C1 14 rfl rfl rfl ?_
 refine aP 15 rfl (O4 rfl rfl) rfl ?_
 refine aP 16 rfl (qM rfl) rfl ?_
 refine C1 17 rfl rfl rfl ?_
 refine C1 18 rfl rfl rfl ?_
 refine C1 19 rfl rfl rfl ?_
 refine aP 20 rfl (O4 rfl rfl) rfl ?_
 refine J4 ?_
 (rw [A1u (by rw [hR]; first | omega | exact .inr (.inr (by assumption)) | exact .inr (.inr (by cases R with | false => rfl | true => exact absurd (har rfl) (by omega))))]; exact ⟨rfl, rfl, rfl⟩)
 refine aP 2 rfl (qM rfl) rfl ?_
 refine aP 3 rfl (B9 rfl) rfl ?_
 refine aL 4 rfl (D3 rfl rfl) rfl ?_
 refine aP 6 rfl (B9 rfl) rfl ?_
 refine aL 7 rfl (D3 rfl rfl) rfl ?_
 refine aP 8 rfl (pLn rfl rfl) rfl ?_
 refine A3 5 ?_
 refine P4 rfl rfl (hk1) rfl rfl rfl ?_
 refine A0Q (i := 9) (l' := [tt,tt,tt,tt,tt,tt,tt,tt,tt,tt,ff,ff,ff,ff,ff,ff,ff,ff,ff,ff,ff]) rfl D7 (N7 rfl rfl) rfl (by kernel_rfl) rfl rfl (fun h51 => ?_) (fun h51 => ?_)
 refine aP 10 rfl (R0 rfl rfl) rfl ?_
 refine aP 11 rfl (qM rfl) rfl ?_
 refine C1 12 rfl rfl rfl ?_
 refine C1 13 rfl rfl rfl ?_
 refine C1 14 rfl rfl rfl ?_
 refine aP 15 rfl (O4 rfl rfl) rfl ?_
 refine aP 16 rfl (qM rfl) rfl ?_
 refine C1 17 rfl rfl rfl ?_
 refine C1 18 rfl rfl rfl ?_
 refine C1 19 rfl rfl rfl ?_
 refine aP 20 rfl (O4 rfl rfl) rfl ?_
 refine J4 ?_
 (rw [A1u (by rw [hR]; first | omega | exact .inr (.inr (by assumption)) | exact .inr (.inr (by cases R with | false => rfl | true => exact absurd (har rfl) (by omega))))]; exact ⟨rfl, rfl, rfl⟩)
 refine aP 10 rfl (R0 rfl rfl) rfl ?_
 refine aP 11 rfl (qM rfl) rfl ?_
 refine aP 12 rfl (B9 rfl) rfl ?_
 refine aL 13 rfl (D3 rfl rfl) rfl ?_
 refine A0Q (i := 14) (l' := [tt,tt,tt,tt,tt,tt,tt,tt,tt,tt,tt,tt,tt,tt,tt,ff,ff,ff,ff,ff,ff]) rfl D7 (qE rfl rfl) rfl (by kernel_rfl) rfl rfl (fun h79 => ?_) (fun h79 => ?_)
 refine aP 15 rfl (R0 rfl rfl) rfl ?_
 refine aP 16 rfl (qM rfl) rfl ?_
 refine C1 17 rfl rfl rfl ?_
 refine C1 18 rfl rfl rfl ?_
 refine C1 19 rfl rfl rfl ?_
 refine aP 20 rfl (O4 rfl rfl) rfl ?_
 refine J4 ?_
 (rw [A1u (by rw [hR]; first | omega | exact .inr (.inr (by assumption)) | exact .inr (.inr (by cases R with | false => rfl | true => exact absurd (har rfl) (by omega))))]; exact ⟨rfl, rfl, rfl⟩)
 refine aP 15 rfl (R0 rfl rfl) rfl ?_
 refine aP 16 rfl (qM rfl) rfl ?_
 refine aL 17 rfl (A4 rfl rfl) rfl ?_
 refine A3 18 ?_
 refine U7 rfl rfl (hl2 (hne (by omega) (by omega))) rfl rfl rfl (fun h102 => ?_) (fun h102 => ?_)
 refine aP 19 rfl (pNt rfl) rfl ?_
 refine aP 20 rfl (R0 rfl rfl) rfl ?_
 refine J4 ?_
 refine C0 ?_
 (refine L9 (fun (i : Nat) => ⟨[(5, .int .i64 i), (2, .pointer (some ⟨b3, 0, none⟩)), (1, .int .i64 d)], [.blk b3 [.int .i64 k, .string nm, .int .i64 num, .int .i64 tk, .slice pt tks.length ct, .int .i64 fk, .slice pf fks.length cf, .int .i64 lb, .slice p ks.length c]], G⟩) (fun i => i ≤ ks.length ∧ ∀ j (h : j < ks.length), j < i → L7 12 14 ks[j] (13 - d + 1) = true) (fun i => ks.length - i) 0 ?_ ?_ ?_)
 exact D5
 exact ⟨by omega, by omega⟩
 (rintro i ⟨hi, hf⟩)
 refine B4 ?_
 refine sB (K6 rfl rfl) rfl rfl (fun h128 => ?_) (fun h128 => ?_)
 refine A7 ?_
 refine C0 ?_
 refine B1 ?_
 (obtain ⟨b, o, e, rfl, hl, hat, hre, hgb⟩ := hsl.kidTm hkl (i := i) (by omega) (by omega); refine sP (B8 rfl rfl rfl (by omega)) rfl rfl ?_)
 refine sL (A2 rfl rfl (hat _) hl) rfl rfl ?_
 refine E8 ?_
 refine sP (Q5 rfl rfl (by omega) (by omega)) rfl rfl ?_
 (have hih := ih ks[i] (List.getElem_mem (by omega)) (d - 1) G _ (by omega) hre; rw [show 13 - (d - 1) = 13 - d + 1 by omega] at hih; refine E1 rfl hih rfl rfl (fun h145 => ?_) (fun h145 => ?_))
 refine D8 ?_
 refine sP (K5 rfl rfl (by omega) (by omega)) rfl rfl ?_
 refine A1 ?_
 refine L0 (i + 1) ?_ ?_ ?_
 exact D5
 exact ⟨by omega, fun j hj hji => by (by_cases he : j = i; (subst he; assumption); exact hf j hj (by omega))⟩
 omega
 refine J7 ?_
 (rw [A0V (by omega) (by omega) (hR.trans (by assumption)), A6z (i := i) (by omega) (by assumption)]; exact ⟨rfl, rfl, rfl⟩)
 refine I6 ?_
 (rw [A0V (by omega) (by omega) (hR.trans (by assumption)), (A0U 12 14 ks _).2 (fun j hj => hf j hj (by omega))]; exact ⟨rfl, rfl, rfl⟩)
 refine aP 19 rfl (pNf rfl) rfl ?_
 refine aP 20 rfl (R0 rfl rfl) rfl ?_
 refine J4 ?_
 (rw [A1u (by rw [hR]; first | omega | exact .inr (.inr (by assumption)) | exact .inr (.inr (by cases R with | false => rfl | true => exact absurd (har rfl) (by omega))))]; exact ⟨rfl, rfl, rfl⟩)
theorem A46 (t : Tm) (G : IM) (cells : List Value) (hcnt : D2 t ≤ 4294967296) (hr : A8 G t cells) :
  Fn Tryz.prog 132 [.agg ⟨cells⟩] [] G (H8 (.bool (M8 t)) G) := by
 have hl := hr.len
 have hv := B39 t 12 G cells (by omega) hr
 have hc := fun h => A9h 12 14 t 12 G cells (by omega) h hcnt hr
 have hi := X7 t
 obtain ⟨R, hR⟩ : ∃ R, M8 t = R := ⟨_, rfl⟩
 rw [hR] at hi ⊢
 refine B7 Tryz.func132 rfl Tryz.ntmps132 Tryz.results132 rfl ?_
 intro w0
 refine A1 ?_
 refine sE (C7 rfl rfl) rfl (fun b3 => ?_)
 refine B1 ?_
 refine sL (A2 rfl rfl (B2 (by repeat first | exact mH | apply mT)) (by assumption)) rfl rfl ?_
 refine E1 rfl (hv) rfl rfl (fun h10 => ?_) (fun h10 => ?_)
 refine E8 ?_
 refine sL (A2 rfl rfl (B2 (by repeat first | exact mH | apply mT)) (by assumption)) rfl rfl ?_
 refine I3 rfl (hc (by assumption)) rfl rfl ?_
 refine sB (A0t rfl rfl) rfl rfl (fun h14 => ?_) (fun h14 => ?_)
 refine A7 ?_
 exact ⟨rfl, by rw [hi.2 ⟨by assumption, by omega⟩], rfl⟩
 refine A7 ?_
 exact ⟨rfl, by (cases R with | false => rfl | true => (exfalso; have h0 := hi.1 rfl; first | omega | simp_all)), rfl⟩
 refine J2 ?_
 exact ⟨rfl, by (cases R with | false => rfl | true => (exfalso; have h0 := hi.1 rfl; first | omega | simp_all)), rfl⟩
theorem Sw.same {hp hp' : List A5} {e : A5} (h : Sw hp e e hp') : hp' = hp := by
 generalize he : e = e' at h
 have : ∀ {hp e e' hp'}, Sw hp e e' hp' → e = e' → hp' = hp := by
  intro hp e e' hp' h
  induction h with
  | here => rintro rfl; rfl
  | there _ ih => intro he; rw [ih he]
 subst he
 exact this h rfl
section
variable {P : Program} {Γ : L8} {env : M7} {hp : List A5} {G : IM} {ty : TypeId}
theorem A9i {d : Nat} {x y : Operand} {t el : TypeId} {i : M3} {sz by' : Nat} {zs : List Value} [hI : H6 P t i] {ie : M3} [hEl : H6 P el ie] (hd' : i.desc = .slice el) [hE : W6 P el sz by' zs] {p q : Option Addr} {c n m c2 : Nat} {cs news : List Value} {hp' : Option Addr → Nat → List A5}
  (hd : Nat.blt d Γ.n = true) (hx : evo env x = some (.slice p n c)) (hy : evo env y = some (.slice q m c2)) (hsz : Nat.blt 0 sz = true)
  (hm : ∀ p' c', Sw hp (.slc p c el sz n cs) (.slc p' c' el sz (n + m) (cs ++ news)) (hp' p' c'))
  (hS : Sl G q m c2 sz news) (h1 : ∀ u ∈ news, u.oneCell' = true) (hc : n ≤ c)
  (h63 : n + m ≤ maxLen) (hb : (n + m) * by' ≤ 140737488355328) :
  Y3 P Γ ⟨env, hp, G⟩ (some d) (.call ⟨.builtin .append, ⟨[x, y]⟩, ⟨[t, t]⟩⟩) ty (K0 p) (fun σ' => ∃ p' c', σ' = ⟨(d, .slice p' (n + m) c') :: env, hp' p' c', G⟩) := by
 obtain ⟨hl, _, _, hat⟩ := hS
 rcases Nat.eq_zero_or_pos m with rfl | hm0
 ·obtain rfl : news = [] := List.length_eq_zero_iff.1 (by omega)
  have hpu := B21 (P := P) (Γ := Γ) (hp := hp) (G := G) (ty := ty) (t := t) (el := el) hd' hx hy hc
  refine ⟨fun a w hs pos af gd Q next hn => ?_⟩
  simp only [Oper.wp, hpu.run a w hs, Oper.upon]
  refine hn _ _ _ (hs.put d _ (by simpa using hd) hs.res) (Ext.refl _ _) ⟨p, c, ?_⟩
  have h0 := hm p c
  simp only [Nat.add_zero, List.append_nil] at h0 ⊢
  rw [h0.same]
 ·obtain ⟨b, o, full, rfl, hg, hv⟩ := hat.resolve_left (by omega)
  exact A59 hd' hd hx hy hsz hm (A4H hg hv) hl h1 h63 hb
variable {K : Po} {ops : Array Oper} {rest : List Oper} {pos : String} {af : Array Edge} {gd : Option (Nat × Bool)}
theorem A6E {d : Nat} {x y : Operand} {t el : TypeId} {i : M3} {sz by' : Nat} {zs : List Value} [hI : H6 P t i] {ie : M3} [hEl : H6 P el ie] [hE : W6 P el sz by' zs] {p q : Option Addr} {c n m c2 : Nat} {cs news : List Value} {hp' : Option Addr → Nat → List A5}
  (hd' : i.desc = .slice el) (hd : Nat.blt d Γ.n = true) (hx : evo env x = some (.slice p n c)) (hy : evo env y = some (.slice q m c2)) (hsz : Nat.blt 0 sz = true)
  (hm : ∀ p' c', Sw hp (.slc p c el sz n cs) (.slc p' c' el sz (n + m) (cs ++ news)) (hp' p' c'))
  (hS : Sl G q m c2 sz news) (h1 : ∀ u ∈ news, u.oneCell' = true) (hc : n ≤ c)
  (h63 : n + m ≤ maxLen) (hb : (n + m) * by' ≤ 140737488355328) (hw : N0 ops env gd = some true)
  (k : ∀ p' c', I4 P Γ ops rest K ⟨(d, .slice p' (n + m) c') :: env, hp' p' c', G⟩) : I4 P Γ ops (⟨some d, .call ⟨.builtin .append, ⟨[x, y]⟩, ⟨[t, t]⟩⟩, ty, pos, af, gd⟩ :: rest) K ⟨env, hp, G⟩ :=
 M5 (A9i hd' hd hx hy hsz hm hS h1 hc h63 hb) hw (by rintro _ ⟨p', c', rfl⟩; exact k p' c')
theorem A29 {H : List (Nat × Nat)} {fuel : Nat} {listed l' : List Bool} {j d : Nat} {cs : List Value} {x y : Operand} {t el : TypeId} {i : M3} {sz by' : Nat} {zs : List Value} [hI : H6 P t i] {ie : M3} [hEl : H6 P el ie] [hE : W6 P el sz by' zs] {p q : Option Addr} {c n m c2 : Nat} {news : List Value} {hp' : Option Addr → Nat → List A5} {H' : List (Nat × Nat)}
  (hi : ops[j]? = some ⟨some d, .call ⟨.builtin .append, ⟨[x, y]⟩, ⟨[t, t]⟩⟩, ty, pos, af, gd⟩) (hd' : i.desc = .slice el)
  (hd : Nat.blt d Γ.n = true) (hx : evo env x = some (.slice p n c)) (hy : evo env y = some (.slice q m c2)) (hsz : Nat.blt 0 sz = true)
  (hm : ∀ p' c', Sw hp (.slc p c el sz n cs) (.slc p' c' el sz (n + m) (cs ++ news)) (hp' p' c'))
  (hS : Sl G q m c2 sz news) (h1 : ∀ u ∈ news, u.oneCell' = true) (hc : n ≤ c)
  (h63 : n + m ≤ maxLen) (hb : (n + m) * by' ≤ 140737488355328) (hw : N0 ops env gd = some true) (hl : listed.set j true = l')
  (hok : A9 ops j hp G (.slc p c el sz n cs) H H')
  (k : ∀ p' c', O3 P Γ ops K H' fuel l' ⟨(d, .slice p' (n + m) c') :: env, hp' p' c', G⟩) : V6 P Γ ops K H fuel listed j ⟨env, hp, G⟩ :=
 A3M hi (A9i hd' hd hx hy hsz hm hS h1 hc h63 hb) hw hl (fun _ _ hs => hok.spec hs) hok.filter (by rintro _ ⟨p', c', rfl⟩; exact k p' c')
theorem A0d {H H' : List (Nat × Nat)} {fuel : Nat} {listed l' : List Bool} {j d : Nat} {f : FuncId} [hF : B5 P f] {xs : List Operand} {ats : Array TypeId} {vs : List Value} {e : A5} {rst : List A5} {post : IM → Value → List A5 → Prop}
  (hi : ops[j]? = some ⟨some d, .call ⟨.value (.func f), ⟨xs⟩, ats⟩, ty, pos, af, gd⟩) (hx : evl env xs = some vs) (h : Fn P f vs [e] G post) (hp' : hp.Perm ([e] ++ rst)) (hw : N0 ops env gd = some true) (hd : Nat.blt d Γ.n = true) (hl : listed.set j true = l')
  (hok : A9 ops j hp G e H H')
  (k : ∀ v G' outs, C2 G G' → post G' v outs → O3 P Γ ops K H' fuel l' ⟨(d, v) :: env, outs ++ rst, G'⟩) : V6 P Γ ops K H fuel listed j ⟨env, hp, G⟩ :=
 A3M hi (A4J hx h hp' hd) hw hl (fun _ _ hs => by simpa [Fp] using hok.spec hs) hok.filter (by rintro _ ⟨v, G', outs, rfl, hle, hq⟩; exact k v G' outs hle hq)
end
section forget
variable {P : Program} {Γ : L8} {env : M7} {hp : List A5} {G : IM} {K : Po} {ops : Array Oper} {rest : List Oper} {ty : TypeId} {pos : String} {af : Array Edge} {gd : Option (Nat × Bool)}
end forget
def tAt : Tm → List Int → Option Tm
 | t, [] => some t
 | .mk _ _ _ _ _ _ ks, i :: is => if h : 0 ≤ i ∧ i < ks.length then tAt (ks[i.toNat]'(by omega)) is else none
def z9 : List Value := [.int .i64 0, .string ⟨⟨[]⟩⟩, .int .i64 0, .int .i64 0, .slice none 0 0, .int .i64 0, .slice none 0 0, .int .i64 0, .slice none 0 0]
def AtP (t : Tm) (path : List Int) (G : IM) : IM → Value → List A5 → Prop := fun G' v outs => G' = G ∧ outs = [] ∧
 ((∃ x cells, tAt t path = some x ∧ A8 G x cells ∧ v = .tuple ⟨[.agg ⟨cells⟩, .bool true]⟩) ∨ (tAt t path = none ∧ v = .tuple ⟨[.agg ⟨z9⟩, .bool false]⟩))
def E2 : Tm := .mk 0 ⟨⟨[]⟩⟩ 0 (.mk 0 []) (.mk 0 []) 0 []
theorem O7.zero (G : IM) : O7 G E2 z9 [] := by
 simp only [E2, O7, P5, O1, N2, z9]
 refine ⟨[.int .i64 0, .slice none 0 0], [.int .i64 0, .slice none 0 0], none, 0, [], [], [], [], rfl, ⟨by omega, by omega⟩, ⟨by omega, by omega⟩, ⟨by omega, by omega⟩, ?_, ?_, D6.nil _ _, ⟨rfl, rfl⟩, rfl, by simp [K0]⟩
 ·exact ⟨none, 0, [], [], rfl, ⟨by omega, by omega⟩, D6.nil _ _, ⟨rfl, rfl⟩, rfl, by simp [K0]⟩
 ·exact ⟨none, 0, [], [], rfl, ⟨by omega, by omega⟩, D6.nil _ _, ⟨rfl, rfl⟩, rfl, by simp [K0]⟩
def B9V (t : Tm) (path : List Int) : Tm × Bool := if J1 t = true then (match tAt t path with | some x => (x, true) | none => (E2, false)) else (E2, false)
def TbP (r : Tm × Bool) (G : IM) : IM → Value → List A5 → Prop := M9 fun G' v => ∃ cells F, v = .tuple ⟨[.agg ⟨cells⟩, .bool r.2]⟩ ∧ O7 (C8 G' G) r.1 cells F ∧ F.Nodup
theorem TbP.mk {r : Tm × Bool} {x : Tm} {b : Bool} {G G' : IM} {cells : List Value} {F : List Nat} (h : r = (x, b)) (hs : O7 (C8 G' G) x cells F) (hn : F.Nodup) : TbP r G G' (.tuple ⟨[.agg ⟨cells⟩, .bool b]⟩) [] := by
 subst h; exact ⟨rfl, cells, F, rfl, hs, hn⟩
structure A47 {ι : Type} (S : ι → Sy) (φ : ι → Prop) (e : Exit) (σ : Sy) : Prop where
 run : match e with
  | .normal => ∃ i, φ i ∧ Sub σ (S i)
  | _ => False
section cut
variable {P : Program} {Γ : L8} {K : Po} {σ : Sy} {ι : Type}
theorem Z4 {c y : Code} (S : ι → Sy) (φ : ι → Prop) (h : J3 P Γ c (A47 S φ) σ) (k : ∀ i, φ i → J3 P Γ y K (S i)) : J3 P Γ c (A03 P Γ y K) σ := by
 refine tri_post h ?_
 rintro e σ ⟨hk⟩
 cases e with
 | normal => obtain ⟨i, hi, hs⟩ := hk; exact ⟨A71 hs (k i hi)⟩
 | _ => exact hk.elim
where
 tri_post {c : Code} {K K' : Po} {σ : Sy} (h : J3 P Γ c K σ) (hk : ∀ e σ, K e σ → K' e σ) : J3 P Γ c K' σ := A5W h hk
theorem P8 {S : ι → Sy} {φ : ι → Prop} {σ : Sy} (i : ι) (hs : Sub σ (S i)) (h : φ i) : A47 S φ .normal σ := ⟨⟨i, h, hs⟩⟩
theorem B4a {S : ι → Sy} {φ : ι → Prop} : A0a (A47 S φ) := fun _ _ h => h.run
instance npC5 {S : ι → Sy} {φ : ι → Prop} : NpC (A47 S φ) := ⟨B4a⟩
end cut
section take
variable {P : Program} {Γ : L8} {env : M7} {hp : List A5} {G : IM} {K : Po} {ops : Array Oper} {rest : List Oper} {ty : TypeId} {pos : String} {af : Array Edge} {gd : Option (Nat × Bool)}
theorem I0 {d : Nat} {f : FuncId} [hF : B5 P f] {xs : List Operand} {ats : Array TypeId} {vs : List Value} {ins rst : List A5} {post : IM → Value → List A5 → Prop}
  (hx : evl env xs = some vs) (h : Fn P f vs ins G post) (hp' : hp.Perm (ins ++ rst)) (hw : N0 ops env gd = some true) (hd : Nat.blt d Γ.n = true)
  (k : ∀ v G' outs, C2 G G' → post G' v outs → I4 P Γ ops rest K ⟨(d, v) :: env, outs ++ rst, G'⟩) : I4 P Γ ops (⟨some d, .call ⟨.value (.func f), ⟨xs⟩, ats⟩, ty, pos, af, gd⟩ :: rest) K ⟨env, hp, G⟩ :=
 M5 (A4J hx h hp' hd) hw (by rintro _ ⟨v, G', outs, rfl, hle, hq⟩; exact k v G' outs hle hq)
end take
theorem A0e (G : IM) (br : Nat) (pb : Option Addr) (nb cb p : Nat) (bs : List UInt8) (q : Option Addr) (n c : Nat) (xs : List Value) (hb : Sl G pb nb cb 1 (O9 bs)) (hnb : nb ≤ 2000) (hp : p < 1099511627776) (hx : Sl G q n c 1 xs) (hn : 0 < n) :
  Fn Tryz.prog 89 [.pointer (some ⟨br, 0, none⟩), .slice q n c] [rd br pb nb cb p] G (fun G' v outs => G' = G ∧ outs = [rd br pb nb cb (p + 1)] ∧ v ∈ xs) := by
 refine B7 Tryz.func89 rfl Tryz.ntmps89 Tryz.results89 rfl ?_
 intro w0
 refine J4 ?_
 (refine I0 rfl (Y6 G br pb nb cb p bs (n : Int) hb hnb hp) (List.Perm.refl _) rfl rfl (fun v G1 outs hle1 hh => ?_); obtain ⟨rfl, rfl, k, rfl, hk0, hkn⟩ := hh; obtain ⟨j, rfl⟩ := Int.eq_ofNat_of_zero_le hk0)
 (obtain ⟨b, o, v, rfl, hv, hat, _⟩ := hx.kid (i := j) (by omega); refine sP (B8 rfl rfl rfl (by omega)) rfl rfl ?_)
 refine sL (A0u rfl rfl (hat _)) rfl rfl ?_
 refine B3 ?_
 refine H5 (rT rfl) A0.refl ?_
 exact ⟨rfl, rfl, List.mem_of_getElem? hv⟩
theorem A6F (G : IM) (br : Nat) (pb : Option Addr) (nb cb p : Nat) (bs : List UInt8) (q : Option Addr) (n c : Nat) (xs : List Value) (hb : Sl G pb nb cb 1 (O9 bs)) (hnb : nb ≤ 2000) (hp : p < 1099511627776) (hx : Sl G q n c 1 xs) (hn : 0 < n) :
  Fn Tryz.prog 133 [.pointer (some ⟨br, 0, none⟩), .slice q n c] [rd br pb nb cb p] G (fun G' v outs => G' = G ∧ outs = [rd br pb nb cb (p + 1)] ∧ v ∈ xs) := by
 refine B7 Tryz.func133 rfl Tryz.ntmps133 Tryz.results133 rfl ?_
 intro w0
 refine J4 ?_
 (refine I0 rfl (Y6 G br pb nb cb p bs (n : Int) hb hnb hp) (List.Perm.refl _) rfl rfl (fun v G1 outs hle1 hh => ?_); obtain ⟨rfl, rfl, k, rfl, hk0, hkn⟩ := hh; obtain ⟨j, rfl⟩ := Int.eq_ofNat_of_zero_le hk0)
 (obtain ⟨b, o, v, rfl, hv, hat, _⟩ := hx.kid (i := j) (by omega); refine sP (B8 rfl rfl rfl (by omega)) rfl rfl ?_)
 refine sL (A0u rfl rfl (hat _)) rfl rfl ?_
 refine B3 ?_
 refine H5 (rT rfl) A0.refl ?_
 exact ⟨rfl, rfl, List.mem_of_getElem? hv⟩
theorem A1v (G : IM) : Fn Tryz.prog 95 [] [] G (H8 (.agg ⟨[.int .i64 1, .slice none 0 0]⟩) G) := by
 refine B7 Tryz.func95 rfl Tryz.ntmps95 Tryz.results95 rfl ?_
 intro w0
 refine A1 ?_
 refine sE (B0 rfl) rfl (fun b3 => ?_)
 refine D8 ?_
 refine L3 (rC rfl (A4 rfl rfl)) ?_
 exact ⟨rfl, rfl, rfl⟩
def dB : Nat → Nat
 | 0 => 0
 | d + 1 => 2 * dB d + 2
theorem B4b {d : Nat} (h : d ≤ 3) : dB (d + 1) ≤ 30 := by
 have : d = 0 ∨ d = 1 ∨ d = 2 ∨ d = 3 := by omega
 rcases this with rfl | rfl | rfl | rfl <;> decide
theorem B4c (k : Int) : V4 k ≤ 2 := by
 unfold V4; split <;> try split
 all_goals omega
theorem A48 : ∀ (ts : List Ty) (t : Ty), P6 (ts ++ [t]) = P6 ts + L4 t
 | [], t => by simp [P6]
 | a :: ts, t => by simp only [List.cons_append, P6, A48 ts t]; omega
theorem H0.ty {G : IM} {k : Int} {ts : List Ty} {es : List (List Value)} {p : Option Addr} {n c : Nat} (h : H0 G ts es) (hn : ts.length = n) (hs : Sl G p n c 2 es.flatten) (hk : F8 k) : C3 G (.mk k ts) [.int .i64 k, .slice p n c] := by
 subst hn
 simp only [C3]
 exact ⟨p, c, es, rfl, hk, D6.of hs h.len h.all (fun e he => (h.each e he).2), h⟩
theorem A36 (br : Nat) (pb : Option Addr) (nb cb : Nat) (bs : List UInt8) (hnb : nb ≤ 2000) : ∀ (d p : Nat) (G : IM), d ≤ 1000 → Sl G pb nb cb 1 (O9 bs) → p + dB (d + 1) < 1099511627776 →
  Fn Tryz.prog 128 [.pointer (some ⟨br, 0, none⟩), .int .i64 ((d + 1 : Nat) : Int)] [rd br pb nb cb p] G
   (A0z br pb nb cb p (dB (d + 1)) (fun G' v => ∃ t cells, v = .agg ⟨cells⟩ ∧ C3 G' t cells ∧ L4 t ≤ ((dB (d + 1) : Nat) : Int) ∧ R6 d t)) := by
 refine fun d => Nat.strongRecOn d fun d ih p G hd hb hp => ?_
 rw [dB] at hp ⊢
 refine B7 Tryz.func128 rfl Tryz.ntmps128 Tryz.results128 rfl ?_
 intro w0
 refine A1 ?_
 refine sE (B0 rfl) rfl (fun b3 => ?_)
 refine B1 ?_
 (refine M5 (D4 rfl rfl rfl (by omega) (by unfold maxLen; omega) rfl) rfl ?_; rintro _ ⟨b9, rfl⟩)
 (refine V8 (by repeat (first | exact Pk.here | apply Pk.there)) (fun G1 hle1 hsl1 _ => ?_); refine I0 rfl (A0e G1 br pb nb cb p bs _ _ _ _ (hb.mono hle1) hnb (by omega) hsl1 (by decide)) (Pk.perm (by repeat (first | exact Pk.here | apply Pk.there))) rfl rfl (fun v G2 outs hle2 hh => ?_); obtain ⟨rfl, rfl, hv⟩ := hh; replace hb := hb.mono hle1; obtain ⟨k, rfl, hk1⟩ : ∃ k, v = .int .i64 k ∧ 1 ≤ k ∧ k ≤ 5 := (by simp only [List.mem_cons, List.not_mem_nil, or_false] at hv; rcases hv with rfl | rfl | rfl | rfl | rfl | rfl | rfl <;> exact ⟨_, rfl, by decide, by decide⟩))
 refine B1 ?_
 (have hv' := hv; refine Z4 (fun (x : Bool) => ⟨(16, .bool x) :: [(5, .int .i64 k), (4, .pointer (some ⟨b3, 0, none⟩)), (0, .pointer (some ⟨br, 0, none⟩)), (1, .int .i64 ((d + 1 : Nat) : Int))], [rd br pb nb cb (p + 1), .blk b3 [.int .i64 0, .slice none 0 0]], G2⟩) (fun x => x = false → d = 0 → k < 4) ?_ ?_)
 refine A1 ?_
 refine sB (K6 rfl rfl) rfl rfl (fun h19 => ?_) (fun h19 => ?_)
 refine A1 ?_
 refine sB (A06 rfl rfl) rfl rfl (fun h22 => ?_) (fun h22 => ?_)
 refine A1 ?_
 refine P8 true (N8 (by repeat (first | exact E5.nil | refine E5.cons rfl ?_)) (by repeat (first | exact A0.refl | exact A0.nil | refine A0.cons (by repeat (first | exact Pk.here | apply Pk.there)) ?_ | apply A0.drop))) ?_
 (show _ = false → d = 0 → k < 4; intro hf h0; first | exact absurd hf (by decide) | omega)
 refine A1 ?_
 refine P8 false (N8 (by repeat (first | exact E5.nil | refine E5.cons rfl ?_)) (by repeat (first | exact A0.refl | exact A0.nil | refine A0.cons (by repeat (first | exact Pk.here | apply Pk.there)) ?_ | apply A0.drop))) ?_
 (show _ = false → d = 0 → k < 4; intro hf h0; first | exact absurd hf (by decide) | omega)
 refine B1 ?_
 refine P8 false (N8 (by repeat (first | exact E5.nil | refine E5.cons rfl ?_)) (by repeat (first | exact A0.refl | exact A0.nil | refine A0.cons (by repeat (first | exact Pk.here | apply Pk.there)) ?_ | apply A0.drop))) ?_
 (show _ = false → d = 0 → k < 4; intro hf h0; first | exact absurd hf (by decide) | omega)
 (rintro x hx; clear hv)
 (show J3 _ _ (.cond (.tmp 16) _ _) _ _; refine Z4 (fun (x : Int) => ⟨[(5, .int .i64 x), (4, .pointer (some ⟨b3, 0, none⟩)), (0, .pointer (some ⟨br, 0, none⟩)), (1, .int .i64 ((d + 1 : Nat) : Int))], [rd br pb nb cb (p + 1), .blk b3 [.int .i64 0, .slice none 0 0]], G2⟩) (fun x => 1 ≤ x ∧ x ≤ 5 ∧ (d = 0 → x < 4)) (A3B rfl (fun hxt => ?_) (fun hxf => ?_)) ?_)
 refine B6 ?_
 refine P8 1 (N8 (by repeat (first | exact E5.nil | refine E5.cons rfl ?_)) (by repeat (first | exact A0.refl | exact A0.nil | refine A0.cons (by repeat (first | exact Pk.here | apply Pk.there)) ?_ | apply A0.drop))) ?_
 (first | exact ⟨by omega, by omega, by omega⟩ | exact ⟨by omega, by omega, fun h0 => by have := hx hxf h0; omega⟩)
 refine tK ?_
 refine P8 k (N8 (by repeat (first | exact E5.nil | refine E5.cons rfl ?_)) (by repeat (first | exact A0.refl | exact A0.nil | refine A0.cons (by repeat (first | exact Pk.here | apply Pk.there)) ?_ | apply A0.drop))) ?_
 (first | exact ⟨by omega, by omega, by omega⟩ | exact ⟨by omega, by omega, fun h0 => by have := hx hxf h0; omega⟩)
 (rintro kk ⟨hk2, hk3, hk4⟩; have hop := B4c kk; have hk5 := (N9 kk).1; have hk6 := (N9 kk).2.1; have hK := A8V kk)
 refine B3 ?_
 refine sE (B0 rfl) rfl (fun b53 => ?_)
 refine D8 ?_
 refine C0 ?_
 (refine V7 25 2 ?_; refine L9 (fun (x : Nat × Option Addr × Nat × List Ty × List (List Value) × Nat × IM) => ⟨[(7, .int .i64 x.1), (5, .int .i64 kk), (6, .pointer (some ⟨b53, 0, none⟩)), (4, .pointer (some ⟨b3, 0, none⟩)), (0, .pointer (some ⟨br, 0, none⟩)), (1, .int .i64 ((d + 1 : Nat) : Int))], [.blk b53 [.int .i64 kk, .slice x.2.1 x.1 x.2.2.1], .slc x.2.1 x.2.2.1 25 2 x.1 x.2.2.2.2.1.flatten, rd br pb nb cb x.2.2.2.2.2.1, .blk b3 [.int .i64 0, .slice none 0 0]], x.2.2.2.2.2.2⟩) (fun x => (∀ u ∈ x.2.2.2.1, R6 (d - 1) u) ∧ (x.1 : Int) ≤ V4 kk ∧ C2 G2 x.2.2.2.2.2.2 ∧ x.2.2.2.1.length = x.1 ∧ H0 x.2.2.2.2.2.2 x.2.2.2.1 x.2.2.2.2.1 ∧ P6 x.2.2.2.1 ≤ ((x.1 * dB d : Nat) : Int) ∧ p + 1 ≤ x.2.2.2.2.2.1 ∧ x.2.2.2.2.2.1 ≤ p + 1 + x.1 * dB d) (fun x => (V4 kk).toNat - x.1) (0, none, 0, [], [], p + 1, G2) ?_ ?_ ?_)
 (simp only [I7]; exact D5)
 (exact ⟨by simp, by dsimp only; omega, C2.refl _, rfl, by simp [H0], by simp [P6], by dsimp only; omega, by dsimp only; omega⟩)
 (rintro ⟨i, pn, cn, ts, es', p', Gi⟩ ⟨hah, hi, hle, hlt, hst, hsum, hq1, hq2⟩; simp only [] at hah hi hle hlt hst hsum hq1 hq2 ⊢; have hid : i * dB d ≤ 2 * dB d := Nat.mul_le_mul_right _ (by omega))
 refine B1 ?_
 refine I3 rfl ((hK _)) rfl rfl ?_
 refine sB (K6 rfl rfl) rfl rfl (fun h74 => ?_) (fun h74 => ?_)
 refine A7 ?_
 refine C0 ?_
 (obtain ⟨d', rfl⟩ : ∃ d', d = d' + 1 := ⟨d - 1, by omega⟩; have hih := ih d' (by omega) p' Gi (by omega) (hb.mono hle) (by have := Nat.mul_le_mul_right (dB (d' + 1)) (show i + 1 ≤ 2 by omega); rw [Nat.succ_mul] at this; omega); refine E3 E4 rfl ?_)
 refine J5 (i := 0) (l' := [tt,ff,ff,ff,ff,ff,ff,ff,ff,ff]) rfl D7 (B9 rfl) rfl (by kernel_rfl) rfl rfl ?_
 refine aL 1 rfl (D3 rfl rfl) rfl ?_
 refine aP 2 rfl (qM rfl) rfl ?_
 refine aP 3 rfl (qM rfl) rfl ?_
 refine aP 4 rfl (A4Z rfl rfl (by omega)) rfl ?_
 refine A3 5 ?_
 (refine A0d (l' := [tt,tt,tt,tt,tt,tt,ff,ff,ff,ff]) rfl rfl hih (Pk.perm (by repeat (first | exact Pk.here | apply Pk.there))) rfl rfl rfl (by repeat (first | exact A9.nil | apply A9.dep (by decide +kernel) | apply A9.blk (by decide +kernel) (by repeat (first | exact Pk.here | apply Pk.there)) (by repeat first | exact mH | apply mT))) (fun v G3 outs hle3 hh => ?_); obtain ⟨p3, hp31, hp32, rfl, t3, cells3, rfl, hr3, hs3, ha3⟩ := hh; obtain ⟨q3, c3, es3, rfl, _⟩ := hr3.open)
 refine A3 6 ?_
 (refine E6 rfl (D4 rfl rfl rfl (by omega) (by unfold maxLen; omega) rfl) rfl rfl ?_; rintro _ ⟨b91, rfl⟩)
 refine A3 7 ?_
 refine R5 rfl rfl rfl rfl rfl rfl (fun _ _ => by repeat (first | exact Sw.here | apply Sw.there)) (P3 (by repeat first | exact mH | apply mT)) rfl (by simp [Value.oneCell']) (by unfold maxLen; omega) (by omega) rfl rfl (by repeat (first | exact A9.nil | apply A9.dep (by decide +kernel) | apply A9.blk (by decide +kernel) (by repeat (first | exact Pk.here | apply Pk.there)) (by repeat first | exact mH | apply mT))) (fun pn' cn' => ?_)
 refine aP 8 rfl (B9 rfl) rfl ?_
 refine A3 9 ?_
 refine R2 rfl rfl rfl rfl rfl rfl rfl rfl (by kernel_rfl) (by repeat first | exact Sw.here | apply Sw.there) (by rfl) ?_
 refine B1 ?_
 refine sP (K5 rfl rfl (by omega) (by omega)) rfl rfl ?_
 refine A1 ?_
 refine L0 (i + 1, pn', cn', ts ++ [t3], es' ++ [[.int .i64 t3.k, .slice q3 t3.ks.length c3]], p3, G3) ?_ ?_ ?_
 (simp only [I7]; exact D5)
 (dsimp only; have e1 : (i + 1) * dB (d' + 1) = i * dB (d' + 1) + dB (d' + 1) := Nat.succ_mul _ _; have e2 := A48 ts t3; exact ⟨by simp only [List.forall_mem_append, List.forall_mem_singleton]; exact ⟨hah, ha3⟩, by omega, hle.trans hle3, by simp [hlt], H0.snoc (hst.mono hle3) hr3, by omega, by omega, by omega⟩)
 (show (V4 kk).toNat - (i + 1) < (V4 kk).toNat - i; omega)
 refine K2 ?_
 (refine I5 (by repeat (first | exact Pk.here | apply Pk.there)) (fun G5 hle5 hsl5 hno5 => ?_))
 refine tT ?_
 refine H5 (outs := [rd br pb nb cb p']) (rC rfl (A4 rfl rfl)) (by repeat (first | exact A0.nil | refine A0.cons Pk.here ?_ | refine A0.cons (Pk.there Pk.here) ?_ | apply A0.drop)) ?_
 (refine ⟨p', by omega, by omega, rfl, .mk kk ts, _, rfl, (hst.mono hle5).ty hlt hsl5 ⟨by omega, by omega⟩, ?_, B3V hk4 (by omega) hk2 hk3 hah⟩; rw [L4]; omega)
theorem A9j (br : Nat) (pb : Option Addr) (nb cb : Nat) (bs : List UInt8) (hnb : nb ≤ 2000) (d p : Nat) (G : IM) (hd : d ≤ 1000) (hb : Sl G pb nb cb 1 (O9 bs)) (hp : p + dB (d + 1) < 1099511627776) :
  Fn Tryz.prog 128 [.pointer (some ⟨br, 0, none⟩), .int .i64 ((d + 1 : Nat) : Int)] [rd br pb nb cb p] G
   (A0z br pb nb cb p (dB (d + 1)) (fun G' v => ∃ t cells, v = .agg ⟨cells⟩ ∧ C3 G' t cells ∧ L4 t ≤ ((dB (d + 1) : Nat) : Int))) :=
 (A36 br pb nb cb bs hnb d p G hd hb hp).mono fun G' v outs _ ⟨p', h1, h2, h3, t, cells, h4, h5, h6, _⟩ => ⟨p', h1, h2, h3, t, cells, h4, h5, h6⟩
theorem B4d (br : Nat) (pb : Option Addr) (nb cb : Nat) (bs : List UInt8) (hnb : nb ≤ 2000) (p : Nat) (G : IM) (hb : Sl G pb nb cb 1 (O9 bs)) (hp : p + 31 < 1099511627776) :
  Fn Tryz.prog 106 [.pointer (some ⟨br, 0, none⟩)] [rd br pb nb cb p] G
   (A0z br pb nb cb p 31 (fun G' v => ∃ t cells, v = .agg ⟨cells⟩ ∧ C3 G' t cells ∧ L4 t ≤ 30 ∧ R6 3 t)) := by
 refine B7 Tryz.func106 rfl Tryz.ntmps106 Tryz.results106 rfl ?_
 intro w0
 refine A1 ?_
 refine sE (B0 rfl) rfl (fun b3 => ?_)
 refine A7 ?_
 (refine M5 (D4 rfl rfl rfl (by omega) (by unfold maxLen; omega) rfl) rfl ?_; rintro _ ⟨b10, rfl⟩)
 (refine V8 (by repeat (first | exact Pk.here | apply Pk.there)) (fun G1 hle1 hsl1 _ => ?_); refine I0 rfl (A0e G1 br pb nb cb p bs _ _ _ _ (hb.mono hle1) hnb (by omega) hsl1 (by decide)) (Pk.perm (by repeat (first | exact Pk.here | apply Pk.there))) rfl rfl (fun v G2 outs hle2 hh => ?_); obtain ⟨rfl, rfl, hv⟩ := hh; replace hb := hb.mono hle1; obtain ⟨d, rfl, hd⟩ : ∃ d : Nat, v = .int .i64 ((d + 1 : Nat) : Int) ∧ d ≤ 3 := (by simp only [List.mem_cons, List.not_mem_nil, or_false] at hv; rcases hv with rfl | rfl | rfl | rfl | rfl <;> first | exact ⟨0, rfl, by decide⟩ | exact ⟨1, rfl, by decide⟩ | exact ⟨2, rfl, by decide⟩ | exact ⟨3, rfl, by decide⟩))
 (have hdB := B4b hd; refine I0 rfl (A36 br pb nb cb bs hnb d (p + 1) G2 (by omega) hb (by omega)) (Pk.perm (by repeat (first | exact Pk.here | apply Pk.there))) rfl rfl (fun v G3 outs hle3 hh => ?_); obtain ⟨p3, hp31, hp32, rfl, t3, cells3, rfl, hr3, hs3, ha3⟩ := hh; obtain ⟨q3, c3, es3, rfl, _⟩ := hr3.open)
 refine B3 ?_
 refine H5 (outs := [rd br pb nb cb p3]) (rC rfl (A4 rfl rfl)) (by repeat (first | exact A0.nil | refine A0.cons Pk.here ?_ | refine A0.cons (Pk.there Pk.here) ?_ | apply A0.drop)) ?_
 exact ⟨p3, by omega, by omega, rfl, t3, _, rfl, hr3, by omega, ha3.le hd⟩
theorem B4e (br : Nat) (pb : Option Addr) (nb cb : Nat) (bs : List UInt8) (hnb : nb ≤ 2000) (p : Nat) (G : IM) (hb : Sl G pb nb cb 1 (O9 bs)) (hp : p + 31 < 1099511627776) :
  Fn Tryz.prog 106 [.pointer (some ⟨br, 0, none⟩)] [rd br pb nb cb p] G
   (A0z br pb nb cb p 31 (fun G' v => ∃ t cells, v = .agg ⟨cells⟩ ∧ C3 G' t cells ∧ L4 t ≤ 30)) :=
 (B4d br pb nb cb bs hnb p G hb hp).mono fun G' v outs _ ⟨p', h1, h2, h3, t, cells, h4, h5, h6, _⟩ => ⟨p', h1, h2, h3, t, cells, h4, h5, h6⟩
theorem B4f (k : Int) (ks : List Ty) (G : IM) (p : Option Addr) (c : Nat) (hts : (Ty.mk k ks).small) (hr : C3 G (.mk k ks) [.int .i64 k, .slice p ks.length c]) : Fn Tryz.prog 152 [.agg ⟨[.int .i64 k, .slice p ks.length c]⟩] [] G
  (fun G' v outs => ∃ p c es, v = .agg ⟨[.int .i64 k, .slice p ks.length c]⟩ ∧ outs = [.slc p c 25 2 ks.length es.flatten] ∧ H0 G' ks es) := by
 simp only [Ty.small] at hts
 obtain ⟨hsm, hks⟩ := hts
 obtain ⟨p', c', es, he, hk, hsl, hkl⟩ := hr.open
 simp only [Ty.k, Ty.ks, List.cons.injEq, Value.slice.injEq, true_and, and_true] at he hk hsl hkl
 obtain ⟨rfl, rfl⟩ := he
 have hn := hsl.le
 refine B7 Tryz.func152 rfl Tryz.ntmps152 Tryz.results152 rfl ?_
 intro w0
 refine A1 ?_
 refine sE (C7 rfl rfl) rfl (fun b3 => ?_)
 refine sE (B0 rfl) rfl (fun b4 => ?_)
 refine B4 ?_
 refine sE (B0 rfl) rfl (fun b12 => ?_)
 refine D8 ?_
 refine C0 ?_
 (refine V7 25 2 ?_; refine L9 (fun (x : Nat × Option Addr × Nat × List (List Value) × IM) => ⟨[(4, .int .i64 x.1), (3, .pointer (some ⟨b12, 0, none⟩)), (1, .pointer (some ⟨b3, 0, none⟩)), (2, .pointer (some ⟨b4, 0, none⟩))], [.blk b12 [.int .i64 k, .slice x.2.1 x.1 x.2.2.1], .slc x.2.1 x.2.2.1 25 2 x.1 x.2.2.2.1.flatten, .blk b4 [.int .i64 0, .slice none 0 0], .blk b3 [.int .i64 k, .slice p ks.length c]], x.2.2.2.2⟩) (fun x => x.1 ≤ ks.length ∧ C2 G x.2.2.2.2 ∧ H0 x.2.2.2.2 (ks.take x.1) x.2.2.2.1) (fun x => ks.length - x.1) (0, none, 0, [], G) ?_ ?_ ?_)
 (simp only [I7]; exact D5)
 exact ⟨by simp, C2.refl _, by simp [H0]⟩
 (rintro ⟨i, pn, cn, es', Gi⟩ ⟨hi, hle, hst⟩; simp only [] at hi hle hst ⊢; replace hsl := hsl.mono hle; replace hkl := hkl.mono hle)
 refine B4 ?_
 refine sB (K6 rfl rfl) rfl rfl (fun h34 => ?_) (fun h34 => ?_)
 refine A7 ?_
 refine C0 ?_
 (obtain ⟨b, o, p2, c2, rfl, hat, hre, hgb⟩ := hsl.kidTy hkl (i := i) (by omega) (by omega); refine E3 E4 rfl ?_)
 refine J5 (i := 0) (l' := [tt,ff,ff,ff,ff,ff,ff,ff,ff,ff,ff,ff]) rfl D7 (B9 rfl) rfl (by kernel_rfl) rfl rfl ?_
 refine aL 1 rfl (D3 rfl rfl) rfl ?_
 refine aP 2 rfl (B9 rfl) rfl ?_
 refine aL 3 rfl (D3 rfl rfl) rfl ?_
 refine aP 4 rfl (qM rfl) rfl ?_
 refine aP 5 rfl (B8 rfl rfl rfl (by omega)) rfl ?_
 refine aL 6 rfl (A2 rfl rfl (hat _) rfl) rfl ?_
 refine A3 7 ?_
 (refine K4 rfl rfl (W7 ks[i] _ _ (Ty.smallL_mem hks _ (List.getElem_mem (by omega))) hre) rfl rfl rfl (fun v G1 hle1 hh => ?_); obtain ⟨cells', F', rfl, hs', hnd'⟩ := hh; have hr' := hs'.R.mono (C8.le _ _); obtain ⟨p3, c3, es3, rfl, _⟩ := hr'.open)
 refine A3 8 ?_
 (refine E6 rfl (D4 rfl rfl rfl (by omega) (by unfold maxLen; omega) rfl) rfl rfl ?_; rintro _ ⟨b53, rfl⟩)
 refine A3 9 ?_
 refine R5 rfl rfl rfl rfl rfl rfl (fun _ _ => by repeat (first | exact Sw.here | apply Sw.there)) (P3 (by repeat first | exact mH | apply mT)) rfl (by simp [Value.oneCell']) (by unfold maxLen; omega) (by omega) rfl rfl (by repeat (first | exact A9.nil | apply A9.dep (by decide +kernel) | apply A9.blk (by decide +kernel) (by repeat (first | exact Pk.here | apply Pk.there)) (by repeat first | exact mH | apply mT))) (fun pn' cn' => ?_)
 refine aP 10 rfl (B9 rfl) rfl ?_
 refine A3 11 ?_
 refine R2 rfl rfl rfl rfl rfl rfl rfl rfl (by kernel_rfl) (by repeat first | exact Sw.here | apply Sw.there) (by rfl) ?_
 refine B1 ?_
 refine sP (K5 rfl rfl (by omega) (by omega)) rfl rfl ?_
 refine A1 ?_
 refine L0 (i + 1, pn', cn', es' ++ [[.int .i64 ks[i].k, .slice p3 ks[i].ks.length c3]], G1) ?_ ?_ ?_
 (simp only [I7]; exact D5)
 (dsimp only; exact ⟨by omega, hle.trans hle1, by rw [List.take_succ_eq_append_getElem (by omega)]; exact H0.snoc (hst.mono hle1) hr'⟩)
 (show ks.length - (i + 1) < ks.length - i; omega)
 refine I6 ?_
 (obtain rfl : i = ks.length := (by omega); refine H5 (outs := [.slc pn cn 25 2 ks.length es'.flatten]) (rC rfl (A4 rfl rfl)) (by repeat (first | exact A0.nil | refine A0.cons Pk.here ?_ | refine A0.cons (Pk.there Pk.here) ?_ | apply A0.drop)) ?_)
 (rw [List.take_length] at hst; exact ⟨pn, cn, es', rfl, rfl, hst⟩)
theorem A0N (G : IM) : C3 G K1 [.int .i64 1, .slice none 0 0] := by
 simp only [K1, C3]
 exact ⟨none, 0, [], rfl, ⟨by omega, by omega⟩, D6.of (Sl.nil _ _) rfl (by simp) (by simp), by simp [H0]⟩
theorem A6G : L4 K1 = 0 := rfl
theorem B4g (br : Nat) (pb : Option Addr) (nb cb : Nat) (bs : List UInt8) (hnb : nb ≤ 2000) (p : Nat) (G : IM) (hb : Sl G pb nb cb 1 (O9 bs)) (hp : p + 31 < 1099511627776) (t : Ty) (cells : List Value) (hr : C3 G t cells) (hsz : L4 t ≤ 30) :
  Fn Tryz.prog 110 [.pointer (some ⟨br, 0, none⟩), .agg ⟨cells⟩] [rd br pb nb cb p] G
   (A0z br pb nb cb p 2 (fun G' v => ∃ t cells, v = .agg ⟨cells⟩ ∧ C3 G' t cells ∧ L4 t ≤ 38)) := by
 have hts := A3V t (by omega)
 obtain ⟨k, ks⟩ := t
 rw [L4] at hsz
 have hsn := A2b ks
 obtain ⟨q0, c0, es0, rfl, hk, _⟩ := hr.open
 simp only [Ty.k, Ty.ks] at hk hr ⊢
 refine B7 Tryz.func110 rfl Tryz.ntmps110 Tryz.results110 rfl ?_
 intro w0
 refine A1 ?_
 refine sE (C7 rfl rfl) rfl (fun b3 => ?_)
 refine sE (B0 rfl) rfl (fun b4 => ?_)
 refine B1 ?_
 (refine A4N rfl (B4f k ks G q0 c0 hts hr) rfl rfl (fun v G1 outs hle1 hh => ?_); obtain ⟨q, c, es, rfl, rfl, hst⟩ := hh)
 refine sE (B0 rfl) rfl (fun b11 => ?_)
 refine B4 ?_
 (refine I0 rfl (Y6 G1 br pb nb cb p bs 40 (hb.mono hle1) hnb (by omega)) (Pk.perm (by repeat (first | exact Pk.here | apply Pk.there))) rfl rfl (fun v G2 outs hle2 hh => ?_); obtain ⟨rfl, rfl, j, rfl, hj0, hj1⟩ := hh; replace hb := hb.mono hle1)
 refine A1 ?_
 (show J3 _ _ (.block 0 _) _ _; refine Z4 (fun (x : Ty × Option Addr × Nat × Nat × IM) => ⟨[(5, .pointer (some ⟨b11, 0, none⟩)), (4, .pointer (some ⟨b4, 0, none⟩))], [.blk b11 [.int .i64 x.1.k, .slice x.2.1 x.1.ks.length x.2.2.1], .blk b4 [.int .i64 0, .slice none 0 0], rd br pb nb cb x.2.2.2.1], x.2.2.2.2⟩) (fun x => C2 G2 x.2.2.2.2 ∧ C3 x.2.2.2.2 x.1 [.int .i64 x.1.k, .slice x.2.1 x.1.ks.length x.2.2.1] ∧ L4 x.1 ≤ 38 ∧ p ≤ x.2.2.2.1 ∧ x.2.2.2.1 ≤ p + 2) ?_ ?_)
 refine C0 (tS (tR (sB (qE rfl rfl) rfl rfl (fun h26 => ?_) (fun h26 => ?_))))
 refine A7 ?_
 (refine M5 (D4 rfl rfl rfl (by omega) (by unfold maxLen; omega) rfl) rfl ?_; rintro _ ⟨b33, rfl⟩)
 (refine V8 (by repeat (first | exact Pk.here | apply Pk.there)) (fun G3 hle3 hsl3 _ => ?_); refine V8 (by repeat (first | exact Pk.here | apply Pk.there)) (fun G4 hle4 hsl4 _ => ?_); refine I0 rfl (A0e G4 br pb nb cb (p + 1) bs _ _ _ _ (hb.mono (hle3.trans hle4)) hnb (by omega) (hsl3.mono hle4) (by decide)) (Pk.perm (by repeat (first | exact Pk.here | apply Pk.there))) rfl rfl (fun v G5 outs hle5 hh => ?_); obtain ⟨rfl, rfl, hv⟩ := hh; obtain ⟨k', rfl, hk'⟩ : ∃ k', v = .int .i64 k' ∧ F8 k' := (by simp only [List.mem_cons, List.not_mem_nil, or_false] at hv; rcases hv with rfl | rfl | rfl | rfl | rfl <;> exact ⟨_, rfl, by unfold F8; omega⟩))
 refine B3 ?_
 refine P8 (.mk k' ks, q, c, p + 2, G5) ?_ ?_
 (simp only [I7]; exact D5)
 (dsimp only; exact ⟨hle3.trans hle4, (hst.mono (hle3.trans hle4)).ty rfl hsl4 hk', by (rw [L4]; omega), by omega, by omega⟩)
 refine A7 ?_
 refine sB (qE rfl rfl) rfl rfl (fun h48 => ?_) (fun h48 => ?_)
 refine B3 ?_
 refine E3 E4 rfl ?_
 refine J5 (i := 0) (l' := [tt,ff,ff,ff,ff,ff,ff]) rfl D7 (B9 rfl) rfl (by kernel_rfl) rfl rfl ?_
 refine aL 1 rfl (D3 rfl rfl) rfl ?_
 refine A3 2 ?_
 refine P4 rfl rfl ((A1v _)) rfl rfl rfl ?_
 refine A3 3 ?_
 (refine E6 rfl (D4 rfl rfl rfl (by omega) (by unfold maxLen; omega) rfl) rfl rfl ?_; rintro _ ⟨b59, rfl⟩)
 refine A3 4 ?_
 refine R5 rfl rfl rfl rfl rfl rfl (fun _ _ => by repeat (first | exact Sw.here | apply Sw.there)) (P3 (by repeat first | exact mH | apply mT)) rfl (by simp [Value.oneCell']) (by unfold maxLen; omega) (by omega) rfl rfl (by repeat (first | exact A9.nil | apply A9.dep (by decide +kernel) | apply A9.blk (by decide +kernel) (by repeat (first | exact Pk.here | apply Pk.there)) (by repeat first | exact mH | apply mT))) (fun qn cn => ?_)
 (refine A4M (cs := es.flatten ++ [.int .i64 1, .slice none 0 0]) (by repeat (first | exact Pk.here | apply Pk.there)) (fun G6 hle6 hsl6 _ => ?_))
 refine aP 5 rfl (B9 rfl) rfl ?_
 refine A3 6 ?_
 refine R2 rfl rfl rfl rfl rfl rfl rfl rfl (by kernel_rfl) (by repeat first | exact Sw.here | apply Sw.there) (by rfl) ?_
 refine A1 ?_
 refine P8 (.mk k (ks ++ [K1]), qn, cn, p + 1, G6) (by rw [show (Ty.mk k (ks ++ [K1])).ks.length = ks.length + 1 from by simp [Ty.ks]]; exact D5) ?_
 (dsimp only; refine ⟨hle6, H0.ty (ts := ks ++ [K1]) (es := es ++ [[.int .i64 1, .slice none 0 0]]) (H0.snoc (hst.mono hle6) (A0N _)) rfl (by simpa [Ty.ks] using hsl6) hk, ?_, by omega, by omega⟩; rw [L4, A48, A6G, List.length_append]; simp only [List.length_singleton]; omega)
 refine A7 ?_
 refine sB (qE rfl rfl) rfl rfl (fun h76 => ?_) (fun h76 => ?_)
 refine D8 ?_
 refine C0 ?_
 (refine A1Q (by repeat (first | exact Pk.here | apply Pk.there)) (fun G3 hle3 hsl3 _ => ?_); refine L9 (fun (x : Nat × Ty × Option Addr × Nat × IM) => ⟨[(6, .int .i64 x.1), (5, .pointer (some ⟨b11, 0, none⟩)), (4, .pointer (some ⟨b4, 0, none⟩))], [.blk b11 [.int .i64 x.2.1.k, .slice x.2.2.1 x.2.1.ks.length x.2.2.2.1], .blk b4 [.int .i64 0, .slice none 0 0], rd br pb nb cb (p + 1)], x.2.2.2.2⟩) (fun x => x.1 ≤ 4 ∧ C2 G3 x.2.2.2.2 ∧ C3 x.2.2.2.2 x.2.1 [.int .i64 x.2.1.k, .slice x.2.2.1 x.2.1.ks.length x.2.2.2.1] ∧ L4 x.2.1 ≤ 30 + 2 * x.1) (fun x => 4 - x.1) (0, .mk k ks, q, c, G3) ?_ ?_ ?_)
 (simp only [I7]; exact D5)
 (dsimp only; exact ⟨by omega, C2.refl _, (hst.mono hle3).ty rfl hsl3 hk, by (rw [L4]; omega)⟩)
 (rintro ⟨i, ⟨tk, tks⟩, qi, ci, Gi⟩ ⟨hi, hlei, hri, hsi⟩; simp only [Ty.k, Ty.ks] at hi hlei hri hsi ⊢)
 refine B3 ?_
 refine sB (K6 rfl rfl) rfl rfl (fun h95 => ?_) (fun h95 => ?_)
 refine A7 ?_
 refine C0 ?_
 refine E3 E4 rfl ?_
 refine Q9 (i := 1) (l' := [ff,tt,ff,ff,ff]) rfl D7 (A4 rfl rfl) rfl (by kernel_rfl) rfl rfl ?_
 refine A3 0 ?_
 refine P4 rfl rfl ((A1v _)) rfl rfl rfl ?_
 refine A3 2 ?_
 (refine E6 rfl (D4 rfl rfl rfl (by omega) (by unfold maxLen; omega) rfl) rfl rfl ?_; rintro _ ⟨b108, rfl⟩)
 (refine A4M (cs := [.int .i64 1, .slice none 0 0, .int .i64 tk, .slice qi tks.length ci]) (by repeat (first | exact Pk.here | apply Pk.there)) (fun G7 hle7 hsl7 _ => ?_))
 refine aP 3 rfl (pBd rfl rfl) rfl ?_
 refine A3 4 ?_
 refine R2 rfl rfl rfl rfl rfl rfl rfl rfl (by kernel_rfl) (by repeat first | exact Sw.here | apply Sw.there) (by rfl) ?_
 refine B1 ?_
 refine sP (K5 rfl rfl (by omega) (by omega)) rfl rfl ?_
 refine A1 ?_
 refine L0 (i + 1, .mk 4 [K1, .mk tk tks], some ⟨b108, 0, none⟩, 2, G7) ?_ ?_ ?_
 (simp only [I7]; exact D5)
 (dsimp only; refine ⟨by omega, hlei.trans hle7, H0.ty (ts := [K1, .mk tk tks]) (es := [[.int .i64 1, .slice none 0 0], [.int .i64 tk, .slice qi tks.length ci]]) ⟨_, _, rfl, A0N _, _, _, rfl, hri.mono hle7, rfl⟩ rfl hsl7 ⟨by omega, by omega⟩, ?_⟩; rw [L4, P6, P6, P6, A6G]; simp only [List.length_cons, List.length_nil]; omega)
 (show 4 - (i + 1) < 4 - i; omega)
 refine D0 ?_
 refine P8 (.mk tk tks, qi, ci, p + 1, Gi) ?_ ?_
 (simp only [I7]; exact D5)
 (dsimp only; exact ⟨hle3.trans hlei, hri, by omega, by omega, by omega⟩)
 refine B3 ?_
 (refine A1Q (by repeat (first | exact Pk.here | apply Pk.there)) (fun G8 hle8 hsl8 _ => ?_); refine tK ?_)
 refine E8 ?_
 refine P8 (.mk k ks, q, c, p + 1, G8) ?_ ?_
 (simp only [I7]; exact D5)
 (dsimp only; exact ⟨hle8, (hst.mono hle8).ty rfl hsl8 hk, by (rw [L4]; omega), by omega, by omega⟩)
 (rintro ⟨t', q', c', p', G'⟩ ⟨hle9, hr9, hs9, hp9, hp9'⟩; simp only [] at hle9 hr9 hs9 hp9 hp9' ⊢)
 refine B4 ?_
 refine H5 (outs := [rd br pb nb cb p']) (rC rfl (A4 rfl rfl)) (by repeat (first | exact A0.nil | refine A0.cons Pk.here ?_ | refine A0.cons (Pk.there Pk.here) ?_ | apply A0.drop)) ?_
 (exact ⟨p', by omega, by omega, rfl, t', _, rfl, hr9, by omega⟩)
mutual
def H4 : Tm → Tm
 | .mk k nm num ty fr lb ks => if k = 13 ∨ k = 14 then (E9 ks).headD E2 else .mk k nm num (if k = 5 then K1 else A6) A6 0 (E9 ks)
def E9 : List Tm → List Tm
 | [] => []
 | t :: ts => H4 t :: E9 ts
end
theorem A3a : ∀ ks, E9 ks = ks.map H4
 | [] => rfl
 | t :: ts => by rw [E9, A3a ts, List.map_cons]
def A0D : Tm → Tm
 | .mk k nm num ty fr lb ks => if k = 13 ∨ k = 14 then ks.headD E2 else if k = 5 then .mk k nm num K1 fr lb ks else .mk k nm num ty fr lb ks
def A2E : Tm → Prop
 | .mk k _ _ _ _ _ ks => k = 13 ∨ k = 14 → ks ≠ []
theorem A0X {t : Ty} (h : Z3 t = true) : t = A6 := by
 obtain ⟨k, ks⟩ := t
 obtain ⟨h1, h2⟩ : (Ty.mk k ks).k = 0 ∧ (Ty.mk k ks).ks.length = 0 := of_decide_eq_true h
 simp only [Ty.k, Ty.ks] at h1 h2
 have h3 : ks = [] := List.length_eq_zero_iff.1 (by omega)
 rw [h3, A6]
 congr
theorem X8 {D N : Int} {k : Int} {nm : ByteArray} {num : Int} {ty fr : Ty} {lb : Int} {ks : List Tm} {d : Int} (h : L7 D N (.mk k nm num ty fr lb ks) d = true) : d ≤ D ∧ k ≠ N ∧ W1 k nm num ty fr lb ks.length = true ∧ L5 D N ks (d + 1) = true := by
 rw [L7] at h
 simp only [Bool.and_eq_true, decide_eq_true_eq] at h
 exact ⟨h.1.1.1, h.1.1.2, h.1.2, h.2⟩
mutual
theorem A9k (D N : Int) : ∀ (t : Tm) (d : Int), L7 D N t d = true → A0o A0D t = H4 t ∧ mOk A2E A0D t
 | .mk k nm num ty fr lb ks, d, h => by
  obtain ⟨h1, h2, h3, h4⟩ := X8 h
  obtain ⟨e1, e2⟩ := A9l D N ks _ h4
  have hn := T0.1 h3
  rw [A0o, H4, mOk, e1]
  refine ⟨?_, e2, ?_⟩
  ·rw [A0D]
   by_cases hk : k = 13 ∨ k = 14
   ·rw [if_pos hk, if_pos hk]
   ·rw [if_neg hk, if_neg hk]
    obtain ⟨hf, hl⟩ := hn.2.2.2.2.2.2.2.2 (by omega)
    rw [A0X hf, hl]
    by_cases hk5 : k = 5
    ·rw [if_pos hk5, if_pos hk5]
    ·rw [if_neg hk5, if_neg hk5, A0X (hn.2.2.2.2.2.2.1 (by omega))]
  ·rw [A2E]
   intro hk he
   have ha := hn.1
   have : ks.length = 0 := by
    have := congrArg List.length he
    rw [A3a, List.length_map] at this
    simpa using this
   rcases hk with rfl | rfl <;> (rw [this] at ha; revert ha; decide)
theorem A9l (D N : Int) : ∀ (ts : List Tm) (d : Int), L5 D N ts d = true → Y7 A0D ts = E9 ts ∧ A0A A2E A0D ts
 | [], d, h => by rw [Y7, E9, A0A]; exact ⟨rfl, trivial⟩
 | t :: ts, d, h => by
  rw [L5, Bool.and_eq_true] at h
  obtain ⟨a1, a2⟩ := A9k D N t d h.1
  obtain ⟨b1, b2⟩ := A9l D N ts d h.2
  rw [Y7, E9, A0A, a1, b1]
  exact ⟨rfl, a2, b2⟩
end
mutual
theorem A6H : ∀ (t : Tm) (d : Int), L7 12 14 (H4 t) d = true → L7 40 13 (H4 t) d = true
 | .mk k nm num ty fr lb ks, d, h => by
  rw [H4] at h ⊢
  by_cases hk : k = 13 ∨ k = 14
  ·rw [if_pos hk] at h ⊢
   cases ks with
   | nil => exact absurd (X8 (D := 12) (N := 14) h).2.2.1 (by decide)
   | cons x xs =>
    rw [E9] at h ⊢
    exact A6H x d h
  ·rw [if_neg hk] at h ⊢
   obtain ⟨h1, h2, h3, h4⟩ := X8 h
   rw [A0V (by omega) (by omega) h3]
   exact A9m ks _ h4
theorem A9m : ∀ (ts : List Tm) (d : Int), L5 12 14 (E9 ts) d = true → L5 40 13 (E9 ts) d = true
 | [], d, h => by rw [E9, L5]
 | t :: ts, d, h => by
  rw [E9, L5, Bool.and_eq_true] at h ⊢
  exact ⟨A6H t d h.1, A9m ts d h.2⟩
end
theorem B4h {t : Tm} (h : M8 (H4 t) = true) : J1 (H4 t) = true := by
 obtain ⟨h1, h2⟩ := (X7 _).1 h
 exact (A28 _).2 ⟨A6H t 1 h1, by omega⟩
mutual
theorem A49 : ∀ t : Tm, t.small → (H4 t).small ∧ D2 (H4 t) ≤ D2 t
 | .mk k nm num ty fr lb ks, h => by
  simp only [Tm.small] at h
  obtain ⟨h1, h2, h3, h4, h5⟩ := h
  obtain ⟨b1, b2⟩ := A9n ks h5
  rw [H4]
  by_cases hk : k = 13 ∨ k = 14
  ·rw [if_pos hk]
   cases ks with
   | nil => exact ⟨by simp [E9, E2, Tm.small, Ty.small, Ty.smallL, Tm.smallL, ByteArray.size], by rw [D2]; simp [E9, E2, D2, E0]⟩
   | cons x xs =>
    simp only [Tm.smallL] at h5
    obtain ⟨c1, c2⟩ := A49 x h5.1
    rw [E9, D2, E0]
    exact ⟨c1, by show D2 (H4 x) ≤ _; omega⟩
  ·rw [if_neg hk]
   simp only [Tm.small, D2]
   refine ⟨⟨h1, ?_, by simp [A6, Ty.small, Ty.smallL], by rw [A3a, List.length_map]; exact h4, b1⟩, by omega⟩
   by_cases hk5 : k = 5
   ·rw [if_pos hk5]; simp [K1, Ty.small, Ty.smallL]
   ·rw [if_neg hk5]; simp [A6, Ty.small, Ty.smallL]
theorem A9n : ∀ ts : List Tm, Tm.smallL ts → Tm.smallL (E9 ts) ∧ E0 (E9 ts) ≤ E0 ts
 | [], h => by rw [E9]; simp [Tm.smallL]
 | t :: ts, h => by
  simp only [Tm.smallL] at h
  obtain ⟨a1, a2⟩ := A49 t h.1
  obtain ⟨b1, b2⟩ := A9n ts h.2
  rw [E9, E0, E0]
  simp only [Tm.smallL]
  exact ⟨⟨a1, b1⟩, by omega⟩
end
section slaws
variable {P : Program} {Γ : L8} {env : M7} {hp : List A5} {G : IM} {ty : TypeId}
theorem A5a {P : Program} {w : World} {l c : Nat} (hl : l ≤ c) (code : BoundsCode) : (Instr.sliceBound (.int .i64 (l : Int)) c code).run P w = .ok l w := by
 unfold Instr.sliceBound
 simp only [asIntOf, Sem.run_bind, Sem.run_pure, Result.andThen_ok]
 rw [if_pos ⟨by omega, by omega⟩]
 simp
theorem A6I {x y z : Operand} {t : TypeId} {i : M3} [hI : H6 P t i] (hd' : i.desc = .string) {s : ByteArray} {l h : Nat}
  (hx : evo env x = some (.string s)) (hy : evo env y = some (.int .i64 (l : Int))) (hz : evo env z = some (.int .i64 (h : Int))) (hl : l ≤ h) (hh : h ≤ s.size) :
  I2 P Γ ⟨env, hp, G⟩ (.slice t x (some y) (some z) none) ty (.string (s.extract l h)) := by
 refine ⟨fun a _ hs _ _ _ _ w => ?_⟩
 have hu := hI.und
 rw [hd'] at hu
 simp [execOp, (hs.evo hx : a.eval x = _), (hs.evo hy : a.eval y = _), (hs.evo hz : a.eval z = _), Instr.sliceAt, Sem.run_bind, run_underlying hu, Instr.slice, Instr.sliceBounds, A5a hl, A5a hh]
theorem A9o {x z : Operand} {t : TypeId} {i : M3} [hI : H6 P t i] (hd' : i.desc = .string) {s : ByteArray} {h : Nat}
  (hx : evo env x = some (.string s)) (hz : evo env z = some (.int .i64 (h : Int))) (hh : h ≤ s.size) :
  I2 P Γ ⟨env, hp, G⟩ (.slice t x none (some z) none) ty (.string (s.extract 0 h)) := by
 refine ⟨fun a _ hs _ _ _ _ w => ?_⟩
 have hu := hI.und
 rw [hd'] at hu
 simp [execOp, (hs.evo hx : a.eval x = _), (hs.evo hz : a.eval z = _), Instr.sliceAt, Sem.run_bind, run_underlying hu, Instr.slice, Instr.sliceBounds, A5a hh]
theorem A9p {x y : Operand} {t : TypeId} {i : M3} [hI : H6 P t i] (hd' : i.desc = .string) {s : ByteArray} {l : Nat}
  (hx : evo env x = some (.string s)) (hy : evo env y = some (.int .i64 (l : Int))) (hl : l ≤ s.size) :
  I2 P Γ ⟨env, hp, G⟩ (.slice t x (some y) none none) ty (.string (s.extract l s.size)) := by
 refine ⟨fun a _ hs _ _ _ _ w => ?_⟩
 have hu := hI.und
 rw [hd'] at hu
 simp [execOp, (hs.evo hx : a.eval x = _), (hs.evo hy : a.eval y = _), Instr.sliceAt, Sem.run_bind, run_underlying hu, Instr.slice, Instr.sliceBounds, A5a hl]
theorem B4i {x y : Operand} {t t' : TypeId} {r s : ByteArray} (hx : evo env x = some (.string r)) (hy : evo env y = some (.string s)) :
  I2 P Γ ⟨env, hp, G⟩ (.binOp .lss t x y t') ty (.bool (decide (Op.bytesLess r.toList s.toList = true))) := by
 refine ⟨fun a _ hs _ _ _ _ w => ?_⟩
 simp only [execOp, eqGuard, binOp, Op.stringOp, (hs.evo hx : a.eval x = _), (hs.evo hy : a.eval y = _)]
 simp
end slaws
theorem B4j (s nm : ByteArray) (G : IM) (hs : s.size ≤ 1000) (hn : nm.size ≤ 1000) :
  Fn Tryz.prog 186 [.string s, .string nm] [] G (fun G' v outs => G' = G ∧ outs = [] ∧ ∃ r, v = .string r ∧ r.size ≤ s.size + nm.size) := by
 refine B7 Tryz.func186 rfl Tryz.ntmps186 Tryz.results186 rfl ?_
 intro w0
 refine J4 ?_
 refine C0 ?_
 (refine L9 (fun (i : Nat) => ⟨[(5, .int .i64 (i : Int)), (0, .string s), (1, .string nm)], [], G⟩) (fun i => i ≤ s.size) (fun i => s.size - i) 0 ?_ ?_ ?_)
 exact D5
 exact Nat.zero_le _
 (intro i hi)
 refine B1 ?_
 refine sQ (A2y rfl rfl) rfl (sB (K6 rfl rfl) rfl rfl (fun h23 => ?_) (fun h23 => ?_))
 refine B3 ?_
 refine sP (A1T (n := 1) rfl rfl (by omega)) rfl rfl ?_
 refine sP (A6I (h := i + 1) rfl rfl rfl rfl (by omega) (by omega)) rfl rfl ?_
 refine E8 ?_
 refine sB (B4i rfl rfl) rfl rfl (fun h31 => ?_) (fun h31 => ?_)
 refine A7 ?_
 refine C0 ?_
 refine A1 ?_
 refine sP (A1T (n := 1) rfl rfl (by omega)) rfl rfl ?_
 refine B6 ?_
 refine L0 (i + 1) ?_ ?_ ?_
 exact D5
 (show _ ≤ s.size; omega)
 (show s.size - _ < s.size - _; omega)
 refine K2 ?_
 refine sQ (A2y rfl rfl) rfl ?_
 refine sP (B2T rfl rfl (by omega)) rfl rfl ?_
 refine B3 ?_
 refine sP (A1T (n := 1) rfl rfl (by omega)) rfl rfl ?_
 refine sP (A6I (h := i + 1) rfl rfl rfl rfl (by omega) (by omega)) rfl rfl ?_
 refine E8 ?_
 refine sB (A1p rfl rfl) rfl rfl (fun h72 => ?_) (fun h72 => ?_)
 refine O0 ?_
 refine H5 (outs := []) (rT rfl) A0.nil ?_
 (exact ⟨rfl, rfl, _, rfl, Nat.le_add_right _ _⟩)
 refine B4 ?_
 refine E3 E4 rfl ?_
 refine J5 (i := 0) (l' := [tt,ff,ff,ff,ff,ff,ff,ff,ff,ff]) rfl D7 (qM rfl) rfl (by kernel_rfl) rfl rfl ?_
 refine aP 1 rfl (qM rfl) rfl ?_
 refine aP 2 rfl (A9o rfl rfl rfl (by omega)) rfl ?_
 refine aP 3 rfl (qM rfl) rfl ?_
 refine aP 4 rfl (A18 rfl rfl (by simp only [ByteArray.size_extract, ByteArray.size_append]; omega)) rfl ?_
 refine aP 5 rfl (qM rfl) rfl ?_
 refine aP 6 rfl (qM rfl) rfl ?_
 refine aP 7 rfl (A9p rfl rfl rfl (by omega)) rfl ?_
 refine aP 8 rfl (A18 rfl rfl (by simp only [ByteArray.size_extract, ByteArray.size_append]; omega)) rfl ?_
 refine aP 9 rfl (qA rfl) rfl ?_
 refine B6 ?_
 refine H5 (outs := []) (rT rfl) A0.nil ?_
 (exact ⟨rfl, rfl, _, rfl, by simp only [ByteArray.size_extract, ByteArray.size_append]; omega⟩)
 refine A6b ?_
 refine sQ (A2y rfl rfl) rfl ?_
 refine sP (A3H rfl rfl (by omega)) rfl rfl ?_
 refine I6 ?_
 refine E3 E4 rfl ?_
 refine J5 (i := 0) (l' := [tt,ff,ff,ff,ff,ff,ff,ff,ff,ff]) rfl D7 (qM rfl) rfl (by kernel_rfl) rfl rfl ?_
 refine aP 1 rfl (qM rfl) rfl ?_
 refine aP 2 rfl (A9o rfl rfl rfl (by omega)) rfl ?_
 refine aP 3 rfl (qM rfl) rfl ?_
 refine aP 4 rfl (A18 rfl rfl (by simp only [ByteArray.size_extract, ByteArray.size_append]; omega)) rfl ?_
 refine aP 5 rfl (qM rfl) rfl ?_
 refine aP 6 rfl (qM rfl) rfl ?_
 refine aP 7 rfl (A9p rfl rfl rfl (by omega)) rfl ?_
 refine aP 8 rfl (A18 rfl rfl (by simp only [ByteArray.size_extract, ByteArray.size_append]; omega)) rfl ?_
 refine aP 9 rfl (qA rfl) rfl ?_
 refine B6 ?_
 refine H5 (outs := []) (rT rfl) A0.nil ?_
 (exact ⟨rfl, rfl, _, rfl, by simp only [ByteArray.size_extract, ByteArray.size_append]; omega⟩)
theorem A0Y (G : IM) : C3 G A6 [.int .i64 0, .slice none 0 0] := by
 simp only [A6, C3]
 exact ⟨none, 0, [], rfl, ⟨by omega, by omega⟩, D6.of (Sl.nil _ _) rfl (by simp) (by simp), by simp [H0]⟩
theorem A6J : L4 A6 = 0 := rfl
theorem D9.tm {G : IM} {k : Int} {nm : ByteArray} {num : Int} {t : Ty} {q : Option Addr} {d : Nat} {ts : List Tm} {es : List (List Value)} {p : Option Addr} {n c : Nat} (h : D9 G ts es) (hn : ts.length = n) (hs : Sl G p n c 9 es.flatten) (hk : F8 k) (hm : F8 num)
  (ht : C3 G t [.int .i64 t.k, .slice q t.ks.length d]) : A8 G (.mk k nm num t A6 0 ts) [.int .i64 k, .string nm, .int .i64 num, .int .i64 t.k, .slice q t.ks.length d, .int .i64 0, .slice none 0 0, .int .i64 0, .slice p n c] := by
 subst hn
 simp only [A8]
 exact ⟨_, _, p, c, es, rfl, hk, hm, ⟨by omega, by omega⟩, ht, A0Y G, D6.of hs h.len h.all (fun e he => (h.each e he).2), h⟩
theorem A1w {G : IM} {k : Int} {nm : ByteArray} {num : Int} (hk : F8 k) (hm : F8 num) :
  A8 G (.mk k nm num A6 A6 0 []) [.int .i64 k, .string nm, .int .i64 num, .int .i64 0, .slice none 0 0, .int .i64 0, .slice none 0 0, .int .i64 0, .slice none 0 0] :=
 D9.tm (ts := []) (es := []) (t := A6) (by simp [D9]) rfl (Sl.nil _ _) hk hm (A0Y G)
theorem A1U (k : Int) (nm : ByteArray) (num : Int) : A0m (.mk k nm num A6 A6 0 []) = nm.size := by
 rw [A0m, A6J, Y5]; simp
theorem A6K : ∀ (ts : List Tm) (t : Tm), Y5 (ts ++ [t]) = Y5 ts + A0m t
 | [], t => by simp [Y5]
 | a :: ts, t => by simp only [List.cons_append, Y5, A6K ts t]; omega
theorem A1x (k : Int) : C4 k ≤ 3 := by
 unfold C4; repeat (split; omega)
 omega
theorem A6L {d : Nat} (h : d ≤ 2) : dB (d + 1) ≤ 14 := by
 have : d = 0 ∨ d = 1 ∨ d = 2 := by omega
 rcases this with rfl | rfl | rfl <;> decide
theorem A2e (n : Int) (G : IM) : Fn Tryz.prog 104 [.int .i64 n] [] G (H8 (.agg ⟨[.int .i64 2, .string ⟨⟨[]⟩⟩, .int .i64 n, .int .i64 0, .slice none 0 0, .int .i64 0, .slice none 0 0, .int .i64 0, .slice none 0 0]⟩) G) := by
 refine B7 Tryz.func104 rfl Tryz.ntmps104 Tryz.results104 rfl ?_
 intro w0
 refine A1 ?_
 refine sE (B0 rfl) rfl (fun b3 => ?_)
 refine J2 ?_
 refine L3 (rC rfl (A4 rfl rfl)) ?_
 exact ⟨rfl, rfl, rfl⟩
theorem A9q (br : Nat) (pb : Option Addr) (nb cb : Nat) (bs : List UInt8) (hnb : nb ≤ 2000) (p : Nat) (G : IM) (hb : Sl G pb nb cb 1 (O9 bs)) (hp : p + 3 < 1099511627776) (s : ByteArray) (hs : s.size ≤ 1000) :
  Fn Tryz.prog 185 [.pointer (some ⟨br, 0, none⟩), .string s] [rd br pb nb cb p] G
   (A0z br pb nb cb p 3 (fun G' v => ∃ t cells, v = .agg ⟨cells⟩ ∧ A8 G' t cells ∧ A0m t ≤ 1)) := by
 refine B7 Tryz.func185 rfl Tryz.ntmps185 Tryz.results185 rfl ?_
 intro w0
 refine A1 ?_
 refine sE (B0 rfl) rfl (fun b3 => ?_)
 refine A7 ?_
 refine sQ (A2y rfl rfl) rfl ?_
 refine sB (Z2 rfl rfl) rfl rfl (fun h11 => ?_) (fun h11 => ?_)
 refine A1 ?_
 (refine I0 rfl (Y6 _ br pb nb cb p bs _ hb hnb (by omega)) (Pk.perm (by repeat (first | exact Pk.here | apply Pk.there))) rfl rfl (fun v14 G14 outs14 hle14 hh => ?_); obtain ⟨rfl, rfl, j14, rfl, hj14, hk14⟩ := hh; obtain ⟨i14, rfl⟩ := Int.eq_ofNat_of_zero_le hj14)
 replace hb := hb.mono hle14
 refine sB (Z2 rfl rfl) rfl rfl (fun h15 => ?_) (fun h15 => ?_)
 refine D0 ?_
 refine sQ (A2y rfl rfl) rfl ?_
 (refine I0 rfl (Y6 _ br pb nb cb (p + 1) bs _ hb hnb (by omega)) (Pk.perm (by repeat (first | exact Pk.here | apply Pk.there))) rfl rfl (fun v25 G25 outs25 hle25 hh => ?_); obtain ⟨rfl, rfl, j25, rfl, hj25, hk25⟩ := hh; obtain ⟨i25, rfl⟩ := Int.eq_ofNat_of_zero_le hj25)
 replace hb := hb.mono hle25
 refine D0 ?_
 refine sP (A1T (n := 1) rfl rfl (by omega)) rfl rfl ?_
 refine sP (A6I rfl rfl rfl rfl (by omega) (by omega)) rfl rfl ?_
 refine A7 ?_
 refine H5 (outs := [rd br pb nb cb (p + 1 + 1)]) (rC rfl (A4 rfl rfl)) (by repeat (first | exact A0.nil | refine A0.cons Pk.here ?_ | refine A0.cons (Pk.there Pk.here) ?_ | refine A0.cons (Pk.there (Pk.there Pk.here)) ?_ | apply A0.drop)) ?_
 focus (refine ⟨_, ?_, ?_, rfl, _, _, rfl, A1w ⟨by omega, by omega⟩ ⟨by omega, by omega⟩, ?_⟩; all_goals (try rw [A1U]); all_goals (first | omega | (simp only [ByteArray.size_extract]; omega) | decide))
 refine J2 ?_
 (refine I0 rfl (Y6 _ br pb nb cb (p + 1) bs _ hb hnb (by omega)) (Pk.perm (by repeat (first | exact Pk.here | apply Pk.there))) rfl rfl (fun v54 G54 outs54 hle54 hh => ?_); obtain ⟨rfl, rfl, j54, rfl, hj54, hk54⟩ := hh; obtain ⟨i54, rfl⟩ := Int.eq_ofNat_of_zero_le hj54)
 replace hb := hb.mono hle54
 refine A1 ?_
 refine C0 (tS (tR (sB (qE rfl rfl) rfl rfl (fun h60 => ?_) (fun h60 => ?_))))
 refine J6 ?_
 refine H5 (outs := [rd br pb nb cb (p + 1 + 1)]) (rC rfl (A4 rfl rfl)) (by repeat (first | exact A0.nil | refine A0.cons Pk.here ?_ | refine A0.cons (Pk.there Pk.here) ?_ | refine A0.cons (Pk.there (Pk.there Pk.here)) ?_ | apply A0.drop)) ?_
 focus (refine ⟨_, ?_, ?_, rfl, _, _, rfl, A1w ⟨by omega, by omega⟩ ⟨by omega, by omega⟩, ?_⟩; all_goals (try rw [A1U]); all_goals (first | omega | (simp only [ByteArray.size_extract]; omega) | decide))
 refine A7 ?_
 refine sB (qE rfl rfl) rfl rfl (fun h82 => ?_) (fun h82 => ?_)
 refine J6 ?_
 refine H5 (outs := [rd br pb nb cb (p + 1 + 1)]) (rC rfl (A4 rfl rfl)) (by repeat (first | exact A0.nil | refine A0.cons Pk.here ?_ | refine A0.cons (Pk.there Pk.here) ?_ | refine A0.cons (Pk.there (Pk.there Pk.here)) ?_ | apply A0.drop)) ?_
 focus (refine ⟨_, ?_, ?_, rfl, _, _, rfl, A1w ⟨by omega, by omega⟩ ⟨by omega, by omega⟩, ?_⟩; all_goals (try rw [A1U]); all_goals (first | omega | (simp only [ByteArray.size_extract]; omega) | decide))
 refine J2 ?_
 (refine M5 (D4 rfl rfl rfl (by omega) (by unfold maxLen; omega) rfl) rfl ?_; rintro _ ⟨b108, rfl⟩)
 (refine V8 (by repeat (first | exact Pk.here | apply Pk.there)) (fun Gf hlef hslf _ => ?_); refine I0 rfl (A0e Gf br pb nb cb (p + 1 + 1) bs _ _ _ _ (hb.mono hlef) hnb (by omega) hslf (by decide)) (Pk.perm (by repeat (first | exact Pk.here | apply Pk.there))) rfl rfl (fun v Gn outs hlen hh => ?_); obtain ⟨rfl, rfl, hv⟩ := hh; obtain ⟨kn, rfl, hkn⟩ : ∃ k, v = .int .i64 k ∧ F8 k := (by simp only [List.mem_cons, List.not_mem_nil, or_false] at hv; rcases hv with rfl | rfl | rfl | rfl | rfl | rfl <;> exact ⟨_, rfl, by unfold F8; omega⟩))
 refine I3 rfl ((A2e _ _)) rfl rfl ?_
 refine B3 ?_
 refine H5 (outs := [rd br pb nb cb (p + 1 + 1 + 1)]) (rC rfl (A4 rfl rfl)) (by repeat (first | exact A0.nil | refine A0.cons Pk.here ?_ | refine A0.cons (Pk.there Pk.here) ?_ | refine A0.cons (Pk.there (Pk.there Pk.here)) ?_ | apply A0.drop)) ?_
 focus (refine ⟨_, ?_, ?_, rfl, _, _, rfl, A1w ⟨by omega, by omega⟩ hkn, ?_⟩; all_goals (try rw [A1U]); all_goals (first | omega | decide))
 refine K2 ?_
 (refine I0 rfl (Y6 _ br pb nb cb p bs _ hb hnb (by omega)) (Pk.perm (by repeat (first | exact Pk.here | apply Pk.there))) rfl rfl (fun v131 G131 outs131 hle131 hh => ?_); obtain ⟨rfl, rfl, j131, rfl, hj131, hk131⟩ := hh; obtain ⟨i131, rfl⟩ := Int.eq_ofNat_of_zero_le hj131)
 replace hb := hb.mono hle131
 refine A1 ?_
 refine C0 (tS (tR (sB (qE rfl rfl) rfl rfl (fun h137 => ?_) (fun h137 => ?_))))
 refine J6 ?_
 refine H5 (outs := [rd br pb nb cb (p + 1)]) (rC rfl (A4 rfl rfl)) (by repeat (first | exact A0.nil | refine A0.cons Pk.here ?_ | refine A0.cons (Pk.there Pk.here) ?_ | refine A0.cons (Pk.there (Pk.there Pk.here)) ?_ | apply A0.drop)) ?_
 focus (refine ⟨_, ?_, ?_, rfl, _, _, rfl, A1w ⟨by omega, by omega⟩ ⟨by omega, by omega⟩, ?_⟩; all_goals (try rw [A1U]); all_goals (first | omega | (simp only [ByteArray.size_extract]; omega) | decide))
 refine A7 ?_
 refine sB (qE rfl rfl) rfl rfl (fun h159 => ?_) (fun h159 => ?_)
 refine J6 ?_
 refine H5 (outs := [rd br pb nb cb (p + 1)]) (rC rfl (A4 rfl rfl)) (by repeat (first | exact A0.nil | refine A0.cons Pk.here ?_ | refine A0.cons (Pk.there Pk.here) ?_ | refine A0.cons (Pk.there (Pk.there Pk.here)) ?_ | apply A0.drop)) ?_
 focus (refine ⟨_, ?_, ?_, rfl, _, _, rfl, A1w ⟨by omega, by omega⟩ ⟨by omega, by omega⟩, ?_⟩; all_goals (try rw [A1U]); all_goals (first | omega | (simp only [ByteArray.size_extract]; omega) | decide))
 refine J2 ?_
 (refine M5 (D4 rfl rfl rfl (by omega) (by unfold maxLen; omega) rfl) rfl ?_; rintro _ ⟨b185, rfl⟩)
 (refine V8 (by repeat (first | exact Pk.here | apply Pk.there)) (fun Gf hlef hslf _ => ?_); refine I0 rfl (A0e Gf br pb nb cb (p + 1) bs _ _ _ _ (hb.mono hlef) hnb (by omega) hslf (by decide)) (Pk.perm (by repeat (first | exact Pk.here | apply Pk.there))) rfl rfl (fun v Gn outs hlen hh => ?_); obtain ⟨rfl, rfl, hv⟩ := hh; obtain ⟨kn, rfl, hkn⟩ : ∃ k, v = .int .i64 k ∧ F8 k := (by simp only [List.mem_cons, List.not_mem_nil, or_false] at hv; rcases hv with rfl | rfl | rfl | rfl | rfl | rfl <;> exact ⟨_, rfl, by unfold F8; omega⟩))
 refine I3 rfl ((A2e _ _)) rfl rfl ?_
 refine B3 ?_
 refine H5 (outs := [rd br pb nb cb (p + 1 + 1)]) (rC rfl (A4 rfl rfl)) (by repeat (first | exact A0.nil | refine A0.cons Pk.here ?_ | refine A0.cons (Pk.there Pk.here) ?_ | refine A0.cons (Pk.there (Pk.there Pk.here)) ?_ | apply A0.drop)) ?_
 focus (refine ⟨_, ?_, ?_, rfl, _, _, rfl, A1w ⟨by omega, by omega⟩ hkn, ?_⟩; all_goals (try rw [A1U]); all_goals (first | omega | decide))
def tB : Nat → Nat
 | 0 => 3
 | d + 1 => 3 * tB d + 20
theorem A9r (d : Nat) : 3 ≤ tB d := by cases d <;> simp only [tB] <;> omega
theorem A9s (br : Nat) (pb : Option Addr) (nb cb : Nat) (bs : List UInt8) (hnb : nb ≤ 2000) : ∀ (d p : Nat) (G : IM) (s : ByteArray), d ≤ 900 → s.size + d ≤ 950 → Sl G pb nb cb 1 (O9 bs) → p + tB d < 1099511627776 →
  Fn Tryz.prog 131 [.pointer (some ⟨br, 0, none⟩), .string s, .int .i64 ((d + 1 : Nat) : Int)] [rd br pb nb cb p] G
   (A0z br pb nb cb p (tB d) (fun G' v => ∃ t cells, v = .agg ⟨cells⟩ ∧ A8 G' t cells ∧ A0m t ≤ ((tB d : Nat) : Int))) := by
 refine fun d => Nat.strongRecOn d fun d ih p G s hd hs hb hp => ?_
 have hge := A9r d
 refine B7 Tryz.func131 rfl Tryz.ntmps131 Tryz.results131 rfl ?_
 intro w0
 refine A1 ?_
 refine sE (B0 rfl) rfl (fun b3 => ?_)
 refine A7 ?_
 refine sB (K6 rfl rfl) rfl rfl (fun h10 => ?_) (fun h10 => ?_)
 ·refine O0 ?_
  (refine I0 rfl (A9q br pb nb cb bs hnb p _ hb (by omega) s (by omega)) (Pk.perm (by repeat (first | exact Pk.here | apply Pk.there))) rfl rfl (fun v Ga outs hlea hh => ?_); obtain ⟨pa, hpa1, hpa2, rfl, ta, cellsa, rfl, hra, hsa⟩ := hh; have hl9 := hra.len; have ho9 := hra.one)
  refine sS rfl rfl rfl hl9 ho9 rfl ?_ (hu := by exact C9 hl9.symm)
  refine B3 ?_
  refine H5 (outs := [rd br pb nb cb pa]) (rC rfl (A2 rfl rfl (B2 (by repeat first | exact mH | apply mT)) hl9)) (by repeat (first | exact A0.nil | refine A0.cons Pk.here ?_ | refine A0.cons (Pk.there Pk.here) ?_ | refine A0.cons (Pk.there (Pk.there Pk.here)) ?_ | apply A0.drop)) ?_
  (exact ⟨pa, by omega, by omega, rfl, ta, cellsa, rfl, hra, by omega⟩)
 ·refine A1 ?_
  (have hB4 : 4 ≤ tB d := (by obtain ⟨d1, rfl⟩ : ∃ d1, d = d1 + 1 := ⟨d - 1, by omega⟩; simp only [tB]; have := A9r d1; omega); refine I0 rfl (Y6 _ br pb nb cb p bs _ hb hnb (by omega)) (Pk.perm (by repeat (first | exact Pk.here | apply Pk.there))) rfl rfl (fun v33 G33 outs33 hle33 hh => ?_); obtain ⟨rfl, rfl, j33, rfl, hj33, hk33⟩ := hh)
  replace hb := hb.mono hle33
  refine sB (qE rfl rfl) rfl rfl (fun h34 => ?_) (fun h34 => ?_)
  ·refine D0 ?_
   (refine I0 rfl (A9q br pb nb cb bs hnb (p + 1) _ hb (by omega) s (by omega)) (Pk.perm (by repeat (first | exact Pk.here | apply Pk.there))) rfl rfl (fun v Ga outs hlea hh => ?_); obtain ⟨pa, hpa1, hpa2, rfl, ta, cellsa, rfl, hra, hsa⟩ := hh; have hl9 := hra.len; have ho9 := hra.one)
   refine sS rfl rfl rfl hl9 ho9 rfl ?_ (hu := by exact C9 hl9.symm)
   refine B3 ?_
   refine H5 (outs := [rd br pb nb cb pa]) (rC rfl (A2 rfl rfl (B2 (by repeat first | exact mH | apply mT)) hl9)) (by repeat (first | exact A0.nil | refine A0.cons Pk.here ?_ | refine A0.cons (Pk.there Pk.here) ?_ | refine A0.cons (Pk.there (Pk.there Pk.here)) ?_ | apply A0.drop)) ?_
   (exact ⟨pa, by omega, by omega, rfl, ta, cellsa, rfl, hra, by omega⟩)
  ·refine D8 ?_
   (refine M5 (D4 rfl rfl rfl (by omega) (by unfold maxLen; omega) rfl) rfl ?_; rintro _ ⟨b60, rfl⟩)
   (refine V8 (by repeat (first | exact Pk.here | apply Pk.there)) (fun Gf hlef hslf _ => ?_); refine I0 rfl (A0e Gf br pb nb cb (p + 1) bs _ _ _ _ (hb.mono hlef) hnb (by omega) hslf (by decide)) (Pk.perm (by repeat (first | exact Pk.here | apply Pk.there))) rfl rfl (fun v Gk outs hlek hh => ?_); obtain ⟨rfl, rfl, hv⟩ := hh; replace hb := hb.mono hlef; obtain ⟨k, rfl, hk1, hk2⟩ : ∃ k, v = .int .i64 k ∧ 5 ≤ k ∧ k ≤ 13 := (by simp only [List.mem_cons, List.not_mem_nil, or_false] at hv; rcases hv with rfl | rfl | rfl | rfl | rfl | rfl | rfl | rfl | rfl | rfl | rfl <;> exact ⟨_, rfl, by decide, by decide⟩); obtain ⟨d1, rfl⟩ : ∃ d1, d = d1 + 1 := ⟨d - 1, by omega⟩; have hB : tB (d1 + 1) = 3 * tB d1 + 20 := rfl)
   refine B4 ?_
   refine sE (B0 rfl) rfl (fun b69 => ?_)
   refine B4 ?_
   refine sB (qE rfl rfl) rfl rfl (fun h77 => ?_) (fun h77 => ?_)
   ·refine A1 ?_
    (show J3 _ _ (.cond (.tmp 26) _ _) _ _; refine Z4 (fun (x : ByteArray × ByteArray × Nat × IM) => ⟨[(7, .int .i64 k), (8, .pointer (some ⟨b69, 0, none⟩)), (6, .pointer (some ⟨b3, 0, none⟩)), (0, .pointer (some ⟨br, 0, none⟩)), (1, .string x.2.1), (2, .int .i64 ((d1 + 1 + 1 : Nat) : Int))], [.blk b69 [.int .i64 k, .string x.1, .int .i64 0, .int .i64 0, .slice none 0 0, .int .i64 0, .slice none 0 0, .int .i64 0, .slice none 0 0], .blk b3 [.int .i64 0, .string ⟨⟨[]⟩⟩, .int .i64 0, .int .i64 0, .slice none 0 0, .int .i64 0, .slice none 0 0, .int .i64 0, .slice none 0 0], rd br pb nb cb x.2.2.1], x.2.2.2⟩) (fun x => C2 Gk x.2.2.2 ∧ x.1.size ≤ 1 ∧ x.2.1.size ≤ s.size + 1 ∧ p + 2 ≤ x.2.2.1 ∧ x.2.2.1 ≤ p + 3) ?_ ?_)
    ·refine B3 ?_
     (refine M5 (D4 rfl rfl rfl (by omega) (by unfold maxLen; omega) rfl) rfl ?_; rintro _ ⟨b85, rfl⟩)
     (refine V8 (by repeat (first | exact Pk.here | apply Pk.there)) (fun Gf2 hlef2 hslf2 _ => ?_); refine I0 rfl (A6F Gf2 br pb nb cb (p + 1 + 1) bs _ _ _ _ (hb.mono hlef2) hnb (by omega) hslf2 (by decide)) (Pk.perm (by repeat (first | exact Pk.here | apply Pk.there))) rfl rfl (fun v Go outs hleo hh => ?_); obtain ⟨rfl, rfl, hv2⟩ := hh; obtain ⟨nmA, rfl, hnA⟩ : ∃ nm, v = .string nm ∧ nm.size ≤ 1 := (by simp only [List.mem_cons, List.not_mem_nil, or_false] at hv2; rcases hv2 with rfl | rfl | rfl | rfl <;> exact ⟨_, rfl, by decide⟩))
     refine D0 ?_
     (refine A4N rfl (B4j s nmA _ (by omega) (by omega)) rfl rfl (fun v Ga outs hlea hh => ?_); obtain ⟨rfl, rfl, sA, rfl, hsA⟩ := hh)
     refine A1 ?_
     refine P8 (nmA, sA, p + 1 + 1 + 1, Ga) (N8 (by repeat (first | exact E5.nil | refine E5.cons rfl ?_)) (by repeat (first | exact A0.refl | exact A0.nil | refine A0.cons (by repeat (first | exact Pk.here | apply Pk.there)) ?_ | apply A0.drop))) ?_
     (dsimp only; exact ⟨hlef2, hnA, by omega, by omega, by omega⟩)
    ·(rintro ⟨(nm : ByteArray), s', p1, G1⟩ ⟨hleA, hnm, hss, hpA, hpB⟩; simp only [] at hleA hnm hss hpA hpB ⊢; replace hb := hb.mono hleA; have hmark := hleA)
     refine A1 ?_
     (have hm' := hmark; refine Z4 (fun (x : Bool) => ⟨(40, .bool x) :: [(7, .int .i64 k), (8, .pointer (some ⟨b69, 0, none⟩)), (6, .pointer (some ⟨b3, 0, none⟩)), (0, .pointer (some ⟨br, 0, none⟩)), (1, .string s'), (2, .int .i64 ((d1 + 1 + 1 : Nat) : Int))], [.blk b69 [.int .i64 k, .string nm, .int .i64 0, .int .i64 0, .slice none 0 0, .int .i64 0, .slice none 0 0, .int .i64 0, .slice none 0 0], .blk b3 [.int .i64 0, .string ⟨⟨[]⟩⟩, .int .i64 0, .int .i64 0, .slice none 0 0, .int .i64 0, .slice none 0 0, .int .i64 0, .slice none 0 0], rd br pb nb cb p1], G1⟩) (fun x => True) ?_ ?_)
     ·refine A1 ?_
      refine sP (S8 rfl rfl (by omega)) rfl rfl ?_
      refine B1 ?_
      refine P8 true (N8 (by repeat (first | exact E5.nil | refine E5.cons rfl ?_)) (by repeat (first | exact A0.refl | exact A0.nil | refine A0.cons (by repeat (first | exact Pk.here | apply Pk.there)) ?_ | apply A0.drop))) ?_
      trivial
     ·(rintro x _; clear hmark)
      (show J3 _ _ (.cond (.tmp 40) _ _) _ _; refine Z4 (fun (x : Ty × Option Addr × Nat × Nat × IM) => ⟨[(7, .int .i64 k), (8, .pointer (some ⟨b69, 0, none⟩)), (6, .pointer (some ⟨b3, 0, none⟩)), (0, .pointer (some ⟨br, 0, none⟩)), (1, .string s'), (2, .int .i64 ((d1 + 1 + 1 : Nat) : Int))], [.blk b69 [.int .i64 k, .string nm, .int .i64 0, .int .i64 x.1.k, .slice x.2.1 x.1.ks.length x.2.2.1, .int .i64 0, .slice none 0 0, .int .i64 0, .slice none 0 0], .blk b3 [.int .i64 0, .string ⟨⟨[]⟩⟩, .int .i64 0, .int .i64 0, .slice none 0 0, .int .i64 0, .slice none 0 0, .int .i64 0, .slice none 0 0], rd br pb nb cb x.2.2.2.1], x.2.2.2.2⟩) (fun x => C2 G1 x.2.2.2.2 ∧ C3 x.2.2.2.2 x.1 [.int .i64 x.1.k, .slice x.2.1 x.1.ks.length x.2.2.1] ∧ L4 x.1 ≤ 14 ∧ p1 ≤ x.2.2.2.1 ∧ x.2.2.2.1 ≤ p1 + 15) (A3B rfl (fun hxt => ?_) (fun hxf => ?_)) ?_)
      ·refine B6 ?_
       (refine M5 (D4 rfl rfl rfl (by omega) (by unfold maxLen; omega) rfl) rfl ?_; rintro _ ⟨b119, rfl⟩)
       (refine V8 (by repeat (first | exact Pk.here | apply Pk.there)) (fun Gf hlef3 hslf _ => ?_); refine I0 rfl (A0e Gf br pb nb cb p1 bs _ _ _ _ (hb.mono hlef3) hnb (by omega) hslf (by decide)) (Pk.perm (by repeat (first | exact Pk.here | apply Pk.there))) rfl rfl (fun v Gn outs hlen hh => ?_); obtain ⟨rfl, rfl, hv⟩ := hh; replace hb := hb.mono hlef3; obtain ⟨dd, rfl, hdd⟩ : ∃ d : Nat, v = .int .i64 ((d + 1 : Nat) : Int) ∧ d ≤ 2 := (by simp only [List.mem_cons, List.not_mem_nil, or_false] at hv; rcases hv with rfl | rfl | rfl | rfl <;> first | exact ⟨0, rfl, by decide⟩ | exact ⟨1, rfl, by decide⟩ | exact ⟨2, rfl, by decide⟩))
       (have hdB := A6L hdd; refine I0 rfl (A9j br pb nb cb bs hnb dd (p1 + 1) _ (by omega) hb (by omega)) (Pk.perm (by repeat (first | exact Pk.here | apply Pk.there))) rfl rfl (fun v G3 outs hle3 hh => ?_); obtain ⟨p3, hp31, hp32, rfl, t3, cells3, rfl, hr3, hs3⟩ := hh; obtain ⟨q3, c3, es3, rfl, _⟩ := hr3.open)
       refine B6 ?_
       refine P8 (t3, q3, c3, p3, G3) (N8 (by repeat (first | exact E5.nil | refine E5.cons rfl ?_)) (by repeat (first | exact A0.refl | exact A0.nil | refine A0.cons (by repeat (first | exact Pk.here | apply Pk.there)) ?_ | apply A0.drop))) ?_
       (dsimp only; exact ⟨hlef3.trans hle3, hr3, by omega, by omega, by omega⟩)
      ·refine tK ?_
       refine P8 (A6, none, 0, p1, G1) (N8 (by repeat (first | exact E5.nil | refine E5.cons rfl ?_)) (by repeat (first | exact A0.refl | exact A0.nil | refine A0.cons (by repeat (first | exact Pk.here | apply Pk.there)) ?_ | apply A0.drop))) ?_
       (dsimp only; exact ⟨C2.refl _, A0Y _, by decide, by omega, by omega⟩)
      ·(rintro ⟨(t' : Ty), q', c', p2, G2⟩ ⟨hleB, hrB, hsB, hpC, hpD⟩; simp only [] at hleB hrB hsB hpC hpD ⊢; replace hb := hb.mono hleB; have hop := A1x k; have hK := A42 k)
       refine A7 ?_
       refine C0 ?_
       (refine V7 28 9 ?_; refine L9 (fun (x : Nat × Option Addr × Nat × List Tm × List (List Value) × Nat × IM) => ⟨[(9, .int .i64 x.1), (7, .int .i64 k), (8, .pointer (some ⟨b69, 0, none⟩)), (6, .pointer (some ⟨b3, 0, none⟩)), (0, .pointer (some ⟨br, 0, none⟩)), (1, .string s'), (2, .int .i64 ((d1 + 1 + 1 : Nat) : Int))], [.blk b69 [.int .i64 k, .string nm, .int .i64 0, .int .i64 t'.k, .slice q' t'.ks.length c', .int .i64 0, .slice none 0 0, .int .i64 0, .slice x.2.1 x.1 x.2.2.1], .slc x.2.1 x.2.2.1 28 9 x.1 x.2.2.2.2.1.flatten, rd br pb nb cb x.2.2.2.2.2.1, .blk b3 [.int .i64 0, .string ⟨⟨[]⟩⟩, .int .i64 0, .int .i64 0, .slice none 0 0, .int .i64 0, .slice none 0 0, .int .i64 0, .slice none 0 0]], x.2.2.2.2.2.2⟩) (fun x => ((x.1 : Int) ≤ C4 k ∨ x.1 = 0) ∧ C2 G2 x.2.2.2.2.2.2 ∧ x.2.2.2.1.length = x.1 ∧ D9 x.2.2.2.2.2.2 x.2.2.2.1 x.2.2.2.2.1 ∧ Y5 x.2.2.2.1 ≤ ((x.1 * tB d1 : Nat) : Int) ∧ p2 ≤ x.2.2.2.2.2.1 ∧ x.2.2.2.2.2.1 ≤ p2 + x.1 * tB d1) (fun x => (C4 k).toNat - x.1) (0, none, 0, [], [], p2, G2) ?_ ?_ ?_)
       ·(simp only [I7]; exact D5)
       ·(exact ⟨.inr rfl, C2.refl _, rfl, by simp [D9], by simp [Y5], by dsimp only; omega, by dsimp only; omega⟩)
       ·(rintro ⟨i, pn, cn, ts, es', p', Gi⟩ ⟨hi, hle, hlt, hst, hsum, hq1, hq2⟩; simp only [] at hi hle hlt hst hsum hq1 hq2 ⊢; have hid : i * tB d1 ≤ 3 * tB d1 := Nat.mul_le_mul_right _ (by omega))
        refine B1 ?_
        refine I3 rfl ((hK _)) rfl rfl ?_
        refine sB (K6 rfl rfl) rfl rfl (fun h148 => ?_) (fun h148 => ?_)
        ·refine A7 ?_
         refine C0 ?_
         (have hih := ih d1 (by omega) p' Gi s' (by omega) (by omega) (hb.mono hle) (by have := Nat.mul_le_mul_right (tB d1) (show i + 1 ≤ 3 by omega); rw [Nat.succ_mul] at this; omega); refine E3 E4 rfl ?_)
         refine J5 (i := 0) (l' := [tt,ff,ff,ff,ff,ff,ff,ff,ff,ff,ff]) rfl D7 (B9 rfl) rfl (by kernel_rfl) rfl rfl ?_
         refine aL 1 rfl (D3 rfl rfl) rfl ?_
         refine aP 2 rfl (qM rfl) rfl ?_
         refine aP 3 rfl (qM rfl) rfl ?_
         refine aP 4 rfl (qM rfl) rfl ?_
         refine aP 5 rfl (A4Z rfl rfl (by omega)) rfl ?_
         refine A3 6 ?_
         (refine A0d (l' := [tt,tt,tt,tt,tt,tt,tt,ff,ff,ff,ff]) rfl rfl hih (Pk.perm (by repeat (first | exact Pk.here | apply Pk.there))) rfl rfl rfl (by repeat (first | exact A9.nil | apply A9.dep (by decide +kernel) | apply A9.blk (by decide +kernel) (by repeat (first | exact Pk.here | apply Pk.there)) (by repeat first | exact mH | apply mT))) (fun v G3 outs hle3 hh => ?_); obtain ⟨p3, hp31, hp32, rfl, t3, cells3, rfl, hr3, hs3⟩ := hh; obtain ⟨qt, dt, et, qf, df, ef, q3, d3, es3, rfl, _⟩ := hr3.open)
         refine A3 7 ?_
         (refine E6 rfl (D4 rfl rfl rfl (by omega) (by unfold maxLen; omega) rfl) rfl rfl ?_; rintro _ ⟨b166, rfl⟩)
         refine A3 8 ?_
         refine R5 rfl rfl rfl rfl rfl rfl (fun _ _ => by repeat (first | exact Sw.here | apply Sw.there)) (P3 (by repeat first | exact mH | apply mT)) rfl (by simp [Value.oneCell']) (by unfold maxLen; omega) (by omega) rfl rfl (by repeat (first | exact A9.nil | apply A9.dep (by decide +kernel) | apply A9.blk (by decide +kernel) (by repeat (first | exact Pk.here | apply Pk.there)) (by repeat first | exact mH | apply mT))) (fun pn' cn' => ?_)
         refine aP 9 rfl (B9 rfl) rfl ?_
         refine A3 10 ?_
         refine R2 rfl rfl rfl rfl rfl rfl rfl rfl (by kernel_rfl) (by repeat first | exact Sw.here | apply Sw.there) (by rfl) ?_
         refine B1 ?_
         refine sP (K5 rfl rfl (by omega) (by omega)) rfl rfl ?_
         refine A1 ?_
         refine L0 (i + 1, pn', cn', ts ++ [t3], es' ++ [[.int .i64 t3.k, .string t3.nm, .int .i64 t3.num, .int .i64 t3.ty.k, .slice qt t3.ty.ks.length dt, .int .i64 t3.fr.k, .slice qf t3.fr.ks.length df, .int .i64 t3.lb, .slice q3 t3.ks.length d3]], p3, G3) ?_ ?_ ?_
         ·(simp only [I7]; exact D5)
         ·(dsimp only; have e1 : (i + 1) * tB d1 = i * tB d1 + tB d1 := Nat.succ_mul _ _; have e2 := A6K ts t3; exact ⟨.inl (by omega), hle.trans hle3, by simp [hlt], D9.snoc (hst.mono hle3) hr3, by omega, by omega, by omega⟩)
         ·(show (C4 k).toNat - (i + 1) < (C4 k).toNat - i; omega)
        ·refine K2 ?_
         (refine I5 (by repeat (first | exact Pk.here | apply Pk.there)) (fun G5 hle5 hsl5 hno5 => ?_))
         refine tT ?_
         refine H5 (outs := [rd br pb nb cb p']) (rC rfl (A4 rfl rfl)) (by repeat (first | exact A0.nil | refine A0.cons Pk.here ?_ | refine A0.cons (Pk.there Pk.here) ?_ | refine A0.cons (Pk.there (Pk.there Pk.here)) ?_ | apply A0.drop)) ?_
         (refine ⟨p', by omega, by omega, rfl, .mk k nm 0 t' A6 0 ts, _, rfl, (hst.mono hle5).tm hlt hsl5 ⟨by omega, by omega⟩ ⟨by omega, by omega⟩ (hrB.mono (hle.trans hle5)), ?_⟩; rw [A0m, A6J]; omega)
   ·refine A1 ?_
    (show J3 _ _ (.cond (.tmp 26) _ _) _ _; refine Z4 (fun (x : ByteArray × ByteArray × Nat × IM) => ⟨[(7, .int .i64 k), (8, .pointer (some ⟨b69, 0, none⟩)), (6, .pointer (some ⟨b3, 0, none⟩)), (0, .pointer (some ⟨br, 0, none⟩)), (1, .string x.2.1), (2, .int .i64 ((d1 + 1 + 1 : Nat) : Int))], [.blk b69 [.int .i64 k, .string x.1, .int .i64 0, .int .i64 0, .slice none 0 0, .int .i64 0, .slice none 0 0, .int .i64 0, .slice none 0 0], .blk b3 [.int .i64 0, .string ⟨⟨[]⟩⟩, .int .i64 0, .int .i64 0, .slice none 0 0, .int .i64 0, .slice none 0 0, .int .i64 0, .slice none 0 0], rd br pb nb cb x.2.2.1], x.2.2.2⟩) (fun x => C2 Gk x.2.2.2 ∧ x.1.size ≤ 1 ∧ x.2.1.size ≤ s.size + 1 ∧ p + 2 ≤ x.2.2.1 ∧ x.2.2.1 ≤ p + 3) ?_ ?_)
    ·refine A1 ?_
     refine P8 (⟨⟨[]⟩⟩, s, p + 1 + 1, Gk) (N8 (by repeat (first | exact E5.nil | refine E5.cons rfl ?_)) (by repeat (first | exact A0.refl | exact A0.nil | refine A0.cons (by repeat (first | exact Pk.here | apply Pk.there)) ?_ | apply A0.drop))) ?_
     (dsimp only; exact ⟨C2.refl _, by decide, by omega, by omega, by omega⟩)
    ·(rintro ⟨(nm : ByteArray), s', p1, G1⟩ ⟨hleA, hnm, hss, hpA, hpB⟩; simp only [] at hleA hnm hss hpA hpB ⊢; replace hb := hb.mono hleA; have hmark := hleA)
     refine A1 ?_
     (have hm' := hmark; refine Z4 (fun (x : Bool) => ⟨(40, .bool x) :: [(7, .int .i64 k), (8, .pointer (some ⟨b69, 0, none⟩)), (6, .pointer (some ⟨b3, 0, none⟩)), (0, .pointer (some ⟨br, 0, none⟩)), (1, .string s'), (2, .int .i64 ((d1 + 1 + 1 : Nat) : Int))], [.blk b69 [.int .i64 k, .string nm, .int .i64 0, .int .i64 0, .slice none 0 0, .int .i64 0, .slice none 0 0, .int .i64 0, .slice none 0 0], .blk b3 [.int .i64 0, .string ⟨⟨[]⟩⟩, .int .i64 0, .int .i64 0, .slice none 0 0, .int .i64 0, .slice none 0 0, .int .i64 0, .slice none 0 0], rd br pb nb cb p1], G1⟩) (fun x => True) ?_ ?_)
     ·refine A1 ?_
      refine sP (H7 rfl rfl (by omega)) rfl rfl ?_
      refine A1 ?_
      refine sB (qE rfl rfl) rfl rfl (fun h218 => ?_) (fun h218 => ?_)
      ·refine A1 ?_
       refine P8 true (N8 (by repeat (first | exact E5.nil | refine E5.cons rfl ?_)) (by repeat (first | exact A0.refl | exact A0.nil | refine A0.cons (by repeat (first | exact Pk.here | apply Pk.there)) ?_ | apply A0.drop))) ?_
       trivial
      ·refine A1 ?_
       refine P8 false (N8 (by repeat (first | exact E5.nil | refine E5.cons rfl ?_)) (by repeat (first | exact A0.refl | exact A0.nil | refine A0.cons (by repeat (first | exact Pk.here | apply Pk.there)) ?_ | apply A0.drop))) ?_
       trivial
     ·(rintro x _; clear hmark)
      (show J3 _ _ (.cond (.tmp 40) _ _) _ _; refine Z4 (fun (x : Ty × Option Addr × Nat × Nat × IM) => ⟨[(7, .int .i64 k), (8, .pointer (some ⟨b69, 0, none⟩)), (6, .pointer (some ⟨b3, 0, none⟩)), (0, .pointer (some ⟨br, 0, none⟩)), (1, .string s'), (2, .int .i64 ((d1 + 1 + 1 : Nat) : Int))], [.blk b69 [.int .i64 k, .string nm, .int .i64 0, .int .i64 x.1.k, .slice x.2.1 x.1.ks.length x.2.2.1, .int .i64 0, .slice none 0 0, .int .i64 0, .slice none 0 0], .blk b3 [.int .i64 0, .string ⟨⟨[]⟩⟩, .int .i64 0, .int .i64 0, .slice none 0 0, .int .i64 0, .slice none 0 0, .int .i64 0, .slice none 0 0], rd br pb nb cb x.2.2.2.1], x.2.2.2.2⟩) (fun x => C2 G1 x.2.2.2.2 ∧ C3 x.2.2.2.2 x.1 [.int .i64 x.1.k, .slice x.2.1 x.1.ks.length x.2.2.1] ∧ L4 x.1 ≤ 14 ∧ p1 ≤ x.2.2.2.1 ∧ x.2.2.2.1 ≤ p1 + 15) (A3B rfl (fun hxt => ?_) (fun hxf => ?_)) ?_)
      ·refine B6 ?_
       (refine M5 (D4 rfl rfl rfl (by omega) (by unfold maxLen; omega) rfl) rfl ?_; rintro _ ⟨b232, rfl⟩)
       (refine V8 (by repeat (first | exact Pk.here | apply Pk.there)) (fun Gf hlef3 hslf _ => ?_); refine I0 rfl (A0e Gf br pb nb cb p1 bs _ _ _ _ (hb.mono hlef3) hnb (by omega) hslf (by decide)) (Pk.perm (by repeat (first | exact Pk.here | apply Pk.there))) rfl rfl (fun v Gn outs hlen hh => ?_); obtain ⟨rfl, rfl, hv⟩ := hh; replace hb := hb.mono hlef3; obtain ⟨dd, rfl, hdd⟩ : ∃ d : Nat, v = .int .i64 ((d + 1 : Nat) : Int) ∧ d ≤ 2 := (by simp only [List.mem_cons, List.not_mem_nil, or_false] at hv; rcases hv with rfl | rfl | rfl | rfl <;> first | exact ⟨0, rfl, by decide⟩ | exact ⟨1, rfl, by decide⟩ | exact ⟨2, rfl, by decide⟩))
       (have hdB := A6L hdd; refine I0 rfl (A9j br pb nb cb bs hnb dd (p1 + 1) _ (by omega) hb (by omega)) (Pk.perm (by repeat (first | exact Pk.here | apply Pk.there))) rfl rfl (fun v G3 outs hle3 hh => ?_); obtain ⟨p3, hp31, hp32, rfl, t3, cells3, rfl, hr3, hs3⟩ := hh; obtain ⟨q3, c3, es3, rfl, _⟩ := hr3.open)
       refine B6 ?_
       refine P8 (t3, q3, c3, p3, G3) (N8 (by repeat (first | exact E5.nil | refine E5.cons rfl ?_)) (by repeat (first | exact A0.refl | exact A0.nil | refine A0.cons (by repeat (first | exact Pk.here | apply Pk.there)) ?_ | apply A0.drop))) ?_
       (dsimp only; exact ⟨hlef3.trans hle3, hr3, by omega, by omega, by omega⟩)
      ·refine tK ?_
       refine P8 (A6, none, 0, p1, G1) (N8 (by repeat (first | exact E5.nil | refine E5.cons rfl ?_)) (by repeat (first | exact A0.refl | exact A0.nil | refine A0.cons (by repeat (first | exact Pk.here | apply Pk.there)) ?_ | apply A0.drop))) ?_
       (dsimp only; exact ⟨C2.refl _, A0Y _, by decide, by omega, by omega⟩)
      ·(rintro ⟨(t' : Ty), q', c', p2, G2⟩ ⟨hleB, hrB, hsB, hpC, hpD⟩; simp only [] at hleB hrB hsB hpC hpD ⊢; replace hb := hb.mono hleB; have hop := A1x k; have hK := A42 k)
       refine A7 ?_
       refine C0 ?_
       (refine V7 28 9 ?_; refine L9 (fun (x : Nat × Option Addr × Nat × List Tm × List (List Value) × Nat × IM) => ⟨[(9, .int .i64 x.1), (7, .int .i64 k), (8, .pointer (some ⟨b69, 0, none⟩)), (6, .pointer (some ⟨b3, 0, none⟩)), (0, .pointer (some ⟨br, 0, none⟩)), (1, .string s'), (2, .int .i64 ((d1 + 1 + 1 : Nat) : Int))], [.blk b69 [.int .i64 k, .string nm, .int .i64 0, .int .i64 t'.k, .slice q' t'.ks.length c', .int .i64 0, .slice none 0 0, .int .i64 0, .slice x.2.1 x.1 x.2.2.1], .slc x.2.1 x.2.2.1 28 9 x.1 x.2.2.2.2.1.flatten, rd br pb nb cb x.2.2.2.2.2.1, .blk b3 [.int .i64 0, .string ⟨⟨[]⟩⟩, .int .i64 0, .int .i64 0, .slice none 0 0, .int .i64 0, .slice none 0 0, .int .i64 0, .slice none 0 0]], x.2.2.2.2.2.2⟩) (fun x => ((x.1 : Int) ≤ C4 k ∨ x.1 = 0) ∧ C2 G2 x.2.2.2.2.2.2 ∧ x.2.2.2.1.length = x.1 ∧ D9 x.2.2.2.2.2.2 x.2.2.2.1 x.2.2.2.2.1 ∧ Y5 x.2.2.2.1 ≤ ((x.1 * tB d1 : Nat) : Int) ∧ p2 ≤ x.2.2.2.2.2.1 ∧ x.2.2.2.2.2.1 ≤ p2 + x.1 * tB d1) (fun x => (C4 k).toNat - x.1) (0, none, 0, [], [], p2, G2) ?_ ?_ ?_)
       ·(simp only [I7]; exact D5)
       ·(exact ⟨.inr rfl, C2.refl _, rfl, by simp [D9], by simp [Y5], by dsimp only; omega, by dsimp only; omega⟩)
       ·(rintro ⟨i, pn, cn, ts, es', p', Gi⟩ ⟨hi, hle, hlt, hst, hsum, hq1, hq2⟩; simp only [] at hi hle hlt hst hsum hq1 hq2 ⊢; have hid : i * tB d1 ≤ 3 * tB d1 := Nat.mul_le_mul_right _ (by omega))
        refine B1 ?_
        refine I3 rfl ((hK _)) rfl rfl ?_
        refine sB (K6 rfl rfl) rfl rfl (fun h261 => ?_) (fun h261 => ?_)
        ·refine A7 ?_
         refine C0 ?_
         (have hih := ih d1 (by omega) p' Gi s' (by omega) (by omega) (hb.mono hle) (by have := Nat.mul_le_mul_right (tB d1) (show i + 1 ≤ 3 by omega); rw [Nat.succ_mul] at this; omega); refine E3 E4 rfl ?_)
         refine J5 (i := 0) (l' := [tt,ff,ff,ff,ff,ff,ff,ff,ff,ff,ff]) rfl D7 (B9 rfl) rfl (by kernel_rfl) rfl rfl ?_
         refine aL 1 rfl (D3 rfl rfl) rfl ?_
         refine aP 2 rfl (qM rfl) rfl ?_
         refine aP 3 rfl (qM rfl) rfl ?_
         refine aP 4 rfl (qM rfl) rfl ?_
         refine aP 5 rfl (A4Z rfl rfl (by omega)) rfl ?_
         refine A3 6 ?_
         (refine A0d (l' := [tt,tt,tt,tt,tt,tt,tt,ff,ff,ff,ff]) rfl rfl hih (Pk.perm (by repeat (first | exact Pk.here | apply Pk.there))) rfl rfl rfl (by repeat (first | exact A9.nil | apply A9.dep (by decide +kernel) | apply A9.blk (by decide +kernel) (by repeat (first | exact Pk.here | apply Pk.there)) (by repeat first | exact mH | apply mT))) (fun v G3 outs hle3 hh => ?_); obtain ⟨p3, hp31, hp32, rfl, t3, cells3, rfl, hr3, hs3⟩ := hh; obtain ⟨qt, dt, et, qf, df, ef, q3, d3, es3, rfl, _⟩ := hr3.open)
         refine A3 7 ?_
         (refine E6 rfl (D4 rfl rfl rfl (by omega) (by unfold maxLen; omega) rfl) rfl rfl ?_; rintro _ ⟨b279, rfl⟩)
         refine A3 8 ?_
         refine R5 rfl rfl rfl rfl rfl rfl (fun _ _ => by repeat (first | exact Sw.here | apply Sw.there)) (P3 (by repeat first | exact mH | apply mT)) rfl (by simp [Value.oneCell']) (by unfold maxLen; omega) (by omega) rfl rfl (by repeat (first | exact A9.nil | apply A9.dep (by decide +kernel) | apply A9.blk (by decide +kernel) (by repeat (first | exact Pk.here | apply Pk.there)) (by repeat first | exact mH | apply mT))) (fun pn' cn' => ?_)
         refine aP 9 rfl (B9 rfl) rfl ?_
         refine A3 10 ?_
         refine R2 rfl rfl rfl rfl rfl rfl rfl rfl (by kernel_rfl) (by repeat first | exact Sw.here | apply Sw.there) (by rfl) ?_
         refine B1 ?_
         refine sP (K5 rfl rfl (by omega) (by omega)) rfl rfl ?_
         refine A1 ?_
         refine L0 (i + 1, pn', cn', ts ++ [t3], es' ++ [[.int .i64 t3.k, .string t3.nm, .int .i64 t3.num, .int .i64 t3.ty.k, .slice qt t3.ty.ks.length dt, .int .i64 t3.fr.k, .slice qf t3.fr.ks.length df, .int .i64 t3.lb, .slice q3 t3.ks.length d3]], p3, G3) ?_ ?_ ?_
         ·(simp only [I7]; exact D5)
         ·(dsimp only; have e1 : (i + 1) * tB d1 = i * tB d1 + tB d1 := Nat.succ_mul _ _; have e2 := A6K ts t3; exact ⟨.inl (by omega), hle.trans hle3, by simp [hlt], D9.snoc (hst.mono hle3) hr3, by omega, by omega, by omega⟩)
         ·(show (C4 k).toNat - (i + 1) < (C4 k).toNat - i; omega)
        ·refine K2 ?_
         (refine I5 (by repeat (first | exact Pk.here | apply Pk.there)) (fun G5 hle5 hsl5 hno5 => ?_))
         refine tT ?_
         refine H5 (outs := [rd br pb nb cb p']) (rC rfl (A4 rfl rfl)) (by repeat (first | exact A0.nil | refine A0.cons Pk.here ?_ | refine A0.cons (Pk.there Pk.here) ?_ | refine A0.cons (Pk.there (Pk.there Pk.here)) ?_ | apply A0.drop)) ?_
         (refine ⟨p', by omega, by omega, rfl, .mk k nm 0 t' A6 0 ts, _, rfl, (hst.mono hle5).tm hlt hsl5 ⟨by omega, by omega⟩ ⟨by omega, by omega⟩ (hrB.mono (hle.trans hle5)), ?_⟩; rw [A0m, A6J]; omega)
theorem Sl.pre {G : IM} {p : Option Addr} {n c m : Nat} {cs : List Value} (h : Sl G p n c 1 cs) (hm : m ≤ n) : Sl G p m c 1 (cs.take m) := by
 obtain ⟨h1, h2, h3, h4⟩ := h
 refine ⟨by rw [List.length_take]; omega, by omega, h3, ?_⟩
 rcases h4 with h4 | ⟨b, o, full, e1, e2, e3⟩
 ·exact .inl (by omega)
 ·refine .inr ⟨b, o, full, e1, e2, fun j v hj => e3 j v ?_⟩
  rw [List.getElem?_take] at hj
  split at hj
  ·exact hj
  ·cases hj
theorem B4k (bs : List UInt8) (m : Nat) : O9 (bs.take m) = (O9 bs).take m := by unfold O9; rw [List.map_take]
theorem A9t {d : Nat} (h : d ≤ 4) : tB d ≤ 1043 := by
 have : d = 0 ∨ d = 1 ∨ d = 2 ∨ d = 3 ∨ d = 4 := by omega
 rcases this with rfl | rfl | rfl | rfl | rfl <;> decide
def A37 (G : IM) : IM → Value → List A5 → Prop := fun G' v outs => G' = G ∧ ∃ br pb nb cb bs, v = .pointer (some ⟨br, 0, none⟩) ∧ outs = [rd br pb nb cb 0] ∧ nb ≤ 2000 ∧ Sl G pb nb cb 1 (O9 bs)
theorem A37.mk {G : IM} {b : Nat} {pb : Option Addr} {nb cb : Nat} {bs : List UInt8} (h : nb ≤ 2000) (hb : Sl G pb nb cb 1 (O9 bs)) : A37 G G (.pointer (some ⟨b, 0, none⟩)) [.blk b [.slice pb nb cb, .int .i64 0]] := ⟨rfl, _, _, _, _, bs, rfl, rfl, h, hb⟩
theorem B4l (G : IM) (q : Option Addr) (n c : Nat) (bs : List UInt8) (hb : Sl G q n c 1 (O9 bs)) :
  Fn Tryz.prog 43 [.slice q n c] [] G (A37 G) := by
 have hn := hb.le
 have hnc := hb.2.1
 have hpre := fun h : 2000 ≤ n => hb.pre h
 refine B7 Tryz.func43 rfl Tryz.ntmps43 Tryz.results43 rfl ?_
 intro w0
 refine J2 ?_
 refine sB (Z2 rfl rfl) rfl rfl (fun h11 => ?_) (fun h11 => ?_)
 refine B1 ?_
 refine sP (A6u (l := 2000) rfl rfl rfl (by omega)) rfl rfl ?_
 refine B4 ?_
 refine sE (C7 rfl rfl) rfl (fun b25 => ?_)
 refine B3 ?_
 refine H5 (rT rfl) A0.refl ?_
 exact A37.mk (Nat.le_refl _) (by rw [B4k]; exact hpre (by omega))
 refine D8 ?_
 refine sE (C7 rfl rfl) rfl (fun b41 => ?_)
 refine B3 ?_
 refine H5 (rT rfl) A0.refl ?_
 exact A37.mk (by omega) hb
theorem A9u (br : Nat) (pb : Option Addr) (nb cb : Nat) (bs : List UInt8) (hnb : nb ≤ 2000) (p : Nat) (G : IM) (hb : Sl G pb nb cb 1 (O9 bs)) (hp : p + 1100 < 1099511627776) :
  Fn Tryz.prog 130 [.pointer (some ⟨br, 0, none⟩)] [rd br pb nb cb p] G
   (A0z br pb nb cb p 1100 (fun G' v => ∃ t cells, v = .agg ⟨cells⟩ ∧ A8 G' t cells ∧ A0m t ≤ 1043)) := by
 refine B7 Tryz.func130 rfl Tryz.ntmps130 Tryz.results130 rfl ?_
 intro w0
 refine A1 ?_
 refine sE (B0 rfl) rfl (fun b3 => ?_)
 refine A7 ?_
 (refine M5 (D4 rfl rfl rfl (by omega) (by unfold maxLen; omega) rfl) rfl ?_; rintro _ ⟨b10, rfl⟩)
 (refine V8 (by repeat (first | exact Pk.here | apply Pk.there)) (fun Gf hlef hslf _ => ?_); refine I0 rfl (A0e Gf br pb nb cb p bs _ _ _ _ (hb.mono hlef) hnb (by omega) hslf (by decide)) (Pk.perm (by repeat (first | exact Pk.here | apply Pk.there))) rfl rfl (fun v Gn outs hlen hh => ?_); obtain ⟨rfl, rfl, hv⟩ := hh; replace hb := hb.mono hlef; obtain ⟨dd, rfl, hdd⟩ : ∃ d : Nat, v = .int .i64 ((d + 1 : Nat) : Int) ∧ d ≤ 4 := (by simp only [List.mem_cons, List.not_mem_nil, or_false] at hv; rcases hv with rfl | rfl | rfl | rfl | rfl <;> first | exact ⟨3, rfl, by decide⟩ | exact ⟨2, rfl, by decide⟩ | exact ⟨4, rfl, by decide⟩ | exact ⟨1, rfl, by decide⟩); have htB := A9t hdd)
 (refine I0 rfl (A9s br pb nb cb bs hnb dd (p + 1) Gn ⟨⟨[]⟩⟩ (by omega) (by have hz : (⟨⟨[]⟩⟩ : ByteArray).size ≤ 2 := (by decide); omega) hb (by omega)) (Pk.perm (by repeat (first | exact Pk.here | apply Pk.there))) rfl rfl (fun v G3 outs hle3 hh => ?_); obtain ⟨p3, hp31, hp32, rfl, t3, cells3, rfl, hr3, hs3⟩ := hh; have hl3 := hr3.len; have ho3 := hr3.one; have hc3 := A3W t3; have hv3 := A46 t3 G3 cells3 (by omega) hr3)
 refine sE (B0 rfl) rfl (fun b13 => ?_)
 refine sS rfl rfl rfl hl3 ho3 rfl ?_ (hu := by exact C9 hl3.symm)
 refine B1 ?_
 refine sL (A2 rfl rfl (B2 (by repeat first | exact mH | apply mT)) hl3) rfl rfl ?_
 refine E1 rfl (hv3) rfl rfl (fun h21 => ?_) (fun h21 => ?_)
 refine B1 ?_
 refine sL (A2 rfl rfl (B2 (by repeat first | exact mH | apply mT)) hl3) rfl rfl ?_
 refine sS rfl rfl rfl hl3 ho3 rfl ?_ (hu := by exact C9 hl3.symm)
 refine B3 ?_
 refine H5 (outs := [rd br pb nb cb p3]) (rC rfl (A2 rfl rfl (B2 (by repeat first | exact mH | apply mT)) hl3)) (by repeat (first | exact A0.nil | refine A0.cons Pk.here ?_ | refine A0.cons (Pk.there Pk.here) ?_ | refine A0.cons (Pk.there (Pk.there Pk.here)) ?_ | apply A0.drop)) ?_
 (exact ⟨p3, by omega, by omega, rfl, t3, cells3, rfl, hr3, by omega⟩)
 refine B4 ?_
 refine I3 rfl ((A2e _ _)) rfl rfl ?_
 refine B3 ?_
 refine H5 (outs := [rd br pb nb cb p3]) (rC rfl (A4 rfl rfl)) (by repeat (first | exact A0.nil | refine A0.cons Pk.here ?_ | refine A0.cons (Pk.there Pk.here) ?_ | refine A0.cons (Pk.there (Pk.there Pk.here)) ?_ | apply A0.drop)) ?_
 (exact ⟨p3, by omega, by omega, rfl, _, _, rfl, A1w ⟨by omega, by omega⟩ ⟨by omega, by omega⟩, by rw [A1U]; decide⟩)
theorem B4m (br : Nat) (pb : Option Addr) (nb cb : Nat) (bs : List UInt8) (hnb : nb ≤ 2000) (p : Nat) (G : IM) (hb : Sl G pb nb cb 1 (O9 bs)) (hp : p + 1200 < 1099511627776) :
  Fn Tryz.prog 60 [.pointer (some ⟨br, 0, none⟩)] [rd br pb nb cb p] G
   (A0z br pb nb cb p 1200 (fun G' v => ∃ t cells, v = .agg ⟨cells⟩ ∧ A8 G' t cells ∧ A0m t ≤ 1043)) := by
 refine B7 Tryz.func60 rfl Tryz.ntmps60 Tryz.results60 rfl ?_
 intro w0
 refine A1 ?_
 refine sE (B0 rfl) rfl (fun b3 => ?_)
 refine A7 ?_
 (refine I0 rfl (Y6 _ br pb nb cb p bs _ hb hnb (by omega)) (Pk.perm (by repeat (first | exact Pk.here | apply Pk.there))) rfl rfl (fun v10 G10 outs10 hle10 hh => ?_); obtain ⟨rfl, rfl, j10, rfl, hj10, hk10⟩ := hh)
 replace hb := hb.mono hle10
 refine sB (Z2 rfl rfl) rfl rfl (fun h11 => ?_) (fun h11 => ?_)
 refine A7 ?_
 (refine I0 rfl (A9u br pb nb cb bs hnb (p + 1) _ hb (by omega)) (Pk.perm (by repeat (first | exact Pk.here | apply Pk.there))) rfl rfl (fun v G3 outs hle3 hh => ?_); obtain ⟨p3, hp31, hp32, rfl, t3, cells3, rfl, hr3, hs3⟩ := hh; have hl3 := hr3.len; have ho3 := hr3.one)
 refine sS rfl rfl rfl hl3 ho3 rfl ?_ (hu := by exact C9 hl3.symm)
 refine B3 ?_
 refine H5 (outs := [rd br pb nb cb p3]) (rC rfl (A2 rfl rfl (B2 (by repeat first | exact mH | apply mT)) hl3)) (by repeat (first | exact A0.nil | refine A0.cons Pk.here ?_ | refine A0.cons (Pk.there Pk.here) ?_ | refine A0.cons (Pk.there (Pk.there Pk.here)) ?_ | apply A0.drop)) ?_
 (exact ⟨p3, by omega, by omega, rfl, t3, cells3, rfl, hr3, by omega⟩)
 refine D8 ?_
 (refine M5 (D4 rfl rfl rfl (by omega) (by unfold maxLen; omega) rfl) rfl ?_; rintro _ ⟨b35, rfl⟩)
 (refine V8 (by repeat (first | exact Pk.here | apply Pk.there)) (fun Gf hlef hslf _ => ?_); refine I0 rfl (A0e Gf br pb nb cb (p + 1) bs _ _ _ _ (hb.mono hlef) hnb (by omega) hslf (by decide)) (Pk.perm (by repeat (first | exact Pk.here | apply Pk.there))) rfl rfl (fun v Gn outs hlen hh => ?_); obtain ⟨rfl, rfl, hv⟩ := hh; replace hb := hb.mono hlef; obtain ⟨dd, rfl, hdd⟩ : ∃ d : Nat, v = .int .i64 ((d + 1 : Nat) : Int) ∧ d ≤ 4 := (by simp only [List.mem_cons, List.not_mem_nil, or_false] at hv; rcases hv with rfl | rfl | rfl <;> first | exact ⟨2, rfl, by decide⟩ | exact ⟨1, rfl, by decide⟩ | exact ⟨3, rfl, by decide⟩); have htB := A9t hdd)
 (refine I0 rfl (A9s br pb nb cb bs hnb dd (p + 1 + 1) Gn ⟨⟨[120, 122]⟩⟩ (by omega) (by have hz : (⟨⟨[120, 122]⟩⟩ : ByteArray).size ≤ 2 := (by decide); omega) hb (by omega)) (Pk.perm (by repeat (first | exact Pk.here | apply Pk.there))) rfl rfl (fun v G3 outs hle3 hh => ?_); obtain ⟨p3, hp31, hp32, rfl, t3, cells3, rfl, hr3, hs3⟩ := hh; have hl3 := hr3.len; have ho3 := hr3.one; have hc3 := A3W t3; have hv3 := A46 t3 G3 cells3 (by omega) hr3)
 refine sE (B0 rfl) rfl (fun b38 => ?_)
 refine sS rfl rfl rfl hl3 ho3 rfl ?_ (hu := by exact C9 hl3.symm)
 refine B1 ?_
 refine sL (A2 rfl rfl (B2 (by repeat first | exact mH | apply mT)) hl3) rfl rfl ?_
 refine E1 rfl (hv3) rfl rfl (fun h46 => ?_) (fun h46 => ?_)
 refine B1 ?_
 refine sL (A2 rfl rfl (B2 (by repeat first | exact mH | apply mT)) hl3) rfl rfl ?_
 refine sS rfl rfl rfl hl3 ho3 rfl ?_ (hu := by exact C9 hl3.symm)
 refine B3 ?_
 refine H5 (outs := [rd br pb nb cb p3]) (rC rfl (A2 rfl rfl (B2 (by repeat first | exact mH | apply mT)) hl3)) (by repeat (first | exact A0.nil | refine A0.cons Pk.here ?_ | refine A0.cons (Pk.there Pk.here) ?_ | refine A0.cons (Pk.there (Pk.there Pk.here)) ?_ | apply A0.drop)) ?_
 (exact ⟨p3, by omega, by omega, rfl, t3, cells3, rfl, hr3, by omega⟩)
 refine B4 ?_
 refine I3 rfl ((A2e _ _)) rfl rfl ?_
 refine B3 ?_
 refine H5 (outs := [rd br pb nb cb p3]) (rC rfl (A4 rfl rfl)) (by repeat (first | exact A0.nil | refine A0.cons Pk.here ?_ | refine A0.cons (Pk.there Pk.here) ?_ | refine A0.cons (Pk.there (Pk.there Pk.here)) ?_ | apply A0.drop)) ?_
 (exact ⟨p3, by omega, by omega, rfl, _, _, rfl, A1w ⟨by omega, by omega⟩ ⟨by omega, by omega⟩, by rw [A1U]; decide⟩)
theorem A1y (G : IM) : Fn Tryz.prog 182 [] [] G (H8 (.agg ⟨[.int .i64 2, .slice none 0 0]⟩) G) := by
 refine B7 Tryz.func182 rfl Tryz.ntmps182 Tryz.results182 rfl ?_
 intro w0
 refine A1 ?_
 refine sE (B0 rfl) rfl (fun b3 => ?_)
 refine D8 ?_
 refine L3 (rC rfl (A4 rfl rfl)) ?_
 exact ⟨rfl, rfl, rfl⟩
theorem A38 (G : IM) : Fn Tryz.prog 180 [] [] G (H8 (.agg ⟨[.int .i64 3, .slice none 0 0]⟩) G) := by
 refine B7 Tryz.func180 rfl Tryz.ntmps180 Tryz.results180 rfl ?_
 intro w0
 refine A1 ?_
 refine sE (B0 rfl) rfl (fun b3 => ?_)
 refine D8 ?_
 refine L3 (rC rfl (A4 rfl rfl)) ?_
 exact ⟨rfl, rfl, rfl⟩
theorem A2F (G : IM) (k : Int) (p : Option Addr) (n c : Nat) : Fn Tryz.prog 179 [.int .i64 k, .slice p n c] [] G (H8 (.agg ⟨[.int .i64 k, .string ⟨⟨[]⟩⟩, .int .i64 0, .int .i64 0, .slice none 0 0, .int .i64 0, .slice none 0 0, .int .i64 0, .slice p n c]⟩) G) := by
 refine B7 Tryz.func179 rfl Tryz.ntmps179 Tryz.results179 rfl ?_
 intro w0
 refine A1 ?_
 refine sE (B0 rfl) rfl (fun b3 => ?_)
 refine J4 ?_
 refine L3 (rC rfl (A4 rfl rfl)) ?_
 exact ⟨rfl, rfl, rfl⟩
theorem O2 (G : IM) {k : Int} (hk : F8 k) : C3 G (.mk k []) [.int .i64 k, .slice none 0 0] := by
 simp only [C3]
 exact ⟨none, 0, [], rfl, hk, D6.of (Sl.nil _ _) rfl (by simp) (by simp), by simp [H0]⟩
theorem A9v (k : Int) : L4 (.mk k []) = 0 := rfl
def TyB (B : Int) (G : IM) : IM → Value → List A5 → Prop := M9 fun G' v => ∃ t cells b, v = .tuple ⟨[.agg ⟨cells⟩, .bool b]⟩ ∧ C3 G' t cells ∧ F4 t ∧ L4 t ≤ B
theorem A5b {k : Int} {a b : Ty} (hk : k = 4 ∨ k = 5) (ha : F4 a) (hb : F4 b) : F4 (.mk k [a, b]) := by
 rw [F4]
 exact ⟨fun _ => rfl, fun h4 h5 => by omega, by simp [A0T, ha, hb]⟩
theorem U3 {k : Int} (h4 : k ≠ 4) (h5 : k ≠ 5) : F4 (.mk k []) := (A26 0 h4 h5).ar
theorem F4.kid {k : Int} {ks : List Ty} (h : F4 (.mk k ks)) : ∀ t ∈ ks, F4 t := by
 rw [F4] at h; exact A3X.1 h.2.2
theorem F4.two {k : Int} {ks : List Ty} (h : F4 (.mk k ks)) : ks.length ≤ 2 := by
 rw [F4] at h
 have h1 := h.1
 have h2 := h.2.1
 omega
theorem A9w : ∀ {ks : List Ty} {t : Ty}, t ∈ ks → L4 t ≤ P6 ks
 | [], t, h => by simp at h
 | t' :: ts, t, h => by
  rw [P6]
  have := A1c t'
  have := A2b ts
  rcases List.mem_cons.1 h with rfl | h
  ·omega
  ·have := A9w h; omega
theorem B4n {k : Int} {ks : List Ty} {t : Ty} (h : t ∈ ks) : L4 t ≤ L4 (.mk k ks) := by
 have := A9w h
 rw [L4]; omega
def B9W (B : Int) (G : IM) : IM → Value → List A5 → Prop := M9 fun G' v => ∃ a ca b cb x, v = .tuple ⟨[.agg ⟨ca⟩, .agg ⟨cb⟩, .bool x]⟩ ∧ C3 G' a ca ∧ F4 a ∧ L4 a ≤ B ∧ C3 G' b cb ∧ F4 b ∧ L4 b ≤ B
def TyP (B : Int) (Q : Ty → Prop) (G : IM) : IM → Value → List A5 → Prop := M9 fun G' v => ∃ t cells, v = .agg ⟨cells⟩ ∧ C3 G' t cells ∧ F4 t ∧ L4 t ≤ B ∧ Q t
theorem A9x {k : Int} {ks us : List Ty} (h : F4 (.mk k ks)) (hl : us.length = ks.length) (hu : ∀ u ∈ us, F4 u) : F4 (.mk k us) := by
 rw [F4] at h ⊢
 exact ⟨fun hk => by rw [hl]; exact h.1 hk, fun a b => by rw [hl]; exact h.2.1 a b, A3X.2 hu⟩
theorem A3b {P : Ty → Prop} {us : List Ty} {u : Ty} (h : ∀ x ∈ us, P x) (hu : P u) : ∀ x ∈ us ++ [u], P x := by
 simp only [List.forall_mem_append, List.forall_mem_singleton]; exact ⟨h, hu⟩
theorem A1V : ∀ (t t' : Ty) (G : IM) (cells cells' : List Value), F4 t → F4 t' → C3 G t cells → C3 G t' cells' →
  Fn Tryz.prog 107 [.agg ⟨cells⟩, .agg ⟨cells'⟩] [] G (H8 (.bool (K3 t t')) G) := by
 refine Ty.ind fun k ks ih t' G cells cells' ha ha' hr hr' => ?_
 obtain ⟨k', ks'⟩ := t'
 obtain ⟨p, c, es, rfl, hk, hsl, hkl⟩ := hr.open
 obtain ⟨p', c', es', rfl, hk', hsl', hkl'⟩ := hr'.open
 simp only [Ty.k, Ty.ks] at hk hsl hkl hk' hsl' hkl' ⊢
 have hn := hsl.le
 have hn' := hsl'.le
 have hv2 := ha.kid
 have hv2' := ha'.kid
 rw [F4] at ha ha'
 have hle : k = k' → ks.length = ks'.length := by
  rintro rfl
  have h1 := ha.1
  have h2 := ha.2.1
  have h3 := ha'.1
  have h4 := ha'.2.1
  omega
 refine B7 Tryz.func107 rfl Tryz.ntmps107 Tryz.results107 rfl ?_
 intro w0
 refine A1 ?_
 refine sE (C7 rfl rfl) rfl (fun b3 => ?_)
 refine sE (C7 rfl rfl) rfl (fun b4 => ?_)
 refine D0 ?_
 refine sB (qE rfl rfl) rfl rfl (fun h13 => ?_) (fun h13 => ?_)
 refine J7 ?_
 (rw [A44 (by omega)]; exact ⟨rfl, rfl, rfl⟩)
 refine B6 ?_
 refine sB (qE rfl rfl) rfl rfl (fun h34 => ?_) (fun h34 => ?_)
 refine O0 ?_
 (rw [A44 (by omega)]; exact ⟨rfl, rfl, rfl⟩)
 refine J6 ?_
 refine sB (N7 rfl rfl) rfl rfl (fun h61 => ?_) (fun h61 => ?_)
 refine J4 ?_
 (rw [A83 (by omega) (by omega) (by omega)]; exact ⟨rfl, rfl, rfl⟩)
 refine J4 ?_
 refine C0 ?_
 (have hll : ks.length = ks'.length := hle (by omega); refine L9 (fun (i : Nat) => ⟨[(5, .int .i64 i), (3, .pointer (some ⟨b4, 0, none⟩)), (2, .pointer (some ⟨b3, 0, none⟩))], [.blk b3 [.int .i64 k, .slice p ks.length c], .blk b4 [.int .i64 k', .slice p' ks'.length c']], G⟩) (fun i => i ≤ ks.length ∧ ∀ j (h : j < ks.length) (h' : j < ks'.length), j < i → K3 ks[j] ks'[j] = true) (fun i => ks.length - i) 0 ?_ ?_ ?_)
 exact D5
 exact ⟨by omega, by omega⟩
 (rintro i ⟨hi, hf⟩)
 refine B4 ?_
 refine sB (K6 rfl rfl) rfl rfl (fun h97 => ?_) (fun h97 => ?_)
 refine A7 ?_
 refine C0 ?_
 refine tS ?_
 (obtain ⟨b, o, p2, c2, rfl, hat, hre, hgb⟩ := hsl.kidTy hkl (i := i) (by omega) (by omega); obtain ⟨b', o', p2', c2', rfl, hat', hre', hgb'⟩ := hsl'.kidTy hkl' (i := i) (by omega) (by omega); refine E3 E4 rfl ?_)
 refine J5 (i := 0) (l' := [tt,ff,ff,ff,ff,ff,ff,ff,ff,ff,ff,ff]) rfl D7 (B9 rfl) rfl (by kernel_rfl) rfl rfl ?_
 refine aL 1 rfl (D3 rfl rfl) rfl ?_
 refine aP 2 rfl (qM rfl) rfl ?_
 refine aP 3 rfl (B8 rfl rfl rfl (by omega)) rfl ?_
 refine aL 4 rfl (A2 rfl rfl (hat _) rfl) rfl ?_
 refine aP 5 rfl (B9 rfl) rfl ?_
 refine aL 6 rfl (D3 rfl rfl) rfl ?_
 refine aP 7 rfl (qM rfl) rfl ?_
 refine aP 8 rfl (B8 rfl rfl rfl (by omega)) rfl ?_
 refine aL 9 rfl (A2 rfl rfl (hat' _) rfl) rfl ?_
 refine A3 10 ?_
 refine U7 rfl rfl (ih ks[i] (List.getElem_mem (by omega)) ks'[i] G _ _ (hv2 _ (List.getElem_mem (by omega))) (hv2' _ (List.getElem_mem (by omega))) hre hre') rfl rfl rfl (fun h118 => ?_) (fun h118 => ?_)
 refine aP 11 rfl (pNt rfl) rfl ?_
 refine D0 ?_
 refine sP (K5 rfl rfl (by omega) (by omega)) rfl rfl ?_
 refine A1 ?_
 refine L0 (i + 1) ?_ ?_ ?_
 exact D5
 exact ⟨by omega, fun j hj hj' hji => by (by_cases he : j = i; (subst he; assumption); exact hf j hj hj' (by omega))⟩
 omega
 refine aP 11 rfl (pNf rfl) rfl ?_
 refine I6 ?_
 (rw [A45 (by omega) (by omega) (by omega), A84 (i := i) (by omega) (by omega) (by assumption)]; exact ⟨rfl, rfl, rfl⟩)
 refine I6 ?_
 (rw [A45 (by omega) (by omega) (by omega), (A19 ks _).2 ⟨hll, fun j hj hj' => hf j hj hj' (by omega)⟩]; exact ⟨rfl, rfl, rfl⟩)
theorem A6M (br : Nat) (pb : Option Addr) (nb cb : Nat) (bs : List UInt8) (hnb : nb ≤ 2000) : ∀ (t : Ty) (p : Nat) (G : IM) (cells : List Value), F4 t → C3 G t cells → Sl G pb nb cb 1 (O9 bs) → p + (L4 t).toNat + 1 < 1099511627776 →
  Fn Tryz.prog 105 [.pointer (some ⟨br, 0, none⟩), .agg ⟨cells⟩] [rd br pb nb cb p] G
   (A0z br pb nb cb p ((L4 t).toNat + 1) (fun G' v => ∃ u cells, v = .agg ⟨cells⟩ ∧ C3 G' u cells ∧ F4 u ∧ L4 u ≤ L4 t ∧ ∀ n, R6 n t → R6 n u)) := by
 refine Ty.ind fun k ks ih p G cells ha hr hb hp => ?_
 have hkid := ha.kid
 have hnn := A2b ks
 have hz : L4 (.mk k ks) = ks.length + P6 ks := by rw [L4]
 rw [hz] at hp ⊢
 obtain ⟨q, c, es, rfl, hk, hsl, hkl⟩ := hr.open
 simp only [Ty.k, Ty.ks] at hk hsl hkl ⊢
 have hn := hsl.le
 have hl2 := ha.two
 refine B7 Tryz.func105 rfl Tryz.ntmps105 Tryz.results105 rfl ?_
 intro w0
 refine A1 ?_
 refine sE (C7 rfl rfl) rfl (fun b3 => ?_)
 refine sE (B0 rfl) rfl (fun b4 => ?_)
 refine A7 ?_
 (refine I0 rfl (Y6 _ br pb nb cb p bs _ hb hnb (by omega)) (Pk.perm (by repeat (first | exact Pk.here | apply Pk.there))) rfl rfl (fun v11 G11 outs11 hle11 hh => ?_); obtain ⟨rfl, rfl, j11, rfl, hj11, hk11⟩ := hh; have hm := hle11)
 replace hb := hb.mono hle11
 replace hr := hr.mono hle11
 replace hsl := hsl.mono hle11
 replace hkl := hkl.mono hle11
 refine sB (qE rfl rfl) rfl rfl (fun h12 => ?_) (fun h12 => ?_)
 refine B1 ?_
 refine I3 rfl ((A1v _)) rfl rfl ?_
 refine B1 ?_
 refine H5 (outs := [rd br pb nb cb (p + 1)]) (rC rfl (A4 rfl rfl)) (by repeat (first | exact A0.nil | refine A0.cons Pk.here ?_ | refine A0.cons (Pk.there Pk.here) ?_ | refine A0.cons (Pk.there (Pk.there Pk.here)) ?_ | apply A0.drop)) ?_
 (exact ⟨p + 1, by omega, by omega, rfl, K1, _, rfl, A0N _, A3Y, by rw [A6G]; omega, fun n _ => A80 n⟩)
 refine J2 ?_
 refine sE (B0 rfl) rfl (fun b36 => ?_)
 refine D8 ?_
 refine C0 ?_
 (refine V7 25 2 ?_; refine L9 (fun (x : Nat × Option Addr × Nat × List Ty × List (List Value) × Nat × IM) => ⟨[(6, .int .i64 x.1), (5, .pointer (some ⟨b36, 0, none⟩)), (4, .pointer (some ⟨b4, 0, none⟩)), (0, .pointer (some ⟨br, 0, none⟩)), (3, .pointer (some ⟨b3, 0, none⟩))], [.blk b36 [.int .i64 k, .slice x.2.1 x.1 x.2.2.1], .slc x.2.1 x.2.2.1 25 2 x.1 x.2.2.2.2.1.flatten, rd br pb nb cb x.2.2.2.2.2.1, .blk b4 [.int .i64 0, .slice none 0 0], .blk b3 [.int .i64 k, .slice q ks.length c]], x.2.2.2.2.2.2⟩) (fun x => x.1 ≤ ks.length ∧ C2 G11 x.2.2.2.2.2.2 ∧ x.2.2.2.1.length = x.1 ∧ H0 x.2.2.2.2.2.2 x.2.2.2.1 x.2.2.2.2.1 ∧ (∀ u ∈ x.2.2.2.1, F4 u) ∧ (∀ n, R6 n (.mk k ks) → ∀ u ∈ x.2.2.2.1, R6 (n - 1) u) ∧ P6 x.2.2.2.1 ≤ P6 (ks.take x.1) ∧ p + 1 ≤ x.2.2.2.2.2.1 ∧ (x.2.2.2.2.2.1 : Int) ≤ p + 1 + x.1 + P6 (ks.take x.1)) (fun x => ks.length - x.1) (0, none, 0, [], [], p + 1, G11) ?_ ?_ ?_)
 (simp only [I7]; exact D5)
 (exact ⟨by simp, C2.refl _, rfl, by simp [H0], by simp, by simp, by simp [P6], by dsimp only; omega, by simp [P6]⟩)
 (rintro ⟨i, pn, cn, us, es', p', Gi⟩ ⟨hi, hle, hlu, hst, hau, hhu, hsu, hp1, hp2⟩; simp only [] at hi hle hlu hst hau hhu hsu hp1 hp2 ⊢; replace hsl := hsl.mono hle; replace hkl := hkl.mono hle; have htk := A8I ks i)
 refine B4 ?_
 refine sB (K6 rfl rfl) rfl rfl (fun h58 => ?_) (fun h58 => ?_)
 refine A7 ?_
 refine C0 ?_
 (obtain ⟨b, o, q0, d0, hp0, hat0, hre0, hg0⟩ := hsl.kidTy hkl (i := i) (by omega) (by omega); subst hp0; have e1 := B3r (ks := ks) (i := i) (by omega); have e2 := A8I ks (i + 1); have e3 := A1c ks[i]; have hih := ih ks[i] (List.getElem_mem (by omega)) p' Gi _ (hkid _ (List.getElem_mem (by omega))) hre0 (hb.mono hle) (by omega); refine E3 E4 rfl ?_)
 refine J5 (i := 0) (l' := [tt,ff,ff,ff,ff,ff,ff,ff,ff,ff,ff,ff,ff]) rfl D7 (B9 rfl) rfl (by kernel_rfl) rfl rfl ?_
 refine aL 1 rfl (D3 rfl rfl) rfl ?_
 refine aP 2 rfl (qM rfl) rfl ?_
 refine aP 3 rfl (B9 rfl) rfl ?_
 refine aL 4 rfl (D3 rfl rfl) rfl ?_
 refine aP 5 rfl (qM rfl) rfl ?_
 refine aP 6 rfl (B8 rfl rfl rfl (by omega)) rfl ?_
 refine aL 7 rfl (A2 rfl rfl (hat0 _) rfl) rfl ?_
 refine A3 8 ?_
 (refine A0d (l' := [tt,tt,tt,tt,tt,tt,tt,tt,tt,ff,ff,ff,ff]) rfl rfl hih (Pk.perm (by repeat (first | exact Pk.here | apply Pk.there))) rfl rfl rfl (by repeat (first | exact A9.nil | apply A9.dep (by decide +kernel) | apply A9.blk (by decide +kernel) (by repeat (first | exact Pk.here | apply Pk.there)) (by repeat first | exact mH | apply mT) | apply A9.im (by decide +kernel) hg0 (by repeat first | exact mH | apply mT))) (fun v G3 outs hle3 hh => ?_); obtain ⟨p3, hp31, hp32, rfl, u, cells3, rfl, hru, hua, hus, huh⟩ := hh; obtain ⟨q3, c3, es3, rfl, _⟩ := hru.open)
 refine A3 9 ?_
 (refine E6 rfl (D4 rfl rfl rfl (by omega) (by unfold maxLen; omega) rfl) rfl rfl ?_; rintro _ ⟨b78, rfl⟩)
 refine A3 10 ?_
 refine R5 rfl rfl rfl rfl rfl rfl (fun _ _ => by repeat (first | exact Sw.here | apply Sw.there)) (P3 (by repeat first | exact mH | apply mT)) rfl (by simp [Value.oneCell']) (by unfold maxLen; omega) (by omega) rfl rfl (by repeat (first | exact A9.nil | apply A9.dep (by decide +kernel) | apply A9.blk (by decide +kernel) (by repeat (first | exact Pk.here | apply Pk.there)) (by repeat first | exact mH | apply mT))) (fun pn' cn' => ?_)
 refine aP 11 rfl (B9 rfl) rfl ?_
 refine A3 12 ?_
 refine R2 rfl rfl rfl rfl rfl rfl rfl rfl (by kernel_rfl) (by repeat first | exact Sw.here | apply Sw.there) (by rfl) ?_
 refine B1 ?_
 refine sP (K5 rfl rfl (by omega) (by omega)) rfl rfl ?_
 refine A1 ?_
 refine L0 (i + 1, pn', cn', us ++ [u], es' ++ [[.int .i64 u.k, .slice q3 u.ks.length c3]], p3, G3) ?_ ?_ ?_
 (simp only [I7]; exact D5)
 (dsimp only; exact ⟨by omega, hle.trans hle3, by simp [hlu], H0.snoc (hst.mono hle3) hru, A3b hau hua, fun n hn => A3b (hhu n hn) (huh _ (A6x hn (List.getElem_mem _))), by rw [A48]; omega, by omega, by omega⟩)
 (show ks.length - (i + 1) < ks.length - i; omega)
 refine K2 ?_
 (refine I5 (by repeat (first | exact Pk.here | apply Pk.there)) (fun G5 hle5 hsl5 hno5 => ?_); obtain rfl : i = ks.length := (by omega))
 refine tT ?_
 refine H5 (outs := [rd br pb nb cb p']) (rC rfl (A4 rfl rfl)) (by repeat (first | exact A0.nil | refine A0.cons Pk.here ?_ | refine A0.cons (Pk.there Pk.here) ?_ | refine A0.cons (Pk.there (Pk.there Pk.here)) ?_ | apply A0.drop)) ?_
 (rw [List.take_length] at hsu hp2; refine ⟨p', by omega, by omega, rfl, .mk k us, _, rfl, (hst.mono hle5).ty hlu hsl5 hk, A9x ha hlu hau, by rw [L4]; omega, fun n hn => B3W hn hlu (hhu n hn)⟩)
theorem At.sub {hp : List A5} {G : IM} {b o j : Nat} {vs : List Value} {v : Value} (h : At hp G b o vs) (hj : vs[j]? = some v) : At hp G b (o + j) [v] := by
 have key : ∀ {cs : List Value}, (∀ i u, vs[i]? = some u → cs[o + i]? = some u) → ∀ i u, [v][i]? = some u → cs[o + j + i]? = some u := by
  intro cs hc i u hu
  cases i with
  | zero => simp at hu; subst hu; simpa using hc j v hj
  | succ i => simp at hu
 rcases h with ⟨cs, hm, hv⟩ | ⟨n, c, el, sz, cs, hm, hv⟩ | ⟨full, hg, hv⟩
 ·exact .inl ⟨cs, hm, key hv⟩
 ·exact .inr (.inl ⟨n, c, el, sz, cs, hm, key hv⟩)
 ·exact .inr (.inr ⟨full, hg, key hv⟩)
def HTm (G : IM) (t : Tm) (k : Int) (cells : List Value) : Prop := ∃ pt ct et pf cf ef p c es,
 cells = [.int .i64 t.k, .string t.nm, .int .i64 t.num, .int .i64 t.ty.k, .slice pt t.ty.ks.length ct, .int .i64 t.fr.k, .slice pf t.fr.ks.length cf, .int .i64 t.lb, .slice p t.ks.length c] ∧
 D6 G pt t.ty.ks.length ct 2 et ∧ H0 G (A2a t.ty.ks k) et ∧ D6 G pf t.fr.ks.length cf 2 ef ∧ H0 G (A2a t.fr.ks (k + A0l t.ty.ks)) ef ∧ D6 G p t.ks.length c 9 es ∧ D9 G (A4X t.ks (k + A0l t.ty.ks + A0l t.fr.ks)) es
theorem B4o {nm : ByteArray} (h : X5 nm = true) : nm.size = 1 := by
 unfold X5 at h
 simp at h
 omega
theorem A6N {k : Int} {nm : ByteArray} {num : Int} {ty fr : Ty} {lb : Int} {n : Nat} (h : W1 k nm num ty fr lb n = true) : nm.size ≤ 1 := by
 obtain ⟨_, h2, h3, _⟩ := T0.1 h
 by_cases hk : k = 1 ∨ k = 5
 ·rw [B4o (h2 hk)]; omega
 ·rw [h3 hk]; decide
def RBd (G : IM) (e : List Value) : Prop := ∃ nm t q d, e = [.string nm, .int .i64 t.k, .slice q t.ks.length d] ∧ C3 G t [.int .i64 t.k, .slice q t.ks.length d] ∧ F4 t ∧ L4 t ≤ 30 ∧ nm.size ≤ 1
def X9 (G : IM) (p : Option Addr) (n c : Nat) : Prop := ∃ es, es.length = n ∧ D6 G p n c 3 es ∧ ∀ e ∈ es, RBd G e
theorem RBd.mono {G G' : IM} {e : List Value} (h : RBd G e) (hg : C2 G G') : RBd G' e := by
 obtain ⟨nm, t, q, d, h1, h2, h3, h4⟩ := h
 exact ⟨nm, t, q, d, h1, h2.mono hg, h3, h4⟩
theorem X9.mono {G G' : IM} {p : Option Addr} {n c : Nat} (h : X9 G p n c) (hg : C2 G G') : X9 G' p n c := by
 obtain ⟨es, h1, h2, h3⟩ := h
 exact ⟨es, h1, h2.mono hg, fun e he => (h3 e he).mono hg⟩
theorem X9.nil (G : IM) : X9 G none 0 0 := ⟨[], rfl, D6.nil _ _, by simp⟩
theorem At.drop {hp : List A5} {G : IM} {b o : Nat} {v : Value} {vs : List Value} (h : At hp G b o (v :: vs)) : At hp G b (o + 1) vs := by
 have key : ∀ {cs : List Value}, (∀ i u, (v :: vs)[i]? = some u → cs[o + i]? = some u) → ∀ i u, vs[i]? = some u → cs[o + 1 + i]? = some u := by
  intro cs hc i u hu
  have := hc (i + 1) u (by simpa using hu)
  rwa [show o + 1 + i = o + (i + 1) by omega]
 rcases h with ⟨cs, hm, hv⟩ | ⟨n, c, el, sz, cs, hm, hv⟩ | ⟨full, hg, hv⟩
 ·exact .inl ⟨cs, hm, key hv⟩
 ·exact .inr (.inl ⟨n, c, el, sz, cs, hm, key hv⟩)
 ·exact .inr (.inr ⟨full, hg, key hv⟩)
theorem X9.get {G : IM} {p : Option Addr} {n c : Nat} (h : X9 G p n c) {i : Nat} (hi : i < n) :
  ∃ b o nm t q d, p = some ⟨b, o, none⟩ ∧ (∀ hp, At hp G b (o + i * 3) [.string nm, .int .i64 t.k, .slice q t.ks.length d]) ∧ C3 G t [.int .i64 t.k, .slice q t.ks.length d] ∧ F4 t ∧ L4 t ≤ 30 ∧ G b ≠ none ∧ nm.size ≤ 1 := by
 obtain ⟨es, h1, h2, h3⟩ := h
 obtain ⟨e, b, o, he, rfl, hl, _, hat, hgb⟩ := h2.get (i := i) (by omega)
 obtain ⟨nm, t, q, d, rfl, h5, h6, h7, h8⟩ := h3 e (List.mem_of_getElem? he)
 exact ⟨b, o, nm, t, q, d, rfl, hat, h5, h6, h7, hgb, h8⟩
theorem X9.le {G : IM} {p : Option Addr} {n c : Nat} (h : X9 G p n c) : n ≤ 9223372036854775807 := by
 obtain ⟨es, h1, h2, h3⟩ := h
 exact h2.le
theorem B4p (G : IM) (p : Option Addr) (n c : Nat) (nm : ByteArray) (hx : X9 G p n c) :
  Fn Tryz.prog 177 [.slice p n c, .string nm] [] G (TyB 30 G) := by
 have hn := hx.le
 refine B7 Tryz.func177 rfl Tryz.ntmps177 Tryz.results177 rfl ?_
 intro w0
 refine A1 ?_
 refine sE (B0 rfl) rfl (fun b3 => ?_)
 refine D0 ?_
 refine sP (Q5 rfl rfl (by omega) (by omega)) rfl rfl ?_
 refine B6 ?_
 refine C0 ?_
 (refine L9 (fun (i : Nat) => ⟨[(6, .int .i64 ((i : Int) - 1)), (0, .slice p n c), (1, .string nm), (4, .pointer (some ⟨b3, 0, none⟩))], [.blk b3 [.int .i64 0, .slice none 0 0]], G⟩) (fun i => i ≤ n) (fun i => i) n ?_ ?_ ?_)
 exact D5
 exact Nat.le_refl _
 (rintro i hi)
 refine B3 ?_
 refine sB (A06 rfl rfl) rfl rfl (fun h25 => ?_) (fun h25 => ?_)
 refine A7 ?_
 (show J3 _ _ (.block 1 _) _ _; obtain ⟨j, rfl⟩ : ∃ j, i = j + 1 := ⟨i - 1, by omega⟩; rw [show ((j + 1 : Nat) : Int) - 1 = (j : Int) from by omega]; obtain ⟨b, o, nm1, t1, q1, d1, rfl, hat, hr1, ha1, hs1, hgb, hns1⟩ := hx.get (i := j) (by omega); refine C0 ?_)
 refine B3 ?_
 refine sP (B8 rfl rfl rfl (by omega)) rfl rfl ?_
 refine E8 ?_
 refine sL (A0u rfl rfl ((hat _).sub (j := 0) rfl)) rfl rfl ?_
 refine E8 ?_
 refine sB (A1p rfl rfl) rfl rfl (fun h41 => ?_) (fun h41 => ?_)
 refine B4 ?_
 refine sP (B8 rfl rfl rfl (by omega)) rfl rfl ?_
 refine E8 ?_
 refine sL (A2 rfl rfl (hat _).drop rfl) rfl rfl ?_
 (refine E7 rfl (W7 _ G _ ha1.small hr1) rfl rfl (fun v G1 hle1 hh => ?_); obtain ⟨T8, F1, rfl, hs1', hn1⟩ := hh; obtain ⟨p1, c1, rfl, _⟩ := hs1'.open; have hrr := hs1'.R.mono (C8.le G1 G))
 refine J2 ?_
 refine I8 (rC rfl (A4 rfl rfl)) (rT rfl) ?_
 (exact ⟨rfl, _, _, _, rfl, hrr, ha1, hs1⟩)
 refine D0 ?_
 refine sP (Q5 rfl rfl (by omega) (by omega)) rfl rfl ?_
 refine A1 ?_
 refine L0 j ?_ ?_ ?_
 exact D5
 (show _ ≤ n; omega)
 exact Nat.le_refl _
 refine J7 ?_
 refine I8 (rC rfl (A4 rfl rfl)) (rT rfl) ?_
 (exact ⟨rfl, _, _, _, rfl, O2 _ ⟨by omega, by omega⟩, U3 (by omega) (by omega), by rw [A9v]; omega⟩)
theorem A6O {G : IM} {nm : ByteArray} {k : Int} {ks : List Ty} {q : Option Addr} {d : Nat} (hr : C3 G (.mk k ks) [.int .i64 k, .slice q ks.length d]) (ha : F4 (.mk k ks)) (hs : L4 (.mk k ks) ≤ 30) (hn : nm.size ≤ 1) : RBd G [.string nm, .int .i64 k, .slice q ks.length d] := ⟨nm, .mk k ks, q, d, rfl, hr, ha, hs, hn⟩
theorem X9.snoc {G G' : IM} {p p' : Option Addr} {n c c' : Nat} {es : List (List Value)} {e : List Value} (h1 : es.length = n) (h2 : D6 G p n c 3 es) (h3 : ∀ e ∈ es, RBd G e) (hg : C2 G G') (he : RBd G' e) (hs : Sl G' p' (n + 1) c' 3 (es.flatten ++ e)) : X9 G' p' (n + 1) c' := by
 refine ⟨es ++ [e], by simp [h1], D6.of (by simpa using hs) (by simp [h1]) ?_ ?_, ?_⟩
 ·intro x hx
  rcases List.mem_append.1 hx with hx | hx
  ·obtain ⟨_, _, _, _, rfl, _⟩ := h3 x hx; rfl
  ·obtain ⟨_, _, _, _, rfl, _⟩ := he
   simp only [List.mem_singleton] at hx; subst hx; rfl
 ·intro x hx
  rcases List.mem_append.1 hx with hx | hx
  ·obtain ⟨_, _, _, _, rfl, _⟩ := h3 x hx; simp [Value.oneCell']
  ·obtain ⟨_, _, _, _, rfl, _⟩ := he
   simp only [List.mem_singleton] at hx; subst hx; simp [Value.oneCell']
 ·intro x hx
  rcases List.mem_append.1 hx with hx | hx
  ·exact (h3 x hx).mono hg
  ·simp only [List.mem_singleton] at hx; subst hx; exact he
theorem B4q (G : IM) (p : Option Addr) (n c : Nat) (nm : ByteArray) (t : Ty) (cells : List Value) (hx : X9 G p n c) (hn : n ≤ 1000) (hr : C3 G t cells) (ha : F4 t) (hs : L4 t ≤ 30) (hnm : nm.size ≤ 1) :
  Fn Tryz.prog 197 [.slice p n c, .string nm, .agg ⟨cells⟩] [] G (M9 fun G' v => ∃ p' c', v = .slice p' (n + 1) c' ∧ X9 G' p' (n + 1) c') := by
 obtain ⟨k, ks⟩ := t
 obtain ⟨q, d, es0, rfl, _⟩ := hr.open
 simp only [Ty.k, Ty.ks] at hr ⊢
 obtain ⟨es, h1, h2, h3⟩ := hx
 have hSl : Sl G p n c 3 es.flatten := h2.1
 have h1c : ∀ u ∈ es.flatten, u.oneCell' = true := by
  intro u hu
  obtain ⟨e, he, hue⟩ := List.mem_flatten.1 hu
  obtain ⟨_, _, _, _, rfl, _⟩ := h3 e he
  simp only [List.mem_cons, List.not_mem_nil, or_false] at hue
  rcases hue with rfl | rfl | rfl <;> rfl
 refine B7 Tryz.func197 rfl Tryz.ntmps197 Tryz.results197 rfl ?_
 intro w0
 refine A1 ?_
 refine sE (C7 rfl rfl) rfl (fun b3 => ?_)
 refine B3 ?_
 refine E3 E4 rfl ?_
 refine J5 (i := 1) (l' := [ff,tt,ff,ff,ff,ff,ff,ff,ff]) rfl D7 (qM rfl) rfl (by kernel_rfl) rfl rfl ?_
 refine aP 3 rfl (qM rfl) rfl ?_
 refine aL 4 rfl (A4 rfl rfl) rfl ?_
 refine aP 5 rfl (pBd rfl rfl) rfl ?_
 refine U6 (j := 0) (j' := 6) (by kernel_rfl) ?_ ?_
 (refine E6 rfl (D4 rfl rfl rfl (by omega) (by unfold maxLen; omega) rfl) rfl rfl ?_; rintro _ ⟨b14, rfl⟩)
 refine U6 (j := 2) (j' := 6) (by kernel_rfl) ?_ ?_
 (refine A29 rfl rfl rfl rfl rfl rfl (fun _ _ => by repeat (first | exact Sw.here | apply Sw.there)) hSl h1c (Nat.zero_le _) (by unfold maxLen; omega) (by omega) rfl rfl (by repeat (first | exact A9.nil | apply A9.dep (by decide +kernel) | apply A9.blk (by decide +kernel) (by repeat (first | exact Pk.here | apply Pk.there)) (by repeat first | exact mH | apply mT))) (fun p4 c4 => ?_); simp only [Nat.zero_add, List.nil_append])
 refine A3 6 ?_
 (refine E6 rfl (D4 rfl rfl rfl (by omega) (by unfold maxLen; omega) rfl) rfl rfl ?_; rintro _ ⟨b18, rfl⟩)
 refine A3 7 ?_
 (refine R5 rfl rfl rfl rfl rfl rfl (fun _ _ => by repeat (first | exact Sw.here | apply Sw.there)) (P3 (by repeat first | exact mH | apply mT)) rfl (by simp [Value.oneCell']) (by unfold maxLen; omega) (by omega) rfl rfl (by repeat (first | exact A9.nil | apply A9.dep (by decide +kernel) | apply A9.blk (by decide +kernel) (by repeat (first | exact Pk.here | apply Pk.there)) (by repeat first | exact mH | apply mT))) (fun p5 c5 => ?_))
 refine aP 8 rfl (qA rfl) rfl ?_
 refine A1 ?_
 (refine I5 (cs := es.flatten ++ [.string nm, .int .i64 k, .slice q ks.length d]) (by repeat (first | exact Pk.here | apply Pk.there)) (fun G5 hle5 hsl5 hno5 => ?_))
 refine A1 ?_
 (exact ⟨rfl, _, _, rfl, X9.snoc h1 h2 h3 hle5 (A6O (hr.mono hle5) ha hs hnm) hsl5⟩)
 (refine E6 rfl (D4 rfl rfl rfl (by omega) (by unfold maxLen; omega) rfl) rfl rfl ?_; rintro _ ⟨b28, rfl⟩)
 refine A3 2 ?_
 (refine A29 rfl rfl rfl rfl rfl rfl (fun _ _ => by repeat (first | exact Sw.here | apply Sw.there)) hSl h1c (Nat.zero_le _) (by unfold maxLen; omega) (by omega) rfl rfl (by repeat (first | exact A9.nil | apply A9.dep (by decide +kernel) | apply A9.blk (by decide +kernel) (by repeat (first | exact Pk.here | apply Pk.there)) (by repeat first | exact mH | apply mT))) (fun p4 c4 => ?_); simp only [Nat.zero_add, List.nil_append])
 refine A3 7 ?_
 (refine R5 rfl rfl rfl rfl rfl rfl (fun _ _ => by repeat (first | exact Sw.here | apply Sw.there)) (P3 (by repeat first | exact mH | apply mT)) rfl (by simp [Value.oneCell']) (by unfold maxLen; omega) (by omega) rfl rfl (by repeat (first | exact A9.nil | apply A9.dep (by decide +kernel) | apply A9.blk (by decide +kernel) (by repeat (first | exact Pk.here | apply Pk.there)) (by repeat first | exact mH | apply mT))) (fun p5 c5 => ?_))
 refine aP 8 rfl (qA rfl) rfl ?_
 refine A1 ?_
 (refine I5 (cs := es.flatten ++ [.string nm, .int .i64 k, .slice q ks.length d]) (by repeat (first | exact Pk.here | apply Pk.there)) (fun G5 hle5 hsl5 hno5 => ?_))
 refine A1 ?_
 (exact ⟨rfl, _, _, rfl, X9.snoc h1 h2 h3 hle5 (A6O (hr.mono hle5) ha hs hnm) hsl5⟩)
 (refine E6 rfl (D4 rfl rfl rfl (by omega) (by unfold maxLen; omega) rfl) rfl rfl ?_; rintro _ ⟨b40, rfl⟩)
 refine A3 0 ?_
 (refine E6 rfl (D4 rfl rfl rfl (by omega) (by unfold maxLen; omega) rfl) rfl rfl ?_; rintro _ ⟨b42, rfl⟩)
 refine A3 2 ?_
 (refine A29 rfl rfl rfl rfl rfl rfl (fun _ _ => by repeat (first | exact Sw.here | apply Sw.there)) hSl h1c (Nat.zero_le _) (by unfold maxLen; omega) (by omega) rfl rfl (by repeat (first | exact A9.nil | apply A9.dep (by decide +kernel) | apply A9.blk (by decide +kernel) (by repeat (first | exact Pk.here | apply Pk.there)) (by repeat first | exact mH | apply mT))) (fun p4 c4 => ?_); simp only [Nat.zero_add, List.nil_append])
 refine A3 7 ?_
 (refine R5 rfl rfl rfl rfl rfl rfl (fun _ _ => by repeat (first | exact Sw.here | apply Sw.there)) (P3 (by repeat first | exact mH | apply mT)) rfl (by simp [Value.oneCell']) (by unfold maxLen; omega) (by omega) rfl rfl (by repeat (first | exact A9.nil | apply A9.dep (by decide +kernel) | apply A9.blk (by decide +kernel) (by repeat (first | exact Pk.here | apply Pk.there)) (by repeat first | exact mH | apply mT))) (fun p5 c5 => ?_))
 refine aP 8 rfl (qA rfl) rfl ?_
 refine A1 ?_
 (refine I5 (cs := es.flatten ++ [.string nm, .int .i64 k, .slice q ks.length d]) (by repeat (first | exact Pk.here | apply Pk.there)) (fun G5 hle5 hsl5 hno5 => ?_))
 refine A1 ?_
 (exact ⟨rfl, _, _, rfl, X9.snoc h1 h2 h3 hle5 (A6O (hr.mono hle5) ha hs hnm) hsl5⟩)
theorem B4r (G : IM) : Fn Tryz.prog 225 [.slice none 0 0] [] G (H8 (.bool true) G) := by
 refine B7 Tryz.func225 rfl Tryz.ntmps225 Tryz.results225 rfl ?_
 intro w0
 refine J4 ?_
 refine C0 ?_
 (refine L9 (fun (_ : Nat) => ⟨[(3, .int .i64 0), (0, .slice none 0 0)], [], G⟩) (fun _ => True) (fun i => i) 0 ?_ ?_ ?_)
 ·exact D5
 ·trivial
 ·(rintro i _)
  refine A7 ?_
  refine sP (A3H rfl rfl (by omega)) rfl rfl ?_
  refine O0 ?_
  refine sP (B2U rfl rfl (by omega)) rfl rfl ?_
  refine B1 ?_
  trivial
theorem A5c {k : Int} {n : Nat} (h : C4 k = n) : (k = 6 ∨ k = 7 ∨ k = 8 ∨ k = 10 → n = 2) ∧ (k = 9 → n = 3) ∧ (k = 5 ∨ k = 11 ∨ k = 12 ∨ k = 13 → n = 1) := by
 refine ⟨?_, ?_, ?_⟩
 ·rintro (rfl | rfl | rfl | rfl)
  ·rw [show C4 6 = 2 from rfl] at h; omega
  ·rw [show C4 7 = 2 from rfl] at h; omega
  ·rw [show C4 8 = 2 from rfl] at h; omega
  ·rw [show C4 10 = 2 from rfl] at h; omega
 ·rintro rfl
  rw [show C4 9 = 3 from rfl] at h; omega
 ·rintro (rfl | rfl | rfl | rfl)
  ·rw [show C4 5 = 1 from rfl] at h; omega
  ·rw [show C4 11 = 1 from rfl] at h; omega
  ·rw [show C4 12 = 1 from rfl] at h; omega
  ·rw [show C4 13 = 1 from rfl] at h; omega
theorem B4s : ∀ (t : Ty) (d : Int), L6 t d = true → F4 t := by
 refine Ty.ind fun k ks ih d h => ?_
 obtain ⟨h1, h2⟩ := A3Z h
 rw [F4]
 refine ⟨fun hk => ?_, fun h4 h5 => ?_, A3X.2 fun t ht => ?_⟩
 ·have := (N9 k).2.1 hk
  omega
 ·have h5' := N9 k
  have h6 := h5'.1
  have h7 := h5'.2.2
  omega
 ·obtain ⟨i, hi, rfl⟩ := List.getElem_of_mem ht
  exact ih _ ht _ (h2 i hi)
theorem B4t : ∀ (n : Nat) (t : Ty) (d : Int), L6 t d = true → 4 - d ≤ n → R6 n t := by
 intro n
 induction n with
 | zero =>
  rintro ⟨k, ks⟩ d h hd
  obtain ⟨h1, h2⟩ := A3Z h
  have hks : ks.length = 0 := by
   rcases Nat.eq_zero_or_pos ks.length with h0 | h0
   ·exact h0
   ·have h3 := h2 0 h0
    obtain ⟨k', ks'⟩ : Ty := ks[0]
    have h4 : ∀ (u : Ty) (d : Int), L6 u d = true → d ≤ 4 := by
     rintro ⟨a, b⟩ d hu
     rw [L6] at hu
     simp only [Bool.and_eq_true, decide_eq_true_eq] at hu
     exact hu.1.1
    have := h4 _ _ h3
    omega
  have h5 := N9 k
  have h6 := h5.2.1
  exact ⟨List.length_eq_zero_iff.1 hks, by intro h; have := h6 (.inl h); omega, by intro h; have := h6 (.inr h); omega⟩
 | succ n ih =>
  rintro ⟨k, ks⟩ d h hd
  have ha := B4s _ _ h
  rw [F4] at ha
  obtain ⟨h1, h2⟩ := A3Z h
  refine ⟨ha.1, ha.2.1, fun t ht => ?_⟩
  obtain ⟨i, hi, rfl⟩ := List.getElem_of_mem ht
  exact ih _ _ (h2 i hi) (by omega)
theorem A5d {t : Ty} (h : H1 t = true) : F4 t ∧ L4 t ≤ 30 := by
 have h1 := B4t 3 t 1 h (by omega)
 have h2 := A43 h1
 have h3 : ((2 ^ (3 + 1) - 2 : Nat) : Int) = 14 := rfl
 exact ⟨h1.ar, by omega⟩
theorem B4u {t : Ty} (h : Z3 t = true) : F4 t ∧ L4 t ≤ 30 := by
 rw [A0X h]
 exact ⟨U3 (by decide) (by decide), by rw [A6, A9v]; omega⟩
theorem A39 {k : Int} {nm : ByteArray} {num : Int} {ty fr : Ty} {lb : Int} {n : Nat} (h : W1 k nm num ty fr lb n = true) : F4 ty ∧ L4 ty ≤ 30 := by
 have hn := T0.1 h
 by_cases hk : k = 5 ∨ k = 13 ∨ k = 14
 ·exact A5d (hn.2.2.2.2.2.1 hk)
 ·exact B4u (hn.2.2.2.2.2.2.1 hk)
theorem A8.of9 {G : IM} {k : Int} {nm : ByteArray} {num tk fk : Int} {tks fks : List Ty} {lb : Int} {ks : List Tm} {q1 q2 q3 : Option Addr} {c1 c2 c3 : Nat} {es : List (List Value)} (hk : F8 k) (hnum : F8 num) (hlb : F8 lb) (hty : C3 G (.mk tk tks) [.int .i64 tk, .slice q1 tks.length c1])
  (hfr : C3 G (.mk fk fks) [.int .i64 fk, .slice q2 fks.length c2]) (hsl : D6 G q3 ks.length c3 9 es) (hkl : D9 G ks es) :
  A8 G (.mk k nm num (.mk tk tks) (.mk fk fks) lb ks) [.int .i64 k, .string nm, .int .i64 num, .int .i64 tk, .slice q1 tks.length c1, .int .i64 fk, .slice q2 fks.length c2, .int .i64 lb, .slice q3 ks.length c3] := by
 simp only [A8]
 exact ⟨_, _, q3, c3, es, rfl, hk, hnum, hlb, hty, hfr, hsl, hkl⟩
theorem A2G {k k' : Int} {nm nm' : ByteArray} {num num' : Int} {ty fr ty' fr' : Ty} {lb lb' : Int} {ks : List Tm} (h : (Tm.mk k nm num ty fr lb ks).small) (h1 : nm'.size ≤ 4294967296) (h2 : ty'.small) (h3 : fr'.small) : (Tm.mk k' nm' num' ty' fr' lb' ks).small := by
 simp only [Tm.small] at h ⊢
 exact ⟨h1, h2, h3, h.2.2.2⟩
def Tm.fit (t : Tm) (N : Nat) : Prop := t.small ∧ D2 t ≤ N
theorem A9y (br : Nat) (pb : Option Addr) (nb cb : Nat) (bs : List UInt8) (hnb : nb ≤ 2000) (p : Nat) (G : IM) (hb : Sl G pb nb cb 1 (O9 bs)) (hp : p + 100 < 1099511627776) (t : Tm) (cells : List Value) (N : Nat) (hfit : t.fit N) (hr : A8 G t cells) :
  Fn Tryz.prog 61 [.pointer (some ⟨br, 0, none⟩), .agg ⟨cells⟩] [rd br pb nb cb p] G
   (A0z br pb nb cb p 40 (fun G' v => ∃ t cells, v = .agg ⟨cells⟩ ∧ A8 G' t cells ∧ t.fit N)) := by
 have hl := hr.len
 have hone := hr.one
 obtain ⟨k, nm, num, ⟨tk, tks⟩, ⟨fk, fks⟩, lb, ks⟩ := t
 have hfit0 := hfit
 obtain ⟨hsm, hcn⟩ := hfit0
 replace hfit : (Tm.mk k nm num (.mk tk tks) (.mk fk fks) lb ks).small ∧ D2 (Tm.mk k nm num (.mk tk tks) (.mk fk fks) lb ks) ≤ N := hfit
 rw [show (Tm.mk k nm num (.mk tk tks) (.mk fk fks) lb ks).small = (nm.size ≤ 4294967296 ∧ (Ty.mk tk tks).small ∧ (Ty.mk fk fks).small ∧ ks.length ≤ 4294967296 ∧ Tm.smallL ks) from by rw [Tm.small]] at hfit
 refine B7 Tryz.func61 rfl Tryz.ntmps61 Tryz.results61 rfl ?_
 intro w0
 refine A1 ?_
 refine sE (C7 rfl rfl) rfl (fun b3 => ?_)
 refine sE (B0 rfl) rfl (fun b4 => ?_)
 refine B3 ?_
 refine sL (A2 rfl rfl (B2 (by repeat first | exact mH | apply mT)) (by assumption)) rfl rfl ?_
 (refine E7 rfl (A35 _ G cells hsm hr) rfl rfl (fun v G1 hle1 hh => ?_); obtain ⟨cells1, F1, rfl, hs1, hn1⟩ := hh; have hr1 := hs1.R.mono (C8.le G1 G); obtain ⟨q1, c1, q2, c2, q3, c3, es, rfl, hk, hnum, hlb, hty, hfr, hsl, hkl⟩ := hr1.open9)
 refine sE (B0 rfl) rfl (fun b11 => ?_)
 refine B4 ?_
 (refine I0 rfl (Y6 _ br pb nb cb p bs 50 (hb.mono hle1) hnb (by omega)) (Pk.perm (by repeat (first | exact Pk.here | apply Pk.there))) rfl rfl (fun v G2 outs hle2 hh => ?_); obtain ⟨rfl, rfl, j, rfl, hj0, hj1⟩ := hh; replace hb := hb.mono hle1)
 refine A1 ?_
 (show J3 _ _ (.block 0 _) _ _; refine Z4 (fun (x : List Value × Nat × IM) => ⟨[(5, .pointer (some ⟨b11, 0, none⟩)), (4, .pointer (some ⟨b4, 0, none⟩))], [.blk b11 x.1, .blk b4 [.int .i64 0, .string ⟨⟨[]⟩⟩, .int .i64 0, .int .i64 0, .slice none 0 0, .int .i64 0, .slice none 0 0, .int .i64 0, .slice none 0 0], rd br pb nb cb x.2.1], x.2.2⟩) (fun x => C2 G2 x.2.2 ∧ p ≤ x.2.1 ∧ x.2.1 ≤ p + 40 ∧ ∃ t, A8 x.2.2 t x.1 ∧ t.small ∧ D2 t = D2 (.mk k nm num (.mk tk tks) (.mk fk fks) lb ks)) ?_ ?_)
 refine C0 (tS (tR (sB (qE rfl rfl) rfl rfl (fun h26 => ?_) (fun h26 => ?_))))
 refine A7 ?_
 (refine M5 (D4 rfl rfl rfl (by omega) (by unfold maxLen; omega) rfl) rfl ?_; rintro _ ⟨b33, rfl⟩)
 (refine V8 (by repeat (first | exact Pk.here | apply Pk.there)) (fun G4 hle4 hsl4 _ => ?_); refine I0 rfl (A0e G4 br pb nb cb (p + 1) bs _ _ _ _ (hb.mono hle4) hnb (by omega) hsl4 (by decide)) (Pk.perm (by repeat (first | exact Pk.here | apply Pk.there))) rfl rfl (fun v G5 outs hle5 hh => ?_); obtain ⟨rfl, rfl, hv⟩ := hh; obtain ⟨k', rfl, hk'⟩ : ∃ k', v = .int .i64 k' ∧ F8 k' := (by simp only [List.mem_cons, List.not_mem_nil, or_false] at hv; rcases hv with rfl | rfl | rfl | rfl | rfl | rfl <;> exact ⟨_, rfl, by unfold F8; omega⟩))
 refine B3 ?_
 refine P8 ([.int .i64 k', .string nm, .int .i64 num, .int .i64 tk, .slice q1 tks.length c1, .int .i64 fk, .slice q2 fks.length c2, .int .i64 lb, .slice q3 ks.length c3], p + 1 + 1, G5) (N8 (by repeat (first | exact E5.nil | refine E5.cons rfl ?_)) (by repeat (first | exact A0.refl | exact A0.nil | refine A0.cons (by repeat (first | exact Pk.here | apply Pk.there)) ?_ | apply A0.drop))) ?_
 (dsimp only; exact ⟨hle4, by omega, by omega, _, A8.of9 hk' hnum hlb (hty.mono hle4) (hfr.mono hle4) (hsl.mono hle4) (hkl.mono hle4), A2G hsm hfit.1.1 hfit.1.2.1 hfit.1.2.2.1, rfl⟩)
 refine A7 ?_
 refine sB (qE rfl rfl) rfl rfl (fun h47 => ?_) (fun h47 => ?_)
 refine A7 ?_
 (refine M5 (D4 rfl rfl rfl (by omega) (by unfold maxLen; omega) rfl) rfl ?_; rintro _ ⟨b54, rfl⟩)
 (refine V8 (by repeat (first | exact Pk.here | apply Pk.there)) (fun G4 hle4 hsl4 _ => ?_); refine I0 rfl (A6F G4 br pb nb cb (p + 1) bs _ _ _ _ (hb.mono hle4) hnb (by omega) hsl4 (by decide)) (Pk.perm (by repeat (first | exact Pk.here | apply Pk.there))) rfl rfl (fun v G5 outs hle5 hh => ?_); obtain ⟨rfl, rfl, hv⟩ := hh; obtain ⟨nm', rfl, hnm'⟩ : ∃ nm', v = .string nm' ∧ nm'.size ≤ 2 := (by simp only [List.mem_cons, List.not_mem_nil, or_false] at hv; rcases hv with rfl | rfl | rfl | rfl <;> exact ⟨_, rfl, by decide⟩))
 refine B3 ?_
 refine P8 ([.int .i64 k, .string nm', .int .i64 num, .int .i64 tk, .slice q1 tks.length c1, .int .i64 fk, .slice q2 fks.length c2, .int .i64 lb, .slice q3 ks.length c3], p + 1 + 1, G5) (N8 (by repeat (first | exact E5.nil | refine E5.cons rfl ?_)) (by repeat (first | exact A0.refl | exact A0.nil | refine A0.cons (by repeat (first | exact Pk.here | apply Pk.there)) ?_ | apply A0.drop))) ?_
 (dsimp only; exact ⟨hle4, by omega, by omega, _, A8.of9 hk hnum hlb (hty.mono hle4) (hfr.mono hle4) (hsl.mono hle4) (hkl.mono hle4), A2G hsm (by omega) hfit.1.2.1 hfit.1.2.2.1, rfl⟩)
 refine A7 ?_
 refine sB (qE rfl rfl) rfl rfl (fun h68 => ?_) (fun h68 => ?_)
 refine A7 ?_
 (refine M5 (D4 rfl rfl rfl (by omega) (by unfold maxLen; omega) rfl) rfl ?_; rintro _ ⟨b75, rfl⟩)
 (refine V8 (by repeat (first | exact Pk.here | apply Pk.there)) (fun G4 hle4 hsl4 _ => ?_); refine I0 rfl (A0e G4 br pb nb cb (p + 1) bs _ _ _ _ (hb.mono hle4) hnb (by omega) hsl4 (by decide)) (Pk.perm (by repeat (first | exact Pk.here | apply Pk.there))) rfl rfl (fun v G5 outs hle5 hh => ?_); obtain ⟨rfl, rfl, hv⟩ := hh; obtain ⟨k', rfl, hk'⟩ : ∃ k', v = .int .i64 k' ∧ F8 k' := (by simp only [List.mem_cons, List.not_mem_nil, or_false] at hv; rcases hv with rfl | rfl | rfl | rfl | rfl | rfl <;> exact ⟨_, rfl, by unfold F8; omega⟩))
 refine B3 ?_
 refine P8 ([.int .i64 k, .string nm, .int .i64 k', .int .i64 tk, .slice q1 tks.length c1, .int .i64 fk, .slice q2 fks.length c2, .int .i64 lb, .slice q3 ks.length c3], p + 1 + 1, G5) (N8 (by repeat (first | exact E5.nil | refine E5.cons rfl ?_)) (by repeat (first | exact A0.refl | exact A0.nil | refine A0.cons (by repeat (first | exact Pk.here | apply Pk.there)) ?_ | apply A0.drop))) ?_
 (dsimp only; exact ⟨hle4, by omega, by omega, _, A8.of9 hk hk' hlb (hty.mono hle4) (hfr.mono hle4) (hsl.mono hle4) (hkl.mono hle4), A2G hsm hfit.1.1 hfit.1.2.1 hfit.1.2.2.1, rfl⟩)
 refine A7 ?_
 refine sB (qE rfl rfl) rfl rfl (fun h89 => ?_) (fun h89 => ?_)
 refine B4 ?_
 (refine I0 rfl (B4e br pb nb cb bs hnb (p + 1) _ hb (by omega)) (Pk.perm (by repeat (first | exact Pk.here | apply Pk.there))) rfl rfl (fun v G3 outs hle3 hh => ?_); obtain ⟨p3, hp31, hp32, rfl, t3, cells3, rfl, hr3, hs3⟩ := hh)
 (refine I0 rfl (B4g br pb nb cb bs hnb p3 _ (hb.mono hle3) (by omega) t3 cells3 hr3 hs3) (Pk.perm (by repeat (first | exact Pk.here | apply Pk.there))) rfl rfl (fun v G4 outs hle4 hh => ?_); obtain ⟨p4, hp41, hp42, rfl, t4, cells4, rfl, hr4, hs4⟩ := hh; have hts4 := A3V t4 (by omega); obtain ⟨t4k, t4s⟩ := t4; obtain ⟨q4, c4, es4, rfl, _⟩ := hr4.open; have hle24 := hle3.trans hle4)
 refine B3 ?_
 refine P8 ([.int .i64 k, .string nm, .int .i64 num, .int .i64 t4k, .slice q4 t4s.length c4, .int .i64 fk, .slice q2 fks.length c2, .int .i64 lb, .slice q3 ks.length c3], p4, G4) (N8 (by repeat (first | exact E5.nil | refine E5.cons rfl ?_)) (by repeat (first | exact A0.refl | exact A0.nil | refine A0.cons (by repeat (first | exact Pk.here | apply Pk.there)) ?_ | apply A0.drop))) ?_
 (dsimp only; exact ⟨hle24, by omega, by omega, _, A8.of9 hk hnum hlb hr4 (hfr.mono hle24) (hsl.mono hle24) (hkl.mono hle24), A2G hsm hfit.1.1 hts4 hfit.1.2.2.1, rfl⟩)
 refine A7 ?_
 refine sB (qE rfl rfl) rfl rfl (fun h111 => ?_) (fun h111 => ?_)
 refine D8 ?_
 refine P8 ([.int .i64 k, .string nm, .int .i64 num, .int .i64 tk, .slice q1 tks.length c1, .int .i64 fk, .slice q2 fks.length c2, .int .i64 1, .slice q3 ks.length c3], p + 1, G2) (N8 (by repeat (first | exact E5.nil | refine E5.cons rfl ?_)) (by repeat (first | exact A0.refl | exact A0.nil | refine A0.cons (by repeat (first | exact Pk.here | apply Pk.there)) ?_ | apply A0.drop))) ?_
 (dsimp only; exact ⟨C2.refl _, by omega, by omega, _, A8.of9 hk hnum ⟨by omega, by omega⟩ hty hfr hsl hkl, A2G hsm hfit.1.1 hfit.1.2.1 hfit.1.2.2.1, rfl⟩)
 refine A7 ?_
 refine sB (qE rfl rfl) rfl rfl (fun h129 => ?_) (fun h129 => ?_)
 refine B1 ?_
 refine I3 rfl ((A1v _)) rfl rfl ?_
 refine B3 ?_
 refine P8 ([.int .i64 k, .string nm, .int .i64 num, .int .i64 tk, .slice q1 tks.length c1, .int .i64 1, .slice none 0 0, .int .i64 lb, .slice q3 ks.length c3], p + 1, G2) (N8 (by repeat (first | exact E5.nil | refine E5.cons rfl ?_)) (by repeat (first | exact A0.refl | exact A0.nil | refine A0.cons (by repeat (first | exact Pk.here | apply Pk.there)) ?_ | apply A0.drop))) ?_
 (dsimp only; exact ⟨C2.refl _, by omega, by omega, _, A8.of9 hk hnum hlb hty (A0N _) hsl hkl, A2G hsm hfit.1.1 hfit.1.2.1 (by simp [Ty.small, Ty.smallL]), rfl⟩)
 refine A7 ?_
 refine P8 ([.int .i64 k, .string nm, .int .i64 num, .int .i64 tk, .slice q1 tks.length c1, .int .i64 fk, .slice q2 fks.length c2, .int .i64 lb, .slice q3 ks.length c3], p + 1, G2) (N8 (by repeat (first | exact E5.nil | refine E5.cons rfl ?_)) (by repeat (first | exact A0.refl | exact A0.nil | refine A0.cons (by repeat (first | exact Pk.here | apply Pk.there)) ?_ | apply A0.drop))) ?_
 (dsimp only; exact ⟨C2.refl _, by omega, by omega, _, A8.of9 hk hnum hlb hty hfr hsl hkl, A2G hsm hfit.1.1 hfit.1.2.1 hfit.1.2.2.1, rfl⟩)
 (rintro ⟨cells9, p9, G9⟩ ⟨hle9, hp9, hp9', t9, hr9, hs9, hc9⟩; simp only [] at hle9 hp9 hp9' hr9 hs9 hc9 ⊢; have hl9 := hr9.len; have ho9 := hr9.one)
 refine A1 ?_
 refine sL (A2 rfl rfl (B2 (by repeat first | exact mH | apply mT)) hl9) rfl rfl ?_
 refine sS rfl rfl rfl hl9 ho9 rfl ?_ (hu := by exact C9 hl9.symm)
 refine B6 ?_
 refine H5 (outs := [rd br pb nb cb p9]) (rC rfl (A2 rfl rfl (B2 (by repeat first | exact mH | apply mT)) hl9)) (by repeat (first | exact A0.nil | refine A0.cons Pk.here ?_ | refine A0.cons (Pk.there Pk.here) ?_ | refine A0.cons (Pk.there (Pk.there Pk.here)) ?_ | apply A0.drop)) ?_
 (exact ⟨p9, by omega, by omega, rfl, t9, cells9, rfl, hr9, hs9, by omega⟩)
section slaw
variable {P : Program} {Γ : L8} {env : M7} {hp : List A5} {G : IM} {ty : TypeId} {K : Po} {ops : Array Oper} {rest : List Oper}
theorem St.slc_open {a : Act} {w : World} {p : Option Addr} {c el sz n : Nat} {cs : List Value} {hp' : List A5} (hs : St Γ ⟨env, hp, G⟩ a w) (hk : Pk hp (.slc p c el sz n cs) hp') (h0 : 0 < n) :
  ∃ b C, p = some ⟨b, 0, none⟩ ∧ n ≤ c ∧ c ≤ maxLen ∧ St Γ ⟨env, .blk b (cs ++ C) :: hp', G⟩ a w := by
 have hown : T4 [.slc p c el sz n cs] G w := hs.res.own.of_mem hk.perm
 obtain ⟨hl, h⟩ := hown.ok _ List.mem_cons_self
 rcases h with ⟨hv, hn⟩ | ⟨g, cap, cur, hv, _, hg, hnc, hcm, hsz, ht⟩
 ·omega
 ·cases hv
  refine ⟨g, cur.toList.drop cs.length, rfl, hnc, hcm, ?_⟩
  have hcur : cur.toList = cs ++ cur.toList.drop cs.length := by
   have e : cs.length = n * sz := hl
   rw [e]
   conv => lhs; rw [← List.take_append_drop (n * sz) cur.toList, ht]
  have hr : S0 [.slc (some ⟨g, 0, none⟩) c el sz n cs] G w [.blk g (cs ++ cur.toList.drop cs.length)] G w := by
   refine ⟨⟨hown.inn, ?_, by simp [Fp, A5.fp], ?_⟩, Ext.refl _ _, C2.refl _, fun _ _ h => .inl h, ?_, fun b l h h0 => absurd h (by rw [h0]; simp)⟩
   ·intro e he
    simp at he; subst he
    refine ⟨el, ?_⟩
    rw [← hcur]; simpa using hg
   ·intro b' hb; exact hown.disj b' (by simpa [Fp, A5.fp, K0] using hb)
   ·intro b' hb; exact .inr (by simpa [Fp, A5.fp, K0] using hb)
  exact ⟨hs.size, hs.nod, hs.env, by have := (hs.res.perm hk.perm).frame hr; simpa using this⟩
theorem A4a {p : Option Addr} {c el sz n : Nat} {cs : List Value} {hp' : List A5} (hk : Pk hp (.slc p c el sz n cs) hp') (h0 : 0 < n)
  (h : ∀ b C, p = some ⟨b, 0, none⟩ → n ≤ c → c ≤ maxLen → I4 P Γ ops rest K ⟨env, .blk b (cs ++ C) :: hp', G⟩) : I4 P Γ ops rest K ⟨env, hp, G⟩ :=
 ⟨fun a w hs => let ⟨b, C, h1, h2, h3, h4⟩ := hs.slc_open hk h0; (h b C h1 h2 h3).run a w h4⟩
end slaw
theorem B4v {es : List (List Value)} {j : Nat} {vs : List Value} (hj : j < es.length) : (es.set j vs).flatten = (es.take j).flatten ++ (vs ++ (es.drop (j + 1)).flatten) := by
 rw [List.set_eq_take_append_cons_drop, if_pos hj]; simp
theorem A9z {es : List (List Value)} {j : Nat} (hj : j < es.length) : es.flatten = (es.take j).flatten ++ (es[j] ++ (es.drop (j + 1)).flatten) := by
 have h := congrArg List.flatten (List.take_append_drop j es).symm
 rw [List.drop_eq_getElem_cons hj, List.flatten_append, List.flatten_cons] at h
 exact h
theorem A4b {es : List (List Value)} {C vs : List Value} {j sz : Nat} (hj : j < es.length) (ha : ∀ e ∈ es, e.length = sz) (hv : vs.length = sz) : T5 (es.flatten ++ C) (0 + j * sz) vs = some ((es.set j vs).flatten ++ C) := by
 have := A8t (A := (es.take j).flatten) (B := es[j]) (C := (es.drop (j + 1)).flatten ++ C) (V := vs) (o := 0 + j * sz)
  (by rw [A1q (fun e he => ha e (List.mem_of_mem_take he)), List.length_take]; rw [Nat.min_eq_left (by omega)]; omega) (by rw [ha _ (List.getElem_mem hj), hv])
 rw [A9z hj, B4v hj]
 simp only [List.append_assoc] at this ⊢
 exact this
theorem D9.set {G : IM} : ∀ {ks : List Tm} {es : List (List Value)} {j : Nat} {y : Tm} {v : List Value}, D9 G ks es → A8 G y v → D9 G (ks.set j y) (es.set j v)
 | [], es, j, y, v, h, h2 => by simp only [D9] at h; subst h; simp [D9]
 | t :: ts, es, 0, y, v, h, h2 => by
  simp only [D9] at h
  obtain ⟨a, r, rfl, h3, h4⟩ := h
  simp only [List.set_cons_zero, D9]
  exact ⟨v, r, rfl, h2, h4⟩
 | t :: ts, es, j + 1, y, v, h, h2 => by
  simp only [D9] at h
  obtain ⟨a, r, rfl, h3, h4⟩ := h
  simp only [List.set_cons_succ, D9]
  exact ⟨a, r.set j v, rfl, h3, D9.set h4 h2⟩
def A9A : Tm → List Int → Tm → Tm
 | _, [], x => x
 | .mk k nm num ty fr lb ks, i :: is, x => if h : 0 ≤ i ∧ i < ks.length then .mk k nm num ty fr lb (ks.set i.toNat (A9A (ks[i.toNat]'(by omega)) is x)) else .mk k nm num ty fr lb ks
def TyV (e : Tm) (G : IM) : IM → Value → List A5 → Prop := M9 fun G' v => ∃ t cells b, v = .tuple ⟨[.agg ⟨cells⟩, .bool b]⟩ ∧ C3 G' t cells ∧ F4 t ∧ L4 t ≤ 960 ∧ (b = true → M8 e = true)
theorem B4w {G : IM} {e : Tm} {ce : List Value} {p : Option Addr} {c : Nat} (hr : A8 G e ce) (hs : Sl G p 1 c 9 ce) : D6 G p [e].length c 9 [ce] ∧ D9 G [e] [ce] := by
 refine ⟨D6.of (by simpa using hs) rfl (fun x hx => by simp only [List.mem_singleton] at hx; subst hx; exact hr.len) (fun x hx => by simp only [List.mem_singleton] at hx; subst hx; exact hr.one), ?_⟩
 simp only [D9]
 exact ⟨ce, [], rfl, hr, rfl⟩
def B9X (e : Tm) (label : Int) (G : IM) : IM → Value → List A5 → Prop := M9 fun G' v => ∃ u cu l', v = .tuple ⟨[.agg ⟨cu⟩, .int .i64 l']⟩ ∧ A8 G' u cu ∧ (e.small → u.small) ∧ D2 u ≤ D2 e + 1 ∧ label ≤ l' ∧ l' ≤ label + 1
def B9Y (n : Nat) (G : IM) : IM → Value → List A5 → Prop := M9 fun G' v => ∃ p c es ws, v = .slice p n c ∧ ws.length = n ∧ D6 G' p n c 2 es ∧ H0 G' ws es ∧ ∀ w ∈ ws, F4 w
theorem D9.at2 {G : IM} {ts : List Tm} {es : List (List Value)} {i : Nat} (h : D9 G ts es) (h1 : i < ts.length) (h2 : i < es.length) : i < es.length ∧ A8 G ts[i] es[i] := by
 have := (h.inv (List.getElem?_eq_getElem h2) E2).2
 rw [List.getD_eq_getElem?_getD, List.getElem?_eq_getElem h1] at this
 exact ⟨h2, this⟩
mutual
theorem A6P : ∀ (t : Tm) (d : Int), L7 12 14 t d = true → t.small
 | .mk k nm num ty fr lb ks, d, h => by
  obtain ⟨h1, h2, h3, h4⟩ := X8 h
  have hn := T0.1 h3
  rw [Tm.small]
  refine ⟨?_, (A39 h3).1.small, ?_, ?_, A9B ks _ h4⟩
  ·by_cases hk : k = 1 ∨ k = 5
   ·have := hn.2.1 hk
    simp only [X5, decide_eq_true_eq] at this
    omega
   ·rw [hn.2.2.1 hk]; decide
  ·rw [A0X (hn.2.2.2.2.2.2.2.2 (by omega)).1]
   simp [A6, Ty.small, Ty.smallL]
  ·have := A1x k
   omega
theorem A9B : ∀ (ts : List Tm) (d : Int), L5 12 14 ts d = true → Tm.smallL ts
 | [], d, h => by rw [Tm.smallL]; trivial
 | t :: ts, d, h => by
  rw [L5, Bool.and_eq_true] at h
  rw [Tm.smallL]
  exact ⟨A6P t d h.1, A9B ts d h.2⟩
end
theorem A9C {hp : List A5} {G : IM} {b sz i : Nat} {es : List (List Value)} {C : List Value} (hm : A5.blk b (es.flatten ++ C) ∈ hp) (hi : i < es.length) (ha : ∀ e ∈ es, e.length = sz) : At hp G b (0 + i * sz) es[i] := by
 refine .inl ⟨_, hm, fun j u hu => ?_⟩
 rw [A9z hi, List.append_assoc, List.append_assoc]
 have hl : (es.take i).flatten.length = i * sz := by
  rw [A1q (fun e he => ha e (List.mem_of_mem_take he)), List.length_take, Nat.min_eq_left (by omega)]
 have hj : j < es[i].length := (List.getElem?_eq_some_iff.1 hu).1
 rw [List.getElem?_append_right (by omega), show 0 + i * sz + j - (es.take i).flatten.length = j by omega, List.getElem?_append_left hj]
 exact hu
def B9Z (e : Tm) (label : Int) (G : IM) : IM → Value → List A5 → Prop := M9 fun G' v => ∃ u cu t ct l', v = .tuple ⟨[.agg ⟨cu⟩, .agg ⟨ct⟩, .int .i64 l']⟩ ∧ A8 G' u cu ∧ u.small ∧ D2 u + 1 ≤ 2 * D2 e ∧ C3 G' t ct ∧ F4 t ∧ L4 t ≤ 32 * (D2 e : Int) ∧ label ≤ l' ∧ l' + 1 ≤ label + 2 * (D2 e : Int)
theorem A6Q : ∀ {ks : List Tm} {i : Nat} (h : i < ks.length), E0 (ks.take (i + 1)) = E0 (ks.take i) + D2 ks[i]
 | [], i, h => by simp at h
 | t :: ts, 0, h => by simp [E0]
 | t :: ts, i + 1, h => by
  have := A6Q (ks := ts) (i := i) (by simpa using h)
  simp only [List.take_succ_cons, E0, List.getElem_cons_succ, this]
  omega
theorem A6R : ∀ (ks : List Tm) (i : Nat), E0 (ks.take i) ≤ E0 ks
 | [], i => by simp [E0]
 | t :: ts, 0 => by simp [E0]
 | t :: ts, i + 1 => by
  have := A6R ts i
  simp only [List.take_succ_cons, E0]
  omega
def W8 (t : Ty) : Ty := if t.k = 4 ∨ t.k = 5 then .mk t.k [K1, K1] else .mk t.k []
def S2 (t : Ty) : Bool := decide (t.k ≠ 1) && N5 t (W8 t)
def Q1 (t : Tm) : Bool := decide (t.k = 14 ∧ t.fr.k = t.ty.k ∧ (t.ty.k = 4 ∨ t.ty.k = 5))
def inj (t : Tm) : Bool := decide (t.k = 14 ∧ t.ty.k = 1) && S2 t.fr
mutual
def C5 : Tm → Bool
 | .mk k nm num ty fr lb ks => if k = 10 ∨ (k = 14 ∧ fr.k = ty.k ∧ (ty.k = 4 ∨ ty.k = 5)) ∨ (k = 14 ∧ ty.k = 1 ∧ S2 fr = true) then A1g ks else decide (k = 2 ∨ k = 3 ∨ k = 4 ∨ k = 5)
def A1g : List Tm → Bool
 | [] => true
 | t :: ts => C5 t && A1g ts
end
mutual
def R3 (x : ByteArray) (v : Tm) : Tm → Tm
 | .mk k nm num ty fr lb ks => if k = 1 ∧ nm = x then v else if k = 5 ∧ nm = x then .mk k nm num ty fr lb ks else .mk k nm num ty fr lb (Q2 x v ks)
def Q2 (x : ByteArray) (v : Tm) : List Tm → List Tm
 | [] => []
 | t :: ts => R3 x v t :: Q2 x v ts
end
theorem A5e (x : ByteArray) (v : Tm) : ∀ ks, Q2 x v ks = ks.map (R3 x v)
 | [] => rfl
 | t :: ts => by rw [Q2, A5e x v ts, List.map_cons]
def N1 (e : Tm) (fr to : Ty) (lb : Int) : Tm := .mk 14 ⟨#[]⟩ 0 to fr lb [e]
def Y8 (k : Int) (ks : List Tm) : Tm := .mk k ⟨#[]⟩ 0 A6 A6 0 ks
def A1z (n : Int) : Tm := .mk 2 ⟨#[]⟩ n A6 A6 0 []
def W3 (b : Prop) [Decidable b] : Tm := Y8 (if b then 3 else 4) []
abbrev Stp := Tm × Int × Int
def S3 : Stp := (E2, 3, 0)
def kd (ks : List Tm) (i : Nat) : Tm := ks.getD i E2
def kt (ks : List Ty) (i : Nat) : Ty := ks.getD i A6
def S4 (k : Int) (ty fr : Ty) (lb : Int) (ks : List Tm) : Stp :=
 if k = 6 then
  (if (kd ks 0).k = 5 then (R3 (kd ks 0).nm (kd ks 1) (kd (kd ks 0).ks 0), 1, 0)
   else if Q1 (kd ks 0) = true ∧ (kd ks 0).ty.k = 4 then (N1 (Y8 6 [kd (kd ks 0).ks 0, N1 (kd ks 1) (kt (kd ks 0).ty.ks 0) (kt (kd ks 0).fr.ks 0) (-(kd ks 0).lb)]) (kt (kd ks 0).fr.ks 1) (kt (kd ks 0).ty.ks 1) (kd ks 0).lb, 1, 0)
   else S3)
 else if k = 7 ∨ k = 8 then
  (if (kd ks 0).k = 2 ∧ (kd ks 1).k = 2 then (if k = 7 then A1z (((kd ks 0).num + (kd ks 1).num) % 1000) else W3 ((kd ks 0).num < (kd ks 1).num), 1, 0) else S3)
 else if k = 9 then (if (kd ks 0).k = 3 then (kd ks 1, 1, 0) else if (kd ks 0).k = 4 then (kd ks 2, 1, 0) else S3)
 else if k = 11 ∨ k = 12 then
  (if (kd ks 0).k = 10 then (kd (kd ks 0).ks (k - 11).toNat, 1, 0)
   else if Q1 (kd ks 0) = true ∧ (kd ks 0).ty.k = 5 then (N1 (Y8 k [kd (kd ks 0).ks 0]) (kt (kd ks 0).fr.ks (k - 11).toNat) (kt (kd ks 0).ty.ks (k - 11).toNat) (kd ks 0).lb, 1, 0)
   else S3)
 else if k = 14 then
  (if fr.k = ty.k then (kd ks 0, 1, 0)
   else if ty.k = 1 then (N1 (N1 (kd ks 0) fr (W8 fr) lb) (W8 fr) ty lb, 1, 0)
   else if S2 ty = false then (N1 (N1 (kd ks 0) fr (W8 ty) lb) (W8 ty) ty lb, 1, 0)
   else if inj (kd ks 0) = false then S3
   else if (kd ks 0).fr.k = ty.k then (kd (kd ks 0).ks 0, 1, 0)
   else (E2, 2, lb))
 else S3
mutual
def J0 : Tm → Stp
 | .mk k nm num ty fr lb ks => match Y0 (if k = 9 then 1 else ks.length) ks with
  | some (ks', c, l) => if c = 1 then (.mk k nm num ty fr lb ks', 1, 0) else (E2, c, l)
  | none => S4 k ty fr lb ks
def Y0 : Nat → List Tm → Option (List Tm × Int × Int)
 | _, [] => none
 | n, t :: ts => match n with
  | 0 => none
  | n + 1 => if C5 t = true then (match Y0 n ts with
    | some (us, c, l) => some (t :: us, c, l)
    | none => none)
   else some ((J0 t).1 :: ts, (J0 t).2.1, (J0 t).2.2)
end
def H2 (e : Tm) : Stp :=
 if J1 e = false then S3 else if C5 e = true then (e, 0, 0)
 else if (J0 e).2.1 ≠ 1 then (E2, (J0 e).2.1, (J0 e).2.2)
 else if J1 (J0 e).1 = false then (E2, 4, 0) else ((J0 e).1, 1, 0)
def K7 : Nat → Tm → Tm × Int × Int × Nat
 | 0, e => if (H2 e).2.1 = 1 then (E2, 5, 0, 0) else ((H2 e).1, (H2 e).2.1, (H2 e).2.2, 0)
 | n + 1, e => if (H2 e).2.1 = 1 then ((K7 n (H2 e).1).1, (K7 n (H2 e).1).2.1, (K7 n (H2 e).1).2.2.1, (K7 n (H2 e).1).2.2.2 + 1)
  else ((H2 e).1, (H2 e).2.1, (H2 e).2.2, 0)
def Q3 (e : Tm) (fuel : Int) : Stp := if 0 ≤ fuel ∧ fuel ≤ 300 then ((K7 fuel.toNat e).1, (K7 fuel.toNat e).2.1, (K7 fuel.toNat e).2.2.1) else S3
def B90 (e : Tm) (fuel : Int) : Int := if 0 ≤ fuel ∧ fuel ≤ 300 then ((K7 fuel.toNat e).2.2.2 : Int) else 0
structure CvN (k : Int) (nm : ByteArray) (num : Int) (ty fr : Ty) (lb : Int) (ks : List Tm) : Prop where
 ops : C4 k = ks.length
 ne : k ≠ 13
 nm1 : nm.size ≤ 1
 num0 : 0 ≤ num ∧ num ≤ 999
 tyA : F4 ty
 frA : F4 fr
 lbB : -99 ≤ lb ∧ lb ≤ 99
 c14 : k = 14 → K3 fr ty = true ∧ H1 ty = true ∧ H1 fr = true
 ty5 : ¬(k = 5 ∨ k = 14) → ty = A6
 fr14 : k ≠ 14 → fr = A6 ∧ lb = 0
def cv (t : Tm) : Prop := ∃ d, L7 40 13 t d = true
theorem A2H {n lo hi : Int} : Q0 n lo hi = true ↔ lo ≤ n ∧ n ≤ hi := by unfold Q0; rw [decide_eq_true_eq]
theorem cv.node {k : Int} {nm : ByteArray} {num : Int} {ty fr : Ty} {lb : Int} {ks : List Tm} (h : cv (.mk k nm num ty fr lb ks)) : CvN k nm num ty fr lb ks ∧ ∀ t ∈ ks, cv t := by
 obtain ⟨d, h⟩ := h
 obtain ⟨_, h2, h3, h4⟩ := X8 h
 obtain ⟨n1, n2, n3, n4, n5, n6, n7, n8, n9⟩ := T0.1 h3
 refine ⟨⟨n1, h2, A6N h3, ?_, (A39 h3).1, ?_, ?_, ?_, ?_, ?_⟩, fun t ht => ?_⟩
 ·by_cases hk : k = 2
  ·exact A2H.1 (n4 hk)
  ·have := A2H.1 (n5 hk); omega
 ·by_cases hk : k = 14
  ·have := (n8 hk).1
   simp only [A09, Bool.and_eq_true] at this
   exact (A5d this.1.1).1
  ·rw [A0X (n9 hk).1]; exact U3 (by decide) (by decide)
 ·by_cases hk : k = 14
  ·have := (n8 hk).2
   simp only [A0y, Bool.or_eq_true, A2H] at this
   omega
  ·have := (n9 hk).2; omega
 ·intro hk
  have := (n8 hk).1
  simp only [A09, Bool.and_eq_true] at this
  exact ⟨this.2, this.1.2, this.1.1⟩
 ·intro hk
  exact A0X (n7 (by omega))
 ·intro hk
  exact ⟨A0X (n9 hk).1, (n9 hk).2⟩
 ·obtain ⟨i, hi, rfl⟩ := List.mem_iff_getElem.1 ht
  exact ⟨_, (A0U 40 13 ks _).1 h4 i hi⟩
theorem A0Z {t : Tm} (h : J1 t = true) : cv t ∧ D2 t ≤ 200 := by
 obtain ⟨h1, h2⟩ := (A28 t).1 h
 exact ⟨⟨1, h1⟩, h2⟩
mutual
theorem A2f : ∀ (t : Tm), cv t → t.small
 | .mk k nm num ty fr lb ks, h => by
  obtain ⟨hn, hk⟩ := h.node
  rw [Tm.small]
  refine ⟨by have := hn.nm1; omega, hn.tyA.small, hn.frA.small, ?_, A9D ks hk⟩
  have := A1x k
  have := hn.ops
  omega
theorem A9D : ∀ (ts : List Tm), (∀ t ∈ ts, cv t) → Tm.smallL ts
 | [], _ => by rw [Tm.smallL]; trivial
 | t :: ts, h => by
  rw [Tm.smallL]
  exact ⟨A2f t (h t List.mem_cons_self), A9D ts fun u hu => h u (List.mem_cons_of_mem _ hu)⟩
end
theorem A0E (k : Int) (nm : ByteArray) (num : Int) (ty fr : Ty) (lb : Int) (ks : List Tm) : D2 (.mk k nm num ty fr lb ks) = E0 ks + 1 := by rw [D2]
theorem A0F {k : Int} {nm : ByteArray} {num : Int} {ty fr : Ty} {lb : Int} {ks : List Tm} : (Tm.mk k nm num ty fr lb ks).small ↔ nm.size ≤ 4294967296 ∧ ty.small ∧ fr.small ∧ ks.length ≤ 4294967296 ∧ Tm.smallL ks := by rw [Tm.small]
theorem A4c : E2.small := by simp [E2, Tm.small, Ty.small, Ty.smallL, Tm.smallL, ByteArray.size]
theorem A2g : A6.small := by simp [A6, Ty.small, Ty.smallL]
mutual
theorem A9E {x : ByteArray} {v : Tm} (hv : v.small) : ∀ (t : Tm), t.small → (R3 x v t).small ∧ D2 (R3 x v t) ≤ D2 t * D2 v
 | .mk k nm num ty fr lb ks, h => by
  obtain ⟨h1, h2, h3, h4, h5⟩ := A0F.1 h
  obtain ⟨s1, s2⟩ := A9F hv ks h5
  have hp : 1 ≤ D2 v := by cases v; rw [D2]; omega
  rw [R3]
  split
  ·refine ⟨hv, ?_⟩
   rw [A0E]
   exact Nat.le_mul_of_pos_left _ (by omega)
  ·split
   ·exact ⟨h, Nat.le_mul_of_pos_right _ hp⟩
   ·refine ⟨A0F.2 ⟨h1, h2, h3, by rw [A5e, List.length_map]; exact h4, s1⟩, ?_⟩
    rw [A0E, A0E, Nat.add_mul]
    omega
theorem A9F {x : ByteArray} {v : Tm} (hv : v.small) : ∀ (ts : List Tm), Tm.smallL ts → Tm.smallL (Q2 x v ts) ∧ E0 (Q2 x v ts) ≤ E0 ts * D2 v
 | [], _ => by simp [Q2, Tm.smallL, E0]
 | t :: ts, h => by
  simp only [Tm.smallL] at h
  obtain ⟨a1, a2⟩ := A9E hv t h.1
  obtain ⟨b1, b2⟩ := A9F hv ts h.2
  simp only [Q2, Tm.smallL, E0, Nat.add_mul]
  exact ⟨⟨a1, b1⟩, by omega⟩
end
theorem A2h {ks : List Tm} (h : Tm.smallL ks) (i : Nat) : (kd ks i).small := by
 unfold kd
 rw [List.getD_eq_getElem?_getD]
 cases hi : ks[i]? with
 | none => exact A4c
 | some t => exact Tm.smallL_mem h t (List.mem_of_getElem? hi)
theorem A5f {ks : List Tm} (i : Nat) : D2 (kd ks i) ≤ E0 ks + 1 := by
 unfold kd
 rw [List.getD_eq_getElem?_getD]
 cases hi : ks[i]? with
 | none => simp [E2, D2, E0]
 | some t =>
  have := A6k (List.mem_of_getElem? hi)
  simp only [Option.getD_some]; omega
end Gw
end Go.Proofs.YtfpgncjeejickaaGreatDoor
