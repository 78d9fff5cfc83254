/-
  The program reads a term: what stands in parentheses.
-/
import Derived.Test.YtgodjiieijekiaaGreatDoorKf0
import Derived.Test.YtgodjiieijekiaaGreatDoorKf3
import Derived.Test.YtgodjiieijekiaaGreatDoorKf2
import Derived.Test.YtgodjiieijekiaaGreatDoorKf1
set_option linter.unusedVariables false
set_option linter.unusedSimpArgs false
set_option maxHeartbeats 0
set_option maxRecDepth 100000
set_option synthInstance.maxSize 4000
set_option synthInstance.maxHeartbeats 0
namespace Go.Proofs.YtgodjiieijekiaaGreatDoor
open Go Go.RowKit
namespace Gw
section tvlaws
variable {P : Program} {Γ : E6} {env : F9} {hp : List A1} {G : IM} {K : Po} {ops : Array Oper} {ty : TypeId} {pos : String} {af : Array Edge} {gd : Option (Nat × Bool)}
theorem A4G {H H' : List (Nat × Nat)} {fuel : Nat} {listed l' : List Bool} {j d : Nat} {f : FuncId} [hF : A8 P f] {g : Operand} {xs : List Operand} {ats : Array TypeId} {us cs vs : List Value} {e : A1} {rst : List A1} {post : IM → Value → List A1 → Prop}
  (hi : ops[j]? = some ⟨some d, .call ⟨.value g, ⟨xs⟩, ats⟩, ty, pos, af, gd⟩) (hg : evo env g = some (.func (.func f) ⟨us⟩ ⟨cs⟩)) (hx : evl env xs = some vs) (h : Fn P f (us ++ vs ++ cs) [e] G post) (hp' : hp.Perm ([e] ++ rst)) (hw : J0 ops env gd = some true) (hd : Nat.blt d Γ.n = true) (hl : listed.set j true = l')
  (hok : E4 ops j hp G e H H')
  (k : ∀ v G' outs, B4 G G' → post G' v outs → L6 P Γ ops K H' fuel l' ⟨(d, v) :: env, outs ++ rst, G'⟩) : U5 P Γ ops K H fuel listed j ⟨env, hp, G⟩ :=
 A2j hi (N9 hg hx h hp' hd) hw hl (fun _ _ hs => by simpa [Fp] using hok.spec hs) hok.filter (by rintro _ ⟨v, G', outs, rfl, hle, hq⟩; exact k v G' outs hle hq)
end tvlaws
theorem A1d (G : IM) {k num : Int} (nm : ByteArray) (hk : F1 k) (hnum : F1 num) : L9 G (.mk k nm num A3 A3 0 []) [.int .i64 k, .string nm, .int .i64 num, .int .i64 0, .slice none 0 0, .int .i64 0, .slice none 0 0, .int .i64 0, .slice none 0 0] [] := by
 simp only [L9]
 exact ⟨[.int .i64 0, .slice none 0 0], [.int .i64 0, .slice none 0 0], none, 0, [], [], [], [], rfl, hk, hnum, ⟨by decide, by decide⟩, S7 G, S7 G, B7.nil G 9, ⟨rfl, rfl⟩, rfl, fun b hb => by simp [E5] at hb⟩
theorem A0f {G Gi G2 : IM} {k num lb : Int} {nm : ByteArray} {ty fr : Ty} {ks : List Tm} {tc fc : List Value} {es : List (List Value)} {p : Option Addr} {c : Nat} {Ft Ff Fk : List Nat} (hk : F1 k) (hnum : F1 num) (hlb : F1 lb) (hle : B4 G Gi) (hle2 : B4 Gi G2)
  (ht : K6 (B2 Gi G) ty tc Ft) (hf : K6 (B2 Gi G) fr fc Ff) (hks : J9 (B2 Gi G) ks es Fk) (hn : (Ft ++ (Ff ++ Fk)).Nodup) (hsl : Sl G2 p ks.length c 9 es.flatten) (hnn : ∀ b ∈ E5 p, Gi b = none ∧ G2 b ≠ none) :
  ∃ F, L9 (B2 G2 G) (.mk k nm num ty fr lb ks) ([.int .i64 k, .string nm, .int .i64 num] ++ tc ++ fc ++ [.int .i64 lb, .slice p ks.length c]) F ∧ F.Nodup := by
 have hR := hks.R
 have hin : ∀ b ∈ E5 p, B2 G2 G b ≠ none := by
  intro b hb
  have h0 := (hnn b hb).1
  cases hg : G b with
  | none => simpa [B2, hg] using (hnn b hb).2
  | some l => rw [hle b l hg] at h0; cases h0
 have hout : ∀ b ∈ E5 p, ∀ x ∈ Ft ++ (Ff ++ Fk), x ≠ b := by
  rintro b hb x hx rfl
  have h1 : B2 Gi G x ≠ none := by
   rcases List.mem_append.1 hx with hx | hx
   ·exact ht.inG x hx
   rcases List.mem_append.1 hx with hx | hx
   ·exact hf.inG x hx
   ·exact hks.inG x hx
  have h2 := (hnn x hb).1
  apply h1
  cases hd : B2 Gi G x with
  | none => rfl
  | some l => rw [B2.le _ _ x l hd] at h2; cases h2
 refine ⟨Ft ++ (Ff ++ (E5 p ++ Fk)), ?_, ?_⟩
 ·simp only [L9]
  refine ⟨tc, fc, p, c, es, Ft, Ff, Fk, rfl, hk, hnum, hlb, ht.mono (B2.mono hle2), hf.mono (B2.mono hle2), B7.of (hsl.dif (fun b hb => (hnn b hb).1) hle) hR.len hR.all ?_, hks.mono (B2.mono hle2), rfl, hin⟩
  intro e he
  obtain ⟨i, hi⟩ := List.getElem?_of_mem he
  have hlt : i < ks.length := by have := (List.getElem?_eq_some_iff.1 hi).1; rw [hR.len] at this; exact this
  obtain ⟨e', he', hr⟩ := hR.get (i := i) (t := ks[i]) (by simp [hlt])
  rw [hi] at he'; cases he'; exact hr.one
 ·have hp : (Ft ++ (Ff ++ (E5 p ++ Fk))).Perm (E5 p ++ (Ft ++ (Ff ++ Fk))) :=
   (List.Perm.append_left Ft (List.perm_append_comm_assoc Ff (E5 p) Fk)).trans (List.perm_append_comm_assoc Ft (E5 p) (Ff ++ Fk))
  rw [hp.nodup_iff, List.nodup_append]
  exact ⟨A83 p, hn, fun x hx y hy he => hout x hx y hy he.symm⟩
theorem A0g {G G1 : IM} {a : Tm} {ca : List Value} {Fa : List Nat} (ha : L9 (B2 G1 G) a ca Fa) : J9 (B2 G1 G) [a] [ca] Fa := by
 simp only [J9]; exact ⟨ca, [], Fa, [], rfl, ha, ⟨rfl, rfl⟩, by simp⟩
theorem A10 {G Gi G1 : IM} {ks : List Tm} {es : List (List Value)} {t : Tm} {a : List Value} {F F' : List Nat} (h : J9 (B2 Gi G) ks es F) (hn : F.Nodup) (hle : B4 G Gi) (hle1 : B4 Gi G1) (ha : L9 (B2 G1 Gi) t a F') (hn' : F'.Nodup) :
  J9 (B2 G1 G) (ks ++ [t]) (es ++ [a]) (F ++ F') ∧ (F ++ F').Nodup :=
 ⟨J9.snoc (h.mono (B2.mono hle1)) (ha.mono (B2.anti hle)), by rw [List.nodup_append]; exact ⟨hn, hn', A1H h.inG ha.inG⟩⟩
def A3h (b : Nat) (m : Option (Tm × A0)) (G : IM) : IM → Value → List A1 → Prop := fun G' v outs => ∃ cs' t cells F, outs = [.blk b cs'] ∧ O4 (m.map Prod.snd) cs' ∧ v = .agg ⟨cells⟩ ∧ L9 (B2 G' G) t cells F ∧ F.Nodup ∧ ∀ x, m = some x → t = x.1
theorem V1 {G : IM} {t : Tm} {cells : List Value} {F : List Nat} (h : L9 G t cells F) : ∃ x1 x2 x3 x4 x5 x6 x7 x8 x9, cells = [x1, x2, x3, x4, x5, x6, x7, x8, x9] := by
 obtain ⟨_, _, _, _, _, _, _, _, _, rfl, _⟩ := h.R.open; exact ⟨_, _, _, _, _, _, _, _, _, rfl⟩
theorem A4H {G : IM} {t : Ty} {cells : List Value} {F : List Nat} (h : K6 G t cells F) : ∃ x1 x2, cells = [x1, x2] := by
 obtain ⟨_, _, _, rfl, _⟩ := h.R.open; exact ⟨_, _, rfl⟩
def A7v (b : Nat) (f : A0 → Option (Tm × A0)) (fid : FuncId) (us cs : List Value) (G : IM) : Prop := ∀ (S : Option A0) (c' : List Value) (G' : IM), B4 G G' → O4 S c' → Fn Tryz.prog fid (us ++ [] ++ cs) [.blk b c'] G' (A3h b (S.bind f) G')
section done
variable {f : A0 → Option (Tm × A0)} {S : Option A0}
theorem A4I {k : Int} {c : UInt8} (hk : (c = 32 ∧ k = 6) ∨ (c = 43 ∧ k = 7) ∨ (c = 60 ∧ k = 8)) {a b : Tm} (hc : C0 ((S.bind f).map Prod.snd) = c) (ha : ∀ x, S.bind f = some x → a = x.1) (hb : ∀ x, (K5 ((S.bind f).map Prod.snd)).bind f = some x → b = x.1) :
  (S.bind (R3 f)).map Prod.snd = (((K5 ((S.bind f).map Prod.snd)).bind f).map Prod.snd).bind (B9 41) ∧ ∀ x, S.bind (R3 f) = some x → nd k [a, b] = x.1 := by
 rcases S with _ | l
 ·exact ⟨rfl, fun x hx => by cases hx⟩
 simp only [Option.bind_some] at ha hb hc ⊢
 unfold R3
 cases hA : f l with
 | none => exact ⟨rfl, fun x hx => by cases hx⟩
 | some x =>
  rw [hA] at ha hb hc
  simp only [Option.bind_some, Option.map_some] at ha hb hc ⊢
  obtain ⟨xa, xl⟩ := x
  cases xl with
  | nil =>
   have hc : (0 : UInt8) = c := hc
   subst hc
   rcases hk with ⟨h, _⟩ | ⟨h, _⟩ | ⟨h, _⟩ <;> exact absurd h (by decide)
  | cons d r =>
   have hc : d = c := hc
   have e : R3 f l = A0S f k xa r := by
    unfold R3
    rw [hA]
    simp only [Option.bind_some, P3]
    rcases hk with ⟨rfl, rfl⟩ | ⟨rfl, rfl⟩ | ⟨rfl, rfl⟩ <;> subst hc
    ·rw [if_pos rfl]
    ·rw [if_neg (by decide), if_pos rfl]
    ·rw [if_neg (by decide), if_neg (by decide), if_pos rfl]
   unfold R3 at e
   rw [hA] at e
   simp only [Option.bind_some] at e
   rw [e]
   have hb : ∀ x, f r = some x → b = x.1 := hb
   show (A0S f k xa r).map Prod.snd = ((f r).map Prod.snd).bind (B9 41) ∧ _
   unfold A0S
   cases hB : f r with
   | none => exact ⟨rfl, fun x hx => by cases hx⟩
   | some y =>
    simp only [Option.bind_some, Option.map_some]
    cases hW : B9 41 y.2 with
    | none => exact ⟨rfl, fun x hx => by cases hx⟩
    | some w => exact ⟨rfl, fun q hq => by cases hq; rw [ha _ rfl, hb y hB]⟩
theorem B03 (h1 : C0 ((S.bind f).map Prod.snd) ≠ 32) (h2 : C0 ((S.bind f).map Prod.snd) ≠ 43) (h3 : C0 ((S.bind f).map Prod.snd) ≠ 60) (h4 : C0 ((S.bind f).map Prod.snd) ≠ 58) : S.bind (R3 f) = none := by
 rcases S with _ | l
 ·rfl
 simp only [Option.bind_some] at h1 h2 h3 h4 ⊢
 unfold R3
 cases hA : f l with
 | none => rfl
 | some x =>
  rw [hA] at h1 h2 h3 h4
  obtain ⟨xa, xl⟩ := x
  cases xl with
  | nil => rfl
  | cons d r =>
   have h1 : d ≠ 32 := h1
   have h2 : d ≠ 43 := h2
   have h3 : d ≠ 60 := h3
   have h4 : d ≠ 58 := h4
   simp only [Option.bind_some, P3]
   rw [if_neg h1, if_neg h2, if_neg h3, if_neg h4]
theorem A7w (hc : C0 ((S.bind f).map Prod.snd) = 58) : ∃ X : Option (Tm × A0), S.bind f = X ∧ S.bind (R3 f) = X.bind fun a => (K5 (some a.2)).bind fun l => pAs a.1 l := by
 refine ⟨_, rfl, ?_⟩
 rcases S with _ | l
 ·rfl
 simp only [Option.bind_some] at hc ⊢
 unfold R3
 cases hA : f l with
 | none => rfl
 | some x =>
  rw [hA] at hc
  obtain ⟨xa, xl⟩ := x
  cases xl with
  | nil => rfl
  | cons d r =>
   have hc : d = 58 := hc
   subst hc
   rfl
theorem B04 {a : Tm} {ty : Ty} (hc : C0 ((S.bind f).map Prod.snd) = 58) (ha : ∀ x, S.bind f = some x → a = x.1) (ht : ∀ x, (K5 ((S.bind f).map Prod.snd)).bind (K0 4) = some x → ty = x.1) (hn : C0 (((K5 ((S.bind f).map Prod.snd)).bind (K0 4)).map Prod.snd) ≠ 126) :
  (S.bind (R3 f)).map Prod.snd = (((K5 ((S.bind f).map Prod.snd)).bind (K0 4)).map Prod.snd).bind (B9 41) ∧ ∀ x, S.bind (R3 f) = some x → Tm.mk 13 ⟨#[]⟩ 0 ty A3 0 [a] = x.1 := by
 obtain ⟨X, hX, hR⟩ := A7w hc
 rw [hR]
 rw [hX] at ha ht hn ⊢
 cases X with
 | none => exact ⟨rfl, fun x hx => by cases hx⟩
 | some x =>
  simp only [Option.bind_some, Option.map_some] at ha ht hn ⊢
  cases hl : K5 (some x.2) with
  | none => exact ⟨rfl, fun x hx => by cases hx⟩
  | some l =>
   rw [hl] at ht hn
   simp only [Option.bind_some] at ht hn ⊢
   unfold pAs
   cases hT : K0 4 l with
   | none => exact ⟨rfl, fun x hx => by cases hx⟩
   | some t =>
    rw [hT] at hn
    simp only [Option.bind_some, Option.map_some] at hn ⊢
    have hh : t.2.headD 0 = C0 (some t.2) := by cases t.2 <;> rfl
    rw [if_neg (by rw [hh]; exact hn)]
    cases hW : B9 41 t.2 with
    | none => exact ⟨rfl, fun x hx => by cases hx⟩
    | some w => exact ⟨rfl, fun q hq => by cases hq; rw [ha _ rfl, ht _ hT]⟩
theorem B05 {a : Tm} {ty fr : Ty} {lb : Int} (hc : C0 ((S.bind f).map Prod.snd) = 58) (ha : ∀ x, S.bind f = some x → a = x.1) {T U : Option (Ty × A0)} {M : Option (Int × A0)} (hT : (K5 ((S.bind f).map Prod.snd)).bind (K0 4) = T) (hf : ∀ x, T = some x → fr = x.1) (hn : C0 (T.map Prod.snd) = 126)
  (hU : (K5 (T.map Prod.snd)).bind (K0 4) = U) (ht : ∀ x, U = some x → ty = x.1) (hM : ((U.map Prod.snd).bind (B9 35)).bind U0 = M) (hl : ∀ x, M = some x → lb = x.1) :
  (S.bind (R3 f)).map Prod.snd = (M.map Prod.snd).bind (B9 41) ∧ ∀ x, S.bind (R3 f) = some x → Tm.mk 14 ⟨#[]⟩ 0 ty fr lb [a] = x.1 := by
 obtain ⟨X, hX, hR⟩ := A7w hc
 rw [hR]
 rw [hX] at ha hT
 subst hM hU hT
 cases X with
 | none => exact ⟨rfl, fun x hx => by cases hx⟩
 | some x =>
  simp only [Option.bind_some, Option.map_some] at ha hf hn ht hl ⊢
  cases hl' : K5 (some x.2) with
  | none => exact ⟨rfl, fun x hx => by cases hx⟩
  | some l =>
   rw [hl'] at hf hn ht hl
   simp only [Option.bind_some] at hf hn ht hl ⊢
   unfold pAs
   cases hT : K0 4 l with
   | none => exact ⟨rfl, fun x hx => by cases hx⟩
   | some t =>
    rw [hT] at hn hf ht hl
    simp only [Option.bind_some, Option.map_some] at hn hf ht hl ⊢
    have hh : t.2.headD 0 = C0 (some t.2) := by cases t.2 <;> rfl
    have ha' : K5 (some t.2) = some t.2.tail := by
     obtain ⟨t1, t2⟩ := t
     cases t2 with
     | nil => cases hn
     | cons d r => rfl
    rw [if_pos (by rw [hh]; exact hn)]
    rw [ha'] at ht hl ⊢
    simp only [Option.bind_some] at ht hl ⊢
    cases hU : K0 4 t.2.tail with
    | none => exact ⟨rfl, fun x hx => by cases hx⟩
    | some u =>
     rw [hU] at ht hl
     simp only [Option.bind_some, Option.map_some] at ht hl ⊢
     cases hS : B9 35 u.2 with
     | none => exact ⟨rfl, fun x hx => by cases hx⟩
     | some r2 =>
      rw [hS] at hl
      simp only [Option.bind_some] at hl ⊢
      cases hM : U0 r2 with
      | none => exact ⟨rfl, fun x hx => by cases hx⟩
      | some m =>
       simp only [Option.bind_some, Option.map_some]
       cases hW : B9 41 m.2 with
       | none => exact ⟨rfl, fun x hx => by cases hx⟩
       | some w => exact ⟨rfl, fun q hq => by cases hq; rw [ha _ rfl, ht _ rfl, hf _ rfl, hl _ hM]⟩
end done
theorem A4J {A B C : List Nat} (ha : A.Nodup) (hb : B.Nodup) (hc : C.Nodup) (h1 : ∀ x ∈ A, ∀ y ∈ B, x ≠ y) (h2 : ∀ x ∈ A, ∀ y ∈ C, x ≠ y) (h3 : ∀ x ∈ B, ∀ y ∈ C, x ≠ y) : (A ++ (B ++ C)).Nodup := by
 rw [List.nodup_append, List.nodup_append]
 refine ⟨ha, ⟨hb, hc, h3⟩, fun x hx y hy => ?_⟩
 rcases List.mem_append.1 hy with hy | hy
 ·exact h1 x hx y hy
 ·exact h2 x hx y hy
theorem B06 (b : Nat) (f : A0 → Option (Tm × A0)) (fid : FuncId) [A8 Tryz.prog fid] (us cs : List Value) (G : IM) (hE : V0 G) (hsub : A7v b f fid us cs G) (S : Option A0) (c0 : List Value) (h : O4 S c0) :
  Fn Tryz.prog 156 [.pointer (some ⟨b, 0, none⟩), .func (.func fid) ⟨us⟩ ⟨cs⟩] [.blk b c0] G (A3h b (S.bind (R3 f)) G) := by
 refine B3 Tryz.func156 rfl Tryz.ntmps156 Tryz.results156 rfl ?_
 intro w0
 refine tS (tR ?_)
 refine sE (D6 rfl) rfl (fun b3 => ?_)
 refine sD (nS (tS (tR (sQ (qM rfl) rfl ?_))))
 (refine F3 (N9 rfl rfl (hsub S c0 G (B4.refl _) h) (Pk.perm (by repeat (first | exact Pk.here | apply Pk.there))) rfl) rfl ?_; rintro _ ⟨v, G1, outs, rfl, hle1, csa, ta, ca, Fa, rfl, hRa, rfl, hsa, hna, hva⟩; have hoa := hsa.R.one; obtain ⟨x1, x2, x3, x4, x5, x6, x7, x8, x9, rfl⟩ := V1 hsa; replace hE := hE.mono hle1)
 (refine F3 (P1 rfl rfl rfl (by omega) (by unfold maxLen; omega) rfl) rfl ?_; rintro _ ⟨b10, rfl⟩)
 refine sQ (Z5 rfl rfl) rfl ?_
 refine sE (D6 rfl) rfl (fun b12 => ?_)
 refine O6 ?_
 refine sD (nS (tS (tS (tR (sQ (qM rfl) rfl ?_)))))
 (refine H7 rfl (A0x b ((S.bind f).map Prod.snd) csa G1 hRa) (Pk.perm (by repeat (first | exact Pk.here | apply Pk.there))) rfl rfl (fun v G2 outs hle2 hh => ?_); obtain ⟨W8, rfl, hR1, hG, rfl⟩ := hh; replace hG := hG.symm; subst hG; obtain ⟨s1, bad1, rfl, hs1⟩ := hR1.open; have hnB := hR1.bad; obtain ⟨c, hc⟩ : ∃ c, C0 ((S.bind f).map Prod.snd) = c := ⟨_, rfl⟩; rw [hc])
 refine sD (nS ?_)
 refine D0 (tS (tR (sB (qE rfl rfl) rfl rfl (fun h26 => ?_) (fun h26 => ?_))))
 refine I7 ?_
 refine sP (T8 rfl rfl (by omega)) rfl rfl ?_
 refine F5 ?_
 refine sP (T8 rfl rfl (by omega)) rfl rfl ?_
 refine sQ (I4 rfl rfl) rfl (sD (nS (qT rfl ?_)))
 refine K7 K9 rfl ?_
 refine I0 (i := 0) (l' := [tt,ff,ff,ff,ff,ff,ff,ff]) rfl E9 (A4 rfl) rfl (by kernel_rfl) rfl rfl ?_
 refine aL 1 rfl (C2 rfl rfl) rfl ?_
 refine aP 2 rfl (qM rfl) rfl ?_
 refine B6 3 ?_
 (refine A4G (l' := [tt,tt,tt,tt,ff,ff,ff,ff]) rfl rfl rfl (hsub _ _ G1 hle1 hR1) (Pk.perm (by repeat (first | exact Pk.here | apply Pk.there))) rfl rfl rfl (by repeat (first | exact E4.nil | apply E4.dep (by decide +kernel) | apply E4.im (by decide +kernel) (by assumption) (by repeat first | exact mH | apply mT) | apply E4.blk (by decide +kernel) (by repeat (first | exact Pk.here | apply Pk.there)) (by repeat first | exact mH | apply mT))) (fun v G2 outs hle2 hh => ?_); obtain ⟨csb, tb, cb, Fb, rfl, hRb, rfl, hsb, hnb, hvb⟩ := hh; have hob := hsb.R.one; obtain ⟨y1, y2, y3, y4, y5, y6, y7, y8, y9, rfl⟩ := V1 hsb)
 refine B6 4 ?_
 (refine A0W rfl (P1 rfl rfl rfl (by omega) (by unfold maxLen; omega) rfl) rfl rfl ?_; rintro _ ⟨b58, rfl⟩)
 refine B6 5 ?_
 (refine A3M rfl rfl rfl rfl rfl rfl (fun _ _ => by repeat (first | exact Sw.here | apply Sw.there)) (A0k (by repeat first | exact mH | apply mT)) rfl (fun u hu => List.all_eq_true.1 hob u hu) (by unfold maxLen; omega) (by omega) rfl rfl (by repeat (first | exact E4.nil | apply E4.dep (by decide +kernel) | apply E4.im (by decide +kernel) (by assumption) (by repeat first | exact mH | apply mT) | apply E4.blk (by decide +kernel) (by repeat (first | exact Pk.here | apply Pk.there)) (by repeat first | exact mH | apply mT))) (fun p7 c7 => ?_))
 refine aP 6 rfl (A4 rfl) rfl ?_
 refine B6 7 ?_
 refine Q3 rfl rfl rfl rfl rfl rfl rfl rfl (by decide +kernel) (by repeat first | exact Sw.here | apply Sw.there) (by rfl) ?_
 refine R5 (nS (tS (tR (sQ (qM rfl) rfl ?_))))
 (have hcc : c = 32 := E0 (b := 32) (by show _ = (32 : Int); omega); subst hcc; refine X7 (cs := [x1, x2, x3, x4, x5, x6, x7, x8, x9, y1, y2, y3, y4, y5, y6, y7, y8, y9]) (by repeat (first | exact Pk.here | apply Pk.there)) (fun G7 hle7 hsl7 hno7 => ?_); obtain ⟨k1, k2⟩ := A10 (A0g hsa) hna hle1 hle2 hsb hnb; obtain ⟨F7, f1, f2⟩ := A0f (k := 6) (num := 0) (lb := 0) (nm := ⟨#[]⟩) (ty := A3) (fr := A3) ⟨by decide, by decide⟩ ⟨by decide, by decide⟩ ⟨by decide, by decide⟩ (hle1.trans hle2) hle7 (S7 _) (S7 _) k1 (by simpa using k2) hsl7 hno7; obtain ⟨d1, d2⟩ := A4I (k := 6) (by decide) hc hva hvb; refine H7 rfl (V5 b 41 _ csb G7 hRb) (Pk.perm (by repeat (first | exact Pk.here | apply Pk.there))) rfl rfl (fun v G8 outs hle8 hh => ?_); obtain ⟨cs8, rfl, hR8, hG, rfl⟩ := hh; replace hG := hG.symm; subst hG; rw [← d1] at hR8)
 refine sD (nS (tS (tR (sL (A7 rfl rfl) rfl rfl ?_))))
 refine M7 rfl rfl rfl rfl (by exact f1.R.one) rfl (by repeat first | exact Sw.here | apply Sw.there) (by rfl) ?_
 refine sD (nS (tT ?_))
 refine C8 (rC rfl (A7 rfl rfl)) (.cons (by repeat (first | exact Pk.here | apply Pk.there)) .nil) ?_
 (exact ⟨cs8, _, _, F7, rfl, hR8, rfl, f1, f2, d2⟩)
 refine sQ (qA rfl) rfl (sD (nS (cF rfl (tS (tR ?_)))))
 refine sB (qE rfl rfl) rfl rfl (fun h87 => ?_) (fun h87 => ?_)
 refine I7 ?_
 refine sP (T8 rfl rfl (by omega)) rfl rfl ?_
 refine F5 ?_
 refine sP (T8 rfl rfl (by omega)) rfl rfl ?_
 refine sQ (I4 rfl rfl) rfl (sD (nS (qT rfl ?_)))
 refine K7 K9 rfl ?_
 refine I0 (i := 0) (l' := [tt,ff,ff,ff,ff,ff,ff,ff]) rfl E9 (A4 rfl) rfl (by kernel_rfl) rfl rfl ?_
 refine aL 1 rfl (C2 rfl rfl) rfl ?_
 refine aP 2 rfl (qM rfl) rfl ?_
 refine B6 3 ?_
 (refine A4G (l' := [tt,tt,tt,tt,ff,ff,ff,ff]) rfl rfl rfl (hsub _ _ G1 hle1 hR1) (Pk.perm (by repeat (first | exact Pk.here | apply Pk.there))) rfl rfl rfl (by repeat (first | exact E4.nil | apply E4.dep (by decide +kernel) | apply E4.im (by decide +kernel) (by assumption) (by repeat first | exact mH | apply mT) | apply E4.blk (by decide +kernel) (by repeat (first | exact Pk.here | apply Pk.there)) (by repeat first | exact mH | apply mT))) (fun v G2 outs hle2 hh => ?_); obtain ⟨csb, tb, cb, Fb, rfl, hRb, rfl, hsb, hnb, hvb⟩ := hh; have hob := hsb.R.one; obtain ⟨y1, y2, y3, y4, y5, y6, y7, y8, y9, rfl⟩ := V1 hsb)
 refine B6 4 ?_
 (refine A0W rfl (P1 rfl rfl rfl (by omega) (by unfold maxLen; omega) rfl) rfl rfl ?_; rintro _ ⟨b119, rfl⟩)
 refine B6 5 ?_
 (refine A3M rfl rfl rfl rfl rfl rfl (fun _ _ => by repeat (first | exact Sw.here | apply Sw.there)) (A0k (by repeat first | exact mH | apply mT)) rfl (fun u hu => List.all_eq_true.1 hob u hu) (by unfold maxLen; omega) (by omega) rfl rfl (by repeat (first | exact E4.nil | apply E4.dep (by decide +kernel) | apply E4.im (by decide +kernel) (by assumption) (by repeat first | exact mH | apply mT) | apply E4.blk (by decide +kernel) (by repeat (first | exact Pk.here | apply Pk.there)) (by repeat first | exact mH | apply mT))) (fun p7 c7 => ?_))
 refine aP 6 rfl (A4 rfl) rfl ?_
 refine B6 7 ?_
 refine Q3 rfl rfl rfl rfl rfl rfl rfl rfl (by decide +kernel) (by repeat first | exact Sw.here | apply Sw.there) (by rfl) ?_
 refine R5 (nS (tS (tR (sQ (qM rfl) rfl ?_))))
 (have hcc : c = 43 := E0 (b := 43) (by show _ = (43 : Int); omega); subst hcc; refine X7 (cs := [x1, x2, x3, x4, x5, x6, x7, x8, x9, y1, y2, y3, y4, y5, y6, y7, y8, y9]) (by repeat (first | exact Pk.here | apply Pk.there)) (fun G7 hle7 hsl7 hno7 => ?_); obtain ⟨k1, k2⟩ := A10 (A0g hsa) hna hle1 hle2 hsb hnb; obtain ⟨F7, f1, f2⟩ := A0f (k := 7) (num := 0) (lb := 0) (nm := ⟨#[]⟩) (ty := A3) (fr := A3) ⟨by decide, by decide⟩ ⟨by decide, by decide⟩ ⟨by decide, by decide⟩ (hle1.trans hle2) hle7 (S7 _) (S7 _) k1 (by simpa using k2) hsl7 hno7; obtain ⟨d1, d2⟩ := A4I (k := 7) (by decide) hc hva hvb; refine H7 rfl (V5 b 41 _ csb G7 hRb) (Pk.perm (by repeat (first | exact Pk.here | apply Pk.there))) rfl rfl (fun v G8 outs hle8 hh => ?_); obtain ⟨cs8, rfl, hR8, hG, rfl⟩ := hh; replace hG := hG.symm; subst hG; rw [← d1] at hR8)
 refine sD (nS (tS (tR (sL (A7 rfl rfl) rfl rfl ?_))))
 refine M7 rfl rfl rfl rfl (by exact f1.R.one) rfl (by repeat first | exact Sw.here | apply Sw.there) (by rfl) ?_
 refine sD (nS (tT ?_))
 refine C8 (rC rfl (A7 rfl rfl)) (.cons (by repeat (first | exact Pk.here | apply Pk.there)) .nil) ?_
 (exact ⟨cs8, _, _, F7, rfl, hR8, rfl, f1, f2, d2⟩)
 refine sQ (qA rfl) rfl (sD (nS (cF rfl (tS (tR ?_)))))
 refine sB (qE rfl rfl) rfl rfl (fun h148 => ?_) (fun h148 => ?_)
 refine I7 ?_
 refine sP (T8 rfl rfl (by omega)) rfl rfl ?_
 refine F5 ?_
 refine sP (T8 rfl rfl (by omega)) rfl rfl ?_
 refine sQ (I4 rfl rfl) rfl (sD (nS (qT rfl ?_)))
 refine K7 K9 rfl ?_
 refine I0 (i := 0) (l' := [tt,ff,ff,ff,ff,ff,ff,ff]) rfl E9 (A4 rfl) rfl (by kernel_rfl) rfl rfl ?_
 refine aL 1 rfl (C2 rfl rfl) rfl ?_
 refine aP 2 rfl (qM rfl) rfl ?_
 refine B6 3 ?_
 (refine A4G (l' := [tt,tt,tt,tt,ff,ff,ff,ff]) rfl rfl rfl (hsub _ _ G1 hle1 hR1) (Pk.perm (by repeat (first | exact Pk.here | apply Pk.there))) rfl rfl rfl (by repeat (first | exact E4.nil | apply E4.dep (by decide +kernel) | apply E4.im (by decide +kernel) (by assumption) (by repeat first | exact mH | apply mT) | apply E4.blk (by decide +kernel) (by repeat (first | exact Pk.here | apply Pk.there)) (by repeat first | exact mH | apply mT))) (fun v G2 outs hle2 hh => ?_); obtain ⟨csb, tb, cb, Fb, rfl, hRb, rfl, hsb, hnb, hvb⟩ := hh; have hob := hsb.R.one; obtain ⟨y1, y2, y3, y4, y5, y6, y7, y8, y9, rfl⟩ := V1 hsb)
 refine B6 4 ?_
 (refine A0W rfl (P1 rfl rfl rfl (by omega) (by unfold maxLen; omega) rfl) rfl rfl ?_; rintro _ ⟨b180, rfl⟩)
 refine B6 5 ?_
 (refine A3M rfl rfl rfl rfl rfl rfl (fun _ _ => by repeat (first | exact Sw.here | apply Sw.there)) (A0k (by repeat first | exact mH | apply mT)) rfl (fun u hu => List.all_eq_true.1 hob u hu) (by unfold maxLen; omega) (by omega) rfl rfl (by repeat (first | exact E4.nil | apply E4.dep (by decide +kernel) | apply E4.im (by decide +kernel) (by assumption) (by repeat first | exact mH | apply mT) | apply E4.blk (by decide +kernel) (by repeat (first | exact Pk.here | apply Pk.there)) (by repeat first | exact mH | apply mT))) (fun p7 c7 => ?_))
 refine aP 6 rfl (A4 rfl) rfl ?_
 refine B6 7 ?_
 refine Q3 rfl rfl rfl rfl rfl rfl rfl rfl (by decide +kernel) (by repeat first | exact Sw.here | apply Sw.there) (by rfl) ?_
 refine R5 (nS (tS (tR (sQ (qM rfl) rfl ?_))))
 (have hcc : c = 60 := E0 (b := 60) (by show _ = (60 : Int); omega); subst hcc; refine X7 (cs := [x1, x2, x3, x4, x5, x6, x7, x8, x9, y1, y2, y3, y4, y5, y6, y7, y8, y9]) (by repeat (first | exact Pk.here | apply Pk.there)) (fun G7 hle7 hsl7 hno7 => ?_); obtain ⟨k1, k2⟩ := A10 (A0g hsa) hna hle1 hle2 hsb hnb; obtain ⟨F7, f1, f2⟩ := A0f (k := 8) (num := 0) (lb := 0) (nm := ⟨#[]⟩) (ty := A3) (fr := A3) ⟨by decide, by decide⟩ ⟨by decide, by decide⟩ ⟨by decide, by decide⟩ (hle1.trans hle2) hle7 (S7 _) (S7 _) k1 (by simpa using k2) hsl7 hno7; obtain ⟨d1, d2⟩ := A4I (k := 8) (by decide) hc hva hvb; refine H7 rfl (V5 b 41 _ csb G7 hRb) (Pk.perm (by repeat (first | exact Pk.here | apply Pk.there))) rfl rfl (fun v G8 outs hle8 hh => ?_); obtain ⟨cs8, rfl, hR8, hG, rfl⟩ := hh; replace hG := hG.symm; subst hG; rw [← d1] at hR8)
 refine sD (nS (tS (tR (sL (A7 rfl rfl) rfl rfl ?_))))
 refine M7 rfl rfl rfl rfl (by exact f1.R.one) rfl (by repeat first | exact Sw.here | apply Sw.there) (by rfl) ?_
 refine sD (nS (tT ?_))
 refine C8 (rC rfl (A7 rfl rfl)) (.cons (by repeat (first | exact Pk.here | apply Pk.there)) .nil) ?_
 (exact ⟨cs8, _, _, F7, rfl, hR8, rfl, f1, f2, d2⟩)
 refine sQ (qA rfl) rfl (sD (nS (cF rfl (tS (tR ?_)))))
 refine sB (qE rfl rfl) rfl rfl (fun h209 => ?_) (fun h209 => ?_)
 refine B1 ?_
 (have h58 : c = 58 := E0 (b := 58) (by show _ = (58 : Int); omega); subst h58; refine H7 rfl (A4v b 4 1 _ _ G1 (by omega) (by omega) hR1) (Pk.perm (by repeat (first | exact Pk.here | apply Pk.there))) rfl rfl (fun v G2 outs hle2 hh => ?_); obtain ⟨cst, tt1, ct, Ft, rfl, hRt, rfl, hst, hnt, hvt⟩ := hh; have hot := hst.R.one; obtain ⟨t1, t2, rfl⟩ := A4H hst; replace hE := hE.mono hle2; obtain ⟨T, hT⟩ : ∃ T, (K5 ((S.bind f).map Prod.snd)).bind (K0 4) = T := ⟨_, rfl⟩; rw [hT] at hRt hvt)
 refine sQ (A4 rfl) rfl (O6 ?_)
 refine sQ (A4 rfl) rfl ?_
 refine sS rfl rfl rfl rfl hot rfl ?_
 refine sD (nS (tS (tR (sQ (qM rfl) rfl ?_))))
 (refine H7 rfl (A2x b _ _ G2 hRt) (Pk.perm (by repeat (first | exact Pk.here | apply Pk.there))) rfl rfl (fun v G3 outs hle3 hh => ?_); obtain ⟨hG, rfl, rfl⟩ := hh; replace hG := hG.symm; subst hG)
 refine sB (qE rfl rfl) rfl rfl (fun h228 => ?_) (fun h228 => ?_)
 refine sD (nS (qT rfl (tS (tR (sQ (qM rfl) rfl ?_)))))
 (have h126 : C0 (T.map Prod.snd) = 126 := E0 (b := 126) (by show _ = (126 : Int); omega); refine H7 rfl (A0x b (T.map Prod.snd) cst G2 hRt) (Pk.perm (by repeat (first | exact Pk.here | apply Pk.there))) rfl rfl (fun v G3 outs hle3 hh => ?_); obtain ⟨cs3, rfl, hR3, hG, rfl⟩ := hh; replace hG := hG.symm; subst hG)
 refine sD (nS (tS ?_))
 refine K7 K9 rfl ?_
 refine I0 (i := 0) (l' := [tt,ff,ff,ff,ff,ff,ff,ff,ff,ff]) rfl E9 (A4 rfl) rfl (by kernel_rfl) rfl rfl ?_
 refine aL 1 rfl (A7 rfl rfl) rfl ?_
 refine aP 2 rfl (qM rfl) rfl ?_
 refine aP 4 rfl (A4 rfl) rfl ?_
 refine B6 3 ?_
 (refine A9Z (l' := [tt,tt,tt,tt,tt,ff,ff,ff,ff,ff]) rfl rfl (A4v b 4 1 _ _ G2 (by omega) (by omega) hR3) (Pk.perm (by repeat (first | exact Pk.here | apply Pk.there))) rfl rfl rfl (by repeat (first | exact E4.nil | apply E4.dep (by decide +kernel) | apply E4.im (by decide +kernel) (by assumption) (by repeat first | exact mH | apply mT) | apply E4.blk (by decide +kernel) (by repeat (first | exact Pk.here | apply Pk.there)) (by repeat first | exact mH | apply mT))) (fun v G4 outs hle4 hh => ?_); obtain ⟨cs4, tt2, cu, Fu, rfl, hR4, rfl, hsu, hnu, hvu⟩ := hh; have hou := hsu.R.one; obtain ⟨u1, u2, rfl⟩ := A4H hsu; replace hE := hE.mono hle4; obtain ⟨U, hU⟩ : ∃ U, (K5 (T.map Prod.snd)).bind (K0 4) = U := ⟨_, rfl⟩; rw [hU] at hR4 hvu)
 refine B6 5 ?_
 refine R1 rfl ?_
 refine aP 6 rfl (A4 rfl) rfl ?_
 refine B6 7 ?_
 refine oS rfl rfl rfl rfl rfl hot rfl rfl ?_
 refine aP 8 rfl (A4 rfl) rfl ?_
 refine B6 9 ?_
 refine oS rfl rfl rfl rfl rfl hou rfl rfl ?_
 refine R5 (nS (tS (tR (sQ (qM rfl) rfl ?_))))
 (refine H7 rfl (V5 b 35 _ cs4 G4 hR4) (Pk.perm (by repeat (first | exact Pk.here | apply Pk.there))) rfl rfl (fun v G5 outs hle5 hh => ?_); obtain ⟨cs5, rfl, hR5, hG, rfl⟩ := hh; replace hG := hG.symm; subst hG)
 refine sD (nS (tR (sQ (qM rfl) rfl ?_)))
 (refine H7 rfl (A7u b _ cs5 G4 hE hR5) (Pk.perm (by repeat (first | exact Pk.here | apply Pk.there))) rfl rfl (fun v G6 outs hle6 hh => ?_); obtain ⟨hG, cs6, lb, rfl, hR6, rfl, hlb, hvl⟩ := hh; replace hG := hG.symm; subst hG; obtain ⟨M, hM⟩ : ∃ M, ((U.map Prod.snd).bind (B9 35)).bind U0 = M := ⟨_, rfl⟩; rw [hM] at hR6 hvl)
 refine M0 ?_
 refine sP (T8 rfl rfl (by omega)) rfl rfl ?_
 refine F5 ?_
 refine sP (R0 rfl rfl (by omega)) rfl rfl ?_
 refine C1 ?_
 (refine X7 (cs := [x1, x2, x3, x4, x5, x6, x7, x8, x9]) (by repeat (first | exact Pk.here | apply Pk.there)) (fun G7 hle7 hsl7 hno7 => ?_); obtain ⟨F7, f1, f2⟩ := A0f (k := 14) (num := 0) (lb := lb) (nm := ⟨#[]⟩) (ty := tt2) (fr := tt1) ⟨by decide, by decide⟩ ⟨by decide, by decide⟩ hlb (hle1.trans (hle2.trans hle4)) hle7 (hsu.mono (B2.anti (hle1.trans hle2))) (hst.mono (fun b l h => B2.mono hle4 b l (B2.anti hle1 b l h))) ((A0g hsa).mono (B2.mono (hle2.trans hle4))) (A4J hnu hnt hna (fun x hx y hy he => A1H hst.inG hsu.inG y hy x hx he.symm) (fun x hx y hy he => A1H (G := G) (Gi := G2) (A5r (B2.mono hle2) hsa.inG) hsu.inG y hy x hx he.symm) (fun x hx y hy he => A1H hsa.inG hst.inG y hy x hx he.symm)) hsl7 hno7; obtain ⟨d1, d2⟩ := B05 hc hva hT hvt h126 hU hvu hM hvl; refine H7 rfl (V5 b 41 _ cs6 G7 hR6) (Pk.perm (by repeat (first | exact Pk.here | apply Pk.there))) rfl rfl (fun v G8 outs hle8 hh => ?_); obtain ⟨cs8, rfl, hR8, hG, rfl⟩ := hh; replace hG := hG.symm; subst hG; rw [← d1] at hR8)
 refine sD (nS (tS (tR (sL (A7 rfl rfl) rfl rfl ?_))))
 refine M7 rfl rfl rfl rfl (by exact f1.R.one) rfl (by repeat first | exact Sw.here | apply Sw.there) (by rfl) ?_
 refine sD (nS (tT ?_))
 refine C8 (rC rfl (A7 rfl rfl)) (.cons (by repeat (first | exact Pk.here | apply Pk.there)) .nil) ?_
 (exact ⟨cs8, _, _, F7, rfl, hR8, rfl, f1, f2, d2⟩)
 refine D7 ?_
 refine sP (R0 rfl rfl (by omega)) rfl rfl ?_
 refine D9 ?_
 (have h126 : C0 (T.map Prod.snd) ≠ 126 := D8 (by show _ ≠ (126 : Int); omega); refine X7 (cs := [x1, x2, x3, x4, x5, x6, x7, x8, x9]) (by repeat (first | exact Pk.here | apply Pk.there)) (fun G7 hle7 hsl7 hno7 => ?_); obtain ⟨F7, f1, f2⟩ := A0f (k := 13) (num := 0) (lb := 0) (nm := ⟨#[]⟩) (ty := tt1) (fr := A3) ⟨by decide, by decide⟩ ⟨by decide, by decide⟩ ⟨by decide, by decide⟩ (hle1.trans hle2) hle7 (hst.mono (B2.anti hle1)) (S7 _) ((A0g hsa).mono (B2.mono hle2)) (A4J hnt List.nodup_nil hna (fun x hx y hy he => by cases hy) (fun x hx y hy he => A1H hsa.inG hst.inG y hy x hx he.symm) (fun x hx y hy he => by cases hx)) hsl7 hno7; subst hT; obtain ⟨d1, d2⟩ := B04 hc hva hvt h126; refine H7 rfl (V5 b 41 _ cst G7 hRt) (Pk.perm (by repeat (first | exact Pk.here | apply Pk.there))) rfl rfl (fun v G8 outs hle8 hh => ?_); obtain ⟨cs8, rfl, hR8, hG, rfl⟩ := hh; replace hG := hG.symm; subst hG; rw [← d1] at hR8)
 refine sD (nS (tS (tR (sL (A7 rfl rfl) rfl rfl ?_))))
 refine sS rfl rfl rfl rfl hot rfl ?_
 refine sD (nS (tT ?_))
 refine C8 (rC rfl (A7 rfl rfl)) (.cons (by repeat (first | exact Pk.here | apply Pk.there)) .nil) ?_
 (exact ⟨cs8, _, _, F7, rfl, hR8, rfl, f1, f2, d2⟩)
 refine B1 ?_
 refine sQ (A6 rfl) rfl ?_
 refine sQ (A4 rfl) rfl (O6 ?_)
 refine sD (nS (tS (tR ?_)))
 (refine X7 (cs := [x1, x2, x3, x4, x5, x6, x7, x8, x9]) (by repeat (first | exact Pk.here | apply Pk.there)) (fun G3 hle3 hsl3 hno3 => ?_); have hbad : True := trivial; have hz := B03 (S := S) (f := f) (by rw [hc]; exact D8 (by show _ ≠ (32 : Int); omega)) (by rw [hc]; exact D8 (by show _ ≠ (43 : Int); omega)) (by rw [hc]; exact D8 (by show _ ≠ (60 : Int); omega)) (by rw [hc]; exact D8 (by show _ ≠ (58 : Int); omega)); obtain ⟨F7, f1, f2⟩ := A0f (k := 0) (num := 0) (lb := 0) (nm := ⟨#[]⟩) (ty := A3) (fr := A3) ⟨by decide, by decide⟩ ⟨by decide, by decide⟩ ⟨by decide, by decide⟩ hle1 hle3 (S7 _) (S7 _) (A0g hsa) (by simpa using hna) hsl3 hno3)
 refine sL (A7 rfl rfl) rfl rfl ?_
 refine M7 rfl rfl rfl rfl (by exact f1.R.one) rfl (by repeat first | exact Sw.here | apply Sw.there) (by rfl) ?_
 refine sD (nS (tT (rB (rS ?_))))
 refine C8 (rC rfl (A7 rfl rfl)) (.cons (by repeat (first | exact Pk.here | apply Pk.there)) .nil) ?_
 (rw [hz]; exact ⟨_, _, _, F7, rfl, hnB, rfl, f1, f2, fun x hx => by cases hx⟩)
section tm
variable {S : Option A0} {n : Nat}
theorem B07 : S.bind (D2 0) = none := by cases S <;> rfl
theorem B08 (h : 97 ≤ (C0 S).toNat ∧ (C0 S).toNat ≤ 122) : S.bind (D2 (n + 1)) = (K5 S).map fun r => (.mk 1 ⟨#[C0 S]⟩ 0 A3 A3 0 [], r) := by
 rcases S with _ | _ | ⟨b, l⟩
 ·exact absurd h.1 (by decide)
 ·exact absurd h.1 (by decide)
 ·have h : 97 ≤ b.toNat ∧ b.toNat ≤ 122 := h
  show D2 (n + 1) (b :: l) = _
  rw [D2, if_pos h]; rfl
theorem B09 (h : D3 (C0 S)) : S.bind (D2 (n + 1)) = (S.bind U0).map fun x => (.mk 2 ⟨#[]⟩ x.1 A3 A3 0 [], x.2) := by
 rcases S with _ | _ | ⟨b, l⟩
 ·exact absurd h (by decide)
 ·exact absurd h (by decide)
 ·have h : D3 b := h
  have h2 := h
  unfold D3 at h2
  show D2 (n + 1) (b :: l) = _
  rw [D2, if_neg (by omega), if_pos h]; rfl
theorem A1e (h : C0 S ≠ 0) : ∃ l, S = some (C0 S :: l) ∧ K5 S = some l := by
 rcases S with _ | _ | ⟨b, l⟩
 ·exact absurd rfl h
 ·exact absurd rfl h
 ·exact ⟨l, rfl, rfl⟩
theorem B1a (h : C0 S = 84) : S.bind (D2 (n + 1)) = (K5 S).map fun r => (nd 3 [], r) := by
 obtain ⟨l, h1, h2⟩ := A1e (S := S) (by rw [h]; decide)
 rw [h] at h1
 rw [h2, h1]
 show D2 (n + 1) (84 :: l) = _
 rw [D2, if_neg (by decide), if_neg (by decide), if_pos rfl]; rfl
theorem B1b (h : C0 S = 70) : S.bind (D2 (n + 1)) = (K5 S).map fun r => (nd 4 [], r) := by
 obtain ⟨l, h1, h2⟩ := A1e (S := S) (by rw [h]; decide)
 rw [h] at h1
 rw [h2, h1]
 show D2 (n + 1) (70 :: l) = _
 rw [D2, if_neg (by decide), if_neg (by decide), if_neg (by decide), if_pos rfl]; rfl
theorem B1c (h : C0 S = 33) : S.bind (D2 (n + 1)) = (K5 S).bind (A1V (D2 n)) := by
 obtain ⟨l, h1, h2⟩ := A1e (S := S) (by rw [h]; decide)
 rw [h] at h1
 rw [h2, h1]
 show D2 (n + 1) (33 :: l) = _
 rw [D2, if_neg (by decide), if_neg (by decide), if_neg (by decide), if_neg (by decide), if_pos rfl]; rfl
theorem B1d (h : C0 S = 123) : S.bind (D2 (n + 1)) = (K5 S).bind (pIf (D2 n)) := by
 obtain ⟨l, h1, h2⟩ := A1e (S := S) (by rw [h]; decide)
 rw [h] at h1
 rw [h2, h1]
 show D2 (n + 1) (123 :: l) = _
 rw [D2, if_neg (by decide), if_neg (by decide), if_neg (by decide), if_neg (by decide), if_neg (by decide), if_pos rfl]; rfl
theorem B1e (h : C0 S = 91) : S.bind (D2 (n + 1)) = (K5 S).bind (A1W (D2 n)) := by
 obtain ⟨l, h1, h2⟩ := A1e (S := S) (by rw [h]; decide)
 rw [h] at h1
 rw [h2, h1]
 show D2 (n + 1) (91 :: l) = _
 rw [D2, if_neg (by decide), if_neg (by decide), if_neg (by decide), if_neg (by decide), if_neg (by decide), if_neg (by decide), if_pos rfl]; rfl
theorem B1f (h : C0 S = 36) : S.bind (D2 (n + 1)) = (K5 S).bind (Q8 (D2 n) 11) := by
 obtain ⟨l, h1, h2⟩ := A1e (S := S) (by rw [h]; decide)
 rw [h] at h1
 rw [h2, h1]
 show D2 (n + 1) (36 :: l) = _
 rw [D2, if_neg (by decide), if_neg (by decide), if_neg (by decide), if_neg (by decide), if_neg (by decide), if_neg (by decide), if_neg (by decide), if_pos rfl]; rfl
theorem B1g (h : C0 S = 37) : S.bind (D2 (n + 1)) = (K5 S).bind (Q8 (D2 n) 12) := by
 obtain ⟨l, h1, h2⟩ := A1e (S := S) (by rw [h]; decide)
 rw [h] at h1
 rw [h2, h1]
 show D2 (n + 1) (37 :: l) = _
 rw [D2, if_neg (by decide), if_neg (by decide), if_neg (by decide), if_neg (by decide), if_neg (by decide), if_neg (by decide), if_neg (by decide), if_neg (by decide), if_pos rfl]; rfl
theorem B1h (h : C0 S = 40) : S.bind (D2 (n + 1)) = (K5 S).bind (R3 (D2 n)) := by
 obtain ⟨l, h1, h2⟩ := A1e (S := S) (by rw [h]; decide)
 rw [h] at h1
 rw [h2, h1]
 show D2 (n + 1) (40 :: l) = _
 rw [D2, if_neg (by decide), if_neg (by decide), if_neg (by decide), if_neg (by decide), if_neg (by decide), if_neg (by decide), if_neg (by decide), if_neg (by decide), if_neg (by decide), if_pos rfl]; rfl
theorem A4K (h1 : ¬(97 ≤ (C0 S).toNat ∧ (C0 S).toNat ≤ 122)) (h2 : ¬D3 (C0 S)) (g1 : C0 S ≠ 84) (g2 : C0 S ≠ 70) (g3 : C0 S ≠ 33) (g4 : C0 S ≠ 123) (g5 : C0 S ≠ 91) (g6 : C0 S ≠ 36) (g7 : C0 S ≠ 37) (g8 : C0 S ≠ 40) : S.bind (D2 (n + 1)) = none := by
 rcases S with _ | _ | ⟨b, l⟩
 ·rfl
 ·rfl
 ·show D2 (n + 1) (b :: l) = _
  have h1 : ¬(97 ≤ b.toNat ∧ b.toNat ≤ 122) := h1
  have h2 : ¬D3 b := h2
  have g1 : b ≠ 84 := g1
  have g2 : b ≠ 70 := g2
  have g3 : b ≠ 33 := g3
  have g4 : b ≠ 123 := g4
  have g5 : b ≠ 91 := g5
  have g6 : b ≠ 36 := g6
  have g7 : b ≠ 37 := g7
  have g8 : b ≠ 40 := g8
  rw [D2, if_neg h1, if_neg h2, if_neg g1, if_neg g2, if_neg g3, if_neg g4, if_neg g5, if_neg g6, if_neg g7, if_neg g8]
end tm
section done
variable {f : A0 → Option (Tm × A0)} {S : Option A0}
theorem A7x {k : Int} {a : Tm} (ha : ∀ x, S.bind f = some x → a = x.1) : (S.bind (Q8 f k)).map Prod.snd = (S.bind f).map Prod.snd ∧ ∀ x, S.bind (Q8 f k) = some x → nd k [a] = x.1 := by
 rcases S with _ | l
 ·exact ⟨rfl, fun x hx => by cases hx⟩
 simp only [Option.bind_some] at ha ⊢
 unfold Q8
 cases hA : f l with
 | none => exact ⟨rfl, fun x hx => by cases hx⟩
 | some x => exact ⟨rfl, fun q hq => by cases hq; rw [ha x hA]⟩
theorem B1i {a b : Tm} {A B : Option (Tm × A0)} (hA : S.bind f = A) (ha : ∀ x, A = some x → a = x.1) (hB : ((A.map Prod.snd).bind (B9 44)).bind f = B) (hb : ∀ x, B = some x → b = x.1) :
  (S.bind (A1W f)).map Prod.snd = (B.map Prod.snd).bind (B9 93) ∧ ∀ x, S.bind (A1W f) = some x → nd 10 [a, b] = x.1 := by
 subst hB hA
 rcases S with _ | l
 ·exact ⟨rfl, fun x hx => by cases hx⟩
 simp only [Option.bind_some] at ha hb ⊢
 unfold A1W
 cases hA : f l with
 | none => exact ⟨rfl, fun x hx => by cases hx⟩
 | some x =>
  rw [hA] at ha hb
  simp only [Option.bind_some, Option.map_some] at ha hb ⊢
  cases h1 : B9 44 x.2 with
  | none => exact ⟨rfl, fun x hx => by cases hx⟩
  | some r =>
   rw [h1] at hb
   simp only [Option.bind_some] at hb ⊢
   cases hB : f r with
   | none => exact ⟨rfl, fun x hx => by cases hx⟩
   | some y =>
    simp only [Option.bind_some, Option.map_some]
    cases h2 : B9 93 y.2 with
    | none => exact ⟨rfl, fun x hx => by cases hx⟩
    | some w => exact ⟨rfl, fun q hq => by cases hq; rw [ha _ rfl, hb _ hB]⟩
theorem B1j {a b c : Tm} {A B C : Option (Tm × A0)} (hA : S.bind f = A) (ha : ∀ x, A = some x → a = x.1) (hB : ((A.map Prod.snd).bind (B9 63)).bind f = B) (hb : ∀ x, B = some x → b = x.1) (hC : ((B.map Prod.snd).bind (B9 58)).bind f = C) (hc : ∀ x, C = some x → c = x.1) :
  (S.bind (pIf f)).map Prod.snd = (C.map Prod.snd).bind (B9 125) ∧ ∀ x, S.bind (pIf f) = some x → nd 9 [a, b, c] = x.1 := by
 subst hC hB hA
 rcases S with _ | l
 ·exact ⟨rfl, fun x hx => by cases hx⟩
 simp only [Option.bind_some] at ha hb hc ⊢
 unfold pIf
 cases hA : f l with
 | none => exact ⟨rfl, fun x hx => by cases hx⟩
 | some x =>
  rw [hA] at ha hb hc
  simp only [Option.bind_some, Option.map_some] at ha hb hc ⊢
  cases h1 : B9 63 x.2 with
  | none => exact ⟨rfl, fun x hx => by cases hx⟩
  | some r =>
   rw [h1] at hb hc
   simp only [Option.bind_some] at hb hc ⊢
   cases hB : f r with
   | none => exact ⟨rfl, fun x hx => by cases hx⟩
   | some y =>
    rw [hB] at hb hc
    simp only [Option.bind_some, Option.map_some] at hb hc ⊢
    cases h2 : B9 58 y.2 with
    | none => exact ⟨rfl, fun x hx => by cases hx⟩
    | some r2 =>
     rw [h2] at hc
     simp only [Option.bind_some] at hc ⊢
     cases hC : f r2 with
     | none => exact ⟨rfl, fun x hx => by cases hx⟩
     | some z =>
      simp only [Option.bind_some, Option.map_some]
      cases h3 : B9 125 z.2 with
      | none => exact ⟨rfl, fun x hx => by cases hx⟩
      | some w => exact ⟨rfl, fun q hq => by cases hq; rw [ha _ rfl, hb _ rfl, hc _ hC]⟩
theorem B1k {a : Tm} {ty : Ty} {T : Option (Ty × A0)} {A : Option (Tm × A0)} (hT : ((K5 S).bind (B9 58)).bind (K0 4) = T) (ht : ∀ x, T = some x → ty = x.1) (hA : ((T.map Prod.snd).bind (B9 46)).bind f = A) (ha : ∀ x, A = some x → a = x.1) :
  (S.bind (A1V f)).map Prod.snd = A.map Prod.snd ∧ ∀ x, S.bind (A1V f) = some x → Tm.mk 5 ⟨#[C0 S]⟩ 0 ty A3 0 [a] = x.1 := by
 subst hA hT
 rcases S with _ | _ | ⟨d, l⟩
 ·exact ⟨rfl, fun x hx => by cases hx⟩
 ·exact ⟨rfl, fun x hx => by cases hx⟩
 simp only [K5, C0, Option.bind_some] at ha ht ⊢
 unfold A1V
 simp only [P3, Option.bind_some]
 cases h1 : B9 58 l with
 | none => exact ⟨rfl, fun x hx => by cases hx⟩
 | some r =>
  rw [h1] at ha ht
  simp only [Option.bind_some] at ha ht ⊢
  cases hT : K0 4 r with
  | none => exact ⟨rfl, fun x hx => by cases hx⟩
  | some t =>
   rw [hT] at ha ht
   simp only [Option.bind_some, Option.map_some] at ha ht ⊢
   cases h2 : B9 46 t.2 with
   | none => exact ⟨rfl, fun x hx => by cases hx⟩
   | some r2 =>
    rw [h2] at ha
    simp only [Option.bind_some] at ha ⊢
    cases hA : f r2 with
    | none => exact ⟨rfl, fun x hx => by cases hx⟩
    | some z => exact ⟨rfl, fun q hq => by cases hq; rw [ht _ rfl, ha _ hA]⟩
end done
theorem A7y (c : UInt8) : strOfNums [(c.toNat : Int)] = ⟨#[c]⟩ := by
 simp [strOfNums]
theorem B1l (b b2 b3 : Nat) (n : Nat) (d : Int) (G : IM) (hd : -100 ≤ d ∧ d ≤ 100) (hE : V0 G) (h2 : G b2 = some [.pointer (some ⟨b, 0, none⟩)]) (h3 : G b3 = some [.int .i64 d])
  (ih : ∀ (S : Option A0) (cs : List Value) (G' : IM), V0 G' → O4 S cs → Fn Tryz.prog 87 [.pointer (some ⟨b, 0, none⟩), .int .i64 (d + 1)] [.blk b cs] G' (A3h b (S.bind (D2 n)) G')) :
  A7v b (D2 n) 152 [] [.pointer (some ⟨b2, 0, none⟩), .pointer (some ⟨b3, 0, none⟩)] G := by
 intro S c' G' hle hR
 have h2' := hle _ _ h2
 have h3' := hle _ _ h3
 have hE' := hE.mono hle
 show Fn _ _ [.pointer (some ⟨b2, 0, none⟩), .pointer (some ⟨b3, 0, none⟩)] _ _ _
 refine B3 Tryz.func152 rfl Tryz.ntmps152 Tryz.results152 rfl ?_
 intro w0
 refine tS (tR ?_)
 refine sE (D6 rfl) rfl (fun b3 => ?_)
 refine sD (nS (tS (tR ?_)))
 refine sL (H3 rfl rfl (M4 h2' (fun j v h => by simpa using h))) rfl rfl ?_
 refine sL (H3 rfl rfl (M4 h3' (fun j v h => by simpa using h))) rfl rfl ?_
 refine sP (K2 rfl rfl (by omega) (by omega)) rfl rfl ?_
 (refine H7 rfl (ih S c' G' hE' hR) (Pk.perm (by repeat (first | exact Pk.here | apply Pk.there))) rfl rfl (fun v G2 outs hle2 hh => ?_); obtain ⟨cs2, ta, ca, Fa, rfl, hR2, rfl, hsa, hna, hva⟩ := hh; have hla := hsa.R.len; have hoa := hsa.R.one)
 refine sS rfl rfl rfl hla hoa rfl ?_ (hu := by exact P0 hla.symm)
 refine sD (nS (tT ?_))
 refine C8 (rC rfl (D5 rfl rfl (K8 (by repeat first | exact mH | apply mT)) hla)) (.cons (by repeat (first | exact Pk.here | apply Pk.there)) .nil) ?_
 (exact ⟨cs2, ta, ca, Fa, rfl, hR2, rfl, hsa, hna, hva⟩)
theorem A11 (o : Option A0) (t : Tm) : (o.map fun r => (t, r)).map Prod.snd = o ∧ ∀ x, (o.map fun r => (t, r)) = some x → t = x.1 := by
 cases o with
 | none => exact ⟨rfl, fun x hx => by cases hx⟩
 | some r => exact ⟨rfl, fun x hx => by cases hx; rfl⟩
theorem A7z {o : Option (Int × A0)} {nv : Int} (h : ∀ x, o = some x → nv = x.1) : (o.map fun x => (Tm.mk 2 ⟨#[]⟩ x.1 A3 A3 0 [], x.2)).map Prod.snd = o.map Prod.snd ∧ ∀ x, (o.map fun x => (Tm.mk 2 ⟨#[]⟩ x.1 A3 A3 0 [], x.2)) = some x → Tm.mk 2 ⟨#[]⟩ nv A3 A3 0 [] = x.1 := by
 cases o with
 | none => exact ⟨rfl, fun x hx => by cases hx⟩
 | some r => exact ⟨rfl, fun x hx => by cases hx; rw [h r rfl]⟩
theorem B1m (b : Nat) : ∀ (n : Nat) (d : Int) (S : Option A0) (cs : List Value) (G : IM), d + n = 41 → 1 ≤ d → V0 G → O4 S cs →
  Fn Tryz.prog 87 [.pointer (some ⟨b, 0, none⟩), .int .i64 d] [.blk b cs] G (A3h b (S.bind (D2 n)) G) := by
 intro n
 induction n with
 | zero =>
  intro d S cs G hd hd1 hE h
  obtain ⟨s, bad, rfl, hs⟩ := h.open
  have hB : O4 none [.string s, .bool true] := h.bad
  rw [B07]
  refine B3 Tryz.func87 rfl Tryz.ntmps87 Tryz.results87 rfl ?_
  intro w0
  refine tS (tR ?_)
  (refine F3 (A2d rfl rfl rfl) rfl ?_; rintro _ ⟨b3, rfl⟩)
  (refine F3 (A2d rfl rfl rfl) rfl ?_; rintro _ ⟨b4, rfl⟩)
  refine sE (D6 rfl) rfl (fun b5 => ?_)
  refine sD (nS (tS (tS (tR (sL (C2 rfl rfl) rfl rfl ?_)))))
  refine sP (A3D rfl rfl (by omega)) rfl rfl ?_
  refine sD (nS (qT rfl (tR (sL (C2 rfl rfl) rfl rfl ?_))))
  refine sQ (A6 rfl) rfl ?_
  refine B1 ?_
  (refine H7 rfl (A2x b none _ G hB) (Pk.perm (by repeat (first | exact Pk.here | apply Pk.there))) rfl rfl (fun v G1 outs hle1 hh => ?_); obtain ⟨hG, rfl, rfl⟩ := hh; replace hG := hG.symm; subst hG; have hz0 : ((C0 none).toNat : Int) = 0 := rfl)
  refine sQ (qA rfl) rfl (sD (nS (tS ?_)))
  refine D0 ?_
  refine tS (tR (sQ (qM rfl) rfl ?_))
  refine sP (A2L rfl rfl (by omega)) rfl rfl ?_
  refine D7 ?_
  refine sP (A2L rfl rfl (by omega)) rfl rfl ?_
  refine S2 ?_
  (refine H7 rfl (A0x b none _ G hB) (Pk.perm (by repeat (first | exact Pk.here | apply Pk.there))) rfl rfl (fun v G1 outs hle1 hh => ?_); obtain ⟨W8, rfl, hR1, hG, rfl⟩ := hh; replace hG := hG.symm; subst hG; obtain ⟨s1, bad1, rfl, hs1⟩ := hR1.open; have hnB := hR1.bad)
  refine sD (nS (tS (tR ?_)))
  refine sQ (A0j rfl rfl) rfl ?_
  refine C1 ?_
  refine D0 ?_
  refine tS (tR ?_)
  refine sP (I1 rfl rfl (by omega)) rfl rfl ?_
  refine sQ (qA rfl) rfl (sD (nS (cF rfl (tS (tR ?_)))))
  refine sP (I1 rfl rfl (by omega)) rfl rfl ?_
  refine sQ (qA rfl) rfl (sD (nS (cF rfl (tS (tR ?_)))))
  refine sP (I1 rfl rfl (by omega)) rfl rfl ?_
  refine sQ (qA rfl) rfl (sD (nS (cF rfl (tS (tR ?_)))))
  refine sP (I1 rfl rfl (by omega)) rfl rfl ?_
  refine sQ (qA rfl) rfl (sD (nS (cF rfl (tS (tR ?_)))))
  refine sP (I1 rfl rfl (by omega)) rfl rfl ?_
  refine sQ (qA rfl) rfl (sD (nS (cF rfl (tS (tR ?_)))))
  refine sP (I1 rfl rfl (by omega)) rfl rfl ?_
  refine sQ (qA rfl) rfl (sD (nS (cF rfl (tS (tR ?_)))))
  refine sP (I1 rfl rfl (by omega)) rfl rfl ?_
  refine sQ (qA rfl) rfl (sD (nS (cF rfl (tS (tR ?_)))))
  refine sP (I1 rfl rfl (by omega)) rfl rfl ?_
  refine M0 ?_
  refine sQ (A6 rfl) rfl ?_
  refine D7 ?_
  refine C8 (outs := [.blk b _]) (rC rfl (A7 rfl rfl)) (.cons (by repeat (first | exact Pk.here | apply Pk.there)) .nil) ?_
  (exact ⟨_, _, _, [], rfl, hnB, rfl, A1d _ ⟨#[]⟩ (k := 0) (num := 0) ⟨by decide, by decide⟩ ⟨by decide, by decide⟩, List.nodup_nil, fun x hx => by cases hx⟩)
 | succ n ih =>
  intro d S cs G hd hd1 hE h
  refine B3 Tryz.func87 rfl Tryz.ntmps87 Tryz.results87 rfl ?_
  intro w0
  refine tS (tR ?_)
  (refine F3 (A2d rfl rfl rfl) rfl ?_; rintro _ ⟨b3, rfl⟩)
  (refine F3 (A2d rfl rfl rfl) rfl ?_; rintro _ ⟨b4, rfl⟩)
  refine sE (D6 rfl) rfl (fun b5 => ?_)
  refine sD (nS (tS (tS ?_)))
  (refine A5j (bs := [(b3, [.pointer (some ⟨b, 0, none⟩)]), (b4, [.int .i64 d])]) ((Pk.perm (by repeat (first | exact Pk.here | apply Pk.there))).trans ((Pk.perm (by repeat (first | exact Pk.here | apply Pk.there))).cons _)) (fun hf1 hf2 hle0 => ?_); have hb2 : Wi G [(b3, [.pointer (some ⟨b, 0, none⟩)]), (b4, [.int .i64 d])] b3 = some [.pointer (some ⟨b, 0, none⟩)] := Wi.in hf1 List.mem_cons_self; have hb3 : Wi G [(b3, [.pointer (some ⟨b, 0, none⟩)]), (b4, [.int .i64 d])] b4 = some [.int .i64 d] := Wi.in hf1 (List.mem_cons_of_mem _ List.mem_cons_self); generalize Wi G [(b3, [.pointer (some ⟨b, 0, none⟩)]), (b4, [.int .i64 d])] = G0 at hle0 hb2 hb3 ⊢; have hE0 := hE.mono hle0; have hsub := B1l b _ _ n d G0 ⟨by omega, by omega⟩ hE0 hb2 hb3 (fun S cs G' hE' hR => ih (d + 1) S cs G' (by omega) (by omega) hE' hR))
  refine tR ?_
  refine sL (H3 rfl rfl (M4 hb3 (fun j v h => by simpa using h))) rfl rfl ?_
  refine sP (A2f rfl rfl (by omega)) rfl rfl ?_
  refine sD (nS (cF rfl (tK (nS (tS (tR ?_))))))
  refine sL (H3 rfl rfl (M4 hb2 (fun j v h => by simpa using h))) rfl rfl ?_
  (refine H7 rfl (A2x b S cs G0 h) (Pk.perm (by repeat (first | exact Pk.here | apply Pk.there))) rfl rfl (fun v G1 outs hle1 hh => ?_); obtain ⟨hG, rfl, rfl⟩ := hh; replace hG := hG.symm; subst hG; obtain ⟨c, hc⟩ : ∃ c, C0 S = c := ⟨_, rfl⟩; rw [hc])
  refine sQ (qA rfl) rfl (sD (nS (tS ?_)))
  refine D0 ?_
  refine tS (tR (sQ (qM rfl) rfl ?_))
  refine sB (Q2 rfl rfl) rfl rfl (fun h31 => ?_) (fun h31 => ?_)
  refine sQ (qM rfl) rfl (sQ (qM rfl) rfl ?_)
  refine sB (S8 rfl rfl) rfl rfl (fun h34 => ?_) (fun h34 => ?_)
  refine B1 ?_
  refine sL (H3 rfl rfl (M4 hb2 (fun j v h => by simpa using h))) rfl rfl ?_
  (refine H7 rfl (A0x b S cs G0 h) (Pk.perm (by repeat (first | exact Pk.here | apply Pk.there))) rfl rfl (fun v G1 outs hle1 hh => ?_); obtain ⟨W8, rfl, hR1, hG, rfl⟩ := hh; replace hG := hG.symm; subst hG; obtain ⟨s1, bad1, rfl, hs1⟩ := hR1.open; have hnB := hR1.bad)
  refine sD (nS (tS (tR (sQ (qM rfl) rfl ?_))))
  (refine F3 (P1 rfl rfl rfl (by omega) (by unfold maxLen; omega) rfl) rfl ?_; rintro _ ⟨b49, rfl⟩)
  (refine sL (A2l (xs := [(c.toNat : Int)]) rfl rfl rfl rfl rfl (A0k (by repeat first | exact mH | apply mT))) rfl rfl ?_; rw [A7y])
  refine sQ (Z5 rfl rfl) rfl (O6 ?_)
  refine sD (nS (tT (rB (rS ?_))))
  refine C8 (outs := [.blk b _]) (rC rfl (A7 rfl rfl)) (.cons (by repeat (first | exact Pk.here | apply Pk.there)) .nil) ?_
  (have hlet : 97 ≤ (C0 S).toNat ∧ (C0 S).toNat ≤ 122 := (by rw [hc]; omega); rw [B08 hlet, hc]; exact ⟨_, _, _, [], rfl, by rw [(A11 _ _).1]; exact hR1, rfl, A1d _ ⟨#[c]⟩ ⟨by decide, by decide⟩ ⟨by decide, by decide⟩, List.nodup_nil, (A11 _ _).2⟩)
  refine C6 ?_
  refine sP (A2K rfl rfl (by omega)) rfl rfl ?_
  refine sQ (qM rfl) rfl (sQ (qM rfl) rfl ?_)
  refine sP (A46 rfl rfl (by omega)) rfl rfl ?_
  refine M0 ?_
  refine sL (H3 rfl rfl (M4 hb2 (fun j v h => by simpa using h))) rfl rfl ?_
  (refine H7 rfl (A0x b S cs G0 h) (Pk.perm (by repeat (first | exact Pk.here | apply Pk.there))) rfl rfl (fun v G1 outs hle1 hh => ?_); obtain ⟨W8, rfl, hR1, hG, rfl⟩ := hh; replace hG := hG.symm; subst hG; obtain ⟨s1, bad1, rfl, hs1⟩ := hR1.open; have hnB := hR1.bad)
  refine sD (nS (tS (tR ?_)))
  refine sQ (A0j rfl rfl) rfl ?_
  refine C1 ?_
  refine D0 ?_
  refine tS (tR ?_)
  refine sP (I1 rfl rfl (by omega)) rfl rfl ?_
  refine sQ (qA rfl) rfl (sD (nS (cF rfl (tS (tR ?_)))))
  refine sP (I1 rfl rfl (by omega)) rfl rfl ?_
  refine sQ (qA rfl) rfl (sD (nS (cF rfl (tS (tR ?_)))))
  refine sP (I1 rfl rfl (by omega)) rfl rfl ?_
  refine sQ (qA rfl) rfl (sD (nS (cF rfl (tS (tR ?_)))))
  refine sB (qE rfl rfl) rfl rfl (fun h122 => ?_) (fun h122 => ?_)
  refine B1 ?_
  (refine F3 (N9 rfl rfl (hsub (K5 S) _ G0 (B4.refl _) hR1) (Pk.perm (by repeat (first | exact Pk.here | apply Pk.there))) rfl) rfl ?_; rintro _ ⟨v, G1, outs, rfl, hle1, csa, ta, ca, Fa, rfl, hRa, rfl, hsa, hna, hva⟩; have hoa := hsa.R.one; obtain ⟨x1, x2, x3, x4, x5, x6, x7, x8, x9, rfl⟩ := V1 hsa; replace hsa := hsa.mono (B2.anti hle0); replace hb2 := hle1 _ _ hb2; have hle01 := hle0.trans hle1)
  refine sE (D6 rfl) rfl (fun b131 => ?_)
  refine sS rfl rfl rfl rfl hoa rfl ?_
  refine sD (nS (tS (tR ?_)))
  refine sL (H3 rfl rfl (M4 hb2 (fun j v h => by simpa using h))) rfl rfl ?_
  (refine H7 rfl (V5 b 63 _ csa G1 hRa) (Pk.perm (by repeat (first | exact Pk.here | apply Pk.there))) rfl rfl (fun v G9 outs hle9 hh => ?_); obtain ⟨csp, rfl, hRp, hG, rfl⟩ := hh; replace hG := hG.symm; subst hG)
  refine sD (nS (tS (tR (sQ (qM rfl) rfl ?_))))
  (refine F3 (N9 rfl rfl (hsub _ csp G1 hle1 hRp) (Pk.perm (by repeat (first | exact Pk.here | apply Pk.there))) rfl) rfl ?_; rintro _ ⟨v, G2, outs, rfl, hle2, csb, tb, cb, Fb, rfl, hRb, rfl, hsb, hnb, hvb⟩; have hob := hsb.R.one; obtain ⟨y1, y2, y3, y4, y5, y6, y7, y8, y9, rfl⟩ := V1 hsb; replace hb2 := hle2 _ _ hb2; obtain ⟨k1, k2⟩ := A10 (A0g hsa) hna hle01 hle2 hsb hnb)
  refine sE (D6 rfl) rfl (fun b145 => ?_)
  refine sS rfl rfl rfl rfl hob rfl ?_
  refine sD (nS (tS (tR ?_)))
  refine sL (H3 rfl rfl (M4 hb2 (fun j v h => by simpa using h))) rfl rfl ?_
  (refine H7 rfl (V5 b 58 _ csb G2 hRb) (Pk.perm (by repeat (first | exact Pk.here | apply Pk.there))) rfl rfl (fun v G9 outs hle9 hh => ?_); obtain ⟨csq, rfl, hRq, hG, rfl⟩ := hh; replace hG := hG.symm; subst hG)
  refine sD (nS (tS (tR (sQ (qM rfl) rfl ?_))))
  (refine F3 (N9 rfl rfl (hsub _ csq G2 (hle1.trans hle2) hRq) (Pk.perm (by repeat (first | exact Pk.here | apply Pk.there))) rfl) rfl ?_; rintro _ ⟨v, G3, outs, rfl, hle3, csc, tc, cc, Fc, rfl, hRc, rfl, hsc, hnc, hvc⟩; have hoc := hsc.R.one; obtain ⟨z1, z2, z3, z4, z5, z6, z7, z8, z9, rfl⟩ := V1 hsc; replace hb2 := hle3 _ _ hb2; obtain ⟨k3, k4⟩ := A10 k1 k2 (hle01.trans hle2) hle3 hsc hnc)
  refine sE (D6 rfl) rfl (fun b159 => ?_)
  refine sS rfl rfl rfl rfl hoc rfl ?_
  refine sD (nS (tS (tR ?_)))
  refine sL (H3 rfl rfl (M4 hb2 (fun j v h => by simpa using h))) rfl rfl ?_
  (refine H7 rfl (V5 b 125 _ csc G3 hRc) (Pk.perm (by repeat (first | exact Pk.here | apply Pk.there))) rfl rfl (fun v G9 outs hle9 hh => ?_); obtain ⟨csr, rfl, hRr, hG, rfl⟩ := hh; replace hG := hG.symm; subst hG)
  refine B1 ?_
  (refine F3 (P1 rfl rfl rfl (by omega) (by unfold maxLen; omega) rfl) rfl ?_; rintro _ ⟨b174, rfl⟩)
  (refine X7 (cs := [x1, x2, x3, x4, x5, x6, x7, x8, x9, y1, y2, y3, y4, y5, y6, y7, y8, y9, z1, z2, z3, z4, z5, z6, z7, z8, z9]) (by repeat (first | exact Pk.here | apply Pk.there)) (fun G7 hle7 hsl7 hno7 => ?_); obtain ⟨F7, f1, f2⟩ := A0f (k := 9) (num := 0) (lb := 0) (nm := ⟨#[]⟩) (ty := A3) (fr := A3) ⟨by decide, by decide⟩ ⟨by decide, by decide⟩ ⟨by decide, by decide⟩ (hle01.trans (hle2.trans hle3)) hle7 (S7 _) (S7 _) k3 (by simpa using k4) hsl7 hno7; obtain ⟨d1, d2⟩ := B1j (S := K5 S) rfl hva rfl hvb rfl hvc; refine I5 rfl (A1Q _ _ _ _ _) rfl rfl ?_)
  refine M7 rfl rfl rfl rfl (by exact f1.R.one) rfl (by repeat first | exact Sw.here | apply Sw.there) (by rfl) ?_
  refine sD (nS (tT (rB (rS ?_))))
  refine C8 (outs := [.blk b _]) (rC rfl (A7 rfl rfl)) (.cons (by repeat (first | exact Pk.here | apply Pk.there)) .nil) ?_
  (have hcc : C0 S = 123 := (by rw [hc]; exact E0 (b := 123) (by show _ = (123 : Int); omega)); rw [B1d hcc]; exact ⟨csr, _, _, F7, rfl, by rw [d1]; exact hRr, rfl, f1, f2, d2⟩)
  refine sQ (qA rfl) rfl (sD (nS (cF rfl (tS (tR ?_)))))
  refine sP (I1 rfl rfl (by omega)) rfl rfl ?_
  refine sQ (qA rfl) rfl (sD (nS (cF rfl (tS (tR ?_)))))
  refine sP (I1 rfl rfl (by omega)) rfl rfl ?_
  refine sQ (qA rfl) rfl (sD (nS (cF rfl (tS (tR ?_)))))
  refine sP (I1 rfl rfl (by omega)) rfl rfl ?_
  refine sQ (qA rfl) rfl (sD (nS (cF rfl (tS (tR ?_)))))
  refine sP (I1 rfl rfl (by omega)) rfl rfl ?_
  refine C1 ?_
  refine sL (H3 rfl rfl (M4 hb2 (fun j v h => by simpa using h))) rfl rfl ?_
  refine sQ (A6 rfl) rfl ?_
  refine D7 ?_
  refine C8 (outs := [.blk b _]) (rC rfl (A7 rfl rfl)) (.cons (by repeat (first | exact Pk.here | apply Pk.there)) .nil) ?_
  (rw [A4K (n := n) (by rw [hc]; omega) (by rw [hc]; unfold D3; omega) (by rw [hc]; exact D8 (by show _ ≠ (84 : Int); omega)) (by rw [hc]; exact D8 (by show _ ≠ (70 : Int); omega)) (by rw [hc]; exact D8 (by show _ ≠ (33 : Int); omega)) (by rw [hc]; exact D8 (by show _ ≠ (123 : Int); omega)) (by rw [hc]; exact D8 (by show _ ≠ (91 : Int); omega)) (by rw [hc]; exact D8 (by show _ ≠ (36 : Int); omega)) (by rw [hc]; exact D8 (by show _ ≠ (37 : Int); omega)) (by rw [hc]; exact D8 (by show _ ≠ (40 : Int); omega))]; exact ⟨_, _, _, [], rfl, hnB, rfl, A1d _ ⟨#[]⟩ (k := 0) (num := 0) ⟨by decide, by decide⟩ ⟨by decide, by decide⟩, List.nodup_nil, fun x hx => by cases hx⟩)
  refine D7 ?_
  refine sB (Q2 rfl rfl) rfl rfl (fun h247 => ?_) (fun h247 => ?_)
  refine sQ (qM rfl) rfl (sQ (qM rfl) rfl ?_)
  refine sB (S8 rfl rfl) rfl rfl (fun h250 => ?_) (fun h250 => ?_)
  refine B1 ?_
  refine sL (H3 rfl rfl (M4 hb2 (fun j v h => by simpa using h))) rfl rfl ?_
  (have hdg : D3 (C0 S) := (by rw [hc]; unfold D3; omega); refine H7 rfl (A7u b S cs G0 hE0 h) (Pk.perm (by repeat (first | exact Pk.here | apply Pk.there))) rfl rfl (fun v G6 outs hle6 hh => ?_); obtain ⟨hG, csn, nv, rfl, hRn, rfl, hIn, hvn⟩ := hh; replace hG := hG.symm; subst hG)
  refine sQ (Z5 rfl rfl) rfl (O6 ?_)
  refine sD (nS (tT (rB (rS ?_))))
  refine C8 (outs := [.blk b _]) (rC rfl (A7 rfl rfl)) (.cons (by repeat (first | exact Pk.here | apply Pk.there)) .nil) ?_
  (rw [B09 hdg]; exact ⟨csn, _, _, [], rfl, by rw [(A7z hvn).1]; exact hRn, rfl, A1d _ ⟨#[]⟩ ⟨by decide, by decide⟩ hIn, List.nodup_nil, (A7z hvn).2⟩)
  refine M0 ?_
  refine sL (H3 rfl rfl (M4 hb2 (fun j v h => by simpa using h))) rfl rfl ?_
  (refine H7 rfl (A0x b S cs G0 h) (Pk.perm (by repeat (first | exact Pk.here | apply Pk.there))) rfl rfl (fun v G1 outs hle1 hh => ?_); obtain ⟨W8, rfl, hR1, hG, rfl⟩ := hh; replace hG := hG.symm; subst hG; obtain ⟨s1, bad1, rfl, hs1⟩ := hR1.open; have hnB := hR1.bad)
  refine sD (nS (tS (tR ?_)))
  refine sQ (A0j rfl rfl) rfl ?_
  refine C1 ?_
  refine D0 (tS (tR (sB (qE rfl rfl) rfl rfl (fun h298 => ?_) (fun h298 => ?_))))
  refine sQ (qA rfl) rfl (sD (nS (qT rfl (tS (tR ?_)))))
  refine I5 rfl ((A1Q _ _ _ _ _)) rfl rfl ?_
  refine O6 ?_
  refine sD (nS (tT (rB (rS ?_))))
  refine C8 (outs := [.blk b _]) (rC rfl (A7 rfl rfl)) (.cons (by repeat (first | exact Pk.here | apply Pk.there)) .nil) ?_
  (have hcc : C0 S = 84 := (by rw [hc]; exact E0 (b := 84) (by show _ = (84 : Int); omega)); rw [B1a hcc]; exact ⟨_, _, _, [], rfl, by rw [(A11 _ _).1]; exact hR1, rfl, A1d _ ⟨#[]⟩ ⟨by decide, by decide⟩ ⟨by decide, by decide⟩, List.nodup_nil, (A11 _ _).2⟩)
  refine sQ (qA rfl) rfl (sD (nS (cF rfl (tS (tR ?_)))))
  refine sB (qE rfl rfl) rfl rfl (fun h320 => ?_) (fun h320 => ?_)
  refine sQ (qA rfl) rfl (sD (nS (qT rfl (tS (tR ?_)))))
  refine I5 rfl ((A1Q _ _ _ _ _)) rfl rfl ?_
  refine O6 ?_
  refine sD (nS (tT (rB (rS ?_))))
  refine C8 (outs := [.blk b _]) (rC rfl (A7 rfl rfl)) (.cons (by repeat (first | exact Pk.here | apply Pk.there)) .nil) ?_
  (have hcc : C0 S = 70 := (by rw [hc]; exact E0 (b := 70) (by show _ = (70 : Int); omega)); rw [B1b hcc]; exact ⟨_, _, _, [], rfl, by rw [(A11 _ _).1]; exact hR1, rfl, A1d _ ⟨#[]⟩ ⟨by decide, by decide⟩ ⟨by decide, by decide⟩, List.nodup_nil, (A11 _ _).2⟩)
  refine sQ (qA rfl) rfl (sD (nS (cF rfl (tS (tR ?_)))))
  refine sP (I1 rfl rfl (by omega)) rfl rfl ?_
  refine sQ (qA rfl) rfl (sD (nS (cF rfl (tS (tR ?_)))))
  refine sP (I1 rfl rfl (by omega)) rfl rfl ?_
  refine sQ (qA rfl) rfl (sD (nS (cF rfl (tS (tR ?_)))))
  refine sB (qE rfl rfl) rfl rfl (fun h356 => ?_) (fun h356 => ?_)
  refine B1 ?_
  (refine F3 (N9 rfl rfl (hsub (K5 S) _ G0 (B4.refl _) hR1) (Pk.perm (by repeat (first | exact Pk.here | apply Pk.there))) rfl) rfl ?_; rintro _ ⟨v, G1, outs, rfl, hle1, csa, ta, ca, Fa, rfl, hRa, rfl, hsa, hna, hva⟩; have hoa := hsa.R.one; obtain ⟨x1, x2, x3, x4, x5, x6, x7, x8, x9, rfl⟩ := V1 hsa; replace hsa := hsa.mono (B2.anti hle0); replace hb2 := hle1 _ _ hb2; have hle01 := hle0.trans hle1)
  refine sE (D6 rfl) rfl (fun b365 => ?_)
  refine sS rfl rfl rfl rfl hoa rfl ?_
  refine sD (nS (tS (tR ?_)))
  refine sL (H3 rfl rfl (M4 hb2 (fun j v h => by simpa using h))) rfl rfl ?_
  (refine H7 rfl (V5 b 44 _ csa G1 hRa) (Pk.perm (by repeat (first | exact Pk.here | apply Pk.there))) rfl rfl (fun v G9 outs hle9 hh => ?_); obtain ⟨csp, rfl, hRp, hG, rfl⟩ := hh; replace hG := hG.symm; subst hG)
  refine sD (nS (tS (tR (sQ (qM rfl) rfl ?_))))
  (refine F3 (N9 rfl rfl (hsub _ csp G1 hle1 hRp) (Pk.perm (by repeat (first | exact Pk.here | apply Pk.there))) rfl) rfl ?_; rintro _ ⟨v, G2, outs, rfl, hle2, csb, tb, cb, Fb, rfl, hRb, rfl, hsb, hnb, hvb⟩; have hob := hsb.R.one; obtain ⟨y1, y2, y3, y4, y5, y6, y7, y8, y9, rfl⟩ := V1 hsb; replace hb2 := hle2 _ _ hb2; obtain ⟨k1, k2⟩ := A10 (A0g hsa) hna hle01 hle2 hsb hnb)
  refine sE (D6 rfl) rfl (fun b379 => ?_)
  refine sS rfl rfl rfl rfl hob rfl ?_
  refine sD (nS (tS (tR ?_)))
  refine sL (H3 rfl rfl (M4 hb2 (fun j v h => by simpa using h))) rfl rfl ?_
  (refine H7 rfl (V5 b 93 _ csb G2 hRb) (Pk.perm (by repeat (first | exact Pk.here | apply Pk.there))) rfl rfl (fun v G9 outs hle9 hh => ?_); obtain ⟨csq, rfl, hRq, hG, rfl⟩ := hh; replace hG := hG.symm; subst hG)
  refine I2 ?_
  (refine F3 (P1 rfl rfl rfl (by omega) (by unfold maxLen; omega) rfl) rfl ?_; rintro _ ⟨b393, rfl⟩)
  (refine X7 (cs := [x1, x2, x3, x4, x5, x6, x7, x8, x9, y1, y2, y3, y4, y5, y6, y7, y8, y9]) (by repeat (first | exact Pk.here | apply Pk.there)) (fun G7 hle7 hsl7 hno7 => ?_); obtain ⟨F7, f1, f2⟩ := A0f (k := 10) (num := 0) (lb := 0) (nm := ⟨#[]⟩) (ty := A3) (fr := A3) ⟨by decide, by decide⟩ ⟨by decide, by decide⟩ ⟨by decide, by decide⟩ (hle01.trans hle2) hle7 (S7 _) (S7 _) k1 (by simpa using k2) hsl7 hno7; obtain ⟨d1, d2⟩ := B1i (S := K5 S) rfl hva rfl hvb; refine I5 rfl (A1Q _ _ _ _ _) rfl rfl ?_)
  refine M7 rfl rfl rfl rfl (by exact f1.R.one) rfl (by repeat first | exact Sw.here | apply Sw.there) (by rfl) ?_
  refine sD (nS (tT (rB (rS ?_))))
  refine C8 (outs := [.blk b _]) (rC rfl (A7 rfl rfl)) (.cons (by repeat (first | exact Pk.here | apply Pk.there)) .nil) ?_
  (have hcc : C0 S = 91 := (by rw [hc]; exact E0 (b := 91) (by show _ = (91 : Int); omega)); rw [B1e hcc]; exact ⟨csq, _, _, F7, rfl, by rw [d1]; exact hRq, rfl, f1, f2, d2⟩)
  refine sQ (qA rfl) rfl (sD (nS (cF rfl (tS (tR ?_)))))
  refine sP (I1 rfl rfl (by omega)) rfl rfl ?_
  refine sQ (qA rfl) rfl (sD (nS (cF rfl (tS (tR ?_)))))
  refine sP (I1 rfl rfl (by omega)) rfl rfl ?_
  refine sQ (qA rfl) rfl (sD (nS (cF rfl (tS (tR ?_)))))
  refine sP (I1 rfl rfl (by omega)) rfl rfl ?_
  refine C1 ?_
  refine sL (H3 rfl rfl (M4 hb2 (fun j v h => by simpa using h))) rfl rfl ?_
  refine sQ (A6 rfl) rfl ?_
  refine D7 ?_
  refine C8 (outs := [.blk b _]) (rC rfl (A7 rfl rfl)) (.cons (by repeat (first | exact Pk.here | apply Pk.there)) .nil) ?_
  (rw [A4K (n := n) (by rw [hc]; omega) (by rw [hc]; unfold D3; omega) (by rw [hc]; exact D8 (by show _ ≠ (84 : Int); omega)) (by rw [hc]; exact D8 (by show _ ≠ (70 : Int); omega)) (by rw [hc]; exact D8 (by show _ ≠ (33 : Int); omega)) (by rw [hc]; exact D8 (by show _ ≠ (123 : Int); omega)) (by rw [hc]; exact D8 (by show _ ≠ (91 : Int); omega)) (by rw [hc]; exact D8 (by show _ ≠ (36 : Int); omega)) (by rw [hc]; exact D8 (by show _ ≠ (37 : Int); omega)) (by rw [hc]; exact D8 (by show _ ≠ (40 : Int); omega))]; exact ⟨_, _, _, [], rfl, hnB, rfl, A1d _ ⟨#[]⟩ (k := 0) (num := 0) ⟨by decide, by decide⟩ ⟨by decide, by decide⟩, List.nodup_nil, fun x hx => by cases hx⟩)
  refine D9 ?_
  refine sL (H3 rfl rfl (M4 hb2 (fun j v h => by simpa using h))) rfl rfl ?_
  (refine H7 rfl (A0x b S cs G0 h) (Pk.perm (by repeat (first | exact Pk.here | apply Pk.there))) rfl rfl (fun v G1 outs hle1 hh => ?_); obtain ⟨W8, rfl, hR1, hG, rfl⟩ := hh; replace hG := hG.symm; subst hG; obtain ⟨s1, bad1, rfl, hs1⟩ := hR1.open; have hnB := hR1.bad)
  refine sD (nS (tS (tR ?_)))
  refine sQ (A0j rfl rfl) rfl ?_
  refine C1 ?_
  refine D0 ?_
  refine tS (tR ?_)
  refine sP (I1 rfl rfl (by omega)) rfl rfl ?_
  refine sQ (qA rfl) rfl (sD (nS (cF rfl (tS (tR ?_)))))
  refine sP (I1 rfl rfl (by omega)) rfl rfl ?_
  refine sQ (qA rfl) rfl (sD (nS (cF rfl (tS (tR ?_)))))
  refine sB (qE rfl rfl) rfl rfl (fun h494 => ?_) (fun h494 => ?_)
  refine sQ (qA rfl) rfl (sD (nS (qT rfl (tS (tR ?_)))))
  refine sL (H3 rfl rfl (M4 hb2 (fun j v h => by simpa using h))) rfl rfl ?_
  (have hcc : C0 S = 33 := (by rw [hc]; exact E0 (b := 33) (by show _ = (33 : Int); omega)); refine H7 rfl (A0x b (K5 S) _ G0 hR1) (Pk.perm (by repeat (first | exact Pk.here | apply Pk.there))) rfl rfl (fun v G1 outs hle1 hh => ?_); obtain ⟨cs2, rfl, hR2, hG, rfl⟩ := hh; replace hG := hG.symm; subst hG; obtain ⟨c2, hc2⟩ : ∃ c2, C0 (K5 S) = c2 := ⟨_, rfl⟩; rw [hc2])
  (refine F3 (P1 rfl rfl rfl (by omega) (by unfold maxLen; omega) rfl) rfl ?_; rintro _ ⟨b503, rfl⟩)
  (refine sL (A2l (xs := [(c2.toNat : Int)]) rfl rfl rfl rfl rfl (A0k (by repeat first | exact mH | apply mT))) rfl rfl ?_; rw [A7y])
  refine sQ (Z5 rfl rfl) rfl ?_
  refine sE (D6 rfl) rfl (fun b506 => ?_)
  refine O6 ?_
  refine sD (nS (tS (tR ?_)))
  refine sL (H3 rfl rfl (M4 hb2 (fun j v h => by simpa using h))) rfl rfl ?_
  (refine H7 rfl (V5 b 58 _ cs2 G0 hR2) (Pk.perm (by repeat (first | exact Pk.here | apply Pk.there))) rfl rfl (fun v G9 outs hle9 hh => ?_); obtain ⟨cs3, rfl, hR3, hG, rfl⟩ := hh; replace hG := hG.symm; subst hG)
  refine sD (nS (tS (tR ?_)))
  refine sL (H3 rfl rfl (M4 hb2 (fun j v h => by simpa using h))) rfl rfl ?_
  (refine H7 rfl (A4v b 4 1 _ cs3 G0 (by omega) (by omega) hR3) (Pk.perm (by repeat (first | exact Pk.here | apply Pk.there))) rfl rfl (fun v G1 outs hle1 hh => ?_); obtain ⟨cst, tt1, ct, Ft, rfl, hRt, rfl, hst, hnt, hvt⟩ := hh; have hot := hst.R.one; obtain ⟨t1, t2, rfl⟩ := A4H hst; replace hb2 := hle1 _ _ hb2)
  refine sQ (A4 rfl) rfl ?_
  refine sS rfl rfl rfl rfl hot rfl ?_
  refine sD (nS (tS (tR ?_)))
  refine sL (H3 rfl rfl (M4 hb2 (fun j v h => by simpa using h))) rfl rfl ?_
  (refine H7 rfl (V5 b 46 _ cst G1 hRt) (Pk.perm (by repeat (first | exact Pk.here | apply Pk.there))) rfl rfl (fun v G9 outs hle9 hh => ?_); obtain ⟨csl, rfl, hRl, hG, rfl⟩ := hh; replace hG := hG.symm; subst hG)
  refine sD (nS (tS (tR (sQ (qM rfl) rfl ?_))))
  (refine F3 (N9 rfl rfl (hsub _ csl G1 hle1 hRl) (Pk.perm (by repeat (first | exact Pk.here | apply Pk.there))) rfl) rfl ?_; rintro _ ⟨v, G2, outs, rfl, hle2, csa, ta, ca, Fa, rfl, hRa, rfl, hsa, hna, hva⟩; have hoa := hsa.R.one; obtain ⟨x1, x2, x3, x4, x5, x6, x7, x8, x9, rfl⟩ := V1 hsa; replace hb2 := hle2 _ _ hb2)
  (refine F3 (P1 rfl rfl rfl (by omega) (by unfold maxLen; omega) rfl) rfl ?_; rintro _ ⟨b534, rfl⟩)
  (refine X7 (cs := [x1, x2, x3, x4, x5, x6, x7, x8, x9]) (by repeat (first | exact Pk.here | apply Pk.there)) (fun G7 hle7 hsl7 hno7 => ?_); obtain ⟨F7, f1, f2⟩ := A0f (k := 5) (num := 0) (lb := 0) (nm := ⟨#[c2]⟩) (ty := tt1) (fr := A3) ⟨by decide, by decide⟩ ⟨by decide, by decide⟩ ⟨by decide, by decide⟩ ((hle0.trans hle1).trans hle2) hle7 (hst.mono (fun b l h => B2.mono hle2 b l (B2.anti hle0 b l h))) (S7 _) ((A0g hsa).mono (B2.anti (hle0.trans hle1))) (A4J hnt List.nodup_nil hna (fun x hx y hy he => by cases hy) (A1H hst.inG hsa.inG) (fun x hx y hy he => by cases hx)) hsl7 hno7; obtain ⟨d1, d2⟩ := B1k (S := K5 S) rfl hvt rfl hva; rw [hc2] at d2)
  refine B1 ?_
  refine sS rfl rfl rfl rfl hot rfl ?_
  refine sD (nS (tT (rB (rS ?_))))
  refine C8 (outs := [.blk b _]) (rC rfl (A7 rfl rfl)) (.cons (by repeat (first | exact Pk.here | apply Pk.there)) .nil) ?_
  (have hcc : C0 S = 33 := (by rw [hc]; exact E0 (b := 33) (by show _ = (33 : Int); omega)); rw [B1c hcc]; exact ⟨csa, _, _, F7, rfl, by rw [d1]; exact hRa, rfl, f1, f2, d2⟩)
  refine sQ (qA rfl) rfl (sD (nS (cF rfl (tS (tR ?_)))))
  refine sP (I1 rfl rfl (by omega)) rfl rfl ?_
  refine sQ (qA rfl) rfl (sD (nS (cF rfl (tS (tR ?_)))))
  refine sP (I1 rfl rfl (by omega)) rfl rfl ?_
  refine sQ (qA rfl) rfl (sD (nS (cF rfl (tS (tR ?_)))))
  refine sB (qE rfl rfl) rfl rfl (fun h571 => ?_) (fun h571 => ?_)
  refine B1 ?_
  (refine F3 (N9 rfl rfl (hsub (K5 S) _ G0 (B4.refl _) hR1) (Pk.perm (by repeat (first | exact Pk.here | apply Pk.there))) rfl) rfl ?_; rintro _ ⟨v, G1, outs, rfl, hle1, csa, ta, ca, Fa, rfl, hRa, rfl, hsa, hna, hva⟩; have hoa := hsa.R.one; obtain ⟨x1, x2, x3, x4, x5, x6, x7, x8, x9, rfl⟩ := V1 hsa; replace hsa := hsa.mono (B2.anti hle0); replace hb2 := hle1 _ _ hb2; have hle01 := hle0.trans hle1)
  (refine F3 (P1 rfl rfl rfl (by omega) (by unfold maxLen; omega) rfl) rfl ?_; rintro _ ⟨b580, rfl⟩)
  (have hcc : C0 S = 36 := (by rw [hc]; exact E0 (b := 36) (by show _ = (36 : Int); omega)); refine X7 (cs := [x1, x2, x3, x4, x5, x6, x7, x8, x9]) (by repeat (first | exact Pk.here | apply Pk.there)) (fun G7 hle7 hsl7 hno7 => ?_); obtain ⟨F7, f1, f2⟩ := A0f (k := 11) (num := 0) (lb := 0) (nm := ⟨#[]⟩) (ty := A3) (fr := A3) ⟨by decide, by decide⟩ ⟨by decide, by decide⟩ ⟨by decide, by decide⟩ hle01 hle7 (S7 _) (S7 _) (A0g hsa) (by simpa using hna) hsl7 hno7; obtain ⟨d1, d2⟩ := A7x (S := K5 S) (k := 11) hva; refine I5 rfl (A1Q _ _ _ _ _) rfl rfl ?_)
  refine M7 rfl rfl rfl rfl (by exact f1.R.one) rfl (by repeat first | exact Sw.here | apply Sw.there) (by rfl) ?_
  refine sD (nS (tT (rB (rS ?_))))
  refine C8 (outs := [.blk b _]) (rC rfl (A7 rfl rfl)) (.cons (by repeat (first | exact Pk.here | apply Pk.there)) .nil) ?_
  (have hcc : C0 S = 36 := (by rw [hc]; exact E0 (b := 36) (by show _ = (36 : Int); omega)); rw [B1f hcc]; exact ⟨csa, _, _, F7, rfl, by rw [d1]; exact hRa, rfl, f1, f2, d2⟩)
  refine sQ (qA rfl) rfl (sD (nS (cF rfl (tS (tR ?_)))))
  refine sB (qE rfl rfl) rfl rfl (fun h596 => ?_) (fun h596 => ?_)
  refine B1 ?_
  (refine F3 (N9 rfl rfl (hsub (K5 S) _ G0 (B4.refl _) hR1) (Pk.perm (by repeat (first | exact Pk.here | apply Pk.there))) rfl) rfl ?_; rintro _ ⟨v, G1, outs, rfl, hle1, csa, ta, ca, Fa, rfl, hRa, rfl, hsa, hna, hva⟩; have hoa := hsa.R.one; obtain ⟨x1, x2, x3, x4, x5, x6, x7, x8, x9, rfl⟩ := V1 hsa; replace hsa := hsa.mono (B2.anti hle0); replace hb2 := hle1 _ _ hb2; have hle01 := hle0.trans hle1)
  (refine F3 (P1 rfl rfl rfl (by omega) (by unfold maxLen; omega) rfl) rfl ?_; rintro _ ⟨b605, rfl⟩)
  (have hcc : C0 S = 37 := (by rw [hc]; exact E0 (b := 37) (by show _ = (37 : Int); omega)); refine X7 (cs := [x1, x2, x3, x4, x5, x6, x7, x8, x9]) (by repeat (first | exact Pk.here | apply Pk.there)) (fun G7 hle7 hsl7 hno7 => ?_); obtain ⟨F7, f1, f2⟩ := A0f (k := 12) (num := 0) (lb := 0) (nm := ⟨#[]⟩) (ty := A3) (fr := A3) ⟨by decide, by decide⟩ ⟨by decide, by decide⟩ ⟨by decide, by decide⟩ hle01 hle7 (S7 _) (S7 _) (A0g hsa) (by simpa using hna) hsl7 hno7; obtain ⟨d1, d2⟩ := A7x (S := K5 S) (k := 12) hva; refine I5 rfl (A1Q _ _ _ _ _) rfl rfl ?_)
  refine M7 rfl rfl rfl rfl (by exact f1.R.one) rfl (by repeat first | exact Sw.here | apply Sw.there) (by rfl) ?_
  refine sD (nS (tT (rB (rS ?_))))
  refine C8 (outs := [.blk b _]) (rC rfl (A7 rfl rfl)) (.cons (by repeat (first | exact Pk.here | apply Pk.there)) .nil) ?_
  (have hcc : C0 S = 37 := (by rw [hc]; exact E0 (b := 37) (by show _ = (37 : Int); omega)); rw [B1g hcc]; exact ⟨csa, _, _, F7, rfl, by rw [d1]; exact hRa, rfl, f1, f2, d2⟩)
  refine sQ (qA rfl) rfl (sD (nS (cF rfl (tS (tR ?_)))))
  refine sB (qE rfl rfl) rfl rfl (fun h621 => ?_) (fun h621 => ?_)
  refine sQ (qA rfl) rfl (sD (nS (qT rfl (tS (tR ?_)))))
  refine sL (H3 rfl rfl (M4 hb2 (fun j v h => by simpa using h))) rfl rfl ?_
  refine sQ (qM rfl) rfl ?_
  (have hcc : C0 S = 40 := (by rw [hc]; exact E0 (b := 40) (by show _ = (40 : Int); omega)); have hP := B06 b (D2 n) 152 [] _ G0 hE0 hsub (K5 S) _ hR1; refine H7 rfl hP (Pk.perm (by repeat (first | exact Pk.here | apply Pk.there))) rfl rfl (fun v G1 outs hle1 hh => ?_); obtain ⟨csa, ta, ca, Fa, rfl, hRa, rfl, hsa, hna, hva⟩ := hh; have hoa := hsa.R.one; obtain ⟨x1, x2, x3, x4, x5, x6, x7, x8, x9, rfl⟩ := V1 hsa; have hrnd : True := trivial)
  refine sS rfl rfl rfl rfl hoa rfl ?_
  refine sD (nS (tT (rB (rS ?_))))
  refine C8 (outs := [.blk b _]) (rC rfl (A7 rfl rfl)) (.cons (by repeat (first | exact Pk.here | apply Pk.there)) .nil) ?_
  (rw [B1h hcc]; exact ⟨csa, ta, _, Fa, rfl, hRa, rfl, hsa.mono (B2.anti hle0), hna, hva⟩)
  refine C1 ?_
  refine sL (H3 rfl rfl (M4 hb2 (fun j v h => by simpa using h))) rfl rfl ?_
  refine sQ (A6 rfl) rfl ?_
  refine D7 ?_
  refine C8 (outs := [.blk b _]) (rC rfl (A7 rfl rfl)) (.cons (by repeat (first | exact Pk.here | apply Pk.there)) .nil) ?_
  (rw [A4K (n := n) (by rw [hc]; omega) (by rw [hc]; unfold D3; omega) (by rw [hc]; exact D8 (by show _ ≠ (84 : Int); omega)) (by rw [hc]; exact D8 (by show _ ≠ (70 : Int); omega)) (by rw [hc]; exact D8 (by show _ ≠ (33 : Int); omega)) (by rw [hc]; exact D8 (by show _ ≠ (123 : Int); omega)) (by rw [hc]; exact D8 (by show _ ≠ (91 : Int); omega)) (by rw [hc]; exact D8 (by show _ ≠ (36 : Int); omega)) (by rw [hc]; exact D8 (by show _ ≠ (37 : Int); omega)) (by rw [hc]; exact D8 (by show _ ≠ (40 : Int); omega))]; exact ⟨_, _, _, [], rfl, hnB, rfl, A1d _ ⟨#[]⟩ (k := 0) (num := 0) ⟨by decide, by decide⟩ ⟨by decide, by decide⟩, List.nodup_nil, fun x hx => by cases hx⟩)
theorem A7A (k : Nat) : strOfNums [T5 k] = (⟨[UInt8.ofNat (48 + k % 10)].toArray⟩ : ByteArray) := by
 have : (T5 k).toNat = 48 + k % 10 := by unfold T5; omega
 simp [strOfNums, this]
theorem B1n (a b : List UInt8) : (⟨a.toArray⟩ : ByteArray) ++ ⟨b.toArray⟩ = ⟨(a ++ b).toArray⟩ := by
 apply ByteArray.ext; simp
theorem B1o {k : Nat} {out : ByteArray} (h : 9 < k) : (⟨(Lib.decDigits (k / 10)).toArray⟩ : ByteArray) ++ (strOfNums [T5 k] ++ out) = ⟨(Lib.decDigits k).toArray⟩ ++ out := by
 have e : (⟨(Lib.decDigits k).toArray⟩ : ByteArray) = ⟨(Lib.decDigits (k / 10)).toArray⟩ ++ ⟨[UInt8.ofNat (48 + k % 10)].toArray⟩ := by
  rw [B1n (Lib.decDigits (k / 10))]
  congr 2
  rw [Lib.decDigits, dif_neg (by omega)]
 rw [e, A7A, ByteArray.append_assoc]
theorem B1p {k : Nat} {out : ByteArray} (h : ¬9 < k) : strOfNums [T5 k] ++ out = ⟨(Lib.decDigits k).toArray⟩ ++ out := by
 rw [A7A, Lib.decDigits, dif_pos (by omega), Nat.mod_eq_of_lt (by omega)]
theorem B1q {k : Nat} (h : ¬9 < k) : T5 k = 48 + (k : Int) := by unfold T5; omega
theorem B1r (k : Nat) (hk : k < 10000) (G : IM) : Fn Tryz.prog 89 [.int .i64 (k : Int)] [] G (H4 (.string ⟨(Lib.decDigits k).toArray⟩) G) := by
 refine B3 Tryz.func89 rfl Tryz.ntmps89 Tryz.results89 rfl ?_
 intro w0
 refine C1 ?_
 refine sP (M8 rfl rfl (by omega)) rfl rfl ?_
 refine C1 ?_
 refine sP (M8 rfl rfl (by omega)) rfl rfl ?_
 refine D7 ?_
 refine D0 (O9 (fun (x : Nat × ByteArray) => ⟨[(0, .int .i64 (x.1 : Int)), (2, .string ⟨#[]⟩), (3, .string x.2)], [], G⟩) (fun x => x.1 < 10000 ∧ x.1 + x.2.size < 10020 ∧ (⟨(Lib.decDigits x.1).toArray⟩ : ByteArray) ++ x.2 = ⟨(Lib.decDigits k).toArray⟩) (fun x => x.1) (k, ⟨#[]⟩) ?_ ?_ ?_)
 (simp only [T9]; exact I6)
 (dsimp only; exact ⟨hk, by have : (⟨#[]⟩ : ByteArray).size = 0 := rfl; omega, ByteArray.append_empty⟩)
 (rintro ⟨j, out⟩ ⟨hj, hsz, hd⟩; simp only [] at hj hsz hd ⊢)
 refine tS (tS (tR (sQ (qM rfl) rfl ?_)))
 refine sB (Z1 rfl rfl) rfl rfl (fun h41 => ?_) (fun h41 => ?_)
 refine sD (nS (qT rfl (tK (nS ?_))))
 refine D0 ?_
 refine tS (tR (sQ (qM rfl) rfl ?_))
 refine sP (A5s (n := 10) rfl rfl (by omega)) rfl rfl ?_
 refine sP (K2 rfl rfl (by omega) (by omega)) rfl rfl ?_
 refine sP (A3O rfl rfl rfl (by omega) (by omega)) rfl rfl ?_
 (refine F3 (P1 rfl rfl rfl (by omega) (by unfold maxLen; omega) rfl) rfl ?_; rintro _ ⟨b54, rfl⟩)
 refine sL (A2l (xs := [T5 j]) rfl rfl rfl rfl rfl (A0k (by repeat first | exact mH | apply mT))) rfl rfl ?_
 refine sQ (qM rfl) rfl ?_
 (have hs1 := strOfNums_size [T5 j]; have hs2 : [T5 j].length = 1 := rfl; refine sP (A2c rfl rfl (by omega)) rfl rfl ?_)
 refine sQ (qA rfl) rfl (sD (nS (tR (sQ (qM rfl) rfl ?_))))
 refine sP (A5t (n := 10) rfl rfl (by omega) (by omega)) rfl rfl ?_
 refine sQ (qA rfl) rfl (sD (A1k ?_))
 refine P6 (j / 10, strOfNums [T5 j] ++ out) ?_ ?_ ?_
 (simp only [T9]; exact I6)
 (dsimp only; exact ⟨by omega, by (rw [ByteArray.size_append]; omega), by rw [← hd]; exact B1o (by omega)⟩)
 (show j / 10 < j; omega)
 refine D7 ?_
 refine sP (K2 rfl rfl (by omega) (by omega)) rfl rfl ?_
 refine sP (A3O rfl rfl rfl (by omega) (by omega)) rfl rfl ?_
 (refine F3 (P1 rfl rfl rfl (by omega) (by unfold maxLen; omega) rfl) rfl ?_; rintro _ ⟨b84, rfl⟩)
 (have hs9 := B1q (k := j) (by omega); refine sL (A2l (xs := [48 + (j : Int)]) rfl rfl rfl rfl rfl (A0k (by repeat first | exact mH | apply mT))) rfl rfl ?_; rw [← hs9])
 refine sQ (qM rfl) rfl ?_
 (have hs1 := strOfNums_size [T5 j]; have hs2 : [T5 j].length = 1 := rfl; refine sP (A2c rfl rfl (by omega)) rfl rfl ?_)
 refine sQ (qA rfl) rfl (sD (nS (tT (F0 (rT rfl) ?_))))
 exact ⟨rfl, by rw [B1p (by omega), hd], rfl⟩
section catlaws
variable {P : Program} {Γ : E6} {env : F9} {hp : List A1} {G : IM} {ty : TypeId}
theorem B1s (a b : A0) : A9 a ++ A9 b = A9 (a ++ b) := by
 apply ByteArray.ext
 simp [A9]
theorem B5 {x y : Operand} {t t' : TypeId} {a b : A0} (hx : evo env x = some (.string (A9 a))) (hy : evo env y = some (.string (A9 b))) (h : a.length + b.length ≤ 9223372036854775807) :
  C9 P Γ ⟨env, hp, G⟩ (.binOp .add t x y t') ty (.string (A9 (a ++ b))) := by
 have := A2c (P := P) (Γ := Γ) (hp := hp) (G := G) (t := t) (t' := t') (ty := ty) hx hy (by rw [I9, I9]; exact h)
 rwa [B1s] at this
end catlaws
theorem A3i (k : Int) (a b : Ty) : K3 (.mk k [a, b]) = 40 :: (K3 a ++ (V4 k :: (K3 b ++ [41]))) := by simp [K3, A09, tyN]
theorem A7B (k : Int) : K3 (.mk k []) = [V4 k] := by simp [K3, A09, tyN]
theorem B1t : ∀ (n : Nat) (t : Ty) (d : Int), E1 t d = true → 5 - d ≤ n → (K3 t).length + 3 ≤ 2 ^ (n + 1) := by
 intro n
 induction n with
 | zero => intro t d h hn; have := (A1b h).1; omega
 | succ m ih =>
  intro t d h hn
  obtain ⟨hd, hc⟩ := A1b h
  rcases hc with ⟨k, hk, rfl⟩ | ⟨k, a, b, hk, rfl, ha, hb⟩
  ·rw [A7B]
   have : 2 ^ 2 ≤ 2 ^ (m + 1 + 1) := Nat.pow_le_pow_right (by decide) (by omega)
   simp only [List.length_cons, List.length_nil]; omega
  ·have h1 := ih a (d + 1) ha (by omega)
   have h2 := ih b (d + 1) hb (by omega)
   rw [A3i]
   rw [Nat.pow_succ]
   simp only [List.length_cons, List.length_append, List.length_nil]; omega
theorem T7 {t : Ty} {d : Int} (h : E1 t d = true) (hd : 1 ≤ d) : (K3 t).length ≤ 29 := by
 have := B1t 4 t d h (by omega)
 have e : 2 ^ (4 + 1) = 32 := rfl
 omega
theorem B1u {j : Nat} (h : j < 5) : (A9 [63, 73, 66, 62, 42]).extract j (j + 1) = A9 [V4 ((j : Int) + 1)] := by
 rw [A0w]
 have : j = 0 ∨ j = 1 ∨ j = 2 ∨ j = 3 ∨ j = 4 := by omega
 rcases this with rfl | rfl | rfl | rfl | rfl <;> rfl
theorem B1v (j : Nat) (hj : j < 5) (G : IM) : Fn Tryz.prog 148 [.int .i64 ((j : Int) + 1)] [] G (H4 (.string (A9 [V4 ((j : Int) + 1)])) G) := by
 refine B3 Tryz.func148 rfl Tryz.ntmps148 Tryz.results148 rfl ?_
 intro w0
 refine C6 ?_
 (refine sP (A0i rfl rfl (by omega) (by omega)) rfl rfl ?_; rw [show (j : Int) + 1 - 1 = (j : Int) by omega])
 refine sQ (qM rfl) rfl ?_
 (refine sP (A0i rfl rfl (by omega) (by omega)) rfl rfl ?_; rw [show (j : Int) + 1 - 1 = (j : Int) by omega])
 refine sP (J5 (n := 1) rfl rfl (by omega)) rfl rfl ?_
 (refine sP (A0O (s := A9 [63, 73, 66, 62, 42]) (l := j) (h := j + 1) rfl rfl rfl rfl (by omega) (by rw [I9]; simp only [List.length_cons, List.length_nil]; omega)) rfl rfl ?_; rw [B1u hj])
 refine sQ (qA rfl) rfl (sD (nS (tT (F0 (rT rfl) ?_))))
 (exact ⟨rfl, rfl, rfl⟩)
theorem A4L (k : Int) (hk : k = 1 ∨ k = 2 ∨ k = 3 ∨ k = 4 ∨ k = 5) (G : IM) : Fn Tryz.prog 148 [.int .i64 k] [] G (H4 (.string (A9 [V4 k])) G) := by
 obtain ⟨j, hj, rfl⟩ : ∃ j : Nat, j < 5 ∧ k = (j : Int) + 1 := ⟨(k - 1).toNat, by omega, by omega⟩
 exact B1v j hj G
theorem A3j : ∀ (t : Ty) (d : Int) (G : IM) (cells : List Value), E1 t d = true → 1 ≤ d → C5 G t cells → Fn Tryz.prog 86 [.agg ⟨cells⟩] [] G (H4 (.string (A9 (K3 t))) G) := by
 refine Ty.ind fun k ks ih d G cells hs hd hr => ?_
 obtain ⟨hd4, hc⟩ := A1b hs
 obtain ⟨p, c, es, rfl, hk, hsl, hkl⟩ := hr.open
 simp only [Ty.k, Ty.ks] at hk hsl hkl ⊢
 have hn := hsl.le
 rcases hc with ⟨k2, hkk, he⟩ | ⟨k2, a, b, hkk, he, ha, hb⟩
 ·cases he
  refine B3 Tryz.func86 rfl Tryz.ntmps86 Tryz.results86 rfl ?_
  intro w0
  refine tS (tR ?_)
  refine sE (J6 rfl rfl) rfl (fun b3 => ?_)
  refine C1 ?_
  refine sB (qE rfl rfl) rfl rfl (fun h13 => ?_) (fun h13 => ?_)
  refine B1 ?_
  refine I5 rfl ((A4L k (by omega) _)) rfl rfl ?_
  refine sQ (qA rfl) rfl (sD (nS (tT (rS (F0 (rT rfl) ?_)))))
  (rw [A7B]; exact ⟨rfl, rfl, rfl⟩)
  refine sD (nS (cF rfl (tK (nS (tS ?_)))))
  (exfalso; have hz : (([] : List Ty).length : Int) = 0 := rfl; omega)
 ·cases he
  have la := T7 ha (by omega)
  have lb := T7 hb (by omega)
  obtain ⟨bx, ox, q0, d0, rfl, hat0, hre0, hg0⟩ := hsl.kidTy hkl (i := 0) (by simp) (by simp)
  obtain ⟨_, _, q1, d1, hp1, hat1, hre1, hg1⟩ := hsl.kidTy hkl (i := 1) (by simp) (by simp)
  cases hp1
  have h0 := ih a (by simp) (d + 1) G _ ha (by omega) hre0
  have h1 := ih b (by simp) (d + 1) G _ hb (by omega) hre1
  refine B3 Tryz.func86 rfl Tryz.ntmps86 Tryz.results86 rfl ?_
  intro w0
  refine tS (tR ?_)
  refine sE (J6 rfl rfl) rfl (fun b3 => ?_)
  refine C1 ?_
  refine sB (qE rfl rfl) rfl rfl (fun h13 => ?_) (fun h13 => ?_)
  refine B1 ?_
  refine I5 rfl ((A4L k (by omega) _)) rfl rfl ?_
  refine sQ (qA rfl) rfl (sD (nS (tT (rS (F0 (rT rfl) ?_)))))
  (exfalso; simp at *)
  refine sD (nS (cF rfl (tK (nS (tS ?_)))))
  refine K7 K9 rfl ?_
  refine I0 (i := 0) (l' := [tt,ff,ff,ff,ff,ff,ff,ff,ff,ff,ff,ff,ff,ff,ff,ff,ff,ff]) rfl E9 (A4 rfl) rfl (by kernel_rfl) rfl rfl ?_
  refine aL 1 rfl (C2 rfl rfl) rfl ?_
  refine aP 2 rfl (H2 (j := 0) rfl rfl rfl (by simp)) rfl ?_
  refine aL 3 rfl (D5 rfl rfl (hat0 _) rfl) rfl ?_
  refine aP 6 rfl (A4 rfl) rfl ?_
  refine aL 7 rfl (C2 rfl rfl) rfl ?_
  refine aP 10 rfl (A4 rfl) rfl ?_
  refine aL 11 rfl (C2 rfl rfl) rfl ?_
  refine aP 12 rfl (H2 (j := 1) rfl rfl rfl (by simp)) rfl ?_
  refine aL 13 rfl (D5 rfl rfl (hat1 _) rfl) rfl ?_
  refine B6 4 ?_
  refine N5 rfl rfl (h0) rfl rfl rfl ?_
  refine aP 5 rfl (B5 rfl rfl (by simp only [List.length_append, List.length_cons, List.length_nil]; omega)) rfl ?_
  refine B6 8 ?_
  refine N5 rfl rfl ((A4L k (by omega) _)) rfl rfl rfl ?_
  refine aP 9 rfl (B5 rfl rfl (by simp only [List.length_append, List.length_cons, List.length_nil]; omega)) rfl ?_
  refine B6 14 ?_
  refine N5 rfl rfl (h1) rfl rfl rfl ?_
  refine aP 15 rfl (B5 rfl rfl (by simp only [List.length_append, List.length_cons, List.length_nil]; omega)) rfl ?_
  refine aP 16 rfl (B5 rfl rfl (by simp only [List.length_append, List.length_cons, List.length_nil]; omega)) rfl ?_
  refine aP 17 rfl (qA rfl) rfl ?_
  refine R5 (nS (tT (F0 (rT rfl) ?_)))
  (rw [A3i]; exact ⟨rfl, by simp, rfl⟩)
theorem A12 : ∀ (t : Ty) (d : Int) (G : IM) (cells : List Value), E1 t d = true → 1 ≤ d → C5 G t cells → Fn Tryz.prog 90 [.agg ⟨cells⟩] [] G (H4 (.string (A9 (K3 t))) G) := by
 refine Ty.ind fun k ks ih d G cells hs hd hr => ?_
 obtain ⟨hd4, hc⟩ := A1b hs
 obtain ⟨p, c, es, rfl, hk, hsl, hkl⟩ := hr.open
 simp only [Ty.k, Ty.ks] at hk hsl hkl ⊢
 have hn := hsl.le
 rcases hc with ⟨k2, hkk, he⟩ | ⟨k2, a, b, hkk, he, ha, hb⟩
 ·cases he
  refine B3 Tryz.func90 rfl Tryz.ntmps90 Tryz.results90 rfl ?_
  intro w0
  refine tS (tR ?_)
  refine sE (J6 rfl rfl) rfl (fun b3 => ?_)
  refine M0 ?_
  refine D0 (tS (tR (sB (qE rfl rfl) rfl rfl (fun h17 => ?_) (fun h17 => ?_))))
  refine D9 ?_
  (obtain rfl : k = 1 := (by omega); exact ⟨rfl, rfl, rfl⟩)
  refine sQ (qA rfl) rfl (sD (nS (cF rfl (tS (tR ?_)))))
  refine sB (qE rfl rfl) rfl rfl (fun h38 => ?_) (fun h38 => ?_)
  refine D9 ?_
  (obtain rfl : k = 2 := (by omega); exact ⟨rfl, rfl, rfl⟩)
  refine sQ (qA rfl) rfl (sD (nS (cF rfl (tS (tR ?_)))))
  refine sP (A1F rfl rfl (by omega)) rfl rfl ?_
  refine D9 ?_
  (obtain rfl : k = 3 := (by omega); exact ⟨rfl, rfl, rfl⟩)
 ·cases he
  have la := T7 ha (by omega)
  have lb := T7 hb (by omega)
  obtain ⟨bx, ox, q0, d0, rfl, hat0, hre0, hg0⟩ := hsl.kidTy hkl (i := 0) (by simp) (by simp)
  obtain ⟨_, _, q1, d1, hp1, hat1, hre1, hg1⟩ := hsl.kidTy hkl (i := 1) (by simp) (by simp)
  cases hp1
  have h0 := ih a (by simp) (d + 1) G _ ha (by omega) hre0
  have h1 := ih b (by simp) (d + 1) G _ hb (by omega) hre1
  refine B3 Tryz.func90 rfl Tryz.ntmps90 Tryz.results90 rfl ?_
  intro w0
  refine tS (tR ?_)
  refine sE (J6 rfl rfl) rfl (fun b3 => ?_)
  refine M0 ?_
  refine D0 ?_
  refine tS (tR ?_)
  refine sP (I1 rfl rfl (by omega)) rfl rfl ?_
  refine sQ (qA rfl) rfl (sD (nS (cF rfl (tS (tR ?_)))))
  refine sP (I1 rfl rfl (by omega)) rfl rfl ?_
  refine sQ (qA rfl) rfl (sD (nS (cF rfl (tS (tR ?_)))))
  refine sP (I1 rfl rfl (by omega)) rfl rfl ?_
  refine W0 ?_
  refine sB (qE rfl rfl) rfl rfl (fun h49 => ?_) (fun h49 => ?_)
  refine sD (nS (qT rfl (tR (sQ (qA rfl) rfl (sD (nS (tS ?_)))))))
  refine K7 K9 rfl ?_
  refine I0 (i := 0) (l' := [tt,ff,ff,ff,ff,ff,ff,ff,ff,ff,ff,ff,ff,ff,ff,ff]) rfl E9 (A4 rfl) rfl (by kernel_rfl) rfl rfl ?_
  refine aL 1 rfl (C2 rfl rfl) rfl ?_
  refine aP 2 rfl (H2 (j := 0) rfl rfl rfl (by simp)) rfl ?_
  refine aL 3 rfl (D5 rfl rfl (hat0 _) rfl) rfl ?_
  refine aP 6 rfl (qM rfl) rfl ?_
  refine aP 8 rfl (A4 rfl) rfl ?_
  refine aL 9 rfl (C2 rfl rfl) rfl ?_
  refine aP 10 rfl (H2 (j := 1) rfl rfl rfl (by simp)) rfl ?_
  refine aL 11 rfl (D5 rfl rfl (hat1 _) rfl) rfl ?_
  refine B6 4 ?_
  refine N5 rfl rfl (h0) rfl rfl rfl ?_
  refine aP 5 rfl (B5 rfl rfl (by simp only [List.length_append, List.length_cons, List.length_nil]; omega)) rfl ?_
  refine aP 7 rfl (B5 rfl rfl (by simp only [List.length_append, List.length_cons, List.length_nil]; omega)) rfl ?_
  refine B6 12 ?_
  refine N5 rfl rfl (h1) rfl rfl rfl ?_
  refine aP 13 rfl (B5 rfl rfl (by simp only [List.length_append, List.length_cons, List.length_nil]; omega)) rfl ?_
  refine aP 14 rfl (B5 rfl rfl (by simp only [List.length_append, List.length_cons, List.length_nil]; omega)) rfl ?_
  refine aP 15 rfl (qA rfl) rfl ?_
  refine R5 (nS (tT (F0 (rT rfl) ?_)))
  (obtain rfl : k = 5 := (by omega); rw [A3i]; exact ⟨rfl, by simp [V4], rfl⟩)
  refine sD (nS (cF rfl (tK (nS (tS ?_)))))
  refine K7 K9 rfl ?_
  refine I0 (i := 0) (l' := [tt,ff,ff,ff,ff,ff,ff,ff,ff,ff,ff,ff,ff,ff,ff,ff]) rfl E9 (A4 rfl) rfl (by kernel_rfl) rfl rfl ?_
  refine aL 1 rfl (C2 rfl rfl) rfl ?_
  refine aP 2 rfl (H2 (j := 0) rfl rfl rfl (by simp)) rfl ?_
  refine aL 3 rfl (D5 rfl rfl (hat0 _) rfl) rfl ?_
  refine aP 6 rfl (qM rfl) rfl ?_
  refine aP 8 rfl (A4 rfl) rfl ?_
  refine aL 9 rfl (C2 rfl rfl) rfl ?_
  refine aP 10 rfl (H2 (j := 1) rfl rfl rfl (by simp)) rfl ?_
  refine aL 11 rfl (D5 rfl rfl (hat1 _) rfl) rfl ?_
  refine B6 4 ?_
  refine N5 rfl rfl (h0) rfl rfl rfl ?_
  refine aP 5 rfl (B5 rfl rfl (by simp only [List.length_append, List.length_cons, List.length_nil]; omega)) rfl ?_
  refine aP 7 rfl (B5 rfl rfl (by simp only [List.length_append, List.length_cons, List.length_nil]; omega)) rfl ?_
  refine B6 12 ?_
  refine N5 rfl rfl (h1) rfl rfl rfl ?_
  refine aP 13 rfl (B5 rfl rfl (by simp only [List.length_append, List.length_cons, List.length_nil]; omega)) rfl ?_
  refine aP 14 rfl (B5 rfl rfl (by simp only [List.length_append, List.length_cons, List.length_nil]; omega)) rfl ?_
  refine aP 15 rfl (qA rfl) rfl ?_
  refine R5 (nS (tT (F0 (rT rfl) ?_)))
  (obtain rfl : k = 4 := (by omega); rw [A3i]; exact ⟨rfl, by simp [V4], rfl⟩)
theorem U3 : ∀ (ks : List Tm) (i : Nat) (h : i < ks.length), (N0 ks).getD i [] = A2 ks[i]
 | t :: ts, 0, _ => by rw [N0]; rfl
 | t :: ts, i + 1, h => by rw [N0]; exact U3 ts i (by simpa using h)
theorem A7C {k : Int} {nm : ByteArray} {num : Int} {ty fr : Ty} {lb : Int} {ks : List Tm} (hk : k = 5) (h : 1 ≤ ks.length) : A2 (.mk k nm num ty fr lb ks) = ([33] : A0) ++ nm.data.toList ++ ([58] : A0) ++ K3 ty ++ ([46] : A0) ++ A2 (ks[0]'(by omega)) := by
 subst hk
 rw [A2, H8]
 rw [U3 ks 0 (by omega)]
 simp
theorem A7D {k : Int} {nm : ByteArray} {num : Int} {ty fr : Ty} {lb : Int} {ks : List Tm} (hk : k = 6) (h : 2 ≤ ks.length) : A2 (.mk k nm num ty fr lb ks) = ([40] : A0) ++ A2 (ks[0]'(by omega)) ++ ([32] : A0) ++ A2 (ks[1]'(by omega)) ++ ([41] : A0) := by
 subst hk
 rw [A2, H8]
 rw [U3 ks 0 (by omega)]
 rw [U3 ks 1 (by omega)]
 simp
theorem A7E {k : Int} {nm : ByteArray} {num : Int} {ty fr : Ty} {lb : Int} {ks : List Tm} (hk : k = 7) (h : 2 ≤ ks.length) : A2 (.mk k nm num ty fr lb ks) = ([40] : A0) ++ A2 (ks[0]'(by omega)) ++ ([43] : A0) ++ A2 (ks[1]'(by omega)) ++ ([41] : A0) := by
 subst hk
 rw [A2, H8]
 rw [U3 ks 0 (by omega)]
 rw [U3 ks 1 (by omega)]
 simp
theorem A7F {k : Int} {nm : ByteArray} {num : Int} {ty fr : Ty} {lb : Int} {ks : List Tm} (hk : k = 8) (h : 2 ≤ ks.length) : A2 (.mk k nm num ty fr lb ks) = ([40] : A0) ++ A2 (ks[0]'(by omega)) ++ ([60] : A0) ++ A2 (ks[1]'(by omega)) ++ ([41] : A0) := by
 subst hk
 rw [A2, H8]
 rw [U3 ks 0 (by omega)]
 rw [U3 ks 1 (by omega)]
 simp
theorem A7G {k : Int} {nm : ByteArray} {num : Int} {ty fr : Ty} {lb : Int} {ks : List Tm} (hk : k = 9) (h : 3 ≤ ks.length) : A2 (.mk k nm num ty fr lb ks) = ([123] : A0) ++ A2 (ks[0]'(by omega)) ++ ([63] : A0) ++ A2 (ks[1]'(by omega)) ++ ([58] : A0) ++ A2 (ks[2]'(by omega)) ++ ([125] : A0) := by
 subst hk
 rw [A2, H8]
 rw [U3 ks 0 (by omega)]
 rw [U3 ks 1 (by omega)]
 rw [U3 ks 2 (by omega)]
 simp
theorem A7H {k : Int} {nm : ByteArray} {num : Int} {ty fr : Ty} {lb : Int} {ks : List Tm} (hk : k = 10) (h : 2 ≤ ks.length) : A2 (.mk k nm num ty fr lb ks) = ([91] : A0) ++ A2 (ks[0]'(by omega)) ++ ([44] : A0) ++ A2 (ks[1]'(by omega)) ++ ([93] : A0) := by
 subst hk
 rw [A2, H8]
 rw [U3 ks 0 (by omega)]
 rw [U3 ks 1 (by omega)]
 simp
theorem A7I {k : Int} {nm : ByteArray} {num : Int} {ty fr : Ty} {lb : Int} {ks : List Tm} (hk : k = 11) (h : 1 ≤ ks.length) : A2 (.mk k nm num ty fr lb ks) = ([36] : A0) ++ A2 (ks[0]'(by omega)) := by
 subst hk
 rw [A2, H8]
 rw [U3 ks 0 (by omega)]
 simp
theorem A7J {k : Int} {nm : ByteArray} {num : Int} {ty fr : Ty} {lb : Int} {ks : List Tm} (hk : k = 12) (h : 1 ≤ ks.length) : A2 (.mk k nm num ty fr lb ks) = ([37] : A0) ++ A2 (ks[0]'(by omega)) := by
 subst hk
 rw [A2, H8]
 rw [U3 ks 0 (by omega)]
 simp
theorem A7K {k : Int} {nm : ByteArray} {num : Int} {ty fr : Ty} {lb : Int} {ks : List Tm} (hk : k = 13) (h : 1 ≤ ks.length) : A2 (.mk k nm num ty fr lb ks) = ([40] : A0) ++ A2 (ks[0]'(by omega)) ++ ([58] : A0) ++ K3 ty ++ ([41] : A0) := by
 subst hk
 rw [A2, H8]
 rw [U3 ks 0 (by omega)]
 simp
theorem A7L {k : Int} {nm : ByteArray} {num : Int} {ty fr : Ty} {lb : Int} {ks : List Tm} (hk : k = 14) (h : 1 ≤ ks.length) : A2 (.mk k nm num ty fr lb ks) = ([40] : A0) ++ A2 (ks[0]'(by omega)) ++ ([58] : A0) ++ K3 fr ++ ([126] : A0) ++ K3 ty ++ ([35] : A0) ++ Lib.itoa lb ++ ([41] : A0) := by
 subst hk
 rw [A2, H8]
 rw [U3 ks 0 (by omega)]
 simp
theorem A13 {n : Int} (h0 : -999 ≤ n) (h1 : n ≤ 999) : (Lib.itoa n).length ≤ 4 := by
 by_cases hn : n < 0
 ·rw [A4j hn h0]
  have := (A1c (u := n.natAbs) (by omega)).2.2.1
  simp only [List.length_cons]; omega
 ·rw [A2v (by omega) h1]
  have := (A1c (u := n.toNat) (by omega)).2.2.1
  omega
theorem A7M (D N : Int) : ∀ (e : Tm) (d : Int), M5 D N e d = true → (A2 e).length ≤ 100 * D1 e := by
 refine Tm.ind fun k nm num ty fr lb ks ih d h => ?_
 obtain ⟨hd, _, h3, h4⟩ := A04 h
 have I : ∀ x ∈ ks, (A2 x).length ≤ 100 * D1 x := fun x hx => by
  obtain ⟨i, hi, rfl⟩ := List.getElem_of_mem hx
  exact ih _ (List.getElem_mem hi) (d + 1) ((A0e D N ks _).1 h4 i hi)
 have hf := A4m h3
 have e0 : ∀ x : Tm, x = .mk k nm num ty fr lb ks → x.ks = ks := fun x hx => by rw [hx]; rfl
 generalize hX : Tm.mk k nm num ty fr lb ks = X at hf e0 ⊢
 have I : ∀ x ∈ X.ks, (A2 x).length ≤ 100 * D1 x := by rw [e0 X rfl]; exact I
 clear h h3 h4 hd ih e0 hX
 cases hf with
 | var b h1 h2 => simp [A2, H8, D1, F8]
 | num n h1 h2 =>
  have := A13 (n := n) (by omega) h2
  simp [A2, H8, D1, F8]; omega
 | tru => simp [A2, H8, nd, D1, F8]
 | fls => simp [A2, H8, nd, D1, F8]
 | lam b ty a h1 h2 ht =>
  have ha := I a (by simp [Tm.ks])
  have hl := T7 ht (Int.le_refl _)
  simp [A2, N0, H8, D1, F8]; omega
 | bin k a b hk =>
  have ha := I a (by simp [Tm.ks, nd])
  have hb := I b (by simp [Tm.ks, nd])
  rcases hk with rfl | rfl | rfl <;> (simp [A2, N0, H8, nd, D1, F8]; omega)
 | ite a b c =>
  have ha := I a (by simp [Tm.ks, nd])
  have hb := I b (by simp [Tm.ks, nd])
  have hc := I c (by simp [Tm.ks, nd])
  simp [A2, N0, H8, nd, D1, F8]; omega
 | pair a b =>
  have ha := I a (by simp [Tm.ks, nd])
  have hb := I b (by simp [Tm.ks, nd])
  simp [A2, N0, H8, nd, D1, F8]; omega
 | un k a hk =>
  have ha := I a (by simp [Tm.ks, nd])
  rcases hk with rfl | rfl <;> (simp [A2, N0, H8, nd, D1, F8]; omega)
 | asc ty a ht =>
  have ha := I a (by simp [Tm.ks])
  have hl := T7 ht (Int.le_refl _)
  simp [A2, N0, H8, D1, F8]; omega
 | cast ty fr lb a ht hf hl1 hl2 =>
  have ha := I a (by simp [Tm.ks])
  have hl := T7 ht (Int.le_refl _)
  have hl' := T7 hf (Int.le_refl _)
  have := A13 hl1 hl2
  simp [A2, N0, H8, D1, F8]; omega
theorem A3k {ks : List Tm} {i : Nat} (h : i < ks.length) : D1 ks[i] ≤ F8 ks := by
 have h1 := A6r ks (i + 1)
 rw [A6q h] at h1
 omega
theorem A3l {cs : List Value} {o : Nat} {u v : Value} (h : cs[o]? = some u) (h2 : cs[o + 1]? = some v) : ∀ j w, [u, v][j]? = some w → cs[o + j]? = some w := by
 intro j w hj
 match j, hj with
 | 0, hj => simpa using hj ▸ h
 | 1, hj => simpa using hj ▸ h2
 | j + 2, hj => simp at hj
theorem A7N (n : Int) (G : IM) (h : A0d G) (h0 : -999 ≤ n) (h1 : n ≤ 999) : Fn Tryz.prog 85 [.int .i64 n] [] G (H4 (.string (A9 (Lib.itoa n))) G) := by
 refine ⟨fun w hw => ?_⟩
 have ht : Lib.TabIs Tryz.prog w "internal/strconv.uint64pow10" .u64 Lib.pow10Tab := by
  obtain ⟨g, hg, hG⟩ := h
  obtain ⟨e, f, hh⟩ := hw.inn g _ hG
  unfold Lib.TabIs World.var?
  rw [hg]
  simp only [Option.bind_some, hh]
 refine (Tryz.strconv_Itoa n (by omega) (by omega) w ht).mono ?_
 rintro e w' ⟨rfl, k, os, rfl⟩
 exact ⟨_, G, [], rfl, A9o hw k os, rfl, rfl, rfl⟩
def A1A (l : A0) : IM → Value → List A1 → Prop := J1 fun _ v => v = .string (A9 l)
theorem B1w (b1 : Nat) (i : Nat) (G : IM) (bo oo cc n : Nat) (v0 v1 v2 v3 v4 v5 v6 v7 : Value) (e : List Value) (l : A0) (hb : G b1 = some [v0, v1, v2, v3, v4, v5, v6, v7, .slice (some ⟨bo, oo, none⟩) n cc]) (hi : i < n) (hn : n ≤ 100) (hl : e.length = 9) (hat : ∀ hp, At hp G bo (oo + i * 9) e)
  (ih : Fn Tryz.prog 40 [.agg ⟨e⟩] [] G (A1A l)) : Fn Tryz.prog 84 [.int .i64 (i : Int), .pointer (some ⟨b1, 0, none⟩)] [] G (A1A l) := by
 refine B3 Tryz.func84 rfl Tryz.ntmps84 Tryz.results84 rfl ?_
 intro w0
 refine C6 ?_
 refine sL (H3 rfl rfl (M4 hb (A1o rfl))) rfl rfl ?_
 refine sQ (qM rfl) rfl ?_
 refine sP (H2 (j := i) rfl rfl rfl (by omega)) rfl rfl ?_
 refine sL (D5 rfl rfl (hat _) hl) rfl rfl ?_
 (refine M9 rfl ih rfl rfl (fun v G3 hle3 hh => ?_); subst hh)
 refine sQ (qA rfl) rfl (sD (nS (tT (F0 (rT rfl) ?_))))
 (exact ⟨rfl, rfl⟩)
theorem B1x (D N : Int) : ∀ (e : Tm) (d : Int) (G : IM) (cells : List Value), M5 D N e d = true → D1 e ≤ 100000 → A0d G → C7 G e cells → Fn Tryz.prog 40 [.agg ⟨cells⟩] [] G (A1A (A2 e)) := by
 refine Tm.ind fun k nm num ty fr lb ks ih d G cells hs hcnt hT hr => ?_
 obtain ⟨hd, _, h3, h4⟩ := A04 hs
 have hvk := (A0e D N ks _).1 h4
 obtain ⟨n1, n2, n3, n4, n5, n6, n7, n8, n9⟩ := A0q.1 h3
 rw [D1] at hcnt
 have hTl : ∀ i (h : i < ks.length), (A2 ks[i]).length ≤ 10000000 := fun i h => by
  have h1 := A7M D N ks[i] _ (hvk i h)
  have h2 := A3k h
  omega
 have hL1 : k = 5 ∨ k = 11 ∨ k = 12 ∨ k = 13 ∨ k = 14 → ks.length = 1 := fun h => by
  have : L8 k = 1 := by rcases h with rfl | rfl | rfl | rfl | rfl <;> rfl
  omega
 have hL2 : k = 6 ∨ k = 7 ∨ k = 8 ∨ k = 10 → ks.length = 2 := fun h => by
  have : L8 k = 2 := by rcases h with rfl | rfl | rfl | rfl <;> rfl
  omega
 have hL3 : k = 9 → ks.length = 3 := fun h => by
  have : L8 k = 3 := by subst h; rfl
  omega
 have hkk : 1 ≤ k ∧ k ≤ 14 ∧ ks.length ≤ 3 := by
  unfold L8 at n1
  repeat' split at n1
  all_goals omega
 have hnumr : k = 2 → 0 ≤ num ∧ num ≤ 999 := fun h => A0p (n4 h)
 have hvt : k = 5 ∨ k = 13 ∨ k = 14 → E1 ty 1 = true := n6
 have hvf : k = 14 → E1 fr 1 = true := fun h => by
  have := (n8 h).1
  unfold Y0 at this
  simp only [Bool.and_eq_true] at this
  exact this.1.1
 have hvl : k = 14 → -999 ≤ lb ∧ lb ≤ 999 := fun h => by
  have := (n8 h).2
  unfold X0 at this
  rw [Bool.or_eq_true] at this
  rcases this with h | h <;> have := A0p h <;> omega
 have hnl : (k = 1 ∨ k = 5 → nm.size = 1) := fun h => by rw [(A3b (n2 h)).1]; rfl
 obtain ⟨nl, rfl⟩ : ∃ nl, nm = A9 nl := ⟨_, (A2w nm).symm⟩
 rw [I9] at hnl
 obtain ⟨tk, tks⟩ := ty
 obtain ⟨fk, fks⟩ := fr
 obtain ⟨pt, ct, pf, cf, p, c, es, rfl, hk, hnum, hlb, hty, hfr, hsl, hkl⟩ := hr.open9
 have hkid : ∀ (b1 : Nat) (G' : IM), B4 G G' → G' b1 = some [.int .i64 k, .string (A9 nl), .int .i64 num, .int .i64 tk, .slice pt tks.length ct, .int .i64 fk, .slice pf fks.length cf, .int .i64 lb, .slice p ks.length c] → ∀ (i : Nat) (hi : i < ks.length) (G2 : IM), B4 G' G2 → Fn Tryz.prog 84 ([] ++ [.int .i64 (i : Int)] ++ [.pointer (some ⟨b1, 0, none⟩)]) [] G2 (A1A (A2 ks[i])) := fun b1 G' hle hb i hi G2 hle2 => by
  obtain ⟨bo, oo, e, rfl, hel, hat, hre, hgb⟩ := ((hsl.mono hle).mono hle2).kidTm ((hkl.mono hle).mono hle2) (i := i) hi hi
  exact B1w b1 i G2 bo oo c ks.length _ _ _ _ _ _ _ _ e _ (hle2 _ _ hb) hi (by omega) hel hat (ih ks[i] (List.getElem_mem hi) (d + 1) G2 e (hvk i hi) (by have := A3k hi; omega) ((hT.mono hle).mono hle2) hre)
 refine B3 Tryz.func40 rfl Tryz.ntmps40 Tryz.results40 rfl ?_
 intro w0
 refine tS (tR ?_)
 refine sE (J6 rfl rfl) rfl (fun b3 => ?_)
 refine sQ (qA rfl) rfl (sD (nS (tS ?_)))
 (refine A5j (bs := [(b3, [.int .i64 k, .string (A9 nl), .int .i64 num, .int .i64 tk, .slice pt tks.length ct, .int .i64 fk, .slice pf fks.length cf, .int .i64 lb, .slice p ks.length c])]) (Pk.perm (by repeat (first | exact Pk.here | apply Pk.there))) (fun hf1 hf2 hle0 => ?_); have hb1 : Wi G [(b3, [.int .i64 k, .string (A9 nl), .int .i64 num, .int .i64 tk, .slice pt tks.length ct, .int .i64 fk, .slice pf fks.length cf, .int .i64 lb, .slice p ks.length c])] b3 = some [.int .i64 k, .string (A9 nl), .int .i64 num, .int .i64 tk, .slice pt tks.length ct, .int .i64 fk, .slice pf fks.length cf, .int .i64 lb, .slice p ks.length c] := Wi.in hf1 List.mem_cons_self; generalize Wi G [(b3, [.int .i64 k, .string (A9 nl), .int .i64 num, .int .i64 tk, .slice pt tks.length ct, .int .i64 fk, .slice pf fks.length cf, .int .i64 lb, .slice p ks.length c])] = G0 at hle0 hb1 ⊢; have hT0 := hT.mono hle0; have hty0 := hty.mono hle0; have hfr0 := hfr.mono hle0; have hK := hkid _ G0 hle0 hb1)
 refine tR ?_
 refine sQ (A0j rfl rfl) rfl ?_
 refine B1 ?_
 refine sL (H3 rfl rfl (M4 hb1 (A1o rfl))) rfl rfl ?_
 refine sD (nS ?_)
 refine D0 (tS (tR (sB (qE rfl rfl) rfl rfl (fun h24 => ?_) (fun h24 => ?_))))
 refine B1 ?_
 refine sL (H3 rfl rfl (M4 hb1 (A1o rfl))) rfl rfl ?_
 refine sQ (qA rfl) rfl (sD (nS (tT (rB (rS (F0 (rT rfl) ?_))))))
 (have hk1 : k = 1 := (by omega); exact ⟨rfl, by rw [A2, H8, if_pos hk1]; rfl⟩)
 refine sQ (qA rfl) rfl (sD (nS (cF rfl (tS (tR ?_)))))
 refine sB (qE rfl rfl) rfl rfl (fun h47 => ?_) (fun h47 => ?_)
 refine B1 ?_
 refine sL (H3 rfl rfl (M4 hb1 (A1o rfl))) rfl rfl ?_
 refine I5 rfl ((A7N num _ hT0 (by have := hnumr; omega) (by have := hnumr; omega))) rfl rfl ?_
 refine sQ (qA rfl) rfl (sD (nS (tT (rB (rS (F0 (rT rfl) ?_))))))
 (have hk1 : k = 2 := (by omega); exact ⟨rfl, by rw [A2, H8, if_neg (by omega), if_pos hk1]⟩)
 refine sQ (qA rfl) rfl (sD (nS (cF rfl (tS (tR ?_)))))
 refine sB (qE rfl rfl) rfl rfl (fun h71 => ?_) (fun h71 => ?_)
 refine D9 ?_
 (have hk1 : k = 3 := (by omega); subst hk1; exact ⟨rfl, rfl⟩)
 refine sQ (qA rfl) rfl (sD (nS (cF rfl (tS (tR ?_)))))
 refine sB (qE rfl rfl) rfl rfl (fun h92 => ?_) (fun h92 => ?_)
 refine D9 ?_
 (have hk1 : k = 4 := (by omega); subst hk1; exact ⟨rfl, rfl⟩)
 refine sQ (qA rfl) rfl (sD (nS (cF rfl (tS (tR ?_)))))
 refine sB (qE rfl rfl) rfl rfl (fun h113 => ?_) (fun h113 => ?_)
 refine sQ (qA rfl) rfl (sD (nS (qT rfl (tS ?_))))
 refine K7 K9 rfl ?_
 refine I0 (i := 0) (l' := [tt,ff,ff,ff,ff,ff,ff,ff,ff,ff,ff,ff,ff]) rfl E9 (A4 rfl) rfl (by kernel_rfl) rfl rfl ?_
 refine aL 1 rfl (H3 rfl rfl (M4 hb1 (A1o rfl))) rfl ?_
 refine aP 2 rfl (B5 rfl rfl (by simp only [List.length_append, List.length_cons, List.length_nil]; omega)) rfl ?_
 refine aP 3 rfl (B5 rfl rfl (by simp only [List.length_append, List.length_cons, List.length_nil]; omega)) rfl ?_
 refine aP 4 rfl (A4 rfl) rfl ?_
 refine aL 5 rfl (D5 rfl rfl (M4 hb1 (A3l rfl rfl)) rfl) rfl ?_
 refine aP 9 rfl (qM rfl) rfl ?_
 refine B6 6 ?_
 (refine N5 rfl rfl (A3j (.mk tk tks) 1 _ _ (hvt (by omega)) (by omega) (by first | exact hty0 | exact hty0.mono hle7)) rfl rfl rfl ?_; have hlt := T7 (hvt (by omega)) (Int.le_refl _))
 refine aP 7 rfl (B5 rfl rfl (by simp only [List.length_append, List.length_cons, List.length_nil]; omega)) rfl ?_
 refine aP 8 rfl (B5 rfl rfl (by simp only [List.length_append, List.length_cons, List.length_nil]; omega)) rfl ?_
 refine B6 10 ?_
 (have hi0 : 0 < ks.length := (by omega); refine A0W rfl (N9 (ins := []) rfl rfl (hK 0 hi0 _ (B4.refl _)) (List.Perm.refl _) rfl) rfl rfl ?_; rintro _ ⟨v, G7, outs, rfl, hle7, rfl, rfl⟩; have hTl0 := hTl 0 hi0)
 refine aP 11 rfl (B5 rfl rfl (by simp only [List.length_append, List.length_cons, List.length_nil]; omega)) rfl ?_
 refine aP 12 rfl (qA rfl) rfl ?_
 refine R5 (nS (tT (rB (rS (F0 (rT rfl) ?_)))))
 (have hk1 : k = 5 := (by omega); exact ⟨rfl, by rw [A7C hk1 (by omega)] <;> rfl⟩)
 refine sQ (qA rfl) rfl (sD (nS (cF rfl (tS (tR ?_)))))
 refine sB (qE rfl rfl) rfl rfl (fun h148 => ?_) (fun h148 => ?_)
 refine B1 ?_
 (have hi0 : 0 < ks.length := (by omega); refine F3 (N9 rfl rfl (hK 0 hi0 _ (B4.refl _)) (List.Perm.refl _) rfl) rfl ?_; rintro _ ⟨v, G7, outs, rfl, hle7, rfl, rfl⟩; have hTl0 := hTl 0 hi0)
 refine sP (B5 rfl rfl (by simp only [List.length_append, List.length_cons, List.length_nil]; omega)) rfl rfl ?_
 refine sP (B5 rfl rfl (by simp only [List.length_append, List.length_cons, List.length_nil]; omega)) rfl rfl ?_
 refine sQ (qM rfl) rfl ?_
 (have hi1 : 1 < ks.length := (by omega); refine F3 (N9 rfl rfl (hK 1 hi1 _ hle7) (List.Perm.refl _) rfl) rfl ?_; rintro _ ⟨v, G8, outs, rfl, hle8, rfl, rfl⟩; have hTl1 := hTl 1 hi1)
 refine sP (B5 rfl rfl (by simp only [List.length_append, List.length_cons, List.length_nil]; omega)) rfl rfl ?_
 refine sP (B5 rfl rfl (by simp only [List.length_append, List.length_cons, List.length_nil]; omega)) rfl rfl ?_
 refine sQ (qA rfl) rfl (sD (nS (tT (rB (rS (F0 (rT rfl) ?_))))))
 (have hk1 : k = 6 := (by omega); exact ⟨rfl, by rw [A7D hk1 (by omega)] <;> rfl⟩)
 refine sQ (qA rfl) rfl (sD (nS (cF rfl (tS (tR ?_)))))
 refine sB (qE rfl rfl) rfl rfl (fun h177 => ?_) (fun h177 => ?_)
 refine B1 ?_
 (have hi0 : 0 < ks.length := (by omega); refine F3 (N9 rfl rfl (hK 0 hi0 _ (B4.refl _)) (List.Perm.refl _) rfl) rfl ?_; rintro _ ⟨v, G7, outs, rfl, hle7, rfl, rfl⟩; have hTl0 := hTl 0 hi0)
 refine sP (B5 rfl rfl (by simp only [List.length_append, List.length_cons, List.length_nil]; omega)) rfl rfl ?_
 refine sP (B5 rfl rfl (by simp only [List.length_append, List.length_cons, List.length_nil]; omega)) rfl rfl ?_
 refine sQ (qM rfl) rfl ?_
 (have hi1 : 1 < ks.length := (by omega); refine F3 (N9 rfl rfl (hK 1 hi1 _ hle7) (List.Perm.refl _) rfl) rfl ?_; rintro _ ⟨v, G8, outs, rfl, hle8, rfl, rfl⟩; have hTl1 := hTl 1 hi1)
 refine sP (B5 rfl rfl (by simp only [List.length_append, List.length_cons, List.length_nil]; omega)) rfl rfl ?_
 refine sP (B5 rfl rfl (by simp only [List.length_append, List.length_cons, List.length_nil]; omega)) rfl rfl ?_
 refine sQ (qA rfl) rfl (sD (nS (tT (rB (rS (F0 (rT rfl) ?_))))))
 (have hk1 : k = 7 := (by omega); exact ⟨rfl, by rw [A7E hk1 (by omega)] <;> rfl⟩)
 refine sQ (qA rfl) rfl (sD (nS (cF rfl (tS (tR ?_)))))
 refine sB (qE rfl rfl) rfl rfl (fun h206 => ?_) (fun h206 => ?_)
 refine B1 ?_
 (have hi0 : 0 < ks.length := (by omega); refine F3 (N9 rfl rfl (hK 0 hi0 _ (B4.refl _)) (List.Perm.refl _) rfl) rfl ?_; rintro _ ⟨v, G7, outs, rfl, hle7, rfl, rfl⟩; have hTl0 := hTl 0 hi0)
 refine sP (B5 rfl rfl (by simp only [List.length_append, List.length_cons, List.length_nil]; omega)) rfl rfl ?_
 refine sP (B5 rfl rfl (by simp only [List.length_append, List.length_cons, List.length_nil]; omega)) rfl rfl ?_
 refine sQ (qM rfl) rfl ?_
 (have hi1 : 1 < ks.length := (by omega); refine F3 (N9 rfl rfl (hK 1 hi1 _ hle7) (List.Perm.refl _) rfl) rfl ?_; rintro _ ⟨v, G8, outs, rfl, hle8, rfl, rfl⟩; have hTl1 := hTl 1 hi1)
 refine sP (B5 rfl rfl (by simp only [List.length_append, List.length_cons, List.length_nil]; omega)) rfl rfl ?_
 refine sP (B5 rfl rfl (by simp only [List.length_append, List.length_cons, List.length_nil]; omega)) rfl rfl ?_
 refine sQ (qA rfl) rfl (sD (nS (tT (rB (rS (F0 (rT rfl) ?_))))))
 (have hk1 : k = 8 := (by omega); exact ⟨rfl, by rw [A7F hk1 (by omega)] <;> rfl⟩)
 refine sQ (qA rfl) rfl (sD (nS (cF rfl (tS (tR ?_)))))
 refine sB (qE rfl rfl) rfl rfl (fun h235 => ?_) (fun h235 => ?_)
 refine B1 ?_
 (have hi0 : 0 < ks.length := (by omega); refine F3 (N9 rfl rfl (hK 0 hi0 _ (B4.refl _)) (List.Perm.refl _) rfl) rfl ?_; rintro _ ⟨v, G7, outs, rfl, hle7, rfl, rfl⟩; have hTl0 := hTl 0 hi0)
 refine sP (B5 rfl rfl (by simp only [List.length_append, List.length_cons, List.length_nil]; omega)) rfl rfl ?_
 refine sP (B5 rfl rfl (by simp only [List.length_append, List.length_cons, List.length_nil]; omega)) rfl rfl ?_
 refine sQ (qM rfl) rfl ?_
 (have hi1 : 1 < ks.length := (by omega); refine F3 (N9 rfl rfl (hK 1 hi1 _ hle7) (List.Perm.refl _) rfl) rfl ?_; rintro _ ⟨v, G8, outs, rfl, hle8, rfl, rfl⟩; have hTl1 := hTl 1 hi1)
 refine sP (B5 rfl rfl (by simp only [List.length_append, List.length_cons, List.length_nil]; omega)) rfl rfl ?_
 refine sP (B5 rfl rfl (by simp only [List.length_append, List.length_cons, List.length_nil]; omega)) rfl rfl ?_
 refine sQ (qM rfl) rfl ?_
 (have hi2 : 2 < ks.length := (by omega); refine F3 (N9 rfl rfl (hK 2 hi2 _ (hle7.trans hle8)) (List.Perm.refl _) rfl) rfl ?_; rintro _ ⟨v, G9, outs, rfl, hle9, rfl, rfl⟩; have hTl2 := hTl 2 hi2)
 refine sP (B5 rfl rfl (by simp only [List.length_append, List.length_cons, List.length_nil]; omega)) rfl rfl ?_
 refine sP (B5 rfl rfl (by simp only [List.length_append, List.length_cons, List.length_nil]; omega)) rfl rfl ?_
 refine sQ (qA rfl) rfl (sD (nS (tT (rB (rS (F0 (rT rfl) ?_))))))
 (have hk1 : k = 9 := (by omega); exact ⟨rfl, by rw [A7G hk1 (by omega)] <;> rfl⟩)
 refine sQ (qA rfl) rfl (sD (nS (cF rfl (tS (tR ?_)))))
 refine sB (qE rfl rfl) rfl rfl (fun h268 => ?_) (fun h268 => ?_)
 refine B1 ?_
 (have hi0 : 0 < ks.length := (by omega); refine F3 (N9 rfl rfl (hK 0 hi0 _ (B4.refl _)) (List.Perm.refl _) rfl) rfl ?_; rintro _ ⟨v, G7, outs, rfl, hle7, rfl, rfl⟩; have hTl0 := hTl 0 hi0)
 refine sP (B5 rfl rfl (by simp only [List.length_append, List.length_cons, List.length_nil]; omega)) rfl rfl ?_
 refine sP (B5 rfl rfl (by simp only [List.length_append, List.length_cons, List.length_nil]; omega)) rfl rfl ?_
 refine sQ (qM rfl) rfl ?_
 (have hi1 : 1 < ks.length := (by omega); refine F3 (N9 rfl rfl (hK 1 hi1 _ hle7) (List.Perm.refl _) rfl) rfl ?_; rintro _ ⟨v, G8, outs, rfl, hle8, rfl, rfl⟩; have hTl1 := hTl 1 hi1)
 refine sP (B5 rfl rfl (by simp only [List.length_append, List.length_cons, List.length_nil]; omega)) rfl rfl ?_
 refine sP (B5 rfl rfl (by simp only [List.length_append, List.length_cons, List.length_nil]; omega)) rfl rfl ?_
 refine sQ (qA rfl) rfl (sD (nS (tT (rB (rS (F0 (rT rfl) ?_))))))
 (have hk1 : k = 10 := (by omega); exact ⟨rfl, by rw [A7H hk1 (by omega)] <;> rfl⟩)
 refine sQ (qA rfl) rfl (sD (nS (cF rfl (tS (tR ?_)))))
 refine sB (qE rfl rfl) rfl rfl (fun h297 => ?_) (fun h297 => ?_)
 refine B1 ?_
 (have hi0 : 0 < ks.length := (by omega); refine F3 (N9 rfl rfl (hK 0 hi0 _ (B4.refl _)) (List.Perm.refl _) rfl) rfl ?_; rintro _ ⟨v, G7, outs, rfl, hle7, rfl, rfl⟩; have hTl0 := hTl 0 hi0)
 refine sP (B5 rfl rfl (by simp only [List.length_append, List.length_cons, List.length_nil]; omega)) rfl rfl ?_
 refine sQ (qA rfl) rfl (sD (nS (tT (rB (rS (F0 (rT rfl) ?_))))))
 (have hk1 : k = 11 := (by omega); exact ⟨rfl, by rw [A7I hk1 (by omega)] <;> rfl⟩)
 refine sQ (qA rfl) rfl (sD (nS (cF rfl (tS (tR ?_)))))
 refine sB (qE rfl rfl) rfl rfl (fun h321 => ?_) (fun h321 => ?_)
 refine B1 ?_
 (have hi0 : 0 < ks.length := (by omega); refine F3 (N9 rfl rfl (hK 0 hi0 _ (B4.refl _)) (List.Perm.refl _) rfl) rfl ?_; rintro _ ⟨v, G7, outs, rfl, hle7, rfl, rfl⟩; have hTl0 := hTl 0 hi0)
 refine sP (B5 rfl rfl (by simp only [List.length_append, List.length_cons, List.length_nil]; omega)) rfl rfl ?_
 refine sQ (qA rfl) rfl (sD (nS (tT (rB (rS (F0 (rT rfl) ?_))))))
 (have hk1 : k = 12 := (by omega); exact ⟨rfl, by rw [A7J hk1 (by omega)] <;> rfl⟩)
 refine sQ (qA rfl) rfl (sD (nS (cF rfl (tS (tR ?_)))))
 refine sB (qE rfl rfl) rfl rfl (fun h345 => ?_) (fun h345 => ?_)
 refine sQ (qA rfl) rfl (sD (nS (qT rfl (tS ?_))))
 refine K7 K9 rfl ?_
 refine I0 (i := 0) (l' := [tt,ff,ff,ff,ff,ff,ff,ff,ff,ff]) rfl E9 (qM rfl) rfl (by kernel_rfl) rfl rfl ?_
 refine aP 4 rfl (A4 rfl) rfl ?_
 refine aL 5 rfl (D5 rfl rfl (M4 hb1 (A3l rfl rfl)) rfl) rfl ?_
 refine B6 1 ?_
 (have hi0 : 0 < ks.length := (by omega); refine A0W rfl (N9 (ins := []) rfl rfl (hK 0 hi0 _ (B4.refl _)) (List.Perm.refl _) rfl) rfl rfl ?_; rintro _ ⟨v, G7, outs, rfl, hle7, rfl, rfl⟩; have hTl0 := hTl 0 hi0)
 refine aP 2 rfl (B5 rfl rfl (by simp only [List.length_append, List.length_cons, List.length_nil]; omega)) rfl ?_
 refine aP 3 rfl (B5 rfl rfl (by simp only [List.length_append, List.length_cons, List.length_nil]; omega)) rfl ?_
 refine B6 6 ?_
 (refine N5 rfl rfl (A3j (.mk tk tks) 1 _ _ (hvt (by omega)) (by omega) (by first | exact hty0 | exact hty0.mono hle7)) rfl rfl rfl ?_; have hlt := T7 (hvt (by omega)) (Int.le_refl _))
 refine aP 7 rfl (B5 rfl rfl (by simp only [List.length_append, List.length_cons, List.length_nil]; omega)) rfl ?_
 refine aP 8 rfl (B5 rfl rfl (by simp only [List.length_append, List.length_cons, List.length_nil]; omega)) rfl ?_
 refine aP 9 rfl (qA rfl) rfl ?_
 refine R5 (nS (tT (rB (rS (F0 (rT rfl) ?_)))))
 (have hk1 : k = 13 := (by omega); exact ⟨rfl, by rw [A7K hk1 (by omega)] <;> rfl⟩)
 refine C6 ?_
 refine K7 K9 rfl ?_
 refine I0 (i := 0) (l' := [tt,ff,ff,ff,ff,ff,ff,ff,ff,ff,ff,ff,ff,ff,ff,ff,ff,ff,ff,ff]) rfl E9 (qM rfl) rfl (by kernel_rfl) rfl rfl ?_
 refine aP 4 rfl (A4 rfl) rfl ?_
 refine aL 5 rfl (D5 rfl rfl (M4 hb1 (A3l rfl rfl)) rfl) rfl ?_
 refine aP 9 rfl (A4 rfl) rfl ?_
 refine aL 10 rfl (D5 rfl rfl (M4 hb1 (A3l rfl rfl)) rfl) rfl ?_
 refine aP 14 rfl (A4 rfl) rfl ?_
 refine aL 15 rfl (H3 rfl rfl (M4 hb1 (A1o rfl))) rfl ?_
 refine B6 1 ?_
 (have hi0 : 0 < ks.length := (by omega); refine A0W rfl (N9 (ins := []) rfl rfl (hK 0 hi0 _ (B4.refl _)) (List.Perm.refl _) rfl) rfl rfl ?_; rintro _ ⟨v, G7, outs, rfl, hle7, rfl, rfl⟩; have hTl0 := hTl 0 hi0)
 refine aP 2 rfl (B5 rfl rfl (by simp only [List.length_append, List.length_cons, List.length_nil]; omega)) rfl ?_
 refine aP 3 rfl (B5 rfl rfl (by simp only [List.length_append, List.length_cons, List.length_nil]; omega)) rfl ?_
 refine B6 6 ?_
 (refine N5 rfl rfl (A3j (.mk fk fks) 1 _ _ (hvf (by omega)) (by omega) (by first | exact hfr0 | exact hfr0.mono hle7)) rfl rfl rfl ?_; have hlf := T7 (hvf (by omega)) (Int.le_refl _))
 refine aP 7 rfl (B5 rfl rfl (by simp only [List.length_append, List.length_cons, List.length_nil]; omega)) rfl ?_
 refine aP 8 rfl (B5 rfl rfl (by simp only [List.length_append, List.length_cons, List.length_nil]; omega)) rfl ?_
 refine B6 11 ?_
 (refine N5 rfl rfl (A3j (.mk tk tks) 1 _ _ (hvt (by omega)) (by omega) (by first | exact hty0 | exact hty0.mono hle7)) rfl rfl rfl ?_; have hlt := T7 (hvt (by omega)) (Int.le_refl _))
 refine aP 12 rfl (B5 rfl rfl (by simp only [List.length_append, List.length_cons, List.length_nil]; omega)) rfl ?_
 refine aP 13 rfl (B5 rfl rfl (by simp only [List.length_append, List.length_cons, List.length_nil]; omega)) rfl ?_
 refine B6 16 ?_
 (have hlab := hvl (by omega); refine N5 rfl rfl (A7N lb _ (by first | exact hT0 | exact hT0.mono hle7) hlab.1 hlab.2) rfl rfl rfl ?_; have hll := A13 hlab.1 hlab.2)
 refine aP 17 rfl (B5 rfl rfl (by simp only [List.length_append, List.length_cons, List.length_nil]; omega)) rfl ?_
 refine aP 18 rfl (B5 rfl rfl (by simp only [List.length_append, List.length_cons, List.length_nil]; omega)) rfl ?_
 refine aP 19 rfl (qA rfl) rfl ?_
 refine R5 (nS (tT (F0 (rT rfl) ?_)))
 (have hk1 : k = 14 := (by omega); exact ⟨rfl, by rw [A7L hk1 (by omega)] <;> rfl⟩)
def A7O : Option A0 → Bool
 | some [] => true
 | _ => false
theorem B1y (b : Nat) (S : Option A0) (cs : List Value) (G : IM) (h : O4 S cs) : Fn Tryz.prog 88 [.pointer (some ⟨b, 0, none⟩)] [.blk b cs] G (fun G' v outs => G' = G ∧ v = .bool (A7O S) ∧ outs = [.blk b cs]) := by
 rcases h with ⟨rfl, s, hs, rfl⟩ | ⟨l, rfl, hl, rfl⟩
 ·refine B3 Tryz.func88 rfl Tryz.ntmps88 Tryz.results88 rfl ?_
  intro w0
  refine C6 ?_
  refine sQ (A6 rfl) rfl ?_
  refine S2 ?_
  refine C8 (outs := [.blk b _]) (rT rfl) (.cons (by repeat (first | exact Pk.here | apply Pk.there)) .nil) ?_
  (exact ⟨rfl, rfl, rfl⟩)
 ·cases l with
  | nil =>
   refine B3 Tryz.func88 rfl Tryz.ntmps88 Tryz.results88 rfl ?_
   intro w0
   refine C6 ?_
   refine sQ (A6 rfl) rfl ?_
   refine R6 ?_
   refine sQ (A6 rfl) rfl ?_
   refine sQ (A4 rfl) rfl (sL (C2 rfl rfl) rfl rfl ?_)
   refine sP (A4p A4r rfl rfl) rfl rfl ?_
   refine sQ (I4 rfl rfl) rfl (sQ (qA rfl) rfl (sD (nS (tT ?_))))
   refine C8 (outs := [.blk b _]) (rT rfl) (.cons (by repeat (first | exact Pk.here | apply Pk.there)) .nil) ?_
   (exact ⟨rfl, rfl, rfl⟩)
  | cons c r =>
   refine B3 Tryz.func88 rfl Tryz.ntmps88 Tryz.results88 rfl ?_
   intro w0
   refine C6 ?_
   refine sQ (A6 rfl) rfl ?_
   refine R6 ?_
   refine sQ (A6 rfl) rfl ?_
   refine sQ (A4 rfl) rfl (sL (C2 rfl rfl) rfl rfl ?_)
   refine sP (A4q (A4s _ _) rfl rfl) rfl rfl ?_
   refine sQ (I4 rfl rfl) rfl (sQ (qA rfl) rfl (sD (nS (tT ?_))))
   refine C8 (outs := [.blk b _]) (rT rfl) (.cons (by repeat (first | exact Pk.here | apply Pk.there)) .nil) ?_
   (exact ⟨rfl, rfl, rfl⟩)
def PsP (V : Tm → Bool) (l : A0) (G : IM) : IM → Value → List A1 → Prop := J1 fun G' v => ∃ e ok cells F, v = .tuple ⟨[.agg ⟨cells⟩, .bool ok]⟩ ∧ L9 (B2 G' G) e cells F ∧ F.Nodup ∧ A0U V l e ok
theorem PsP.no {V : Tm → Bool} {l : A0} {G G' : IM} (h : ∀ x, V x = true → A2 x ≠ l) : PsP V l G G' (.tuple ⟨[.agg ⟨[.int .i64 0, .string ⟨⟨[]⟩⟩, .int .i64 0, .int .i64 0, .slice none 0 0, .int .i64 0, .slice none 0 0, .int .i64 0, .slice none 0 0]⟩, .bool false]⟩) [] :=
 ⟨rfl, L4, false, _, [], rfl, L9.zero _, List.nodup_nil, .inr ⟨rfl, rfl, h⟩⟩
theorem A7P (V : Tm → Bool) (D N : Int) (hVO : V6 V D N) (fid : FuncId) [A8 Tryz.prog fid] (hV : ∀ (e : Tm) (G : IM) (cells : List Value), C7 G e cells → Fn Tryz.prog fid [.agg ⟨cells⟩] [] G (H4 (.bool (V e)) G)) (l : A0) (hl : l.length ≤ 4294967296) (G : IM) (hT : A0d G) (hE : V0 G) :
  Fn Tryz.prog 41 [.string (A9 l), .func (.func fid) ⟨[]⟩ ⟨[]⟩] [] G (PsP V l G) := by
 have hpx : ∀ x, V x = true → A2 x = l → D2 40 l = some (x, []) := fun x hx he => by rw [← he]; exact hVO.p hx
 obtain ⟨m, hm⟩ : ∃ m, (some l).bind (D2 40) = m := ⟨_, rfl⟩
 have hm' : D2 40 l = m := hm
 rw [hm'] at hpx
 refine B3 Tryz.func41 rfl Tryz.ntmps41 Tryz.results41 rfl ?_
 intro w0
 refine tS (tR ?_)
 refine sE (D6 rfl) rfl (fun b3 => ?_)
 refine B1 ?_
 refine sE (J6 rfl rfl) rfl (fun b11 => ?_)
 refine sQ (qA rfl) rfl (sD (nS (tS (tR (sQ (qM rfl) rfl ?_)))))
 (refine H7 rfl (B1m _ 40 1 (some l) _ G (by omega) (by omega) hE (O4.yes hl)) (Pk.perm (by repeat (first | exact Pk.here | apply Pk.there))) rfl rfl (fun v G1 outs hle1 hh => ?_); rw [hm] at hh; obtain ⟨csa, ta, ca, Fa, rfl, hRa, rfl, hsa, hna, hva⟩ := hh; have hoa := hsa.R.one; obtain ⟨x1, x2, x3, x4, x5, x6, x7, x8, x9, rfl⟩ := V1 hsa; replace hT := hT.mono hle1; have hRT := hsa.R.mono (B2.le _ _))
 refine sE (D6 rfl) rfl (fun b19 => ?_)
 refine sS rfl rfl rfl rfl hoa rfl ?_
 refine sD (nS (tS (tS (tR (sQ (qM rfl) rfl ?_)))))
 (refine H7 rfl (B1y _ (m.map Prod.snd) csa G1 hRa) (Pk.perm (by repeat (first | exact Pk.here | apply Pk.there))) rfl rfl (fun v G2 outs hle2 hh => ?_); obtain ⟨hG, rfl, rfl⟩ := hh; replace hG := hG.symm; subst hG; obtain ⟨db, hdb⟩ : ∃ b, A7O (m.map Prod.snd) = b := ⟨_, rfl⟩; rw [hdb]; cases db)
 refine A1n ?_
 refine B8 (rC rfl (A7 rfl rfl)) (rT rfl) ?_
 (exact PsP.no fun x hx he => by rw [hpx x hx he] at hdb; cases hdb)
 refine H9 ?_
 (have hVt := hV ta G1 _ hRT; obtain ⟨vb, hvb⟩ : ∃ b, V ta = b := ⟨_, rfl⟩; rw [hvb] at hVt; cases vb <;> (refine F3 (N9 rfl rfl hVt (List.Perm.refl _) rfl) rfl ?_; rintro _ ⟨v, G7, outs, rfl, hle7, hG, rfl, rfl⟩; replace hG := hG.symm; subst hG))
 refine X8 ?_
 refine B8 (rC rfl (A7 rfl rfl)) (rT rfl) ?_
 (exact PsP.no fun x hx he => by have := hva _ (hpx x hx he); rw [this] at hvb; rw [hx] at hvb; cases hvb)
 refine H9 ?_
 (obtain ⟨hs1, hs2⟩ := hVO.2.2 ta hvb; refine M9 rfl (B1x D N ta 1 G1 _ hs1 (by omega) hT hRT) rfl rfl (fun v G3 hle3 hh => ?_); subst hh)
 refine sQ (qM rfl) rfl ?_
 refine sB (Z2 rfl rfl) rfl rfl (fun hsn => ?_) (fun hsn => ?_)
 refine D9 ?_
 refine B8 (rC rfl (A7 rfl rfl)) (rT rfl) ?_
 (exact PsP.no fun x hx he => by have := hva _ (hpx x hx he); exact hsn (by rw [this]; exact congrArg A9 he))
 refine C1 ?_
 refine sS rfl rfl rfl rfl hoa rfl ?_
 refine sQ (qA rfl) rfl (sD (nS (tT ?_)))
 refine B8 (rC rfl (A7 rfl rfl)) (rT rfl) ?_
 (exact ⟨rfl, ta, true, _, Fa, rfl, hsa.mono (B2.mono hle3), hna, .inl ⟨rfl, hvb, A1y (Classical.not_not.1 hsn)⟩⟩)
theorem A7Q (l : A0) (hl : l.length ≤ 4294967296) (G : IM) (hT : A0d G) (hE : V0 G) : Fn Tryz.prog 12 [.string (A9 l)] [] G (PsP P9 l G) := by
 refine B3 Tryz.func12 rfl Tryz.ntmps12 Tryz.results12 rfl ?_
 intro w0
 refine tS (tR ?_)
 refine sE (D6 rfl) rfl (fun b3 => ?_)
 refine sQ (qA rfl) rfl (sD (nS (tS (tR (sQ (qM rfl) rfl ?_)))))
 (refine M9 rfl (A7P P9 12 14 A1Y 14 A9D l hl G hT hE) rfl rfl (fun v G1 hle1 hh => ?_); obtain ⟨e, ok, ce, F, rfl, hse, hne, hpa⟩ := hh; have hoe := hse.R.one; obtain ⟨x1, x2, x3, x4, x5, x6, x7, x8, x9, rfl⟩ := V1 hse)
 refine sQ (pX rfl rfl) rfl (sQ (pX rfl rfl) rfl ?_)
 refine sS rfl rfl rfl rfl hoe rfl ?_
 refine sQ (qA rfl) rfl (sD (nS (tT ?_)))
 refine B8 (rC rfl (A7 rfl rfl)) (rT rfl) ?_
 (exact ⟨rfl, e, ok, _, F, rfl, hse, hne, hpa⟩)
theorem A7R (l : A0) (hl : l.length ≤ 4294967296) (G : IM) (hT : A0d G) (hE : V0 G) : Fn Tryz.prog 23 [.string (A9 l)] [] G (PsP N7 l G) := by
 refine B3 Tryz.func23 rfl Tryz.ntmps23 Tryz.results23 rfl ?_
 intro w0
 refine tS (tR ?_)
 refine sE (D6 rfl) rfl (fun b3 => ?_)
 refine sQ (qA rfl) rfl (sD (nS (tS (tR (sQ (qM rfl) rfl ?_)))))
 (refine M9 rfl (A7P N7 40 13 A1Z 36 A9C l hl G hT hE) rfl rfl (fun v G1 hle1 hh => ?_); obtain ⟨e, ok, ce, F, rfl, hse, hne, hpa⟩ := hh; have hoe := hse.R.one; obtain ⟨x1, x2, x3, x4, x5, x6, x7, x8, x9, rfl⟩ := V1 hse)
 refine sQ (pX rfl rfl) rfl (sQ (pX rfl rfl) rfl ?_)
 refine sS rfl rfl rfl rfl hoe rfl ?_
 refine sQ (qA rfl) rfl (sD (nS (tT ?_)))
 refine B8 (rC rfl (A7 rfl rfl)) (rT rfl) ?_
 (exact ⟨rfl, e, ok, _, F, rfl, hse, hne, hpa⟩)
def A14 (V : Tm → Bool) (e : Tm) : A0 := if V e = true then A2 e else []
theorem A15 {V : Tm → Bool} {e : Tm} (h : V e = true) : A14 V e = A2 e := by unfold A14; rw [if_pos h]
theorem A3m {V : Tm → Bool} {e : Tm} (h : V e = false) : A14 V e = [] := by unfold A14; rw [if_neg (by rw [h]; decide)]
theorem S1 {l : A0} {i : Nat} (h : i < l.length) : (A9 l)[((i : Nat) : Int).toNat]? = some (l.getD i 0) := by
 rw [A2D h, List.getD_eq_getElem?_getD, List.getElem?_eq_getElem h]; rfl
theorem Y6 {l : A0} {i : Nat} (h : i < l.length) : l.drop i = l.getD i 0 :: l.drop (i + 1) := by
 rw [List.drop_eq_getElem_cons h, List.getD_eq_getElem?_getD, List.getElem?_eq_getElem h]; rfl
theorem A1B {l : A0} {i : Nat} (h : l.length ≤ i) : l.drop i = [] := List.drop_eq_nil_of_le h
theorem Y7 {l : A0} {i : Nat} (h : i < l.length) : P3 (l.drop i) = some (l.getD i 0, l.drop (i + 1)) := by rw [Y6 h]; rfl
theorem A4M {l : A0} {i : Nat} (h : l.length ≤ i) : P3 (l.drop i) = none := by rw [A1B h]; rfl
theorem A0h {l : A0} {i : Nat} {c : UInt8} (h : i < l.length) (hc : l.getD i 0 = c) : B9 c (l.drop i) = some (l.drop (i + 1)) := by rw [Y6 h, B9, if_pos hc]
theorem A0V {l : A0} {i : Nat} {c : UInt8} (h : i < l.length) (hc : l.getD i 0 ≠ c) : B9 c (l.drop i) = none := by rw [Y6 h, B9, if_neg hc]
theorem A1f {l : A0} {i : Nat} {c : UInt8} (h : l.length ≤ i) : B9 c (l.drop i) = none := by rw [A1B h]; rfl
def A4N {α : Type} (L : A0) (m : Option (α × A0)) (t : α) (next : Int) : Prop := (m = none ∧ next = -1) ∨ (∃ nx : Nat, m = some (t, L.drop nx) ∧ next = (nx : Int) ∧ nx ≤ L.length)
def Q9 (L : A0) (m : Option (Ty × A0)) : IM → Value → List A1 → Prop := J1 fun G' v => ∃ t cells next, v = .tuple ⟨[.agg ⟨cells⟩, .int .i64 next]⟩ ∧ C5 G' t cells ∧ A4N L m t next
theorem Q9.no {L : A0} {m : Option (Ty × A0)} {G : IM} (h : m = none) : Q9 L m G (.tuple ⟨[.agg ⟨[.int .i64 0, .slice none 0 0]⟩, .int .i64 (-1)]⟩) [] := ⟨rfl, A3, _, _, rfl, A0P G, .inl ⟨h, rfl⟩⟩
theorem Q9.yes {L : A0} {m : Option (Ty × A0)} {G : IM} {t : Ty} {cells : List Value} {nx : Nat} (hr : C5 G t cells) (h : m = some (t, L.drop nx)) (hn : nx ≤ L.length) : Q9 L m G (.tuple ⟨[.agg ⟨cells⟩, .int .i64 (nx : Int)]⟩) [] := ⟨rfl, t, cells, _, rfl, hr, .inr ⟨nx, h, rfl, hn⟩⟩
theorem B1z (n : Nat) : J7 n [] = none := by cases n <;> rfl
theorem A16 (n : Nat) (r : A0) : J7 (n + 1) (40 :: r) = (J7 n r).bind fun x => (P3 x.2).bind fun o => (J7 n o.2).bind fun z => if o.1 = 62 ∨ o.1 = 42 then (B9 41 z.2).map fun w => (.mk (if o.1 = 62 then 4 else 5) [x.1, z.1], w) else none := by
 rw [J7, if_neg (by decide), if_neg (by decide), if_neg (by decide), if_pos rfl]
theorem B1A (n : Nat) {c : UInt8} (r : A0) (h1 : c ≠ 63) (h2 : c ≠ 73) (h3 : c ≠ 66) (h4 : c ≠ 40) : J7 (n + 1) (c :: r) = none := by
 rw [J7, if_neg h1, if_neg h2, if_neg h3, if_neg h4]
theorem B1B {n : Nat} {L : A0} {r : A0} {t : Ty} {nx : Nat} (hm : J7 n r = some (t, L.drop nx)) (h : L.length ≤ nx) : J7 (n + 1) (40 :: r) = none := by
 rw [A16, hm]; simp only [Option.bind_some]; rw [A4M h]; rfl
theorem A4O {n : Nat} {L : A0} {r : A0} {t : Ty} {nx : Nat} (hm : J7 n r = some (t, L.drop nx)) (h : nx < L.length) (h2 : J7 n (L.drop (nx + 1)) = none) : J7 (n + 1) (40 :: r) = none := by
 rw [A16, hm]; simp only [Option.bind_some]; rw [Y7 h]; simp only [Option.bind_some]; rw [h2]; rfl
theorem B1C {n : Nat} {L : A0} {r : A0} {t u : Ty} {nx ny : Nat} (hm : J7 n r = some (t, L.drop nx)) (h : nx < L.length) (h2 : J7 n (L.drop (nx + 1)) = some (u, L.drop ny)) (h3 : L.getD nx 0 ≠ 62) (h4 : L.getD nx 0 ≠ 42) : J7 (n + 1) (40 :: r) = none := by
 rw [A16, hm]; simp only [Option.bind_some]; rw [Y7 h]; simp only [Option.bind_some]; rw [h2]; simp only [Option.bind_some]; rw [if_neg (by rintro (h | h); exact h3 h; exact h4 h)]
theorem A3n {n : Nat} {L : A0} {r : A0} {t u : Ty} {nx ny : Nat} (hm : J7 n r = some (t, L.drop nx)) (h : nx < L.length) (h2 : J7 n (L.drop (nx + 1)) = some (u, L.drop ny)) (h5 : B9 41 (L.drop ny) = none) : J7 (n + 1) (40 :: r) = none := by
 rw [A16, hm]; simp only [Option.bind_some]; rw [Y7 h]; simp only [Option.bind_some]; rw [h2]; simp only [Option.bind_some]; split <;> simp [h5]
theorem A7S {n : Nat} {L : A0} {r : A0} {t u : Ty} {nx ny : Nat} (hm : J7 n r = some (t, L.drop nx)) (h : nx < L.length) (h2 : J7 n (L.drop (nx + 1)) = some (u, L.drop ny)) {k : Int} (h3 : (L.getD nx 0 = 62 ∧ k = 4) ∨ (L.getD nx 0 = 42 ∧ k = 5)) (h4 : ny < L.length) (h5 : L.getD ny 0 = 41) : J7 (n + 1) (40 :: r) = some (.mk k [t, u], L.drop (ny + 1)) := by
 rw [A16, hm]; simp only [Option.bind_some]; rw [Y7 h]; simp only [Option.bind_some]; rw [h2]; simp only [Option.bind_some]
 rw [A0h h4 h5]
 rcases h3 with ⟨h3, rfl⟩ | ⟨h3, rfl⟩ <;> rw [h3] <;> rfl
theorem A4P (L : A0) (hL : L.length ≤ 4294967296) : ∀ (n a : Nat) (G : IM), n ≤ 100 → a ≤ L.length → Fn Tryz.prog 166 [.string (A9 L), .int .i64 (a : Int), .int .i64 (n : Int)] [] G (Q9 L (J7 n (L.drop a))) := by
 intro n
 induction n with
 | zero =>
  intro a G hn ha
  refine B3 Tryz.func166 rfl Tryz.ntmps166 Tryz.results166 rfl ?_
  intro w0
  refine tS (tR ?_)
  refine sE (D6 rfl) rfl (fun b3 => ?_)
  refine B1 ?_
  refine sP (X6 rfl rfl (by omega)) rfl rfl ?_
  refine A2i ?_
  refine B8 (rC rfl (A7 rfl rfl)) (rT rfl) ?_
  (exact Q9.no rfl)
 | succ n ih =>
  intro a G hn ha
  have hsz := I9 L
  have hnil : L.length ≤ a → J7 (n + 1) (L.drop a) = none := fun h => by rw [A1B h]; exact B1z _
  obtain ⟨c, hc⟩ : ∃ c, L.getD a 0 = c := ⟨_, rfl⟩
  have hcs := fun h : a < L.length => by have := Y6 h; rw [hc] at this; exact this
  refine B3 Tryz.func166 rfl Tryz.ntmps166 Tryz.results166 rfl ?_
  intro w0
  refine tS (tR ?_)
  refine sE (D6 rfl) rfl (fun b3 => ?_)
  refine B1 ?_
  refine sP (M8 rfl rfl (by omega)) rfl rfl ?_
  refine sQ (qM rfl) rfl (sQ (qM rfl) rfl ?_)
  refine sP (M8 rfl rfl (by omega)) rfl rfl ?_
  refine H9 ?_
  refine sQ (M6 rfl rfl) rfl (sB (Q2 rfl rfl) rfl rfl (fun h20 => ?_) (fun h20 => ?_))
  refine D9 ?_
  refine B8 (rC rfl (A7 rfl rfl)) (rT rfl) ?_
  (exact Q9.no (hnil (by omega)))
  refine D7 ?_
  (have hal : a < L.length := (by omega); refine sP (N3 rfl rfl rfl (by omega) (S1 hal)) rfl rfl ?_; rw [hc])
  refine sD (nS ?_)
  refine D0 (tS (tR (sB (qE rfl rfl) rfl rfl (fun h53 => ?_) (fun h53 => ?_))))
  refine C6 ?_
  refine sP (J5 (n := 1) rfl rfl (by omega)) rfl rfl ?_
  refine O6 ?_
  refine sQ (qA rfl) rfl (sD (nS (tT (rB (rS ?_)))))
  refine B8 (rC rfl (A7 rfl rfl)) (rT rfl) ?_
  (obtain rfl : c = 63 := E0 (b := 63) (by show _ = (63 : Int); omega); rw [hcs hal]; exact Q9.yes (A4a _ ⟨by decide, by decide⟩) rfl (by omega))
  refine sQ (qA rfl) rfl (sD (nS (cF rfl (tS (tR ?_)))))
  refine sB (qE rfl rfl) rfl rfl (fun h78 => ?_) (fun h78 => ?_)
  refine C6 ?_
  refine sP (J5 (n := 1) rfl rfl (by omega)) rfl rfl ?_
  refine O6 ?_
  refine sQ (qA rfl) rfl (sD (nS (tT (rB (rS ?_)))))
  refine B8 (rC rfl (A7 rfl rfl)) (rT rfl) ?_
  (obtain rfl : c = 73 := E0 (b := 73) (by show _ = (73 : Int); omega); rw [hcs hal]; exact Q9.yes (A4a _ ⟨by decide, by decide⟩) rfl (by omega))
  refine sQ (qA rfl) rfl (sD (nS (cF rfl (tS (tR ?_)))))
  refine sB (qE rfl rfl) rfl rfl (fun h103 => ?_) (fun h103 => ?_)
  refine C6 ?_
  refine sP (J5 (n := 1) rfl rfl (by omega)) rfl rfl ?_
  refine O6 ?_
  refine sQ (qA rfl) rfl (sD (nS (tT (rB (rS ?_)))))
  refine B8 (rC rfl (A7 rfl rfl)) (rT rfl) ?_
  (obtain rfl : c = 66 := E0 (b := 66) (by show _ = (66 : Int); omega); rw [hcs hal]; exact Q9.yes (A4a _ ⟨by decide, by decide⟩) rfl (by omega))
  refine sQ (qA rfl) rfl (sD (nS (cF rfl (tS (tR ?_)))))
  refine sB (qE rfl rfl) rfl rfl (fun h128 => ?_) (fun h128 => ?_)
  refine C6 ?_
  refine sP (J5 (n := 1) rfl rfl (by omega)) rfl rfl ?_
  refine sQ (qM rfl) rfl ?_
  refine sP (A0N rfl rfl (by omega)) rfl rfl ?_
  focus (refine M9 rfl (ih (a + 1) G (by omega) (by omega)) rfl rfl (fun v G1 hle1 hh => ?_); obtain ⟨ta, ca, na, rfl, hra, hm⟩ := hh; obtain ⟨pa, cca, ea, rfl, _⟩ := hra.open; rcases hm with ⟨hm, rfl⟩ | ⟨nx, hm, rfl, hnx⟩; rotate_left; obtain ⟨o, ho⟩ : ∃ o, L.getD nx 0 = o := ⟨_, rfl⟩; rotate_left)
  refine F5 ?_
  refine sE (D6 rfl) rfl (fun b144 => ?_)
  refine C6 ?_
  refine sP (X6 rfl rfl (by omega)) rfl rfl ?_
  refine X8 ?_
  refine B8 (rC rfl (A7 rfl rfl)) (rT rfl) ?_
  (obtain rfl : c = 40 := E0 (b := 40) (by show _ = (40 : Int); omega); rw [hcs hal]; exact Q9.no (by rw [A16, hm]; rfl))
  refine F5 ?_
  refine sE (D6 rfl) rfl (fun b179 => ?_)
  refine C6 ?_
  refine sP (M8 rfl rfl (by omega)) rfl rfl ?_
  refine sQ (qM rfl) rfl (sQ (qM rfl) rfl (sQ (qM rfl) rfl ?_))
  refine sQ (M6 rfl rfl) rfl (sB (Q2 rfl rfl) rfl rfl (fun h193 => ?_) (fun h193 => ?_))
  refine I7 ?_
  refine B8 (rC rfl (A7 rfl rfl)) (rT rfl) ?_
  (obtain rfl : c = 40 := E0 (b := 40) (by show _ = (40 : Int); omega); rw [hcs hal]; exact Q9.no (B1B hm (by omega)))
  refine N4 ?_
  (have hnl : nx < L.length := (by omega); refine sP (N3 rfl rfl rfl (by omega) (S1 hnl)) rfl rfl ?_; rw [ho])
  refine sB (qE rfl rfl) rfl rfl (fun h228 => ?_) (fun h228 => ?_)
  refine D7 ?_
  refine sP (J5 (n := 1) rfl rfl (by omega)) rfl rfl ?_
  refine sQ (qM rfl) rfl ?_
  refine sP (A0N rfl rfl (by omega)) rfl rfl ?_
  focus (refine M9 rfl (ih (nx + 1) G1 (by omega) (by omega)) rfl rfl (fun v G2 hle2 hh => ?_); obtain ⟨tb, cb, nb, rfl, hrb, hm2⟩ := hh; obtain ⟨pb, ccb, eb, rfl, _⟩ := hrb.open; replace hra := hra.mono hle2; rcases hm2 with ⟨hm2, rfl⟩ | ⟨ny, hm2, rfl, hny⟩; rotate_left; obtain ⟨q, hq⟩ : ∃ q, L.getD ny 0 = q := ⟨_, rfl⟩; rotate_left)
  refine F5 ?_
  refine sE (D6 rfl) rfl (fun b247 => ?_)
  refine C1 ?_
  (have hnl : nx < L.length := (by omega); refine sP (N3 rfl rfl rfl (by omega) (S1 hnl)) rfl rfl ?_; rw [ho])
  refine sP (R0 rfl rfl (by omega)) rfl rfl ?_
  refine C6 ?_
  refine sP (X6 rfl rfl (by omega)) rfl rfl ?_
  refine A3L ?_
  refine B8 (rC rfl (A7 rfl rfl)) (rT rfl) ?_
  (obtain rfl : c = 40 := E0 (b := 40) (by show _ = (40 : Int); omega); rw [hcs hal]; exact Q9.no (A4O hm hnl hm2))
  refine F5 ?_
  refine sE (D6 rfl) rfl (fun b300 => ?_)
  refine C1 ?_
  (have hnl : nx < L.length := (by omega); refine sP (N3 rfl rfl rfl (by omega) (S1 hnl)) rfl rfl ?_; rw [ho])
  refine sP (R0 rfl rfl (by omega)) rfl rfl ?_
  refine C6 ?_
  refine sP (M8 rfl rfl (by omega)) rfl rfl ?_
  refine H9 ?_
  refine sQ (M6 rfl rfl) rfl (sB (Q2 rfl rfl) rfl rfl (fun h326 => ?_) (fun h326 => ?_))
  refine A0m ?_
  refine B8 (rC rfl (A7 rfl rfl)) (rT rfl) ?_
  (obtain rfl : c = 40 := E0 (b := 40) (by show _ = (40 : Int); omega); rw [hcs hal]; exact Q9.no (A3n hm hnl hm2 (A1f (by omega))))
  refine H9 ?_
  (have hyl : ny < L.length := (by omega); refine sP (N3 rfl rfl rfl (by omega) (S1 hyl)) rfl rfl ?_; rw [hq])
  refine sB (N1 rfl rfl) rfl rfl (fun h355 => ?_) (fun h355 => ?_)
  refine I7 ?_
  refine B8 (rC rfl (A7 rfl rfl)) (rT rfl) ?_
  (obtain rfl : c = 40 := E0 (b := 40) (by show _ = (40 : Int); omega); rw [hcs hal]; exact Q9.no (A3n hm hnl hm2 (A0V hyl (by rw [hq]; exact D8 (by show _ ≠ (41 : Int); omega)))))
  refine D7 ?_
  (refine F3 (P1 rfl rfl rfl (by omega) (by unfold maxLen; omega) rfl) rfl ?_; rintro _ ⟨b384, rfl⟩)
  refine sQ (Z5 rfl rfl) rfl (sQ (qM rfl) rfl ?_)
  refine sP (J5 (n := 1) rfl rfl (by omega)) rfl rfl ?_
  refine O6 ?_
  refine sQ (qA rfl) rfl (sD (nS ?_))
  (refine A1m (by repeat (first | exact Pk.here | apply Pk.there)) (fun G5 hle5 hsl5 hno5 => ?_))
  refine tT (rB (rS ?_))
  refine B8 (rC rfl (A7 rfl rfl)) (rT rfl) ?_
  (obtain rfl : c = 40 := E0 (b := 40) (by show _ = (40 : Int); omega); rw [hcs hal]; exact Q9.yes (A6x ⟨by decide, by decide⟩ (hra.mono hle5) (hrb.mono hle5) hsl5) (A7S hm hnl hm2 (.inl ⟨by rw [ho]; exact E0 (b := 62) (by show _ = (62 : Int); omega), rfl⟩) hyl (by rw [hq]; exact E0 (b := 41) (by show _ = (41 : Int); omega))) (by omega))
  refine C1 ?_
  refine sP (J5 (n := 1) rfl rfl (by omega)) rfl rfl ?_
  refine sQ (qM rfl) rfl ?_
  refine sP (A0N rfl rfl (by omega)) rfl rfl ?_
  focus (refine M9 rfl (ih (nx + 1) G1 (by omega) (by omega)) rfl rfl (fun v G2 hle2 hh => ?_); obtain ⟨tb, cb, nb, rfl, hrb, hm2⟩ := hh; obtain ⟨pb, ccb, eb, rfl, _⟩ := hrb.open; replace hra := hra.mono hle2; rcases hm2 with ⟨hm2, rfl⟩ | ⟨ny, hm2, rfl, hny⟩; rotate_left; obtain ⟨q, hq⟩ : ∃ q, L.getD ny 0 = q := ⟨_, rfl⟩; rotate_left)
  refine F5 ?_
  refine sE (D6 rfl) rfl (fun b414 => ?_)
  refine C1 ?_
  (have hnl : nx < L.length := (by omega); refine sP (N3 rfl rfl rfl (by omega) (S1 hnl)) rfl rfl ?_; rw [ho])
  refine sP (T8 rfl rfl (by omega)) rfl rfl ?_
  refine sQ (qM rfl) rfl (sQ (qM rfl) rfl (sQ (qM rfl) rfl ?_))
  (have hnl : nx < L.length := (by omega); refine sP (N3 rfl rfl rfl (by omega) (S1 hnl)) rfl rfl ?_; rw [ho])
  refine sB (N1 rfl rfl) rfl rfl (fun h430 => ?_) (fun h430 => ?_)
  refine S3 ?_
  refine rS ?_
  refine B8 (rC rfl (A7 rfl rfl)) (rT rfl) ?_
  (obtain rfl : c = 40 := E0 (b := 40) (by show _ = (40 : Int); omega); rw [hcs hal]; exact Q9.no (A4O hm hnl hm2))
  refine sQ (I4 rfl rfl) rfl (sQ (qM rfl) rfl (sQ (qM rfl) rfl ?_))
  refine sP (X6 rfl rfl (by omega)) rfl rfl ?_
  refine A3L ?_
  refine B8 (rC rfl (A7 rfl rfl)) (rT rfl) ?_
  (obtain rfl : c = 40 := E0 (b := 40) (by show _ = (40 : Int); omega); rw [hcs hal]; exact Q9.no (A4O hm hnl hm2))
  refine F5 ?_
  refine sE (D6 rfl) rfl (fun b500 => ?_)
  refine C1 ?_
  (have hnl : nx < L.length := (by omega); refine sP (N3 rfl rfl rfl (by omega) (S1 hnl)) rfl rfl ?_; rw [ho])
  refine sP (T8 rfl rfl (by omega)) rfl rfl ?_
  refine sQ (qM rfl) rfl (sQ (qM rfl) rfl (sQ (qM rfl) rfl ?_))
  (have hnl : nx < L.length := (by omega); refine sP (N3 rfl rfl rfl (by omega) (S1 hnl)) rfl rfl ?_; rw [ho])
  refine sB (N1 rfl rfl) rfl rfl (fun h516 => ?_) (fun h516 => ?_)
  refine S3 ?_
  refine rS ?_
  refine B8 (rC rfl (A7 rfl rfl)) (rT rfl) ?_
  (obtain rfl : c = 40 := E0 (b := 40) (by show _ = (40 : Int); omega); rw [hcs hal]; exact Q9.no (B1C hm hnl hm2 (by rw [ho]; exact D8 (by show _ ≠ (62 : Int); omega)) (by rw [ho]; exact D8 (by show _ ≠ (42 : Int); omega))))
  refine sQ (I4 rfl rfl) rfl (sQ (qM rfl) rfl (sQ (qM rfl) rfl ?_))
  refine sP (M8 rfl rfl (by omega)) rfl rfl ?_
  refine H9 ?_
  refine sQ (M6 rfl rfl) rfl (sB (Q2 rfl rfl) rfl rfl (fun h559 => ?_) (fun h559 => ?_))
  refine A0m ?_
  refine B8 (rC rfl (A7 rfl rfl)) (rT rfl) ?_
  (obtain rfl : c = 40 := E0 (b := 40) (by show _ = (40 : Int); omega); rw [hcs hal]; exact Q9.no (A3n hm hnl hm2 (A1f (by omega))))
  refine H9 ?_
  (have hyl : ny < L.length := (by omega); refine sP (N3 rfl rfl rfl (by omega) (S1 hyl)) rfl rfl ?_; rw [hq])
  refine sB (N1 rfl rfl) rfl rfl (fun h588 => ?_) (fun h588 => ?_)
  refine I7 ?_
  refine B8 (rC rfl (A7 rfl rfl)) (rT rfl) ?_
  (obtain rfl : c = 40 := E0 (b := 40) (by show _ = (40 : Int); omega); rw [hcs hal]; exact Q9.no (A3n hm hnl hm2 (A0V hyl (by rw [hq]; exact D8 (by show _ ≠ (41 : Int); omega)))))
  refine D7 ?_
  (refine F3 (P1 rfl rfl rfl (by omega) (by unfold maxLen; omega) rfl) rfl ?_; rintro _ ⟨b617, rfl⟩)
  refine sQ (Z5 rfl rfl) rfl (sQ (qM rfl) rfl ?_)
  refine sP (J5 (n := 1) rfl rfl (by omega)) rfl rfl ?_
  refine O6 ?_
  refine sQ (qA rfl) rfl (sD (nS ?_))
  (refine A1m (by repeat (first | exact Pk.here | apply Pk.there)) (fun G5 hle5 hsl5 hno5 => ?_))
  refine tT (rB (rS ?_))
  refine B8 (rC rfl (A7 rfl rfl)) (rT rfl) ?_
  (obtain rfl : c = 40 := E0 (b := 40) (by show _ = (40 : Int); omega); rw [hcs hal]; exact Q9.yes (A6x ⟨by decide, by decide⟩ (hra.mono hle5) (hrb.mono hle5) hsl5) (A7S hm hnl hm2 (.inr ⟨by rw [ho]; exact E0 (b := 42) (by show _ = (42 : Int); omega), rfl⟩) hyl (by rw [hq]; exact E0 (b := 41) (by show _ = (41 : Int); omega))) (by omega))
  refine I7 ?_
  refine B8 (rC rfl (A7 rfl rfl)) (rT rfl) ?_
  (rw [hcs hal]; exact Q9.no (B1A n _ (D8 (by show _ ≠ (63 : Int); omega)) (D8 (by show _ ≠ (73 : Int); omega)) (D8 (by show _ ≠ (66 : Int); omega)) (D8 (by show _ ≠ (40 : Int); omega))))
theorem B1D (acc : Nat) (l : A0) (c : UInt8) : S0 acc (l ++ [c]) = S0 acc l * 10 + (c.toNat - 48) := by unfold S0; rw [List.foldl_append]; rfl
theorem A7T {l : A0} {i : Nat} (h : i < l.length) : S0 0 (l.take (i + 1)) = S0 0 (l.take i) * 10 + ((l.getD i 0).toNat - 48) := by
 rw [List.take_succ_eq_append_getElem h, B1D, List.getD_eq_getElem?_getD, List.getElem?_eq_getElem h]; rfl
theorem A7U : ∀ (l : A0) (acc : Nat), (∀ c ∈ l, D3 c) → S0 acc l + 1 ≤ (acc + 1) * 10 ^ l.length
 | [], acc, _ => by rw [A3c]; simp
 | c :: r, acc, h => by
  have hc := h c List.mem_cons_self
  unfold D3 at hc
  have ih := A7U r (acc * 10 + (c.toNat - 48)) (fun x hx => h x (List.mem_cons_of_mem _ hx))
  rw [A1a, List.length_cons, Nat.pow_succ, Nat.mul_comm (10 ^ r.length) 10, ← Nat.mul_assoc]
  exact Nat.le_trans ih (Nat.mul_le_mul_right _ (by omega))
theorem B1E {l : A0} (h : ∀ c ∈ l, D3 c) (i : Nat) : ∀ c ∈ l.take i, D3 c := fun c hc => h c (List.mem_of_mem_take hc)
theorem B1F {l : A0} (h : ∀ c ∈ l, D3 c) {i : Nat} (hi : i < l.length) : D3 (l.getD i 0) := by
 rw [List.getD_eq_getElem?_getD, List.getElem?_eq_getElem hi]; exact h _ (List.getElem_mem hi)
theorem A7V {l : A0} (h : ∀ c ∈ l, D3 c) (hl : l.length ≤ 4) (i : Nat) : S0 0 (l.take i) ≤ 9999 := by
 have h1 := A7U (l.take i) 0 (B1E h i)
 have h2 : (l.take i).length ≤ 4 := by rw [List.length_take]; omega
 have h3 : 10 ^ (l.take i).length ≤ 10 ^ 4 := Nat.pow_le_pow_right (by decide) h2
 omega
theorem B1G (ds : A0) (G : IM) (hd : ∀ c ∈ ds, D3 c) (hl : ds.length ≤ 4) : Fn Tryz.prog 168 [.string (A9 ds)] [] G (H4 (if ds.length = 0 ∨ (ds.getD 0 0 = 48 ∧ 1 < ds.length) then .tuple ⟨[.int .i64 0, .bool false]⟩ else .tuple ⟨[.int .i64 ((S0 0 ds : Nat) : Int), .bool true]⟩) G) := by
 have hsz := I9 ds
 have hg : ∀ i, i < ds.length → 48 ≤ (ds.getD i 0).toNat ∧ (ds.getD i 0).toNat ≤ 57 := fun i hi => B1F hd hi
 have h4 := A7V hd hl
 have hg0 := hg 0
 have ht : ds.take ds.length = ds := List.take_length
 refine B3 Tryz.func168 rfl Tryz.ntmps168 Tryz.results168 rfl ?_
 intro w0
 refine C1 ?_
 refine sQ (M6 rfl rfl) rfl (sB (Z1 rfl rfl) rfl rfl (fun h11 => ?_) (fun h11 => ?_))
 refine sQ (qM rfl) rfl (sQ (qM rfl) rfl ?_)
 (have h0l : 0 < ds.length := (by omega); refine sP (N3 (j := ((0 : Nat) : Int)) rfl rfl rfl (by decide) (S1 h0l)) rfl rfl ?_)
 refine sP (I1 rfl rfl (by omega)) rfl rfl ?_
 refine W0 ?_
 refine sQ (M6 rfl rfl) rfl ?_
 refine sP (I1 rfl rfl (by omega)) rfl rfl ?_
 refine sQ (qM rfl) rfl (sQ (qM rfl) rfl ?_)
 refine sQ (M6 rfl rfl) rfl ?_
 refine sP (A2f rfl rfl (by omega)) rfl rfl ?_
 refine sQ (L7 rfl rfl) rfl (sQ (qM rfl) rfl (sQ (qM rfl) rfl ?_))
 (have h0l : 0 < ds.length := (by omega); refine sP (N3 (j := ((0 : Nat) : Int)) rfl rfl rfl (by decide) (S1 h0l)) rfl rfl ?_)
 refine sB (qE rfl rfl) rfl rfl (fun h43 => ?_) (fun h43 => ?_)
 refine sQ (qM rfl) rfl (sQ (qM rfl) rfl ?_)
 refine sQ (M6 rfl rfl) rfl (sB (Z1 rfl rfl) rfl rfl (fun h47 => ?_) (fun h47 => ?_))
 refine N4 ?_
 refine B8 (rT rfl) (rT rfl) ?_
 (exact ⟨rfl, by rw [if_pos (by first | (left; omega) | (right; exact ⟨E0 (b := 48) (by show _ = (48 : Int); omega), by omega⟩))], rfl⟩)
 refine A0m ?_
 refine D0 ?_
 (refine O9 (fun (i : Nat) => ⟨[(6, .int .i64 (i : Int)), (5, .int .i64 ((S0 0 (ds.take i) : Nat) : Int)), (4, .bool false), (0, .string (A9 ds))], [], G⟩) (fun i => i ≤ ds.length) (fun i => ds.length - i) 0 ?_ ?_ ?_)
 exact I6
 (exact Nat.zero_le _)
 (rintro (i : Nat) hi; replace hi : i ≤ ds.length := hi; have hgi := hg i; have h4i := h4 i; have hti := @A7T ds i)
 refine tS (tS (tR (sQ (qM rfl) rfl (sQ (qM rfl) rfl ?_))))
 refine sQ (M6 rfl rfl) rfl (sB (N2 rfl rfl) rfl rfl (fun h98 => ?_) (fun h98 => ?_))
 refine sD (nS (qT rfl (tK (nS (tS ?_)))))
 refine D0 ?_
 refine tS (tS (tR (sQ (qM rfl) rfl (sQ (qM rfl) rfl ?_))))
 (have hil : i < ds.length := (by omega); refine sP (N3 rfl rfl rfl (by omega) (S1 hil)) rfl rfl ?_)
 refine sP (M8 rfl rfl (by omega)) rfl rfl ?_
 refine sQ (qM rfl) rfl (sQ (qM rfl) rfl (sQ (qM rfl) rfl ?_))
 (have hil : i < ds.length := (by omega); refine sP (N3 rfl rfl rfl (by omega) (S1 hil)) rfl rfl ?_)
 refine sP (A2f rfl rfl (by omega)) rfl rfl ?_
 refine C6 ?_
 refine sP (A6i (n := 10) rfl rfl (by omega)) rfl rfl ?_
 refine sQ (qM rfl) rfl (sQ (qM rfl) rfl ?_)
 (have hil : i < ds.length := (by omega); refine sP (N3 rfl rfl rfl (by omega) (S1 hil)) rfl rfl ?_)
 (have hgi2 := hgi hil; refine sP (A64 rfl rfl (by omega) (by omega)) rfl rfl ?_; rw [show (((ds.getD i 0).toNat : Nat) : Int) - 48 = (((ds.getD i 0).toNat - 48 : Nat) : Int) by omega])
 refine sP (A6j rfl rfl rfl (by omega) (by omega)) rfl rfl ?_
 (refine sP (J5 (m := S0 0 (ds.take i) * 10) rfl rfl (by omega)) rfl rfl ?_; rw [← hti hil])
 refine I2 ?_
 refine sP (J5 (n := 1) rfl rfl (by omega)) rfl rfl ?_
 refine sQ (qA rfl) rfl (sD ?_)
 refine P6 (i + 1) ?_ ?_ ?_
 exact I6
 (show i + 1 ≤ ds.length; omega)
 (show ds.length - (i + 1) < ds.length - i; omega)
 refine A1n ?_
 refine B8 (rT rfl) (rT rfl) ?_
 (obtain rfl : i = ds.length := (by omega); rw [ht]; exact ⟨rfl, by rw [if_neg (by rintro (h | ⟨h, h'⟩); omega; (have hx : ((ds.getD 0 0).toNat : Int) = 48 := (by rw [h]; rfl); omega))], rfl⟩)
 refine A1n ?_
 refine D0 ?_
 (refine O9 (fun (i : Nat) => ⟨[(6, .int .i64 (i : Int)), (5, .int .i64 ((S0 0 (ds.take i) : Nat) : Int)), (4, .bool false), (0, .string (A9 ds))], [], G⟩) (fun i => i ≤ ds.length) (fun i => ds.length - i) 0 ?_ ?_ ?_)
 exact I6
 (exact Nat.zero_le _)
 (rintro (i : Nat) hi; replace hi : i ≤ ds.length := hi; have hgi := hg i; have h4i := h4 i; have hti := @A7T ds i)
 refine tS (tS (tR (sQ (qM rfl) rfl (sQ (qM rfl) rfl ?_))))
 refine sQ (M6 rfl rfl) rfl (sB (N2 rfl rfl) rfl rfl (fun h209 => ?_) (fun h209 => ?_))
 refine sD (nS (qT rfl (tK (nS (tS ?_)))))
 refine D0 ?_
 refine tS (tS (tR (sQ (qM rfl) rfl (sQ (qM rfl) rfl ?_))))
 (have hil : i < ds.length := (by omega); refine sP (N3 rfl rfl rfl (by omega) (S1 hil)) rfl rfl ?_)
 refine sP (M8 rfl rfl (by omega)) rfl rfl ?_
 refine sQ (qM rfl) rfl (sQ (qM rfl) rfl (sQ (qM rfl) rfl ?_))
 (have hil : i < ds.length := (by omega); refine sP (N3 rfl rfl rfl (by omega) (S1 hil)) rfl rfl ?_)
 refine sP (A2f rfl rfl (by omega)) rfl rfl ?_
 refine C6 ?_
 refine sP (A6i (n := 10) rfl rfl (by omega)) rfl rfl ?_
 refine sQ (qM rfl) rfl (sQ (qM rfl) rfl ?_)
 (have hil : i < ds.length := (by omega); refine sP (N3 rfl rfl rfl (by omega) (S1 hil)) rfl rfl ?_)
 (have hgi2 := hgi hil; refine sP (A64 rfl rfl (by omega) (by omega)) rfl rfl ?_; rw [show (((ds.getD i 0).toNat : Nat) : Int) - 48 = (((ds.getD i 0).toNat - 48 : Nat) : Int) by omega])
 refine sP (A6j rfl rfl rfl (by omega) (by omega)) rfl rfl ?_
 (refine sP (J5 (m := S0 0 (ds.take i) * 10) rfl rfl (by omega)) rfl rfl ?_; rw [← hti hil])
 refine I2 ?_
 refine sP (J5 (n := 1) rfl rfl (by omega)) rfl rfl ?_
 refine sQ (qA rfl) rfl (sD ?_)
 refine P6 (i + 1) ?_ ?_ ?_
 exact I6
 (show i + 1 ≤ ds.length; omega)
 (show ds.length - (i + 1) < ds.length - i; omega)
 refine A1n ?_
 refine B8 (rT rfl) (rT rfl) ?_
 (obtain rfl : i = ds.length := (by omega); rw [ht]; exact ⟨rfl, by rw [if_neg (by rintro (h | ⟨h, h'⟩); omega; (have hx : ((ds.getD 0 0).toNat : Int) = 48 := (by rw [h]; rfl); omega))], rfl⟩)
 refine A0m ?_
 refine sQ (M6 rfl rfl) rfl ?_
 refine sP (A1F rfl rfl (by omega)) rfl rfl ?_
 refine A8J ?_
 refine B8 (rT rfl) (rT rfl) ?_
 (exact ⟨rfl, by rw [if_pos (by first | (left; omega) | (right; exact ⟨E0 (b := 48) (by show _ = (48 : Int); omega), by omega⟩))], rfl⟩)
def B1H (L : A0) (m : Option (Int × A0)) (G : IM) : IM → Value → List A1 → Prop := fun G' v outs => G' = G ∧ outs = [] ∧ ∃ n next, v = .tuple ⟨[.int .i64 n, .int .i64 next]⟩ ∧ 0 ≤ n ∧ n ≤ 9999 ∧ A4N L m n next
theorem A7W : ∀ l : A0, ∀ c ∈ l.take (M1 l), D3 c
 | [], c, h => by simp at h
 | d :: r, c, h => by
  rw [M1] at h
  split at h
  ·rename_i hd
   rw [List.take_succ_cons] at h
   rcases List.mem_cons.1 h with rfl | h
   ·exact hd
   ·exact A7W r c h
  ·simp at h
theorem A7X (l : A0) : M1 (l.take 4) ≤ 4 ∧ M1 (l.take 4) ≤ l.length := by
 have := A4F (l.take 4)
 rw [List.length_take] at this
 omega
theorem B1I (l : A0) : ∀ c ∈ l.take (M1 (l.take 4)), D3 c := by
 have h := A7W (l.take 4)
 rw [List.take_take, Nat.min_eq_left (A7X l).1] at h
 exact h
theorem B1J {L : A0} {a e : Nat} (h1 : a ≤ e) (h2 : e - a ≤ M1 ((L.drop a).take 4)) (h3 : e < L.length) (h4 : e < a + 4) (hd : D3 (L.getD e 0)) : e + 1 - a ≤ M1 ((L.drop a).take 4) := by
 have hl : e - a < ((L.drop a).take 4).length := by rw [List.length_take, List.length_drop]; omega
 have hx : ((L.drop a).take 4)[e - a] = L.getD e 0 := by
  rw [List.getElem_take, List.getElem_drop, List.getD_eq_getElem?_getD, List.getElem?_eq_getElem h3]
  simp only [Option.getD_some]
  congr 1; omega
 have := A4D h2 hl (by rw [hx]; exact hd)
 omega
theorem B1K {L : A0} {a e : Nat} (h1 : a ≤ e) (h2 : e - a ≤ M1 ((L.drop a).take 4)) (hd : e < L.length → e < a + 4 → ¬D3 (L.getD e 0)) : e - a = M1 ((L.drop a).take 4) := by
 refine A4E h2 (fun hl => ?_)
 have hl2 := hl
 rw [List.length_take, List.length_drop] at hl2
 have h3 : e < L.length := by omega
 have hx : ((L.drop a).take 4)[e - a] = L.getD e 0 := by
  rw [List.getElem_take, List.getElem_drop, List.getD_eq_getElem?_getD, List.getElem?_eq_getElem h3]
  simp only [Option.getD_some]
  congr 1; omega
 rw [hx]; exact hd h3 (by omega)
theorem A1g {l : A0} {m : Nat} (h : 0 < m) : (l.take m).getD 0 0 = l.headD 0 := by
 cases l with
 | nil => simp
 | cons c r =>
  obtain ⟨m, rfl⟩ : ∃ k, m = k + 1 := ⟨m - 1, by omega⟩
  rfl
theorem A4Q (L : A0) (hL : L.length ≤ 4294967296) (a : Nat) (G : IM) (ha : a ≤ L.length) : Fn Tryz.prog 105 [.string (A9 L), .int .i64 (a : Int)] [] G (B1H L (X1 (L.drop a)) G) := by
 have hsz := I9 L
 obtain ⟨m, hm⟩ : ∃ m, M1 ((L.drop a).take 4) = m := ⟨_, rfl⟩
 have hm4 := A7X (L.drop a)
 have hmd := B1I (L.drop a)
 have hgo := @B1J L a
 have hst := @B1K L a
 rw [hm] at hm4 hmd
 simp only [hm] at hgo hst
 rw [List.length_drop] at hm4
 have hlen : ((L.drop a).take m).length = m := by rw [List.length_take, List.length_drop]; omega
 have hN := B1G ((L.drop a).take m) G hmd (by omega)
 rw [hlen] at hN
 have hr : X1 (L.drop a) = if m = 0 ∨ ((L.drop a).headD 0 = 48 ∧ 1 < m) then none else some (((S0 0 ((L.drop a).take m) : Nat) : Int), (L.drop a).drop m) := by unfold X1; simp only [hm]
 have h99 : S0 0 ((L.drop a).take m) ≤ 9999 := by
  have := A7V hmd (by omega) ((L.drop a).take m).length
  rwa [List.take_length] at this
 rw [hr]
 have hdd : (L.drop a).drop m = L.drop (a + m) := by rw [List.drop_drop]
 refine B3 Tryz.func105 rfl Tryz.ntmps105 Tryz.results105 rfl ?_
 intro w0
 refine D9 ?_
 refine D0 ?_
 (refine O9 (fun (e : Nat) => ⟨[(6, .int .i64 (e : Int)), (0, .string (A9 L)), (1, .int .i64 (a : Int))], [], G⟩) (fun e => a ≤ e ∧ e - a ≤ m) (fun e => a + m - e) a ?_ ?_ ?_)
 exact I6
 (exact ⟨Nat.le_refl _, by omega⟩)
 (rintro (e : Nat) ⟨he1, he2⟩; have hgo2 := @hgo e he1 he2; have hst2 := @hst e he1 he2; unfold D3 at hgo2 hst2)
 refine tS (tS (tR (sQ (qM rfl) rfl (sQ (qM rfl) rfl ?_))))
 refine sQ (M6 rfl rfl) rfl (sB (N2 rfl rfl) rfl rfl (fun h25 => ?_) (fun h25 => ?_))
 refine sQ (qM rfl) rfl (sQ (qM rfl) rfl (sQ (qM rfl) rfl ?_))
 refine sP (K2 rfl rfl (by omega) (by omega)) rfl rfl ?_
 refine sB (N2 rfl rfl) rfl rfl (fun h30 => ?_) (fun h30 => ?_)
 refine H9 ?_
 (have hel : e < L.length := (by omega); refine sP (N3 rfl rfl rfl (by omega) (S1 hel)) rfl rfl ?_)
 refine sB (Q2 rfl rfl) rfl rfl (fun h36 => ?_) (fun h36 => ?_)
 refine H9 ?_
 (have hel : e < L.length := (by omega); refine sP (N3 rfl rfl rfl (by omega) (S1 hel)) rfl rfl ?_)
 refine sB (S8 rfl rfl) rfl rfl (fun h42 => ?_) (fun h42 => ?_)
 refine sQ (I4 rfl rfl) rfl (sD (nS (qT rfl (tK (nS ?_)))))
 refine D0 ?_
 refine tR (sQ (qM rfl) rfl ?_)
 refine sP (J5 (n := 1) rfl rfl (by omega)) rfl rfl ?_
 refine sQ (qA rfl) rfl (sD (A1k ?_))
 (have hg3 := hgo2 hel (by omega) (by omega); refine P6 (e + 1) ?_ ?_ ?_)
 exact I6
 (show a ≤ e + 1 ∧ e + 1 - a ≤ m; omega)
 (show a + m - (e + 1) < a + m - e; omega)
 refine S2 ?_
 (have hem := hst2 (fun h1 h2 => by omega); refine sP (A0O (l := a) (h := e) rfl rfl rfl rfl (by omega) (by omega)) rfl rfl ?_; rw [A0w, hem])
 focus (refine I5 rfl hN rfl rfl ?_; by_cases hcc : m = 0 ∨ (((L.drop a).take m).getD 0 0 = 48 ∧ 1 < m); (rw [if_pos hcc]); rotate_left; (rw [if_neg hcc]); rotate_left)
 refine A0n ?_
 refine B8 (rT rfl) (rT rfl) ?_
 (exact ⟨rfl, rfl, 0, -1, rfl, by omega, by omega, .inl ⟨by rw [if_pos (hcc.imp id (fun h => ⟨by rw [← A1g (m := m) (by omega)]; exact h.1, h.2⟩))], rfl⟩⟩)
 refine A1G ?_
 refine B8 (rT rfl) (rT rfl) ?_
 (exact ⟨rfl, rfl, _, _, rfl, by omega, by omega, .inr ⟨e, by rw [if_neg (fun h => hcc (h.imp id (fun h => ⟨by rw [A1g (by omega)]; exact h.1, h.2⟩))), hdd, show a + m = e by omega], rfl, by omega⟩⟩)
 refine X8 ?_
 (have hem := hst2 (fun h1 h2 => by omega); refine sP (A0O (l := a) (h := e) rfl rfl rfl rfl (by omega) (by omega)) rfl rfl ?_; rw [A0w, hem])
 focus (refine I5 rfl hN rfl rfl ?_; by_cases hcc : m = 0 ∨ (((L.drop a).take m).getD 0 0 = 48 ∧ 1 < m); (rw [if_pos hcc]); rotate_left; (rw [if_neg hcc]); rotate_left)
 refine A0n ?_
 refine B8 (rT rfl) (rT rfl) ?_
 (exact ⟨rfl, rfl, 0, -1, rfl, by omega, by omega, .inl ⟨by rw [if_pos (hcc.imp id (fun h => ⟨by rw [← A1g (m := m) (by omega)]; exact h.1, h.2⟩))], rfl⟩⟩)
 refine A1G ?_
 refine B8 (rT rfl) (rT rfl) ?_
 (exact ⟨rfl, rfl, _, _, rfl, by omega, by omega, .inr ⟨e, by rw [if_neg (fun h => hcc (h.imp id (fun h => ⟨by rw [A1g (by omega)]; exact h.1, h.2⟩))), hdd, show a + m = e by omega], rfl, by omega⟩⟩)
 refine A1G ?_
 (have hem := hst2 (fun h1 h2 => by omega); refine sP (A0O (l := a) (h := e) rfl rfl rfl rfl (by omega) (by omega)) rfl rfl ?_; rw [A0w, hem])
 focus (refine I5 rfl hN rfl rfl ?_; by_cases hcc : m = 0 ∨ (((L.drop a).take m).getD 0 0 = 48 ∧ 1 < m); (rw [if_pos hcc]); rotate_left; (rw [if_neg hcc]); rotate_left)
 refine A0n ?_
 refine B8 (rT rfl) (rT rfl) ?_
 (exact ⟨rfl, rfl, 0, -1, rfl, by omega, by omega, .inl ⟨by rw [if_pos (hcc.imp id (fun h => ⟨by rw [← A1g (m := m) (by omega)]; exact h.1, h.2⟩))], rfl⟩⟩)
 refine A1G ?_
 refine B8 (rT rfl) (rT rfl) ?_
 (exact ⟨rfl, rfl, _, _, rfl, by omega, by omega, .inr ⟨e, by rw [if_neg (fun h => hcc (h.imp id (fun h => ⟨by rw [A1g (by omega)]; exact h.1, h.2⟩))), hdd, show a + m = e by omega], rfl, by omega⟩⟩)
 refine S3 ?_
 refine sQ (qM rfl) rfl ?_
 (have hem := hst2 (fun h1 h2 => by omega); refine sP (A0O (l := a) (h := e) rfl rfl rfl rfl (by omega) (by omega)) rfl rfl ?_; rw [A0w, hem])
 focus (refine I5 rfl hN rfl rfl ?_; by_cases hcc : m = 0 ∨ (((L.drop a).take m).getD 0 0 = 48 ∧ 1 < m); (rw [if_pos hcc]); rotate_left; (rw [if_neg hcc]); rotate_left)
 refine A0n ?_
 refine B8 (rT rfl) (rT rfl) ?_
 (exact ⟨rfl, rfl, 0, -1, rfl, by omega, by omega, .inl ⟨by rw [if_pos (hcc.imp id (fun h => ⟨by rw [← A1g (m := m) (by omega)]; exact h.1, h.2⟩))], rfl⟩⟩)
 refine A1G ?_
 refine B8 (rT rfl) (rT rfl) ?_
 (exact ⟨rfl, rfl, _, _, rfl, by omega, by omega, .inr ⟨e, by rw [if_neg (fun h => hcc (h.imp id (fun h => ⟨by rw [A1g (by omega)]; exact h.1, h.2⟩))), hdd, show a + m = e by omega], rfl, by omega⟩⟩)
def I3 (L : A0) (m : Option (Tm × A0)) : IM → Value → List A1 → Prop := J1 fun G' v => ∃ t cells next, v = .tuple ⟨[.agg ⟨cells⟩, .int .i64 next]⟩ ∧ C7 G' t cells ∧ A4N L m t next
theorem I3.no {L : A0} {m : Option (Tm × A0)} {G : IM} (h : m = none) : I3 L m G (.tuple ⟨[.agg ⟨[.int .i64 0, .string ⟨⟨[]⟩⟩, .int .i64 0, .int .i64 0, .slice none 0 0, .int .i64 0, .slice none 0 0, .int .i64 0, .slice none 0 0]⟩, .int .i64 (-1)]⟩) [] :=
 ⟨rfl, _, _, _, rfl, A1P (k := 0) (ks := []) (es := []) ⟨by decide, by decide⟩ rfl (B7.nil _ _) rfl, .inl ⟨h, rfl⟩⟩
theorem I3.yes {L : A0} {m : Option (Tm × A0)} {G : IM} {t : Tm} {cells : List Value} {nx : Nat} (hr : C7 G t cells) (h : m = some (t, L.drop nx)) (hn : nx ≤ L.length) : I3 L m G (.tuple ⟨[.agg ⟨cells⟩, .int .i64 (nx : Int)]⟩) [] := ⟨rfl, t, cells, _, rfl, hr, .inr ⟨nx, h, rfl, hn⟩⟩
theorem I3.noT {L : A0} {m : Option (Tm × A0)} {G : IM} {t : Tm} {cells : List Value} (hr : C7 G t cells) (h : m = none) : I3 L m G (.tuple ⟨[.agg ⟨cells⟩, .int .i64 (-1)]⟩) [] := ⟨rfl, t, cells, _, rfl, hr, .inl ⟨h, rfl⟩⟩
def A3o (L : A0) (n : Nat) : Prop := ∀ (a : Nat) (G : IM), a ≤ L.length → Fn Tryz.prog 51 [.string (A9 L), .int .i64 (a : Int), .int .i64 (n : Int)] [] G (I3 L (D4 n (L.drop a)))
theorem V7 {G : IM} {t : Tm} {cells : List Value} (h : C7 G t cells) : ∃ x1 x2 x3 x4 x5 x6 x7 x8 x9, cells = [x1, x2, x3, x4, x5, x6, x7, x8, x9] := by
 obtain ⟨_, _, _, _, _, _, _, _, _, rfl, _⟩ := h.open; exact ⟨_, _, _, _, _, _, _, _, _, rfl⟩
theorem E7.snoc2 {G : IM} : ∀ {ts : List Tm} {es : List (List Value)} {t : Tm} {e : List Value}, E7 G ts es → C7 G t e → E7 G (ts ++ [t]) (es ++ [e])
 | [], es, t, e, h, h2 => by
  simp only [E7] at h
  subst h
  simp only [List.nil_append, E7]
  exact ⟨e, [], rfl, h2, rfl⟩
 | t' :: ts, es, t, e, h, h2 => by
  simp only [E7] at h
  obtain ⟨a, r, rfl, h3, h4⟩ := h
  simp only [List.cons_append, E7]
  exact ⟨a, r ++ [e], rfl, h3, E7.snoc2 h4 h2⟩
section ix
variable {P : Program} {Γ : E6} {env : F9} {hp : List A1} {G : IM} {ty : TypeId}
theorem Y8 {x y : Operand} {t : TypeId} {i : K1} [hI : E8 P t i] (hd : i.desc = .string) {l : A0} {k : IntKind} {j : Nat} {c : UInt8}
  (hx : evo env x = some (.string (A9 l))) (hy : evo env y = some (.int k (j : Int))) (h : j < l.length) (hc : l.getD j 0 = c) :
  C9 P Γ ⟨env, hp, G⟩ (.index t x y) ty (.int .u8 (c.toNat : Int)) := by
 subst hc
 exact N3 hd hx hy (by omega) (S1 h)
end ix
theorem B1L {f : A0 → Option (Tm × A0)} {L E : A0} {i a nx : Nat} {t : Tm} (hi : i < E.length) (h : f (L.drop a) = some (t, L.drop nx)) (h2 : nx < L.length) (h3 : L.getD nx 0 = E.getD i 0) : P4 f (E.drop i) (L.drop a) = (P4 f (E.drop (i + 1)) (L.drop (nx + 1))).map fun y => (t :: y.1, y.2) := by
 rw [Y6 hi, P4, h]
 simp only [Option.bind_some]
 rw [A0h h2 h3]
 rfl
theorem B1M {f : A0 → Option (Tm × A0)} {L E : A0} {i a : Nat} (hi : i < E.length) (h : f (L.drop a) = none) : P4 f (E.drop i) (L.drop a) = none := by rw [Y6 hi, P4, h]; rfl
theorem A7Y {f : A0 → Option (Tm × A0)} {L E : A0} {i a nx : Nat} {t : Tm} (hi : i < E.length) (h : f (L.drop a) = some (t, L.drop nx)) (h2 : B9 (E.getD i 0) (L.drop nx) = none) : P4 f (E.drop i) (L.drop a) = none := by
 rw [Y6 hi, P4, h]
 simp only [Option.bind_some]
 rw [h2]; rfl
theorem A2F (L : A0) (hL : L.length ≤ 4294967296) (n : Nat) (hP : A3o L n) (k : Int) (hk : F1 k) (ks0 : List Tm) (es0 : List (List Value)) (p0 : Option Addr) (c0 : Nat) (E : A0) (hE : E.length ≤ 100) (h0 : ks0.length ≤ 100) (a : Nat) (ha : a ≤ L.length) (G : IM) (hr0 : E7 G ks0 es0) :
  Fn Tryz.prog 103 [.agg ⟨[.int .i64 k, .string ⟨⟨[]⟩⟩, .int .i64 0, .int .i64 0, .slice none 0 0, .int .i64 0, .slice none 0 0, .int .i64 0, .slice p0 ks0.length c0]⟩, .string (A9 L), .int .i64 (a : Int), .string (A9 E), .int .i64 (n : Int)] [.slc p0 c0 28 9 ks0.length es0.flatten] G
   (I3 L ((P4 (D4 n) E (L.drop a)).map fun x => (nd k (ks0 ++ x.1), x.2))) := by
 have hsz := I9 L
 have hszE := I9 E
 refine B3 Tryz.func103 rfl Tryz.ntmps103 Tryz.results103 rfl ?_
 intro w0
 refine tS (tR ?_)
 refine sE (J6 rfl rfl) rfl (fun b3 => ?_)
 refine sE (D6 rfl) rfl (fun b4 => ?_)
 refine C1 ?_
 refine D0 ?_
 (refine O9 (fun (x : Nat × Nat × Option Addr × Nat × Nat × List Tm × List (List Value) × IM) => ⟨[(12, .int .i64 (x.1 : Int)), (2, .int .i64 (x.2.1 : Int)), (1, .string (A9 L)), (3, .string (A9 E)), (4, .int .i64 (n : Int)), (5, .pointer (some ⟨b3, 0, none⟩)), (10, .pointer (some ⟨b4, 0, none⟩))], [.slc x.2.2.1 x.2.2.2.1 28 9 x.2.2.2.2.1 x.2.2.2.2.2.2.1.flatten, .blk b3 [.int .i64 k, .string ⟨⟨[]⟩⟩, .int .i64 0, .int .i64 0, .slice none 0 0, .int .i64 0, .slice none 0 0, .int .i64 0, .slice x.2.2.1 x.2.2.2.2.1 x.2.2.2.1], .blk b4 [.int .i64 0, .string ⟨⟨[]⟩⟩, .int .i64 0, .int .i64 0, .slice none 0 0, .int .i64 0, .slice none 0 0, .int .i64 0, .slice none 0 0]], x.2.2.2.2.2.2.2⟩) (fun x => x.1 ≤ E.length ∧ x.2.1 ≤ L.length ∧ x.2.2.2.2.1 = ks0.length + x.1 ∧ x.2.2.2.2.2.1.length = x.1 ∧ B4 G x.2.2.2.2.2.2.2 ∧ E7 x.2.2.2.2.2.2.2 (ks0 ++ x.2.2.2.2.2.1) x.2.2.2.2.2.2.1 ∧ P4 (D4 n) E (L.drop a) = (P4 (D4 n) (E.drop x.1) (L.drop x.2.1)).map fun y => (x.2.2.2.2.2.1 ++ y.1, y.2)) (fun x => E.length - x.1) (0, a, p0, c0, ks0.length, [], es0, G) ?_ ?_ ?_)
 (simp only [T9]; exact I6)
 (exact ⟨Nat.zero_le _, ha, rfl, rfl, B4.refl _, by simpa using hr0, by simp⟩)
 (rintro ⟨i, ai, pi, ci, nn, us, es, Gi⟩ ⟨hi, hai, hnn, hus, hle, hrl, hmo⟩; simp only [] at hi hai hnn hus hle hrl hmo ⊢)
 refine tS (tS (tR (sQ (qM rfl) rfl (sQ (qM rfl) rfl ?_))))
 refine sQ (M6 rfl rfl) rfl (sB (N2 rfl rfl) rfl rfl (fun h25 => ?_) (fun h25 => ?_))
 refine sD (nS (qT rfl (tK (nS (tS ?_)))))
 refine D0 ?_
 refine R6 ?_
 focus (have hiE : i < E.length := (by omega); refine M9 rfl (hP ai Gi hai) rfl rfl (fun v G1 hle1 hh => ?_); obtain ⟨ta, ca, na, rfl, hra, hm⟩ := hh; have hoa := hra.one; obtain ⟨x1, x2, x3, x4, x5, x6, x7, x8, x9, rfl⟩ := V7 hra; replace hrl := hrl.mono hle1; rcases hm with ⟨hm, rfl⟩ | ⟨nx, hm, rfl, hnx⟩; rotate_left; obtain ⟨o, ho⟩ : ∃ o, L.getD nx 0 = o := ⟨_, rfl⟩; obtain ⟨q, hq⟩ : ∃ q, E.getD i 0 = q := ⟨_, rfl⟩; rotate_left)
 refine F5 ?_
 refine sE (D6 rfl) rfl (fun b42 => ?_)
 refine sS rfl rfl rfl rfl hoa rfl ?_
 refine sQ (qA rfl) rfl (sD (nS (tS (tS ?_))))
 refine K7 K9 rfl ?_
 refine I0 (i := 0) (l' := [tt,ff,ff,ff,ff,ff,ff,ff,ff,ff,ff,ff,ff,ff,ff,ff,ff]) rfl E9 (qM rfl) rfl (by kernel_rfl) rfl rfl ?_
 refine aP 1 rfl (X6 rfl rfl (by omega)) rfl ?_
 refine aP 2 rfl (qM rfl) rfl ?_
 refine A5 3 rfl rfl rfl ?_
 refine A5 4 rfl rfl rfl ?_
 refine A5 5 rfl rfl rfl ?_
 refine A5 6 rfl rfl rfl ?_
 refine aP 7 rfl (I4 rfl rfl) rfl ?_
 refine aP 8 rfl (qM rfl) rfl ?_
 refine A5 9 rfl rfl rfl ?_
 refine A5 10 rfl rfl rfl ?_
 refine A5 11 rfl rfl rfl ?_
 refine A5 12 rfl rfl rfl ?_
 refine A5 13 rfl rfl rfl ?_
 refine A5 14 rfl rfl rfl ?_
 refine A5 15 rfl rfl rfl ?_
 refine aP 16 rfl (I4 rfl rfl) rfl ?_
 refine W0 ?_
 refine B8 (rC rfl (A7 rfl rfl)) (rT rfl) ?_
 (exact I3.no (by rw [hmo, B1M hiE hm]; rfl))
 refine F5 ?_
 refine sE (D6 rfl) rfl (fun b89 => ?_)
 refine sS rfl rfl rfl rfl hoa rfl ?_
 refine sQ (qA rfl) rfl (sD (nS (tS (tS ?_))))
 refine K7 K9 rfl ?_
 refine I0 (i := 0) (l' := [tt,ff,ff,ff,ff,ff,ff,ff,ff,ff,ff,ff,ff,ff,ff,ff,ff]) rfl E9 (qM rfl) rfl (by kernel_rfl) rfl rfl ?_
 refine aP 1 rfl (M8 rfl rfl (by omega)) rfl ?_
 refine aP 2 rfl (qM rfl) rfl ?_
 refine aP 3 rfl (qM rfl) rfl ?_
 refine aP 4 rfl (qM rfl) rfl ?_
 refine aP 5 rfl (M6 rfl rfl) rfl ?_
 refine X4 (i := 6) (l' := [tt,tt,tt,tt,tt,tt,tt,ff,ff,ff,ff,ff,ff,ff,ff,ff,ff]) rfl E9 (Q2 rfl rfl) rfl (by kernel_rfl) rfl rfl (fun h103 => ?_) (fun h103 => ?_)
 refine aP 7 rfl (L7 rfl rfl) rfl ?_
 refine aP 8 rfl (qM rfl) rfl ?_
 refine A5 9 rfl rfl rfl ?_
 refine A5 10 rfl rfl rfl ?_
 refine A5 11 rfl rfl rfl ?_
 refine A5 12 rfl rfl rfl ?_
 refine A5 13 rfl rfl rfl ?_
 refine A5 14 rfl rfl rfl ?_
 refine A5 15 rfl rfl rfl ?_
 refine aP 16 rfl (I4 rfl rfl) rfl ?_
 refine W0 ?_
 refine B8 (rC rfl (A7 rfl rfl)) (rT rfl) ?_
 (exact I3.no (by rw [hmo, A7Y hiE hm (A1f (by omega))]; rfl))
 refine aP 7 rfl (L7 rfl rfl) rfl ?_
 refine aP 8 rfl (qM rfl) rfl ?_
 refine aP 9 rfl (qM rfl) rfl ?_
 refine aP 10 rfl (qM rfl) rfl ?_
 refine aP 11 rfl (Y8 rfl rfl rfl (by omega) ho) rfl ?_
 refine aP 12 rfl (qM rfl) rfl ?_
 refine aP 13 rfl (qM rfl) rfl ?_
 refine aP 14 rfl (Y8 rfl rfl rfl (by omega) hq) rfl ?_
 refine X4 (i := 15) (l' := [tt,tt,tt,tt,tt,tt,tt,tt,tt,tt,tt,tt,tt,tt,tt,tt,ff]) rfl E9 (N1 rfl rfl) rfl (by kernel_rfl) rfl rfl (fun h141 => ?_) (fun h141 => ?_)
 refine aP 16 rfl (L7 rfl rfl) rfl ?_
 refine W0 ?_
 refine B8 (rC rfl (A7 rfl rfl)) (rT rfl) ?_
 (exact I3.no (by rw [hmo, A7Y hiE hm (A0V (by omega) (by rw [ho, hq]; exact D8 (by omega)))]; rfl))
 refine aP 16 rfl (L7 rfl rfl) rfl ?_
 refine M0 ?_
 (refine F3 (P1 rfl rfl rfl (by omega) (by unfold maxLen; omega) rfl) rfl ?_; rintro _ ⟨b173, rfl⟩)
 refine A5h rfl rfl rfl rfl rfl (fun _ _ => by repeat (first | exact Sw.here | apply Sw.there)) (A0k (by repeat first | exact mH | apply mT)) rfl (fun u hu => List.all_eq_true.1 hoa u hu) (by unfold maxLen; omega) (by omega) rfl (fun p7 c7 => ?_)
 refine sQ (A4 rfl) rfl (O6 ?_)
 refine sD (nS (tR (sQ (qM rfl) rfl ?_)))
 refine sP (J5 (n := 1) rfl rfl (by omega)) rfl rfl ?_
 refine I2 ?_
 refine sP (J5 (n := 1) rfl rfl (by omega)) rfl rfl ?_
 refine sQ (qA rfl) rfl (sD ?_)
 (have hoq : L.getD nx 0 = E.getD i 0 := (by rw [ho, hq]; exact E0 (by omega)); have hnl : nx < L.length := (by omega); refine P6 (i + 1, nx + 1, p7, c7, nn + 1, us ++ [ta], es ++ [[x1, x2, x3, x4, x5, x6, x7, x8, x9]], G1) ?_ ?_ ?_)
 (simp only [T9]; exact I6)
 (dsimp only; exact ⟨by omega, by omega, by omega, by rw [List.length_append, hus]; rfl, hle.trans hle1, by rw [← List.append_assoc]; exact hrl.snoc2 hra, by rw [hmo, B1L hiE hm hnl hoq, Option.map_map]; congr 1; funext y; simp⟩)
 (show E.length - (i + 1) < E.length - i; omega)
 refine N4 ?_
 (have hiE2 : i = E.length := (by omega); refine A1m (cs := es.flatten) (by repeat (first | exact Pk.here | apply Pk.there)) (fun G9 hle9 hsl9 hno9 => ?_))
 refine tT ?_
 refine B8 (rC rfl (A7 rfl rfl)) (rT rfl) ?_
 (subst hiE2; have hR9 := hrl.mono hle9; obtain rfl : nn = (ks0 ++ us).length := (by rw [List.length_append, hus, hnn]); exact I3.yes (A1P hk rfl (B7.of hsl9 hR9.len hR9.all (fun e he => by obtain ⟨j, hj⟩ := List.getElem?_of_mem he; have hlt : j < (ks0 ++ us).length := (by have := (List.getElem?_eq_some_iff.1 hj).1; rw [hR9.len] at this; exact this); obtain ⟨e', he', hr⟩ := hR9.get (i := j) (t := (ks0 ++ us)[j]) (by simp [hlt]); rw [hj] at he'; cases he'; exact hr.one)) hR9) (by rw [hmo, A1B (Nat.le_refl _)]; simp [P4]; rfl) hai)
end Gw
end Go.Proofs.YtgodjiieijekiaaGreatDoor
