/-
  The reference model's terms that are sometimes made invalid; drawn arguments.
-/
import Derived.Test.YtgodjiieijekiaaGreatDoorKh2
import Derived.Laws.Slices
import Derived.Test.YtgodjiieijekiaaGreatDoorKh1
import Derived.Test.YtgodjiieijekiaaGreatDoorKh0
import Derived.Lib.ItoaNum
import Derived.Test.YtgodjiieijekiaaGreatDoorShelf
import Derived.Shelf.Sort.Plain
import Derived.Lib.SlicesCompact
import Derived.Lib.Bytealg
import Derived.Lib.AtoiAllCases
import Derived.WideLaws
import Derived.Lib.AtoiErrMem
set_option linter.unusedVariables false
set_option linter.unusedSimpArgs false
set_option maxHeartbeats 0
set_option maxRecDepth 100000
set_option synthInstance.maxSize 4000
set_option synthInstance.maxHeartbeats 0
namespace Go.Proofs.YtgodjiieijekiaaGreatDoor
open Go Go.RowKit
namespace Gw
theorem B6.of9 {G : IM} {k : Int} {nm : ByteArray} {num tk fk : Int} {tks fks : List Ty} {lb : Int} {ks : List Tm} {q1 q2 q3 : Option Addr} {c1 c2 c3 : Nat} {es : List (List Value)} (hk : D7 k) (hnum : D7 num) (hlb : D7 lb) (hty : C5 G (.mk tk tks) [.int .i64 tk, .slice q1 tks.length c1])
  (hfr : C5 G (.mk fk fks) [.int .i64 fk, .slice q2 fks.length c2]) (hsl : D0 G q3 ks.length c3 9 es) (hkl : D3 G ks es) :
  B6 G (.mk k nm num (.mk tk tks) (.mk fk fks) lb ks) [.int .i64 k, .string nm, .int .i64 num, .int .i64 tk, .slice q1 tks.length c1, .int .i64 fk, .slice q2 fks.length c2, .int .i64 lb, .slice q3 ks.length c3] := by
 simp only [B6]
 exact ⟨_, _, q3, c3, es, rfl, hk, hnum, hlb, hty, hfr, hsl, hkl⟩
theorem A1p {k k' : Int} {nm nm' : ByteArray} {num num' : Int} {ty fr ty' fr' : Ty} {lb lb' : Int} {ks : List Tm} (h : (Tm.mk k nm num ty fr lb ks).small) (h1 : nm'.size ≤ 4294967296) (h2 : ty'.small) (h3 : fr'.small) : (Tm.mk k' nm' num' ty' fr' lb' ks).small := by
 simp only [Tm.small] at h ⊢
 exact ⟨h1, h2, h3, h.2.2.2⟩
def Tm.fit (t : Tm) (N : Nat) : Prop := t.small ∧ D4 t ≤ N
theorem A9P (br : Nat) (pb : Option Addr) (nb cb : Nat) (bs : List UInt8) (hnb : nb ≤ 2000) (p : Nat) (G : IM) (hb : Sl G pb nb cb 1 (K2 bs)) (hp : p + 100 < 1099511627776) (t : Tm) (cells : List Value) (N : Nat) (hfit : t.fit N) (hr : B6 G t cells) :
  Fn Tryz.prog 60 [.pointer (some ⟨br, 0, none⟩), .agg ⟨cells⟩] [rd br pb nb cb p] G
   (W8 br pb nb cb p 40 (fun G' v => ∃ t cells, v = .agg ⟨cells⟩ ∧ B6 G' t cells ∧ t.fit N)) := by
 have hl := hr.len
 have hone := hr.one
 obtain ⟨k, nm, num, ⟨tk, tks⟩, ⟨fk, fks⟩, lb, ks⟩ := t
 have hfit0 := hfit
 obtain ⟨hsm, hcn⟩ := hfit0
 replace hfit : (Tm.mk k nm num (.mk tk tks) (.mk fk fks) lb ks).small ∧ D4 (Tm.mk k nm num (.mk tk tks) (.mk fk fks) lb ks) ≤ N := hfit
 rw [show (Tm.mk k nm num (.mk tk tks) (.mk fk fks) lb ks).small = (nm.size ≤ 4294967296 ∧ (Ty.mk tk tks).small ∧ (Ty.mk fk fks).small ∧ ks.length ≤ 4294967296 ∧ Tm.smallL ks) from by rw [Tm.small]] at hfit
 refine B5 Tryz.func60 rfl Tryz.ntmps60 Tryz.results60 rfl ?_
 intro w0
 refine tS (tR ?_)
 refine sE (K0 rfl rfl) rfl (fun b3 => ?_)
 refine sE (C0 rfl) rfl (fun b4 => ?_)
 refine sD (nS (tS (tR ?_)))
 refine sL (C4 rfl rfl (E7 (by repeat first | exact mH | apply mT)) (by assumption)) rfl rfl ?_
 (refine L5 rfl (A9z _ G cells hsm hr) rfl rfl (fun v G1 hle1 hh => ?_); obtain ⟨cells1, F1, rfl, hs1, hn1⟩ := hh; have hr1 := hs1.R.mono (B0.le G1 G); obtain ⟨q1, c1, q2, c2, q3, c3, es, rfl, hk, hnum, hlb, hty, hfr, hsl, hkl⟩ := hr1.open9)
 refine sE (C0 rfl) rfl (fun b11 => ?_)
 refine I8 ?_
 refine sD (nS (tS (tS (tR (sQ (qM rfl) rfl ?_)))))
 (refine B4 rfl (W9 _ br pb nb cb p bs 50 (hb.mono hle1) hnb (by omega)) (Pk.perm (by repeat (first | exact Pk.here | apply Pk.there))) rfl rfl (fun v G2 outs hle2 hh => ?_); obtain ⟨rfl, rfl, j, rfl, hj0, hj1⟩ := hh; replace hb := hb.mono hle1)
 refine sD (nS ?_)
 (show H8 _ _ (.block 0 _) _ _; refine A0v (fun (x : List Value × Nat × IM) => ⟨[(5, .pointer (some ⟨b11, 0, none⟩)), (4, .pointer (some ⟨b4, 0, none⟩))], [.blk b11 x.1, .blk b4 [.int .i64 0, .string ⟨⟨[]⟩⟩, .int .i64 0, .int .i64 0, .slice none 0 0, .int .i64 0, .slice none 0 0, .int .i64 0, .slice none 0 0], rd br pb nb cb x.2.1], x.2.2⟩) (fun x => A9 G2 x.2.2 ∧ p ≤ x.2.1 ∧ x.2.1 ≤ p + 40 ∧ ∃ t, B6 x.2.2 t x.1 ∧ t.small ∧ D4 t = D4 (.mk k nm num (.mk tk tks) (.mk fk fks) lb ks)) ?_ ?_)
 refine D2 (tS (tR (sB (qE rfl rfl) rfl rfl (fun h26 => ?_) (fun h26 => ?_))))
 refine sQ (qA rfl) rfl (sD (nS (qT rfl (tR (sQ (qM rfl) rfl ?_)))))
 (refine D1 (I4 rfl rfl rfl (by omega) (by unfold maxLen; omega) rfl) rfl ?_; rintro _ ⟨b33, rfl⟩)
 (refine N4 (by repeat (first | exact Pk.here | apply Pk.there)) (fun G4 hle4 hsl4 _ => ?_); refine B4 rfl (X0 G4 br pb nb cb (p + 1) bs _ _ _ _ (hb.mono hle4) hnb (by omega) hsl4 (by decide)) (Pk.perm (by repeat (first | exact Pk.here | apply Pk.there))) rfl rfl (fun v G5 outs hle5 hh => ?_); obtain ⟨rfl, rfl, hv⟩ := hh; obtain ⟨k', rfl, hk'⟩ : ∃ k', v = .int .i64 k' ∧ D7 k' := (by simp only [List.mem_cons, List.not_mem_nil, or_false] at hv; rcases hv with rfl | rfl | rfl | rfl | rfl | rfl <;> exact ⟨_, rfl, by unfold D7; omega⟩))
 refine sQ (A5 rfl) rfl (I8 ?_)
 refine sD (P7 ?_)
 refine O9 ([.int .i64 k', .string nm, .int .i64 num, .int .i64 tk, .slice q1 tks.length c1, .int .i64 fk, .slice q2 fks.length c2, .int .i64 lb, .slice q3 ks.length c3], p + 1 + 1, G5) (P8 (by repeat (first | exact H9.nil | refine H9.cons rfl ?_)) (by repeat (first | exact A2.refl | exact A2.nil | refine A2.cons (by repeat (first | exact Pk.here | apply Pk.there)) ?_ | apply A2.drop))) ?_
 (dsimp only; exact ⟨hle4, by omega, by omega, _, B6.of9 hk' hnum hlb (hty.mono hle4) (hfr.mono hle4) (hsl.mono hle4) (hkl.mono hle4), A1p hsm hfit.1.1 hfit.1.2.1 hfit.1.2.2.1, rfl⟩)
 refine sQ (qA rfl) rfl (sD (nS (cF rfl (tS (tR ?_)))))
 refine sB (qE rfl rfl) rfl rfl (fun h47 => ?_) (fun h47 => ?_)
 refine sQ (qA rfl) rfl (sD (nS (qT rfl (tR (sQ (qM rfl) rfl ?_)))))
 (refine D1 (I4 rfl rfl rfl (by omega) (by unfold maxLen; omega) rfl) rfl ?_; rintro _ ⟨b54, rfl⟩)
 (refine N4 (by repeat (first | exact Pk.here | apply Pk.there)) (fun G4 hle4 hsl4 _ => ?_); refine B4 rfl (A37 G4 br pb nb cb (p + 1) bs _ _ _ _ (hb.mono hle4) hnb (by omega) hsl4 (by decide)) (Pk.perm (by repeat (first | exact Pk.here | apply Pk.there))) rfl rfl (fun v G5 outs hle5 hh => ?_); obtain ⟨rfl, rfl, hv⟩ := hh; obtain ⟨nm', rfl, hnm'⟩ : ∃ nm', v = .string nm' ∧ nm'.size ≤ 2 := (by simp only [List.mem_cons, List.not_mem_nil, or_false] at hv; rcases hv with rfl | rfl | rfl | rfl <;> exact ⟨_, rfl, by decide⟩))
 refine sQ (A5 rfl) rfl (I8 ?_)
 refine sD (P7 ?_)
 refine O9 ([.int .i64 k, .string nm', .int .i64 num, .int .i64 tk, .slice q1 tks.length c1, .int .i64 fk, .slice q2 fks.length c2, .int .i64 lb, .slice q3 ks.length c3], p + 1 + 1, G5) (P8 (by repeat (first | exact H9.nil | refine H9.cons rfl ?_)) (by repeat (first | exact A2.refl | exact A2.nil | refine A2.cons (by repeat (first | exact Pk.here | apply Pk.there)) ?_ | apply A2.drop))) ?_
 (dsimp only; exact ⟨hle4, by omega, by omega, _, B6.of9 hk hnum hlb (hty.mono hle4) (hfr.mono hle4) (hsl.mono hle4) (hkl.mono hle4), A1p hsm (by omega) hfit.1.2.1 hfit.1.2.2.1, rfl⟩)
 refine sQ (qA rfl) rfl (sD (nS (cF rfl (tS (tR ?_)))))
 refine sB (qE rfl rfl) rfl rfl (fun h68 => ?_) (fun h68 => ?_)
 refine sQ (qA rfl) rfl (sD (nS (qT rfl (tR (sQ (qM rfl) rfl ?_)))))
 (refine D1 (I4 rfl rfl rfl (by omega) (by unfold maxLen; omega) rfl) rfl ?_; rintro _ ⟨b75, rfl⟩)
 (refine N4 (by repeat (first | exact Pk.here | apply Pk.there)) (fun G4 hle4 hsl4 _ => ?_); refine B4 rfl (X0 G4 br pb nb cb (p + 1) bs _ _ _ _ (hb.mono hle4) hnb (by omega) hsl4 (by decide)) (Pk.perm (by repeat (first | exact Pk.here | apply Pk.there))) rfl rfl (fun v G5 outs hle5 hh => ?_); obtain ⟨rfl, rfl, hv⟩ := hh; obtain ⟨k', rfl, hk'⟩ : ∃ k', v = .int .i64 k' ∧ D7 k' := (by simp only [List.mem_cons, List.not_mem_nil, or_false] at hv; rcases hv with rfl | rfl | rfl | rfl | rfl | rfl <;> exact ⟨_, rfl, by unfold D7; omega⟩))
 refine sQ (A5 rfl) rfl (I8 ?_)
 refine sD (P7 ?_)
 refine O9 ([.int .i64 k, .string nm, .int .i64 k', .int .i64 tk, .slice q1 tks.length c1, .int .i64 fk, .slice q2 fks.length c2, .int .i64 lb, .slice q3 ks.length c3], p + 1 + 1, G5) (P8 (by repeat (first | exact H9.nil | refine H9.cons rfl ?_)) (by repeat (first | exact A2.refl | exact A2.nil | refine A2.cons (by repeat (first | exact Pk.here | apply Pk.there)) ?_ | apply A2.drop))) ?_
 (dsimp only; exact ⟨hle4, by omega, by omega, _, B6.of9 hk hk' hlb (hty.mono hle4) (hfr.mono hle4) (hsl.mono hle4) (hkl.mono hle4), A1p hsm hfit.1.1 hfit.1.2.1 hfit.1.2.2.1, rfl⟩)
 refine sQ (qA rfl) rfl (sD (nS (cF rfl (tS (tR ?_)))))
 refine sB (qE rfl rfl) rfl rfl (fun h89 => ?_) (fun h89 => ?_)
 refine B8 ?_
 (refine B4 rfl (A9H br pb nb cb bs hnb (p + 1) _ hb (by omega)) (Pk.perm (by repeat (first | exact Pk.here | apply Pk.there))) rfl rfl (fun v G3 outs hle3 hh => ?_); obtain ⟨p3, hp31, hp32, rfl, t3, cells3, rfl, hr3, hs3⟩ := hh)
 (refine B4 rfl (A9J br pb nb cb bs hnb p3 _ (hb.mono hle3) (by omega) t3 cells3 hr3 hs3) (Pk.perm (by repeat (first | exact Pk.here | apply Pk.there))) rfl rfl (fun v G4 outs hle4 hh => ?_); obtain ⟨p4, hp41, hp42, rfl, t4, cells4, rfl, hr4, hs4⟩ := hh; have hts4 := A2l t4 (by omega); obtain ⟨t4k, t4s⟩ := t4; obtain ⟨q4, c4, es4, rfl, _⟩ := hr4.open; have hle24 := hle3.trans hle4)
 refine sQ (A5 rfl) rfl (I8 ?_)
 refine sD (P7 ?_)
 refine O9 ([.int .i64 k, .string nm, .int .i64 num, .int .i64 t4k, .slice q4 t4s.length c4, .int .i64 fk, .slice q2 fks.length c2, .int .i64 lb, .slice q3 ks.length c3], p4, G4) (P8 (by repeat (first | exact H9.nil | refine H9.cons rfl ?_)) (by repeat (first | exact A2.refl | exact A2.nil | refine A2.cons (by repeat (first | exact Pk.here | apply Pk.there)) ?_ | apply A2.drop))) ?_
 (dsimp only; exact ⟨hle24, by omega, by omega, _, B6.of9 hk hnum hlb hr4 (hfr.mono hle24) (hsl.mono hle24) (hkl.mono hle24), A1p hsm hfit.1.1 hts4 hfit.1.2.2.1, rfl⟩)
 refine sQ (qA rfl) rfl (sD (nS (cF rfl (tS (tR ?_)))))
 refine sB (qE rfl rfl) rfl rfl (fun h111 => ?_) (fun h111 => ?_)
 refine C2 ?_
 refine O9 ([.int .i64 k, .string nm, .int .i64 num, .int .i64 tk, .slice q1 tks.length c1, .int .i64 fk, .slice q2 fks.length c2, .int .i64 1, .slice q3 ks.length c3], p + 1, G2) (P8 (by repeat (first | exact H9.nil | refine H9.cons rfl ?_)) (by repeat (first | exact A2.refl | exact A2.nil | refine A2.cons (by repeat (first | exact Pk.here | apply Pk.there)) ?_ | apply A2.drop))) ?_
 (dsimp only; exact ⟨A9.refl _, by omega, by omega, _, B6.of9 hk hnum ⟨by omega, by omega⟩ hty hfr hsl hkl, A1p hsm hfit.1.1 hfit.1.2.1 hfit.1.2.2.1, rfl⟩)
 refine sQ (qA rfl) rfl (sD (nS (cF rfl (tS (tR ?_)))))
 refine sB (qE rfl rfl) rfl rfl (fun h129 => ?_) (fun h129 => ?_)
 refine sQ (qA rfl) rfl (sD (nS (qT rfl (tR ?_))))
 refine J9 rfl ((A38 _)) rfl rfl ?_
 refine sQ (A5 rfl) rfl (I8 ?_)
 refine sD (P7 ?_)
 refine O9 ([.int .i64 k, .string nm, .int .i64 num, .int .i64 tk, .slice q1 tks.length c1, .int .i64 1, .slice none 0 0, .int .i64 lb, .slice q3 ks.length c3], p + 1, G2) (P8 (by repeat (first | exact H9.nil | refine H9.cons rfl ?_)) (by repeat (first | exact A2.refl | exact A2.nil | refine A2.cons (by repeat (first | exact Pk.here | apply Pk.there)) ?_ | apply A2.drop))) ?_
 (dsimp only; exact ⟨A9.refl _, by omega, by omega, _, B6.of9 hk hnum hlb hty (A4a _) hsl hkl, A1p hsm hfit.1.1 hfit.1.2.1 (by simp [Ty.small, Ty.smallL]), rfl⟩)
 refine sQ (qA rfl) rfl (sD (nS (cF rfl (tK (P7 ?_)))))
 refine O9 ([.int .i64 k, .string nm, .int .i64 num, .int .i64 tk, .slice q1 tks.length c1, .int .i64 fk, .slice q2 fks.length c2, .int .i64 lb, .slice q3 ks.length c3], p + 1, G2) (P8 (by repeat (first | exact H9.nil | refine H9.cons rfl ?_)) (by repeat (first | exact A2.refl | exact A2.nil | refine A2.cons (by repeat (first | exact Pk.here | apply Pk.there)) ?_ | apply A2.drop))) ?_
 (dsimp only; exact ⟨A9.refl _, by omega, by omega, _, B6.of9 hk hnum hlb hty hfr hsl hkl, A1p hsm hfit.1.1 hfit.1.2.1 hfit.1.2.2.1, rfl⟩)
 (rintro ⟨T5, p9, G9⟩ ⟨hle9, hp9, hp9', t9, hr9, hs9, hc9⟩; simp only [] at hle9 hp9 hp9' hr9 hs9 hc9 ⊢; have hl9 := hr9.len; have ho9 := hr9.one)
 refine tS (tR ?_)
 refine sL (C4 rfl rfl (E7 (by repeat first | exact mH | apply mT)) hl9) rfl rfl ?_
 refine sS rfl rfl rfl hl9 ho9 rfl ?_ (hu := by exact M1 hl9.symm)
 refine sD (nS (tT ?_))
 refine B2 (outs := [rd br pb nb cb p9]) (rC rfl (C4 rfl rfl (E7 (by repeat first | exact mH | apply mT)) hl9)) (by repeat (first | exact A2.nil | refine A2.cons Pk.here ?_ | refine A2.cons (Pk.there Pk.here) ?_ | refine A2.cons (Pk.there (Pk.there Pk.here)) ?_ | apply A2.drop)) ?_
 (exact ⟨p9, by omega, by omega, rfl, t9, T5, rfl, hr9, hs9, by omega⟩)
section slaw
variable {P : Program} {Γ : F8} {env : H1} {hp : List A1} {G : IM} {ty : TypeId} {K : Po} {ops : Array Oper} {rest : List Oper}
end slaw
def A6m : Tm → List Int → Tm → Tm
 | _, [], x => x
 | .mk k nm num ty fr lb ks, i :: is, x => if h : 0 ≤ i ∧ i < ks.length then .mk k nm num ty fr lb (ks.set i.toNat (A6m (ks[i.toNat]'(by omega)) is x)) else .mk k nm num ty fr lb ks
def TyV (e : Tm) (G : IM) : IM → Value → List A1 → Prop := I1 fun G' v => ∃ t cells b, v = .tuple ⟨[.agg ⟨cells⟩, .bool b]⟩ ∧ C5 G' t cells ∧ V3 t ∧ M4 t ≤ 960 ∧ (b = true → N5 e = true)
def B2A (e : Tm) (label : Int) (G : IM) : IM → Value → List A1 → Prop := I1 fun G' v => ∃ u cu l', v = .tuple ⟨[.agg ⟨cu⟩, .int .i64 l']⟩ ∧ B6 G' u cu ∧ (e.small → u.small) ∧ D4 u ≤ D4 e + 1 ∧ label ≤ l' ∧ l' ≤ label + 1
def B2B (n : Nat) (G : IM) : IM → Value → List A1 → Prop := I1 fun G' v => ∃ p c es ws, v = .slice p n c ∧ ws.length = n ∧ D0 G' p n c 2 es ∧ F4 G' ws es ∧ ∀ w ∈ ws, V3 w
def B2C (e : Tm) (label : Int) (G : IM) : IM → Value → List A1 → Prop := I1 fun G' v => ∃ u cu t ct l', v = .tuple ⟨[.agg ⟨cu⟩, .agg ⟨ct⟩, .int .i64 l']⟩ ∧ B6 G' u cu ∧ u.small ∧ D4 u + 1 ≤ 2 * D4 e ∧ C5 G' t ct ∧ V3 t ∧ M4 t ≤ 32 * (D4 e : Int) ∧ label ≤ l' ∧ l' + 1 ≤ label + 2 * (D4 e : Int)
theorem A6n : ∀ {ks : List Tm} {i : Nat} (h : i < ks.length), H0 (ks.take (i + 1)) = H0 (ks.take i) + D4 ks[i]
 | [], i, h => by simp at h
 | t :: ts, 0, h => by simp [H0]
 | t :: ts, i + 1, h => by
  have := A6n (ks := ts) (i := i) (by simpa using h)
  simp only [List.take_succ_cons, H0, List.getElem_cons_succ, this]
  omega
theorem A6o : ∀ (ks : List Tm) (i : Nat), H0 (ks.take i) ≤ H0 ks
 | [], i => by simp [H0]
 | t :: ts, 0 => by simp [H0]
 | t :: ts, i + 1 => by
  have := A6o ts i
  simp only [List.take_succ_cons, H0]
  omega
def A0P (t : Ty) : Ty := if t.k = 4 ∨ t.k = 5 then .mk t.k [O7, O7] else .mk t.k []
def A26 (t : Ty) : Bool := decide (t.k ≠ 1) && W7 t (A0P t)
def prx (t : Tm) : Bool := decide (t.k = 14 ∧ t.fr.k = t.ty.k ∧ (t.ty.k = 4 ∨ t.ty.k = 5))
def inj (t : Tm) : Bool := decide (t.k = 14 ∧ t.ty.k = 1) && A26 t.fr
mutual
def A1N : Tm → Bool
 | .mk k nm num ty fr lb ks => if k = 10 ∨ (k = 14 ∧ fr.k = ty.k ∧ (ty.k = 4 ∨ ty.k = 5)) ∨ (k = 14 ∧ ty.k = 1 ∧ A26 fr = true) then A6p ks else decide (k = 2 ∨ k = 3 ∨ k = 4 ∨ k = 5)
def A6p : List Tm → Bool
 | [] => true
 | t :: ts => A1N t && A6p ts
end
mutual
def A4f (x : ByteArray) (v : Tm) : Tm → Tm
 | .mk k nm num ty fr lb ks => if k = 1 ∧ nm = x then v else if k = 5 ∧ nm = x then .mk k nm num ty fr lb ks else .mk k nm num ty fr lb (A6q x v ks)
def A6q (x : ByteArray) (v : Tm) : List Tm → List Tm
 | [] => []
 | t :: ts => A4f x v t :: A6q x v ts
end
def R3 (e : Tm) (fr to : Ty) (lb : Int) : Tm := .mk 14 ⟨#[]⟩ 0 to fr lb [e]
def A1q (k : Int) (ks : List Tm) : Tm := .mk k ⟨#[]⟩ 0 A4 A4 0 ks
def A6r (n : Int) : Tm := .mk 2 ⟨#[]⟩ n A4 A4 0 []
def A6s (b : Prop) [Decidable b] : Tm := A1q (if b then 3 else 4) []
abbrev X1 := Tm × Int × Int
def Y8 : X1 := (K1, 3, 0)
def kd (ks : List Tm) (i : Nat) : Tm := ks.getD i K1
def kt (ks : List Ty) (i : Nat) : Ty := ks.getD i A4
def A9Q (k : Int) (ty fr : Ty) (lb : Int) (ks : List Tm) : X1 :=
 if k = 6 then
  (if (kd ks 0).k = 5 then (A4f (kd ks 0).nm (kd ks 1) (kd (kd ks 0).ks 0), 1, 0)
   else if prx (kd ks 0) = true ∧ (kd ks 0).ty.k = 4 then (R3 (A1q 6 [kd (kd ks 0).ks 0, R3 (kd ks 1) (kt (kd ks 0).ty.ks 0) (kt (kd ks 0).fr.ks 0) (-(kd ks 0).lb)]) (kt (kd ks 0).fr.ks 1) (kt (kd ks 0).ty.ks 1) (kd ks 0).lb, 1, 0)
   else Y8)
 else if k = 7 ∨ k = 8 then
  (if (kd ks 0).k = 2 ∧ (kd ks 1).k = 2 then (if k = 7 then A6r (((kd ks 0).num + (kd ks 1).num) % 1000) else A6s ((kd ks 0).num < (kd ks 1).num), 1, 0) else Y8)
 else if k = 9 then (if (kd ks 0).k = 3 then (kd ks 1, 1, 0) else if (kd ks 0).k = 4 then (kd ks 2, 1, 0) else Y8)
 else if k = 11 ∨ k = 12 then
  (if (kd ks 0).k = 10 then (kd (kd ks 0).ks (k - 11).toNat, 1, 0)
   else if prx (kd ks 0) = true ∧ (kd ks 0).ty.k = 5 then (R3 (A1q k [kd (kd ks 0).ks 0]) (kt (kd ks 0).fr.ks (k - 11).toNat) (kt (kd ks 0).ty.ks (k - 11).toNat) (kd ks 0).lb, 1, 0)
   else Y8)
 else if k = 14 then
  (if fr.k = ty.k then (kd ks 0, 1, 0)
   else if ty.k = 1 then (R3 (R3 (kd ks 0) fr (A0P fr) lb) (A0P fr) ty lb, 1, 0)
   else if A26 ty = false then (R3 (R3 (kd ks 0) fr (A0P ty) lb) (A0P ty) ty lb, 1, 0)
   else if inj (kd ks 0) = false then Y8
   else if (kd ks 0).fr.k = ty.k then (kd (kd ks 0).ks 0, 1, 0)
   else (K1, 2, lb))
 else Y8
mutual
def A0Q : Tm → X1
 | .mk k nm num ty fr lb ks => match A6t (if k = 9 then 1 else ks.length) ks with
  | some (ks', c, l) => if c = 1 then (.mk k nm num ty fr lb ks', 1, 0) else (K1, c, l)
  | none => A9Q k ty fr lb ks
def A6t : Nat → List Tm → Option (List Tm × Int × Int)
 | _, [] => none
 | n, t :: ts => match n with
  | 0 => none
  | n + 1 => if A1N t = true then (match A6t n ts with
    | some (us, c, l) => some (t :: us, c, l)
    | none => none)
   else some ((A0Q t).1 :: ts, (A0Q t).2.1, (A0Q t).2.2)
end
def Q1 (e : Tm) : X1 :=
 if U5 e = false then Y8 else if A1N e = true then (e, 0, 0)
 else if (A0Q e).2.1 ≠ 1 then (K1, (A0Q e).2.1, (A0Q e).2.2)
 else if U5 (A0Q e).1 = false then (K1, 4, 0) else ((A0Q e).1, 1, 0)
def mEv : Nat → Tm → Tm × Int × Int × Nat
 | 0, e => if (Q1 e).2.1 = 1 then (K1, 5, 0, 0) else ((Q1 e).1, (Q1 e).2.1, (Q1 e).2.2, 0)
 | n + 1, e => if (Q1 e).2.1 = 1 then ((mEv n (Q1 e).1).1, (mEv n (Q1 e).1).2.1, (mEv n (Q1 e).1).2.2.1, (mEv n (Q1 e).1).2.2.2 + 1)
  else ((Q1 e).1, (Q1 e).2.1, (Q1 e).2.2, 0)
def U8 (e : Tm) (fuel : Int) : X1 := if 0 ≤ fuel ∧ fuel ≤ 300 then ((mEv fuel.toNat e).1, (mEv fuel.toNat e).2.1, (mEv fuel.toNat e).2.2.1) else Y8
def B2D (e : Tm) (fuel : Int) : Int := if 0 ≤ fuel ∧ fuel ≤ 300 then ((mEv fuel.toNat e).2.2.2 : Int) else 0
structure CvN (k : Int) (nm : ByteArray) (num : Int) (ty fr : Ty) (lb : Int) (ks : List Tm) : Prop where
 ops : J3 k = ks.length
 ne : k ≠ 13
 nm1 : nm.size ≤ 1
 num0 : 0 ≤ num ∧ num ≤ 999
 tyA : V3 ty
 frA : V3 fr
 lbB : -99 ≤ lb ∧ lb ≤ 99
 c14 : k = 14 → U4 fr ty = true ∧ R2 ty = true ∧ R2 fr = true
 ty5 : ¬(k = 5 ∨ k = 14) → ty = A4
 fr14 : k ≠ 14 → fr = A4 ∧ lb = 0
def cv (t : Tm) : Prop := ∃ d, N7 40 13 t d = true
def GT.ty : GT → Ty
 | .any => .mk 1 []
 | .int => .mk 2 []
 | .bool => .mk 3 []
 | .fn a b => .mk 4 [a.ty, b.ty]
 | .pr a b => .mk 5 [a.ty, b.ty]
def GE.tm : GE → Tm
 | .var x => .mk 1 x 0 A4 A4 0 []
 | .num n => .mk 2 ⟨#[]⟩ n A4 A4 0 []
 | .tru b => .mk (if b = true then 3 else 4) ⟨#[]⟩ 0 A4 A4 0 []
 | .lam x A e => .mk 5 x 0 A.ty A4 0 [e.tm]
 | .app f a => .mk 6 ⟨#[]⟩ 0 A4 A4 0 [f.tm, a.tm]
 | .ar s a b => .mk (if s = true then 8 else 7) ⟨#[]⟩ 0 A4 A4 0 [a.tm, b.tm]
 | .ite c a b => .mk 9 ⟨#[]⟩ 0 A4 A4 0 [c.tm, a.tm, b.tm]
 | .pair a b => .mk 10 ⟨#[]⟩ 0 A4 A4 0 [a.tm, b.tm]
 | .part s e => .mk (if s = true then 12 else 11) ⟨#[]⟩ 0 A4 A4 0 [e.tm]
 | .cast A B l e => .mk 14 ⟨#[]⟩ 0 B.ty A.ty l [e.tm]
section
variable {k : Int} {nm : ByteArray} {num : Int} {ty fr : Ty} {lb : Int} {a b c : Tm} {t : Tm} {l : Int}
end
def Bd (e : GE) : Prop := A1N e.tm = false ∧ (A0Q e.tm).2.1 = 2
def B2E (u : Ty) (G : IM) : IM → Value → List A1 → Prop := I1 fun G' v => ∃ cells, v = .agg ⟨cells⟩ ∧ C5 G' u cells
def B2F (r : Option Ty) (G : IM) : IM → Value → List A1 → Prop := I1 fun G' v => ∃ cells u, v = .tuple ⟨[.agg ⟨cells⟩, .bool r.isSome]⟩ ∧ C5 G' u cells ∧ ∀ t, r = some t → u = t
theorem A6u {G : IM} {k : Int} {a b : Ty} {ca cb : List Value} {p : Option Addr} {c : Nat} (hk : D7 k) (ha : C5 G a ca) (hb : C5 G b cb) (hs : Sl G p 2 c 2 (ca ++ cb)) : C5 G (.mk k [a, b]) [.int .i64 k, .slice p 2 c] := by
 have hL : F4 G [a, b] [ca, cb] := by simp only [F4]; exact ⟨ca, [cb], rfl, ha, cb, [], rfl, hb, rfl⟩
 exact F4.ty (ts := [a, b]) (es := [ca, cb]) hL rfl (by simpa using hs) hk
theorem B2G (k tk : Int) (ks : List Ty) : A2m k (.mk tk ks) = if tk = k then some (ks.getD 0 A4, ks.getD 1 A4) else if tk = 1 then some (O7, O7) else none := rfl
def B2H (k : Int) (t : Ty) (G : IM) : IM → Value → List A1 → Prop := I1 fun G' v => ∃ a ca b cb, v = .tuple ⟨[.agg ⟨ca⟩, .agg ⟨cb⟩, .bool (A2m k t).isSome]⟩ ∧ C5 G' a ca ∧ C5 G' b cb ∧ V3 a ∧ V3 b ∧ ∀ p, A2m k t = some p → p = (a, b)
def A9R (G : IM) (b : ByteArray × Ty) (e : List Value) : Prop := ∃ q d, e = [.string b.1, .int .i64 b.2.k, .slice q b.2.ks.length d] ∧ C5 G b.2 [.int .i64 b.2.k, .slice q b.2.ks.length d]
def RCx (G : IM) (cx : Cx) (p : Option Addr) (n c : Nat) : Prop := n = cx.length ∧ ∃ es : List (List Value), D0 G p n c 3 es ∧ ∀ (i : Nat) (b : ByteArray × Ty), cx[i]? = some b → ∃ e, es[i]? = some e ∧ A9R G b e
def WtP (r : Option (List Ty × Ty)) (G : IM) : IM → Value → List A1 → Prop := I1 fun G' v => ∃ p n c es w cu u, v = .tuple ⟨[.slice p n c, .agg ⟨cu⟩, .bool r.isSome]⟩ ∧ n = w.length ∧ D0 G' p n c 2 es ∧ F4 G' w es ∧ C5 G' u cu ∧ ∀ q, r = some q → q = (w, u)
section
variable {cx : Cx} {nm : ByteArray} {ty : Ty} {h : List Ty}
theorem mW1 : A2n cx 1 nm ty h = match A2Z cx nm with | some t => some ([], t) | none => none := rfl
theorem mW5 : A2n cx 5 nm ty h = some ([], .mk 4 [ty, h.getD 0 A4]) := rfl
end
section
variable {cx : Cx} {k : Int} {nm : ByteArray} {num : Int} {ty fr : Ty} {lb : Int} {ks : List Tm}
end
def A4g (r : Tm) : Tm × Bool := if U5 r = true then (r, true) else (K1, false)
def B2I (t : Tm) (path : List Int) (x : Tm) : Tm × Bool := if U5 t = true ∧ U5 x = true ∧ tAt t path ≠ none then A4g (A6m t path x) else (K1, false)
def A1r : List Tm → List Ty → List Ty → Int → List Tm × Int
 | u :: us, a :: h, b :: w, l => if W7 a b = true then (u :: (A1r us h w l).1, (A1r us h w l).2) else (R3 u a b (l + 1) :: (A1r us h w (l + 1)).1, (A1r us h w (l + 1)).2)
 | us, _, _, l => (us, l)
def A9S (cx : Cx) (k : Int) (nm : ByteArray) (num : Int) (ty fr : Ty) (lb : Int) (us : List Tm) (h : List Ty) (l : Int) : Option (Tm × Ty × Int) :=
 match A58 cx k nm ty h with
 | none => none
 | some (w, t) => some (if k = 13 then (A1r us h w l).1.getD 0 K1 else .mk k nm num ty fr lb (A1r us h w l).1, t, (A1r us h w l).2)
mutual
def mEl (cx : Cx) : Tm → Int → Option (Tm × Ty × Int)
 | .mk k nm num ty fr lb ks, l => match A6v (A32 cx k nm ty) ks l with
  | none => none
  | some (us, h, l') => A9S cx k nm num ty fr lb us h l'
def A6v (cx : Cx) : List Tm → Int → Option (List Tm × List Ty × Int)
 | [], l => some ([], [], l)
 | t :: ts, l => match mEl cx t l with
  | none => none
  | some (u, a, l') => match A6v cx ts l' with
   | none => none
   | some (us, h, l'') => some (u :: us, a :: h, l'')
end
def A6w (e : Tm) : Option (Tm × Ty) := if N5 e = true then (match mEl [] e 0 with | some (u, t, _) => some (u, t) | none => none) else none
def A9T (cx : Cx) (k : Int) (nm : ByteArray) (ty : Ty) (h : List Ty) : Option Ty := match A2n cx k nm ty h with
 | some (_, t) => if (k = 5 ∨ k = 10) ∧ R2 t = false then none else some t
 | none => none
mutual
def A9U (cx : Cx) : Tm → Option Ty
 | .mk k nm num ty fr lb ks => match A6x (A32 cx k nm ty) ks with
  | none => none
  | some h => A9T cx k nm ty h
def A6x (cx : Cx) : List Tm → Option (List Ty)
 | [] => some []
 | t :: ts => match A9U cx t with
  | none => none
  | some a => match A6x cx ts with
   | none => none
   | some h => some (a :: h)
end
def cxV (cx : Cx) : Prop := ∀ b ∈ cx, R2 b.2 = true
section inv
variable {cx : Cx} {nm : ByteArray} {num : Int} {ty fr : Ty} {lb : Int} {a b c : Tm} {T : Ty}
end inv
mutual
def A4h : Ty → Ty → Bool
 | .mk k ks, t => decide (t.k = 1) || (decide (k = t.k) && A6y ks t.ks)
def A6y : List Ty → List Ty → Bool
 | [], [] => true
 | a :: xs, b :: ys => A4h a b && A6y xs ys
 | _, _ => false
end
mutual
def A6z : Tm → Tm → Bool
 | .mk k nm num ty _ _ ks, u => decide (k = u.k ∧ nm = u.nm ∧ num = u.num) && (decide (k ≠ 5 ∧ k ≠ 13) || A4h ty u.ty) && A6A ks u.ks
def A6A : List Tm → List Tm → Bool
 | [], [] => true
 | a :: xs, b :: ys => A6z a b && A6A xs ys
 | _, _ => false
end
def A9V (a b : Tm) : Bool := N5 a && (N5 b && A6z a b)
def A27 : GT → GT → GT
 | .any, b => b
 | .fn a b, .fn c d => .fn (A27 a c) (A27 b d)
 | .pr a b, .pr c d => .pr (A27 a c) (A27 b d)
 | a, _ => a
def gmF : GT → Option (GT × GT)
 | .fn a b => some (a, b)
 | .any => some (.any, .any)
 | _ => none
def gmP : GT → Option (GT × GT)
 | .pr a b => some (a, b)
 | .any => some (.any, .any)
 | _ => none
def CxR (cx cx' : Cx) (Γ : GC) : Prop := ∀ x a, A2Z cx x = some a → ∃ A A', a = A.ty ∧ A2Z cx' x = some A'.ty ∧ Γ x = some (A, A') ∧ Le A A'
def B2J (A B : GT) (l : Int) (e : GE) : GE := if W7 A.ty B.ty = true then e else .cast A B l e
inductive GPL (Γ : GC) : List GE → List GE → List GT → List GT → Prop
 | nil : GPL Γ [] [] [] []
 | cons {e e' A A' es es' As As'} : GP Γ e e' A A' → GPL Γ es es' As As' → GPL Γ (e :: es) (e' :: es') (A :: As) (A' :: As')
abbrev ElR (Γ : GC) (u : Tm) (a : Ty) (r : Option (Tm × Ty × Int)) : Prop := ∃ e A e' A' l2, u = e.tm ∧ a = A.ty ∧ r = some (e'.tm, A'.ty, l2) ∧ GP Γ e e' A A'
section
variable {cx cx' : Cx} {Γ : GC} {es es' : List GE} {As As' : List GT} {l l' : Int} {u : Tm} {a : Ty} {l2 : Int} {nm : ByteArray} {num : Int}
end
variable {P : Program} {G : IM}
def TmP (t : Tm) : IM → Value → List A1 → Prop := I1 fun G' v => ∃ cells, v = .agg ⟨cells⟩ ∧ B6 G' t cells
def mGk (k : Int) : Ty := if k = 4 ∨ k = 5 then .mk k [O7, O7] else .mk k []
theorem A1O {G : IM} {k : Int} {ks : List Tm} {p : Option Addr} {n c : Nat} {es : List (List Value)} (hk : D7 k) (hn : n = ks.length) (hs : D0 G p n c 9 es) (hr : D3 G ks es) : B6 G (A1q k ks) [.int .i64 k, .string ⟨⟨[]⟩⟩, .int .i64 0, .int .i64 0, .slice none 0 0, .int .i64 0, .slice none 0 0, .int .i64 0, .slice p n c] := by
 subst hn
 simp only [A1q, B6]
 exact ⟨[.int .i64 0, .slice none 0 0], [.int .i64 0, .slice none 0 0], p, c, es, rfl, hk, ⟨by decide, by decide⟩, ⟨by decide, by decide⟩, X8 G, X8 G, hs, hr⟩
theorem A1P (k : Int) (p : Option Addr) (n c : Nat) (G : IM) : Fn Tryz.prog 153 [.int .i64 k, .slice p n c] [] G (J8 (.agg ⟨[.int .i64 k, .string ⟨⟨[]⟩⟩, .int .i64 0, .int .i64 0, .slice none 0 0, .int .i64 0, .slice none 0 0, .int .i64 0, .slice p n c]⟩) G) := by
 refine B5 Tryz.func153 rfl Tryz.ntmps153 Tryz.results153 rfl ?_
 intro w0
 refine tS (tR ?_)
 refine sE (C0 rfl) rfl (fun b3 => ?_)
 refine I3 ?_
 refine F0 (rC rfl (A7 rfl rfl)) ?_
 (exact ⟨rfl, rfl, rfl⟩)
def A9W (k : Int) (ks : List Tm) : Option Tm :=
 if k = 6 then (if (kd ks 0).k = 5 then some (A4f (kd ks 0).nm (kd ks 1) (kd (kd ks 0).ks 0)) else none)
 else if k = 7 ∨ k = 8 then (if (kd ks 0).k = 2 ∧ (kd ks 1).k = 2 then some (if k = 7 then A6r (((kd ks 0).num + (kd ks 1).num) % 1000) else A6s ((kd ks 0).num < (kd ks 1).num)) else none)
 else if k = 9 then (if (kd ks 0).k = 3 then some (kd ks 1) else if (kd ks 0).k = 4 then some (kd ks 2) else none)
 else if k = 11 ∨ k = 12 then (if (kd ks 0).k = 10 then some (kd (kd ks 0).ks (k - 11).toNat) else none)
 else none
def B2K (o : Option Tm) : IM → Value → List A1 → Prop := I1 fun G' v => ∃ u cells c, v = .tuple ⟨[.agg ⟨cells⟩, .int .i64 c]⟩ ∧ B6 G' u cells ∧ (∀ x, o = some x → c = 1 ∧ u = x) ∧ (o = none → c = 3)
section
variable {P : Program} {Γ : F8} {K : Po} {ops : Array Oper} {env : H1} {hp : List A1} {G : IM}
end
def B2L (k : Int) (ty fr : Ty) (lb : Int) (ks : List Tm) : X1 :=
 if k = 6 then
  (if prx (kd ks 0) = true ∧ (kd ks 0).ty.k = 4 then (R3 (A1q 6 [kd (kd ks 0).ks 0, R3 (kd ks 1) (kt (kd ks 0).ty.ks 0) (kt (kd ks 0).fr.ks 0) (-(kd ks 0).lb)]) (kt (kd ks 0).fr.ks 1) (kt (kd ks 0).ty.ks 1) (kd ks 0).lb, 1, 0) else Y8)
 else if k = 11 ∨ k = 12 then
  (if prx (kd ks 0) = true ∧ (kd ks 0).ty.k = 5 then (R3 (A1q k [kd (kd ks 0).ks 0]) (kt (kd ks 0).fr.ks (k - 11).toNat) (kt (kd ks 0).ty.ks (k - 11).toNat) (kd ks 0).lb, 1, 0) else Y8)
 else if k = 14 then
  (if fr.k = ty.k then (kd ks 0, 1, 0)
   else if ty.k = 1 then (R3 (R3 (kd ks 0) fr (A0P fr) lb) (A0P fr) ty lb, 1, 0)
   else if A26 ty = false then (R3 (R3 (kd ks 0) fr (A0P ty) lb) (A0P ty) ty lb, 1, 0)
   else if inj (kd ks 0) = false then Y8
   else if (kd ks 0).fr.k = ty.k then (kd (kd ks 0).ks 0, 1, 0)
   else (K1, 2, lb))
 else Y8
def B2M (r : X1) : IM → Value → List A1 → Prop := I1 fun G' v => ∃ u cells, v = .tuple ⟨[.agg ⟨cells⟩, .int .i64 r.2.1, .int .i64 r.2.2]⟩ ∧ B6 G' u cells ∧ (r.2.1 = 1 → u = r.1)
def B2N (r : X1) : IM → Value → List A1 → Prop := I1 fun G' v => ∃ cells, v = .tuple ⟨[.agg ⟨cells⟩, .int .i64 r.2.1, .int .i64 r.2.2]⟩ ∧ B6 G' r.1 cells
def A28 : Nat → Tm → Tm × Int × Int × Nat
 | 0, e => ((Q1 e).1, (Q1 e).2.1, (Q1 e).2.2, 0)
 | n + 1, e => if (Q1 e).2.1 = 1 then ((A28 n (Q1 e).1).1, (A28 n (Q1 e).1).2.1, (A28 n (Q1 e).1).2.2.1, (A28 n (Q1 e).1).2.2.2 + 1)
  else ((Q1 e).1, (Q1 e).2.1, (Q1 e).2.2, 0)
def EvP (r : Tm × Int × Int × Nat) : IM → Value → List A1 → Prop := I1 fun G' v => ∃ cells, v = .tuple ⟨[.agg ⟨cells⟩, .int .i64 r.2.1, .int .i64 r.2.2.1, .int .i64 (r.2.2.2 : Int)]⟩ ∧ B6 G' r.1 cells
def B2O (i : Nat) (r : Tm × Int × Int × Nat) : Tm × Int × Int × Nat := (r.1, r.2.1, r.2.2.1, r.2.2.2 + i)
section fin
variable {P : Program} {Γ : F8} {env : H1} {hp : List A1} {G : IM}
end fin
mutual
def A29 (L : Int → Prop) : Tm → Prop
 | .mk k nm num ty fr lb ks => (k = 14 → L lb) ∧ A6B L ks
def A6B (L : Int → Prop) : List Tm → Prop
 | [] => True
 | t :: ts => A29 L t ∧ A6B L ts
end
def B2P (L : Int → Prop) (T : Ty) (r : X1) : Prop := (r.2.1 = 1 ∧ A21 [] r.1 = some T ∧ A29 L r.1) ∨ (r.2.1 = 2 ∧ L r.2.2)
structure Wt (cx : Cx) (k : Int) (nm : ByteArray) (ty : Ty) (h w : List Ty) (t : Ty) : Prop where
 len : w = [] ∨ w.length = h.length
 ok : ∀ i, (hi : i < w.length) → (hh : i < h.length) → U4 h[i] w[i] = true ∧ R2 w[i] = true
 again : k ≠ 13 → A2n cx k nm ty (if w = [] then h else w) = some (w, t)
 asT : k = 13 → w = [t]
def B2Q (cx : Cx) (t : Tm) (D l : Int) (u : Tm) (a : Ty) (l' : Int) : Prop := N7 40 13 u D = true ∧ A21 cx u = some a ∧ R2 a = true ∧ l ≤ l' ∧ l' + 1 ≤ l + (D4 t : Int) ∧ (D4 u : Int) ≤ D4 t + (l' - l)
def B2R (k : Int) : Bool := decide (k = 5 ∨ k = 13)
def A6C : ByteArray := ⟨⟨[112, 97, 105, 114]⟩⟩
def A6D : ByteArray := ⟨⟨[102, 117, 110, 99, 116, 105, 111, 110]⟩⟩
def txT : ByteArray := ⟨⟨[84]⟩⟩
def txF : ByteArray := ⟨⟨[70]⟩⟩
def A6E (n : Int) : ByteArray := ⟨(Lib.decDigits n.toNat).toArray⟩
def A9X (k num : Int) : ByteArray := if k = 2 then A6E num else if k = 3 then txT else txF
mutual
def A2q : Tm → ByteArray
 | .mk k nm num ty fr lb ks => if k = 10 ∨ (prx (.mk k nm num ty fr lb []) = true ∧ ty.k = 5) then A6C else if k = 5 ∨ prx (.mk k nm num ty fr lb []) = true then A6D else if k = 14 then A9Y ks else A9X k num
def A9Y : List Tm → ByteArray
 | [] => ⟨⟨[]⟩⟩
 | t :: _ => A2q t
end
section
variable {k : Int} {nm : ByteArray} {num : Int} {ty fr : Ty} {lb : Int} {ks : List Tm}
end
section fin
variable {P : Program} {Γ : F8} {env : H1} {hp : List A1} {G : IM}
end fin
def CsP (bx : Nat) (e : Tm) (a b : Ty) (l : Int) : IM → Value → List A1 → Prop := fun G' v outs => ∃ cells, v = .agg ⟨cells⟩ ∧ outs = [.blk bx [.int .i64 (if W7 a b = true then l else l + 1)]] ∧ B6 G' (if W7 a b = true then e else R3 e a b (l + 1)) cells
def ElP (bx : Nat) (cx : Cx) (e : Tm) (l : Int) : IM → Value → List A1 → Prop := fun G' v outs => ∃ u cu t ct l', v = .tuple ⟨[.agg ⟨cu⟩, .agg ⟨ct⟩, .bool (mEl cx e l).isSome]⟩ ∧ outs = [.blk bx [.int .i64 l']] ∧ B6 G' u cu ∧ C5 G' t ct ∧ l ≤ l' ∧ l' + 1 ≤ l + (D4 e : Int) ∧ ∀ r, mEl cx e l = some r → r = (u, t, l')
section
variable {cx : Cx} {k : Int} {nm : ByteArray} {num : Int} {ty fr : Ty} {lb : Int} {ks us : List Tm} {h : List Ty} {l l' : Int}
end
def B2S (r : Option (Tm × Ty)) : IM → Value → List A1 → Prop := I1 fun G' v => ∃ cu ct, v = .tuple ⟨[.agg ⟨cu⟩, .agg ⟨ct⟩, .bool r.isSome]⟩ ∧ B6 G' (r.getD (K1, A4)).1 cu ∧ C5 G' (r.getD (K1, A4)).2 ct
def A6F (e : Tm) : Option Ty := match A6w e with | some (_, t) => some t | none => none
def A6G (e : Tm) (fuel : Int) : ByteArray × Int × Int := match A6w e with
 | none => (⟨⟨[]⟩⟩, 3, 0)
 | some (u, _) => if (U8 u fuel).2.1 = 0 then (A2q (U8 u fuel).1, 0, 0) else (⟨⟨[]⟩⟩, (U8 u fuel).2.1, (U8 u fuel).2.2)
def B2T (r : ByteArray × Int × Int) (G : IM) : IM → Value → List A1 → Prop := I1 fun _ v => v = .tuple ⟨[.string r.1, .int .i64 r.2.1, .int .i64 r.2.2]⟩
def A9Z (r s : ByteArray × Int × Int) : Int := if r.2.1 = 2 then 2 else if r.2.1 ≠ 0 ∨ s.2.1 = 4 ∨ s.2.1 = 5 then 3 else if s.2.1 = 0 ∧ r.1 = s.1 then 1 else 4
def B2U (a b : Tm) (fuel : Int) : Int := if (A6F a).isSome = true ∧ A9V a b = true ∧ U3 fuel 0 300 = true then A9Z (A6G a fuel) (A6G b fuel) else 0
def gxT : GX → ByteArray
 | .n n => A6E n
 | .b b => if b = true then txT else txF
 | .p => A6C
 | .f => A6D
def GE.er : GE → GE
 | .var x => .var x
 | .num n => .num n
 | .tru b => .tru b
 | .lam x _ e => .lam x .any e.er
 | .app f a => .app f.er a.er
 | .ar s a b => .ar s a.er b.er
 | .ite c a b => .ite c.er a.er b.er
 | .pair a b => .pair a.er b.er
 | .part s e => .part s e.er
 | .cast _ _ _ e => e.er
def GE.nt : GE → Prop
 | .var _ => True
 | .num _ => True
 | .tru _ => True
 | .lam _ A e => A = .any ∧ e.nt
 | .app f a => f.nt ∧ a.nt
 | .ar _ a b => a.nt ∧ b.nt
 | .ite c a b => c.nt ∧ a.nt ∧ b.nt
 | .pair a b => a.nt ∧ b.nt
 | .part _ e => e.nt
 | .cast _ _ _ _ => False
inductive Sn : Nat → GE → GE → Prop
 | refl {e} : Sn 0 e e
 | step {n a b c} : GS a b → Sn n b c → Sn (n + 1) a c
def A90 (k : Int) : Int := if k = 6 then 1 else if k = 7 ∨ k = 8 then 2 else if k = 9 then 3 else if k = 11 ∨ k = 12 then 4 else 5
def A91 (k : Int) (ks : List Tm) : X1 := match A9W k ks with
 | some u => (u, 1, 0)
 | none => (K1, 2, A90 k)
mutual
def A03 : Tm → X1
 | .mk k nm num ty fr lb ks => match A6H (if k = 9 then 1 else ks.length) ks with
  | some (ks', c, l) => if c = 1 then (.mk k nm num ty fr lb ks', 1, 0) else (K1, c, l)
  | none => A91 k ks
def A6H : Nat → List Tm → Option (List Tm × Int × Int)
 | _, [] => none
 | n, t :: ts => match n with
  | 0 => none
  | n + 1 => if A1N t = true then (match A6H n ts with
    | some (us, c, l) => some (t :: us, c, l)
    | none => none)
   else some ((A03 t).1 :: ts, (A03 t).2.1, (A03 t).2.2)
end
mutual
def A6I : Tm → Bool
 | .mk k _ _ ty _ _ ks => decide (k ≠ 14 ∧ (k ≠ 5 ∨ ty.k = 1)) && A6J ks
def A6J : List Tm → Bool
 | [] => true
 | t :: ts => A6I t && A6J ts
end
def A6K (e : Tm) : Bool := U5 e && A6I e
def Q2 (e : Tm) : X1 :=
 if A6K e = false then (K1, 3, 0) else if A1N e = true then (e, 0, 0)
 else if (A03 e).2.1 ≠ 1 then (K1, (A03 e).2.1, (A03 e).2.2)
 else if A6K (A03 e).1 = false then (K1, 4, 0) else ((A03 e).1, 1, 0)
def A3a : Nat → Tm → Tm × Int × Int × Nat
 | 0, e => ((Q2 e).1, (Q2 e).2.1, (Q2 e).2.2, 0)
 | n + 1, e => if (Q2 e).2.1 = 1 then ((A3a n (Q2 e).1).1, (A3a n (Q2 e).1).2.1, (A3a n (Q2 e).1).2.2.1, (A3a n (Q2 e).1).2.2.2 + 1)
  else ((Q2 e).1, (Q2 e).2.1, (Q2 e).2.2, 0)
def A04 : Nat → Tm → Tm × Int × Int × Nat
 | 0, e => if (Q2 e).2.1 = 1 then (K1, 5, 0, 0) else ((Q2 e).1, (Q2 e).2.1, (Q2 e).2.2, 0)
 | n + 1, e => if (Q2 e).2.1 = 1 then ((A04 n (Q2 e).1).1, (A04 n (Q2 e).1).2.1, (A04 n (Q2 e).1).2.2.1, (A04 n (Q2 e).1).2.2.2 + 1)
  else ((Q2 e).1, (Q2 e).2.1, (Q2 e).2.2, 0)
def A2r (e : Tm) (fuel : Int) : X1 := if 0 ≤ fuel ∧ fuel ≤ 300 then ((A04 fuel.toNat e).1, (A04 fuel.toNat e).2.1, (A04 fuel.toNat e).2.2.1) else (K1, 3, 0)
def B2V (e : Tm) (fuel : Int) : Int := if 0 ≤ fuel ∧ fuel ≤ 300 then ((A04 fuel.toNat e).2.2.2 : Int) else 0
section
variable {k : Int} {nm : ByteArray} {num : Int} {ty fr : Ty} {lb : Int} {a b c : Tm} {t : Tm} {l : Int}
end
def pAt (t : Tm) (label : Int) (l : List Int) : Bool := match tAt t l with
 | some x => decide (x.k = 14 ∧ x.lb = label)
 | none => false
def A4i (t : Tm) (label : Int) : List Int × Bool := match (A8Z t).find? (pAt t label) with
 | some l => (l, true)
 | none => ([], false)
def SP1 (G : IM) (l : List Int) (p : Option Addr) (c : Nat) : Prop := Sl G p l.length c 1 (A2g l) ∧ ∀ b ∈ E5 p, G b ≠ none
def CpP (t : Tm) (label : Int) (G : IM) : IM → Value → List A1 → Prop := I1 fun G' v => ∃ p c, v = .tuple ⟨[.slice p (A4i t label).1.length c, .bool (A4i t label).2]⟩ ∧ SP1 (B0 G' G) (A4i t label).1 p c
mutual
def A1s : Tm → List Tm
 | .mk k nm num ty fr lb ks => (if k = 14 then [.mk k nm num ty fr lb ks] else []) ++ A4j ks
def A4j : List Tm → List Tm
 | [] => []
 | t :: ts => A1s t ++ A4j ts
end
def A6L (label : Int) (x : Tm) : Bool := decide (x.lb = label)
def B2W (t : Tm) (label : Int) : Prop := ((A1s t).find? (A6L label) = none → (A2U t []).find? (pAt t label) = none) ∧ (∀ x, (A1s t).find? (A6L label) = some x → ∃ l, (A2U t []).find? (pAt t label) = some l ∧ tAt t l = some x)
def A6M (label : Int) : List Tm → List Ty
 | [] => []
 | c :: cs => (if c.lb = label then [c.fr, c.ty] else []) ++ A6M label cs
def B2X (t : Tm) (label : Int) : List Ty := if U5 t = true then A6M label (A1s t) else []
mutual
def A1Q : GT → GT → Bool
 | _, .any => true
 | .fn a b, .fn c d => A05 c a && A1Q b d
 | .pr a b, .pr c d => A1Q a c && A1Q b d
 | .int, .int => true
 | .bool, .bool => true
 | _, _ => false
termination_by a b => SizeOf.sizeOf a + SizeOf.sizeOf b
def A05 : GT → GT → Bool
 | .any, _ => true
 | .fn a b, .any => A1Q .any a && A05 b .any
 | .pr a b, .any => A05 a .any && A05 b .any
 | .int, .any => true
 | .bool, .any => true
 | .fn a b, .fn c d => A1Q c a && A05 b d
 | .pr a b, .pr c d => A05 a c && A05 b d
 | .int, .int => true
 | .bool, .bool => true
 | _, _ => false
termination_by a b => SizeOf.sizeOf a + SizeOf.sizeOf b
end
def GQ (Q : GT → GT → Int → Prop) : GE → Prop
 | .var _ => True
 | .num _ => True
 | .tru _ => True
 | .lam _ _ e => GQ Q e
 | .app f a => GQ Q f ∧ GQ Q a
 | .ar _ a b => GQ Q a ∧ GQ Q b
 | .ite c a b => GQ Q c ∧ GQ Q a ∧ GQ Q b
 | .pair a b => GQ Q a ∧ GQ Q b
 | .part _ e => GQ Q e
 | .cast A B l e => Q A B l ∧ GQ Q e
structure Clo (Q : GT → GT → Int → Prop) : Prop where
 fn : ∀ {a b c d l}, Q (.fn a b) (.fn c d) l → Q c a (-l) ∧ Q b d l
 pr : ∀ {a b c d l}, Q (.pr a b) (.pr c d) l → Q a c l ∧ Q b d l
 up : ∀ {A l}, A ≠ .any → Q A .any l → Q A.gr .any l ∧ Q A A.gr l
 down : ∀ {B l}, B ≠ .any → Q .any B l → Q B.gr B l ∧ Q .any B.gr l
def QL (m : Int) : GT → GT → Int → Prop := fun A B l => (l = m → A1Q A B = true) ∧ (l = -m → A05 A B = true)
mutual
def A1t : Tm → List Ty
 | .mk k _ _ ty _ _ ks => (if k = 5 ∨ k = 13 then [ty] else []) ++ A6N ks
def A6N : List Tm → List Ty
 | [] => []
 | t :: ts => A1t t ++ A6N ts
end
mutual
def A4k : Tm → List Ty → Tm
 | .mk k nm num ty fr lb ks, l => .mk k nm num (if k = 5 ∨ k = 13 then l.getD 0 A4 else ty) fr lb (A6O ks (if k = 5 ∨ k = 13 then l.drop 1 else l))
def A6O : List Tm → List Ty → List Tm
 | [], _ => []
 | t :: ts, l => A4k t l :: A6O ts (l.drop (A1t t).length)
end
def A6P (mask : Nat) : Nat → List Ty → List Ty
 | _, [] => []
 | i, t :: ts => (if (mask / 2 ^ i) % 2 = 1 then .mk 1 [] else t) :: A6P mask (i + 1) ts
def A92 (e : Tm) (mask : Nat) : Tm := A4k e (A6P mask 0 (A1t e))
def A93 (e : Tm) : List Tm := (List.range (2 ^ (A1t e).length)).map (A92 e)
section cap
variable {P : Program} {Γ : F8} {env : H1} {hp : List A1} {G : IM} {K : Po} {ops : Array Oper} {rest : List Oper}
end cap
def B2Y (ts : List Ty) : IM → Value → List A1 → Prop := fun G' v outs => ∃ p c es, v = .slice p ts.length c ∧ outs = [.slc p c 25 2 ts.length es.flatten] ∧ F4 G' ts es
def RtP (u : Tm) (l : List Ty) : IM → Value → List A1 → Prop := fun G' v outs => outs = [] ∧ ∃ cu p c el, v = .tuple ⟨[.agg ⟨cu⟩, .slice p l.length c]⟩ ∧ B6 G' u cu ∧ D0 G' p l.length c 2 el ∧ F4 G' l el
section bits
variable {P : Program} {Γ : F8} {env : H1} {hp : List A1} {G : IM} {ty : TypeId}
end bits
section wr
variable {P : Program} {Γ : F8} {env : H1} {hp : List A1} {G : IM} {ty : TypeId} {K : Po} {ops : Array Oper} {rest : List Oper}
variable {pos : String} {af : Array Edge} {gd : Option (Nat × Bool)}
end wr
def B2Z (e : Tm) : Option (List Tm) := if (A6F e).isSome = true ∧ (A1t e).length ≤ 6 then some (A93 e) else none
def CfP (r : Option (List Tm)) : IM → Value → List A1 → Prop := fun G' v outs => outs = [] ∧ ∃ p c es, v = .tuple ⟨[.slice p (r.getD []).length c, .bool r.isSome]⟩ ∧ D0 G' p (r.getD []).length c 9 es ∧ D3 G' (r.getD []) es
def MsP (r : Option (List Int)) (e : A1) (G : IM) : IM → Value → List A1 → Prop := fun G' v outs => outs = [e] ∧ ∃ p c, v = .tuple ⟨[.slice p (r.getD []).length c, .bool r.isSome]⟩ ∧ SP1 (B0 G' G) (r.getD []) p c
def IsP (l : List Int) (b : Bool) (G : IM) : IM → Value → List A1 → Prop := I1 fun G' v => ∃ p c, v = .tuple ⟨[.slice p l.length c, .bool b]⟩ ∧ SP1 (B0 G' G) l p c
def mB : Nat → Nat
 | 0 => 200
 | n + 1 => 3 * mB n + 200
def A94 (n : Nat) (depth : Int) (t : Ty) : Prop := W6 4 t ∧ (n : Int) - 1000 ≤ depth ∧ depth ≤ 1000 ∧ ((depth ≤ 1 ∧ W6 n t) ∨ (2 ≤ depth ∧ depth + 3 ≤ n))
def B20 (br : Nat) (pb : Option Addr) (nb cb : Nat) (bs : List UInt8) (n : Nat) : Prop := ∀ (depth : Int) (t : Ty) (p : Nat) (G : IM) (pc : Option Addr) (nc cc : Nat) (cells : List Value), A94 n depth t → (n : Int) - 1000 ≤ depth → depth ≤ 1000 → nc + n ≤ 40 → GCx G pc nc cc → C5 G t cells → Sl G pb nb cb 1 (K2 bs) → p + mB n < 1099511627776 →
 Fn Tryz.prog 110 [.pointer (some ⟨br, 0, none⟩), .slice pc nc cc, .agg ⟨cells⟩, .int .i64 depth] [rd br pb nb cb p] G
  (W8 br pb nb cb p (mB n) (fun G' v => ∃ e cells, v = .agg ⟨cells⟩ ∧ B6 G' e cells ∧ e.small ∧ D4 e ≤ mB n))
structure B21 {ι : Type} (S : ι → Sy) (φ : ι → Prop) (K : Po) (e : Exit) (σ : Sy) : Prop where
 run : match e with
  | .normal => ∃ i, φ i ∧ Y2 σ (S i)
  | e => K e σ
section cut
variable {P : Program} {Γ : F8} {K : Po} {σ : Sy} {ι : Type}
end cut
def TyO (o : Option Ty) (G : IM) : IM → Value → List A1 → Prop := I1 fun G' v => ∃ t cells, v = .tuple ⟨[.agg ⟨cells⟩, .bool o.isSome]⟩ ∧ C5 G' t cells ∧ V3 t ∧ ∀ u, o = some u → u = t
section
variable {cx : Cx} {k : Int} {nm : ByteArray} {ty : Ty} {ts : List Ty}
end
section
variable {ak bk : Int} {aks bks : List Ty}
end
section
variable {cx : Cx} {k : Int} {nm : ByteArray} {num : Int} {ty fr : Ty} {lb : Int} {ks : List Tm}
end
def B22 (t : Ty) (x : Bool) (G : IM) : IM → Value → List A1 → Prop := I1 fun G' v => ∃ cells, v = .tuple ⟨[.agg ⟨cells⟩, .bool x]⟩ ∧ C5 G' (if x = true then t else A4) cells
def B23 (e : Tm) (a b : Ty) (l : Int) : IM → Value → List A1 → Prop := I1 fun G' v => ∃ cells, v = .tuple ⟨[.agg ⟨cells⟩, .int .i64 (if W7 a b = true then l else l + 1)]⟩ ∧ B6 G' (if W7 a b = true then e else R3 e a b l) cells
def B24 (w ts : List Ty) : List Ty := if w = [] then ts else w
def B25 (ws : List Ty) (n : Nat) (G : IM) : IM → Value → List A1 → Prop := I1 fun G' v => ∃ p c es, v = .slice p n c ∧ ws.length = n ∧ D0 G' p n c 2 es ∧ F4 G' ws es
section
variable {cx : Cx} {k : Int} {nm : ByteArray} {ty : Ty} {ts w : List Ty} {t : Ty}
end
def B26 (u : Tm) (t : Ty) (l : Int) (G : IM) : IM → Value → List A1 → Prop := I1 fun G' v => ∃ cu ct, v = .tuple ⟨[.agg ⟨cu⟩, .agg ⟨ct⟩, .int .i64 (l + 1)]⟩ ∧ B6 G' u cu ∧ C5 G' t ct
def A95 (t : Tm) : List Ty := if N5 t = true then A1t t else []
def B27 (u : Tm) (n : Int) : IM → Value → List A1 → Prop := fun G' v outs => outs = [] ∧ ∃ cu, v = .tuple ⟨[.agg ⟨cu⟩, .int .i64 n]⟩ ∧ B6 G' u cu
def B28 (t : Tm) (L : List Ty) : Option Tm := if N5 t = true ∧ (A95 t).length = L.length ∧ ∀ u ∈ L, R2 u = true then some (A4k t L) else none
def TmB (o : Option Tm) : IM → Value → List A1 → Prop := I1 fun G' v => ∃ cu, v = .tuple ⟨[.agg ⟨cu⟩, .bool o.isSome]⟩ ∧ B6 G' (o.getD K1) cu
def PLe (l l' : List Ty) : Prop := ∀ i, A4h (l.getD i A4) (l'.getD i A4) = true
section masks
variable {P : Program} {Γ : F8} {env : H1} {hp : List A1} {G : IM} {ty : TypeId}
end masks
def mLb (t : Tm) : List Int := (A1s t).map Tm.lb
def B29 (ts : List Tm) : List Int := (A4j ts).map Tm.lb
structure Lbs (ls : List Int) (l l' : Int) : Prop where
 le : l ≤ l'
 nd : ls.Nodup
 len : (ls.length : Int) = l' - l
 mem : ∀ m ∈ ls, l < m ∧ m ≤ l'
def GE.lt : GE → Prop
 | .var _ => True
 | .num _ => True
 | .tru _ => True
 | .lam _ A e => R2 A.ty = true ∧ e.lt
 | .app f a => f.lt ∧ a.lt
 | .ar _ a b => a.lt ∧ b.lt
 | .ite c a b => c.lt ∧ a.lt ∧ b.lt
 | .pair a b => a.lt ∧ b.lt
 | .part _ e => e.lt
 | .cast _ _ _ _ => False
mutual
def A6Q : Ty → Int
 | .mk k ks => if k = 1 then 1 else A6R ks
def A6R : List Ty → Int
 | [] => 0
 | t :: ts => A6Q t + A6R ts
end
def tSt (t : Ty) : Bool := decide (A6Q t = 0)
def B3a (e : Tm) : Bool := N5 e && (A1t e).all tSt
abbrev NoC (u : Tm) : Prop := A29 (fun _ => False) u
def B3b (e : Tm) (fuel : Int) : ByteArray × Int × Int := if (N5 e || U5 e) = true then (if (A2r (A1n e) fuel).2.1 = 0 then (A2q (A2r (A1n e) fuel).1, 0, (A2r (A1n e) fuel).2.2) else (⟨⟨[]⟩⟩, (A2r (A1n e) fuel).2.1, (A2r (A1n e) fuel).2.2)) else (⟨⟨[]⟩⟩, 3, 0)
inductive Tg where
 | i | b | f | p
def Tg.ty : Tg → GT
 | .i => .int
 | .b => .bool
 | .f => .fn .any .any
 | .p => .pr .any .any
inductive DM where
 | a
 | r (t : Tg)
 | c (t : Tg)
def GE.dy : GE → DM → Prop
 | .var _, m => m = .a
 | .num _, m => m = .r .i ∨ m = .c .i
 | .tru _, m => m = .r .b ∨ m = .c .b
 | .lam _ A e, m => (m = .r .f ∨ m = .c .f) ∧ A = .any ∧ e.dy .a
 | .app f x, m => m = .a ∧ f.dy (.c .f) ∧ x.dy .a
 | .ar s x y, m => m = .r (if s = true then .b else .i) ∧ x.dy (.c .i) ∧ y.dy (.c .i)
 | .ite c x y, m => m = .a ∧ c.dy (.c .b) ∧ x.dy .a ∧ y.dy .a
 | .pair x y, m => (m = .r .p ∨ m = .c .p) ∧ x.dy .a ∧ y.dy .a
 | .part _ e, m => m = .a ∧ e.dy (.c .p)
 | .cast A B _ e, m => (m = .a ∧ B = .any ∧ ∃ t : Tg, A = t.ty ∧ e.dy (.r t)) ∨ ∃ t : Tg, m = .c t ∧ A = .any ∧ B = t.ty ∧ e.dy .a
def GE.evc : GE → Prop
 | .var _ => False
 | .num _ => True
 | .tru _ => True
 | .lam _ _ _ => True
 | .app f a => f.evc ∧ a.evc
 | .ar _ a b => a.evc ∧ b.evc
 | .ite c _ _ => c.evc
 | .pair a b => a.evc ∧ b.evc
 | .part _ e => e.evc
 | .cast _ _ _ e => e.evc
def GE.tg : GE → Option Tg
 | .num _ => some .i
 | .tru _ => some .b
 | .lam _ _ _ => some .f
 | .pair _ _ => some .p
 | _ => none
def Vl (e : GE) : Prop := ∃ w, Ss e w ∧ GV w
def Rs (t : Tg) (e : GE) : Prop := ∃ w, Ss e w ∧ GV w ∧ w.tg = some t
def Nv : DM → GE → Prop
 | .a, e => ¬Vl e.er
 | .r _, e => ¬Vl e.er
 | .c t, e => ¬Rs t e.er
def A6S (e : Tm) : Tm := .mk 13 ⟨#[]⟩ 0 O7 A4 0 [e]
mutual
def A4l : Tm → Tm
 | .mk k nm num ty fr lb ks => if k = 13 then (A3b ks).headD K1 else if k = 1 ∨ k = 6 ∨ k = 9 ∨ k = 11 ∨ k = 12 then .mk k nm num A4 A4 0 (A3b ks)
  else A6S (.mk k nm num (if k = 5 then O7 else A4) A4 0 (A3b ks))
def A3b : List Tm → List Tm
 | [] => []
 | t :: ts => A4l t :: A3b ts
end
mutual
def mCl : List ByteArray → Tm → Prop
 | b, .mk k nm _ _ _ _ ks => (k = 1 → nm ∈ b) ∧ A6T (if k = 5 then nm :: b else b) ks
def A6T : List ByteArray → List Tm → Prop
 | _, [] => True
 | b, t :: ts => mCl b t ∧ A6T b ts
end
def B3c (e : Tm) : Tm × Bool := if N5 e = true ∧ N5 (A4l e) = true then (A4l e, true) else (K1, false)
def B3d (cx : Cx) (t : Tm) : Prop := ∀ l, ∃ (g : GE) (l' : Int), mEl cx t l = some (g.tm, O7, l') ∧ g.dy .a
def B3e (cx : Cx) (t : Tm) (s : Tg) : Prop := ∀ l, ∃ (g : GE) (l' : Int), mEl cx t l = some (g.tm, s.ty.ty, l') ∧ g.dy (.r s)
section
variable {cx : Cx} {k : Int} {nm : ByteArray} {num : Int} {ty fr : Ty} {lb : Int} {a b c u v w : Tm} {A B C : Ty} {l l1 l2 l3 : Int}
end
section
variable {cx : Cx} {a b c : Tm}
end
mutual
def A3c (g : Int → Tm → Tm × Int) : Tm → Int → Tm × Int
 | .mk k nm num ty fr lb ks, n => g (A1R g ks n).2 (.mk k nm num ty fr lb (A1R g ks n).1)
def A1R (g : Int → Tm → Tm × Int) : List Tm → Int → List Tm × Int
 | [], n => ([], n)
 | t :: ts, n => ((A3c g t n).1 :: (A1R g ts (A3c g t n).2).1, (A1R g ts (A3c g t n).2).2)
end
mutual
def A96 (Q : Int → Tm → Prop) (g : Int → Tm → Tm × Int) : Tm → Int → Prop
 | .mk k nm num ty fr lb ks, n => A6U Q g ks n ∧ Q (A1R g ks n).2 (.mk k nm num ty fr lb (A1R g ks n).1)
def A6U (Q : Int → Tm → Prop) (g : Int → Tm → Tm × Int) : List Tm → Int → Prop
 | [], _ => True
 | t :: ts, n => A96 Q g t n ∧ A6U Q g ts (A3c g t n).2
end
def B3f (g : Int → Tm → Tm × Int) (Q : Int → Tm → Prop) (E : Int → A1) (fid : FuncId) (us cs : List Value) : Prop := ∀ (n : Int) (t : Tm) (G : IM) (cells : List Value), Q n t → B6 G t cells →
 Fn Tryz.prog fid (us ++ [.agg ⟨cells⟩] ++ cs) [E n] G (fun G' v outs => outs = [E (g n t).2] ∧ ∃ cells', v = .agg ⟨cells'⟩ ∧ B6 G' (g n t).1 cells')
def B3g (g : Tm → Tm) (Q : Tm → Prop) (fid : FuncId) (us cs : List Value) : Prop := ∀ (t : Tm) (G : IM) (cells : List Value), Q t → B6 G t cells → Fn Tryz.prog fid (us ++ [.agg ⟨cells⟩] ++ cs) [] G (TmP (g t))
inductive Sm : Nat → GE → GE → Prop
 | refl {e} : Sm 0 e e
 | step {n a b c} : GS a b → Sm n b c → Sm (n + 1) a c
inductive Bl : GE → Int → Prop
 | app1 {f a L} : Bl f L → Bl (.app f a) L
 | app2 {f a L} : GV f → Bl a L → Bl (.app f a) L
 | ar1 {s a b L} : Bl a L → Bl (.ar s a b) L
 | ar2 {s a b L} : GV a → Bl b L → Bl (.ar s a b) L
 | ite1 {c a b L} : Bl c L → Bl (.ite c a b) L
 | pair1 {a b L} : Bl a L → Bl (.pair a b) L
 | pair2 {a b L} : GV a → Bl b L → Bl (.pair a b) L
 | part1 {s e L} : Bl e L → Bl (.part s e) L
 | cast1 {A B l e L} : Bl e L → Bl (.cast A B l e) L
 | fail {G H l m w} : GV w → G.Gd → H.Gd → G ≠ H → Bl (.cast .any G l (.cast H .any m w)) l
section
variable {k : Int} {nm : ByteArray} {num : Int} {ty fr : Ty} {lb : Int} {a b : Tm} {l : Int}
end
def GT.cp : GT → Prop
 | .fn _ _ => True
 | .pr _ _ => True
 | _ => False
def A6V : List Int → GE → GE
 | [], y => y
 | k :: ks, y => .cast .any .any k (A6V ks y)
inductive HR : GC → GE → GE → GT → Prop
 | var {Γ x A} : Γ x = some (A, A) → HR Γ (.var x) (.var x) A
 | num {Γ n} : HR Γ (.num n) (.num n) .int
 | tru {Γ b} : HR Γ (.tru b) (.tru b) .bool
 | lam {Γ x A B e e'} : HR (gup Γ x A A) e e' B → HR Γ (.lam x A e) (.lam x A e') (.fn A B)
 | app {Γ f f' a a' A B} : HR Γ f f' (.fn A B) → HR Γ a a' A → HR Γ (.app f a) (.app f' a') B
 | ar {Γ s a a' b b'} : HR Γ a a' .int → HR Γ b b' .int → HR Γ (.ar s a b) (.ar s a' b') (if s = true then .bool else .int)
 | ite {Γ c c' a a' b b' A} : HR Γ c c' .bool → HR Γ a a' A → HR Γ b b' A → HR Γ (.ite c a b) (.ite c' a' b') A
 | pair {Γ a a' b b' A B} : HR Γ a a' A → HR Γ b b' B → HR Γ (.pair a b) (.pair a' b') (.pr A B)
 | part {Γ s e e' A B} : HR Γ e e' (.pr A B) → HR Γ (.part s e) (.part s e') (if s = true then B else A)
 | cast {Γ e x A B l} : HR Γ e x A → Co A B → HR Γ (.cast A B l e) (.cast A B l x) B
 | idR {Γ e x A l} : HR Γ e x A → HR Γ e (.cast A A l x) A
 | idL {Γ e x A l} : HR Γ e x A → HR Γ (.cast A A l e) x A
 | back {Γ e x B l m} (ks : List Int) : HR Γ e x B → HR Γ e (.cast .any B l (A6V ks (.cast B .any m x))) B
 | backG {Γ e x B l m} : HR Γ e x B → B.cp → HR Γ e (.cast B.gr B l (.cast B B.gr m x)) B
 | dyn {Γ e x A B l} : HR Γ e x A → Co A B → HR Γ (.cast A B l e) (.cast .any B l (.cast A .any l x)) B
 | dynG {Γ e x A B l} : HR Γ e x A → Co A B → A.cp → B.cp → HR Γ (.cast A B l e) (.cast B.gr B l (.cast A A.gr l x)) B
 | dynU {Γ e x A B l} : HR Γ e x A → Co A B → A.cp → HR Γ (.cast A B l e) (.cast .any B l (.cast A.gr .any l (.cast A A.gr l x))) B
inductive WT : GC → GE → GT → Prop
 | var {Γ x A} : Γ x = some (A, A) → WT Γ (.var x) A
 | num {Γ n} : WT Γ (.num n) .int
 | tru {Γ b} : WT Γ (.tru b) .bool
 | lam {Γ x A B e} : WT (gup Γ x A A) e B → WT Γ (.lam x A e) (.fn A B)
 | app {Γ f a A B} : WT Γ f (.fn A B) → WT Γ a A → WT Γ (.app f a) B
 | ar {Γ s a b} : WT Γ a .int → WT Γ b .int → WT Γ (.ar s a b) (if s = true then .bool else .int)
 | ite {Γ c a b A} : WT Γ c .bool → WT Γ a A → WT Γ b A → WT Γ (.ite c a b) A
 | pair {Γ a b A B} : WT Γ a A → WT Γ b B → WT Γ (.pair a b) (.pr A B)
 | part {Γ s e A B} : WT Γ e (.pr A B) → WT Γ (.part s e) (if s = true then B else A)
 | cast {Γ e A B l} : WT Γ e A → Co A B → WT Γ (.cast A B l e) B
def gbk (A B : GT) (l : Int) (a : GE) : GE := if W7 A.ty B.ty = true then a else match a with
 | .cast C D m x => if A.ty.k = 1 ∧ D.ty.k = 1 ∧ W7 B.ty C.ty = true then x else .cast A B l (.cast C D m x)
 | a => .cast A B l a
def GE.simp : GE → GE
 | .var x => .var x
 | .num n => .num n
 | .tru b => .tru b
 | .lam x A e => .lam x A e.simp
 | .app f a => .app f.simp a.simp
 | .ar s a b => .ar s a.simp b.simp
 | .ite c a b => .ite c.simp a.simp b.simp
 | .pair a b => .pair a.simp b.simp
 | .part s e => .part s e.simp
 | .cast A B l e => gbk A B l e.simp
def GE.dynm : GE → GE
 | .var x => .var x
 | .num n => .num n
 | .tru b => .tru b
 | .lam x A e => .lam x A e.dynm
 | .app f a => .app f.dynm a.dynm
 | .ar s a b => .ar s a.dynm b.dynm
 | .ite c a b => .ite c.dynm a.dynm b.dynm
 | .pair a b => .pair a.dynm b.dynm
 | .part s e => .part s e.dynm
 | .cast A B l e => if A.ty.k = 1 ∨ B.ty.k = 1 then .cast A B l e.dynm else .cast .any B l (.cast A .any l e.dynm)
def A97 (t : Tm) : Tm := if t.k ≠ 14 then t else if W7 t.fr t.ty = true then kd t.ks 0 else if t.fr.k = 1 ∧ (kd t.ks 0).k = 14 ∧ (kd t.ks 0).ty.k = 1 ∧ W7 t.ty (kd t.ks 0).fr = true then kd (kd t.ks 0).ks 0 else t
def A98 (t : Tm) : Tm := if t.k ≠ 14 ∨ t.fr.k = 1 ∨ t.ty.k = 1 then t else R3 (R3 (kd t.ks 0) t.fr O7 t.lb) O7 t.ty t.lb
section
variable {cx : Cx} {k : Int} {nm : ByteArray} {num : Int} {ty fr : Ty} {lb : Int} {a b c a' b' c' : Tm} {T : Ty}
end
section
variable {D N : Int} {k : Int} {nm : ByteArray} {num : Int} {ty fr : Ty} {lb : Int} {a b c a' b' c' : Tm} {d d' : Int}
end
def Agr (a b : Tm) (n m : Int) : Prop := (U8 a n).2.1 = 4 ∨ (U8 a n).2.1 = 5 ∨ (U8 b m).2.1 = 4 ∨ (U8 b m).2.1 = 5 ∨
 ((U8 a n).2.1 = 0 ∧ (U8 b m).2.1 = 0 ∧ A2q (U8 a n).1 = A2q (U8 b m).1) ∨
 ((U8 a n).2.1 = 2 ∧ (U8 b m).2.1 = 2 ∧ (U8 a n).2.2 = (U8 b m).2.2)
def B3h (e : Tm) : Tm × Bool := if U5 e = true then (A34 A97 e, true) else (K1, false)
mutual
def lz : Tm → Tm
 | .mk k nm num ty fr lb ks => .mk k nm num ty fr (if k = 14 then 0 else lb) (lzL ks)
def lzL : List Tm → List Tm
 | [] => []
 | t :: ts => lz t :: lzL ts
end
def SL (r s : X1) : Prop := r.2.1 = s.2.1 ∧ lz r.1 = lz s.1
abbrev LbV (t : Tm) : Prop := A29 (fun l => A0c l = true) t
mutual
def mRl : Tm → Int → Tm × Int
 | .mk k nm num ty fr lb ks, n => (.mk k nm num ty fr (if k = 14 then (A1S ks n).2 + 1 else lb) (A1S ks n).1, if k = 14 then (A1S ks n).2 + 1 else (A1S ks n).2)
def A1S : List Tm → Int → List Tm × Int
 | [], n => ([], n)
 | t :: ts, n => ((mRl t n).1 :: (A1S ts (mRl t n).2).1, (A1S ts (mRl t n).2).2)
end
def B3i (G : IM) : IM → Value → List A1 → Prop := I1 fun G' v => ∃ u cu t ct b, v = .tuple ⟨[.agg ⟨cu⟩, .agg ⟨ct⟩, .bool b]⟩ ∧ B6 G' u cu ∧ u.small ∧ D4 u ≤ 60 ∧ C5 G' t ct ∧ V3 t ∧ M4 t ≤ 960
def B3j (G : IM) : IM → Value → List A1 → Prop := I1 fun G' v => ∃ t cells l q c, v = .tuple ⟨[.agg ⟨cells⟩, .slice q l.length c]⟩ ∧ B6 G' t cells ∧ t.fit 100 ∧ Sl G' q l.length c 1 (A2g l) ∧ l.length ≤ 100
def B3k (ts : List Tm) (G : IM) : IM → Value → List A1 → Prop := I1 fun G' v => ∃ p c es, v = .slice p ts.length c ∧ D0 G' p ts.length c 9 es ∧ D3 G' ts es
def B3l (ts : List Ty) (G : IM) : IM → Value → List A1 → Prop := I1 fun G' v => ∃ p c es, v = .slice p ts.length c ∧ D0 G' p ts.length c 2 es ∧ F4 G' ts es
def srt (zs : List Int) : List Int := zs.mergeSort fun x y => decide (x ≤ y)
def B3m (t : Tm) : List Int := if U5 t = true then Lib.compact (srt ((A1s t).map Tm.lb)) else []
def B3n (t : Tm) : Tm × Bool := if U5 t = true ∧ (A1s t).length ≤ 99 then ((mRl t 0).1, true) else (K1, false)
mutual
def V9 : Tm → Prop
 | .mk k _ _ _ _ _ ks => (k = 14 → ks.length = 1) ∧ A6W ks
def A6W : List Tm → Prop
 | [] => True
 | t :: ts => V9 t ∧ A6W ts
end
def cq1 (t : Tm) : Prop := t.k = 14 → t.ks.length = 1
def TbR (r : Tm × Bool) : IM → Value → List A1 → Prop := I1 fun G' v => ∃ cells, v = .tuple ⟨[.agg ⟨cells⟩, .bool r.2]⟩ ∧ B6 G' r.1 cells
def B3o (e : Tm) : Tm × Bool := if U5 e = true then A4g (A34 A98 e) else (K1, false)
def B3p (e : Tm) (l : Int) : Tm × Bool := match A9x e with
 | some T => if A0c l = true then A4g (R3 (R3 e T O7 l) O7 T l) else (K1, false)
 | none => (K1, false)
inductive MV where
 | mk (k num : Int) (env parts : List MV)
def MV.k : MV → Int | .mk k _ _ _ => k
def MV.num : MV → Int | .mk _ n _ _ => n
def MV.env : MV → List MV | .mk _ _ e _ => e
def MV.parts : MV → List MV | .mk _ _ _ p => p
def Y9 : MV := .mk 0 0 [] []
mutual
def RMv (kc : Int → Int) (G : IM) : MV → List Value → Prop
 | .mk k num env parts, cells => ∃ p c es q d fs, cells = [.int .i64 (kc k), .int .i64 num, .slice p env.length c, .slice q parts.length d] ∧ D7 num ∧ D7 (kc k) ∧ D0 G p env.length c 4 es ∧ A1T kc G env es ∧ D0 G q parts.length d 4 fs ∧ A1T kc G parts fs
def A1T (kc : Int → Int) (G : IM) : List MV → List (List Value) → Prop
 | [], es => es = []
 | t :: ts, es => ∃ a r, es = a :: r ∧ RMv kc G t a ∧ A1T kc G ts r
end
section
variable {kc : Int → Int} {G : IM}
end

def RFr (kc : Int → Int) (G : IM) (f : Int × List MV) (cells : List Value) : Prop := ∃ p c es, cells = [.int .i64 f.1, .slice p f.2.length c] ∧ D7 f.1 ∧ D0 G p f.2.length c 4 es ∧ A1T kc G f.2 es
def A6X (kc : Int → Int) (G : IM) : List (Int × List MV) → List (List Value) → Prop
 | [], es => es = []
 | t :: ts, es => ∃ a r, es = a :: r ∧ RFr kc G t a ∧ A6X kc G ts r
section
variable {kc : Int → Int} {G : IM}
end

structure V4 where
 at' : Int
 st : List MV
 env : List MV
 fr : List (Int × List MV)
def RSs (kc : Int → Int) (G : IM) (s : V4) (cells : List Value) : Prop := ∃ pe ce ps cs pf cf ee es ef, cells = [.int .i64 s.at', .slice pe s.env.length ce, .slice ps s.st.length cs, .slice pf s.fr.length cf] ∧ D7 s.at' ∧
 D0 G pe s.env.length ce 4 ee ∧ A1T kc G s.env ee ∧ D0 G ps s.st.length cs 4 es ∧ A1T kc G s.st es ∧ D0 G pf s.fr.length cf 2 ef ∧ A6X kc G s.fr ef
def A1u (k : Int) : Nat := if k = 6 ∨ k = 7 ∨ k = 8 ∨ k = 11 then 2 else if k = 9 ∨ k = 12 ∨ k = 13 then 1 else 0
def A3d (k : Int) : Int × Nat × Int := if k = 6 then (2, 1, 1) else if k = 7 ∨ k = 8 then (0, 2, 2) else if k = 9 then (1, 1, 3) else if k = 12 ∨ k = 13 then (3, 1, 4) else (0, 0, 0)
def A06 (s : V4) (v : MV) : V4 := { s with st := s.st ++ [v] }
def mGo (k a : Int) (s : V4) (v : List MV) : V4 ⊕ (Int × Int) :=
 if k = 1 then .inl (A06 s (.mk 0 a [] []))
 else if k = 2 then .inl (A06 s (.mk 1 a [] []))
 else if k = 3 then (if (s.env.length : Int) - 1 - a < 0 then .inr (3, 0) else .inl (A06 s (s.env.getD ((s.env.length : Int) - 1 - a).toNat Y9)))
 else if k = 4 then .inl { A06 s (.mk 2 s.at' s.env []) with at' := s.at' + a }
 else if k = 5 then (if s.fr.length = 0 then .inr (3, 0) else .inl { s with at' := (s.fr.getD (s.fr.length - 1) (0, [])).1, env := (s.fr.getD (s.fr.length - 1) (0, [])).2, fr := s.fr.take (s.fr.length - 1) })
 else if k = 6 then .inl { s with at' := (v.getD 0 Y9).num, env := (v.getD 0 Y9).env ++ [v.getD 1 Y9], fr := s.fr ++ [(s.at', s.env)] }
 else if k = 7 then .inl (A06 s (.mk 0 (((v.getD 0 Y9).num + (v.getD 1 Y9).num) % 1000) [] []))
 else if k = 8 then .inl (A06 s (.mk 1 (if (v.getD 0 Y9).num < (v.getD 1 Y9).num then 1 else 0) [] []))
 else if k = 9 then .inl (if (v.getD 0 Y9).num = 0 then { s with at' := s.at' + a } else s)
 else if k = 10 then .inl { s with at' := s.at' + a }
 else if k = 11 then .inl (A06 s (.mk 3 0 [] v))
 else .inl (A06 s ((v.getD 0 Y9).parts.getD (k - 12).toNat Y9))
def A6Y (k : Int) (v : List MV) : Bool := (v.take (A3d k).2.1).all fun u => decide (u.k = (A3d k).1)
def A99 (k a : Int) (s : V4) : V4 ⊕ (Int × Int) :=
 if s.st.length < A1u k then .inr (3, 0)
 else if A6Y k (s.st.drop (s.st.length - A1u k)) = true then mGo k a { s with at' := s.at' + 1, st := s.st.take (s.st.length - A1u k) } (s.st.drop (s.st.length - A1u k))
 else .inr (2, (A3d k).2.2)
def B0a (v : MV) : ByteArray := if v.k = 0 then ⟨(Lib.decDigits v.num.toNat).toArray⟩ else if v.k = 1 then (if v.num = 0 then ⟨#[70]⟩ else ⟨#[84]⟩) else if v.k = 2 then ⟨⟨[102, 117, 110, 99, 116, 105, 111, 110]⟩⟩ else ⟨⟨[112, 97, 105, 114]⟩⟩
def B0b (s : V4) : ByteArray × Int × Int := if s.st.length ≠ 1 ∨ 0 < s.fr.length then (⟨#[]⟩, 3, 0) else (B0a (s.st.getD 0 Y9), 0, 0)
def A6Z (ops : List (Int × Int)) : Nat → V4 → ByteArray × Int × Int
 | t, s => if (ops.length : Int) ≤ s.at' then B0b s else match t with
  | 0 => (⟨#[]⟩, 5, 0)
  | t + 1 => match A99 (ops.getD s.at'.toNat (0, 0)).1 (ops.getD s.at'.toNat (0, 0)).2 s with
   | .inl s' => A6Z ops t s'
   | .inr (c, e) => (⟨#[]⟩, c, e)
def B0c (k behind : Int) : Int := if k = 1 then 999 else if k = 2 then 1 else if k = 3 then 11 else if k = 4 ∨ k = 9 ∨ k = 10 then behind else 0
def B0d (n : Nat) (i : Nat) (x : Int × Int) : Bool := decide (1 ≤ x.1 ∧ x.1 ≤ 13 ∧ 0 ≤ x.2 ∧ x.2 ≤ B0c x.1 ((n : Int) - 1 - i))
def B0e (ops : List (Int × Int)) : Bool := decide (1 ≤ ops.length ∧ ops.length ≤ 120) && (List.range ops.length).all fun i => B0d ops.length i (ops.getD i (0, 0))
def B3q (ops : List (Int × Int)) (ticks : Int) : ByteArray × Int × Int :=
 if B0e ops = true ∧ 0 ≤ ticks ∧ ticks ≤ 2000 then A6Z ops ticks.toNat ⟨0, [], [], []⟩ else (⟨#[]⟩, 3, 0)
def B3r (k a : Int) (s : V4) : V4 ⊕ (Int × Int) :=
 if A6Y k (s.st.drop (s.st.length - A1u k)) = true then mGo k a { s with at' := s.at' + 1, st := s.st.take (s.st.length - A1u k) } (s.st.drop (s.st.length - A1u k))
 else .inr (2, (A3d k).2.2)
section
variable {a : Int} {s : V4} {v0 v1 : MV}
end
mutual
def MV.ok (n : Int) (N : Nat) : MV → Prop
 | .mk k num env parts => 0 ≤ k ∧ k ≤ 3 ∧ 0 ≤ num ∧ num ≤ 999 ∧ (k = 1 → num ≤ 1) ∧ (k = 2 → num ≤ n) ∧ (k = 3 → parts.length = 2) ∧ env.length ≤ N ∧ MV.okL n N env ∧ MV.okL n N parts
def MV.okL (n : Int) (N : Nat) : List MV → Prop
 | [] => True
 | v :: vs => v.ok n N ∧ MV.okL n N vs
end
structure V4.ok (n : Int) (N : Nat) (s : V4) : Prop where
 lo : 0 ≤ s.at'
 hi : s.at' ≤ n
 st : s.st.length ≤ N
 env : s.env.length ≤ N
 fr : s.fr.length ≤ N
 sto : ∀ v ∈ s.st, v.ok n N
 envo : ∀ v ∈ s.env, v.ok n N
 fro : ∀ f ∈ s.fr, 0 ≤ f.1 ∧ f.1 ≤ n ∧ f.2.length ≤ N ∧ ∀ v ∈ f.2, v.ok n N
section
variable {ops : List (Int × Int)} {t : Nat} {s s' : V4}
end
section own
variable {P : Program} {Γ : F8} {env : H1} {hp : List A1} {G : IM} {ty : TypeId} {K : Po} {ops : Array Oper} {rest : List Oper}
variable {pos : String} {af : Array Edge} {gd : Option (Nat × Bool)}
end own
abbrev kI (k : Int) : Int := k
section
variable {P : Program} {Γ : F8} {env : H1} {hp : List A1} {G : IM} {ty : TypeId}
end
theorem A60 {P : Program} {Γ : F8} {env : H1} {hp : List A1} {G : IM} {post : IM → Value → List A1 → Prop} {outs : List A1} (ho : A2 hp outs) (hk : post G (.tuple ⟨[]⟩) outs) : A0n P Γ [] post .normal ⟨env, hp, G⟩ :=
 ⟨⟨[], .nil, outs, ho.spec.choose, ho.spec.choose_spec, hk⟩⟩
def B3s (b : Nat) (A E F : Value) (p : Option Addr) (n c m : Nat) (cs : List Value) (es : List (List Value)) : IM → Value → List A1 → Prop := fun G' v outs =>
 if n < m then v = .tuple ⟨[.slice none 0 0, .bool false]⟩
 else ∃ q d, v = .tuple ⟨[.slice q m d, .bool true]⟩ ∧ outs = [.blk b [A, .slice p (n - m) c, E, F], .slc p c 82 4 (n - m) ((es.take (n - m)).flatten)] ∧ D0 G' q m d 4 (es.drop (n - m))
section
variable {P : Program} {Γ : F8} {env : H1} {hp : List A1} {G : IM} {ty : TypeId}
theorem A61 {x y : Operand} {t t' : TypeId} {m n : Int} (hx : evo env x = some (.int .u8 m)) (hy : evo env y = some (.int .u8 n)) (h0 : 0 ≤ m - n) (h1 : m - n ≤ 255) :
  C9 P Γ ⟨env, hp, G⟩ (.binOp .sub t x y t') ty (.int .u8 (m - n)) := by
 refine ⟨fun a _ hs _ _ _ _ w => ?_⟩
 have hw : IntKind.u8.wrap (m - n) = m - n := IntWalk.u8_in _ ⟨h0, h1⟩
 simp [execOp, eqGuard, binOp, Op.intArith, (hs.evo hx : a.eval x = _), (hs.evo hy : a.eval y = _), hw]
end
def nmB (nm : ByteArray) : UInt8 := nm.data.getD 0 0
mutual
def mFr : ByteArray → Tm → List Bool → List Bool
 | bnd, .mk k nm _ _ _ _ ks, f => A62 (if k = 5 then bnd ++ nm else bnd) ks (if k = 1 ∧ nmB nm ∉ bnd.data.toList then f.set ((nmB nm).toNat - 97) true else f)
def A62 : ByteArray → List Tm → List Bool → List Bool
 | _, [], f => f
 | bnd, t :: ts, f => A62 bnd ts (mFr bnd t f)
end
theorem A3e {nm : ByteArray} (h : S2 nm = true) : nm = ⟨#[nmB nm]⟩ ∧ 97 ≤ (nmB nm).toNat ∧ (nmB nm).toNat ≤ 122 := by
 unfold S2 at h
 rw [decide_eq_true_eq] at h
 obtain ⟨h1, h2, h3⟩ := h
 refine ⟨?_, h2, h3⟩
 obtain ⟨⟨l⟩⟩ := nm
 have hl : l.length = 1 := h1
 match l, hl with
 | [c], _ => rfl
def B3t : Tm → Tm
 | .mk k nm num ty fr lb ks => if k = 13 then ks.headD K1 else if k = 1 ∨ k = 6 ∨ k = 9 ∨ k = 11 ∨ k = 12 then .mk k nm num ty fr lb ks
  else A6S (.mk k nm num (if k = 5 then O7 else ty) fr lb ks)
def B3u : Tm → Prop
 | .mk k _ _ _ _ _ ks => k = 13 → ks ≠ []
abbrev A0 := List UInt8
def V5 (k : Int) : UInt8 := if k = 1 then 63 else if k = 2 then 73 else if k = 3 then 66 else if k = 4 then 62 else 42
def O1 (b : UInt8) : Int := if b = 63 then 1 else if b = 73 then 2 else if b = 66 then 3 else if b = 62 then 4 else if b = 42 then 5 else 0
def tyN (k : Int) : List A0 → A0
 | [] => [V5 k]
 | [_] => []
 | a :: b :: _ => 40 :: (a ++ V5 k :: (b ++ [41]))
mutual
def K6 : Ty → A0
 | .mk k ks => tyN k (A07 ks)
def A07 : List Ty → List A0
 | [] => []
 | t :: ts => K6 t :: A07 ts
end
def H6 (k : Int) (nm : ByteArray) (num : Int) (ty fr : A0) (lb : Int) (ks : List A0) : A0 :=
 if k = 1 then nm.data.toList else if k = 2 then Lib.itoa num else if k = 3 then [84] else if k = 4 then [70]
 else if k = 5 then 33 :: (nm.data.toList ++ 58 :: (ty ++ 46 :: ks.getD 0 []))
 else if k = 6 then 40 :: (ks.getD 0 [] ++ 32 :: (ks.getD 1 [] ++ [41]))
 else if k = 7 then 40 :: (ks.getD 0 [] ++ 43 :: (ks.getD 1 [] ++ [41]))
 else if k = 8 then 40 :: (ks.getD 0 [] ++ 60 :: (ks.getD 1 [] ++ [41]))
 else if k = 9 then 123 :: (ks.getD 0 [] ++ 63 :: (ks.getD 1 [] ++ 58 :: (ks.getD 2 [] ++ [125])))
 else if k = 10 then 91 :: (ks.getD 0 [] ++ 44 :: (ks.getD 1 [] ++ [93]))
 else if k = 11 then 36 :: ks.getD 0 [] else if k = 12 then 37 :: ks.getD 0 []
 else if k = 13 then 40 :: (ks.getD 0 [] ++ 58 :: (ty ++ [41]))
 else 40 :: (ks.getD 0 [] ++ 58 :: (fr ++ 126 :: (ty ++ 35 :: (Lib.itoa lb ++ [41]))))
mutual
def A3 : Tm → A0
 | .mk k nm num ty fr lb ks => H6 k nm num (K6 ty) (K6 fr) lb (N0 ks)
def N0 : List Tm → List A0
 | [] => []
 | t :: ts => A3 t :: N0 ts
end
def nd (k : Int) (ks : List Tm) : Tm := .mk k ⟨#[]⟩ 0 A4 A4 0 ks
def P0 : A0 → Option (UInt8 × A0)
 | [] => none
 | b :: r => some (b, r)
def C3 (c : UInt8) : A0 → Option A0
 | [] => none
 | b :: r => if b = c then some r else none
def Q8 (lo hi : Int) : A0 → Option (Int × A0)
 | [] => none
 | b :: r => if lo ≤ O1 b ∧ O1 b ≤ hi then some (O1 b, r) else none
def K3 : Nat → A0 → Option (Ty × A0)
 | 0, _ => none
 | n + 1, l => if l.headD 0 = 40 then (K3 n l.tail).bind fun x => (Q8 4 5 x.2).bind fun y => (K3 n y.2).bind fun z => (C3 41 z.2).map fun w => (.mk y.1 [x.1, z.1], w)
  else (Q8 1 3 l).map fun y => (.mk y.1 [], y.2)
def D9 (b : UInt8) : Prop := 48 ≤ b.toNat ∧ b.toNat ≤ 57
instance (b : UInt8) : Decidable (D9 b) := by unfold D9; infer_instance
def M5 : A0 → Nat
 | [] => 0
 | c :: r => if D9 c then M5 r + 1 else 0
def L7 : A0 → Nat
 | [] => 0
 | c :: r => if D9 c ∨ c = 45 then M5 r + 1 else 0
def T6 (l : A0) : Option (Int × A0) :=
 match Lib.atoiAll (l.take (L7 l)) with
 | .ok v => some (v, l.drop (L7 l))
 | _ => none
def A1U (f : A0 → Option (Tm × A0)) (l : A0) : Option (Tm × A0) :=
 (P0 l).bind fun x => (C3 58 x.2).bind fun r2 => (K3 4 r2).bind fun y => (C3 46 y.2).bind fun r4 => (f r4).map fun z => (.mk 5 ⟨#[x.1]⟩ 0 y.1 A4 0 [z.1], z.2)
def pIf (f : A0 → Option (Tm × A0)) (l : A0) : Option (Tm × A0) :=
 (f l).bind fun a => (C3 63 a.2).bind fun r1 => (f r1).bind fun b => (C3 58 b.2).bind fun r2 => (f r2).bind fun c => (C3 125 c.2).map fun r3 => (nd 9 [a.1, b.1, c.1], r3)
def A1V (f : A0 → Option (Tm × A0)) (l : A0) : Option (Tm × A0) :=
 (f l).bind fun a => (C3 44 a.2).bind fun r1 => (f r1).bind fun b => (C3 93 b.2).map fun r3 => (nd 10 [a.1, b.1], r3)
def A0R (f : A0 → Option (Tm × A0)) (k : Int) (a : Tm) (l : A0) : Option (Tm × A0) :=
 (f l).bind fun b => (C3 41 b.2).map fun r3 => (nd k [a, b.1], r3)
def pAs (a : Tm) (l : A0) : Option (Tm × A0) :=
 (K3 4 l).bind fun t => if t.2.headD 0 = 126 then (K3 4 t.2.tail).bind fun u => (C3 35 u.2).bind fun r2 => (T6 r2).bind fun m => (C3 41 m.2).map fun r3 => (.mk 14 ⟨#[]⟩ 0 u.1 t.1 m.1 [a], r3)
  else (C3 41 t.2).map fun r2 => (.mk 13 ⟨#[]⟩ 0 t.1 A4 0 [a], r2)
def Q9 (f : A0 → Option (Tm × A0)) (l : A0) : Option (Tm × A0) :=
 (f l).bind fun a => (P0 a.2).bind fun o => if o.1 = 32 then A0R f 6 a.1 o.2 else if o.1 = 43 then A0R f 7 a.1 o.2 else if o.1 = 60 then A0R f 8 a.1 o.2 else if o.1 = 58 then pAs a.1 o.2 else none
def Q3 (f : A0 → Option (Tm × A0)) (k : Int) (l : A0) : Option (Tm × A0) := (f l).map fun x => (nd k [x.1], x.2)
def D5 : Nat → A0 → Option (Tm × A0)
 | 0, _ => none
 | _ + 1, [] => none
 | n + 1, b :: r =>
  if 97 ≤ b.toNat ∧ b.toNat ≤ 122 then some (.mk 1 ⟨#[b]⟩ 0 A4 A4 0 [], r)
  else if D9 b then (T6 (b :: r)).map fun x => (.mk 2 ⟨#[]⟩ x.1 A4 A4 0 [], x.2)
  else if b = 84 then some (nd 3 [], r)
  else if b = 70 then some (nd 4 [], r)
  else if b = 33 then A1U (D5 n) r
  else if b = 123 then pIf (D5 n) r
  else if b = 91 then A1V (D5 n) r
  else if b = 36 then Q3 (D5 n) 11 r
  else if b = 37 then Q3 (D5 n) 12 r
  else if b = 40 then Q9 (D5 n) r
  else none
def J7 : Nat → A0 → Option (Ty × A0)
 | 0, _ => none
 | _ + 1, [] => none
 | n + 1, b :: r =>
  if b = 63 then some (.mk 1 [], r) else if b = 73 then some (.mk 2 [], r) else if b = 66 then some (.mk 3 [], r)
  else if b = 40 then (J7 n r).bind fun x => (P0 x.2).bind fun o => (J7 n o.2).bind fun z => if o.1 = 62 ∨ o.1 = 42 then (C3 41 z.2).map fun w => (.mk (if o.1 = 62 then 4 else 5) [x.1, z.1], w) else none
  else none
def R4 (acc : Nat) (l : A0) : Nat := l.foldl (fun a c => a * 10 + (c.toNat - 48)) acc
theorem A08 (acc : Nat) (c : UInt8) (r : A0) : R4 acc (c :: r) = R4 (acc * 10 + (c.toNat - 48)) r := by unfold R4; rw [List.foldl_cons]
theorem A3f (acc : Nat) : R4 acc [] = acc := rfl
def X9 (l : A0) : Option (Int × A0) :=
 let m := M5 (l.take 4)
 if m = 0 ∨ (l.headD 0 = 48 ∧ 1 < m) then none else some ((R4 0 (l.take m) : Nat), l.drop m)
def P1 (f : A0 → Option (Tm × A0)) : List UInt8 → A0 → Option (List Tm × A0)
 | [], l => some ([], l)
 | c :: cs, l => (f l).bind fun x => (C3 c x.2).bind fun r => (P1 f cs r).map fun y => (x.1 :: y.1, y.2)
def U9 (f : A0 → Option (Tm × A0)) (l : A0) : Option (Tm × A0) :=
 (P0 l).bind fun x => (C3 58 x.2).bind fun r2 => (J7 4 r2).bind fun y => (C3 46 y.2).bind fun r4 => (f r4).map fun z => (.mk 5 ⟨#[x.1]⟩ 0 y.1 A4 0 [z.1], z.2)
def T7 (a : Tm) (t : Ty) (l : A0) : Option (Tm × A0) :=
 (J7 4 l).bind fun u => (C3 35 u.2).bind fun r2 => if r2 = [] then none else
  if r2.headD 0 = 45 then (X9 r2.tail).bind fun m => (C3 41 m.2).map fun r3 => (.mk 14 ⟨#[]⟩ 0 u.1 t (-m.1) [a], r3)
  else (X9 r2).bind fun m => (C3 41 m.2).map fun r3 => (.mk 14 ⟨#[]⟩ 0 u.1 t m.1 [a], r3)
def Y0 (a : Tm) (l : A0) : Option (Tm × A0) :=
 (J7 4 l).bind fun t => if t.2.headD 0 = 41 then some (.mk 13 ⟨#[]⟩ 0 t.1 A4 0 [a], t.2.tail) else if t.2.headD 0 = 126 then T7 a t.1 t.2.tail else none
def A0S (f : A0 → Option (Tm × A0)) (k : Int) (a : Tm) (l : A0) : Option (Tm × A0) :=
 (P1 f [41] l).map fun x => (nd k (a :: x.1), x.2)
def R7 (f : A0 → Option (Tm × A0)) (l : A0) : Option (Tm × A0) :=
 (f l).bind fun a => (P0 a.2).bind fun o => if o.1 = 32 then A0S f 6 a.1 o.2 else if o.1 = 43 then A0S f 7 a.1 o.2 else if o.1 = 60 then A0S f 8 a.1 o.2 else if o.1 = 58 then Y0 a.1 o.2 else none
def E1 : Nat → A0 → Option (Tm × A0)
 | 0, _ => none
 | _ + 1, [] => none
 | n + 1, b :: r =>
  if b = 84 then some (nd 3 [], r)
  else if b = 70 then some (nd 4 [], r)
  else if b = 33 then U9 (E1 n) r
  else if b = 40 then R7 (E1 n) r
  else if b = 123 then (P1 (E1 n) [63, 58, 125] r).map fun x => (nd 9 x.1, x.2)
  else if b = 91 then (P1 (E1 n) [44, 93] r).map fun x => (nd 10 x.1, x.2)
  else if b = 36 then Q3 (E1 n) 11 r
  else if b = 37 then Q3 (E1 n) 12 r
  else if 97 ≤ b.toNat ∧ b.toNat ≤ 122 then some (.mk 1 ⟨#[b]⟩ 0 A4 A4 0 [], r)
  else (X9 (b :: r)).map fun x => (.mk 2 ⟨#[]⟩ x.1 A4 A4 0 [], x.2)
theorem A63 {k : Int} (h : k = 1 ∨ k = 2 ∨ k = 3 ∨ k = 4 ∨ k = 5) : O1 (V5 k) = k := by rcases h with rfl | rfl | rfl | rfl | rfl <;> rfl
theorem B0f {k : Int} : V5 k ≠ 40 := by
 unfold V5
 repeat' split
 all_goals decide
theorem A09 {t : Ty} {d : Int} (h : H5 t d = true) : d ≤ 4 ∧ ((∃ k, (k = 1 ∨ k = 2 ∨ k = 3) ∧ t = .mk k []) ∨ (∃ k a b, (k = 4 ∨ k = 5) ∧ t = .mk k [a, b] ∧ H5 a (d + 1) = true ∧ H5 b (d + 1) = true)) := by
 obtain ⟨k, ks⟩ := t
 rw [H5] at h
 simp only [Bool.and_eq_true, decide_eq_true_eq] at h
 obtain ⟨⟨h1, h2⟩, h3⟩ := h
 refine ⟨h1, ?_⟩
 unfold R1 at h2
 split at h2
 ·rename_i hk
  left
  obtain rfl : ks = [] := List.length_eq_zero_iff.1 (by omega)
  exact ⟨k, hk, rfl⟩
 ·split at h2
  ·rename_i hk
   right
   match ks, (show ks.length = 2 by omega), h3 with
   | [a, b], _, h3 =>
    simp only [A0b, Bool.and_eq_true, and_true] at h3
    exact ⟨k, a, b, hk, rfl, h3.1, h3.2⟩
  ·omega
theorem A3g : ∀ (n : Nat) (t : Ty) (d : Int) (rest : A0), H5 t d = true → 5 - d ≤ n → K3 n (K6 t ++ rest) = some (t, rest) := by
 intro n
 induction n with
 | zero => intro t d rest h hn; have := (A09 h).1; omega
 | succ m ih =>
  intro t d rest h hn
  obtain ⟨hd, hc⟩ := A09 h
  rcases hc with ⟨k, hk, rfl⟩ | ⟨k, a, b, hk, rfl, ha, hb⟩
  ·rw [K3, K6, A07, tyN]
   rw [List.cons_append, List.headD_cons, if_neg B0f, Q8, A63 (by omega), if_pos (by omega)]
   rfl
  ·have e : K6 (.mk k [a, b]) ++ rest = 40 :: (K6 a ++ (V5 k :: (K6 b ++ (41 :: rest)))) := by simp [K6, A07, tyN]
   rw [K3, e, List.headD_cons, if_pos rfl, List.tail_cons, ih a (d + 1) _ ha (by omega)]
   simp only [Option.bind_some]
   rw [Q8, A63 (by omega), if_pos (by omega)]
   simp only [Option.bind_some]
   rw [ih b (d + 1) _ hb (by omega)]
   simp [C3]
theorem A3h : ∀ (n : Nat) (t : Ty) (d : Int) (rest : A0), H5 t d = true → 5 - d ≤ n → J7 n (K6 t ++ rest) = some (t, rest) := by
 intro n
 induction n with
 | zero => intro t d rest h hn; have := (A09 h).1; omega
 | succ m ih =>
  intro t d rest h hn
  obtain ⟨hd, hc⟩ := A09 h
  rcases hc with ⟨k, hk, rfl⟩ | ⟨k, a, b, hk, rfl, ha, hb⟩
  ·rw [K6, A07, tyN, List.cons_append, J7]
   rcases hk with rfl | rfl | rfl <;> rfl
  ·have e : K6 (.mk k [a, b]) ++ rest = 40 :: (K6 a ++ (V5 k :: (K6 b ++ (41 :: rest)))) := by simp [K6, A07, tyN]
   rw [e, J7, if_neg (by decide), if_neg (by decide), if_neg (by decide), if_pos rfl, ih a (d + 1) _ ha (by omega)]
   simp only [Option.bind_some, P0]
   rw [ih b (d + 1) _ hb (by omega)]
   rcases hk with rfl | rfl <;> simp [C3, V5]
def T8 (l : A0) : Prop := M5 l = 0
theorem P2 {c : UInt8} {l : A0} (h : ¬D9 c) : T8 (c :: l) := by unfold T8; rw [M5, if_neg h]
theorem A3i : ∀ (ds rest : A0), (∀ c ∈ ds, D9 c) → T8 rest → M5 (ds ++ rest) = ds.length
 | [], rest, _, hr => hr
 | c :: ds, rest, hd, hr => by
  rw [List.cons_append, M5, if_pos (hd c List.mem_cons_self), A3i ds rest (fun x hx => hd x (List.mem_cons_of_mem _ hx)) hr, List.length_cons]
def R0 (u : Nat) : A0 := if u < 10 then [UInt8.ofNat (48 + u)] else if u < 100 then [UInt8.ofNat (48 + u / 10), UInt8.ofNat (48 + u % 10)] else [UInt8.ofNat (48 + u / 10 / 10), UInt8.ofNat (48 + u / 10 % 10), UInt8.ofNat (48 + u % 10)]
theorem A64 {u : Nat} (h : u < 1000) : Lib.decDigits u = R0 u := by
 unfold R0
 by_cases h1 : u < 10
 ·rw [if_pos h1, Lib.decDigits, dif_pos h1]
 ·rw [if_neg h1, Lib.decDigits, dif_neg h1]
  by_cases h2 : u < 100
  ·rw [if_pos h2, Lib.decDigits, dif_pos (by omega)]; rfl
  ·rw [if_neg h2, Lib.decDigits, dif_neg (by omega), Lib.decDigits, dif_pos (by omega)]; rfl
theorem dgn {u : Nat} (h : u < 10) : (UInt8.ofNat (48 + u)).toNat = 48 + u := by
 rw [UInt8.toNat_ofNat']; omega
theorem A1a {u : Nat} (h : u < 1000) : (∀ c ∈ R0 u, D9 c) ∧ R0 u ≠ [] ∧ (R0 u).length ≤ 3 ∧ ((R0 u).headD 0 = 48 → (R0 u).length ≤ 1) ∧ R4 0 (R0 u) = u := by
 unfold R0
 by_cases h1 : u < 10
 ·rw [if_pos h1]
  have := dgn h1
  refine ⟨?_, by simp, by simp, by simp, ?_⟩
  ·intro c hc; simp only [List.mem_singleton] at hc; subst hc; unfold D9; rw [this]; omega
  ·rw [A08, A3f, this]; omega
 ·rw [if_neg h1]
  by_cases h2 : u < 100
  ·rw [if_pos h2]
   have g1 := dgn (u := u / 10) (by omega)
   have g2 := dgn (u := u % 10) (by omega)
   refine ⟨?_, by simp, by simp, ?_, ?_⟩
   ·intro c hc; simp only [List.mem_cons, List.not_mem_nil, or_false] at hc; unfold D9; rcases hc with rfl | rfl <;> first | (rw [g1]; omega) | (rw [g2]; omega)
   ·intro hh
    rw [List.headD_cons] at hh
    rw [hh] at g1
    have : (48 : UInt8).toNat = 48 := rfl
    rw [this] at g1
    omega
   ·rw [A08, A08, A3f, g1, g2]; omega
  ·rw [if_neg h2]
   have g0 := dgn (u := u / 10 / 10) (by omega)
   have g1 := dgn (u := u / 10 % 10) (by omega)
   have g2 := dgn (u := u % 10) (by omega)
   refine ⟨?_, by simp, by simp, ?_, ?_⟩
   ·intro c hc; simp only [List.mem_cons, List.not_mem_nil, or_false] at hc; unfold D9; rcases hc with rfl | rfl | rfl <;> first | (rw [g0]; omega) | (rw [g1]; omega) | (rw [g2]; omega)
   ·intro hh
    rw [List.headD_cons] at hh
    rw [hh] at g0
    have : (48 : UInt8).toNat = 48 := rfl
    rw [this] at g0
    omega
   ·rw [A08, A08, A08, A3f, g0, g1, g2]; omega
theorem A65 : ∀ (ds : A0) (acc : Nat), (∀ c ∈ ds, D9 c) → (acc + 1) * 10 ^ ds.length ≤ 1000000 → Lib.parseUint10 acc ds = .ok (R4 acc ds)
 | [], acc, _, _ => rfl
 | c :: r, acc, hd, hb => by
  have h1 := hd c List.mem_cons_self
  unfold D9 at h1
  rw [List.length_cons, Nat.pow_succ, Nat.mul_comm (10 ^ r.length) 10, ← Nat.mul_assoc] at hb
  have hp : 1 ≤ 10 ^ r.length := Nat.one_le_pow _ _ (by decide)
  have hacc : (acc + 1) * 10 ≤ 1000000 := Nat.le_trans (Nat.le_mul_of_pos_right _ hp) hb
  have hb2 : (acc * 10 + (c.toNat - 48) + 1) * 10 ^ r.length ≤ 1000000 := Nat.le_trans (Nat.mul_le_mul_right _ (by omega)) hb
  rw [Lib.parseUint10, if_pos h1, if_neg (by omega), if_neg (by omega), A08]
  exact A65 r _ (fun x hx => hd x (List.mem_cons_of_mem _ hx)) hb2
theorem A66 {u : Nat} (h : u < 1000) : Lib.parseMag (R0 u) = .ok u := by
 obtain ⟨h1, h2, h3, _, h5⟩ := A1a h
 unfold Lib.parseMag
 rw [if_neg h2, A65 _ 0 h1, h5]
 have : 10 ^ (R0 u).length ≤ 10 ^ 3 := Nat.pow_le_pow_right (by decide) h3
 omega
theorem B0g {u : Nat} (h : u < 1000) : Lib.atoiAll (R0 u) = .ok (u : Int) := by
 obtain ⟨h1, h2, _⟩ := A1a h
 have hm := A66 h
 match hd : R0 u, h2 with
 | c :: r, _ =>
  rw [hd] at h1 hm
  have hc := h1 c List.mem_cons_self
  unfold D9 at hc
  rw [Lib.atoiAll_plain c r (by omega) (by omega), hm, Lib.signless, if_neg (by omega)]
theorem B0h {u : Nat} (h : u < 1000) : Lib.atoiAll (45 :: R0 u) = .ok (-(u : Int)) := by
 rw [Lib.atoiAll_minus, A66 h, Lib.signed, if_neg (by omega)]
theorem A2s {n : Int} (h0 : 0 ≤ n) (h : n ≤ 999) : Lib.itoa n = R0 n.toNat := by
 unfold Lib.itoa; rw [if_neg (by omega), A64 (by omega)]
theorem A4m {n : Int} (h0 : n < 0) (h : -999 ≤ n) : Lib.itoa n = 45 :: R0 n.natAbs := by
 unfold Lib.itoa; rw [if_pos h0, A64 (by omega)]
theorem B0i {ds rest : A0} (h1 : ∀ c ∈ ds, D9 c) (h2 : ds ≠ []) (hr : T8 rest) : L7 (ds ++ rest) = ds.length := by
 match ds, h2 with
 | c :: r, _ =>
  rw [List.cons_append, L7, if_pos (.inl (h1 c List.mem_cons_self)), A3i r rest (fun x hx => h1 x (List.mem_cons_of_mem _ hx)) hr, List.length_cons]
theorem B0j {ds rest : A0} (h1 : ∀ c ∈ ds, D9 c) (hr : T8 rest) : L7 (45 :: ds ++ rest) = (45 :: ds).length := by
 rw [List.cons_append, L7, if_pos (.inr rfl), A3i ds rest h1 hr, List.length_cons]
theorem B0k {n : Int} (h0 : 0 ≤ n) (h : n ≤ 999) {rest : A0} (hr : T8 rest) : T6 (Lib.itoa n ++ rest) = some (n, rest) := by
 have hu : n.toNat < 1000 := by omega
 obtain ⟨h1, h2, _⟩ := A1a hu
 rw [A2s h0 h]
 unfold T6
 rw [B0i h1 h2 hr, List.take_left, List.drop_left, B0g hu, Int.toNat_of_nonneg h0]
theorem B0l {n : Int} (h0 : n < 0) (h : -999 ≤ n) {rest : A0} (hr : T8 rest) : T6 (Lib.itoa n ++ rest) = some (n, rest) := by
 have hu : n.natAbs < 1000 := by omega
 obtain ⟨h1, h2, _⟩ := A1a hu
 rw [A4m h0 h]
 unfold T6
 rw [B0j h1 hr, List.take_left, List.drop_left, B0h hu, show -(n.natAbs : Int) = n by omega]
theorem A67 {n : Int} (h0 : -999 ≤ n) (h : n ≤ 999) {rest : A0} (hr : T8 rest) : T6 (Lib.itoa n ++ rest) = some (n, rest) := by
 by_cases hn : n < 0
 ·exact B0l hn h0 hr
 ·exact B0k (by omega) h hr
theorem B0m {ds rest : A0} (h1 : ∀ c ∈ ds, D9 c) (hl : ds.length ≤ 3) (hr : T8 rest) : M5 ((ds ++ rest).take 4) = ds.length := by
 rw [List.take_append, List.take_of_length_le (by omega)]
 refine A3i ds _ h1 ?_
 unfold T8 at hr ⊢
 cases rest with
 | nil => simp [M5]
 | cons c r =>
  rw [show 4 - ds.length = (3 - ds.length) + 1 by omega, List.take_succ_cons, M5]
  rw [M5] at hr
  split at hr
  ·omega
  ·rename_i hc; rw [if_neg hc]
theorem A4n {u : Nat} (hu : u < 1000) {rest : A0} (hr : T8 rest) : X9 (R0 u ++ rest) = some ((u : Int), rest) := by
 obtain ⟨h1, h2, h3, h4, h5⟩ := A1a hu
 unfold X9
 simp only [B0m h1 h3 hr]
 have hh : (R0 u ++ rest).headD 0 = (R0 u).headD 0 := by
  match R0 u, h2 with
  | c :: r, _ => rfl
 have hl : (R0 u).length ≠ 0 := fun he => h2 (List.length_eq_zero_iff.1 he)
 rw [hh, if_neg (fun hc => hc.elim hl (fun hc => by have := h4 hc.1; omega)), List.take_left, List.drop_left, h5]
theorem A68 {t : Ty} (h : S8 t = true) : t = A4 := by
 obtain ⟨k, ks⟩ := t
 unfold S8 at h
 rw [decide_eq_true_eq] at h
 obtain ⟨h1, h2⟩ := h
 simp only [Ty.k, Ty.ks] at h1 h2
 rw [h1, List.length_eq_zero_iff.1 h2]; rfl
inductive Z0 : Tm → Prop where
 | var (b : UInt8) : 97 ≤ b.toNat → b.toNat ≤ 122 → Z0 (.mk 1 ⟨#[b]⟩ 0 A4 A4 0 [])
 | num (n : Int) : 0 ≤ n → n ≤ 999 → Z0 (.mk 2 ⟨#[]⟩ n A4 A4 0 [])
 | tru : Z0 (nd 3 [])
 | fls : Z0 (nd 4 [])
 | lam (b : UInt8) (ty : Ty) (a : Tm) : 97 ≤ b.toNat → b.toNat ≤ 122 → R2 ty = true → Z0 (.mk 5 ⟨#[b]⟩ 0 ty A4 0 [a])
 | bin (k : Int) (a b : Tm) : k = 6 ∨ k = 7 ∨ k = 8 → Z0 (nd k [a, b])
 | ite (a b c : Tm) : Z0 (nd 9 [a, b, c])
 | pair (a b : Tm) : Z0 (nd 10 [a, b])
 | un (k : Int) (a : Tm) : k = 11 ∨ k = 12 → Z0 (nd k [a])
 | asc (ty : Ty) (a : Tm) : R2 ty = true → Z0 (.mk 13 ⟨#[]⟩ 0 ty A4 0 [a])
 | cast (ty fr : Ty) (lb : Int) (a : Tm) : R2 ty = true → R2 fr = true → -999 ≤ lb → lb ≤ 999 → Z0 (.mk 14 ⟨#[]⟩ 0 ty fr lb [a])
theorem A4o {k : Int} {nm : ByteArray} {num : Int} {ty fr : Ty} {lb : Int} {ks : List Tm} (h : S3 k nm num ty fr lb ks.length = true) : Z0 (.mk k nm num ty fr lb ks) := by
 obtain ⟨n1, n2, n3, n4, n5, n6, n7, n8, n9⟩ := A1G.1 h
 have hkk : k = 1 ∨ k = 2 ∨ k = 3 ∨ k = 4 ∨ k = 5 ∨ k = 6 ∨ k = 7 ∨ k = 8 ∨ k = 9 ∨ k = 10 ∨ k = 11 ∨ k = 12 ∨ k = 13 ∨ k = 14 := by
  unfold J3 at n1
  repeat' split at n1
  all_goals omega
 have L0 : J3 k = 0 → ks = [] := fun h => List.length_eq_zero_iff.1 (by omega)
 have L1 : J3 k = 1 → ∃ a, ks = [a] := fun h => by
  match ks, (show ks.length = 1 by omega) with
  | [a], _ => exact ⟨a, rfl⟩
 have L2 : J3 k = 2 → ∃ a b, ks = [a, b] := fun h => by
  match ks, (show ks.length = 2 by omega) with
  | [a, b], _ => exact ⟨a, b, rfl⟩
 have L3 : J3 k = 3 → ∃ a b c, ks = [a, b, c] := fun h => by
  match ks, (show ks.length = 3 by omega) with
  | [a, b, c], _ => exact ⟨a, b, c, rfl⟩
 have E := fun (hk : ¬(k = 5 ∨ k = 13 ∨ k = 14)) => A68 (n7 hk)
 have E2 := fun (hk : k ≠ 14) => And.intro (A68 (n9 hk).1) (n9 hk).2
 have E3 := fun (hk : k ≠ 2) => show num = 0 by have := A0q (n5 hk); omega
 clear n1 n5 n7 n9 h
 rcases hkk with rfl | rfl | rfl | rfl | rfl | rfl | rfl | rfl | rfl | rfl | rfl | rfl | rfl | rfl
 ·obtain ⟨h1, h2, h3⟩ := A3e (n2 (.inl rfl))
  rw [L0 rfl, E (by decide), (E2 (by decide)).1, (E2 (by decide)).2, E3 (by decide), h1]
  exact .var _ h2 h3
 ·have h2 := A0q (n4 rfl)
  rw [L0 rfl, E (by decide), (E2 (by decide)).1, (E2 (by decide)).2, n3 (by decide)]
  exact .num _ h2.1 h2.2
 ·rw [L0 rfl, E (by decide), (E2 (by decide)).1, (E2 (by decide)).2, n3 (by decide), E3 (by decide)]; exact .tru
 ·rw [L0 rfl, E (by decide), (E2 (by decide)).1, (E2 (by decide)).2, n3 (by decide), E3 (by decide)]; exact .fls
 ·obtain ⟨a, rfl⟩ := L1 rfl
  obtain ⟨h1, h2, h3⟩ := A3e (n2 (.inr rfl))
  rw [(E2 (by decide)).1, (E2 (by decide)).2, E3 (by decide), h1]
  exact .lam _ _ _ h2 h3 (n6 (.inl rfl))
 ·obtain ⟨a, b, rfl⟩ := L2 rfl
  rw [E (by decide), (E2 (by decide)).1, (E2 (by decide)).2, n3 (by decide), E3 (by decide)]; exact .bin _ _ _ (by decide)
 ·obtain ⟨a, b, rfl⟩ := L2 rfl
  rw [E (by decide), (E2 (by decide)).1, (E2 (by decide)).2, n3 (by decide), E3 (by decide)]; exact .bin _ _ _ (by decide)
 ·obtain ⟨a, b, rfl⟩ := L2 rfl
  rw [E (by decide), (E2 (by decide)).1, (E2 (by decide)).2, n3 (by decide), E3 (by decide)]; exact .bin _ _ _ (by decide)
 ·obtain ⟨a, b, c, rfl⟩ := L3 rfl
  rw [E (by decide), (E2 (by decide)).1, (E2 (by decide)).2, n3 (by decide), E3 (by decide)]; exact .ite _ _ _
 ·obtain ⟨a, b, rfl⟩ := L2 rfl
  rw [E (by decide), (E2 (by decide)).1, (E2 (by decide)).2, n3 (by decide), E3 (by decide)]; exact .pair _ _
 ·obtain ⟨a, rfl⟩ := L1 rfl
  rw [E (by decide), (E2 (by decide)).1, (E2 (by decide)).2, n3 (by decide), E3 (by decide)]; exact .un _ _ (by decide)
 ·obtain ⟨a, rfl⟩ := L1 rfl
  rw [E (by decide), (E2 (by decide)).1, (E2 (by decide)).2, n3 (by decide), E3 (by decide)]; exact .un _ _ (by decide)
 ·obtain ⟨a, rfl⟩ := L1 rfl
  rw [(E2 (by decide)).1, (E2 (by decide)).2, n3 (by decide), E3 (by decide)]; exact .asc _ _ (n6 (by decide))
 ·obtain ⟨a, rfl⟩ := L1 rfl
  obtain ⟨h1, h2⟩ := n8 rfl
  unfold A0r at h1
  simp only [Bool.and_eq_true] at h1
  unfold A0c at h2
  rw [Bool.or_eq_true] at h2
  rw [n3 (by decide), E3 (by decide)]
  exact .cast _ _ _ _ (n6 (by decide)) h1.1.1 (by rcases h2 with h | h <;> have := A0q h <;> omega) (by rcases h2 with h | h <;> have := A0q h <;> omega)
theorem A4p {n : Int} (h0 : 0 ≤ n) (h : n ≤ 999) (rest : A0) : ∃ c r, Lib.itoa n ++ rest = c :: r ∧ D9 c := by
 rw [A2s h0 h]
 obtain ⟨h1, h2, _⟩ := A1a (u := n.toNat) (by omega)
 match hd : R0 n.toNat, h2 with
 | c :: r, _ => exact ⟨c, r ++ rest, rfl, h1 c (by rw [hd]; exact List.mem_cons_self)⟩
set_option maxRecDepth 4000 in
theorem B0n (D N : Int) : ∀ (n : Nat) (e : Tm) (d : Int) (rest : A0), N7 D N e d = true → D + 1 - d ≤ n → T8 rest → D5 n (A3 e ++ rest) = some (e, rest) := by
 intro n
 induction n with
 | zero =>
  intro e d rest h hn
  obtain ⟨k, nm, num, ty, fr, lb, ks⟩ := e
  have := (A1o h).1
  omega
 | succ m ih =>
  intro e d rest h hn hr
  obtain ⟨k, nm, num, ty, fr, lb, ks⟩ := e
  obtain ⟨hd, _, h3, h4⟩ := A1o h
  have I : ∀ x ∈ ks, ∀ rs, T8 rs → D5 m (A3 x ++ rs) = some (x, rs) := fun x hx rs hrs => by
   obtain ⟨i, hi, rfl⟩ := List.getElem_of_mem hx
   exact ih _ (d + 1) rs ((A0O D N ks _).1 h4 i hi) (by omega) hrs
  have hf := A4o h3
  have e0 : ∀ x : Tm, x = .mk k nm num ty fr lb ks → x.ks = ks := fun x hx => by rw [hx]; rfl
  generalize hX : Tm.mk k nm num ty fr lb ks = X at hf e0 ⊢
  have I : ∀ x ∈ X.ks, ∀ rs, T8 rs → D5 m (A3 x ++ rs) = some (x, rs) := by rw [e0 X rfl]; exact I
  clear h h3 h4 hd ih e0 hX
  cases hf with
  | var b h1 h2 =>
   have e : A3 (.mk 1 ⟨#[b]⟩ 0 A4 A4 0 []) ++ rest = b :: rest := by simp [A3, H6]
   rw [e, D5, if_pos ⟨h1, h2⟩]
  | num n h1 h2 =>
   have e : A3 (.mk 2 ⟨#[]⟩ n A4 A4 0 []) ++ rest = Lib.itoa n ++ rest := by simp [A3, H6]
   obtain ⟨c, r, e2, hc⟩ := A4p h1 h2 rest
   have hp := A67 (n := n) (by omega) h2 hr
   rw [e, e2]
   rw [e2] at hp
   have hc2 := hc
   unfold D9 at hc2
   rw [D5, if_neg (by omega), if_pos hc, hp]; rfl
  | tru => simp [A3, H6, nd, D5, D9]
  | fls => simp [A3, H6, nd, D5, D9]
  | lam b ty a h1 h2 ht =>
   have e : A3 (.mk 5 ⟨#[b]⟩ 0 ty A4 0 [a]) ++ rest = 33 :: b :: 58 :: (K6 ty ++ (46 :: (A3 a ++ rest))) := by simp [A3, N0, H6]
   rw [e, D5, if_neg (by decide), if_neg (by decide), if_neg (by decide), if_neg (by decide), if_pos rfl]
   have hT := A3g 4 ty 1 (46 :: (A3 a ++ rest)) ht (by decide)
   simp [A1U, P0, C3, hT, I a (by simp [Tm.ks]) rest hr]
  | bin k a b hk =>
   have ha := I a (by simp [Tm.ks, nd])
   have hb := I b (by simp [Tm.ks, nd]) (41 :: rest) (P2 (by decide))
   rcases hk with rfl | rfl | rfl
   ·have e : A3 (nd 6 [a, b]) ++ rest = 40 :: (A3 a ++ (32 :: (A3 b ++ (41 :: rest)))) := by simp [A3, N0, H6, nd]
    rw [e, D5]
    simp [D9, Q9, ha (32 :: _) (P2 (by decide)), P0, A0R, hb, C3]
   ·have e : A3 (nd 7 [a, b]) ++ rest = 40 :: (A3 a ++ (43 :: (A3 b ++ (41 :: rest)))) := by simp [A3, N0, H6, nd]
    rw [e, D5]
    simp [D9, Q9, ha (43 :: _) (P2 (by decide)), P0, A0R, hb, C3]
   ·have e : A3 (nd 8 [a, b]) ++ rest = 40 :: (A3 a ++ (60 :: (A3 b ++ (41 :: rest)))) := by simp [A3, N0, H6, nd]
    rw [e, D5]
    simp [D9, Q9, ha (60 :: _) (P2 (by decide)), P0, A0R, hb, C3]
  | ite a b c =>
   have e : A3 (nd 9 [a, b, c]) ++ rest = 123 :: (A3 a ++ (63 :: (A3 b ++ (58 :: (A3 c ++ (125 :: rest)))))) := by simp [A3, N0, H6, nd]
   rw [e, D5]
   simp [D9, pIf, I a (by simp [Tm.ks, nd]) (63 :: _) (P2 (by decide)), I b (by simp [Tm.ks, nd]) (58 :: _) (P2 (by decide)), I c (by simp [Tm.ks, nd]) (125 :: _) (P2 (by decide)), C3]
  | pair a b =>
   have e : A3 (nd 10 [a, b]) ++ rest = 91 :: (A3 a ++ (44 :: (A3 b ++ (93 :: rest)))) := by simp [A3, N0, H6, nd]
   rw [e, D5]
   simp [D9, A1V, I a (by simp [Tm.ks, nd]) (44 :: _) (P2 (by decide)), I b (by simp [Tm.ks, nd]) (93 :: _) (P2 (by decide)), C3]
  | un k a hk =>
   have ha := I a (by simp [Tm.ks, nd]) rest hr
   rcases hk with rfl | rfl
   ·have e : A3 (nd 11 [a]) ++ rest = 36 :: (A3 a ++ rest) := by simp [A3, N0, H6, nd]
    rw [e, D5]
    simp [D9, Q3, ha]
   ·have e : A3 (nd 12 [a]) ++ rest = 37 :: (A3 a ++ rest) := by simp [A3, N0, H6, nd]
    rw [e, D5]
    simp [D9, Q3, ha]
  | asc ty a ht =>
   have e : A3 (.mk 13 ⟨#[]⟩ 0 ty A4 0 [a]) ++ rest = 40 :: (A3 a ++ (58 :: (K6 ty ++ (41 :: rest)))) := by simp [A3, N0, H6]
   rw [e, D5]
   have hT := A3g 4 ty 1 (41 :: rest) ht (by decide)
   simp [D9, Q9, I a (by simp [Tm.ks]) (58 :: _) (P2 (by decide)), P0, pAs, hT, C3]
  | cast ty fr lb a ht hf hl1 hl2 =>
   have e : A3 (.mk 14 ⟨#[]⟩ 0 ty fr lb [a]) ++ rest = 40 :: (A3 a ++ (58 :: (K6 fr ++ (126 :: (K6 ty ++ (35 :: (Lib.itoa lb ++ (41 :: rest)))))))) := by simp [A3, N0, H6]
   rw [e, D5]
   have hF := fun rs => A3g 4 fr 1 rs hf (by decide)
   have hT := fun rs => A3g 4 ty 1 rs ht (by decide)
   simp [D9, Q9, I a (by simp [Tm.ks]) (58 :: _) (P2 (by decide)), P0, pAs, hF, hT, C3, A67 hl1 hl2 (P2 (c := 41) (l := rest) (by decide))]
set_option maxRecDepth 4000 in
theorem B0o (D N : Int) : ∀ (n : Nat) (e : Tm) (d : Int) (rest : A0), N7 D N e d = true → D + 1 - d ≤ n → T8 rest → E1 n (A3 e ++ rest) = some (e, rest) := by
 intro n
 induction n with
 | zero =>
  intro e d rest h hn
  obtain ⟨k, nm, num, ty, fr, lb, ks⟩ := e
  have := (A1o h).1
  omega
 | succ m ih =>
  intro e d rest h hn hr
  obtain ⟨k, nm, num, ty, fr, lb, ks⟩ := e
  obtain ⟨hd, _, h3, h4⟩ := A1o h
  have I : ∀ x ∈ ks, ∀ rs, T8 rs → E1 m (A3 x ++ rs) = some (x, rs) := fun x hx rs hrs => by
   obtain ⟨i, hi, rfl⟩ := List.getElem_of_mem hx
   exact ih _ (d + 1) rs ((A0O D N ks _).1 h4 i hi) (by omega) hrs
  have hf := A4o h3
  have e0 : ∀ x : Tm, x = .mk k nm num ty fr lb ks → x.ks = ks := fun x hx => by rw [hx]; rfl
  generalize hX : Tm.mk k nm num ty fr lb ks = X at hf e0 ⊢
  have I : ∀ x ∈ X.ks, ∀ rs, T8 rs → E1 m (A3 x ++ rs) = some (x, rs) := by rw [e0 X rfl]; exact I
  clear h h3 h4 hd ih e0 hX
  cases hf with
  | var b h1 h2 =>
   have e : A3 (.mk 1 ⟨#[b]⟩ 0 A4 A4 0 []) ++ rest = b :: rest := by simp [A3, H6]
   have hne : ∀ c : UInt8, c.toNat < 97 ∨ 122 < c.toNat → b ≠ c := fun c hc he => by rw [he] at h1 h2; omega
   rw [e, E1, if_neg (hne _ (by decide)), if_neg (hne _ (by decide)), if_neg (hne _ (by decide)), if_neg (hne _ (by decide)), if_neg (hne _ (by decide)), if_neg (hne _ (by decide)), if_neg (hne _ (by decide)), if_neg (hne _ (by decide)), if_pos ⟨h1, h2⟩]
  | num n h1 h2 =>
   have e : A3 (.mk 2 ⟨#[]⟩ n A4 A4 0 []) ++ rest = Lib.itoa n ++ rest := by simp [A3, H6]
   obtain ⟨c, r, e2, hc⟩ := A4p h1 h2 rest
   have hp := A4n (u := n.toNat) (by omega) hr
   rw [← A2s h1 h2] at hp
   rw [e, e2]
   rw [e2] at hp
   unfold D9 at hc
   have hne : ∀ x : UInt8, x.toNat < 48 ∨ 57 < x.toNat → c ≠ x := fun x hx he => by rw [he] at hc; omega
   rw [E1, if_neg (hne _ (by decide)), if_neg (hne _ (by decide)), if_neg (hne _ (by decide)), if_neg (hne _ (by decide)), if_neg (hne _ (by decide)), if_neg (hne _ (by decide)), if_neg (hne _ (by decide)), if_neg (hne _ (by decide)), if_neg (by omega), hp, Option.map_some, Int.toNat_of_nonneg h1]
  | tru => simp [A3, H6, nd, E1]
  | fls => simp [A3, H6, nd, E1]
  | lam b ty a h1 h2 ht =>
   have e : A3 (.mk 5 ⟨#[b]⟩ 0 ty A4 0 [a]) ++ rest = 33 :: b :: 58 :: (K6 ty ++ (46 :: (A3 a ++ rest))) := by simp [A3, N0, H6]
   rw [e, E1, if_neg (by decide), if_neg (by decide), if_pos rfl]
   have hT := A3h 4 ty 1 (46 :: (A3 a ++ rest)) ht (by decide)
   simp [U9, P0, C3, hT, I a (by simp [Tm.ks]) rest hr]
  | bin k a b hk =>
   have ha := I a (by simp [Tm.ks, nd])
   have hb := I b (by simp [Tm.ks, nd]) (41 :: rest) (P2 (by decide))
   rcases hk with rfl | rfl | rfl
   ·have e : A3 (nd 6 [a, b]) ++ rest = 40 :: (A3 a ++ (32 :: (A3 b ++ (41 :: rest)))) := by simp [A3, N0, H6, nd]
    rw [e, E1]
    simp [R7, ha (32 :: _) (P2 (by decide)), P0, A0S, P1, hb, C3]
   ·have e : A3 (nd 7 [a, b]) ++ rest = 40 :: (A3 a ++ (43 :: (A3 b ++ (41 :: rest)))) := by simp [A3, N0, H6, nd]
    rw [e, E1]
    simp [R7, ha (43 :: _) (P2 (by decide)), P0, A0S, P1, hb, C3]
   ·have e : A3 (nd 8 [a, b]) ++ rest = 40 :: (A3 a ++ (60 :: (A3 b ++ (41 :: rest)))) := by simp [A3, N0, H6, nd]
    rw [e, E1]
    simp [R7, ha (60 :: _) (P2 (by decide)), P0, A0S, P1, hb, C3]
  | ite a b c =>
   have e : A3 (nd 9 [a, b, c]) ++ rest = 123 :: (A3 a ++ (63 :: (A3 b ++ (58 :: (A3 c ++ (125 :: rest)))))) := by simp [A3, N0, H6, nd]
   rw [e, E1]
   simp [P1, I a (by simp [Tm.ks, nd]) (63 :: _) (P2 (by decide)), I b (by simp [Tm.ks, nd]) (58 :: _) (P2 (by decide)), I c (by simp [Tm.ks, nd]) (125 :: _) (P2 (by decide)), C3]
  | pair a b =>
   have e : A3 (nd 10 [a, b]) ++ rest = 91 :: (A3 a ++ (44 :: (A3 b ++ (93 :: rest)))) := by simp [A3, N0, H6, nd]
   rw [e, E1]
   simp [P1, I a (by simp [Tm.ks, nd]) (44 :: _) (P2 (by decide)), I b (by simp [Tm.ks, nd]) (93 :: _) (P2 (by decide)), C3]
  | un k a hk =>
   have ha := I a (by simp [Tm.ks, nd]) rest hr
   rcases hk with rfl | rfl
   ·have e : A3 (nd 11 [a]) ++ rest = 36 :: (A3 a ++ rest) := by simp [A3, N0, H6, nd]
    rw [e, E1]
    simp [Q3, ha]
   ·have e : A3 (nd 12 [a]) ++ rest = 37 :: (A3 a ++ rest) := by simp [A3, N0, H6, nd]
    rw [e, E1]
    simp [Q3, ha]
  | asc ty a ht =>
   have e : A3 (.mk 13 ⟨#[]⟩ 0 ty A4 0 [a]) ++ rest = 40 :: (A3 a ++ (58 :: (K6 ty ++ (41 :: rest)))) := by simp [A3, N0, H6]
   rw [e, E1]
   have hT := A3h 4 ty 1 (41 :: rest) ht (by decide)
   simp [R7, I a (by simp [Tm.ks]) (58 :: _) (P2 (by decide)), P0, Y0, hT]
  | cast ty fr lb a ht hf hl1 hl2 =>
   have e : A3 (.mk 14 ⟨#[]⟩ 0 ty fr lb [a]) ++ rest = 40 :: (A3 a ++ (58 :: (K6 fr ++ (126 :: (K6 ty ++ (35 :: (Lib.itoa lb ++ (41 :: rest)))))))) := by simp [A3, N0, H6]
   rw [e, E1]
   have hF := fun rs => A3h 4 fr 1 rs hf (by decide)
   have hT := fun rs => A3h 4 ty 1 rs ht (by decide)
   have hL : T7 a fr (K6 ty ++ (35 :: (Lib.itoa lb ++ (41 :: rest)))) = some (.mk 14 ⟨#[]⟩ 0 ty fr lb [a], rest) := by
    unfold T7
    rw [hT]
    simp only [Option.bind_some, C3, if_true]
    by_cases hl : lb < 0
    ·rw [A4m hl hl1]
     simp [A4n (u := lb.natAbs) (by omega) (P2 (c := 41) (l := rest) (by decide)), C3]
     omega
    ·have h0 : 0 ≤ lb := by omega
     obtain ⟨c, r, e2, hc⟩ := A4p h0 hl2 (41 :: rest)
     have hp := A4n (u := lb.toNat) (by omega) (P2 (c := 41) (l := rest) (by decide))
     rw [← A2s h0 hl2, e2] at hp
     rw [e2]
     have hc45 : c ≠ 45 := fun he => by rw [he] at hc; exact absurd hc (by decide)
     simp [hc45, hp, C3]
     omega
   simp [R7, I a (by simp [Tm.ks]) (58 :: _) (P2 (by decide)), P0, Y0, hF, hL]
def B3v (V : Tm → Bool) (l : A0) (e : Tm) : Prop := V e = true ∧ A3 e = l
theorem A4q {D N : Int} {e : Tm} {n : Nat} (h : N7 D N e 1 = true) (hn : D ≤ n) : D5 n (A3 e) = some (e, []) := by
 have := B0n D N n e 1 [] h (by omega) rfl
 rwa [List.append_nil] at this
theorem B0p {D N : Int} {e : Tm} {n : Nat} (h : N7 D N e 1 = true) (hn : D ≤ n) : E1 n (A3 e) = some (e, []) := by
 have := B0o D N n e 1 [] h (by omega) rfl
 rwa [List.append_nil] at this
theorem B0q {e f : Tm} {D N : Int} (he : N7 D N e 1 = true) (hf : N7 D N f 1 = true) (hD : 0 ≤ D) (h : A3 e = A3 f) : e = f := by
 have h1 := A4q (n := D.toNat) he (by omega)
 have h2 := A4q (n := D.toNat) hf (by omega)
 rw [h, h2] at h1
 exact ((Prod.mk.inj (Option.some.inj h1)).1).symm
section slaws2
variable {P : Program} {Γ : F8} {env : H1} {hp : List A1} {G : IM} {ty : TypeId}
theorem A4r {x y : Operand} {t t' : TypeId} {r s : ByteArray} (h : r = s) (hx : evo env x = some (.string r)) (hy : evo env y = some (.string s)) :
  C9 P Γ ⟨env, hp, G⟩ (.binOp .eql t x y t') ty (.bool true) := by
 have h2 := A0W (P := P) (Γ := Γ) (hp := hp) (G := G) (t := t) (t' := t') (ty := ty) hx hy
 rwa [decide_eq_true h] at h2
theorem A4s {x y : Operand} {t t' : TypeId} {r s : ByteArray} (h : r ≠ s) (hx : evo env x = some (.string r)) (hy : evo env y = some (.string s)) :
  C9 P Γ ⟨env, hp, G⟩ (.binOp .eql t x y t') ty (.bool false) := by
 have h2 := A0W (P := P) (Γ := Γ) (hp := hp) (G := G) (t := t) (t' := t') (ty := ty) hx hy
 rwa [decide_eq_false h] at h2
end slaws2
def B3 (l : A0) : ByteArray := ⟨l.toArray⟩
theorem I6 (l : A0) : (B3 l).size = l.length := rfl
theorem A4t : B3 [] = ⟨⟨[]⟩⟩ := rfl
theorem A4u (b : UInt8) (l : A0) : B3 (b :: l) ≠ ⟨⟨[]⟩⟩ := fun h => by
 have := congrArg (fun x : ByteArray => x.size) h
 simp [B3, ByteArray.size] at this
theorem A3j {a b : A0} (h : B3 a = B3 b) : a = b := by
 have := congrArg (fun x : ByteArray => x.data.toList) h
 simpa [B3] using this
theorem A4v (s : ByteArray) : B3 s.data.toList = s := by obtain ⟨⟨l⟩⟩ := s; rfl
theorem Z1 (l : A0) (i j : Nat) : (B3 l).extract i j = B3 ((l.drop i).take (j - i)) := by
 apply ByteArray.ext
 rw [ByteArray.data_extract]
 apply Array.ext'
 simp only [Array.toList_extract, B3]
theorem B0r (b : UInt8) (l : A0) : (B3 (b :: l)).extract 1 (B3 (b :: l)).size = B3 l := by
 rw [Z1, I6]
 simp
theorem A69 (b : UInt8) (l : A0) : (B3 (b :: l))[(0 : Int).toNat]? = some b := by
 show (B3 (b :: l))[0]? = some b
 rw [getElem?_pos (B3 (b :: l)) 0 (by rw [I6]; simp)]
 rfl
def O4 (S : Option A0) (cs : List Value) : Prop := (S = none ∧ ∃ s : ByteArray, s.size ≤ 4294967296 ∧ cs = [.string s, .bool true]) ∨ (∃ l : A0, S = some l ∧ l.length ≤ 4294967296 ∧ cs = [.string (B3 l), .bool false])
theorem O4.no {s : ByteArray} (h : s.size ≤ 4294967296) : O4 none [.string s, .bool true] := .inl ⟨rfl, s, h, rfl⟩
theorem O4.yes {l : A0} (h : l.length ≤ 4294967296) : O4 (some l) [.string (B3 l), .bool false] := .inr ⟨l, rfl, h, rfl⟩
theorem O4.open {S : Option A0} {cs : List Value} (h : O4 S cs) : ∃ s bad, cs = [.string s, .bool bad] ∧ s.size ≤ 4294967296 := by
 rcases h with ⟨_, s, h, rfl⟩ | ⟨l, _, h, rfl⟩
 ·exact ⟨s, _, rfl, h⟩
 ·exact ⟨_, _, rfl, h⟩
theorem O4.bad {S : Option A0} {s : ByteArray} {bad : Bool} (h : O4 S [.string s, .bool bad]) : O4 none [.string s, .bool true] := by
 obtain ⟨s', bad', h1, h2⟩ := h.open
 cases h1
 exact .no h2
def C6 : Option A0 → UInt8
 | some (b :: _) => b
 | _ => 0
def K9 : Option A0 → Option A0
 | some (_ :: l) => some l
 | _ => none
def RdP (b : Nat) (S' : Option A0) (Φ : IM → Value → Prop) : IM → Value → List A1 → Prop := fun G' v outs => ∃ cs', outs = [.blk b cs'] ∧ O4 S' cs' ∧ Φ G' v
theorem A0w (b : Nat) (S : Option A0) (cs : List Value) (G : IM) (h : O4 S cs) : Fn Tryz.prog 150 [.pointer (some ⟨b, 0, none⟩)] [.blk b cs] G (RdP b (K9 S) fun G' v => G' = G ∧ v = .int .u8 ((C6 S).toNat : Int)) := by
 rcases h with ⟨rfl, s, hs, rfl⟩ | ⟨l, rfl, hl, rfl⟩
 ·refine B5 Tryz.func150 rfl Tryz.ntmps150 Tryz.results150 rfl ?_
  intro w0
  refine C2 ?_
  refine sQ (A6 rfl) rfl ?_
  refine L6 ?_
  refine sQ (A6 rfl) rfl ?_
  refine I3 ?_
  refine B2 (rT rfl) (.cons (by repeat (first | exact Pk.here | apply Pk.there)) .nil) ?_
  (exact ⟨_, rfl, .no hs, rfl, rfl⟩)
 ·cases l with
  | nil =>
   refine B5 Tryz.func150 rfl Tryz.ntmps150 Tryz.results150 rfl ?_
   intro w0
   refine C2 ?_
   refine sQ (A6 rfl) rfl ?_
   refine I5 ?_
   refine sQ (A6 rfl) rfl ?_
   refine sQ (A5 rfl) rfl (sL (C1 rfl rfl) rfl rfl ?_)
   refine sP (A4r A4t rfl rfl) rfl rfl ?_
   refine B8 ?_
   refine sQ (A6 rfl) rfl ?_
   refine I3 ?_
   refine B2 (rT rfl) (.cons (by repeat (first | exact Pk.here | apply Pk.there)) .nil) ?_
   (exact ⟨_, rfl, .no (by simp [I6]), rfl, rfl⟩)
  | cons c r =>
   have hr : r.length ≤ 4294967296 := by rw [List.length_cons] at hl; omega
   refine B5 Tryz.func150 rfl Tryz.ntmps150 Tryz.results150 rfl ?_
   intro w0
   refine C2 ?_
   refine sQ (A6 rfl) rfl ?_
   refine I5 ?_
   refine sQ (A6 rfl) rfl ?_
   refine sQ (A5 rfl) rfl (sL (C1 rfl rfl) rfl rfl ?_)
   refine sP (A4s (A4u _ _) rfl rfl) rfl rfl ?_
   refine C2 ?_
   refine sQ (A6 rfl) rfl ?_
   refine sQ (A5 rfl) rfl (sL (C1 rfl rfl) rfl rfl ?_)
   refine sP (N1 rfl rfl rfl (by decide) (A69 _ _)) rfl rfl ?_
   refine B8 ?_
   refine sQ (A6 rfl) rfl ?_
   refine sQ (A5 rfl) rfl (sL (C1 rfl rfl) rfl rfl ?_)
   (refine sP (P4 (l := 1) rfl rfl rfl (by rw [I6]; simp)) rfl rfl ?_; rw [B0r])
   refine sQ (A6 rfl) rfl ?_
   refine I3 ?_
   refine B2 (rT rfl) (.cons (by repeat (first | exact Pk.here | apply Pk.there)) .nil) ?_
   (exact ⟨_, rfl, .yes hr, rfl, rfl⟩)
theorem A2t (b : Nat) (S : Option A0) (cs : List Value) (G : IM) (h : O4 S cs) : Fn Tryz.prog 149 [.pointer (some ⟨b, 0, none⟩)] [.blk b cs] G (fun G' v outs => G' = G ∧ v = .int .u8 ((C6 S).toNat : Int) ∧ outs = [.blk b cs]) := by
 rcases h with ⟨rfl, s, hs, rfl⟩ | ⟨l, rfl, hl, rfl⟩
 ·refine B5 Tryz.func149 rfl Tryz.ntmps149 Tryz.results149 rfl ?_
  intro w0
  refine C2 ?_
  refine sQ (A6 rfl) rfl ?_
  refine W3 ?_
  refine B2 (rT rfl) (.cons (by repeat (first | exact Pk.here | apply Pk.there)) .nil) ?_
  (exact ⟨rfl, rfl, rfl⟩)
 ·cases l with
  | nil =>
   refine B5 Tryz.func149 rfl Tryz.ntmps149 Tryz.results149 rfl ?_
   intro w0
   refine C2 ?_
   refine sQ (A6 rfl) rfl ?_
   refine I5 ?_
   refine sQ (A6 rfl) rfl ?_
   refine sQ (A5 rfl) rfl (sL (C1 rfl rfl) rfl rfl ?_)
   refine sP (A4r A4t rfl rfl) rfl rfl ?_
   refine I3 ?_
   refine B2 (rT rfl) (.cons (by repeat (first | exact Pk.here | apply Pk.there)) .nil) ?_
   (exact ⟨rfl, rfl, rfl⟩)
  | cons c r =>
   refine B5 Tryz.func149 rfl Tryz.ntmps149 Tryz.results149 rfl ?_
   intro w0
   refine C2 ?_
   refine sQ (A6 rfl) rfl ?_
   refine I5 ?_
   refine sQ (A6 rfl) rfl ?_
   refine sQ (A5 rfl) rfl (sL (C1 rfl rfl) rfl rfl ?_)
   refine sP (A4s (A4u _ _) rfl rfl) rfl rfl ?_
   refine C2 ?_
   refine sQ (A6 rfl) rfl ?_
   refine sQ (A5 rfl) rfl (sL (C1 rfl rfl) rfl rfl ?_)
   refine sP (N1 rfl rfl rfl (by decide) (A69 _ _)) rfl rfl ?_
   refine sQ (qA rfl) rfl (sD (nS (tT ?_)))
   refine B2 (rT rfl) (.cons (by repeat (first | exact Pk.here | apply Pk.there)) .nil) ?_
   (exact ⟨rfl, rfl, rfl⟩)
theorem B0s {S : Option A0} {c : UInt8} (h : C6 S = c) : S.bind (C3 c) = K9 S := by
 rcases S with _ | _ | ⟨b, l⟩
 ·rfl
 ·rfl
 ·have h : b = c := h
  show C3 c (b :: l) = _
  rw [C3, if_pos h]; rfl
theorem B0t {S : Option A0} {c : UInt8} (h : C6 S ≠ c) : S.bind (C3 c) = none := by
 rcases S with _ | _ | ⟨b, l⟩
 ·rfl
 ·rfl
 ·have h : b ≠ c := h
  show C3 c (b :: l) = _
  rw [C3, if_neg h]
theorem B0u {S : Option A0} {lo hi : Int} (h : lo ≤ O1 (C6 S) ∧ O1 (C6 S) ≤ hi) : (S.bind (Q8 lo hi)).map Prod.snd = K9 S := by
 rcases S with _ | _ | ⟨b, l⟩
 ·rfl
 ·rfl
 ·have h : lo ≤ O1 b ∧ O1 b ≤ hi := h
  show (Q8 lo hi (b :: l)).map _ = _
  rw [Q8, if_pos h]; rfl
theorem B0v {S : Option A0} {lo hi : Int} (h : ¬(lo ≤ O1 (C6 S) ∧ O1 (C6 S) ≤ hi)) : (S.bind (Q8 lo hi)).map Prod.snd = none := by
 rcases S with _ | _ | ⟨b, l⟩
 ·rfl
 ·rfl
 ·have h : ¬(lo ≤ O1 b ∧ O1 b ≤ hi) := h
  show (Q8 lo hi (b :: l)).map _ = _
  rw [Q8, if_neg h]; rfl
theorem B0w {S : Option A0} {lo hi : Int} (h : K9 S = none) : (S.bind (Q8 lo hi)).map Prod.snd = none := by
 rcases S with _ | _ | ⟨b, l⟩
 ·rfl
 ·rfl
 ·cases h
theorem A7a {S : Option A0} {lo hi : Int} : ∀ x, S.bind (Q8 lo hi) = some x → O1 (C6 S) = x.1 := by
 rcases S with _ | _ | ⟨b, l⟩
 ·intro x h; cases h
 ·intro x h; cases h
 ·intro x h
  have h : Q8 lo hi (b :: l) = some x := h
  rw [Q8] at h
  split at h
  ·cases h; rfl
  ·cases h
theorem A4w (b : UInt8) : 0 ≤ O1 b ∧ O1 b ≤ 5 := by
 unfold O1; repeat' split
 all_goals omega
theorem B0x (b : UInt8) : Lib.indexByte [63, 73, 66, 62, 42] b = O1 b - 1 := by
 by_cases h1 : b = 63
 ·subst h1; rfl
 by_cases h2 : b = 73
 ·subst h2; rfl
 by_cases h3 : b = 66
 ·subst h3; rfl
 by_cases h4 : b = 62
 ·subst h4; rfl
 by_cases h5 : b = 42
 ·subst h5; rfl
 have e : ∀ x : UInt8, b ≠ x → (x == b) = false := fun x h => by rw [beq_eq_false_iff_ne]; exact fun he => h he.symm
 unfold O1
 rw [if_neg h1, if_neg h2, if_neg h3, if_neg h4, if_neg h5]
 simp [Lib.indexByte, e _ h1, e _ h2, e _ h3, e _ h4, e _ h5]
theorem B0y (b : UInt8) (G : IM) : Fn Tryz.prog 216 [.string ⟨⟨[63, 73, 66, 62, 42]⟩⟩, .int .u8 (b.toNat : Int)] [] G (J8 (.int .i64 (O1 b - 1)) G) := by
 refine ⟨fun w hw => ?_⟩
 refine (Tryz.strings_IndexByte ⟨⟨[63, 73, 66, 62, 42]⟩⟩ (b.toNat : Int) w).mono ?_
 rintro e w' ⟨rfl, rfl⟩
 refine ⟨_, G, [], rfl, N3.refl hw, rfl, ?_, rfl⟩
 have hb : (b.toNat : Int).toNat.toUInt8 = b := by simp
 rw [hb]
 exact congrArg (fun z => Value.int .i64 z) (B0x b)
theorem E4 {a b : UInt8} (h : (a.toNat : Int) ≠ (b.toNat : Int)) : a ≠ b := fun he => h (by rw [he])
theorem E9 {a b : UInt8} (h : (a.toNat : Int) = (b.toNat : Int)) : a = b := UInt8.toNat_inj.1 (by omega)
theorem V6 (b : Nat) (c : UInt8) (S : Option A0) (cs : List Value) (G : IM) (h : O4 S cs) : Fn Tryz.prog 154 [.pointer (some ⟨b, 0, none⟩), .int .u8 (c.toNat : Int)] [.blk b cs] G (RdP b (S.bind (C3 c)) fun G' v => G' = G ∧ v = .tuple ⟨[]⟩) := by
 have hO := A0w b S cs G h
 refine B5 Tryz.func154 rfl Tryz.ntmps154 Tryz.results154 rfl ?_
 intro w0
 refine tR (sQ (qM rfl) rfl (sQ (qM rfl) rfl ?_))
 (refine B4 rfl hO (Pk.perm (by repeat (first | exact Pk.here | apply Pk.there))) rfl rfl (fun v G1 outs hle1 hh => ?_); obtain ⟨V9, rfl, hR1, hG, rfl⟩ := hh; replace hG := hG.symm; subst hG; obtain ⟨s1, bad1, rfl, hs1⟩ := hR1.open)
 refine sQ (qM rfl) rfl ?_
 refine sB (N8 rfl rfl) rfl rfl (fun h6 => ?_) (fun h6 => ?_)
 refine K8 ?_
 refine sQ (A6 rfl) rfl ?_
 refine sQ (A5 rfl) rfl (I8 ?_)
 refine sD ?_
 refine A60 (.cons (by repeat (first | exact Pk.here | apply Pk.there)) .nil) ?_
 (rw [B0t (E4 (by assumption))]; exact ⟨_, rfl, hR1.bad, rfl, rfl⟩)
 refine sQ (qM rfl) rfl (sQ (qM rfl) rfl ?_)
 refine sQ (A6 rfl) rfl ?_
 refine F9 ?_
 refine sQ (A6 rfl) rfl ?_
 refine sQ (A5 rfl) rfl (I8 ?_)
 refine sD ?_
 refine A60 (.cons (by repeat (first | exact Pk.here | apply Pk.there)) .nil) ?_
 (rw [B0s (E9 (by omega))]; exact ⟨_, rfl, hR1, rfl, rfl⟩)
theorem A4x (b : Nat) (lo hi : Int) (S : Option A0) (cs : List Value) (G : IM) (h : O4 S cs) : Fn Tryz.prog 190 [.pointer (some ⟨b, 0, none⟩), .int .i64 lo, .int .i64 hi] [.blk b cs] G (RdP b ((S.bind (Q8 lo hi)).map Prod.snd) fun G' v => G' = G ∧ v = .int .i64 (O1 (C6 S))) := by
 have hO := A0w b S cs G h
 have hk := A4w (C6 S)
 have hki := @B0u S lo hi
 have hko := @B0v S lo hi
 have hkn := @B0w S lo hi
 refine B5 Tryz.func190 rfl Tryz.ntmps190 Tryz.results190 rfl ?_
 intro w0
 refine E0 ?_
 (refine B4 rfl hO (Pk.perm (by repeat (first | exact Pk.here | apply Pk.there))) rfl rfl (fun v G1 outs hle1 hh => ?_); obtain ⟨V9, rfl, hR1, hG, rfl⟩ := hh; replace hG := hG.symm; subst hG)
 refine J9 rfl ((B0y (C6 S) _)) rfl rfl ?_
 (refine sP (O6 rfl rfl (by omega) (by omega)) rfl rfl ?_; rw [show (1 : Int) + (O1 (C6 S) - 1) = O1 (C6 S) by omega]; rcases hR1 with ⟨hS, s1, hs1, rfl⟩ | ⟨l1, hS, hl1, rfl⟩)
 refine B8 ?_
 refine sQ (A6 rfl) rfl ?_
 refine C2 ?_
 refine sQ (A6 rfl) rfl ?_
 refine I3 ?_
 refine B2 (rT rfl) (.cons (by repeat (first | exact Pk.here | apply Pk.there)) .nil) ?_
 (rw [hkn hS]; exact ⟨_, rfl, .no hs1, rfl, rfl⟩)
 refine B8 ?_
 refine sQ (A6 rfl) rfl ?_
 refine K8 ?_
 refine H7 rfl ((A0u (O1 (C6 S)) lo hi _)) rfl rfl (fun h57 => ?_) (fun h57 => ?_)
 refine sQ (pNt rfl) rfl (sQ (M2 rfl rfl) rfl ?_)
 refine sQ (A6 rfl) rfl ?_
 refine I3 ?_
 refine B2 (rT rfl) (.cons (by repeat (first | exact Pk.here | apply Pk.there)) .nil) ?_
 (rw [hki (A0q (by assumption)), hS]; exact ⟨_, rfl, .yes hl1, rfl, rfl⟩)
 refine sQ (pNf rfl) rfl (sQ (M2 rfl rfl) rfl ?_)
 refine sQ (A6 rfl) rfl ?_
 refine I3 ?_
 refine B2 (rT rfl) (.cons (by repeat (first | exact Pk.here | apply Pk.there)) .nil) ?_
 (rw [hko (A5u (by assumption))]; exact ⟨_, rfl, .no (by rw [I6]; exact hl1), rfl, rfl⟩)
theorem A7b (G : IM) (k : Int) (hk : D7 k) : K4 G (.mk k []) [.int .i64 k, .slice none 0 0] [] := by
 simp only [K4]
 exact ⟨none, 0, [], [], rfl, hk, D0.nil G 2, ⟨rfl, rfl⟩, rfl, fun b hb => by simp [E5] at hb⟩
theorem B0z {G Ga Gb : IM} {a b : Ty} {ca cb : List Value} {Fa Fb : List Nat} (h1 : A9 G Ga) (h2 : A9 Ga Gb) (ha : K4 (B0 Ga G) a ca Fa) (na : Fa.Nodup) (hb : K4 (B0 Gb Ga) b cb Fb) (nb : Fb.Nodup) :
  J5 (B0 Gb G) [a, b] [ca, cb] (Fa ++ Fb) ∧ (Fa ++ Fb).Nodup := by
 have h0 : J5 (B0 G G) (([a, b] : List Ty).take 0) [] [] := by simp [J5]
 obtain ⟨s1, n1⟩ := J5.step (ks := [a, b]) (i := 0) h0 (by simp) (A9.refl _) h1 (by simp) ha na
 obtain ⟨s2, n2⟩ := J5.step (ks := [a, b]) (i := 1) s1 n1 h1 h2 (by simp) hb nb
 simpa using And.intro s2 n2
theorem B0A (k : Int) (a b : Ty) (G Ga Gb : IM) (ca cb : List Value) (Fa Fb : List Nat) (hk : D7 k) (h1 : A9 G Ga) (h2 : A9 Ga Gb) (ha : K4 (B0 Ga G) a ca Fa) (na : Fa.Nodup) (hb : K4 (B0 Gb Ga) b cb Fb) (nb : Fb.Nodup) :
  Fn Tryz.prog 191 [.int .i64 k, .agg ⟨ca⟩, .agg ⟨cb⟩] [] Gb (A6b (.mk k [a, b]) G) := by
 obtain ⟨sab, nab⟩ := B0z h1 h2 ha na hb nb
 obtain ⟨pa, cca, ea, rfl, _⟩ := ha.R.open
 obtain ⟨pb, ccb, eb, rfl, _⟩ := hb.R.open
 refine B5 Tryz.func191 rfl Tryz.ntmps191 Tryz.results191 rfl ?_
 intro w0
 refine tS (tR ?_)
 refine sE (K0 rfl rfl) rfl (fun b3 => ?_)
 refine sE (K0 rfl rfl) rfl (fun b4 => ?_)
 refine sE (C0 rfl) rfl (fun b5 => ?_)
 refine B8 ?_
 (refine D1 (I4 rfl rfl rfl (by omega) (by unfold maxLen; omega) rfl) rfl ?_; rintro _ ⟨b13, rfl⟩)
 refine sQ (W0 rfl rfl) rfl (I8 ?_)
 refine sD (nS ?_)
 (refine Y4 (by repeat (first | exact Pk.here | apply Pk.there)) (fun G5 hle5 hsl5 hno5 => ?_))
 refine tT ?_
 refine F0 (rC rfl (A7 rfl rfl)) ?_
 (obtain ⟨F', f1, f2⟩ := K4.fin (k := k) sab nab (h1.trans h2) hle5 hsl5 hno5 hk; exact ⟨rfl, _, F', rfl, f1, f2⟩)
def B0B (b : Nat) (m : Option (Ty × A0)) (G : IM) : IM → Value → List A1 → Prop := fun G' v outs => ∃ cs' t cells F, outs = [.blk b cs'] ∧ O4 (m.map Prod.snd) cs' ∧ v = .agg ⟨cells⟩ ∧ K4 (B0 G' G) t cells F ∧ F.Nodup ∧ ∀ x, m = some x → t = x.1
theorem B0C {S : Option A0} {n : Nat} (h : C6 S ≠ 40) : S.bind (K3 (n + 1)) = (S.bind (Q8 1 3)).map fun y => (.mk y.1 [], y.2) := by
 rcases S with _ | _ | ⟨b, l⟩
 ·rfl
 ·rfl
 ·have h : ¬b = 40 := h
  show K3 (n + 1) (b :: l) = _
  rw [K3, List.headD_cons, if_neg h]; rfl
theorem B0D {S : Option A0} {n : Nat} (h : C6 S = 40) : S.bind (K3 (n + 1)) = (S.bind (C3 40)).bind fun r => (K3 n r).bind fun x => (Q8 4 5 x.2).bind fun y => (K3 n y.2).bind fun z => (C3 41 z.2).map fun w => (.mk y.1 [x.1, z.1], w) := by
 rcases S with _ | _ | ⟨b, l⟩
 ·rfl
 ·cases h
 ·have h : b = 40 := h
  subst h
  show K3 (n + 1) (40 :: l) = _
  rw [K3, List.headD_cons, if_pos rfl]
  rfl
theorem B0E {S : Option A0} {n : Nat} (h : C6 S ≠ 40) : (S.bind (K3 (n + 1))).map Prod.snd = (S.bind (Q8 1 3)).map Prod.snd ∧ ∀ x, S.bind (K3 (n + 1)) = some x → Ty.mk (O1 (C6 S)) [] = x.1 := by
 rw [B0C h]
 have hv := @A7a S 1 3
 cases hK : S.bind (Q8 1 3) with
 | none => exact ⟨rfl, fun x hx => by cases hx⟩
 | some y => exact ⟨rfl, fun x hx => by cases hx; rw [hv y hK]⟩
theorem B0F {S : Option A0} {n : Nat} {a b : Ty} (h : C6 S = 40) (ha : ∀ x, (S.bind (C3 40)).bind (K3 n) = some x → a = x.1)
  (hb : ∀ x, ((((((S.bind (C3 40)).bind (K3 n)).map Prod.snd).bind (Q8 4 5)).map Prod.snd).bind (K3 n)) = some x → b = x.1) :
  (S.bind (K3 (n + 1))).map Prod.snd = (((((((S.bind (C3 40)).bind (K3 n)).map Prod.snd).bind (Q8 4 5)).map Prod.snd).bind (K3 n)).map Prod.snd).bind (C3 41) ∧
  ∀ x, S.bind (K3 (n + 1)) = some x → Ty.mk (O1 (C6 (((S.bind (C3 40)).bind (K3 n)).map Prod.snd))) [a, b] = x.1 := by
 rw [B0D h]
 cases h1 : S.bind (C3 40) with
 | none => exact ⟨rfl, fun x hx => by cases hx⟩
 | some r =>
  rw [h1] at ha hb
  simp only [Option.bind_some] at ha hb ⊢
  cases h2 : K3 n r with
  | none => exact ⟨rfl, fun x hx => by cases hx⟩
  | some x =>
   rw [h2] at ha hb
   simp only [Option.bind_some, Option.map_some] at ha hb ⊢
   have hv := @A7a (some x.2) 4 5
   cases h3 : Q8 4 5 x.2 with
   | none => exact ⟨rfl, fun x hx => by cases hx⟩
   | some y =>
    rw [h3] at hb
    have hv := hv y h3
    simp only [Option.bind_some, Option.map_some] at hb ⊢
    cases h4 : K3 n y.2 with
    | none => exact ⟨rfl, fun x hx => by cases hx⟩
    | some z =>
     simp only [Option.bind_some, Option.map_some]
     cases h5 : C3 41 z.2 with
     | none => exact ⟨rfl, fun x hx => by cases hx⟩
     | some w => exact ⟨rfl, fun q hq => by cases hq; rw [hv, ha x rfl, hb z h4]⟩
theorem A4y (b : Nat) : ∀ (n : Nat) (d : Int) (S : Option A0) (cs : List Value) (G : IM), d + n = 5 → 1 ≤ d → O4 S cs → Fn Tryz.prog 155 [.pointer (some ⟨b, 0, none⟩), .int .i64 d] [.blk b cs] G (B0B b (S.bind (K3 n)) G) := by
 intro n
 induction n with
 | zero =>
  intro d S cs G hd hd1 h
  obtain ⟨s, bad, rfl, hs⟩ := h.open
  have hB : O4 none [.string s, .bool true] := h.bad
  have hz : S.bind (K3 0) = none := by cases S <;> rfl
  rw [hz]
  refine B5 Tryz.func155 rfl Tryz.ntmps155 Tryz.results155 rfl ?_
  intro w0
  refine tS (tR ?_)
  refine sE (C0 rfl) rfl (fun b3 => ?_)
  refine sD (nS (tS (tS (tR (sQ (qM rfl) rfl ?_)))))
  refine sP (A3H rfl rfl (by omega)) rfl rfl ?_
  refine sD (nS (qT rfl (tR (sQ (qM rfl) rfl ?_))))
  refine sQ (A6 rfl) rfl ?_
  refine E0 ?_
  (refine B4 rfl (A2t b none _ G hB) (Pk.perm (by repeat (first | exact Pk.here | apply Pk.there))) rfl rfl (fun v G1 outs hle1 hh => ?_); obtain ⟨hG, rfl, rfl⟩ := hh; replace hG := hG.symm; subst hG; have hz0 : ((C6 none).toNat : Int) = 0 := rfl)
  refine sP (V2 rfl rfl (by omega)) rfl rfl ?_
  refine sD (nS (qT rfl (tS (tR (sQ (qM rfl) rfl ?_)))))
  (refine B4 rfl (A4x b 1 3 none _ G hB) (Pk.perm (by repeat (first | exact Pk.here | apply Pk.there))) rfl rfl (fun v G1 outs hle1 hh => ?_); obtain ⟨cs2, rfl, hR2, hG, rfl⟩ := hh; replace hG := hG.symm; subst hG)
  refine J9 rfl (A5Q _ _) rfl rfl ?_
  refine I8 ?_
  refine sD (nS (tT (rS ?_)))
  refine B2 (rC rfl (A7 rfl rfl)) (.cons (by repeat (first | exact Pk.here | apply Pk.there)) .nil) ?_
  (exact ⟨cs2, .mk (O1 (C6 none)) [], _, [], rfl, hR2, rfl, A7b _ _ ⟨by decide, by decide⟩, by simp, fun x hx => by cases hx⟩)
 | succ n ih =>
  intro d S cs G hd hd1 h
  have hk := A4w (C6 S)
  have hI1 : D7 (O1 (C6 S)) := ⟨by omega, by omega⟩
  refine B5 Tryz.func155 rfl Tryz.ntmps155 Tryz.results155 rfl ?_
  intro w0
  refine tS (tR ?_)
  refine sE (C0 rfl) rfl (fun b3 => ?_)
  refine sD (nS (tS (tS (tR (sQ (qM rfl) rfl ?_)))))
  refine sP (A19 rfl rfl (by omega)) rfl rfl ?_
  refine C2 ?_
  (refine B4 rfl (A2t b S cs G h) (Pk.perm (by repeat (first | exact Pk.here | apply Pk.there))) rfl rfl (fun v G1 outs hle1 hh => ?_); obtain ⟨hG, rfl, rfl⟩ := hh; replace hG := hG.symm; subst hG)
  refine sB (N8 rfl rfl) rfl rfl (fun h21 => ?_) (fun h21 => ?_)
  refine sD (nS (qT rfl (tS (tR (sQ (qM rfl) rfl ?_)))))
  (have hne : C6 S ≠ 40 := (fun he => by have hx : ((C6 S).toNat : Int) = 40 := (by rw [he]; rfl); omega); obtain ⟨hd1, hd2⟩ := B0E (n := n) hne; refine B4 rfl (A4x b 1 3 S cs G h) (Pk.perm (by repeat (first | exact Pk.here | apply Pk.there))) rfl rfl (fun v G1 outs hle1 hh => ?_); obtain ⟨cs2, rfl, hR2, hG, rfl⟩ := hh; replace hG := hG.symm; subst hG; rw [← hd1] at hR2)
  refine J9 rfl (A5Q _ _) rfl rfl ?_
  refine I8 ?_
  refine sD (nS (tT (rS ?_)))
  refine B2 (rC rfl (A7 rfl rfl)) (.cons (by repeat (first | exact Pk.here | apply Pk.there)) .nil) ?_
  (exact ⟨cs2, .mk (O1 (C6 S)) [], _, [], rfl, hR2, rfl, A7b _ _ hI1, by simp, hd2⟩)
  refine sD (nS (cF rfl (tK (nS (tS (tR (sQ (qM rfl) rfl ?_)))))))
  (have heq : C6 S = 40 := E9 (b := 40) (by show _ = (40 : Int); omega); refine B4 rfl (V6 b 40 S cs G h) (Pk.perm (by repeat (first | exact Pk.here | apply Pk.there))) rfl rfl (fun v G1 outs hle1 hh => ?_); obtain ⟨V9, rfl, hR1, hG, rfl⟩ := hh; replace hG := hG.symm; subst hG)
  refine sD (nS (tS (tR (sQ (qM rfl) rfl (sQ (qM rfl) rfl ?_)))))
  refine sP (O6 rfl rfl (by omega) (by omega)) rfl rfl ?_
  (refine B4 rfl (ih (d + 1) _ V9 G (by omega) (by omega) hR1) (Pk.perm (by repeat (first | exact Pk.here | apply Pk.there))) rfl rfl (fun v G2 outs hle2 hh => ?_); obtain ⟨cs2, ta, ca, Fa, rfl, hR2, rfl, hsa, hna, hva⟩ := hh; have hla := hsa.R.len; have hoa := hsa.R.one)
  refine sE (C0 rfl) rfl (fun b54 => ?_)
  refine sS rfl rfl rfl hla hoa rfl ?_ (hu := by exact M1 hla.symm)
  refine sD (nS (tS (tR (sQ (qM rfl) rfl ?_))))
  (refine B4 rfl (A4x b 4 5 _ cs2 G2 hR2) (Pk.perm (by repeat (first | exact Pk.here | apply Pk.there))) rfl rfl (fun v G3 outs hle3 hh => ?_); obtain ⟨cs3, rfl, hR3, hG, rfl⟩ := hh; replace hG := hG.symm; subst hG)
  refine B8 ?_
  refine sP (O6 rfl rfl (by omega) (by omega)) rfl rfl ?_
  (refine B4 rfl (ih (d + 1) _ cs3 G2 (by omega) (by omega) hR3) (Pk.perm (by repeat (first | exact Pk.here | apply Pk.there))) rfl rfl (fun v G4 outs hle4 hh => ?_); obtain ⟨cs4, tb, cb, Fb, rfl, hR4, rfl, hsb, hnb, hvb⟩ := hh; have hlb := hsb.R.len; have hob := hsb.R.one; obtain ⟨hd1, hd2⟩ := B0F heq hva hvb; obtain ⟨hk3, hk4⟩ := A4w (C6 (((S.bind (C3 40)).bind (K3 n)).map Prod.snd)))
  refine sE (C0 rfl) rfl (fun b71 => ?_)
  refine sS rfl rfl rfl hlb hob rfl ?_ (hu := by exact M1 hlb.symm)
  refine sD (nS (tS (tR (sQ (qM rfl) rfl ?_))))
  (refine B4 rfl (V6 b 41 _ cs4 G4 hR4) (Pk.perm (by repeat (first | exact Pk.here | apply Pk.there))) rfl rfl (fun v G5 outs hle5 hh => ?_); obtain ⟨cs5, rfl, hR5, hG, rfl⟩ := hh; replace hG := hG.symm; subst hG; rw [← hd1] at hR5)
  refine sD (nS (tS (tR (sQ (qM rfl) rfl ?_))))
  refine sL (C4 rfl rfl (E7 (by repeat first | exact mH | apply mT)) hla) rfl rfl ?_
  refine sL (C4 rfl rfl (E7 (by repeat first | exact mH | apply mT)) hlb) rfl rfl ?_
  (refine L5 rfl (B0A _ ta tb G G2 G4 ca cb Fa Fb ⟨by omega, by omega⟩ hle2 hle4 hsa hna hsb hnb) rfl rfl (fun v G6 hle6 hh => ?_); obtain ⟨c6, F6, rfl, hs6, hn6⟩ := hh; have hl6 := hs6.R.len; have ho6 := hs6.R.one)
  refine sS rfl rfl rfl hl6 ho6 rfl ?_ (hu := by exact M1 hl6.symm)
  refine sD (nS (tT ?_))
  refine B2 (rC rfl (C4 rfl rfl (E7 (by repeat first | exact mH | apply mT)) hl6)) (.cons (by repeat (first | exact Pk.here | apply Pk.there)) .nil) ?_
  (exact ⟨cs5, _, c6, F6, rfl, hR5, rfl, hs6, hn6, hd2⟩)
section ilaws
variable {P : Program} {Γ : F8} {env : H1} {hp : List A1} {G : IM} {ty : TypeId}
theorem A2u {x y : Operand} {t t' u : TypeId} {v : Value} (h : P.underlying t = some (.interface (P.methodsAt t))) (hx : evo env x = some (.iface u v)) (hy : evo env y = some .nilIface) :
  C9 P Γ ⟨env, hp, G⟩ (.binOp .neq t x y t') ty (.bool true) := by
 refine ⟨fun a _ hs _ _ _ _ w => ?_⟩
 have hr := run_neq_held_nil w t u v h
 simp only [execOp, eqGuard, (hs.evo hx : a.eval x = _), (hs.evo hy : a.eval y = _), Sem.run_bind, Sem.run_pure, Result.andThen_ok, hr]
 simp [hr]
theorem A2v {x : Operand} {t t' : TypeId} (h : P.underlying t = some (.interface (P.methodsAt t))) (hx : evo env x = some .nilIface) :
  C9 P Γ ⟨env, hp, G⟩ (.binOp .neq t x (.const .nilIface) t') ty (.bool false) := by
 refine ⟨fun a _ hs _ _ _ _ w => ?_⟩
 have hr := run_neq_nil_nil w t h
 have hy : a.eval (.const .nilIface) = .nilIface := rfl
 simp only [execOp, eqGuard, (hs.evo hx : a.eval x = _), hy, Sem.run_bind, Sem.run_pure, Result.andThen_ok, hr]
 simp [hr]
end ilaws
theorem A0x : Tryz.prog.underlying 177 = some (.interface (Tryz.prog.methodsAt 177)) := by kernel_rfl
def X2 (G : IM) : Prop := (∃ g t q, Tryz.prog.globalNamed "strconv.ErrSyntax" = some g ∧ G g = some [.iface t q]) ∧ (∃ g t q, Tryz.prog.globalNamed "strconv.ErrRange" = some g ∧ G g = some [.iface t q])
theorem X2.mono {G G' : IM} (h : X2 G) (hg : A9 G G') : X2 G' := by
 obtain ⟨⟨g, t, q, h1, h2⟩, g', t', q', h3, h4⟩ := h
 exact ⟨⟨g, t, q, h1, hg g _ h2⟩, g', t', q', h3, hg g' _ h4⟩
theorem A4z {G : IM} {w w' : World} (hw : O5 [] G w) (hB : Below w.heap.size w w') : N3 [] G w [] G w' := by
 refine ⟨⟨?_, by simp, by simp [Fp], by simp [Fp]⟩, ⟨hB.os, hB.tape, hB.output, hB.size, fun b h _ => hB.block b h⟩, A9.refl _, fun _ _ h => .inl h, by simp [Fp], fun b l h h0 => absurd h (by rw [h0]; simp)⟩
 intro b l h
 obtain ⟨e, f, hh⟩ := hw.inn b l h
 exact ⟨e, f, by rw [hB.block b (X4 hh)]; exact hh⟩
theorem A7c {G : IM} {w : World} (hw : O5 [] G w) {g : Nat} {t : TypeId} {q : Value} {nm : String} (h1 : Tryz.prog.globalNamed nm = some g) (h2 : G g = some [.iface t q]) : w.var? Tryz.prog nm = some #[.iface t q] := by
 obtain ⟨e, f, hh⟩ := hw.inn g _ h2
 unfold World.var?
 rw [h1]
 simp only [Option.bind_some, hh]
theorem A2w (s : ByteArray) (G : IM) (hE : X2 G) (hs : s.size ≤ 281474976710656) : Fn Tryz.prog 189 [.string s] [] G (fun G' v outs => G' = G ∧ outs = [] ∧
  ((∃ n, Lib.atoiAll s.data.toList = .ok n ∧ D7 n ∧ v = .tuple ⟨[.int .i64 n, .nilIface]⟩) ∨ (∃ n t q, (∀ m, Lib.atoiAll s.data.toList ≠ .ok m) ∧ D7 n ∧ v = .tuple ⟨[.int .i64 n, .iface t q]⟩))) := by
 refine ⟨fun w hw => ?_⟩
 obtain ⟨⟨g, t, q, h1, h2⟩, g', t', q', h3, h4⟩ := hE
 cases hA : Lib.atoiAll s.data.toList
 ·rename_i n
  refine (Tryz.strconv_Atoi_ok s (by omega) n hA w).mono ?_
  rintro e w' ⟨rfl, hw'⟩
  have hB : Below w.heap.size w w' := by
   rcases hw' with rfl | ⟨t, rfl⟩
   ·exact Below.refl _ _
   ·exact Lib.bytesWorld_below _ _ _
  exact ⟨_, G, [], rfl, A4z hw hB, rfl, rfl, .inl ⟨n, rfl, Lib.atoiAll_bounds hA, rfl⟩⟩
 ·refine (Any.strconv_Atoi_syntax_var Tryz.laysC172 s hs hA t q w (A7c hw h1 h2)).mono ?_
  rintro e w' ⟨N, rfl, _, _, hB⟩
  exact ⟨_, G, [], rfl, A4z hw hB, rfl, rfl, .inr ⟨0, _, _, (fun m h => by cases h), ⟨by decide, by decide⟩, rfl⟩⟩
 ·refine (Any.strconv_Atoi_range_var Tryz.laysC172 s hs hA t' q' w (A7c hw h3 h4)).mono ?_
  rintro e w' ⟨N, rfl, _, _, hB⟩
  exact ⟨_, G, [], rfl, A4z hw hB, rfl, rfl, .inr ⟨_, _, _, (fun m h => by cases h), Lib.atoiSat_bounds _, rfl⟩⟩
end Gw
end Go.Proofs.YtgodjiieijekiaaGreatDoor
namespace Go.Proofs.YtgodjiieijekiaaGreatDoor
open Go Go.RowKit Go.ChangeShapes Go.WideShapes Go.ChangeAt
namespace Gw
theorem A4A : Tryz.prog.globalNamed "strconv.ErrSyntax" = some 2 := by kernel_rfl
theorem A4B : Tryz.prog.globalNamed "strconv.ErrRange" = some 3 := by kernel_rfl
theorem B0G : (Tryz.prog.globals[2]?).map (·.type) = some 177 := by kernel_rfl
theorem B0H : (Tryz.prog.globals[3]?).map (·.type) = some 177 := by kernel_rfl
theorem A7d : Tryz.prog.cellsOf 237 = 1 := by kernel_rfl
theorem A7e : Tryz.prog.cellsOf 9 = 1 := by kernel_rfl
theorem A7f : "*" ++ "errors.errorString" = "*errors.errorString" := by decide
theorem A7g (u : TypeId) (h : Tryz.prog.typeName? 3 u = some "*errors.errorString") : u = 235 :=
 typeName_ptr_named (nm := "errors.errorString") (by rw [A7f]; kernel_rfl) (by kernel_rfl) (by decide) u (by rw [A7f]; exact h)
def A7h : List (String × DataW Unit) := [("math/bits.deBruijn32tab", Rows.laid_math_bits_deBruijn32tab), ("math/bits.deBruijn64tab", Rows.laid_math_bits_deBruijn64tab), ("internal/strconv.uint64pow10", Rows.laid_internal_strconv_uint64pow10), ("strconv.ErrRange", Rows.laid_strconv_ErrRange), ("strconv.ErrSyntax", Rows.laid_strconv_ErrSyntax)]
theorem A4C {W : World} {n : String} {g : Nat} {cs : Array Value} (hg : Tryz.prog.globalNamed n = some g) (h : W.var? Tryz.prog n = some cs) : GW W g = some cs.toList := by
 unfold World.var? at h
 rw [hg] at h
 simp only [Option.bind_some] at h
 unfold GW
 split at h
 ·rename_i c e f hb
  rw [hb]
  have := Option.some.inj h
  simp [this]
 ·cases h
theorem B0I {W : World} (h : laidMetH Tryz.prog A7h W) : A0t (GW W) ∧ X2 (GW W) := by
 have h1 : laidMet Tryz.prog A7h W := h
 have h3 := h1.tail.tail
 have ht : Lib.TabIs Tryz.prog W "internal/strconv.uint64pow10" .u64 Lib.pow10Tab :=
  Lib.tabIs_of_head A3V A89 Tryz.underlying212 Tryz.underlying194 A9b A9a h3
 obtain ⟨a0, s0, hv0, _, _, _⟩ := laid_sentinel h3.tail A4B B0H Tryz.underlying177 A7g Tryz.underlying235 Tryz.underlying237 rfl rfl Tryz.underlying9 A7d A7e
 obtain ⟨a1, s1, hv1, _, _, _⟩ := laid_sentinel h3.tail.tail A4A B0G Tryz.underlying177 A7g Tryz.underlying235 Tryz.underlying237 rfl rfl Tryz.underlying9 A7d A7e
 refine ⟨⟨1, A3V, ?_⟩, ⟨2, _, _, A4A, A4C A4A hv1⟩, ⟨3, _, _, A4B, A4C A4B hv0⟩⟩
 have := A4C A3V ht
 simpa using this
noncomputable def A7i : Nat := (World.holding Tryz.prog default ⟨#[], #[], []⟩).heap.size
abbrev A7j : ByteArray := ⟨#[105, 110, 118, 97, 108, 105, 100, 32, 115, 121, 110, 116, 97, 120]⟩
abbrev A7k : ByteArray := ⟨#[118, 97, 108, 117, 101, 32, 111, 117, 116, 32, 111, 102, 32, 114, 97, 110, 103, 101]⟩
noncomputable def A4D (os : Os) : World :=
 { World.holding Tryz.prog os ⟨#[.cells #[.string A7j] 237, .cells #[.string A7k] 237], #[], []⟩ with
  heap := (((((World.holding Tryz.prog os ⟨#[.cells #[.string A7j] 237, .cells #[.string A7k] 237], #[], []⟩).heap.modify 1 (A01 (A1H Rows.laid_internal_strconv_uint64pow10))).modify 4 (A01 (A1H Rows.laid_math_bits_deBruijn32tab))).modify 5 (A01 (A1H Rows.laid_math_bits_deBruijn64tab))).modify 2 (A01 #[.iface 235 (.pointer (some ⟨A7i, 0, none⟩))])).modify 3 (A01 #[.iface 235 (.pointer (some ⟨A7i + 1, 0, none⟩))]) }
end Gw
end Go.Proofs.YtgodjiieijekiaaGreatDoor
namespace Go.Proofs.YtgodjiieijekiaaGreatDoor
open Go Go.RowKit Go.ChangeShapes Go.WideShapes Go.ChangeAt
namespace Gw
section read2
variable {H : Type} {enc : TypeId × Value → H} {w : World} {sp : Nat → Bool} {held : Bool}
end read2
end Gw
end Go.Proofs.YtgodjiieijekiaaGreatDoor
namespace Go.Proofs.YtgodjiieijekiaaGreatDoor
open Go Go.RowKit Go.ChangeShapes Go.WideShapes Go.ChangeAt
namespace Gw
theorem B0J : Tryz.prog.cellsOf 5 = 1 := by kernel_rfl
theorem A7l {q : Nat → Value → Prop} : ∀ {n : Nat}, (∀ i, i < n → ∃ k : UInt8, q i (.int .u8 (k.toNat : Int))) → ∃ l : List UInt8, l.length = n ∧ ∀ i v, (K2 l)[i]? = some v → q i v
 | 0, _ => ⟨[], rfl, by simp [K2]⟩
 | n + 1, h => by
  obtain ⟨l, h1, h2⟩ := A7l (n := n) fun i hi => h i (by omega)
  obtain ⟨k, hk⟩ := h n (by omega)
  refine ⟨l ++ [k], by simp [h1], fun i v hv => ?_⟩
  rw [show K2 (l ++ [k]) = K2 l ++ [.int .u8 (k.toNat : Int)] from by simp [K2], List.getElem?_append] at hv
  split at hv
  ·exact h2 i v hv
  ·rename_i hi
   rw [A6d] at hi hv
   have : i - l.length = 0 := by
    have := (List.getElem?_eq_some_iff.1 hv).1; simp at this; omega
   rw [this] at hv; simp at hv; subst hv
   rw [show i = n by omega]; exact hk
section read2
variable {H : Type} {enc : TypeId × Value → H} {w : World} {sp : Nat → Bool} {held : Bool}
theorem A7m (n : Nat) (cs : List Value) (x : DataW H × List MemPlace) (h : DataW.trod enc Tryz.prog w 0 sp held n 22 cs = some x) : ∃ (l : List UInt8) (p : Option Addr) (c : Nat), cs = [.slice p l.length c] ∧ Sl (GW w) p l.length c 1 (K2 l) := by
 rcases DataW.trod_slice Tryz.underlying22 h with ⟨rfl, _⟩ | ⟨ad, len, cap, elems, rest, n', rfl, rfl, _, _, hlc, hcm, hel, hele, _, _⟩
 ·exact ⟨[], none, 0, rfl, Sl.nil _ _⟩
 ·rw [B0J] at hele
  obtain ⟨l, h1, h2⟩ := A7l (q := fun i v => w.cells? 0 (ad.add (i * 1)) 1 = some [v]) (n := len) fun i hi => by
   have := hele i hi
   rw [List.getElem?_eq_getElem (by omega)] at this
   obtain ⟨cs', c1, c2⟩ := Option.bind_eq_some_iff.1 this
   obtain ⟨k, rfl, _, hw⟩ := DataW.trod_int Tryz.underlying5 c2
   have hk : 0 ≤ k ∧ k < 256 := by
    have hw2 : (decide ((0 : Int) ≤ k) && decide (k ≤ (255 : Int))) = true := hw
    simp only [Bool.and_eq_true, decide_eq_true_eq] at hw2
    omega
   refine ⟨UInt8.ofNat k.toNat, ?_⟩
   rw [show ((UInt8.ofNat k.toNat).toNat : Int) = k from by
    rw [UInt8.toNat_ofNat']; omega]
   exact c1
  subst h1
  refine ⟨l, some ad, cap, rfl, ?_⟩
  have := A86 (w := w) (a := ad) (n := l.length) (c := cap) (sz := 1) (es := (K2 l).map fun v => [v]) (by simp [A6d]) (by omega) hlc hcm fun i e he => by
   rw [List.getElem?_map] at he
   cases hv : (K2 l)[i]? with
   | none => rw [hv] at he; simp at he
   | some v => rw [hv] at he; simp at he; subst he; exact h2 i v hv
  have hf : ((K2 l).map fun v => [v]).flatten = K2 l := by
   generalize K2 l = L
   induction L with
   | nil => rfl
   | cons a L ih => simp [ih]
  rwa [hf] at this
end read2
end Gw
end Go.Proofs.YtgodjiieijekiaaGreatDoor
