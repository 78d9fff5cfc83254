/-
  The reference model's terms that are sometimes made invalid; drawn arguments. Slices of slices; slices of the call's own opened as blocks; one element of a slice of terms replaced. Casts put in: one cast, the types that are asked for. InsertCasts of the reference model: it ends, and what it gives is not much bigger than what it is given. Which names are free, at which place a name is bound: what comes out is small. Evaluation of terms with casts, in plain words. The calculus of casts is that of the evaluation. What a step gives is small. The program's functions on types and contexts: each computes what the plain words say. Nodes replaced: the program's put, the reference model's l16Replace. The reference model's replacing of nodes. What a node wants of its operands. The type of a term with casts. castType and CastTypeOf compute the type of a term with casts. ReplaceAt: the program's and the reference model's. Nodes at paths, in plain words: paths concatenate. Replacing a node, in plain words: what is put is found, and putting back undoes. A closed term's type is its type everywhere; a node replaced by one of its type leaves the type. Casts put into a term, in plain words. The reference's types are those of the insertion. Terms with casts: what a type says of a node. Casts put into a term: operand by operand. Precision of types and terms, on both sides.
-/
import Derived.Test.YtebfignffjhnhaaGreatDoorKk3
import Derived.Test.YtebfignffjhnhaaGreatDoorKk2
import Derived.Laws.Slices
import Derived.Test.YtebfignffjhnhaaGreatDoorKk1
set_option linter.unusedVariables false
set_option linter.unusedSimpArgs false
set_option maxHeartbeats 0
set_option maxRecDepth 100000
set_option synthInstance.maxSize 4000
set_option synthInstance.maxHeartbeats 0
namespace Go.Proofs.YtebfignffjhnhaaGreatDoor
open Go Go.RowKit
namespace Gw
theorem B1.of9 {G : IM} {k : Int} {nm : ByteArray} {num tk fk : Int} {tks fks : List Ty} {lb : Int} {ks : List Tm} {q1 q2 q3 : Option Addr} {c1 c2 c3 : Nat} {es : List (List Value)} (hk : H0 k) (hnum : H0 num) (hlb : H0 lb) (hty : C3 G (.mk tk tks) [.int .i64 tk, .slice q1 tks.length c1])
  (hfr : C3 G (.mk fk fks) [.int .i64 fk, .slice q2 fks.length c2]) (hsl : E3 G q3 ks.length c3 9 es) (hkl : E5 G ks es) :
  B1 G (.mk k nm num (.mk tk tks) (.mk fk fks) lb ks) [.int .i64 k, .string nm, .int .i64 num, .int .i64 tk, .slice q1 tks.length c1, .int .i64 fk, .slice q2 fks.length c2, .int .i64 lb, .slice q3 ks.length c3] := by
 simp only [B1]
 exact ⟨_, _, q3, c3, es, rfl, hk, hnum, hlb, hty, hfr, hsl, hkl⟩
theorem A22 {k k' : Int} {nm nm' : ByteArray} {num num' : Int} {ty fr ty' fr' : Ty} {lb lb' : Int} {ks : List Tm} (h : (Tm.mk k nm num ty fr lb ks).small) (h1 : nm'.size ≤ 4294967296) (h2 : ty'.small) (h3 : fr'.small) : (Tm.mk k' nm' num' ty' fr' lb' ks).small := by
 simp only [Tm.small] at h ⊢
 exact ⟨h1, h2, h3, h.2.2.2⟩
def Tm.fit (t : Tm) (N : Nat) : Prop := t.small ∧ D1 t ≤ N
theorem B40 (br : Nat) (pb : Option Addr) (nb cb : Nat) (bs : List UInt8) (hnb : nb ≤ 2000) (p : Nat) (G : IM) (hb : Sl G pb nb cb 1 (O2 bs)) (hp : p + 100 < 1099511627776) (t : Tm) (cells : List Value) (N : Nat) (hfit : t.fit N) (hr : B1 G t cells) :
  Fn Tryz.prog 81 [.pointer (some ⟨br, 0, none⟩), .agg ⟨cells⟩] [rd br pb nb cb p] G
   (A0t br pb nb cb p 40 (fun G' v => ∃ t cells, v = .agg ⟨cells⟩ ∧ B1 G' t cells ∧ t.fit N)) := by
 have hl := hr.len
 have hone := hr.one
 obtain ⟨k, nm, num, ⟨tk, tks⟩, ⟨fk, fks⟩, lb, ks⟩ := t
 have hfit0 := hfit
 obtain ⟨hsm, hcn⟩ := hfit0
 replace hfit : (Tm.mk k nm num (.mk tk tks) (.mk fk fks) lb ks).small ∧ D1 (Tm.mk k nm num (.mk tk tks) (.mk fk fks) lb ks) ≤ N := hfit
 rw [show (Tm.mk k nm num (.mk tk tks) (.mk fk fks) lb ks).small = (nm.size ≤ 4294967296 ∧ (Ty.mk tk tks).small ∧ (Ty.mk fk fks).small ∧ ks.length ≤ 4294967296 ∧ Tm.smallL ks) from by rw [Tm.small]] at hfit
 refine C6 Tryz.func81 rfl Tryz.ntmps81 Tryz.results81 rfl ?_
 intro w0
 refine A4 ?_
 refine sE (C9 rfl rfl) rfl (fun b3 => ?_)
 refine sE (A9 rfl) rfl (fun b4 => ?_)
 refine B4 ?_
 refine sL (A3 rfl rfl (B6 (by repeat first | exact mH | apply mT)) (by assumption)) rfl rfl ?_
 (refine E6 rfl (A3D _ G cells hsm hr) rfl rfl (fun v G1 hle1 hh => ?_); obtain ⟨cells1, F1, rfl, hs1, hn1⟩ := hh; have hr1 := hs1.R.mono (C2.le G1 G); obtain ⟨q1, c1, q2, c2, q3, c3, es, rfl, hk, hnum, hlb, hty, hfr, hsl, hkl⟩ := hr1.open9)
 refine sE (A9 rfl) rfl (fun b11 => ?_)
 refine B7 ?_
 (refine J9 rfl (Z1 _ br pb nb cb p bs 50 (hb.mono hle1) hnb (by omega)) (Pk.perm (by repeat (first | exact Pk.here | apply Pk.there))) rfl rfl (fun v G2 outs hle2 hh => ?_); obtain ⟨rfl, rfl, j, rfl, hj0, hj1⟩ := hh; replace hb := hb.mono hle1)
 refine A4 ?_
 (show J3 _ _ (.block 0 _) _ _; refine A0l (fun (x : List Value × Nat × IM) => ⟨[(5, .pointer (some ⟨b11, 0, none⟩)), (4, .pointer (some ⟨b4, 0, none⟩))], [.blk b11 x.1, .blk b4 [.int .i64 0, .string ⟨⟨[]⟩⟩, .int .i64 0, .int .i64 0, .slice none 0 0, .int .i64 0, .slice none 0 0, .int .i64 0, .slice none 0 0], rd br pb nb cb x.2.1], x.2.2⟩) (fun x => C4 G2 x.2.2 ∧ p ≤ x.2.1 ∧ x.2.1 ≤ p + 40 ∧ ∃ t, B1 x.2.2 t x.1 ∧ t.small ∧ D1 t = D1 (.mk k nm num (.mk tk tks) (.mk fk fks) lb ks)) ?_ ?_)
 refine C5 (tS (tR (sB (qE rfl rfl) rfl rfl (fun h26 => ?_) (fun h26 => ?_))))
 refine A8 ?_
 (refine I3 (D0 rfl rfl rfl (by omega) (by unfold maxLen; omega) rfl) rfl ?_; rintro _ ⟨b33, rfl⟩)
 (refine U6 (by repeat (first | exact Pk.here | apply Pk.there)) (fun G4 hle4 hsl4 _ => ?_); refine J9 rfl (A0m G4 br pb nb cb (p + 1) bs _ _ _ _ (hb.mono hle4) hnb (by omega) hsl4 (by decide)) (Pk.perm (by repeat (first | exact Pk.here | apply Pk.there))) rfl rfl (fun v G5 outs hle5 hh => ?_); obtain ⟨rfl, rfl, hv⟩ := hh; obtain ⟨k', rfl, hk'⟩ : ∃ k', v = .int .i64 k' ∧ H0 k' := (by simp only [List.mem_cons, List.not_mem_nil, or_false] at hv; rcases hv with rfl | rfl | rfl | rfl | rfl | rfl <;> exact ⟨_, rfl, by unfold H0; omega⟩))
 refine B4 ?_
 refine Q6 ([.int .i64 k', .string nm, .int .i64 num, .int .i64 tk, .slice q1 tks.length c1, .int .i64 fk, .slice q2 fks.length c2, .int .i64 lb, .slice q3 ks.length c3], p + 1 + 1, G5) (M4 (by repeat (first | exact E7.nil | refine E7.cons rfl ?_)) (by repeat (first | exact A1.refl | exact A1.nil | refine A1.cons (by repeat (first | exact Pk.here | apply Pk.there)) ?_ | apply A1.drop))) ?_
 (dsimp only; exact ⟨hle4, by omega, by omega, _, B1.of9 hk' hnum hlb (hty.mono hle4) (hfr.mono hle4) (hsl.mono hle4) (hkl.mono hle4), A22 hsm hfit.1.1 hfit.1.2.1 hfit.1.2.2.1, rfl⟩)
 refine A8 ?_
 refine sB (qE rfl rfl) rfl rfl (fun h47 => ?_) (fun h47 => ?_)
 refine A8 ?_
 (refine I3 (D0 rfl rfl rfl (by omega) (by unfold maxLen; omega) rfl) rfl ?_; rintro _ ⟨b54, rfl⟩)
 (refine U6 (by repeat (first | exact Pk.here | apply Pk.there)) (fun G4 hle4 hsl4 _ => ?_); refine J9 rfl (A6V G4 br pb nb cb (p + 1) bs _ _ _ _ (hb.mono hle4) hnb (by omega) hsl4 (by decide)) (Pk.perm (by repeat (first | exact Pk.here | apply Pk.there))) rfl rfl (fun v G5 outs hle5 hh => ?_); obtain ⟨rfl, rfl, hv⟩ := hh; obtain ⟨nm', rfl, hnm'⟩ : ∃ nm', v = .string nm' ∧ nm'.size ≤ 2 := (by simp only [List.mem_cons, List.not_mem_nil, or_false] at hv; rcases hv with rfl | rfl | rfl | rfl <;> exact ⟨_, rfl, by decide⟩))
 refine B4 ?_
 refine Q6 ([.int .i64 k, .string nm', .int .i64 num, .int .i64 tk, .slice q1 tks.length c1, .int .i64 fk, .slice q2 fks.length c2, .int .i64 lb, .slice q3 ks.length c3], p + 1 + 1, G5) (M4 (by repeat (first | exact E7.nil | refine E7.cons rfl ?_)) (by repeat (first | exact A1.refl | exact A1.nil | refine A1.cons (by repeat (first | exact Pk.here | apply Pk.there)) ?_ | apply A1.drop))) ?_
 (dsimp only; exact ⟨hle4, by omega, by omega, _, B1.of9 hk hnum hlb (hty.mono hle4) (hfr.mono hle4) (hsl.mono hle4) (hkl.mono hle4), A22 hsm (by omega) hfit.1.2.1 hfit.1.2.2.1, rfl⟩)
 refine A8 ?_
 refine sB (qE rfl rfl) rfl rfl (fun h68 => ?_) (fun h68 => ?_)
 refine A8 ?_
 (refine I3 (D0 rfl rfl rfl (by omega) (by unfold maxLen; omega) rfl) rfl ?_; rintro _ ⟨b75, rfl⟩)
 (refine U6 (by repeat (first | exact Pk.here | apply Pk.there)) (fun G4 hle4 hsl4 _ => ?_); refine J9 rfl (A0m G4 br pb nb cb (p + 1) bs _ _ _ _ (hb.mono hle4) hnb (by omega) hsl4 (by decide)) (Pk.perm (by repeat (first | exact Pk.here | apply Pk.there))) rfl rfl (fun v G5 outs hle5 hh => ?_); obtain ⟨rfl, rfl, hv⟩ := hh; obtain ⟨k', rfl, hk'⟩ : ∃ k', v = .int .i64 k' ∧ H0 k' := (by simp only [List.mem_cons, List.not_mem_nil, or_false] at hv; rcases hv with rfl | rfl | rfl | rfl | rfl | rfl <;> exact ⟨_, rfl, by unfold H0; omega⟩))
 refine B4 ?_
 refine Q6 ([.int .i64 k, .string nm, .int .i64 k', .int .i64 tk, .slice q1 tks.length c1, .int .i64 fk, .slice q2 fks.length c2, .int .i64 lb, .slice q3 ks.length c3], p + 1 + 1, G5) (M4 (by repeat (first | exact E7.nil | refine E7.cons rfl ?_)) (by repeat (first | exact A1.refl | exact A1.nil | refine A1.cons (by repeat (first | exact Pk.here | apply Pk.there)) ?_ | apply A1.drop))) ?_
 (dsimp only; exact ⟨hle4, by omega, by omega, _, B1.of9 hk hk' hlb (hty.mono hle4) (hfr.mono hle4) (hsl.mono hle4) (hkl.mono hle4), A22 hsm hfit.1.1 hfit.1.2.1 hfit.1.2.2.1, rfl⟩)
 refine A8 ?_
 refine sB (qE rfl rfl) rfl rfl (fun h89 => ?_) (fun h89 => ?_)
 refine B7 ?_
 (refine J9 rfl (B4G br pb nb cb bs hnb (p + 1) _ hb (by omega)) (Pk.perm (by repeat (first | exact Pk.here | apply Pk.there))) rfl rfl (fun v G3 outs hle3 hh => ?_); obtain ⟨p3, hp31, hp32, rfl, t3, cells3, rfl, hr3, hs3⟩ := hh)
 (refine J9 rfl (B4I br pb nb cb bs hnb p3 _ (hb.mono hle3) (by omega) t3 cells3 hr3 hs3) (Pk.perm (by repeat (first | exact Pk.here | apply Pk.there))) rfl rfl (fun v G4 outs hle4 hh => ?_); obtain ⟨p4, hp41, hp42, rfl, t4, cells4, rfl, hr4, hs4⟩ := hh; have hts4 := A4n t4 (by omega); obtain ⟨t4k, t4s⟩ := t4; obtain ⟨q4, c4, es4, rfl, _⟩ := hr4.open; have hle24 := hle3.trans hle4)
 refine B4 ?_
 refine Q6 ([.int .i64 k, .string nm, .int .i64 num, .int .i64 t4k, .slice q4 t4s.length c4, .int .i64 fk, .slice q2 fks.length c2, .int .i64 lb, .slice q3 ks.length c3], p4, G4) (M4 (by repeat (first | exact E7.nil | refine E7.cons rfl ?_)) (by repeat (first | exact A1.refl | exact A1.nil | refine A1.cons (by repeat (first | exact Pk.here | apply Pk.there)) ?_ | apply A1.drop))) ?_
 (dsimp only; exact ⟨hle24, by omega, by omega, _, B1.of9 hk hnum hlb hr4 (hfr.mono hle24) (hsl.mono hle24) (hkl.mono hle24), A22 hsm hfit.1.1 hts4 hfit.1.2.2.1, rfl⟩)
 refine A8 ?_
 refine sB (qE rfl rfl) rfl rfl (fun h111 => ?_) (fun h111 => ?_)
 refine E1 ?_
 refine Q6 ([.int .i64 k, .string nm, .int .i64 num, .int .i64 tk, .slice q1 tks.length c1, .int .i64 fk, .slice q2 fks.length c2, .int .i64 1, .slice q3 ks.length c3], p + 1, G2) (M4 (by repeat (first | exact E7.nil | refine E7.cons rfl ?_)) (by repeat (first | exact A1.refl | exact A1.nil | refine A1.cons (by repeat (first | exact Pk.here | apply Pk.there)) ?_ | apply A1.drop))) ?_
 (dsimp only; exact ⟨C4.refl _, by omega, by omega, _, B1.of9 hk hnum ⟨by omega, by omega⟩ hty hfr hsl hkl, A22 hsm hfit.1.1 hfit.1.2.1 hfit.1.2.2.1, rfl⟩)
 refine A8 ?_
 refine sB (qE rfl rfl) rfl rfl (fun h129 => ?_) (fun h129 => ?_)
 refine B0 ?_
 refine H6 rfl ((A17 _)) rfl rfl ?_
 refine B4 ?_
 refine Q6 ([.int .i64 k, .string nm, .int .i64 num, .int .i64 tk, .slice q1 tks.length c1, .int .i64 1, .slice none 0 0, .int .i64 lb, .slice q3 ks.length c3], p + 1, G2) (M4 (by repeat (first | exact E7.nil | refine E7.cons rfl ?_)) (by repeat (first | exact A1.refl | exact A1.nil | refine A1.cons (by repeat (first | exact Pk.here | apply Pk.there)) ?_ | apply A1.drop))) ?_
 (dsimp only; exact ⟨C4.refl _, by omega, by omega, _, B1.of9 hk hnum hlb hty (A0Q _) hsl hkl, A22 hsm hfit.1.1 hfit.1.2.1 (by simp [Ty.small, Ty.smallL]), rfl⟩)
 refine A8 ?_
 refine Q6 ([.int .i64 k, .string nm, .int .i64 num, .int .i64 tk, .slice q1 tks.length c1, .int .i64 fk, .slice q2 fks.length c2, .int .i64 lb, .slice q3 ks.length c3], p + 1, G2) (M4 (by repeat (first | exact E7.nil | refine E7.cons rfl ?_)) (by repeat (first | exact A1.refl | exact A1.nil | refine A1.cons (by repeat (first | exact Pk.here | apply Pk.there)) ?_ | apply A1.drop))) ?_
 (dsimp only; exact ⟨C4.refl _, by omega, by omega, _, B1.of9 hk hnum hlb hty hfr hsl hkl, A22 hsm hfit.1.1 hfit.1.2.1 hfit.1.2.2.1, rfl⟩)
 (rintro ⟨cells9, p9, G9⟩ ⟨hle9, hp9, hp9', t9, hr9, hs9, hc9⟩; simp only [] at hle9 hp9 hp9' hr9 hs9 hc9 ⊢; have hl9 := hr9.len; have ho9 := hr9.one)
 refine A4 ?_
 refine sL (A3 rfl rfl (B6 (by repeat first | exact mH | apply mT)) hl9) rfl rfl ?_
 refine sS rfl rfl rfl hl9 ho9 rfl ?_ (hu := by exact E0 hl9.symm)
 refine B9 ?_
 refine H7 (outs := [rd br pb nb cb p9]) (rC rfl (A3 rfl rfl (B6 (by repeat first | exact mH | apply mT)) hl9)) (by repeat (first | exact A1.nil | refine A1.cons Pk.here ?_ | refine A1.cons (Pk.there Pk.here) ?_ | refine A1.cons (Pk.there (Pk.there Pk.here)) ?_ | apply A1.drop)) ?_
 (exact ⟨p9, by omega, by omega, rfl, t9, cells9, rfl, hr9, hs9, by omega⟩)
section slaw
variable {P : Program} {Γ : M0} {env : M6} {hp : List A6} {G : IM} {ty : TypeId} {K : Po} {ops : Array Oper} {rest : List Oper}
theorem St.slc_open {a : Act} {w : World} {p : Option Addr} {c el sz n : Nat} {cs : List Value} {hp' : List A6} (hs : St Γ ⟨env, hp, G⟩ a w) (hk : Pk hp (.slc p c el sz n cs) hp') (h0 : 0 < n) :
  ∃ b C, p = some ⟨b, 0, none⟩ ∧ n ≤ c ∧ c ≤ maxLen ∧ St Γ ⟨env, .blk b (cs ++ C) :: hp', G⟩ a w := by
 have hown : U5 [.slc p c el sz n cs] G w := hs.res.own.of_mem hk.perm
 obtain ⟨hl, h⟩ := hown.ok _ List.mem_cons_self
 rcases h with ⟨hv, hn⟩ | ⟨g, cap, cur, hv, _, hg, hnc, hcm, hsz, ht⟩
 ·omega
 ·cases hv
  refine ⟨g, cur.toList.drop cs.length, rfl, hnc, hcm, ?_⟩
  have hcur : cur.toList = cs ++ cur.toList.drop cs.length := by
   have e : cs.length = n * sz := hl
   rw [e]
   conv => lhs; rw [← List.take_append_drop (n * sz) cur.toList, ht]
  have hr : S3 [.slc (some ⟨g, 0, none⟩) c el sz n cs] G w [.blk g (cs ++ cur.toList.drop cs.length)] G w := by
   refine ⟨⟨hown.inn, ?_, by simp [Fp, A6.fp], ?_⟩, Ext.refl _ _, C4.refl _, fun _ _ h => .inl h, ?_, fun b l h h0 => absurd h (by rw [h0]; simp)⟩
   ·intro e he
    simp at he; subst he
    refine ⟨el, ?_⟩
    rw [← hcur]; simpa using hg
   ·intro b' hb; exact hown.disj b' (by simpa [Fp, A6.fp, I2] using hb)
   ·intro b' hb; exact .inr (by simpa [Fp, A6.fp, I2] using hb)
  exact ⟨hs.size, hs.nod, hs.env, by have := (hs.res.perm hk.perm).frame hr; simpa using this⟩
theorem A4y {p : Option Addr} {c el sz n : Nat} {cs : List Value} {hp' : List A6} (hk : Pk hp (.slc p c el sz n cs) hp') (h0 : 0 < n)
  (h : ∀ b C, p = some ⟨b, 0, none⟩ → n ≤ c → c ≤ maxLen → I8 P Γ ops rest K ⟨env, .blk b (cs ++ C) :: hp', G⟩) : I8 P Γ ops rest K ⟨env, hp, G⟩ :=
 ⟨fun a w hs => let ⟨b, C, h1, h2, h3, h4⟩ := hs.slc_open hk h0; (h b C h1 h2 h3).run a w h4⟩
end slaw
theorem B41 {es : List (List Value)} {j : Nat} {vs : List Value} (hj : j < es.length) : (es.set j vs).flatten = (es.take j).flatten ++ (vs ++ (es.drop (j + 1)).flatten) := by
 rw [List.set_eq_take_append_cons_drop, if_pos hj]; simp
theorem A92 {es : List (List Value)} {j : Nat} (hj : j < es.length) : es.flatten = (es.take j).flatten ++ (es[j] ++ (es.drop (j + 1)).flatten) := by
 have h := congrArg List.flatten (List.take_append_drop j es).symm
 rw [List.drop_eq_getElem_cons hj, List.flatten_append, List.flatten_cons] at h
 exact h
theorem A4z {es : List (List Value)} {C vs : List Value} {j sz : Nat} (hj : j < es.length) (ha : ∀ e ∈ es, e.length = sz) (hv : vs.length = sz) : T3 (es.flatten ++ C) (0 + j * sz) vs = some ((es.set j vs).flatten ++ C) := by
 have := A6r (A := (es.take j).flatten) (B := es[j]) (C := (es.drop (j + 1)).flatten ++ C) (V := vs) (o := 0 + j * sz)
  (by rw [A00 (fun e he => ha e (List.mem_of_mem_take he)), List.length_take]; rw [Nat.min_eq_left (by omega)]; omega) (by rw [ha _ (List.getElem_mem hj), hv])
 rw [A92 hj, B41 hj]
 simp only [List.append_assoc] at this ⊢
 exact this
theorem E5.set {G : IM} : ∀ {ks : List Tm} {es : List (List Value)} {j : Nat} {y : Tm} {v : List Value}, E5 G ks es → B1 G y v → E5 G (ks.set j y) (es.set j v)
 | [], es, j, y, v, h, h2 => by simp only [E5] at h; subst h; simp [E5]
 | t :: ts, es, 0, y, v, h, h2 => by
  simp only [E5] at h
  obtain ⟨a, r, rfl, h3, h4⟩ := h
  simp only [List.set_cons_zero, E5]
  exact ⟨v, r, rfl, h2, h4⟩
 | t :: ts, es, j + 1, y, v, h, h2 => by
  simp only [E5] at h
  obtain ⟨a, r, rfl, h3, h4⟩ := h
  simp only [List.set_cons_succ, E5]
  exact ⟨a, r.set j v, rfl, h3, E5.set h4 h2⟩
def A93 : Tm → List Int → Tm → Tm
 | _, [], x => x
 | .mk k nm num ty fr lb ks, i :: is, x => if h : 0 ≤ i ∧ i < ks.length then .mk k nm num ty fr lb (ks.set i.toNat (A93 (ks[i.toNat]'(by omega)) is x)) else .mk k nm num ty fr lb ks
def TyV (e : Tm) (G : IM) : IM → Value → List A6 → Prop := K8 fun G' v => ∃ t cells b, v = .tuple ⟨[.agg ⟨cells⟩, .bool b]⟩ ∧ C3 G' t cells ∧ F9 t ∧ K7 t ≤ 960 ∧ (b = true → T5 e = true)
theorem A23 {G : IM} {e : Tm} {ce : List Value} {p : Option Addr} {c : Nat} (hr : B1 G e ce) (hs : Sl G p 1 c 9 ce) : E3 G p [e].length c 9 [ce] ∧ E5 G [e] [ce] := by
 refine ⟨E3.of (by simpa using hs) rfl (fun x hx => by simp only [List.mem_singleton] at hx; subst hx; exact hr.len) (fun x hx => by simp only [List.mem_singleton] at hx; subst hx; exact hr.one), ?_⟩
 simp only [E5]
 exact ⟨ce, [], rfl, hr, rfl⟩
def B9o (e : Tm) (label : Int) (G : IM) : IM → Value → List A6 → Prop := K8 fun G' v => ∃ u cu l', v = .tuple ⟨[.agg ⟨cu⟩, .int .i64 l']⟩ ∧ B1 G' u cu ∧ (e.small → u.small) ∧ D1 u ≤ D1 e + 1 ∧ label ≤ l' ∧ l' ≤ label + 1
def B9p (n : Nat) (G : IM) : IM → Value → List A6 → Prop := K8 fun G' v => ∃ p c es ws, v = .slice p n c ∧ ws.length = n ∧ E3 G' p n c 2 es ∧ D5 G' ws es ∧ ∀ w ∈ ws, F9 w
theorem E5.at2 {G : IM} {ts : List Tm} {es : List (List Value)} {i : Nat} (h : E5 G ts es) (h1 : i < ts.length) (h2 : i < es.length) : i < es.length ∧ B1 G ts[i] es[i] := by
 have := (h.inv (List.getElem?_eq_getElem h2) J7).2
 rw [List.getD_eq_getElem?_getD, List.getElem?_eq_getElem h1] at this
 exact ⟨h2, this⟩
mutual
theorem A94 : ∀ (t : Tm) (d : Int), N5 12 14 t d = true → t.small
 | .mk k nm num ty fr lb ks, d, h => by
  obtain ⟨h1, h2, h3, h4⟩ := A0R h
  have hn := V8.1 h3
  rw [Tm.small]
  refine ⟨?_, (A3H h3).1.small, ?_, ?_, A95 ks _ h4⟩
  ·by_cases hk : k = 1 ∨ k = 5
   ·have := hn.2.1 hk
    simp only [A1f, decide_eq_true_eq] at this
    omega
   ·rw [hn.2.2.1 hk]; decide
  ·rw [A2m (hn.2.2.2.2.2.2.2.2 (by omega)).1]
   simp [B3, Ty.small, Ty.smallL]
  ·have := A1B k
   omega
theorem A95 : ∀ (ts : List Tm) (d : Int), N7 12 14 ts d = true → Tm.smallL ts
 | [], d, h => by rw [Tm.smallL]; trivial
 | t :: ts, d, h => by
  rw [N7, Bool.and_eq_true] at h
  rw [Tm.smallL]
  exact ⟨A94 t d h.1, A95 ts d h.2⟩
end
theorem A5y {hp : List A6} {G : IM} {b sz i : Nat} {es : List (List Value)} {C : List Value} (hm : A6.blk b (es.flatten ++ C) ∈ hp) (hi : i < es.length) (ha : ∀ e ∈ es, e.length = sz) : At hp G b (0 + i * sz) es[i] := by
 refine .inl ⟨_, hm, fun j u hu => ?_⟩
 rw [A92 hi, List.append_assoc, List.append_assoc]
 have hl : (es.take i).flatten.length = i * sz := by
  rw [A00 (fun e he => ha e (List.mem_of_mem_take he)), List.length_take, Nat.min_eq_left (by omega)]
 have hj : j < es[i].length := (List.getElem?_eq_some_iff.1 hu).1
 rw [List.getElem?_append_right (by omega), show 0 + i * sz + j - (es.take i).flatten.length = j by omega, List.getElem?_append_left hj]
 exact hu
def B9q (e : Tm) (label : Int) (G : IM) : IM → Value → List A6 → Prop := K8 fun G' v => ∃ u cu t ct l', v = .tuple ⟨[.agg ⟨cu⟩, .agg ⟨ct⟩, .int .i64 l']⟩ ∧ B1 G' u cu ∧ u.small ∧ D1 u + 1 ≤ 2 * D1 e ∧ C3 G' t ct ∧ F9 t ∧ K7 t ≤ 32 * (D1 e : Int) ∧ label ≤ l' ∧ l' + 1 ≤ label + 2 * (D1 e : Int)
def T8 (t : Ty) : Ty := if t.k = 4 ∨ t.k = 5 then .mk t.k [R4, R4] else .mk t.k []
def R9 (t : Ty) : Bool := decide (t.k ≠ 1) && N3 t (T8 t)
def P6 (t : Tm) : Bool := decide (t.k = 14 ∧ t.fr.k = t.ty.k ∧ (t.ty.k = 4 ∨ t.ty.k = 5))
def inj (t : Tm) : Bool := decide (t.k = 14 ∧ t.ty.k = 1) && R9 t.fr
mutual
def E4 : Tm → Bool
 | .mk k nm num ty fr lb ks => if k = 10 ∨ (k = 14 ∧ fr.k = ty.k ∧ (ty.k = 4 ∨ ty.k = 5)) ∨ (k = 14 ∧ ty.k = 1 ∧ R9 fr = true) then A1r ks else decide (k = 2 ∨ k = 3 ∨ k = 4 ∨ k = 5)
def A1r : List Tm → Bool
 | [] => true
 | t :: ts => E4 t && A1r ts
end
mutual
def S2 (x : ByteArray) (v : Tm) : Tm → Tm
 | .mk k nm num ty fr lb ks => if k = 1 ∧ nm = x then v else if k = 5 ∧ nm = x then .mk k nm num ty fr lb ks else .mk k nm num ty fr lb (R0 x v ks)
def R0 (x : ByteArray) (v : Tm) : List Tm → List Tm
 | [] => []
 | t :: ts => S2 x v t :: R0 x v ts
end
theorem A5z (x : ByteArray) (v : Tm) : ∀ ks, R0 x v ks = ks.map (S2 x v)
 | [] => rfl
 | t :: ts => by rw [R0, A5z x v ts, List.map_cons]
def K5 (e : Tm) (fr to : Ty) (lb : Int) : Tm := .mk 14 ⟨#[]⟩ 0 to fr lb [e]
def Y5 (k : Int) (ks : List Tm) : Tm := .mk k ⟨#[]⟩ 0 B3 B3 0 ks
def A2o (n : Int) : Tm := .mk 2 ⟨#[]⟩ n B3 B3 0 []
def Y6 (b : Prop) [Decidable b] : Tm := Y5 (if b then 3 else 4) []
abbrev Stp := Tm × Int × Int
def Q7 : Stp := (J7, 3, 0)
def kd (ks : List Tm) (i : Nat) : Tm := ks.getD i J7
def kt (ks : List Ty) (i : Nat) : Ty := ks.getD i B3
def M7 (k : Int) (ty fr : Ty) (lb : Int) (ks : List Tm) : Stp :=
 if k = 6 then
  (if (kd ks 0).k = 5 then (S2 (kd ks 0).nm (kd ks 1) (kd (kd ks 0).ks 0), 1, 0)
   else if P6 (kd ks 0) = true ∧ (kd ks 0).ty.k = 4 then (K5 (Y5 6 [kd (kd ks 0).ks 0, K5 (kd ks 1) (kt (kd ks 0).ty.ks 0) (kt (kd ks 0).fr.ks 0) (-(kd ks 0).lb)]) (kt (kd ks 0).fr.ks 1) (kt (kd ks 0).ty.ks 1) (kd ks 0).lb, 1, 0)
   else Q7)
 else if k = 7 ∨ k = 8 then
  (if (kd ks 0).k = 2 ∧ (kd ks 1).k = 2 then (if k = 7 then A2o (((kd ks 0).num + (kd ks 1).num) % 1000) else Y6 ((kd ks 0).num < (kd ks 1).num), 1, 0) else Q7)
 else if k = 9 then (if (kd ks 0).k = 3 then (kd ks 1, 1, 0) else if (kd ks 0).k = 4 then (kd ks 2, 1, 0) else Q7)
 else if k = 11 ∨ k = 12 then
  (if (kd ks 0).k = 10 then (kd (kd ks 0).ks (k - 11).toNat, 1, 0)
   else if P6 (kd ks 0) = true ∧ (kd ks 0).ty.k = 5 then (K5 (Y5 k [kd (kd ks 0).ks 0]) (kt (kd ks 0).fr.ks (k - 11).toNat) (kt (kd ks 0).ty.ks (k - 11).toNat) (kd ks 0).lb, 1, 0)
   else Q7)
 else if k = 14 then
  (if fr.k = ty.k then (kd ks 0, 1, 0)
   else if ty.k = 1 then (K5 (K5 (kd ks 0) fr (T8 fr) lb) (T8 fr) ty lb, 1, 0)
   else if R9 ty = false then (K5 (K5 (kd ks 0) fr (T8 ty) lb) (T8 ty) ty lb, 1, 0)
   else if inj (kd ks 0) = false then Q7
   else if (kd ks 0).fr.k = ty.k then (kd (kd ks 0).ks 0, 1, 0)
   else (J7, 2, lb))
 else Q7
mutual
def F0 : Tm → Stp
 | .mk k nm num ty fr lb ks => match T9 (if k = 9 then 1 else ks.length) ks with
  | some (ks', c, l) => if c = 1 then (.mk k nm num ty fr lb ks', 1, 0) else (J7, c, l)
  | none => M7 k ty fr lb ks
def T9 : Nat → List Tm → Option (List Tm × Int × Int)
 | _, [] => none
 | n, t :: ts => match n with
  | 0 => none
  | n + 1 => if E4 t = true then (match T9 n ts with
    | some (us, c, l) => some (t :: us, c, l)
    | none => none)
   else some ((F0 t).1 :: ts, (F0 t).2.1, (F0 t).2.2)
end
def H4 (e : Tm) : Stp :=
 if M5 e = false then Q7 else if E4 e = true then (e, 0, 0)
 else if (F0 e).2.1 ≠ 1 then (J7, (F0 e).2.1, (F0 e).2.2)
 else if M5 (F0 e).1 = false then (J7, 4, 0) else ((F0 e).1, 1, 0)
def K3 : Nat → Tm → Tm × Int × Int × Nat
 | 0, e => if (H4 e).2.1 = 1 then (J7, 5, 0, 0) else ((H4 e).1, (H4 e).2.1, (H4 e).2.2, 0)
 | n + 1, e => if (H4 e).2.1 = 1 then ((K3 n (H4 e).1).1, (K3 n (H4 e).1).2.1, (K3 n (H4 e).1).2.2.1, (K3 n (H4 e).1).2.2.2 + 1)
  else ((H4 e).1, (H4 e).2.1, (H4 e).2.2, 0)
def S9 (e : Tm) (fuel : Int) : Stp := if 0 ≤ fuel ∧ fuel ≤ 300 then ((K3 fuel.toNat e).1, (K3 fuel.toNat e).2.1, (K3 fuel.toNat e).2.2.1) else Q7
def B9r (e : Tm) (fuel : Int) : Int := if 0 ≤ fuel ∧ fuel ≤ 300 then ((K3 fuel.toNat e).2.2.2 : Int) else 0
structure CvN (k : Int) (nm : ByteArray) (num : Int) (ty fr : Ty) (lb : Int) (ks : List Tm) : Prop where
 ops : D9 k = ks.length
 ne : k ≠ 13
 nm1 : nm.size ≤ 1
 num0 : 0 ≤ num ∧ num ≤ 999
 tyA : F9 ty
 frA : F9 fr
 lbB : -99 ≤ lb ∧ lb ≤ 99
 c14 : k = 14 → K6 fr ty = true ∧ F4 ty = true ∧ F4 fr = true
 ty5 : ¬(k = 5 ∨ k = 14) → ty = B3
 fr14 : k ≠ 14 → fr = B3 ∧ lb = 0
def cv (t : Tm) : Prop := ∃ d, N5 40 13 t d = true
theorem A4A {n lo hi : Int} : R7 n lo hi = true ↔ lo ≤ n ∧ n ≤ hi := by unfold R7; rw [decide_eq_true_eq]
theorem cv.node {k : Int} {nm : ByteArray} {num : Int} {ty fr : Ty} {lb : Int} {ks : List Tm} (h : cv (.mk k nm num ty fr lb ks)) : CvN k nm num ty fr lb ks ∧ ∀ t ∈ ks, cv t := by
 obtain ⟨d, h⟩ := h
 obtain ⟨_, h2, h3, h4⟩ := A0R h
 obtain ⟨n1, n2, n3, n4, n5, n6, n7, n8, n9⟩ := V8.1 h3
 refine ⟨⟨n1, h2, A91 h3, ?_, (A3H h3).1, ?_, ?_, ?_, ?_, ?_⟩, fun t ht => ?_⟩
 ·by_cases hk : k = 2
  ·exact A4A.1 (n4 hk)
  ·have := A4A.1 (n5 hk); omega
 ·by_cases hk : k = 14
  ·have := (n8 hk).1
   simp only [A2j, Bool.and_eq_true] at this
   exact (A4x this.1.1).1
  ·rw [A2m (n9 hk).1]; exact X6 (by decide) (by decide)
 ·by_cases hk : k = 14
  ·have := (n8 hk).2
   simp only [A1g, Bool.or_eq_true, A4A] at this
   omega
  ·have := (n9 hk).2; omega
 ·intro hk
  have := (n8 hk).1
  simp only [A2j, Bool.and_eq_true] at this
  exact ⟨this.2, this.1.2, this.1.1⟩
 ·intro hk
  exact A2m (n7 (by omega))
 ·intro hk
  exact ⟨A2m (n9 hk).1, (n9 hk).2⟩
 ·obtain ⟨i, hi, rfl⟩ := List.mem_iff_getElem.1 ht
  exact ⟨_, (A1A 40 13 ks _).1 h4 i hi⟩
theorem A03 {t : Tm} (h : M5 t = true) : cv t ∧ D1 t ≤ 200 := by
 obtain ⟨h1, h2⟩ := (A6Q t).1 h
 exact ⟨⟨1, h1⟩, h2⟩
mutual
theorem A2p : ∀ (t : Tm), cv t → t.small
 | .mk k nm num ty fr lb ks, h => by
  obtain ⟨hn, hk⟩ := h.node
  rw [Tm.small]
  refine ⟨by have := hn.nm1; omega, hn.tyA.small, hn.frA.small, ?_, A96 ks hk⟩
  have := A1B k
  have := hn.ops
  omega
theorem A96 : ∀ (ts : List Tm), (∀ t ∈ ts, cv t) → Tm.smallL ts
 | [], _ => by rw [Tm.smallL]; trivial
 | t :: ts, h => by
  rw [Tm.smallL]
  exact ⟨A2p t (h t List.mem_cons_self), A96 ts fun u hu => h u (List.mem_cons_of_mem _ hu)⟩
end
theorem Z4 (k : Int) (nm : ByteArray) (num : Int) (ty fr : Ty) (lb : Int) (ks : List Tm) : D1 (.mk k nm num ty fr lb ks) = E8 ks + 1 := by rw [D1]
theorem A0v {k : Int} {nm : ByteArray} {num : Int} {ty fr : Ty} {lb : Int} {ks : List Tm} : (Tm.mk k nm num ty fr lb ks).small ↔ nm.size ≤ 4294967296 ∧ ty.small ∧ fr.small ∧ ks.length ≤ 4294967296 ∧ Tm.smallL ks := by rw [Tm.small]
theorem A4B : J7.small := by simp [J7, Tm.small, Ty.small, Ty.smallL, Tm.smallL, ByteArray.size]
theorem A24 : B3.small := by simp [B3, Ty.small, Ty.smallL]
mutual
theorem A97 {x : ByteArray} {v : Tm} (hv : v.small) : ∀ (t : Tm), t.small → (S2 x v t).small ∧ D1 (S2 x v t) ≤ D1 t * D1 v
 | .mk k nm num ty fr lb ks, h => by
  obtain ⟨h1, h2, h3, h4, h5⟩ := A0v.1 h
  obtain ⟨s1, s2⟩ := A98 hv ks h5
  have hp : 1 ≤ D1 v := by cases v; rw [D1]; omega
  rw [S2]
  split
  ·refine ⟨hv, ?_⟩
   rw [Z4]
   exact Nat.le_mul_of_pos_left _ (by omega)
  ·split
   ·exact ⟨h, Nat.le_mul_of_pos_right _ hp⟩
   ·refine ⟨A0v.2 ⟨h1, h2, h3, by rw [A5z, List.length_map]; exact h4, s1⟩, ?_⟩
    rw [Z4, Z4, Nat.add_mul]
    omega
theorem A98 {x : ByteArray} {v : Tm} (hv : v.small) : ∀ (ts : List Tm), Tm.smallL ts → Tm.smallL (R0 x v ts) ∧ E8 (R0 x v ts) ≤ E8 ts * D1 v
 | [], _ => by simp [R0, Tm.smallL, E8]
 | t :: ts, h => by
  simp only [Tm.smallL] at h
  obtain ⟨a1, a2⟩ := A97 hv t h.1
  obtain ⟨b1, b2⟩ := A98 hv ts h.2
  simp only [R0, Tm.smallL, E8, Nat.add_mul]
  exact ⟨⟨a1, b1⟩, by omega⟩
end
theorem A2q {ks : List Tm} (h : Tm.smallL ks) (i : Nat) : (kd ks i).small := by
 unfold kd
 rw [List.getD_eq_getElem?_getD]
 cases hi : ks[i]? with
 | none => exact A4B
 | some t => exact Tm.smallL_mem h t (List.mem_of_getElem? hi)
theorem A5A {ks : List Tm} (i : Nat) : D1 (kd ks i) ≤ E8 ks + 1 := by
 unfold kd
 rw [List.getD_eq_getElem?_getD]
 cases hi : ks[i]? with
 | none => simp [J7, D1, E8]
 | some t =>
  have := A6v (List.mem_of_getElem? hi)
  simp only [Option.getD_some]; omega
def GT.ty : GT → Ty
 | .any => .mk 1 []
 | .int => .mk 2 []
 | .bool => .mk 3 []
 | .fn a b => .mk 4 [a.ty, b.ty]
 | .pr a b => .mk 5 [a.ty, b.ty]
def GE.tm : GE → Tm
 | .var x => .mk 1 x 0 B3 B3 0 []
 | .num n => .mk 2 ⟨#[]⟩ n B3 B3 0 []
 | .tru b => .mk (if b = true then 3 else 4) ⟨#[]⟩ 0 B3 B3 0 []
 | .lam x A e => .mk 5 x 0 A.ty B3 0 [e.tm]
 | .app f a => .mk 6 ⟨#[]⟩ 0 B3 B3 0 [f.tm, a.tm]
 | .ar s a b => .mk (if s = true then 8 else 7) ⟨#[]⟩ 0 B3 B3 0 [a.tm, b.tm]
 | .ite c a b => .mk 9 ⟨#[]⟩ 0 B3 B3 0 [c.tm, a.tm, b.tm]
 | .pair a b => .mk 10 ⟨#[]⟩ 0 B3 B3 0 [a.tm, b.tm]
 | .part s e => .mk (if s = true then 12 else 11) ⟨#[]⟩ 0 B3 B3 0 [e.tm]
 | .cast A B l e => .mk 14 ⟨#[]⟩ 0 B.ty A.ty l [e.tm]
theorem GT.inj : ∀ {a b : GT}, a.ty = b.ty → a = b := by
 intro a
 induction a with
 | any => intro b h; cases b <;> first | rfl | (simp [GT.ty] at h)
 | int => intro b h; cases b <;> first | rfl | (simp [GT.ty] at h)
 | bool => intro b h; cases b <;> first | rfl | (simp [GT.ty] at h)
 | fn a1 a2 i j =>
  intro b h
  cases b with
  | fn b1 b2 => simp only [GT.ty, Ty.mk.injEq, List.cons.injEq, true_and, and_true] at h; rw [i h.1, j h.2]
  | _ => simp [GT.ty] at h
 | pr a1 a2 i j =>
  intro b h
  cases b with
  | pr b1 b2 => simp only [GT.ty, Ty.mk.injEq, List.cons.injEq, true_and, and_true] at h; rw [i h.1, j h.2]
  | _ => simp [GT.ty] at h
theorem A99 (a : GT) : T8 a.ty = a.gr.ty := by cases a <;> rfl
theorem A0c {a : GT} : a.ty.k = 1 ↔ a = .any := by cases a <;> simp [GT.ty, Ty.k]
theorem A3I {a : GT} : R9 a.ty = true ↔ a.Gd := by
 unfold R9 GT.Gd
 rw [Bool.and_eq_true, decide_eq_true_eq, Z2, A99, Ne, A0c]
 constructor
 ·rintro ⟨h1, h2⟩; exact ⟨h1, (GT.inj h2).symm⟩
 ·rintro ⟨h1, h2⟩; exact ⟨h1, by rw [h2]⟩
theorem B42 {a : GT} (h : ¬a.Gd) : R9 a.ty = false := by
 cases h2 : R9 a.ty with
 | false => rfl
 | true => exact absurd (A3I.1 h2) h
theorem X7 : ∀ e : GE, E4 e.tm = true ↔ GV e := by
 intro e
 induction e with
 | var x => rw [GE.tm, E4]; simp; intro h; cases h
 | num n => rw [GE.tm, E4]; simp; exact .num
 | tru b => rw [GE.tm, E4]; cases b <;> (simp; exact .tru)
 | lam x A e _ => rw [GE.tm, E4]; simp; exact .lam
 | app f a _ _ => rw [GE.tm, E4]; simp; intro h; cases h
 | ar s a b _ _ => rw [GE.tm, E4]; cases s <;> (simp; intro h; cases h)
 | ite c a b _ _ _ => rw [GE.tm, E4]; simp; intro h; cases h
 | pair a b i j =>
  rw [GE.tm, E4, if_pos (.inl rfl), A1r, A1r, A1r, Bool.and_true, Bool.and_eq_true, i, j]
  exact ⟨fun h => .pair h.1 h.2, fun h => by cases h with | pair a b => exact ⟨a, b⟩⟩
 | part s e _ => rw [GE.tm, E4]; cases s <;> (simp; intro h; cases h)
 | cast A B l e i =>
  rw [GE.tm, E4]
  by_cases hp : A.ty.k = B.ty.k ∧ (B.ty.k = 4 ∨ B.ty.k = 5)
  ·rw [if_pos (.inr (.inl ⟨rfl, hp⟩)), A1r, A1r, Bool.and_true, i]
   constructor
   ·intro h
    cases B <;> cases A <;> first | exact .pf h | exact .pp h | (exfalso; simp [GT.ty, Ty.k] at hp)
   ·intro h; exact h.ofCast
  ·by_cases hi : B.ty.k = 1 ∧ R9 A.ty = true
   ·rw [if_pos (.inr (.inr ⟨rfl, hi⟩)), A1r, A1r, Bool.and_true, i]
    constructor
    ·intro h
     obtain rfl := A0c.1 hi.1
     exact .inj h (A3I.1 hi.2)
    ·intro h; exact h.ofCast
   ·rw [if_neg (by rintro (h | h | h); exact absurd h (by decide); exact hp h.2; exact hi h.2)]
    constructor
    ·intro h; exact absurd (of_decide_eq_true h) (by decide)
    ·intro h
     exfalso
     cases h with
     | pf _ => exact hp ⟨rfl, .inl rfl⟩
     | pp _ => exact hp ⟨rfl, .inr rfl⟩
     | inj _ hg => exact hi ⟨rfl, A3I.2 hg⟩
theorem A5B {e : GE} (h : ¬GV e) : E4 e.tm = false := by
 cases h2 : E4 e.tm with
 | false => rfl
 | true => exact absurd ((X7 e).1 h2) h
theorem nv {e r : GE} (h : GS e r) : E4 e.tm = false := A5B fun hv => hv.noS _ h
theorem B43 (x : ByteArray) (v : GE) : ∀ e : GE, (e.sub x v).tm = S2 x v.tm e.tm := by
 intro e
 induction e with
 | var y =>
  rw [GE.sub, GE.tm, S2]
  by_cases h : y = x
  ·rw [if_pos h, if_pos ⟨rfl, h⟩]
  ·rw [if_neg h, if_neg (fun c => h c.2), if_neg (by rintro ⟨h, _⟩; exact absurd h (by decide)), GE.tm, R0]
 | num n => rw [GE.sub, GE.tm, S2]; simp [R0]
 | tru b => rw [GE.sub, GE.tm, S2]; cases b <;> simp [R0]
 | lam y A e i =>
  by_cases h : y = x
  ·rw [GE.sub, if_pos h, GE.tm, S2, if_neg (by rintro ⟨h, _⟩; exact absurd h (by decide)), if_pos ⟨rfl, h⟩]
  ·rw [GE.sub, if_neg h, GE.tm, GE.tm, S2, if_neg (by rintro ⟨h, _⟩; exact absurd h (by decide)), if_neg (fun c => h c.2), i, R0, R0]
 | app f a i j => rw [GE.sub, GE.tm, GE.tm, S2, i, j]; simp [R0]
 | ar s a b i j => rw [GE.sub, GE.tm, GE.tm, S2, i, j]; cases s <;> simp [R0]
 | ite c a b i j k => rw [GE.sub, GE.tm, GE.tm, S2, i, j, k]; simp [R0]
 | pair a b i j => rw [GE.sub, GE.tm, GE.tm, S2, i, j]; simp [R0]
 | part s e i => rw [GE.sub, GE.tm, GE.tm, S2, i]; cases s <;> simp [R0]
 | cast A B l e i => rw [GE.sub, GE.tm, GE.tm, S2, i]; simp [R0]
section
variable {k : Int} {nm : ByteArray} {num : Int} {ty fr : Ty} {lb : Int} {a b c : Tm} {t : Tm} {l : Int}
theorem A3J (h : E4 a = false) (ks : List Tm) (hn : k = 9 ∨ ks.length < 3) (r : Tm) (hs : F0 a = (r, 1, 0)) : F0 (.mk k nm num ty fr lb (a :: ks)) = (.mk k nm num ty fr lb (r :: ks), 1, 0) := by
 have : ∃ n, (if k = 9 then 1 else (a :: ks).length) = n + 1 := ⟨if k = 9 then 0 else ks.length, by split <;> simp⟩
 obtain ⟨n, hn⟩ := this
 rw [F0, hn, T9, if_neg (by rw [h]; decide), hs]
 simp
theorem B44 (h : E4 a = false) (ks : List Tm) (hs : (F0 a).2.1 = 2) : (F0 (.mk k nm num ty fr lb (a :: ks))).2.1 = 2 := by
 have : ∃ n, (if k = 9 then 1 else (a :: ks).length) = n + 1 := ⟨if k = 9 then 0 else ks.length, by split <;> simp⟩
 obtain ⟨n, hn⟩ := this
 rw [F0, hn, T9, if_neg (by rw [h]; decide), hs]
 simp
theorem A63 (h0 : E4 a = true) (h : E4 b = false) (hk : k ≠ 9) (r : Tm) (hs : F0 b = (r, 1, 0)) : F0 (.mk k nm num ty fr lb [a, b]) = (.mk k nm num ty fr lb [a, r], 1, 0) := by
 rw [F0, if_neg hk]
 simp only [List.length_cons, List.length_nil, T9, h0, h, if_true, hs]
 simp
theorem B45 (h0 : E4 a = true) (h : E4 b = false) (hk : k ≠ 9) (hs : (F0 b).2.1 = 2) : (F0 (.mk k nm num ty fr lb [a, b])).2.1 = 2 := by
 rw [F0, if_neg hk]
 simp only [List.length_cons, List.length_nil, T9, h0, h, if_true, hs]
 simp
theorem A25 (h : E4 a = true) : F0 (.mk k nm num ty fr lb [a]) = M7 k ty fr lb [a] := by
 rw [F0, show (if k = 9 then 1 else [a].length) = 1 by split <;> rfl, T9, h]
 simp [T9]
theorem A64 (h : E4 a = true) (h2 : E4 b = true) (hk : k ≠ 9) : F0 (.mk k nm num ty fr lb [a, b]) = M7 k ty fr lb [a, b] := by
 rw [F0, if_neg hk]
 simp [T9, h, h2]
theorem B46 (h : E4 a = true) : F0 (.mk 9 nm num ty fr lb [a, b, c]) = M7 9 ty fr lb [a, b, c] := by
 rw [F0, if_pos rfl]
 simp [T9, h]
end
theorem B47 {e r : GE} (h : GS e r) : F0 e.tm = (r.tm, 1, 0) := by
 induction h with
 | app1 s i => rw [GE.tm, A3J (nv s) _ (.inr (by simp)) _ i, GE.tm]
 | app2 v s i => rw [GE.tm, A63 ((X7 _).2 v) (nv s) (by decide) _ i, GE.tm]
 | ar1 s i => rw [GE.tm, A3J (nv s) _ (.inr (by simp)) _ i, GE.tm]
 | @ar2 t _ _ _ v s i => rw [GE.tm, A63 ((X7 _).2 v) (nv s) (by cases t <;> decide) _ i, GE.tm]
 | ite1 s i => rw [GE.tm, A3J (nv s) _ (.inl rfl) _ i, GE.tm]
 | pair1 s i => rw [GE.tm, A3J (nv s) _ (.inr (by simp)) _ i, GE.tm]
 | pair2 v s i => rw [GE.tm, A63 ((X7 _).2 v) (nv s) (by decide) _ i, GE.tm]
 | part1 s i => rw [GE.tm, A3J (nv s) _ (.inr (by simp)) _ i, GE.tm]
 | cast1 s i => rw [GE.tm, A3J (nv s) _ (.inr (by simp)) _ i, GE.tm]
 | beta v =>
  rw [GE.tm, A64 ((X7 _).2 .lam) ((X7 _).2 v) (by decide), B43]
  rfl
 | appx v w =>
  rw [GE.tm, A64 ((X7 _).2 (.pf v)) ((X7 _).2 w) (by decide)]
  rfl
 | @ar t m n =>
  rw [GE.tm, A64 ((X7 _).2 .num) ((X7 _).2 .num) (by cases t <;> decide)]
  cases t
  ·rfl
  ·unfold A5i
   simp only [if_true]
   show (Y6 (m < n), (1 : Int), (0 : Int)) = _
   unfold Y6
   by_cases h : m < n
   ·simp only [h, if_true, GE.tm, decide_true]; rfl
   ·simp only [h, if_false, GE.tm, decide_false]; rfl
 | @ite b x y =>
  rw [GE.tm, B46 ((X7 _).2 .tru)]
  cases b <;> rfl
 | @part t a b v w =>
  rw [GE.tm, A25 ((X7 _).2 (.pair v w))]
  cases t <;> rfl
 | @partx t a b c d l e v =>
  rw [GE.tm, A25 ((X7 _).2 (.pp v))]
  cases t <;> rfl
 | @cid A l v hv hA =>
  rw [GE.tm, A25 ((X7 _).2 hv)]
  rcases hA with rfl | rfl | rfl <;> rfl
 | @up A l v hv hA hg =>
  rw [GE.tm, A25 ((X7 _).2 hv)]
  cases A with
  | any => exact absurd rfl hA
  | int => exact absurd rfl hg
  | bool => exact absurd rfl hg
  | _ => rfl
 | @down B l v hv hB hg =>
  rw [GE.tm, A25 ((X7 _).2 hv)]
  have hg' := B42 (a := B) fun h => hg h.2
  unfold M7
  rw [if_neg (by decide), if_neg (by decide), if_neg (by decide), if_neg (by decide), if_pos rfl, if_neg, if_neg, if_pos hg', A99]
  ·rfl
  ·rw [A0c]; exact hB
  ·intro h; exact hB (A0c.1 h.symm)
 | @hit G l m w hv hG =>
  rw [GE.tm, A25 ((X7 _).2 (.inj hv hG))]
  have hg' := A3I.2 hG
  have hi : inj (GE.tm (.cast G .any m w)) = true := by
   rw [GE.tm]; unfold inj; rw [Bool.and_eq_true]; exact ⟨rfl, hg'⟩
  unfold M7
  rw [if_neg (by decide), if_neg (by decide), if_neg (by decide), if_neg (by decide), if_pos rfl, if_neg, if_neg, if_neg (by rw [hg']; decide), if_neg (by show ¬inj (GE.tm (.cast G .any m w)) = false; rw [hi]; decide), if_pos]
  ·rfl
  ·rfl
  ·rw [A0c]; exact hG.1
  ·intro h; exact hG.1 (A0c.1 h.symm)
def Bd (e : GE) : Prop := E4 e.tm = false ∧ (F0 e.tm).2.1 = 2
theorem B48 {Γ : GC} {v v' : GE} {U U' : GT} (h : GP Γ v v' U U') : Γ = Q0 → GV v → ∀ {A B}, U = .fn A B → (∃ x C e, v = .lam x C e) ∨ ∃ a b c d l e, v = .cast (.fn a b) (.fn c d) l e ∧ GV e := by
 induction h with
 | castR _ _ _ i => exact i
 | castL _ _ _ _ => intro _ hv A B hU; subst hU; cases hv with | pf h => exact .inr ⟨_, _, _, _, _, _, rfl, h⟩
 | castB _ _ _ _ _ => intro _ hv A B hU; subst hU; cases hv with | pf h => exact .inr ⟨_, _, _, _, _, _, rfl, h⟩
 | lam _ _ _ => intro _ _ _ _ _; exact .inl ⟨_, _, _, rfl⟩
 | app _ _ _ _ => intro _ hv; cases hv
 | ite _ _ _ _ _ _ => intro _ hv; cases hv
 | part _ _ => intro _ hv; cases hv
 | ar _ _ _ _ => intro _ hv; cases hv
 | var _ _ => intro _ hv; cases hv
 | _ => intro _ _ _ _ hU; cases hU
theorem B49 {Γ : GC} {v v' : GE} {U U' : GT} (h : GP Γ v v' U U') : Γ = Q0 → GV v → ∀ {A B}, U = .pr A B → (∃ a b, v = .pair a b ∧ GV a ∧ GV b) ∨ ∃ a b c d l e, v = .cast (.pr a b) (.pr c d) l e ∧ GV e := by
 induction h with
 | castR _ _ _ i => exact i
 | castL _ _ _ _ => intro _ hv A B hU; subst hU; cases hv with | pp h => exact .inr ⟨_, _, _, _, _, _, rfl, h⟩
 | castB _ _ _ _ _ => intro _ hv A B hU; subst hU; cases hv with | pp h => exact .inr ⟨_, _, _, _, _, _, rfl, h⟩
 | pair _ _ _ _ => intro _ hv _ _ _; cases hv with | pair a b => exact .inl ⟨_, _, rfl, a, b⟩
 | app _ _ _ _ => intro _ hv; cases hv
 | ite _ _ _ _ _ _ => intro _ hv; cases hv
 | part _ _ => intro _ hv; cases hv
 | ar _ _ _ _ => intro _ hv; cases hv
 | var _ _ => intro _ hv; cases hv
 | _ => intro _ _ _ _ hU; cases hU
theorem B0a {Γ : GC} {v v' : GE} {U U' : GT} (h : GP Γ v v' U U') : Γ = Q0 → GV v → U = .int → ∃ n, v = .num n := by
 induction h with
 | castR _ _ _ i => exact i
 | castL _ _ _ _ => intro _ hv hU; subst hU; cases hv
 | castB _ _ _ _ _ => intro _ hv hU; subst hU; cases hv
 | num => intro _ _ _; exact ⟨_, rfl⟩
 | app _ _ _ _ => intro _ hv; cases hv
 | ite _ _ _ _ _ _ => intro _ hv; cases hv
 | part _ _ => intro _ hv; cases hv
 | ar _ _ _ _ => intro _ hv; cases hv
 | var _ _ => intro _ hv; cases hv
 | _ => intro _ _ hU; cases hU
theorem B5a {Γ : GC} {v v' : GE} {U U' : GT} (h : GP Γ v v' U U') : Γ = Q0 → GV v → U = .bool → ∃ b, v = .tru b := by
 induction h with
 | castR _ _ _ i => exact i
 | castL _ _ _ _ => intro _ hv hU; subst hU; cases hv
 | castB _ _ _ _ _ => intro _ hv hU; subst hU; cases hv
 | tru => intro _ _ _; exact ⟨_, rfl⟩
 | app _ _ _ _ => intro _ hv; cases hv
 | ite _ _ _ _ _ _ => intro _ hv; cases hv
 | part _ _ => intro _ hv; cases hv
 | ar _ _ _ _ => intro _ hv; cases hv
 | var _ _ => intro _ hv; cases hv
 | _ => intro _ _ hU; cases hU
theorem B5b {Γ : GC} {v v' : GE} {U U' : GT} (h : GP Γ v v' U U') : Γ = Q0 → GV v → U = .any → ∃ H l w, v = .cast H .any l w ∧ GV w ∧ H.Gd := by
 induction h with
 | castR _ _ _ i => exact i
 | castL _ _ _ _ => intro _ hv hU; subst hU; cases hv with | inj h g => exact ⟨_, _, _, rfl, h, g⟩
 | castB _ _ _ _ _ => intro _ hv hU; subst hU; cases hv with | inj h g => exact ⟨_, _, _, rfl, h, g⟩
 | app _ _ _ _ => intro _ hv; cases hv
 | ite _ _ _ _ _ _ => intro _ hv; cases hv
 | part _ _ => intro _ hv; cases hv
 | ar _ _ _ _ => intro _ hv; cases hv
 | var _ _ => intro _ hv; cases hv
 | _ => intro _ _ hU; cases hU
theorem B0b {e e' : GE} {A B A' : GT} {l : Int} (h : GP Q0 e e' A A') (hc : Co A B) (hv : GV e) : GV (.cast A B l e) ∨ (∃ r, GS (.cast A B l e) r) ∨ Bd (.cast A B l e) := by
 by_cases hA : A = .any
 ·subst hA
  by_cases hB : B = .any
  ·subst hB; exact .inr (.inl ⟨_, .cid hv (.inl rfl)⟩)
  ·by_cases hg : B.gr = B
   ·obtain ⟨H, m, w, rfl, hw, hH⟩ := B5b h rfl hv rfl
    by_cases he : H = B
    ·subst he; exact .inr (.inl ⟨_, .hit hw hH⟩)
    ·refine .inr (.inr ⟨A5B (by intro h; cases h; exact hB rfl), ?_⟩)
     have hg' := A3I.2 (show B.Gd from ⟨hB, hg⟩)
     have hi : inj (GE.tm (.cast H .any m w)) = true := by
      rw [GE.tm]; unfold inj; rw [Bool.and_eq_true]; exact ⟨rfl, A3I.2 hH⟩
     rw [GE.tm, A25 ((X7 _).2 hv)]
     unfold M7
     rw [if_neg (by decide), if_neg (by decide), if_neg (by decide), if_neg (by decide), if_pos rfl, if_neg, if_neg, if_neg (by rw [hg']; decide), if_neg (by show ¬inj (GE.tm (.cast H .any m w)) = false; rw [hi]; decide), if_neg]
     ·show ¬H.ty.k = B.ty.k
      intro hk
      apply he
      rw [← hH.2, ← hg]
      cases H <;> cases B <;> first | rfl | (simp [GT.ty, Ty.k] at hk)
     ·rw [A0c]; exact hB
     ·intro h; exact hB (A0c.1 h.symm)
   ·exact .inr (.inl ⟨_, .down hv hB hg⟩)
 ·by_cases hB : B = .any
  ·subst hB
   by_cases hg : A.gr = A
   ·exact .inl (.inj hv ⟨hA, hg⟩)
   ·exact .inr (.inl ⟨_, .up hv hA hg⟩)
  ·cases hc with
   | l => exact absurd rfl hA
   | r => exact absurd rfl hB
   | int => exact .inr (.inl ⟨_, .cid hv (.inr (.inl rfl))⟩)
   | bool => exact .inr (.inl ⟨_, .cid hv (.inr (.inr rfl))⟩)
   | fn _ _ => exact .inl (.pf hv)
   | pr _ _ => exact .inl (.pp hv)
theorem A26 {a : GE} (h : Bd a) {e : GE} {k : Int} {nm : ByteArray} {num : Int} {ty fr : Ty} {lb : Int} {ks : List Tm} (he : e.tm = .mk k nm num ty fr lb (a.tm :: ks)) (hv : ¬GV e) : Bd e :=
 ⟨A5B hv, by rw [he]; exact B44 h.1 ks h.2⟩
theorem A65 {a b : GE} (ha : GV a) (h : Bd b) {e : GE} {k : Int} {nm : ByteArray} {num : Int} {ty fr : Ty} {lb : Int} (hk : k ≠ 9) (he : e.tm = .mk k nm num ty fr lb [a.tm, b.tm]) (hv : ¬GV e) : Bd e :=
 ⟨A5B hv, by rw [he]; exact B45 ((X7 _).2 ha) h.1 hk h.2⟩
theorem A5C {e : GE} (h : Bd e) : ¬GV e := fun hv => by have := (X7 e).2 hv; rw [h.1] at this; cases this
theorem B5c {Γ : GC} {e e' : GE} {A A' : GT} (h : GP Γ e e' A A') : Γ = Q0 → GV e ∨ (∃ r, GS e r) ∨ Bd e := by
 induction h with
 | var hx _ => intro hE; subst hE; cases hx
 | num => intro _; exact .inl .num
 | tru => intro _; exact .inl .tru
 | lam _ _ _ => intro _; exact .inl .lam
 | app hf ha i j =>
  intro hE
  refine .inr ?_
  rcases i hE with vf | ⟨r, s⟩ | b
  ·rcases j hE with va | ⟨r, s⟩ | b
   ·rcases B48 hf hE vf rfl with ⟨x, C, e, rfl⟩ | ⟨_, _, _, _, _, _, rfl, hw⟩
    ·exact .inl ⟨_, .beta va⟩
    ·exact .inl ⟨_, .appx hw va⟩
   ·exact .inl ⟨_, .app2 vf s⟩
   ·exact .inr (A65 vf b (k := 6) (by decide) rfl (by intro h; cases h))
  ·exact .inl ⟨_, .app1 s⟩
  ·exact .inr (A26 b (k := 6) rfl (by intro h; cases h))
 | @ar Γ t _ _ _ _ ha hb i j =>
  intro hE
  refine .inr ?_
  rcases i hE with va | ⟨r, s⟩ | b
  ·rcases j hE with vb | ⟨r, s⟩ | b
   ·obtain ⟨m, rfl⟩ := B0a ha hE va rfl
    obtain ⟨n, rfl⟩ := B0a hb hE vb rfl
    exact .inl ⟨_, .ar⟩
   ·exact .inl ⟨_, .ar2 va s⟩
   ·exact .inr (A65 va b (k := if t = true then 8 else 7) (by cases t <;> decide) rfl (by intro h; cases h))
  ·exact .inl ⟨_, .ar1 s⟩
  ·exact .inr (A26 b rfl (by intro h; cases h))
 | ite hc _ _ i _ _ =>
  intro hE
  refine .inr ?_
  rcases i hE with vc | ⟨r, s⟩ | b
  ·obtain ⟨m, rfl⟩ := B5a hc hE vc rfl
   exact .inl ⟨_, .ite⟩
  ·exact .inl ⟨_, .ite1 s⟩
  ·exact .inr (A26 b rfl (by intro h; cases h))
 | pair ha hb i j =>
  intro hE
  rcases i hE with va | ⟨r, s⟩ | b
  ·rcases j hE with vb | ⟨r, s⟩ | b
   ·exact .inl (.pair va vb)
   ·exact .inr (.inl ⟨_, .pair2 va s⟩)
   ·exact .inr (.inr (A65 va b (k := 10) (by decide) rfl (by intro h; cases h with | pair _ h => exact A5C b h)))
  ·exact .inr (.inl ⟨_, .pair1 s⟩)
  ·exact .inr (.inr (A26 b rfl (by intro h; cases h with | pair h _ => exact A5C b h)))
 | part h i =>
  intro hE
  refine .inr ?_
  rcases i hE with vc | ⟨r, s⟩ | b
  ·rcases B49 h hE vc rfl with ⟨_, _, rfl, ha, hb⟩ | ⟨_, _, _, _, _, _, rfl, hw⟩
   ·exact .inl ⟨_, .part ha hb⟩
   ·exact .inl ⟨_, .partx hw⟩
  ·exact .inl ⟨_, .part1 s⟩
  ·exact .inr (A26 b rfl (by intro h; cases h))
 | castL h hc _ i =>
  intro hE
  rcases i hE with hv | ⟨r, s⟩ | b
  ·subst hE; exact B0b h hc hv
  ·exact .inr (.inl ⟨_, .cast1 s⟩)
  ·exact .inr (.inr (A26 b rfl (fun h => A5C b h.ofCast)))
 | castR _ _ _ i => exact i
 | castB h hc _ _ i =>
  intro hE
  rcases i hE with hv | ⟨r, s⟩ | b
  ·subst hE; exact B0b h hc hv
  ·exact .inr (.inl ⟨_, .cast1 s⟩)
  ·exact .inr (.inr (A26 b rfl (fun h => A5C b h.ofCast)))
theorem B5d {e : Tm} (h : (H4 e).2.1 = 1) : M5 e = true ∧ E4 e = false ∧ (F0 e).2.1 = 1 ∧ (H4 e).1 = (F0 e).1 := by
 unfold H4 at h ⊢
 split at h
 ·cases h
 ·rename_i h1
  split at h
  ·cases h
  ·rename_i h2
   split at h
   ·rename_i h3; exact absurd h h3
   ·rename_i h3
    split at h
    ·cases h
    ·rename_i h4
     rw [if_neg h1, if_neg h2, if_neg h3, if_neg h4]
     refine ⟨by cases hv : M5 e with | true => rfl | false => exact absurd hv h1, by cases hv : E4 e with | false => rfl | true => exact absurd hv h2, ?_, rfl⟩
     apply Classical.byContradiction
     intro hc; exact h3 hc
theorem B5e {n : Nat} {e : Tm} (h : (H4 e).2.1 = 1) : K3 (n + 1) e = ((K3 n (H4 e).1).1, (K3 n (H4 e).1).2.1, (K3 n (H4 e).1).2.2.1, (K3 n (H4 e).1).2.2.2 + 1) := by rw [K3, if_pos h]
theorem B5f {t : Tm} (h : t.small) : t.nm.size ≤ 4294967296 ∧ t.ty.small ∧ t.fr.small ∧ t.ks.length ≤ 4294967296 ∧ Tm.smallL t.ks := by
 cases t; exact A0v.1 h
theorem B0c {ks : List Ty} (h : Ty.smallL ks) (i : Nat) : (kt ks i).small := by
 unfold kt
 rw [List.getD_eq_getElem?_getD]
 cases hi : ks[i]? with
 | none => exact A24
 | some t => exact Ty.smallL_mem h t (List.mem_of_getElem? hi)
theorem B0d {t : Ty} (h : t.small) : Ty.smallL t.ks := by cases t; simp only [Ty.small] at h; exact h.2
theorem A3K (t : Ty) : (T8 t).small := by
 unfold T8; split <;> simp [R4, Ty.small, Ty.smallL]
theorem A27 {e : Tm} {a b : Ty} {l : Int} (h : e.small) (ha : a.small) (hb : b.small) : (K5 e a b l).small := A0v.2 ⟨by decide, hb, ha, by simp, by simp [Tm.smallL, h]⟩
theorem A2r (e : Tm) (a b : Ty) (l : Int) : D1 (K5 e a b l) = D1 e + 1 := by rw [K5, Z4, E8, E8]
theorem A66 {k : Int} {ks : List Tm} (h : Tm.smallL ks) (hl : ks.length ≤ 4294967296) : (Y5 k ks).small := A0v.2 ⟨by decide, A24, A24, hl, h⟩
theorem A67 (k : Int) (ks : List Tm) : D1 (Y5 k ks) = E8 ks + 1 := by rw [Y5, Z4]
theorem B5g {a : Tm} (h : a.small) : Tm.smallL [a] := by simp [Tm.smallL, h]
theorem B5h {a b : Tm} (h : a.small) (h2 : b.small) : Tm.smallL [a, b] := by simp [Tm.smallL, h, h2]
theorem B0e : D1 J7 = 1 := by simp [J7, D1, E8]
theorem B5i (t : Tm) : D1 t = E8 t.ks + 1 := by cases t; rw [Z4]; rfl
theorem B5j {k : Int} {ty fr : Ty} {lb : Int} {ks : List Tm} (hk : Tm.smallL ks) (hc : E8 ks ≤ 199) (ht : ty.small) (hf : fr.small) : (M7 k ty fr lb ks).1.small ∧ D1 (M7 k ty fr lb ks).1 ≤ 40100 := by
 have a0 := A2q hk 0
 have a1 := A2q hk 1
 have a2 := A2q hk 2
 have n0 := A5A (ks := ks) 0
 have n1 := A5A (ks := ks) 1
 have n2 := A5A (ks := ks) 2
 obtain ⟨_, b2, b3, _, b5⟩ := B5f a0
 have e0 := B5i (kd ks 0)
 have m := fun i => A5A (ks := (kd ks 0).ks) i
 have st : Q7.1.small ∧ D1 Q7.1 ≤ 40100 := ⟨A4B, by simp [Q7, J7, D1, E8]⟩
 have hty := fun i => B0c (B0d b2) i
 have hfr := fun i => B0c (B0d b3) i
 unfold M7
 split
 ·split
  ·obtain ⟨s1, s2⟩ := A97 (x := (kd ks 0).nm) a1 (kd (kd ks 0).ks 0) (A2q b5 0)
   refine ⟨s1, Nat.le_trans s2 ?_⟩
   have : D1 (kd (kd ks 0).ks 0) * D1 (kd ks 1) ≤ 200 * 200 := Nat.mul_le_mul (by have := m 0; omega) (by omega)
   omega
  ·split
   ·refine ⟨A27 (A66 (B5h (A2q b5 0) (A27 a1 (hty 0) (hfr 0))) (by simp)) (hfr 1) (hty 1), ?_⟩
    have := m 0
    show D1 (K5 _ _ _ _) ≤ 40100
    rw [A2r, A67, E8, E8, E8, A2r]
    omega
   ·exact st
 ·split
  ·split
   ·split
    ·exact ⟨A0v.2 ⟨by decide, A24, A24, by simp, by simp [Tm.smallL]⟩, by simp [A2o, D1, E8]⟩
    ·exact ⟨A66 (by simp [Tm.smallL]) (by simp), by simp [Y6, A67, E8]⟩
   ·exact st
  ·split
   ·split
    ·exact ⟨a1, by show D1 (kd ks 1) ≤ _; omega⟩
    ·split
     ·exact ⟨a2, by show D1 (kd ks 2) ≤ _; omega⟩
     ·exact st
   ·split
    ·split
     ·exact ⟨A2q b5 _, by have := m (k - 11).toNat; show D1 (kd _ _) ≤ _; omega⟩
     ·split
      ·refine ⟨A27 (A66 (B5g (A2q b5 0)) (by simp)) (hfr _) (hty _), ?_⟩
       have := m 0
       show D1 (K5 _ _ _ _) ≤ 40100
       rw [A2r, A67, E8, E8]
       omega
      ·exact st
    ·split
     ·split
      ·exact ⟨a0, by show D1 (kd ks 0) ≤ _; omega⟩
      ·split
       ·refine ⟨A27 (A27 a0 hf (A3K fr)) (A3K fr) ht, ?_⟩
        show D1 (K5 _ _ _ _) ≤ 40100
        rw [A2r, A2r]; omega
       ·split
        ·refine ⟨A27 (A27 a0 hf (A3K ty)) (A3K ty) ht, ?_⟩
         show D1 (K5 _ _ _ _) ≤ 40100
         rw [A2r, A2r]; omega
        ·split
         ·exact st
         ·split
          ·exact ⟨A2q b5 0, by have := m 0; show D1 (kd _ _) ≤ _; omega⟩
          ·exact ⟨A4B, by simp [J7, D1, E8]⟩
     ·exact st
theorem B5k (ks : List Tm) (ih : ∀ t ∈ ks, t.small → D1 t ≤ 200 → (F0 t).1.small ∧ D1 (F0 t).1 ≤ D1 t + 40100) : ∀ (n : Nat), Tm.smallL ks → E8 ks ≤ 199 → ∀ us c l, T9 n ks = some (us, c, l) → Tm.smallL us ∧ us.length = ks.length ∧ E8 us ≤ E8 ks + 40100 := by
 induction ks with
 | nil => intro n _ _ us c l h; simp [T9] at h
 | cons t ts ihl =>
  intro n hs hc us c l h
  simp only [Tm.smallL] at hs
  simp only [E8] at hc ⊢
  cases n with
  | zero => simp [T9] at h
  | succ n =>
   rw [T9] at h
   split at h
   ·split at h
    ·rename_i us' c' l' hs'
     cases h
     obtain ⟨l1, l2, l3⟩ := ihl (fun u hu => ih u (List.mem_cons_of_mem _ hu)) n hs.2 (by omega) us' c l hs'
     exact ⟨by simp only [Tm.smallL]; exact ⟨hs.1, l1⟩, by simp [l2], by simp only [E8]; omega⟩
    ·cases h
   ·cases h
    obtain ⟨s1, s2⟩ := ih t List.mem_cons_self hs.1 (by omega)
    exact ⟨by simp only [Tm.smallL]; exact ⟨s1, hs.2⟩, by simp, by simp only [E8]; omega⟩
theorem B5l : ∀ (t : Tm), t.small → D1 t ≤ 200 → (F0 t).1.small ∧ D1 (F0 t).1 ≤ D1 t + 40100 := by
 refine Tm.ind fun k nm num ty fr lb ks ih h hc => ?_
 obtain ⟨h1, h2, h3, h4, h5⟩ := A0v.1 h
 rw [Z4] at hc
 have hL := B5k ks ih (if k = 9 then 1 else ks.length) h5 (by omega)
 rw [F0]
 split
 ·rename_i us c l hs
  obtain ⟨l1, l2, l3⟩ := hL us c l hs
  split
  ·refine ⟨A0v.2 ⟨h1, h2, h3, by omega, l1⟩, ?_⟩
   show D1 (.mk k nm num ty fr lb us) ≤ _
   rw [Z4, Z4]; omega
  ·exact ⟨A4B, by show D1 J7 ≤ _; rw [B0e]; omega⟩
 ·have := B5j (k := k) (lb := lb) h5 (by omega) h2 h3
  rw [Z4]
  exact ⟨this.1, by omega⟩
def A68 (u : Ty) (G : IM) : IM → Value → List A6 → Prop := K8 fun G' v => ∃ cells, v = .agg ⟨cells⟩ ∧ C3 G' u cells
def A2b (r : Option Ty) (G : IM) : IM → Value → List A6 → Prop := K8 fun G' v => ∃ cells u, v = .tuple ⟨[.agg ⟨cells⟩, .bool r.isSome]⟩ ∧ C3 G' u cells ∧ ∀ t, r = some t → u = t
theorem B5m {G : IM} {k : Int} {a b : Ty} {ca cb : List Value} {p : Option Addr} {c : Nat} (hk : H0 k) (ha : C3 G a ca) (hb : C3 G b cb) (hs : Sl G p 2 c 2 (ca ++ cb)) : C3 G (.mk k [a, b]) [.int .i64 k, .slice p 2 c] := by
 have hL : D5 G [a, b] [ca, cb] := by simp only [D5]; exact ⟨ca, [cb], rfl, ha, cb, [], rfl, hb, rfl⟩
 exact D5.ty (ts := [a, b]) (es := [ca, cb]) hL rfl (by simpa using hs) hk
theorem B0f {Q : Prop} (h : Q := by exact ⟨rfl, by rw [A3B, hA]; first | (rw [decide_eq_true (p := k = k') (by omega)]; rfl) | (rw [decide_eq_false (p := k = k') (by omega)]; rfl), rfl⟩) : Q := h
theorem A69 : ∀ (t t' : Ty) (G : IM) (cells cells' : List Value), C3 G t cells → C3 G t' cells' → Fn Tryz.prog 156 [.agg ⟨cells⟩, .agg ⟨cells'⟩] [] G (J0 (.bool (N3 t t')) G) := by
 refine Ty.ind fun k ks ih t' G cells cells' hr hr' => ?_
 obtain ⟨k', ks'⟩ := t'
 obtain ⟨p, c, es, rfl, hk, hsl, hkl⟩ := hr.open
 obtain ⟨p', c', es', rfl, hk', hsl', hkl'⟩ := hr'.open
 simp only [Ty.k, Ty.ks] at hk hsl hkl hk' hsl' hkl' ⊢
 obtain ⟨A, hA⟩ : ∃ A, A0k ks ks' = A := ⟨_, rfl⟩
 have hA' : A = true ↔ ks.length = ks'.length ∧ ∀ i, i < ks.length → N3 (ks.getD i B3) (ks'.getD i B3) = true := by
  rw [← hA, A4q]
  constructor
  ·rintro ⟨h1, h2⟩
   refine ⟨h1, fun i hi => ?_⟩
   have := h2 i hi (by omega)
   simpa [List.getD_eq_getElem?_getD, List.getElem?_eq_getElem hi, List.getElem?_eq_getElem (show i < ks'.length by omega)] using this
  ·rintro ⟨h1, h2⟩
   refine ⟨h1, fun i hi hi' => ?_⟩
   have := h2 i hi
   simpa [List.getD_eq_getElem?_getD, List.getElem?_eq_getElem hi, List.getElem?_eq_getElem hi'] using this
 refine C6 Tryz.func156 rfl Tryz.ntmps156 Tryz.results156 rfl ?_
 intro w0
 refine A4 ?_
 refine sE (C9 rfl rfl) rfl (fun b3 => ?_)
 refine sE (C9 rfl rfl) rfl (fun b4 => ?_)
 refine E1 ?_
 refine sB (qE rfl rfl) rfl rfl (fun h14 => ?_) (fun h14 => ?_)
 refine B0 ?_
 refine H6 rfl (A86 _ _ _ _ _ _ _ _ _ hsl hsl' _ [] [] [] (fun i => N3 (ks.getD i B3) (ks'.getD i B3)) A hA' (fun i e e' he he' => ih _ (hkl.inv he B3).1 _ _ _ _ (hkl.inv he B3).2 (hkl'.inv he' B3).2)) rfl rfl ?_
 refine A8 ?_
 exact B0f
 refine N4 ?_
 exact B0f
theorem A2s (k : Int) (a b : Ty) (G : IM) (ca cb : List Value) (hk : H0 k) (hra : C3 G a ca) (hrb : C3 G b cb) :
  Fn Tryz.prog 152 [.int .i64 k, .agg ⟨ca⟩, .agg ⟨cb⟩] [] G (A68 (.mk k [a, b]) G) := by
 obtain ⟨pa, cca, ea, rfl, _⟩ := hra.open
 obtain ⟨pb, ccb, eb, rfl, _⟩ := hrb.open
 refine C6 Tryz.func152 rfl Tryz.ntmps152 Tryz.results152 rfl ?_
 intro w0
 refine A4 ?_
 refine sE (C9 rfl rfl) rfl (fun b3 => ?_)
 refine sE (C9 rfl rfl) rfl (fun b4 => ?_)
 refine sE (A9 rfl) rfl (fun b5 => ?_)
 refine B7 ?_
 (refine I3 (D0 rfl rfl rfl (by omega) (by unfold maxLen; omega) rfl) rfl ?_; rintro _ ⟨b13, rfl⟩)
 refine B4 ?_
 (refine H2 (by repeat (first | exact Pk.here | apply Pk.there)) (fun G5 hle5 hsl5 hno5 => ?_))
 refine tT ?_
 refine N9 (rC rfl (A5 rfl rfl)) ?_
 exact ⟨rfl, _, rfl, B5m hk (hra.mono hle5) (hrb.mono hle5) hsl5⟩
theorem A1s (k tk : Int) (ks : List Ty) : S1 k (.mk tk ks) = if tk = k then some (ks.getD 0 B3, ks.getD 1 B3) else if tk = 1 then some (R4, R4) else none := rfl
def B0g (k : Int) (t : Ty) (G : IM) : IM → Value → List A6 → Prop := K8 fun G' v => ∃ a ca b cb, v = .tuple ⟨[.agg ⟨ca⟩, .agg ⟨cb⟩, .bool (S1 k t).isSome]⟩ ∧ C3 G' a ca ∧ C3 G' b cb ∧ F9 a ∧ F9 b ∧ ∀ p, S1 k t = some p → p = (a, b)
theorem B0h (k : Int) (t : Ty) (G : IM) (cells : List Value) (hk : k = 4 ∨ k = 5) (ha : F9 t) (hr : C3 G t cells) :
  Fn Tryz.prog 153 [.agg ⟨cells⟩, .int .i64 k] [] G (B0g k t G) := by
 obtain ⟨tk, ks⟩ := t
 have ha2 := ha
 rw [F9] at ha2
 have hkid := ha.kid
 obtain ⟨p, c, es, rfl, htk, hsl, hkl⟩ := hr.open
 simp only [Ty.k, Ty.ks] at htk hsl hkl ⊢
 refine C6 Tryz.func153 rfl Tryz.ntmps153 Tryz.results153 rfl ?_
 intro w0
 refine A4 ?_
 refine sE (C9 rfl rfl) rfl (fun b3 => ?_)
 refine sE (A9 rfl) rfl (fun b4 => ?_)
 refine sE (A9 rfl) rfl (fun b5 => ?_)
 refine J2 ?_
 refine C5 (tS (tR (sQ (qM rfl) rfl (sB (qE rfl rfl) rfl rfl (fun h20 => ?_) (fun h20 => ?_)))))
 refine B0 ?_
 (have hlen : ks.length = 2 := ha2.1 (by omega); obtain ⟨b, o, q0, d0, hp0, hat0, hre0, hg0⟩ := hsl.kidTy hkl (i := 0) (by omega) (by omega); obtain ⟨b', o', q1, d1, hp1, hat1, hre1, hg1⟩ := hsl.kidTy hkl (i := 1) (by omega) (by omega); subst hp0; cases hp1; refine D7 D8 rfl ?_)
 refine I6 (i := 0) (l' := [tt,ff,ff,ff,ff,ff,ff,ff,ff,ff,ff]) rfl D2 (B8 rfl) rfl (by kernel_rfl) rfl rfl ?_
 refine aL 1 rfl (C7 rfl rfl) rfl ?_
 refine aP 2 rfl (B5 (j := 0) rfl rfl rfl (by omega)) rfl ?_
 refine aL 3 rfl (A3 rfl rfl (hat0 _) rfl) rfl ?_
 refine aP 4 rfl (B8 rfl) rfl ?_
 refine aL 5 rfl (C7 rfl rfl) rfl ?_
 refine aP 6 rfl (B5 (j := 1) rfl rfl rfl (by omega)) rfl ?_
 refine aL 7 rfl (A3 rfl rfl (hat1 _) rfl) rfl ?_
 refine A2 8 ?_
 refine H8 rfl ?_
 refine A2 9 ?_
 refine H8 rfl ?_
 refine aP 10 rfl (qA rfl) rfl ?_
 refine B0 ?_
 refine D3 (rC rfl (A5 rfl rfl)) (rC rfl (A5 rfl rfl)) (rT rfl) ?_
 (refine ⟨rfl, _, _, _, _, ?_, hre0, hre1, hkid _ (List.getElem_mem (by omega)), hkid _ (List.getElem_mem (by omega)), ?_⟩ <;> rw [A1s, if_pos (by omega)] <;> first | rfl | (intro p hp; cases hp; simp [hlen]))
 refine A8 ?_
 refine sB (qE rfl rfl) rfl rfl (fun h53 => ?_) (fun h53 => ?_)
 refine A8 ?_
 refine H6 rfl ((A10 _ _)) rfl rfl ?_
 refine H6 rfl ((A10 _ _)) rfl rfl ?_
 refine D4 ?_
 refine D3 (rC rfl (A5 rfl rfl)) (rC rfl (A5 rfl rfl)) (rT rfl) ?_
 (refine ⟨rfl, _, _, _, _, ?_, A0Q _, A0Q _, A4o, A4o, ?_⟩ <;> rw [A1s, if_neg (by omega), if_pos (by omega)] <;> first | rfl | (intro p hp; cases hp; rfl))
 refine S4 ?_
 refine D3 (rC rfl (A5 rfl rfl)) (rC rfl (A5 rfl rfl)) (rT rfl) ?_
 (refine ⟨rfl, B3, _, B3, _, ?_, P1 _ ⟨by omega, by omega⟩, P1 _ ⟨by omega, by omega⟩, X6 (by omega) (by omega), X6 (by omega) (by omega), ?_⟩ <;> rw [A1s, if_neg (by omega), if_neg (by omega)] <;> first | rfl | (intro p hp; cases hp))
def A3L (G : IM) (b : ByteArray × Ty) (e : List Value) : Prop := ∃ q d, e = [.string b.1, .int .i64 b.2.k, .slice q b.2.ks.length d] ∧ C3 G b.2 [.int .i64 b.2.k, .slice q b.2.ks.length d]
theorem A3L.mono {G G' : IM} {b : ByteArray × Ty} {e : List Value} (h : A3L G b e) (hg : C4 G G') : A3L G' b e := by
 obtain ⟨q, d, h1, h2⟩ := h
 exact ⟨q, d, h1, h2.mono hg⟩
def U4 (G : IM) (cx : Cx) (p : Option Addr) (n c : Nat) : Prop := n = cx.length ∧ ∃ es : List (List Value), E3 G p n c 3 es ∧ ∀ (i : Nat) (b : ByteArray × Ty), cx[i]? = some b → ∃ e, es[i]? = some e ∧ A3L G b e
theorem U4.mono {G G' : IM} {cx : Cx} {p : Option Addr} {n c : Nat} (h : U4 G cx p n c) (hg : C4 G G') : U4 G' cx p n c := by
 obtain ⟨h1, es, h2, h3⟩ := h
 refine ⟨h1, es, h2.mono hg, fun i b hb => ?_⟩
 obtain ⟨e, he, hr⟩ := h3 i b hb
 exact ⟨e, he, hr.mono hg⟩
theorem U4.nil (G : IM) : U4 G [] none 0 0 := ⟨rfl, [], E3.nil _ _, by simp⟩
theorem U4.le {G : IM} {cx : Cx} {p : Option Addr} {n c : Nat} (h : U4 G cx p n c) : n ≤ 9223372036854775807 := by
 obtain ⟨h1, es, h2, h3⟩ := h
 exact h2.le
theorem U4.get {G : IM} {cx : Cx} {p : Option Addr} {n c : Nat} (h : U4 G cx p n c) {i : Nat} (hi : i < n) :
  ∃ b o nm t q d, cx[i]? = some (nm, t) ∧ p = some ⟨b, o, none⟩ ∧ (∀ hp, At hp G b (o + i * 3) [.string nm, .int .i64 t.k, .slice q t.ks.length d]) ∧ C3 G t [.int .i64 t.k, .slice q t.ks.length d] ∧ G b ≠ none := by
 obtain ⟨h1, es, h2, h3⟩ := h
 obtain ⟨e, b, o, he, rfl, hl, _, hat, hgb⟩ := h2.get (i := i) (by omega)
 have hx : cx[i]? = some cx[i] := List.getElem?_eq_getElem (by omega)
 obtain ⟨e', he', q, d, h4, h5⟩ := h3 i _ hx
 rw [he] at he'
 obtain rfl := Option.some.inj he'
 rw [h4] at hat
 exact ⟨b, o, cx[i].1, cx[i].2, q, d, hx, rfl, hat, h5, hgb⟩
theorem B5n (G : IM) (cx : Cx) (p : Option Addr) (n c : Nat) (nm : ByteArray) (hx : U4 G cx p n c) :
  Fn Tryz.prog 151 [.slice p n c, .string nm] [] G (A2b (Q1 cx nm) G) := by
 have hn := hx.le
 have hn1 := hx.1
 refine C6 Tryz.func151 rfl Tryz.ntmps151 Tryz.results151 rfl ?_
 intro w0
 refine A4 ?_
 refine sE (A9 rfl) rfl (fun b3 => ?_)
 refine D4 ?_
 refine sP (P4 rfl rfl (by omega) (by omega)) rfl rfl ?_
 refine B9 ?_
 refine C5 ?_
 (refine K2 (fun (i : Nat) => ⟨[(6, .int .i64 ((i : Int) - 1)), (0, .slice p n c), (1, .string nm), (4, .pointer (some ⟨b3, 0, none⟩))], [.blk b3 [.int .i64 0, .slice none 0 0]], G⟩) (fun i => i ≤ n ∧ W7 cx nm i = Q1 cx nm) (fun i => i) n ?_ ?_ ?_)
 exact D6
 exact ⟨Nat.le_refl _, by rw [hn1]; rfl⟩
 (rintro i ⟨hi, hlk⟩)
 refine B4 ?_
 refine sB (A0X rfl rfl) rfl rfl (fun h25 => ?_) (fun h25 => ?_)
 refine A8 ?_
 (show J3 _ _ (.block 1 _) _ _; obtain ⟨j, rfl⟩ : ∃ j, i = j + 1 := ⟨i - 1, by omega⟩; rw [show ((j + 1 : Nat) : Int) - 1 = (j : Int) from by omega]; obtain ⟨b, o, nm1, t1, q1, d1, hcx, rfl, hat, hr1, hgb⟩ := hx.get (i := j) (by omega); refine C5 ?_)
 refine B4 ?_
 refine sP (B5 rfl rfl rfl (by omega)) rfl rfl ?_
 refine F8 ?_
 refine sL (W4 rfl rfl ((hat _).sub (j := 0) rfl)) rfl rfl ?_
 refine F8 ?_
 refine sB (A1T rfl rfl) rfl rfl (fun h41 => ?_) (fun h41 => ?_)
 refine B7 ?_
 refine sP (B5 rfl rfl rfl (by omega)) rfl rfl ?_
 refine F8 ?_
 refine sL (A3 rfl rfl (hat _).drop rfl) rfl rfl ?_
 refine J2 ?_
 refine H5 (rC rfl (A5 rfl rfl)) (rT rfl) ?_
 (rw [A4r hcx (by assumption)] at hlk; rw [← hlk]; exact ⟨rfl, _, _, rfl, hr1, fun t ht => by cases ht; rfl⟩)
 refine D4 ?_
 refine sP (P4 rfl rfl (by omega) (by omega)) rfl rfl ?_
 refine A4 ?_
 refine I5 j ?_ ?_ ?_
 exact D6
 (rw [A4s hcx (by assumption)] at hlk; exact ⟨by omega, hlk⟩)
 (show _ < _ + 1; omega)
 refine K0 ?_
 refine H5 (rC rfl (A5 rfl rfl)) (rT rfl) ?_
 (obtain rfl : i = 0 := (by omega); rw [W7] at hlk; rw [← hlk]; exact ⟨rfl, _, B3, rfl, P1 _ ⟨by omega, by omega⟩, fun t ht => by cases ht⟩)
theorem B5o {xs ys : List Ty} (h : xs.length = 2) (h' : ys.length = 2) : T7 xs ys = [V6 (xs[0]'(by omega)) (ys[0]'(by omega)), V6 (xs[1]'(by omega)) (ys[1]'(by omega))] := by
 match xs, ys, h, h' with
 | [a, b], [c, d], _, _ => rfl
theorem B5p {k k' : Int} {ks bs : List Ty} (h : K6 (.mk k ks) (.mk k' bs) = true) (hk : k ≠ 1) (hk' : k' ≠ 1) : k = k' ∧ O0 ks bs = true := by
 rw [V3] at h
 simpa [hk, hk'] using h
theorem B0i : ∀ (a b : Ty) (G : IM) (ca cb : List Value), K6 a b = true → F9 a → F9 b → C3 G a ca → C3 G b cb →
  Fn Tryz.prog 155 [.agg ⟨ca⟩, .agg ⟨cb⟩] [] G (A68 (V6 a b) G) := by
 refine Ty.ind fun k ks ih b G ca cb hc haa hab hra hrb => ?_
 have hsa := haa.small
 have hsb := hab.small
 obtain ⟨bk, bks⟩ := b
 have hra0 := hra
 have hrb0 := hrb
 have ha2 := haa
 have hb2 := hab
 rw [F9] at ha2 hb2
 have hkida := haa.kid
 have hkidb := hab.kid
 obtain ⟨p, c, es, rfl, hk, hsl, hkl⟩ := hra.open
 obtain ⟨p', c', es', rfl, hk', hsl', hkl'⟩ := hrb.open
 simp only [Ty.k, Ty.ks] at hk hsl hkl hk' hsl' hkl' ⊢
 have hn := hsl.le
 rw [A1n]
 refine C6 Tryz.func155 rfl Tryz.ntmps155 Tryz.results155 rfl ?_
 intro w0
 refine A4 ?_
 refine sE (C9 rfl rfl) rfl (fun b3 => ?_)
 refine sE (C9 rfl rfl) rfl (fun b4 => ?_)
 refine sE (A9 rfl) rfl (fun b5 => ?_)
 refine B9 ?_
 refine C5 ?_
 refine B4 ?_
 refine sB (qE rfl rfl) rfl rfl (fun h14 => ?_) (fun h14 => ?_)
 refine B7 ?_
 (refine E6 rfl (A3C _ _ _ hsb hrb0) rfl rfl (fun v G1 hle1 hh => ?_); obtain ⟨cs1, F1, rfl, hs1, hn1⟩ := hh; obtain ⟨p1, c1, rfl, _⟩ := hs1.open; have hr1 := hs1.R.mono (C2.le G1 _))
 refine A8 ?_
 refine N9 (rC rfl (A5 rfl rfl)) ?_
 (rw [if_pos (by omega)]; exact ⟨rfl, _, rfl, hr1⟩)
 refine D4 ?_
 refine sB (qE rfl rfl) rfl rfl (fun h39 => ?_) (fun h39 => ?_)
 refine K4 ?_
 (refine E6 rfl (A3C _ _ _ hsa hra0) rfl rfl (fun v G1 hle1 hh => ?_); obtain ⟨cs1, F1, rfl, hs1, hn1⟩ := hh; obtain ⟨p1, c1, rfl, _⟩ := hs1.open; have hr1 := hs1.R.mono (C2.le G1 _))
 refine A8 ?_
 refine N9 (rC rfl (A5 rfl rfl)) ?_
 (rw [if_neg (by omega)]; split <;> first | exact ⟨rfl, _, rfl, hr1⟩ | (obtain rfl : ks = [] := List.length_eq_zero_iff.1 (by omega); rw [T7]; exact ⟨rfl, _, rfl, hr1⟩; simp))
 refine B4 ?_
 refine sB (qE rfl rfl) rfl rfl (fun h66 => ?_) (fun h66 => ?_)
 refine D4 ?_
 (refine E6 rfl (A3C _ _ _ hsa hra0) rfl rfl (fun v G1 hle1 hh => ?_); obtain ⟨cs1, F1, rfl, hs1, hn1⟩ := hh; obtain ⟨p1, c1, rfl, _⟩ := hs1.open; have hr1 := hs1.R.mono (C2.le G1 _))
 refine A8 ?_
 refine N9 (rC rfl (A5 rfl rfl)) ?_
 (rw [if_neg (by omega)]; split <;> first | exact ⟨rfl, _, rfl, hr1⟩ | (obtain rfl : ks = [] := List.length_eq_zero_iff.1 (by omega); rw [T7]; exact ⟨rfl, _, rfl, hr1⟩; simp))
 refine E1 ?_
 (obtain ⟨hkk, hcl0⟩ := B5p hc (by omega) (by omega); subst hkk; have hcl := (A2S _ _).1 hcl0; have hlen : ks.length = 2 := (by have := ha2.2.1; have := ha2.1; omega); have hlen' : bks.length = 2 := (by omega); obtain ⟨b0, o0, q0, d0, hp0, hat0, hre0, hg0⟩ := hsl.kidTy hkl (i := 0) (by omega) (by omega); obtain ⟨b1, o1, q1, d1, hp1, hat1, hre1, hg1⟩ := hsl.kidTy hkl (i := 1) (by omega) (by omega); subst hp0; cases hp1; obtain ⟨b2, o2, q2, d2, hp2, hat2, hre2, hg2⟩ := hsl'.kidTy hkl' (i := 0) (by omega) (by omega); obtain ⟨b3, o3, q3, d3, hp3, hat3, hre3, hg3⟩ := hsl'.kidTy hkl' (i := 1) (by omega) (by omega); subst hp2; cases hp3; have hM1 := ih ks[0] (List.getElem_mem (by omega)) bks[0] G _ _ (hcl.2 0 (by omega) (by omega)) (hkida _ (List.getElem_mem (by omega))) (hkidb _ (List.getElem_mem (by omega))) hre0 hre2; refine D7 D8 rfl ?_)
 refine I6 (i := 0) (l' := [tt,ff,ff,ff,ff,ff,ff,ff,ff,ff,ff,ff,ff,ff,ff,ff,ff,ff,ff,ff,ff,ff]) rfl D2 (B8 rfl) rfl (by kernel_rfl) rfl rfl ?_
 refine aL 1 rfl (C7 rfl rfl) rfl ?_
 refine aP 2 rfl (B8 rfl) rfl ?_
 refine aL 3 rfl (C7 rfl rfl) rfl ?_
 refine aP 4 rfl (B5 (j := 0) rfl rfl rfl (by omega)) rfl ?_
 refine aL 5 rfl (A3 rfl rfl (hat0 _) rfl) rfl ?_
 refine aP 6 rfl (B8 rfl) rfl ?_
 refine aL 7 rfl (C7 rfl rfl) rfl ?_
 refine aP 8 rfl (B5 (j := 0) rfl rfl rfl (by omega)) rfl ?_
 refine aL 9 rfl (A3 rfl rfl (hat2 _) rfl) rfl ?_
 refine aP 11 rfl (B8 rfl) rfl ?_
 refine aL 12 rfl (C7 rfl rfl) rfl ?_
 refine aP 13 rfl (B5 (j := 1) rfl rfl rfl (by omega)) rfl ?_
 refine aL 14 rfl (A3 rfl rfl (hat1 _) rfl) rfl ?_
 refine aP 15 rfl (B8 rfl) rfl ?_
 refine aL 16 rfl (C7 rfl rfl) rfl ?_
 refine aP 17 rfl (B5 (j := 1) rfl rfl rfl (by omega)) rfl ?_
 refine aL 18 rfl (A3 rfl rfl (hat3 _) rfl) rfl ?_
 refine A2 10 ?_
 (refine H3 rfl rfl hM1 rfl rfl rfl (fun v G1 hle1 hh => ?_); obtain ⟨cm1, rfl, hm1⟩ := hh; have hM2 := ih ks[1] (List.getElem_mem (by omega)) bks[1] G1 _ _ (hcl.2 1 (by omega) (by omega)) (hkida _ (List.getElem_mem (by omega))) (hkidb _ (List.getElem_mem (by omega))) (hre1.mono hle1) (hre3.mono hle1))
 refine A2 19 ?_
 (refine H3 rfl rfl hM2 rfl rfl rfl (fun v G2 hle2 hh => ?_); obtain ⟨cm2, rfl, hm2⟩ := hh; have hB := A2s k _ _ G2 _ _ hk (hm1.mono hle2) hm2)
 refine A2 20 ?_
 (refine H3 rfl rfl hB rfl rfl rfl (fun v G3 hle3 hh => ?_); obtain ⟨cm3, rfl, hm3⟩ := hh; obtain ⟨p5, c5, e5, rfl, _⟩ := hm3.open)
 refine A2 21 ?_
 refine H8 rfl ?_
 refine B9 ?_
 refine N9 (rC rfl (A5 rfl rfl)) ?_
 (rw [if_neg (by omega), if_neg (by omega)]; rw [B5o hlen hlen']; exact ⟨rfl, _, rfl, hm3⟩)
theorem B5q (G : IM) (p : Option Addr) (n c : Nat) (es : List (List Value)) (h : E3 G p n c 9 es) (h0 : 0 < n) (hn : n ≤ 4294967296) :
  Fn Tryz.prog 228 [.slice p n c] [] G (fun G' v outs => G' = G ∧ ∃ p' c', v = .slice p' n c' ∧ outs = [.slc p' c' 37 9 n es.flatten]) := by
 obtain ⟨hl, hc, hm, hat⟩ := h.sl
 obtain ⟨b, o, full, rfl, hg, hv⟩ := hat.resolve_left (by omega)
 have ho : ∀ u ∈ es.flatten, u.oneCell' = true := by
  intro u hu
  obtain ⟨e, he, hue⟩ := List.mem_flatten.1 hu
  exact List.all_eq_true.1 (h.one e he) u hue
 refine C6 Tryz.func228 rfl Tryz.ntmps228 Tryz.results228 rfl ?_
 intro w0
 refine E1 ?_
 refine sQ (A46 rfl rfl rfl) rfl ?_
 refine B7 ?_
 (refine I3 (D0 rfl rfl rfl (by omega) (by unfold maxLen; omega) rfl) rfl ?_; rintro _ ⟨b18, rfl⟩)
 refine F8 ?_
 refine A0Z rfl rfl rfl rfl rfl (fun _ _ => by repeat (first | exact Sw.here | apply Sw.there)) (A2K hg hv) hl ho (by unfold maxLen; omega) (by omega) rfl (fun pn cn => ?_)
 refine B4 ?_
 refine H7 (rT rfl) A1.refl ?_
 exact A6S
theorem At.mono' {hp : List A6} {G G' : IM} {b o : Nat} {vs : List Value} (hg : C4 G G') (h : At [] G b o vs) : At hp G' b o vs := by
 rcases h with ⟨cs, hm, hv⟩ | ⟨n, c, el, sz, cs, hm, hv⟩ | ⟨full, hx, hv⟩
 ·cases hm
 ·cases hm
 ·exact .inr (.inr ⟨full, hg _ _ hx, hv⟩)
theorem E3.kidD {G : IM} {p : Option Addr} {n c : Nat} {es : List (List Value)} {ks : List Ty} (h : E3 G p n c 2 es) (hk : D5 G ks es) {i : Nat} (hi : i < n) (hn : i < ks.length) :
  ∃ b o q d, p = some ⟨b, o, none⟩ ∧ (∀ hp, At hp G b (o + i * 2) [.int .i64 (ks.getD i B3).k, .slice q (ks.getD i B3).ks.length d]) ∧ C3 G (ks.getD i B3) [.int .i64 (ks.getD i B3).k, .slice q (ks.getD i B3).ks.length d] ∧ G b ≠ none := by
 obtain ⟨b, o, q, d, h1, h2, h3, h4⟩ := h.kidTy hk hi hn
 rw [List.getD_eq_getElem?_getD, List.getElem?_eq_getElem hn, Option.getD_some]
 exact ⟨b, o, q, d, h1, h2, h3, h4⟩
theorem A3M {hs : List Ty} (h : ∀ t ∈ hs, F9 t) {i : Nat} (hi : i < hs.length) : F9 (hs.getD i B3) := by
 rw [List.getD_eq_getElem?_getD, List.getElem?_eq_getElem hi, Option.getD_some]
 exact h _ (List.getElem_mem hi)
def M1 (r : Option (List Ty × Ty)) (G : IM) : IM → Value → List A6 → Prop := K8 fun G' v => ∃ p n c es w cu u, v = .tuple ⟨[.slice p n c, .agg ⟨cu⟩, .bool r.isSome]⟩ ∧ n = w.length ∧ E3 G' p n c 2 es ∧ D5 G' w es ∧ C3 G' u cu ∧ ∀ q, r = some q → q = (w, u)
theorem M1.mk {r : Option (List Ty × Ty)} {G G' : IM} {p : Option Addr} {n c : Nat} {es : List (List Value)} {w : List Ty} {cu : List Value} {u : Ty} {b : Bool} (hl : n = w.length) (hs : Sl G' p n c 2 es.flatten) (hw : D5 G' w es) (hu : C3 G' u cu) (h : r = if b = true then some (w, u) else none) :
  M1 r G G' (.tuple ⟨[.slice p n c, .agg ⟨cu⟩, .bool b]⟩) [] := by
 refine ⟨rfl, p, n, c, es, w, cu, u, ?_, hl, E3.of hs (by rw [hw.len, hl]) hw.all (fun e he => (hw.each e he).2), hw, hu, ?_⟩
 ·subst h; cases b <;> rfl
 ·subst h; cases b
  ·simp
  ·intro q hq; simpa using hq.symm
theorem M1.nil {r : Option (List Ty × Ty)} {G G' : IM} {cu : List Value} {u : Ty} {b : Bool} (hu : C3 G' u cu) (h : r = if b = true then some ([], u) else none) :
  M1 r G G' (.tuple ⟨[.slice none 0 0, .agg ⟨cu⟩, .bool b]⟩) [] := M1.mk (es := []) rfl (Sl.nil _ _) (by simp [D5]) hu h
theorem M1.one {r : Option (List Ty × Ty)} {G G' : IM} {p : Option Addr} {c : Nat} {a : Ty} {ca : List Value} {cu : List Value} {u : Ty} {b : Bool} (hs : Sl G' p 1 c 2 ca) (ha : C3 G' a ca) (hu : C3 G' u cu) (h : r = if b = true then some ([a], u) else none) :
  M1 r G G' (.tuple ⟨[.slice p 1 c, .agg ⟨cu⟩, .bool b]⟩) [] := M1.mk (es := [ca]) (w := [a]) rfl (by simpa using hs) ⟨_, _, rfl, ha, rfl⟩ hu h
theorem M1.two {r : Option (List Ty × Ty)} {G G' : IM} {p : Option Addr} {c : Nat} {a a2 : Ty} {ca ca2 : List Value} {cu : List Value} {u : Ty} {b : Bool} (hs : Sl G' p 2 c 2 (ca ++ ca2)) (ha : C3 G' a ca) (ha2 : C3 G' a2 ca2) (hu : C3 G' u cu) (h : r = if b = true then some ([a, a2], u) else none) :
  M1 r G G' (.tuple ⟨[.slice p 2 c, .agg ⟨cu⟩, .bool b]⟩) [] := M1.mk (es := [ca, ca2]) (w := [a, a2]) rfl (by simpa using hs) ⟨_, _, rfl, ha, _, _, rfl, ha2, rfl⟩ hu h
theorem M1.three {r : Option (List Ty × Ty)} {G G' : IM} {p : Option Addr} {c : Nat} {a a2 a3 : Ty} {ca ca2 ca3 : List Value} {cu : List Value} {u : Ty} {b : Bool} (hs : Sl G' p 3 c 2 (ca ++ (ca2 ++ ca3))) (ha : C3 G' a ca) (ha2 : C3 G' a2 ca2) (ha3 : C3 G' a3 ca3) (hu : C3 G' u cu) (h : r = if b = true then some ([a, a2, a3], u) else none) :
  M1 r G G' (.tuple ⟨[.slice p 3 c, .agg ⟨cu⟩, .bool b]⟩) [] := M1.mk (es := [ca, ca2, ca3]) (w := [a, a2, a3]) rfl (by simpa using hs) ⟨_, _, rfl, ha, _, _, rfl, ha2, _, _, rfl, ha3, rfl⟩ hu h
section
variable {cx : Cx} {nm : ByteArray} {ty : Ty} {h : List Ty}
theorem mW1 : J6 cx 1 nm ty h = match Q1 cx nm with | some t => some ([], t) | none => none := rfl
theorem mW2 : J6 cx 2 nm ty h = some ([], Q9) := rfl
theorem A4C {k : Int} (hk : k = 3 ∨ k = 4) : J6 cx k nm ty h = some ([], U9) := by rcases hk with rfl | rfl <;> rfl
theorem mW5 : J6 cx 5 nm ty h = some ([], .mk 4 [ty, h.getD 0 B3]) := rfl
theorem mW6 : J6 cx 6 nm ty h = match S1 4 (h.getD 0 B3) with | some (a, b) => if K6 (h.getD 1 B3) a = true then some ([.mk 4 [a, b], a], b) else none | none => none := rfl
theorem X3 {k : Int} (hk : k = 7 ∨ k = 8) : J6 cx k nm ty h = if K6 (h.getD 0 B3) Q9 = true ∧ K6 (h.getD 1 B3) Q9 = true then some ([Q9, Q9], if k = 8 then U9 else Q9) else none := by rcases hk with rfl | rfl <;> rfl
theorem mW9 : J6 cx 9 nm ty h = if K6 (h.getD 0 B3) U9 = true ∧ K6 (h.getD 1 B3) (h.getD 2 B3) = true then some ([U9, V6 (h.getD 1 B3) (h.getD 2 B3), V6 (h.getD 1 B3) (h.getD 2 B3)], V6 (h.getD 1 B3) (h.getD 2 B3)) else none := rfl
theorem A5D : J6 cx 10 nm ty h = some ([], .mk 5 [h.getD 0 B3, h.getD 1 B3]) := rfl
theorem A28 : J6 cx 13 nm ty h = if K6 (h.getD 0 B3) ty = true then some ([ty], ty) else none := rfl
theorem A3N {k : Int} (hk : k = 11 ∨ k = 12) : J6 cx k nm ty h = match S1 5 (h.getD 0 B3) with | some (a, b) => some ([.mk 5 [a, b]], if k = 12 then b else a) | none => none := by rcases hk with rfl | rfl <;> rfl
end
theorem K9 (G : IM) : C3 G Q9 [.int .i64 2, .slice none 0 0] := P1 G ⟨by omega, by omega⟩
theorem A0w (G : IM) : C3 G U9 [.int .i64 3, .slice none 0 0] := P1 G ⟨by omega, by omega⟩
theorem B0j {Q : Prop} (h : Q := by (have hk1 : k = 9 := (by omega); subst hk1; exact M1.three hsl5 (A0w _) (hrM.mono hle5) (hrM.mono hle5) (hrM.mono hle5) (by rw [mW9, if_pos ⟨by assumption, by assumption⟩]; rfl))) : Q := h
theorem B0k {Q : Prop} (h : Q := by (have hk1 : k = 9 := (by omega); subst hk1; exact M1.nil (u := B3) (P1 _ ⟨by omega, by omega⟩) (by rw [mW9, if_neg (fun hc => by first | exact Bool.noConfusion (hc.1.symm.trans (by assumption)) | exact Bool.noConfusion (hc.2.symm.trans (by assumption)) | exact Bool.noConfusion (hc.symm.trans (by assumption)))]; rfl))) : Q := h
theorem B5r (cx : Cx) (k : Int) (nm : ByteArray) (num : Int) (ty fr : Ty) (lb : Int) (ks : List Tm) (h : List Ty) (G : IM) (pc : Option Addr) (nc cc : Nat) (cells : List Value) (p : Option Addr) (n c : Nat) (es : List (List Value))
  (hx : U4 G cx pc nc cc) (hops : D9 k = n) (hnl : n = h.length) (hk14 : k ≠ 14) (hta : F9 ty) (hr : B1 G (.mk k nm num ty fr lb ks) cells) (hsl : E3 G p n c 2 es) (hkl : D5 G h es) (har : ∀ t ∈ h, F9 t) :
  Fn Tryz.prog 110 [.slice pc nc cc, .agg ⟨cells⟩, .slice p n c] [] G (M1 (J6 cx k nm ty h) G) := by
 have hone := hr.one
 have hop := A3G hops
 have hkr : 1 ≤ k ∧ k ≤ 14 := by
  apply Classical.byContradiction
  intro hc
  rw [A5c hc] at hops; omega
 obtain ⟨tyk, tyks⟩ := ty
 obtain ⟨fk, fks⟩ := fr
 obtain ⟨pt, ct, pf, cf, pk, ck, ek, rfl, hk, hnum, hlb, hrty, hrfr, _, _⟩ := hr.open9
 refine C6 Tryz.func110 rfl Tryz.ntmps110 Tryz.results110 rfl ?_
 intro w0
 refine A4 ?_
 refine sE (C9 rfl rfl) rfl (fun b3 => ?_)
 refine F8 ?_
 refine sE (A9 rfl) rfl (fun b5 => ?_)
 refine B0 ?_
 refine H6 rfl ((A10 _ _)) rfl rfl ?_
 refine H6 rfl ((A10 _ _)) rfl rfl ?_
 refine sE (A9 rfl) rfl (fun b13 => ?_)
 refine sE (A9 rfl) rfl (fun b14 => ?_)
 refine J8 ?_
 refine C5 (tS (tR (sB (qE rfl rfl) rfl rfl (fun h29 => ?_) (fun h29 => ?_))))
 refine E1 ?_
 (refine E6 rfl (B5n G cx pc nc cc nm hx) rfl rfl (fun v G1 hle1 hh => ?_); obtain ⟨cu, u, rfl, hru, hu⟩ := hh; obtain ⟨p1, c1, e1, rfl, _⟩ := hru.open)
 refine B9 ?_
 refine sE (A9 rfl) rfl (fun b43 => ?_)
 refine B0 ?_
 refine D7 D8 rfl ?_
 refine L3 (i := 0) (l' := [tt,ff,ff,ff,ff]) rfl D2 (A5 rfl rfl) rfl (by kernel_rfl) rfl rfl ?_
 refine aP 1 rfl (qM rfl) rfl ?_
 refine aP 2 rfl (qA rfl) rfl ?_
 refine A2 3 ?_
 refine H8 rfl ?_
 refine aP 4 rfl (qA rfl) rfl ?_
 refine B0 ?_
 refine D3 (rT rfl) (rC rfl (A5 rfl rfl)) (rT rfl) ?_
 (have hk1 : k = 1 := (by omega); subst hk1; rw [mW1]; refine M1.nil hru ?_; generalize Q1 cx nm = r at hu ⊢; cases r with | none => rfl | some t => (rw [hu t rfl]; rfl))
 refine A8 ?_
 refine sB (qE rfl rfl) rfl rfl (fun h69 => ?_) (fun h69 => ?_)
 refine B0 ?_
 refine D7 D8 rfl ?_
 refine L3 (i := 0) (l' := [tt,ff,ff,ff]) rfl D2 (A5 rfl rfl) rfl (by kernel_rfl) rfl rfl ?_
 refine aP 1 rfl (qA rfl) rfl ?_
 refine A2 2 ?_
 refine H8 rfl ?_
 refine aP 3 rfl (qA rfl) rfl ?_
 refine B0 ?_
 refine D3 (rT rfl) (rC rfl (A5 rfl rfl)) (rT rfl) ?_
 (have hk1 : k = 2 := (by omega); subst hk1; exact M1.nil (K9 _) mW2)
 refine B7 ?_
 refine sB (qE rfl rfl) rfl rfl (fun h95 => ?_) (fun h95 => ?_)
 refine D4 ?_
 refine D7 D8 rfl ?_
 refine L3 (i := 0) (l' := [tt,ff,ff,ff]) rfl D2 (A5 rfl rfl) rfl (by kernel_rfl) rfl rfl ?_
 refine aP 1 rfl (qA rfl) rfl ?_
 refine A2 2 ?_
 refine H8 rfl ?_
 refine aP 3 rfl (qA rfl) rfl ?_
 refine B0 ?_
 refine D3 (rT rfl) (rC rfl (A5 rfl rfl)) (rT rfl) ?_
 (exact M1.nil (A0w _) (by rw [A4C (by omega)]; rfl))
 refine B0 ?_
 refine sB (qE rfl rfl) rfl rfl (fun h122 => ?_) (fun h122 => ?_)
 refine B0 ?_
 refine D7 D8 rfl ?_
 refine L3 (i := 0) (l' := [tt,ff,ff,ff]) rfl D2 (A5 rfl rfl) rfl (by kernel_rfl) rfl rfl ?_
 refine aP 1 rfl (qA rfl) rfl ?_
 refine A2 2 ?_
 refine H8 rfl ?_
 refine aP 3 rfl (qA rfl) rfl ?_
 refine B0 ?_
 refine D3 (rT rfl) (rC rfl (A5 rfl rfl)) (rT rfl) ?_
 (exact M1.nil (A0w _) (by rw [A4C (by omega)]; rfl))
 refine A8 ?_
 refine sB (qE rfl rfl) rfl rfl (fun h147 => ?_) (fun h147 => ?_)
 refine B0 ?_
 (have hl1 : n = 1 := hop.2.2 (by omega); obtain ⟨b0, o0, q0, d0, hp0, hat0, hre0, hg0⟩ := hsl.kidD hkl (i := 0) (by omega) (by omega); cases hp0; refine D7 D8 rfl ?_)
 refine I6 (i := 0) (l' := [tt,ff,ff,ff,ff,ff,ff,ff,ff]) rfl D2 (B8 rfl) rfl (by kernel_rfl) rfl rfl ?_
 refine aL 1 rfl (A5 rfl rfl) rfl ?_
 refine aP 2 rfl (qM rfl) rfl ?_
 refine aP 3 rfl (B5 (j := 0) rfl rfl rfl (by omega)) rfl ?_
 refine aL 4 rfl (A3 rfl rfl (hat0 _) rfl) rfl ?_
 refine A2 5 ?_
 (refine H3 rfl rfl (A2s 4 _ _ _ _ _ ⟨by omega, by omega⟩ hrty hre0) rfl rfl rfl (fun v GB hleB hh => ?_); obtain ⟨cB, rfl, hrB⟩ := hh; obtain ⟨p7, c7, e7, rfl, _⟩ := hrB.open)
 refine aP 6 rfl (qA rfl) rfl ?_
 refine A2 7 ?_
 refine H8 rfl ?_
 refine aP 8 rfl (qA rfl) rfl ?_
 refine B0 ?_
 refine D3 (rT rfl) (rC rfl (A5 rfl rfl)) (rT rfl) ?_
 (have hk1 : k = 5 := (by omega); subst hk1; exact M1.nil hrB mW5)
 refine A8 ?_
 refine sB (qE rfl rfl) rfl rfl (fun h178 => ?_) (fun h178 => ?_)
 refine B7 ?_
 (have hl2 : n = 2 := hop.1 (by omega); obtain ⟨b0, o0, q0, d0, hp0, hat0, hre0, hg0⟩ := hsl.kidD hkl (i := 0) (by omega) (by omega); cases hp0; refine sP (B5 (j := 0) rfl rfl rfl (by omega)) rfl rfl ?_)
 refine sL (A3 rfl rfl (hat0 _) rfl) rfl rfl ?_
 (refine E6 rfl (B0h 4 (h.getD 0 B3) G _ (.inl rfl) (A3M har (by omega)) hre0) rfl rfl (fun v G1 hle1 hh => ?_); obtain ⟨ma, mca, mb, mcb, rfl, hma, hmb, hma2, hmb2, hmm⟩ := hh; obtain ⟨p1, c1, e1, rfl, _⟩ := hma.open; obtain ⟨p2, c2, e2, rfl, _⟩ := hmb.open; replace hsl := hsl.mono hle1; replace hkl := hkl.mono hle1; generalize hmi : (S1 4 (h.getD 0 B3)).isSome = mi; cases mi)
 refine B4 ?_
 refine sE (A9 rfl) rfl (fun b193 => ?_)
 refine sE (A9 rfl) rfl (fun b194 => ?_)
 refine A8 ?_
 (have hl2 : n = 2 := hop.1 (by omega); obtain ⟨b0, o0, q0, d0, hp0, hat0, hre0, hg0⟩ := hsl.kidD hkl (i := 0) (by omega) (by omega); obtain ⟨b1, o1, q1, d1, hp1, hat1, hre1, hg1⟩ := hsl.kidD hkl (i := 1) (by omega) (by omega); cases hp0; cases hp1; refine D7 D8 rfl ?_)
 refine L3 (i := 0) (l' := [tt,ff,ff,ff,ff,ff,ff,ff,ff,ff,ff,ff,ff,ff,ff,ff,ff]) rfl D2 (A5 rfl rfl) rfl (by kernel_rfl) rfl rfl ?_
 refine aL 1 rfl (A5 rfl rfl) rfl ?_
 refine aL 3 rfl (A5 rfl rfl) rfl ?_
 refine aL 5 rfl (A5 rfl rfl) rfl ?_
 refine aP 6 rfl (qM rfl) rfl ?_
 refine A2 2 ?_
 (refine H3 rfl rfl (A2s _ ma mb _ _ _ ⟨by omega, by omega⟩ hma hmb) rfl rfl rfl (fun v GB hleB hh => ?_); obtain ⟨cB, rfl, hrB⟩ := hh; obtain ⟨p7, c7, e7, rfl, _⟩ := hrB.open; have hma' := hma.mono hleB; have hmb' := hmb.mono hleB)
 refine aP 7 rfl (qM rfl) rfl ?_
 refine C1 8 rfl rfl rfl ?_
 refine C1 9 rfl rfl rfl ?_
 refine C1 10 rfl rfl rfl ?_
 refine C1 11 rfl rfl rfl ?_
 refine Q3 (j := 4) (j' := 12) (by kernel_rfl) ?_ ?_
 (refine E2 rfl (D0 rfl rfl rfl (by omega) (by unfold maxLen; omega) rfl) rfl rfl ?_; rintro _ ⟨b215, rfl⟩)
 refine C1 12 rfl rfl rfl ?_
 refine aP 13 rfl (P0 rfl rfl) rfl ?_
 refine aP 14 rfl (qA rfl) rfl ?_
 refine A2 15 ?_
 refine H8 rfl ?_
 refine aP 16 rfl (qA rfl) rfl ?_
 refine A4 ?_
 (refine H2 Pk.here (fun G5 hle5 hsl5 hno5 => ?_))
 refine B9 ?_
 refine D3 (rT rfl) (rC rfl (A5 rfl rfl)) (rT rfl) ?_
 (have hk1 : k = 6 := (by omega); subst hk1; refine M1.two hsl5 (hrB.mono hle5) (hma'.mono hle5) (hmb'.mono hle5) ?_; rw [mW6]; cases hq : S1 4 (h.getD 0 B3) with | none => rfl | some q => (rw [hq] at hmi; cases hmi))
 refine A6n (l' := [tt,tt,tt,tt,ff,tt,tt,tt,tt,tt,tt,tt,tt,ff,ff,ff,ff]) rfl rfl rfl rfl ?_
 refine aP 13 rfl (P0 rfl rfl) rfl ?_
 refine A2 4 ?_
 (refine E2 rfl (D0 rfl rfl rfl (by omega) (by unfold maxLen; omega) rfl) rfl rfl ?_; rintro _ ⟨b233, rfl⟩)
 refine aP 14 rfl (qA rfl) rfl ?_
 refine A2 15 ?_
 refine H8 rfl ?_
 refine aP 16 rfl (qA rfl) rfl ?_
 refine A4 ?_
 (refine H2 Pk.here (fun G5 hle5 hsl5 hno5 => ?_))
 refine B9 ?_
 refine D3 (rT rfl) (rC rfl (A5 rfl rfl)) (rT rfl) ?_
 (have hk1 : k = 6 := (by omega); subst hk1; refine M1.two hsl5 (hrB.mono hle5) (hma'.mono hle5) (hmb'.mono hle5) ?_; rw [mW6]; cases hq : S1 4 (h.getD 0 B3) with | none => rfl | some q => (rw [hq] at hmi; cases hmi))
 refine B4 ?_
 refine sE (A9 rfl) rfl (fun b250 => ?_)
 refine sE (A9 rfl) rfl (fun b251 => ?_)
 refine A8 ?_
 (have hl2 : n = 2 := hop.1 (by omega); obtain ⟨b0, o0, q0, d0, hp0, hat0, hre0, hg0⟩ := hsl.kidD hkl (i := 0) (by omega) (by omega); obtain ⟨b1, o1, q1, d1, hp1, hat1, hre1, hg1⟩ := hsl.kidD hkl (i := 1) (by omega) (by omega); cases hp0; cases hp1; refine D7 D8 rfl ?_)
 refine L3 (i := 0) (l' := [tt,ff,ff,ff,ff,ff,ff,ff,ff,ff,ff,ff,ff,ff,ff,ff,ff]) rfl D2 (A5 rfl rfl) rfl (by kernel_rfl) rfl rfl ?_
 refine aL 1 rfl (A5 rfl rfl) rfl ?_
 refine aL 3 rfl (A5 rfl rfl) rfl ?_
 refine aL 5 rfl (A5 rfl rfl) rfl ?_
 refine aP 6 rfl (qM rfl) rfl ?_
 refine A2 2 ?_
 (refine H3 rfl rfl (A2s _ ma mb _ _ _ ⟨by omega, by omega⟩ hma hmb) rfl rfl rfl (fun v GB hleB hh => ?_); obtain ⟨cB, rfl, hrB⟩ := hh; obtain ⟨p7, c7, e7, rfl, _⟩ := hrB.open; have hma' := hma.mono hleB; have hmb' := hmb.mono hleB)
 refine aP 7 rfl (qM rfl) rfl ?_
 refine aP 8 rfl (qM rfl) rfl ?_
 refine aP 9 rfl (B5 (j := 1) rfl rfl rfl (by omega)) rfl ?_
 refine aL 10 rfl (A3 rfl rfl (At.mono' hleB (hat1 _)) rfl) rfl ?_
 refine aL 11 rfl (A5 rfl rfl) rfl ?_
 refine Q3 (j := 4) (j' := 12) (by kernel_rfl) ?_ ?_
 (refine E2 rfl (D0 rfl rfl rfl (by omega) (by unfold maxLen; omega) rfl) rfl rfl ?_; rintro _ ⟨b272, rfl⟩)
 refine A2 12 ?_
 refine V2 rfl rfl ((A0b _ _ _ _ _ (hre1.mono hleB) hma')) rfl rfl rfl (fun h274 => ?_) (fun h274 => ?_)
 refine aP 13 rfl (N1 rfl rfl) rfl ?_
 refine aP 14 rfl (qA rfl) rfl ?_
 refine A2 15 ?_
 refine H8 rfl ?_
 refine aP 16 rfl (qA rfl) rfl ?_
 refine A4 ?_
 (refine H2 Pk.here (fun G5 hle5 hsl5 hno5 => ?_))
 refine B9 ?_
 refine D3 (rT rfl) (rC rfl (A5 rfl rfl)) (rT rfl) ?_
 (have hk1 : k = 6 := (by omega); subst hk1; refine M1.two hsl5 (hrB.mono hle5) (hma'.mono hle5) (hmb'.mono hle5) ?_; rw [mW6]; cases hq : S1 4 (h.getD 0 B3) with | none => (rw [hq] at hmi; cases hmi) | some q => (have hq2 := hmm q hq; subst hq2; dsimp only; split <;> first | rfl | (exfalso; simp_all; done)))
 refine aP 13 rfl (N1 rfl rfl) rfl ?_
 refine aP 14 rfl (qA rfl) rfl ?_
 refine A2 15 ?_
 refine H8 rfl ?_
 refine aP 16 rfl (qA rfl) rfl ?_
 refine A4 ?_
 (refine H2 Pk.here (fun G5 hle5 hsl5 hno5 => ?_))
 refine B9 ?_
 refine D3 (rT rfl) (rC rfl (A5 rfl rfl)) (rT rfl) ?_
 (have hk1 : k = 6 := (by omega); subst hk1; refine M1.two hsl5 (hrB.mono hle5) (hma'.mono hle5) (hmb'.mono hle5) ?_; rw [mW6]; cases hq : S1 4 (h.getD 0 B3) with | none => (rw [hq] at hmi; cases hmi) | some q => (have hq2 := hmm q hq; subst hq2; dsimp only; split <;> first | rfl | (exfalso; simp_all; done)))
 refine V2 rfl rfl ((A0b _ _ _ _ _ (hre1.mono hleB) hma')) rfl rfl rfl (fun h301 => ?_) (fun h301 => ?_)
 refine aP 13 rfl (N1 rfl rfl) rfl ?_
 refine A2 4 ?_
 (refine E2 rfl (D0 rfl rfl rfl (by omega) (by unfold maxLen; omega) rfl) rfl rfl ?_; rintro _ ⟨b304, rfl⟩)
 refine aP 14 rfl (qA rfl) rfl ?_
 refine A2 15 ?_
 refine H8 rfl ?_
 refine aP 16 rfl (qA rfl) rfl ?_
 refine A4 ?_
 (refine H2 Pk.here (fun G5 hle5 hsl5 hno5 => ?_))
 refine B9 ?_
 refine D3 (rT rfl) (rC rfl (A5 rfl rfl)) (rT rfl) ?_
 (have hk1 : k = 6 := (by omega); subst hk1; refine M1.two hsl5 (hrB.mono hle5) (hma'.mono hle5) (hmb'.mono hle5) ?_; rw [mW6]; cases hq : S1 4 (h.getD 0 B3) with | none => (rw [hq] at hmi; cases hmi) | some q => (have hq2 := hmm q hq; subst hq2; dsimp only; split <;> first | rfl | (exfalso; simp_all; done)))
 refine aP 13 rfl (N1 rfl rfl) rfl ?_
 refine A2 4 ?_
 (refine E2 rfl (D0 rfl rfl rfl (by omega) (by unfold maxLen; omega) rfl) rfl rfl ?_; rintro _ ⟨b319, rfl⟩)
 refine aP 14 rfl (qA rfl) rfl ?_
 refine A2 15 ?_
 refine H8 rfl ?_
 refine aP 16 rfl (qA rfl) rfl ?_
 refine A4 ?_
 (refine H2 Pk.here (fun G5 hle5 hsl5 hno5 => ?_))
 refine B9 ?_
 refine D3 (rT rfl) (rC rfl (A5 rfl rfl)) (rT rfl) ?_
 (have hk1 : k = 6 := (by omega); subst hk1; refine M1.two hsl5 (hrB.mono hle5) (hma'.mono hle5) (hmb'.mono hle5) ?_; rw [mW6]; cases hq : S1 4 (h.getD 0 B3) with | none => (rw [hq] at hmi; cases hmi) | some q => (have hq2 := hmm q hq; subst hq2; dsimp only; split <;> first | rfl | (exfalso; simp_all; done)))
 refine B7 ?_
 refine sB (qE rfl rfl) rfl rfl (fun h339 => ?_) (fun h339 => ?_)
 refine J2 ?_
 refine sE (A9 rfl) rfl (fun b350 => ?_)
 refine D4 ?_
 refine sP (I9 rfl rfl (by omega)) rfl rfl ?_
 refine A8 ?_
 (have hl2 : n = 2 := hop.1 (by omega); obtain ⟨b0, o0, q0, d0, hp0, hat0, hre0, hg0⟩ := hsl.kidD hkl (i := 0) (by omega) (by omega); obtain ⟨b1, o1, q1, d1, hp1, hat1, hre1, hg1⟩ := hsl.kidD hkl (i := 1) (by omega) (by omega); cases hp0; cases hp1; refine D7 D8 rfl ?_)
 refine L3 (i := 0) (l' := [tt,ff,ff,ff,ff,ff,ff,ff,ff,ff,ff,ff,ff,ff,ff,ff,ff,ff,ff]) rfl D2 (A5 rfl rfl) rfl (by kernel_rfl) rfl rfl ?_
 refine aL 1 rfl (A5 rfl rfl) rfl ?_
 refine aL 3 rfl (A5 rfl rfl) rfl ?_
 refine aP 4 rfl (qM rfl) rfl ?_
 refine aP 5 rfl (B5 (j := 0) rfl rfl rfl (by omega)) rfl ?_
 refine aL 6 rfl (A3 rfl rfl (hat0 _) rfl) rfl ?_
 refine aL 7 rfl (A5 rfl rfl) rfl ?_
 refine Q3 (j := 2) (j' := 8) (by kernel_rfl) ?_ ?_
 (refine E2 rfl (D0 rfl rfl rfl (by omega) (by unfold maxLen; omega) rfl) rfl rfl ?_; rintro _ ⟨b375, rfl⟩)
 refine A2 8 ?_
 refine V2 rfl rfl ((A0b _ _ _ _ _ hre0 (K9 _))) rfl rfl rfl (fun h377 => ?_) (fun h377 => ?_)
 refine aP 9 rfl (qM rfl) rfl ?_
 refine aP 10 rfl (qM rfl) rfl ?_
 refine aP 11 rfl (B5 (j := 1) rfl rfl rfl (by omega)) rfl ?_
 refine aL 12 rfl (A3 rfl rfl (hat1 _) rfl) rfl ?_
 refine aL 13 rfl (A5 rfl rfl) rfl ?_
 refine A2 14 ?_
 refine V2 rfl rfl ((A0b _ _ _ _ _ hre1 (K9 _))) rfl rfl rfl (fun h384 => ?_) (fun h384 => ?_)
 refine aP 15 rfl (N1 rfl rfl) rfl ?_
 refine aP 16 rfl (qA rfl) rfl ?_
 refine A2 17 ?_
 refine H8 rfl ?_
 refine aP 18 rfl (qA rfl) rfl ?_
 refine A4 ?_
 (refine H2 Pk.here (fun G5 hle5 hsl5 hno5 => ?_))
 refine B9 ?_
 refine D3 (rT rfl) (rC rfl (A5 rfl rfl)) (rT rfl) ?_
 (refine M1.two hsl5 (K9 _) (K9 _) (K9 _) ?_; rw [X3 (by omega)]; first | (rw [if_pos ⟨by assumption, by assumption⟩, if_neg (by omega)]; rfl) | (rw [if_neg (fun hc => by first | exact Bool.noConfusion (hc.1.symm.trans (by assumption)) | exact Bool.noConfusion (hc.2.symm.trans (by assumption)) | exact Bool.noConfusion (hc.symm.trans (by assumption)))]; rfl))
 refine aP 15 rfl (N1 rfl rfl) rfl ?_
 refine aP 16 rfl (qA rfl) rfl ?_
 refine A2 17 ?_
 refine H8 rfl ?_
 refine aP 18 rfl (qA rfl) rfl ?_
 refine A4 ?_
 (refine H2 Pk.here (fun G5 hle5 hsl5 hno5 => ?_))
 refine B9 ?_
 refine D3 (rT rfl) (rC rfl (A5 rfl rfl)) (rT rfl) ?_
 (refine M1.two hsl5 (K9 _) (K9 _) (K9 _) ?_; rw [X3 (by omega)]; first | (rw [if_pos ⟨by assumption, by assumption⟩, if_neg (by omega)]; rfl) | (rw [if_neg (fun hc => by first | exact Bool.noConfusion (hc.1.symm.trans (by assumption)) | exact Bool.noConfusion (hc.2.symm.trans (by assumption)) | exact Bool.noConfusion (hc.symm.trans (by assumption)))]; rfl))
 refine aP 9 rfl (qM rfl) rfl ?_
 refine C1 10 rfl rfl rfl ?_
 refine C1 11 rfl rfl rfl ?_
 refine C1 12 rfl rfl rfl ?_
 refine C1 13 rfl rfl rfl ?_
 refine C1 14 rfl rfl rfl ?_
 refine aP 15 rfl (P0 rfl rfl) rfl ?_
 refine aP 16 rfl (qA rfl) rfl ?_
 refine A2 17 ?_
 refine H8 rfl ?_
 refine aP 18 rfl (qA rfl) rfl ?_
 refine A4 ?_
 (refine H2 Pk.here (fun G5 hle5 hsl5 hno5 => ?_))
 refine B9 ?_
 refine D3 (rT rfl) (rC rfl (A5 rfl rfl)) (rT rfl) ?_
 (refine M1.two hsl5 (K9 _) (K9 _) (K9 _) ?_; rw [X3 (by omega)]; first | (rw [if_pos ⟨by assumption, by assumption⟩, if_neg (by omega)]; rfl) | (rw [if_neg (fun hc => by first | exact Bool.noConfusion (hc.1.symm.trans (by assumption)) | exact Bool.noConfusion (hc.2.symm.trans (by assumption)) | exact Bool.noConfusion (hc.symm.trans (by assumption)))]; rfl))
 refine V2 rfl rfl ((A0b _ _ _ _ _ hre0 (K9 _))) rfl rfl rfl (fun h430 => ?_) (fun h430 => ?_)
 refine aP 9 rfl (qM rfl) rfl ?_
 refine aP 10 rfl (qM rfl) rfl ?_
 refine aP 11 rfl (B5 (j := 1) rfl rfl rfl (by omega)) rfl ?_
 refine aL 12 rfl (A3 rfl rfl (hat1 _) rfl) rfl ?_
 refine aL 13 rfl (A5 rfl rfl) rfl ?_
 refine Q3 (j := 2) (j' := 14) (by kernel_rfl) ?_ ?_
 (refine E2 rfl (D0 rfl rfl rfl (by omega) (by unfold maxLen; omega) rfl) rfl rfl ?_; rintro _ ⟨b437, rfl⟩)
 refine A2 14 ?_
 refine V2 rfl rfl ((A0b _ _ _ _ _ hre1 (K9 _))) rfl rfl rfl (fun h439 => ?_) (fun h439 => ?_)
 refine aP 15 rfl (N1 rfl rfl) rfl ?_
 refine aP 16 rfl (qA rfl) rfl ?_
 refine A2 17 ?_
 refine H8 rfl ?_
 refine aP 18 rfl (qA rfl) rfl ?_
 refine A4 ?_
 (refine H2 Pk.here (fun G5 hle5 hsl5 hno5 => ?_))
 refine B9 ?_
 refine D3 (rT rfl) (rC rfl (A5 rfl rfl)) (rT rfl) ?_
 (refine M1.two hsl5 (K9 _) (K9 _) (K9 _) ?_; rw [X3 (by omega)]; first | (rw [if_pos ⟨by assumption, by assumption⟩, if_neg (by omega)]; rfl) | (rw [if_neg (fun hc => by first | exact Bool.noConfusion (hc.1.symm.trans (by assumption)) | exact Bool.noConfusion (hc.2.symm.trans (by assumption)) | exact Bool.noConfusion (hc.symm.trans (by assumption)))]; rfl))
 refine aP 15 rfl (N1 rfl rfl) rfl ?_
 refine aP 16 rfl (qA rfl) rfl ?_
 refine A2 17 ?_
 refine H8 rfl ?_
 refine aP 18 rfl (qA rfl) rfl ?_
 refine A4 ?_
 (refine H2 Pk.here (fun G5 hle5 hsl5 hno5 => ?_))
 refine B9 ?_
 refine D3 (rT rfl) (rC rfl (A5 rfl rfl)) (rT rfl) ?_
 (refine M1.two hsl5 (K9 _) (K9 _) (K9 _) ?_; rw [X3 (by omega)]; first | (rw [if_pos ⟨by assumption, by assumption⟩, if_neg (by omega)]; rfl) | (rw [if_neg (fun hc => by first | exact Bool.noConfusion (hc.1.symm.trans (by assumption)) | exact Bool.noConfusion (hc.2.symm.trans (by assumption)) | exact Bool.noConfusion (hc.symm.trans (by assumption)))]; rfl))
 refine V2 rfl rfl ((A0b _ _ _ _ _ hre1 (K9 _))) rfl rfl rfl (fun h466 => ?_) (fun h466 => ?_)
 refine aP 15 rfl (N1 rfl rfl) rfl ?_
 refine A2 2 ?_
 (refine E2 rfl (D0 rfl rfl rfl (by omega) (by unfold maxLen; omega) rfl) rfl rfl ?_; rintro _ ⟨b469, rfl⟩)
 refine aP 16 rfl (qA rfl) rfl ?_
 refine A2 17 ?_
 refine H8 rfl ?_
 refine aP 18 rfl (qA rfl) rfl ?_
 refine A4 ?_
 (refine H2 Pk.here (fun G5 hle5 hsl5 hno5 => ?_))
 refine B9 ?_
 refine D3 (rT rfl) (rC rfl (A5 rfl rfl)) (rT rfl) ?_
 (refine M1.two hsl5 (K9 _) (K9 _) (K9 _) ?_; rw [X3 (by omega)]; first | (rw [if_pos ⟨by assumption, by assumption⟩, if_neg (by omega)]; rfl) | (rw [if_neg (fun hc => by first | exact Bool.noConfusion (hc.1.symm.trans (by assumption)) | exact Bool.noConfusion (hc.2.symm.trans (by assumption)) | exact Bool.noConfusion (hc.symm.trans (by assumption)))]; rfl))
 refine aP 15 rfl (N1 rfl rfl) rfl ?_
 refine A2 2 ?_
 (refine E2 rfl (D0 rfl rfl rfl (by omega) (by unfold maxLen; omega) rfl) rfl rfl ?_; rintro _ ⟨b484, rfl⟩)
 refine aP 16 rfl (qA rfl) rfl ?_
 refine A2 17 ?_
 refine H8 rfl ?_
 refine aP 18 rfl (qA rfl) rfl ?_
 refine A4 ?_
 (refine H2 Pk.here (fun G5 hle5 hsl5 hno5 => ?_))
 refine B9 ?_
 refine D3 (rT rfl) (rC rfl (A5 rfl rfl)) (rT rfl) ?_
 (refine M1.two hsl5 (K9 _) (K9 _) (K9 _) ?_; rw [X3 (by omega)]; first | (rw [if_pos ⟨by assumption, by assumption⟩, if_neg (by omega)]; rfl) | (rw [if_neg (fun hc => by first | exact Bool.noConfusion (hc.1.symm.trans (by assumption)) | exact Bool.noConfusion (hc.2.symm.trans (by assumption)) | exact Bool.noConfusion (hc.symm.trans (by assumption)))]; rfl))
 refine aP 9 rfl (qM rfl) rfl ?_
 refine C1 10 rfl rfl rfl ?_
 refine C1 11 rfl rfl rfl ?_
 refine C1 12 rfl rfl rfl ?_
 refine C1 13 rfl rfl rfl ?_
 refine Q3 (j := 2) (j' := 14) (by kernel_rfl) ?_ ?_
 (refine E2 rfl (D0 rfl rfl rfl (by omega) (by unfold maxLen; omega) rfl) rfl rfl ?_; rintro _ ⟨b503, rfl⟩)
 refine C1 14 rfl rfl rfl ?_
 refine aP 15 rfl (P0 rfl rfl) rfl ?_
 refine aP 16 rfl (qA rfl) rfl ?_
 refine A2 17 ?_
 refine H8 rfl ?_
 refine aP 18 rfl (qA rfl) rfl ?_
 refine A4 ?_
 (refine H2 Pk.here (fun G5 hle5 hsl5 hno5 => ?_))
 refine B9 ?_
 refine D3 (rT rfl) (rC rfl (A5 rfl rfl)) (rT rfl) ?_
 (refine M1.two hsl5 (K9 _) (K9 _) (K9 _) ?_; rw [X3 (by omega)]; first | (rw [if_pos ⟨by assumption, by assumption⟩, if_neg (by omega)]; rfl) | (rw [if_neg (fun hc => by first | exact Bool.noConfusion (hc.1.symm.trans (by assumption)) | exact Bool.noConfusion (hc.2.symm.trans (by assumption)) | exact Bool.noConfusion (hc.symm.trans (by assumption)))]; rfl))
 refine A6n (l' := [tt,tt,ff,tt,tt,tt,tt,tt,tt,tt,tt,tt,tt,tt,tt,ff,ff,ff,ff]) rfl rfl rfl rfl ?_
 refine aP 15 rfl (P0 rfl rfl) rfl ?_
 refine A2 2 ?_
 (refine E2 rfl (D0 rfl rfl rfl (by omega) (by unfold maxLen; omega) rfl) rfl rfl ?_; rintro _ ⟨b521, rfl⟩)
 refine aP 16 rfl (qA rfl) rfl ?_
 refine A2 17 ?_
 refine H8 rfl ?_
 refine aP 18 rfl (qA rfl) rfl ?_
 refine A4 ?_
 (refine H2 Pk.here (fun G5 hle5 hsl5 hno5 => ?_))
 refine B9 ?_
 refine D3 (rT rfl) (rC rfl (A5 rfl rfl)) (rT rfl) ?_
 (refine M1.two hsl5 (K9 _) (K9 _) (K9 _) ?_; rw [X3 (by omega)]; first | (rw [if_pos ⟨by assumption, by assumption⟩, if_neg (by omega)]; rfl) | (rw [if_neg (fun hc => by first | exact Bool.noConfusion (hc.1.symm.trans (by assumption)) | exact Bool.noConfusion (hc.2.symm.trans (by assumption)) | exact Bool.noConfusion (hc.symm.trans (by assumption)))]; rfl))
 refine B0 ?_
 refine sB (qE rfl rfl) rfl rfl (fun h539 => ?_) (fun h539 => ?_)
 refine B7 ?_
 refine sE (A9 rfl) rfl (fun b547 => ?_)
 refine D4 ?_
 refine sP (Y3 rfl rfl (by omega)) rfl rfl ?_
 refine E1 ?_
 (have hl2 : n = 2 := hop.1 (by omega); obtain ⟨b0, o0, q0, d0, hp0, hat0, hre0, hg0⟩ := hsl.kidD hkl (i := 0) (by omega) (by omega); obtain ⟨b1, o1, q1, d1, hp1, hat1, hre1, hg1⟩ := hsl.kidD hkl (i := 1) (by omega) (by omega); cases hp0; cases hp1; refine D7 D8 rfl ?_)
 refine L3 (i := 0) (l' := [tt,ff,ff,ff,ff,ff,ff,ff,ff,ff,ff,ff,ff,ff,ff,ff,ff,ff,ff]) rfl D2 (A5 rfl rfl) rfl (by kernel_rfl) rfl rfl ?_
 refine aL 1 rfl (A5 rfl rfl) rfl ?_
 refine aL 3 rfl (A5 rfl rfl) rfl ?_
 refine aP 4 rfl (qM rfl) rfl ?_
 refine aP 5 rfl (B5 (j := 0) rfl rfl rfl (by omega)) rfl ?_
 refine aL 6 rfl (A3 rfl rfl (hat0 _) rfl) rfl ?_
 refine aL 7 rfl (A5 rfl rfl) rfl ?_
 refine Q3 (j := 2) (j' := 8) (by kernel_rfl) ?_ ?_
 (refine E2 rfl (D0 rfl rfl rfl (by omega) (by unfold maxLen; omega) rfl) rfl rfl ?_; rintro _ ⟨b575, rfl⟩)
 refine A2 8 ?_
 refine V2 rfl rfl ((A0b _ _ _ _ _ hre0 (K9 _))) rfl rfl rfl (fun h577 => ?_) (fun h577 => ?_)
 refine aP 9 rfl (qM rfl) rfl ?_
 refine aP 10 rfl (qM rfl) rfl ?_
 refine aP 11 rfl (B5 (j := 1) rfl rfl rfl (by omega)) rfl ?_
 refine aL 12 rfl (A3 rfl rfl (hat1 _) rfl) rfl ?_
 refine aL 13 rfl (A5 rfl rfl) rfl ?_
 refine A2 14 ?_
 refine V2 rfl rfl ((A0b _ _ _ _ _ hre1 (K9 _))) rfl rfl rfl (fun h584 => ?_) (fun h584 => ?_)
 refine aP 15 rfl (N1 rfl rfl) rfl ?_
 refine aP 16 rfl (qA rfl) rfl ?_
 refine A2 17 ?_
 refine H8 rfl ?_
 refine aP 18 rfl (qA rfl) rfl ?_
 refine A4 ?_
 (refine H2 Pk.here (fun G5 hle5 hsl5 hno5 => ?_))
 refine B9 ?_
 refine D3 (rT rfl) (rC rfl (A5 rfl rfl)) (rT rfl) ?_
 (refine M1.two hsl5 (K9 _) (K9 _) (A0w _) ?_; rw [X3 (by omega)]; first | (rw [if_pos ⟨by assumption, by assumption⟩, if_pos (by omega)]; rfl) | (rw [if_neg (fun hc => by first | exact Bool.noConfusion (hc.1.symm.trans (by assumption)) | exact Bool.noConfusion (hc.2.symm.trans (by assumption)) | exact Bool.noConfusion (hc.symm.trans (by assumption)))]; rfl))
 refine aP 15 rfl (N1 rfl rfl) rfl ?_
 refine aP 16 rfl (qA rfl) rfl ?_
 refine A2 17 ?_
 refine H8 rfl ?_
 refine aP 18 rfl (qA rfl) rfl ?_
 refine A4 ?_
 (refine H2 Pk.here (fun G5 hle5 hsl5 hno5 => ?_))
 refine B9 ?_
 refine D3 (rT rfl) (rC rfl (A5 rfl rfl)) (rT rfl) ?_
 (refine M1.two hsl5 (K9 _) (K9 _) (A0w _) ?_; rw [X3 (by omega)]; first | (rw [if_pos ⟨by assumption, by assumption⟩, if_pos (by omega)]; rfl) | (rw [if_neg (fun hc => by first | exact Bool.noConfusion (hc.1.symm.trans (by assumption)) | exact Bool.noConfusion (hc.2.symm.trans (by assumption)) | exact Bool.noConfusion (hc.symm.trans (by assumption)))]; rfl))
 refine aP 9 rfl (qM rfl) rfl ?_
 refine C1 10 rfl rfl rfl ?_
 refine C1 11 rfl rfl rfl ?_
 refine C1 12 rfl rfl rfl ?_
 refine C1 13 rfl rfl rfl ?_
 refine C1 14 rfl rfl rfl ?_
 refine aP 15 rfl (P0 rfl rfl) rfl ?_
 refine aP 16 rfl (qA rfl) rfl ?_
 refine A2 17 ?_
 refine H8 rfl ?_
 refine aP 18 rfl (qA rfl) rfl ?_
 refine A4 ?_
 (refine H2 Pk.here (fun G5 hle5 hsl5 hno5 => ?_))
 refine B9 ?_
 refine D3 (rT rfl) (rC rfl (A5 rfl rfl)) (rT rfl) ?_
 (refine M1.two hsl5 (K9 _) (K9 _) (A0w _) ?_; rw [X3 (by omega)]; first | (rw [if_pos ⟨by assumption, by assumption⟩, if_pos (by omega)]; rfl) | (rw [if_neg (fun hc => by first | exact Bool.noConfusion (hc.1.symm.trans (by assumption)) | exact Bool.noConfusion (hc.2.symm.trans (by assumption)) | exact Bool.noConfusion (hc.symm.trans (by assumption)))]; rfl))
 refine V2 rfl rfl ((A0b _ _ _ _ _ hre0 (K9 _))) rfl rfl rfl (fun h630 => ?_) (fun h630 => ?_)
 refine aP 9 rfl (qM rfl) rfl ?_
 refine aP 10 rfl (qM rfl) rfl ?_
 refine aP 11 rfl (B5 (j := 1) rfl rfl rfl (by omega)) rfl ?_
 refine aL 12 rfl (A3 rfl rfl (hat1 _) rfl) rfl ?_
 refine aL 13 rfl (A5 rfl rfl) rfl ?_
 refine Q3 (j := 2) (j' := 14) (by kernel_rfl) ?_ ?_
 (refine E2 rfl (D0 rfl rfl rfl (by omega) (by unfold maxLen; omega) rfl) rfl rfl ?_; rintro _ ⟨b637, rfl⟩)
 refine A2 14 ?_
 refine V2 rfl rfl ((A0b _ _ _ _ _ hre1 (K9 _))) rfl rfl rfl (fun h639 => ?_) (fun h639 => ?_)
 refine aP 15 rfl (N1 rfl rfl) rfl ?_
 refine aP 16 rfl (qA rfl) rfl ?_
 refine A2 17 ?_
 refine H8 rfl ?_
 refine aP 18 rfl (qA rfl) rfl ?_
 refine A4 ?_
 (refine H2 Pk.here (fun G5 hle5 hsl5 hno5 => ?_))
 refine B9 ?_
 refine D3 (rT rfl) (rC rfl (A5 rfl rfl)) (rT rfl) ?_
 (refine M1.two hsl5 (K9 _) (K9 _) (A0w _) ?_; rw [X3 (by omega)]; first | (rw [if_pos ⟨by assumption, by assumption⟩, if_pos (by omega)]; rfl) | (rw [if_neg (fun hc => by first | exact Bool.noConfusion (hc.1.symm.trans (by assumption)) | exact Bool.noConfusion (hc.2.symm.trans (by assumption)) | exact Bool.noConfusion (hc.symm.trans (by assumption)))]; rfl))
 refine aP 15 rfl (N1 rfl rfl) rfl ?_
 refine aP 16 rfl (qA rfl) rfl ?_
 refine A2 17 ?_
 refine H8 rfl ?_
 refine aP 18 rfl (qA rfl) rfl ?_
 refine A4 ?_
 (refine H2 Pk.here (fun G5 hle5 hsl5 hno5 => ?_))
 refine B9 ?_
 refine D3 (rT rfl) (rC rfl (A5 rfl rfl)) (rT rfl) ?_
 (refine M1.two hsl5 (K9 _) (K9 _) (A0w _) ?_; rw [X3 (by omega)]; first | (rw [if_pos ⟨by assumption, by assumption⟩, if_pos (by omega)]; rfl) | (rw [if_neg (fun hc => by first | exact Bool.noConfusion (hc.1.symm.trans (by assumption)) | exact Bool.noConfusion (hc.2.symm.trans (by assumption)) | exact Bool.noConfusion (hc.symm.trans (by assumption)))]; rfl))
 refine V2 rfl rfl ((A0b _ _ _ _ _ hre1 (K9 _))) rfl rfl rfl (fun h666 => ?_) (fun h666 => ?_)
 refine aP 15 rfl (N1 rfl rfl) rfl ?_
 refine A2 2 ?_
 (refine E2 rfl (D0 rfl rfl rfl (by omega) (by unfold maxLen; omega) rfl) rfl rfl ?_; rintro _ ⟨b669, rfl⟩)
 refine aP 16 rfl (qA rfl) rfl ?_
 refine A2 17 ?_
 refine H8 rfl ?_
 refine aP 18 rfl (qA rfl) rfl ?_
 refine A4 ?_
 (refine H2 Pk.here (fun G5 hle5 hsl5 hno5 => ?_))
 refine B9 ?_
 refine D3 (rT rfl) (rC rfl (A5 rfl rfl)) (rT rfl) ?_
 (refine M1.two hsl5 (K9 _) (K9 _) (A0w _) ?_; rw [X3 (by omega)]; first | (rw [if_pos ⟨by assumption, by assumption⟩, if_pos (by omega)]; rfl) | (rw [if_neg (fun hc => by first | exact Bool.noConfusion (hc.1.symm.trans (by assumption)) | exact Bool.noConfusion (hc.2.symm.trans (by assumption)) | exact Bool.noConfusion (hc.symm.trans (by assumption)))]; rfl))
 refine aP 15 rfl (N1 rfl rfl) rfl ?_
 refine A2 2 ?_
 (refine E2 rfl (D0 rfl rfl rfl (by omega) (by unfold maxLen; omega) rfl) rfl rfl ?_; rintro _ ⟨b684, rfl⟩)
 refine aP 16 rfl (qA rfl) rfl ?_
 refine A2 17 ?_
 refine H8 rfl ?_
 refine aP 18 rfl (qA rfl) rfl ?_
 refine A4 ?_
 (refine H2 Pk.here (fun G5 hle5 hsl5 hno5 => ?_))
 refine B9 ?_
 refine D3 (rT rfl) (rC rfl (A5 rfl rfl)) (rT rfl) ?_
 (refine M1.two hsl5 (K9 _) (K9 _) (A0w _) ?_; rw [X3 (by omega)]; first | (rw [if_pos ⟨by assumption, by assumption⟩, if_pos (by omega)]; rfl) | (rw [if_neg (fun hc => by first | exact Bool.noConfusion (hc.1.symm.trans (by assumption)) | exact Bool.noConfusion (hc.2.symm.trans (by assumption)) | exact Bool.noConfusion (hc.symm.trans (by assumption)))]; rfl))
 refine aP 9 rfl (qM rfl) rfl ?_
 refine C1 10 rfl rfl rfl ?_
 refine C1 11 rfl rfl rfl ?_
 refine C1 12 rfl rfl rfl ?_
 refine C1 13 rfl rfl rfl ?_
 refine Q3 (j := 2) (j' := 14) (by kernel_rfl) ?_ ?_
 (refine E2 rfl (D0 rfl rfl rfl (by omega) (by unfold maxLen; omega) rfl) rfl rfl ?_; rintro _ ⟨b703, rfl⟩)
 refine C1 14 rfl rfl rfl ?_
 refine aP 15 rfl (P0 rfl rfl) rfl ?_
 refine aP 16 rfl (qA rfl) rfl ?_
 refine A2 17 ?_
 refine H8 rfl ?_
 refine aP 18 rfl (qA rfl) rfl ?_
 refine A4 ?_
 (refine H2 Pk.here (fun G5 hle5 hsl5 hno5 => ?_))
 refine B9 ?_
 refine D3 (rT rfl) (rC rfl (A5 rfl rfl)) (rT rfl) ?_
 (refine M1.two hsl5 (K9 _) (K9 _) (A0w _) ?_; rw [X3 (by omega)]; first | (rw [if_pos ⟨by assumption, by assumption⟩, if_pos (by omega)]; rfl) | (rw [if_neg (fun hc => by first | exact Bool.noConfusion (hc.1.symm.trans (by assumption)) | exact Bool.noConfusion (hc.2.symm.trans (by assumption)) | exact Bool.noConfusion (hc.symm.trans (by assumption)))]; rfl))
 refine A6n (l' := [tt,tt,ff,tt,tt,tt,tt,tt,tt,tt,tt,tt,tt,tt,tt,ff,ff,ff,ff]) rfl rfl rfl rfl ?_
 refine aP 15 rfl (P0 rfl rfl) rfl ?_
 refine A2 2 ?_
 (refine E2 rfl (D0 rfl rfl rfl (by omega) (by unfold maxLen; omega) rfl) rfl rfl ?_; rintro _ ⟨b721, rfl⟩)
 refine aP 16 rfl (qA rfl) rfl ?_
 refine A2 17 ?_
 refine H8 rfl ?_
 refine aP 18 rfl (qA rfl) rfl ?_
 refine A4 ?_
 (refine H2 Pk.here (fun G5 hle5 hsl5 hno5 => ?_))
 refine B9 ?_
 refine D3 (rT rfl) (rC rfl (A5 rfl rfl)) (rT rfl) ?_
 (refine M1.two hsl5 (K9 _) (K9 _) (A0w _) ?_; rw [X3 (by omega)]; first | (rw [if_pos ⟨by assumption, by assumption⟩, if_pos (by omega)]; rfl) | (rw [if_neg (fun hc => by first | exact Bool.noConfusion (hc.1.symm.trans (by assumption)) | exact Bool.noConfusion (hc.2.symm.trans (by assumption)) | exact Bool.noConfusion (hc.symm.trans (by assumption)))]; rfl))
 refine A8 ?_
 refine sB (qE rfl rfl) rfl rfl (fun h740 => ?_) (fun h740 => ?_)
 refine A8 ?_
 (have hl3 : n = 3 := hop.2.1 (by omega); obtain ⟨b0, o0, q0, d0, hp0, hat0, hre0, hg0⟩ := hsl.kidD hkl (i := 0) (by omega) (by omega); obtain ⟨b1, o1, q1, d1, hp1, hat1, hre1, hg1⟩ := hsl.kidD hkl (i := 1) (by omega) (by omega); cases hp0; cases hp1; obtain ⟨b2, o2, q2, d2, hp2, hat2, hre2, hg2⟩ := hsl.kidD hkl (i := 2) (by omega) (by omega); cases hp2; refine D7 D8 rfl ?_)
 refine I6 (i := 0) (l' := [tt,ff,ff,ff,ff,ff,ff,ff,ff,ff,ff,ff,ff,ff,ff,ff]) rfl D2 (qM rfl) rfl (by kernel_rfl) rfl rfl ?_
 refine aP 1 rfl (B5 (j := 0) rfl rfl rfl (by omega)) rfl ?_
 refine aL 2 rfl (A3 rfl rfl (hat0 _) rfl) rfl ?_
 refine aL 3 rfl (A5 rfl rfl) rfl ?_
 refine A2 4 ?_
 refine V2 rfl rfl ((A0b _ _ _ _ _ hre0 (A0w _))) rfl rfl rfl (fun h753 => ?_) (fun h753 => ?_)
 refine aP 5 rfl (pNt rfl) rfl ?_
 refine aP 6 rfl (qM rfl) rfl ?_
 refine aP 7 rfl (qM rfl) rfl ?_
 refine aP 8 rfl (B5 (j := 1) rfl rfl rfl (by omega)) rfl ?_
 refine aL 9 rfl (A3 rfl rfl (hat1 _) rfl) rfl ?_
 refine aP 10 rfl (qM rfl) rfl ?_
 refine aP 11 rfl (B5 (j := 2) rfl rfl rfl (by omega)) rfl ?_
 refine aL 12 rfl (A3 rfl rfl (hat2 _) rfl) rfl ?_
 refine A2 13 ?_
 refine V2 rfl rfl ((A0b _ _ _ _ _ hre1 hre2)) rfl rfl rfl (fun h763 => ?_) (fun h763 => ?_)
 refine aP 14 rfl (pNt rfl) rfl ?_
 refine aP 15 rfl (P0 rfl rfl) rfl ?_
 refine A8 ?_
 (have hl3 : n = 3 := hop.2.1 (by omega); obtain ⟨b0, o0, q0, d0, hp0, hat0, hre0, hg0⟩ := hsl.kidD hkl (i := 0) (by omega) (by omega); obtain ⟨b1, o1, q1, d1, hp1, hat1, hre1, hg1⟩ := hsl.kidD hkl (i := 1) (by omega) (by omega); cases hp0; cases hp1; obtain ⟨b2, o2, q2, d2, hp2, hat2, hre2, hg2⟩ := hsl.kidD hkl (i := 2) (by omega) (by omega); cases hp2; refine D7 D8 rfl ?_)
 refine I6 (i := 0) (l' := [tt,ff,ff,ff,ff,ff,ff,ff,ff]) rfl D2 (qM rfl) rfl (by kernel_rfl) rfl rfl ?_
 refine aP 1 rfl (B5 (j := 1) rfl rfl rfl (by omega)) rfl ?_
 refine aL 2 rfl (A3 rfl rfl (hat1 _) rfl) rfl ?_
 refine aP 3 rfl (qM rfl) rfl ?_
 refine aP 4 rfl (B5 (j := 2) rfl rfl rfl (by omega)) rfl ?_
 refine aL 5 rfl (A3 rfl rfl (hat2 _) rfl) rfl ?_
 refine Q3 (j := 6) (j' := 7) (by kernel_rfl) ?_ ?_
 (refine H3 rfl rfl (B0i _ _ _ _ _ (by assumption) (A3M har (by omega)) (A3M har (by omega)) hre1 hre2) rfl rfl rfl (fun v GM hleM hh => ?_); obtain ⟨cM, rfl, hrM⟩ := hh; obtain ⟨p7, c7, e7, rfl, _⟩ := hrM.open)
 refine A2 7 ?_
 (refine E2 rfl (A9 rfl) rfl rfl ?_; rintro _ ⟨b782, rfl⟩)
 refine A2 8 ?_
 refine H8 rfl ?_
 refine B9 ?_
 (have hl3 : n = 3 := hop.2.1 (by omega); obtain ⟨b0, o0, q0, d0, hp0, hat0, hre0, hg0⟩ := hsl.kidD hkl (i := 0) (by omega) (by omega); obtain ⟨b1, o1, q1, d1, hp1, hat1, hre1, hg1⟩ := hsl.kidD hkl (i := 1) (by omega) (by omega); cases hp0; cases hp1; obtain ⟨b2, o2, q2, d2, hp2, hat2, hre2, hg2⟩ := hsl.kidD hkl (i := 2) (by omega) (by omega); cases hp2; refine D7 D8 rfl ?_)
 refine L3 (i := 0) (l' := [tt,ff,ff,ff,ff,ff,ff,ff]) rfl D2 (A5 rfl rfl) rfl (by kernel_rfl) rfl rfl ?_
 refine aL 1 rfl (A5 rfl rfl) rfl ?_
 refine aL 2 rfl (A5 rfl rfl) rfl ?_
 refine aL 4 rfl (A5 rfl rfl) rfl ?_
 refine A2 3 ?_
 (refine E2 rfl (D0 rfl rfl rfl (by omega) (by unfold maxLen; omega) rfl) rfl rfl ?_; rintro _ ⟨b794, rfl⟩)
 refine aP 5 rfl (qA rfl) rfl ?_
 refine A2 6 ?_
 refine H8 rfl ?_
 refine aP 7 rfl (qA rfl) rfl ?_
 refine A4 ?_
 (refine H2 Pk.here (fun G5 hle5 hsl5 hno5 => ?_))
 refine B9 ?_
 refine D3 (rT rfl) (rC rfl (A5 rfl rfl)) (rT rfl) ?_
 exact B0j
 (refine E2 rfl (A9 rfl) rfl rfl ?_; rintro _ ⟨b807, rfl⟩)
 refine A2 6 ?_
 (refine H3 rfl rfl (B0i _ _ _ _ _ (by assumption) (A3M har (by omega)) (A3M har (by omega)) hre1 hre2) rfl rfl rfl (fun v GM hleM hh => ?_); obtain ⟨cM, rfl, hrM⟩ := hh; obtain ⟨p7, c7, e7, rfl, _⟩ := hrM.open)
 refine A2 8 ?_
 refine H8 rfl ?_
 refine B9 ?_
 (have hl3 : n = 3 := hop.2.1 (by omega); obtain ⟨b0, o0, q0, d0, hp0, hat0, hre0, hg0⟩ := hsl.kidD hkl (i := 0) (by omega) (by omega); obtain ⟨b1, o1, q1, d1, hp1, hat1, hre1, hg1⟩ := hsl.kidD hkl (i := 1) (by omega) (by omega); cases hp0; cases hp1; obtain ⟨b2, o2, q2, d2, hp2, hat2, hre2, hg2⟩ := hsl.kidD hkl (i := 2) (by omega) (by omega); cases hp2; refine D7 D8 rfl ?_)
 refine L3 (i := 0) (l' := [tt,ff,ff,ff,ff,ff,ff,ff]) rfl D2 (A5 rfl rfl) rfl (by kernel_rfl) rfl rfl ?_
 refine aL 1 rfl (A5 rfl rfl) rfl ?_
 refine aL 2 rfl (A5 rfl rfl) rfl ?_
 refine aL 4 rfl (A5 rfl rfl) rfl ?_
 refine A2 3 ?_
 (refine E2 rfl (D0 rfl rfl rfl (by omega) (by unfold maxLen; omega) rfl) rfl rfl ?_; rintro _ ⟨b821, rfl⟩)
 refine aP 5 rfl (qA rfl) rfl ?_
 refine A2 6 ?_
 refine H8 rfl ?_
 refine aP 7 rfl (qA rfl) rfl ?_
 refine A4 ?_
 (refine H2 Pk.here (fun G5 hle5 hsl5 hno5 => ?_))
 refine B9 ?_
 refine D3 (rT rfl) (rC rfl (A5 rfl rfl)) (rT rfl) ?_
 exact B0j
 refine aP 14 rfl (pNf rfl) rfl ?_
 refine aP 15 rfl (P0 rfl rfl) rfl ?_
 refine I7 ?_
 refine D3 (rT rfl) (rC rfl (A5 rfl rfl)) (rT rfl) ?_
 exact B0k
 refine aP 5 rfl (pNf rfl) rfl ?_
 refine aP 6 rfl (qM rfl) rfl ?_
 refine C1 7 rfl rfl rfl ?_
 refine C1 8 rfl rfl rfl ?_
 refine C1 9 rfl rfl rfl ?_
 refine C1 10 rfl rfl rfl ?_
 refine C1 11 rfl rfl rfl ?_
 refine C1 12 rfl rfl rfl ?_
 refine C1 13 rfl rfl rfl ?_
 refine C1 14 rfl rfl rfl ?_
 refine aP 15 rfl (N1 rfl rfl) rfl ?_
 refine I7 ?_
 refine D3 (rT rfl) (rC rfl (A5 rfl rfl)) (rT rfl) ?_
 exact B0k
 refine A8 ?_
 refine sB (qE rfl rfl) rfl rfl (fun h887 => ?_) (fun h887 => ?_)
 refine B0 ?_
 (have hl2 : n = 2 := hop.1 (by omega); obtain ⟨b0, o0, q0, d0, hp0, hat0, hre0, hg0⟩ := hsl.kidD hkl (i := 0) (by omega) (by omega); obtain ⟨b1, o1, q1, d1, hp1, hat1, hre1, hg1⟩ := hsl.kidD hkl (i := 1) (by omega) (by omega); cases hp0; cases hp1; refine D7 D8 rfl ?_)
 refine I6 (i := 0) (l' := [tt,ff,ff,ff,ff,ff,ff,ff,ff,ff]) rfl D2 (qM rfl) rfl (by kernel_rfl) rfl rfl ?_
 refine aP 1 rfl (B5 (j := 0) rfl rfl rfl (by omega)) rfl ?_
 refine aL 2 rfl (A3 rfl rfl (hat0 _) rfl) rfl ?_
 refine aP 3 rfl (qM rfl) rfl ?_
 refine aP 4 rfl (B5 (j := 1) rfl rfl rfl (by omega)) rfl ?_
 refine aL 5 rfl (A3 rfl rfl (hat1 _) rfl) rfl ?_
 refine A2 6 ?_
 (refine H3 rfl rfl (A2s 5 _ _ _ _ _ ⟨by omega, by omega⟩ hre0 hre1) rfl rfl rfl (fun v GB hleB hh => ?_); obtain ⟨cB, rfl, hrB⟩ := hh; obtain ⟨p7, c7, e7, rfl, _⟩ := hrB.open)
 refine aP 7 rfl (qA rfl) rfl ?_
 refine A2 8 ?_
 refine H8 rfl ?_
 refine aP 9 rfl (qA rfl) rfl ?_
 refine B0 ?_
 refine D3 (rT rfl) (rC rfl (A5 rfl rfl)) (rT rfl) ?_
 (have hk1 : k = 10 := (by omega); subst hk1; exact M1.nil hrB A5D)
 refine A8 ?_
 refine sB (qE rfl rfl) rfl rfl (fun h919 => ?_) (fun h919 => ?_)
 refine B0 ?_
 (have hl1 : n = 1 := hop.2.2 (by omega); obtain ⟨b0, o0, q0, d0, hp0, hat0, hre0, hg0⟩ := hsl.kidD hkl (i := 0) (by omega) (by omega); cases hp0; refine D7 D8 rfl ?_)
 refine I6 (i := 0) (l' := [tt,ff,ff,ff,ff,ff,ff,ff,ff,ff,ff,ff,ff,ff]) rfl D2 (B8 rfl) rfl (by kernel_rfl) rfl rfl ?_
 refine aL 1 rfl (A5 rfl rfl) rfl ?_
 refine aP 3 rfl (B8 rfl) rfl ?_
 refine aL 4 rfl (A5 rfl rfl) rfl ?_
 refine aP 5 rfl (qM rfl) rfl ?_
 refine aP 6 rfl (B5 (j := 0) rfl rfl rfl (by omega)) rfl ?_
 refine aL 7 rfl (A3 rfl rfl (hat0 _) rfl) rfl ?_
 refine aP 8 rfl (B8 rfl) rfl ?_
 refine aL 9 rfl (A5 rfl rfl) rfl ?_
 refine Q3 (j := 2) (j' := 10) (by kernel_rfl) ?_ ?_
 (refine E2 rfl (D0 rfl rfl rfl (by omega) (by unfold maxLen; omega) rfl) rfl rfl ?_; rintro _ ⟨b936, rfl⟩)
 refine A2 10 ?_
 refine V2 rfl rfl ((A0b _ _ _ _ _ hre0 hrty)) rfl rfl rfl (fun h938 => ?_) (fun h938 => ?_)
 refine aP 11 rfl (qA rfl) rfl ?_
 refine A2 12 ?_
 refine H8 rfl ?_
 refine aP 13 rfl (qA rfl) rfl ?_
 refine A4 ?_
 (refine H2 Pk.here (fun G5 hle5 hsl5 hno5 => ?_))
 refine B9 ?_
 refine D3 (rT rfl) (rC rfl (A5 rfl rfl)) (rT rfl) ?_
 (have hk1 : k = 13 := (by omega); subst hk1; refine M1.one hsl5 (hrty.mono hle5) (hrty.mono hle5) ?_; rw [A28]; split <;> first | rfl | (exfalso; simp_all; done))
 refine aP 11 rfl (qA rfl) rfl ?_
 refine A2 12 ?_
 refine H8 rfl ?_
 refine aP 13 rfl (qA rfl) rfl ?_
 refine A4 ?_
 (refine H2 Pk.here (fun G5 hle5 hsl5 hno5 => ?_))
 refine B9 ?_
 refine D3 (rT rfl) (rC rfl (A5 rfl rfl)) (rT rfl) ?_
 (have hk1 : k = 13 := (by omega); subst hk1; refine M1.one hsl5 (hrty.mono hle5) (hrty.mono hle5) ?_; rw [A28]; split <;> first | rfl | (exfalso; simp_all; done))
 refine V2 rfl rfl ((A0b _ _ _ _ _ hre0 hrty)) rfl rfl rfl (fun h963 => ?_) (fun h963 => ?_)
 refine A2 2 ?_
 (refine E2 rfl (D0 rfl rfl rfl (by omega) (by unfold maxLen; omega) rfl) rfl rfl ?_; rintro _ ⟨b965, rfl⟩)
 refine aP 11 rfl (qA rfl) rfl ?_
 refine A2 12 ?_
 refine H8 rfl ?_
 refine aP 13 rfl (qA rfl) rfl ?_
 refine A4 ?_
 (refine H2 Pk.here (fun G5 hle5 hsl5 hno5 => ?_))
 refine B9 ?_
 refine D3 (rT rfl) (rC rfl (A5 rfl rfl)) (rT rfl) ?_
 (have hk1 : k = 13 := (by omega); subst hk1; refine M1.one hsl5 (hrty.mono hle5) (hrty.mono hle5) ?_; rw [A28]; split <;> first | rfl | (exfalso; simp_all; done))
 refine A2 2 ?_
 (refine E2 rfl (D0 rfl rfl rfl (by omega) (by unfold maxLen; omega) rfl) rfl rfl ?_; rintro _ ⟨b979, rfl⟩)
 refine aP 11 rfl (qA rfl) rfl ?_
 refine A2 12 ?_
 refine H8 rfl ?_
 refine aP 13 rfl (qA rfl) rfl ?_
 refine A4 ?_
 (refine H2 Pk.here (fun G5 hle5 hsl5 hno5 => ?_))
 refine B9 ?_
 refine D3 (rT rfl) (rC rfl (A5 rfl rfl)) (rT rfl) ?_
 (have hk1 : k = 13 := (by omega); subst hk1; refine M1.one hsl5 (hrty.mono hle5) (hrty.mono hle5) ?_; rw [A28]; split <;> first | rfl | (exfalso; simp_all; done))
 refine J2 ?_
 (have hk11 : k = 11 ∨ k = 12 := (by omega); have hl1 : n = 1 := hop.2.2 (by omega); obtain ⟨b0, o0, q0, d0, hp0, hat0, hre0, hg0⟩ := hsl.kidD hkl (i := 0) (by omega) (by omega); cases hp0; refine sP (B5 (j := 0) rfl rfl rfl (by omega)) rfl rfl ?_)
 refine sL (A3 rfl rfl (hat0 _) rfl) rfl rfl ?_
 (refine E6 rfl (B0h 5 (h.getD 0 B3) G _ (.inr rfl) (A3M har (by omega)) hre0) rfl rfl (fun v G1 hle1 hh => ?_); obtain ⟨ma, mca, mb, mcb, rfl, hma, hmb, hma2, hmb2, hmm⟩ := hh; obtain ⟨p1, c1, e1, rfl, _⟩ := hma.open; obtain ⟨p2, c2, e2, rfl, _⟩ := hmb.open)
 refine B4 ?_
 refine sE (A9 rfl) rfl (fun b1009 => ?_)
 refine sE (A9 rfl) rfl (fun b1010 => ?_)
 refine D4 ?_
 refine sE (A9 rfl) rfl (fun b1019 => ?_)
 refine D4 ?_
 refine sB (qE rfl rfl) rfl rfl (fun h1028 => ?_) (fun h1028 => ?_)
 refine E1 ?_
 (have hl1 : n = 1 := hop.2.2 (by omega); obtain ⟨b0, o0, q0, d0, hp0, hat0, hre0, hg0⟩ := hsl.kidD hkl (i := 0) (by omega) (by omega); cases hp0; refine D7 D8 rfl ?_)
 refine L3 (i := 0) (l' := [tt,ff,ff,ff,ff,ff,ff,ff,ff]) rfl D2 (A5 rfl rfl) rfl (by kernel_rfl) rfl rfl ?_
 refine aL 1 rfl (A5 rfl rfl) rfl ?_
 refine aL 4 rfl (A5 rfl rfl) rfl ?_
 refine aP 5 rfl (qM rfl) rfl ?_
 refine A2 2 ?_
 (refine H3 rfl rfl (A2s _ ma mb _ _ _ ⟨by omega, by omega⟩ hma hmb) rfl rfl rfl (fun v GB hleB hh => ?_); obtain ⟨cB, rfl, hrB⟩ := hh; obtain ⟨p7, c7, e7, rfl, _⟩ := hrB.open; have hma' := hma.mono hleB; have hmb' := hmb.mono hleB)
 refine A2 3 ?_
 (refine E2 rfl (D0 rfl rfl rfl (by omega) (by unfold maxLen; omega) rfl) rfl rfl ?_; rintro _ ⟨b1046, rfl⟩)
 refine aP 6 rfl (qA rfl) rfl ?_
 refine A2 7 ?_
 refine H8 rfl ?_
 refine aP 8 rfl (qA rfl) rfl ?_
 refine A4 ?_
 (refine H2 Pk.here (fun G5 hle5 hsl5 hno5 => ?_))
 refine tT ?_
 refine D3 (rT rfl) (rC rfl (A5 rfl rfl)) (rT rfl) ?_
 (refine M1.one hsl5 (hrB.mono hle5) (hmb'.mono hle5) ?_; rw [A3N (by omega)]; cases hq : S1 5 (h.getD 0 B3) with | none => rfl | some q => (have hq2 := hmm q hq; subst hq2; dsimp only; rw [if_pos (by omega)]; rfl))
 refine A8 ?_
 (have hl1 : n = 1 := hop.2.2 (by omega); obtain ⟨b0, o0, q0, d0, hp0, hat0, hre0, hg0⟩ := hsl.kidD hkl (i := 0) (by omega) (by omega); cases hp0; refine D7 D8 rfl ?_)
 refine L3 (i := 0) (l' := [tt,ff,ff,ff,ff,ff,ff,ff,ff]) rfl D2 (A5 rfl rfl) rfl (by kernel_rfl) rfl rfl ?_
 refine aL 1 rfl (A5 rfl rfl) rfl ?_
 refine aL 4 rfl (A5 rfl rfl) rfl ?_
 refine aP 5 rfl (qM rfl) rfl ?_
 refine A2 2 ?_
 (refine H3 rfl rfl (A2s _ ma mb _ _ _ ⟨by omega, by omega⟩ hma hmb) rfl rfl rfl (fun v GB hleB hh => ?_); obtain ⟨cB, rfl, hrB⟩ := hh; obtain ⟨p7, c7, e7, rfl, _⟩ := hrB.open; have hma' := hma.mono hleB; have hmb' := hmb.mono hleB)
 refine A2 3 ?_
 (refine E2 rfl (D0 rfl rfl rfl (by omega) (by unfold maxLen; omega) rfl) rfl rfl ?_; rintro _ ⟨b1071, rfl⟩)
 refine aP 6 rfl (qA rfl) rfl ?_
 refine A2 7 ?_
 refine H8 rfl ?_
 refine aP 8 rfl (qA rfl) rfl ?_
 refine A4 ?_
 (refine H2 Pk.here (fun G5 hle5 hsl5 hno5 => ?_))
 refine tT ?_
 refine D3 (rT rfl) (rC rfl (A5 rfl rfl)) (rT rfl) ?_
 (refine M1.one hsl5 (hrB.mono hle5) (hma'.mono hle5) ?_; rw [A3N (by omega)]; cases hq : S1 5 (h.getD 0 B3) with | none => rfl | some q => (have hq2 := hmm q hq; subst hq2; dsimp only; rw [if_neg (by omega)]; rfl))
theorem A4D {cx : Cx} {k : Int} {nm : ByteArray} {ty : Ty} {h w : List Ty} {t : Ty} (he : U3 cx k nm ty h = some (w, t)) : F4 t = true ∧ J6 cx k nm ty h = some (w, t) := by
 unfold U3 at he
 split at he
 ·rename_i w' t' hw
  split at he
  ·cases he; exact ⟨by assumption, hw⟩
  ·cases he
 ·cases he
theorem B5s {cx : Cx} {k : Int} {nm : ByteArray} {num : Int} {ty fr : Ty} {lb : Int} {ks : List Tm} {t : Ty} (h14 : k = 14 → F4 ty = true) (h : I4 cx (.mk k nm num ty fr lb ks) = some t) : F4 t = true := by
 rw [I4] at h
 split at h
 ·cases h
 ·split at h
  ·rename_i hk
   split at h
   ·cases h; exact h14 hk
   ·cases h
  ·split at h
   ·cases h
   ·rename_i w u hw
    split at h
    ·cases h; exact (A4D hw).1
    ·cases h
theorem B5t {cx : Cx} {k : Int} {nm : ByteArray} {ty : Ty} {h w : List Ty} {t : Ty} (hop : (k = 6 ∨ k = 7 ∨ k = 8 ∨ k = 10 → h.length = 2) ∧ (k = 9 → h.length = 3) ∧ (k = 5 ∨ k = 11 ∨ k = 12 ∨ k = 13 → h.length = 1)) (hk : 1 ≤ k ∧ k ≤ 14) (h14 : k ≠ 14) (he : J6 cx k nm ty h = some (w, t)) : w.length ≤ h.length := by
 have hkk : k = 1 ∨ k = 2 ∨ (k = 3 ∨ k = 4) ∨ k = 5 ∨ k = 6 ∨ (k = 7 ∨ k = 8) ∨ k = 9 ∨ k = 10 ∨ (k = 11 ∨ k = 12) ∨ k = 13 := by omega
 rcases hkk with rfl | rfl | hk | rfl | rfl | hk | rfl | rfl | hk | rfl
 ·rw [mW1] at he; split at he <;> cases he; simp
 ·rw [mW2] at he; cases he; simp
 ·rw [A4C hk] at he; cases he; simp
 ·rw [mW5] at he; cases he; simp
 ·rw [mW6] at he
  split at he
  ·split at he <;> cases he
   have := hop.1 (by omega); simp [this]
  ·cases he
 ·rw [X3 hk] at he
  split at he <;> cases he
  have := hop.1 (by omega); simp [this]
 ·rw [mW9] at he
  split at he <;> cases he
  have := hop.2.1 (by omega); simp [this]
 ·rw [A5D] at he; cases he; simp
 ·rw [A3N hk] at he
  split at he
  ·cases he; have := hop.2.2 (by omega); simp [this]
  ·cases he
 ·rw [A28] at he
  split at he <;> cases he
  have := hop.2.2 (by omega); simp [this]
theorem U4.snoc {G G' : IM} {cx : Cx} {n : Nat} {p' : Option Addr} {c' : Nat} {es : List (List Value)} {e : List Value} {nm : ByteArray} {t : Ty} (h1 : n = cx.length) (hl : es.length = n) (h2 : ∀ x ∈ es, x.length = 3) (h3 : ∀ x ∈ es, x.all (·.oneCell') = true)
  (h4 : ∀ (i : Nat) (b : ByteArray × Ty), cx[i]? = some b → ∃ e, es[i]? = some e ∧ A3L G b e) (hg : C4 G G') (he : A3L G' (nm, t) e) (hs : Sl G' p' (n + 1) c' 3 (es.flatten ++ e)) : U4 G' (cx ++ [(nm, t)]) p' (n + 1) c' := by
 have hel : e.length = 3 ∧ e.all (·.oneCell') = true := by obtain ⟨q, d, rfl, _⟩ := he; exact ⟨rfl, rfl⟩
 refine ⟨by simp [h1], es ++ [e], E3.of (by simpa using hs) (by simp [hl]) ?_ ?_, ?_⟩
 ·simp only [List.forall_mem_append, List.forall_mem_singleton]; exact ⟨h2, hel.1⟩
 ·simp only [List.forall_mem_append, List.forall_mem_singleton]; exact ⟨h3, hel.2⟩
 ·intro i b hb
  rw [List.getElem?_append] at hb ⊢
  split at hb
  ·rename_i hi
   obtain ⟨e', he', hr⟩ := h4 i b hb
   rw [if_pos (by omega)]
   exact ⟨e', he', hr.mono hg⟩
  ·rename_i hi
   have : i - cx.length = 0 := by
    apply Classical.byContradiction; intro hc
    rw [List.getElem?_eq_none (by simp; omega)] at hb; cases hb
   rw [this] at hb
   simp only [List.getElem?_cons_zero, Option.some.injEq] at hb
   subst hb
   rw [if_neg (by omega)]
   exact ⟨e, by rw [show i - es.length = 0 by omega]; rfl, he⟩
theorem B5u (G : IM) (p : Option Addr) (n c : Nat) (es : List (List Value)) (h : E3 G p n c 3 es) (hn : n ≤ 4294967296) :
  Fn Tryz.prog 109 [.slice p n c] [] G (fun G' v outs => G' = G ∧ ∃ p' c', v = .slice p' n c' ∧ outs = [.slc p' c' 119 3 n es.flatten]) := by
 have hp := h.sl.nn
 have hS := h.sl
 have hone : ∀ u ∈ es.flatten, u.oneCell' = true := by
  intro u hu
  obtain ⟨e, he, hue⟩ := List.mem_flatten.1 hu
  exact List.all_eq_true.1 (h.one e he) u hue
 refine C6 Tryz.func109 rfl Tryz.ntmps109 Tryz.results109 rfl ?_
 intro w0
 cases p with
 | none =>
  obtain rfl := hp rfl
  obtain rfl : es = [] := List.length_eq_zero_iff.1 h.len
  refine V0 119 3 ?_
  refine E1 ?_
  refine sQ (A8j rfl rfl rfl) rfl ?_
  refine J2 ?_
  refine H7 (rT rfl) A1.refl ?_
  exact ⟨rfl, _, _, rfl, rfl⟩
 | some a =>
  refine E1 ?_
  refine sQ (A46 rfl rfl rfl) rfl ?_
  refine B7 ?_
  (refine I3 (D0 rfl rfl rfl (by omega) (by unfold maxLen; omega) rfl) rfl ?_; rintro _ ⟨b18, rfl⟩)
  refine F8 ?_
  refine A5t rfl rfl rfl rfl rfl (fun _ _ => by repeat (first | exact Sw.here | apply Sw.there)) hS hone (Nat.zero_le _) (by unfold maxLen; omega) (by omega) rfl (fun pn cn => ?_)
  refine B4 ?_
  refine H7 (rT rfl) A1.refl ?_
  exact A6S
theorem A2b.no {r : Option Ty} {G G' : IM} {cu : List Value} {u : Ty} {b : Bool} (hu : C3 G' u cu) (hb : b = false) (h : r = none) : A2b r G G' (.tuple ⟨[.agg ⟨cu⟩, .bool b]⟩) [] := by
 subst hb h
 exact ⟨rfl, cu, u, rfl, hu, by simp⟩
section
variable {cx : Cx} {k : Int} {nm : ByteArray} {num : Int} {ty fr : Ty} {lb : Int} {ks : List Tm}
theorem A5E {us w : List Ty} {t : Ty} (h : J6 cx k nm ty us = some (w, t)) {b : Bool} (hb : F4 t = b) : U3 cx k nm ty us = if b = true then some (w, t) else none := by
 unfold U3; rw [h]; simp only [hb]
theorem B5v {us : List Ty} (h : J6 cx k nm ty us = none) : U3 cx k nm ty us = none := by
 unfold U3; rw [h]
end
def B5w (r : Tm) : Tm × Bool := if M5 r = true then (r, true) else (J7, false)
def B9s (t : Tm) (path : List Int) (x : Tm) : Tm × Bool := if M5 t = true ∧ M5 x = true ∧ S6 t path ≠ none then B5w (A93 t path x) else (J7, false)
mutual
theorem A7a (D N : Int) : ∀ (t : Tm) (d d' : Int), d' ≤ d → N5 D N t d = true → N5 D N t d' = true
 | .mk k nm num ty fr lb ks, d, d', hd, h => by
  obtain ⟨h1, h2, h3, h4⟩ := A0R h
  rw [A2Y (by omega) h2 h3]
  exact A5F D N ks _ _ (by omega) h4
theorem A5F (D N : Int) : ∀ (ts : List Tm) (d d' : Int), d' ≤ d → N7 D N ts d = true → N7 D N ts d' = true
 | [], d, d', hd, h => by rw [N7]
 | t :: ts, d, d', hd, h => by
  rw [N7, Bool.and_eq_true] at h ⊢
  exact ⟨A7a D N t d d' hd h.1, A5F D N ts d d' hd h.2⟩
end
theorem B0l (cy : Cx) (nm : ByteArray) : ∀ (cx : Cx) (n : Nat), n ≤ cx.length → ∀ t, W7 cx nm n = some t → W7 (cy ++ cx) nm (cy.length + n) = some t
 | cx, 0, _, t, h => by rw [W7] at h; cases h
 | cx, n + 1, hn, t, h => by
  have hb : cx[n]? = some cx[n] := List.getElem?_eq_getElem (by omega)
  have hb2 : (cy ++ cx)[cy.length + n]? = some (cx[n].1, cx[n].2) := by
   rw [List.getElem?_append_right (by omega), show cy.length + n - cy.length = n by omega]; exact hb
  by_cases he : cx[n].1 = nm
  ·rw [A4r (x := cx[n].1) (t := cx[n].2) hb he] at h
   rw [← Nat.add_assoc, A4r hb2 he]; exact h
  ·rw [A4s (x := cx[n].1) (t := cx[n].2) hb he] at h
   rw [← Nat.add_assoc, A4s hb2 he]
   exact B0l cy nm cx n (by omega) t h
theorem B5x {cy cx : Cx} {nm : ByteArray} {t : Ty} (h : Q1 cx nm = some t) : Q1 (cy ++ cx) nm = some t := by
 unfold Q1 at h ⊢
 rw [List.length_append]
 exact B0l cy nm cx _ (Nat.le_refl _) t h
theorem B5y {cy cx : Cx} {k : Int} {nm : ByteArray} {ty : Ty} {h : List Ty} {r : List Ty × Ty} (hr : J6 cx k nm ty h = some r) : J6 (cy ++ cx) k nm ty h = some r := by
 unfold J6 at hr ⊢
 split
 ·rename_i hk
  rw [if_pos hk] at hr
  split at hr
  ·rename_i t ht; rw [B5x ht]; exact hr
  ·cases hr
 ·rename_i hk
  rw [if_neg hk] at hr
  exact hr
theorem B5z {cy cx : Cx} {k : Int} {nm : ByteArray} {ty : Ty} {h : List Ty} {r : List Ty × Ty} (hr : U3 cx k nm ty h = some r) : U3 (cy ++ cx) k nm ty h = some r := by
 unfold U3 at hr ⊢
 split at hr
 ·rename_i w t hw; rw [B5y hw]; exact hr
 ·cases hr
theorem B5A (cy cx : Cx) (k : Int) (nm : ByteArray) (ty : Ty) : K1 (cy ++ cx) k nm ty = cy ++ K1 cx k nm ty := by
 unfold K1; split <;> simp
mutual
theorem B0m (cy : Cx) : ∀ (e : Tm) (cx : Cx) (t : Ty), I4 cx e = some t → I4 (cy ++ cx) e = some t
 | .mk k nm num ty fr lb ks, cx, t, h => by
  rw [I4] at h ⊢
  split at h
  ·cases h
  ·rename_i hs hh
   rw [B5A, B0n cy ks _ hs hh]
   dsimp only
   split at h
   ·rename_i hk; rw [if_pos hk]; exact h
   ·rename_i hk
    rw [if_neg hk]
    split at h
    ·cases h
    ·rename_i w u hw
     rw [B5z hw]; exact h
theorem B0n (cy : Cx) : ∀ (ts : List Tm) (cx : Cx) (us : List Ty), N0 cx ts = some us → N0 (cy ++ cx) ts = some us
 | [], cx, us, h => by rw [N0] at h ⊢; exact h
 | t :: ts, cx, us, h => by
  rw [N0] at h ⊢
  split at h
  ·cases h
  ·rename_i u hu
   split at h
   ·cases h
   ·rename_i us' hus
    rw [B0m cy t cx u hu]
    dsimp only
    rw [B0n cy ts cx us' hus]
    exact h
end
theorem B0o {cx : Cx} : ∀ {ks : List Tm} {h : List Ty}, N0 cx ks = some h → ∀ (j : Nat) (hj : j < ks.length), ∃ u, I4 cx ks[j] = some u ∧ ∀ x, I4 cx x = some u → N0 cx (ks.set j x) = some h
 | [], h, _, j, hj => by simp at hj
 | t :: ts, h, he, j, hj => by
  rw [N0] at he
  split at he
  ·cases he
  ·rename_i u hu
   split at he
   ·cases he
   ·rename_i us hus
    cases he
    cases j with
    | zero => exact ⟨u, hu, fun x hx => by rw [List.set_cons_zero, N0, hx]; dsimp only; rw [hus]⟩
    | succ j =>
     obtain ⟨v, hv, hv2⟩ := B0o hus j (by simpa using hj)
     exact ⟨v, hv, fun x hx => by rw [List.set_cons_succ, N0, hu]; dsimp only; rw [hv2 x hx]⟩
def E9 : List Tm → List Ty → List Ty → Int → List Tm × Int
 | u :: us, a :: h, b :: w, l => if N3 a b = true then (u :: (E9 us h w l).1, (E9 us h w l).2) else (K5 u a b (l + 1) :: (E9 us h w (l + 1)).1, (E9 us h w (l + 1)).2)
 | us, _, _, l => (us, l)
def R2 (cx : Cx) (k : Int) (nm : ByteArray) (num : Int) (ty fr : Ty) (lb : Int) (us : List Tm) (h : List Ty) (l : Int) : Option (Tm × Ty × Int) :=
 match U3 cx k nm ty h with
 | none => none
 | some (w, t) => some (if k = 13 then (E9 us h w l).1.getD 0 J7 else .mk k nm num ty fr lb (E9 us h w l).1, t, (E9 us h w l).2)
mutual
def M8 (cx : Cx) : Tm → Int → Option (Tm × Ty × Int)
 | .mk k nm num ty fr lb ks, l => match L6 (K1 cx k nm ty) ks l with
  | none => none
  | some (us, h, l') => R2 cx k nm num ty fr lb us h l'
def L6 (cx : Cx) : List Tm → Int → Option (List Tm × List Ty × Int)
 | [], l => some ([], [], l)
 | t :: ts, l => match M8 cx t l with
  | none => none
  | some (u, a, l') => match L6 cx ts l' with
   | none => none
   | some (us, h, l'') => some (u :: us, a :: h, l'')
end
def O8 (e : Tm) : Option (Tm × Ty) := if T5 e = true then (match M8 [] e 0 with | some (u, t, _) => some (u, t) | none => none) else none
def Y1 (cx : Cx) (k : Int) (nm : ByteArray) (ty : Ty) (h : List Ty) : Option Ty := match J6 cx k nm ty h with
 | some (_, t) => if (k = 5 ∨ k = 10) ∧ F4 t = false then none else some t
 | none => none
mutual
def R3 (cx : Cx) : Tm → Option Ty
 | .mk k nm num ty fr lb ks => match X4 (K1 cx k nm ty) ks with
  | none => none
  | some h => Y1 cx k nm ty h
def X4 (cx : Cx) : List Tm → Option (List Ty)
 | [] => some []
 | t :: ts => match R3 cx t with
  | none => none
  | some a => match X4 cx ts with
   | none => none
   | some h => some (a :: h)
end
theorem A2t (k : Int) (ks : List Ty) (d : Int) : P9 (.mk k ks) d = (decide (d ≤ 4) && decide (V7 k = ks.length) && U7 ks (d + 1)) := by rw [P9]
mutual
theorem A4E : ∀ (t : Ty) (d e : Int), e ≤ d → P9 t d = true → P9 t e = true
 | .mk k ks, d, e, h, hs => by
  rw [A2t, Bool.and_eq_true, Bool.and_eq_true, decide_eq_true_eq, decide_eq_true_eq] at hs ⊢
  exact ⟨⟨by omega, hs.1.2⟩, B0p ks (d + 1) (e + 1) (by omega) hs.2⟩
theorem B0p : ∀ (ts : List Ty) (d e : Int), e ≤ d → U7 ts d = true → U7 ts e = true
 | [], d, e, h, hs => by rw [U7]
 | t :: ts, d, e, h, hs => by
  rw [U7, Bool.and_eq_true] at hs ⊢
  exact ⟨A4E t d e h hs.1, B0p ts d e h hs.2⟩
end
mutual
theorem A7b : ∀ (a b : Ty) (d : Int), K6 a b = true → P9 a d = true → P9 b d = true → P9 (V6 a b) d = true
 | .mk k ks, .mk k' ks', d, hc, ha, hb => by
  rw [A1n]
  split
  ·exact hb
  ·split
   ·exact ha
   ·rw [V3] at hc
    rw [A2t, Bool.and_eq_true, Bool.and_eq_true, decide_eq_true_eq, decide_eq_true_eq] at ha hb ⊢
    simp only [Bool.or_eq_true, Bool.and_eq_true, decide_eq_true_eq] at hc
    obtain ⟨hk, hl⟩ : k = k' ∧ O0 ks ks' = true := by
     rcases hc with (h | h) | h
     ·contradiction
     ·contradiction
     ·exact h
    subst hk
    obtain ⟨m1, m2⟩ := B0q ks ks' (d + 1) hl ha.2 hb.2
    exact ⟨⟨ha.1.1, by rw [m2]; exact ha.1.2⟩, m1⟩
theorem B0q : ∀ (xs ys : List Ty) (d : Int), O0 xs ys = true → U7 xs d = true → U7 ys d = true → U7 (T7 xs ys) d = true ∧ (T7 xs ys).length = xs.length
 | [], [], d, _, _, _ => by simp [T7, U7]
 | [], b :: ys, d, hc, _, _ => by simp [O0] at hc
 | a :: xs, [], d, hc, _, _ => by simp [O0] at hc
 | a :: xs, b :: ys, d, hc, ha, hb => by
  rw [O0, Bool.and_eq_true] at hc
  rw [U7, Bool.and_eq_true] at ha hb
  obtain ⟨m1, m2⟩ := B0q xs ys d hc.2 ha.2 hb.2
  rw [T7, U7, Bool.and_eq_true]
  exact ⟨⟨A7b a b d hc.1 ha.1 hb.1, m1⟩, by simp [m2]⟩
end
theorem A7c {cx : Cx} (h : ∀ b ∈ cx, F4 b.2 = true) {nm : ByteArray} {t : Ty} : ∀ {n : Nat}, W7 cx nm n = some t → F4 t = true
 | 0, hl => by simp [W7] at hl
 | n + 1, hl => by
  rw [W7] at hl
  split at hl
  ·rename_i b hb
   split at hl
   ·cases hl; exact h b (List.mem_of_getElem? hb)
   ·exact A7c h hl
  ·exact A7c h hl
theorem B0r {k : Int} {t a b : Ty} (hk : k = 4 ∨ k = 5) (ht : F4 t = true) (h : S1 k t = some (a, b)) : F4 a = true ∧ F4 b = true := by
 obtain ⟨tk, ks⟩ := t
 rw [show S1 k (.mk tk ks) = (if tk = k then some (ks.getD 0 B3, ks.getD 1 B3) else if tk = 1 then some (R4, R4) else none) from rfl] at h
 by_cases he : tk = k
 ·rw [if_pos he] at h
  cases h
  unfold F4 at ht ⊢
  rw [A2t, Bool.and_eq_true, Bool.and_eq_true, decide_eq_true_eq, decide_eq_true_eq] at ht
  have h2 : ks.length = 2 := by
   have : V7 tk = 2 := by rw [he]; rcases hk with rfl | rfl <;> rfl
   omega
  match ks, h2, ht.2 with
  | [x, y], _, hL =>
   simp only [U7, Bool.and_eq_true] at hL
   exact ⟨A4E _ 2 1 (by omega) hL.1, A4E _ 2 1 (by omega) hL.2.1⟩
 ·rw [if_neg he] at h
  by_cases h1 : tk = 1
  ·rw [if_pos h1] at h
   cases h
   exact ⟨by decide, by decide⟩
  ·rw [if_neg h1] at h; cases h
theorem B5B {l : List Ty} {i : Nat} (h : i < l.length) : l.getD i B3 ∈ l := by
 rw [List.getD_eq_getElem?_getD, List.getElem?_eq_getElem h, Option.getD_some]; exact List.getElem_mem h
theorem B5C {cx : Cx} {k : Int} {nm : ByteArray} {ty : Ty} {h w : List Ty} {t : Ty} (hcx : ∀ b ∈ cx, F4 b.2 = true) (hh : ∀ a ∈ h, F4 a = true) (hd : F4 (h.getD 0 B3) = true ∨ h = []) (hty : k = 13 → F4 ty = true) (hn : D9 k = (h.length : Int)) (hw : J6 cx k nm ty h = some (w, t)) (h510 : k ≠ 5 ∧ k ≠ 10) : F4 t = true := by
 have hg : ∀ i, i < h.length → F4 (h.getD i B3) = true := fun i hi => hh _ (B5B hi)
 unfold J6 at hw
 split at hw
 ·split at hw
  ·rename_i u hu; cases hw; exact A7c hcx hu
  ·cases hw
 split at hw
 ·cases hw; decide
 split at hw
 ·cases hw; decide
 split at hw
 ·exact absurd (by assumption) h510.1
 split at hw
 ·rename_i hk6
  have hl : h.length = 2 := by have : D9 k = 2 := (by rw [hk6]; rfl); omega
  split at hw
  ·rename_i a b hm
   split at hw
   ·cases hw; exact (B0r (.inl rfl) (hg 0 (by omega)) hm).2
   ·cases hw
  ·cases hw
 split at hw
 ·split at hw
  ·cases hw; split <;> decide
  ·cases hw
 split at hw
 ·rename_i hk9
  have hl : h.length = 3 := by have : D9 k = 3 := (by rw [hk9]; rfl); omega
  split at hw
  ·rename_i hc
   cases hw
   exact A7b _ _ 1 hc.2 (hg 1 (by omega)) (hg 2 (by omega))
  ·cases hw
 split at hw
 ·exact absurd (by assumption) h510.2
 split at hw
 ·split at hw
  ·cases hw; exact hty (by assumption)
  ·cases hw
 ·split at hw
  ·rename_i a b hm
   have hl : h.length ≠ 0 := by
    intro h0
    rw [List.length_eq_zero_iff] at h0
    subst h0
    rw [show S1 5 (([] : List Ty).getD 0 B3) = none from rfl] at hm
    cases hm
   cases hw
   have := B0r (.inr rfl) (hg 0 (by omega)) hm
   split
   ·exact this.2
   ·exact this.1
  ·cases hw
def cxV (cx : Cx) : Prop := ∀ b ∈ cx, F4 b.2 = true
theorem A4F : cxV [] := by intro b hb; simp at hb
theorem A4G {cx : Cx} {k : Int} {nm : ByteArray} {ty : Ty} (h : cxV cx) (ht : k = 5 → F4 ty = true) : cxV (K1 cx k nm ty) := by
 unfold K1
 split
 ·intro b hb
  rcases List.mem_append.1 hb with hb | hb
  ·exact h b hb
  ·obtain rfl := List.mem_singleton.1 hb; exact ht (by assumption)
 ·exact h
theorem B5D {cx : Cx} {k : Int} {nm : ByteArray} {ty : Ty} {h : List Ty} (hcx : cxV cx) (hh : ∀ a ∈ h, F4 a = true) (hty : k = 13 → F4 ty = true) (hn : D9 k = (h.length : Int)) :
  (∀ w t, U3 cx k nm ty h = some (w, t) → Y1 cx k nm ty h = some t ∧ F4 t = true) ∧ (U3 cx k nm ty h = none → Y1 cx k nm ty h = none) := by
 unfold U3 Y1
 have hv := fun w t (e : J6 cx k nm ty h = some (w, t)) (h5 : k ≠ 5 ∧ k ≠ 10) => B5C hcx hh (by cases h with | nil => exact .inr rfl | cons x xs => exact .inl (hh _ (by simp))) hty hn e h5
 cases hw : J6 cx k nm ty h with
 | none => simp
 | some p =>
  obtain ⟨w, t⟩ := p
  have hv := hv w t hw
  simp only
  by_cases h5 : k = 5 ∨ k = 10
  ·cases ht : F4 t with
   | true => simp [ht]
   | false => simp [h5]
  ·have := hv (by omega)
   simp [this]
theorem B0s (ks : List Tm) (ih : ∀ t ∈ ks, ∀ d cx l, N5 12 14 t d = true → cxV cx → (∀ u a l', M8 cx t l = some (u, a, l') → R3 cx t = some a ∧ F4 a = true) ∧ (M8 cx t l = none → R3 cx t = none)) :
  ∀ d cx l, N7 12 14 ks d = true → cxV cx → (∀ us h l', L6 cx ks l = some (us, h, l') → X4 cx ks = some h ∧ (∀ a ∈ h, F4 a = true) ∧ h.length = ks.length ∧ us.length = ks.length) ∧ (L6 cx ks l = none → X4 cx ks = none) := by
 induction ks with
 | nil =>
  intro d cx l _ _
  refine ⟨fun us h l' he => ?_, fun he => by simp [L6] at he⟩
  simp only [L6, Option.some.injEq, Prod.mk.injEq] at he
  obtain ⟨rfl, rfl, _⟩ := he
  exact ⟨by rw [X4], by simp, rfl, rfl⟩
 | cons t ts ihl =>
  intro d cx l hs hcx
  rw [N7, Bool.and_eq_true] at hs
  obtain ⟨a1, a2⟩ := ih t List.mem_cons_self d cx l hs.1 hcx
  rw [L6, X4]
  cases he : M8 cx t l with
  | none => rw [a2 he]; exact ⟨fun _ _ _ h => by simp at h, fun _ => rfl⟩
  | some p =>
   obtain ⟨u, a, l1⟩ := p
   obtain ⟨b1, b2⟩ := a1 u a l1 he
   rw [b1]
   obtain ⟨c1, c2⟩ := ihl (fun x hx => ih x (List.mem_cons_of_mem _ hx)) d cx l1 hs.2 hcx
   simp only
   cases hL : L6 cx ts l1 with
   | none => rw [c2 hL]; exact ⟨fun _ _ _ h => by simp at h, fun _ => rfl⟩
   | some q =>
    obtain ⟨us, h, l2⟩ := q
    obtain ⟨d1, d2, d3, d4⟩ := c1 us h l2 hL
    rw [d1]
    refine ⟨fun us' h' l' e => ?_, fun e => by simp at e⟩
    simp only [Option.some.injEq, Prod.mk.injEq] at e
    obtain ⟨rfl, rfl, _⟩ := e
    refine ⟨rfl, fun x hx => ?_, by simp [d3], by simp [d4]⟩
    rcases List.mem_cons.1 hx with rfl | hx
    ·exact b2
    ·exact d2 x hx
theorem A3O : ∀ (t : Tm) (d : Int) (cx : Cx) (l : Int), N5 12 14 t d = true → cxV cx → (∀ u a l', M8 cx t l = some (u, a, l') → R3 cx t = some a ∧ F4 a = true) ∧ (M8 cx t l = none → R3 cx t = none) := by
 refine Tm.ind fun k nm num ty fr lb ks ih d cx l hs hcx => ?_
 obtain ⟨_, _, h3, h4⟩ := A0R hs
 obtain ⟨n1, _, _, _, _, n6, _⟩ := V8.1 h3
 obtain ⟨L1, L2⟩ := B0s ks ih (d + 1) (K1 cx k nm ty) l h4 (A4G hcx fun hk => n6 (by omega))
 rw [M8, R3]
 cases hL : L6 (K1 cx k nm ty) ks l with
 | none => rw [L2 hL]; exact ⟨fun _ _ _ h => by simp at h, fun _ => rfl⟩
 | some q =>
  obtain ⟨us, h, l2⟩ := q
  obtain ⟨d1, d2, d3, d4⟩ := L1 us h l2 hL
  rw [d1]
  obtain ⟨e1, e2⟩ := B5D (k := k) (nm := nm) (ty := ty) hcx d2 (fun hk => n6 (.inr (.inl hk))) (by rw [d3]; exact n1)
  simp only [R2]
  cases hN : U3 cx k nm ty h with
  | none => rw [e2 hN]; exact ⟨fun _ _ _ h => by simp at h, fun _ => rfl⟩
  | some p =>
   obtain ⟨w, t⟩ := p
   obtain ⟨f1, f2⟩ := e1 w t hN
   rw [f1]
   refine ⟨fun u a l' e => ?_, fun e => by simp at e⟩
   simp only [Option.some.injEq, Prod.mk.injEq] at e
   obtain ⟨_, rfl, _⟩ := e
   exact ⟨rfl, f2⟩
theorem A1C {cx : Cx} {k : Int} {nm : ByteArray} {num : Int} {ty fr : Ty} {lb : Int} {ks : List Tm} {T : Ty} (h : I4 cx (.mk k nm num ty fr lb ks) = some T) :
  ∃ us, N0 (K1 cx k nm ty) ks = some us ∧ (k = 14 → us.getD 0 B3 = fr ∧ T = ty) ∧ (k ≠ 14 → F4 T = true ∧ ∃ w, J6 cx k nm ty us = some (w, T) ∧ A02 w us = true) := by
 rw [I4] at h
 split at h
 ·cases h
 ·rename_i us hu
  refine ⟨us, hu, fun hk => ?_, fun hk => ?_⟩
  ·rw [if_pos hk] at h
   split at h
   ·rename_i hs; cases h; exact ⟨(Z2 _ _).1 hs, rfl⟩
   ·cases h
  ·rw [if_neg hk] at h
   split at h
   ·cases h
   ·rename_i w t hn
    split at h
    ·rename_i hs
     cases h
     obtain ⟨h1, h2⟩ := A4D hn
     exact ⟨h1, w, h2, hs⟩
    ·cases h
theorem A7d {cx : Cx} {k : Int} {nm : ByteArray} {num : Int} {ty fr : Ty} {lb : Int} {ks : List Tm} {T : Ty} {us w : List Ty} (hu : N0 (K1 cx k nm ty) ks = some us) (hk : k ≠ 14) (hv : F4 T = true) (hw : J6 cx k nm ty us = some (w, T)) (hs : A02 w us = true) : I4 cx (.mk k nm num ty fr lb ks) = some T := by
 rw [I4, hu]
 simp only [if_neg hk]
 unfold U3
 rw [hw]
 simp only [hv, if_true, hs]
theorem A4H {cx : Cx} {a : Tm} {us : List Ty} (h : N0 cx [a] = some us) : ∃ x, I4 cx a = some x ∧ us = [x] := by
 rw [N0] at h
 split at h
 ·cases h
 ·rename_i x hx
  rw [N0] at h
  simp only [Option.some.injEq] at h
  exact ⟨x, hx, h.symm⟩
theorem A5G {cx : Cx} {a b : Tm} {us : List Ty} (h : N0 cx [a, b] = some us) : ∃ x y, I4 cx a = some x ∧ I4 cx b = some y ∧ us = [x, y] := by
 rw [N0] at h
 split at h
 ·cases h
 ·rename_i x hx
  split at h
  ·cases h
  ·rename_i vs hv
   obtain ⟨y, hy, rfl⟩ := A4H hv
   simp only [Option.some.injEq] at h
   exact ⟨x, y, hx, hy, h.symm⟩
theorem B5E {cx : Cx} {a b c : Tm} {us : List Ty} (h : N0 cx [a, b, c] = some us) : ∃ x y z, I4 cx a = some x ∧ I4 cx b = some y ∧ I4 cx c = some z ∧ us = [x, y, z] := by
 rw [N0] at h
 split at h
 ·cases h
 ·rename_i x hx
  split at h
  ·cases h
  ·rename_i vs hv
   obtain ⟨y, z, hy, hz, rfl⟩ := A5G hv
   simp only [Option.some.injEq] at h
   exact ⟨x, y, z, hx, hy, hz, h.symm⟩
theorem A7e {cx : Cx} {a : Tm} {x : Ty} (h : I4 cx a = some x) : N0 cx [a] = some [x] := by rw [N0, h]; rfl
theorem B5F {cx : Cx} {a b : Tm} {x y : Ty} (h : I4 cx a = some x) (h2 : I4 cx b = some y) : N0 cx [a, b] = some [x, y] := by rw [N0, h, A7e h2]
mutual
theorem A2u : ∀ a : Ty, K6 a a = true
 | .mk k ks => by rw [V3, B0t ks]; simp
theorem B0t : ∀ xs : List Ty, O0 xs xs = true
 | [] => rfl
 | a :: xs => by rw [O0, A2u a, B0t xs]; rfl
end
mutual
theorem B0u : ∀ a : Ty, V6 a a = a
 | .mk k ks => by
  rw [A1n, B0v ks]
  by_cases h : k = 1
  ·rw [if_pos h]
  ·rw [if_neg h, if_neg h]
theorem B0v : ∀ xs : List Ty, T7 xs xs = xs
 | [] => rfl
 | a :: xs => by rw [T7, B0u a, B0v xs]
end
theorem A3P {k : Int} {ks : List Ty} (hk : k = 4 ∨ k = 5) (h : F4 (.mk k ks) = true) : ∃ a b, ks = [a, b] ∧ F4 a = true ∧ F4 b = true := by
 unfold F4 at h ⊢
 rw [A2t, Bool.and_eq_true, Bool.and_eq_true, decide_eq_true_eq, decide_eq_true_eq] at h
 have h2 : ks.length = 2 := by
  have : V7 k = 2 := by rcases hk with rfl | rfl <;> rfl
  omega
 match ks, h2, h.2 with
 | [x, y], _, hL =>
  simp only [U7, Bool.and_eq_true] at hL
  exact ⟨x, y, rfl, A4E _ 2 1 (by omega) hL.1, A4E _ 2 1 (by omega) hL.2.1⟩
theorem A7f {k : Int} {ks : List Ty} (h : F4 (.mk k ks) = true) (hk : k ≠ 4) (hk5 : k ≠ 5) : (k = 1 ∨ k = 2 ∨ k = 3) ∧ ks = [] := by
 unfold F4 at h
 rw [A2t, Bool.and_eq_true, Bool.and_eq_true, decide_eq_true_eq, decide_eq_true_eq] at h
 obtain ⟨h1, h2, h3⟩ := A1y k
 have hl := h.1.2
 have hk3 : k = 1 ∨ k = 2 ∨ k = 3 := by
  apply Classical.byContradiction
  intro hc
  rw [h3 (by omega) (by omega) (by omega) hk hk5] at hl; omega
 rw [h1 hk3] at hl
 exact ⟨hk3, List.length_eq_zero_iff.1 (by omega)⟩
theorem B0w {cx : Cx} {e : Tm} {T : Ty} (hc : cv e) (h : I4 cx e = some T) : F4 T = true := by
 obtain ⟨k, nm, num, ty, fr, lb, ks⟩ := e
 exact B5s (fun hk => (hc.node.1.c14 hk).2.1) h
section inv
variable {cx : Cx} {nm : ByteArray} {num : Int} {ty fr : Ty} {lb : Int} {a b c : Tm} {T : Ty}
theorem B5G {x y : Ty} (h : A02 [x] [y] = true) : x = y := by
 simp only [A02, Bool.and_true] at h; exact (Z2 _ _).1 h
theorem B0x {x y x' y' : Ty} (h : A02 [x, y] [x', y'] = true) : x = x' ∧ y = y' := by
 simp only [A02, Bool.and_true, Bool.and_eq_true] at h; exact ⟨(Z2 _ _).1 h.1, (Z2 _ _).1 h.2⟩
theorem B5H {x y z x' y' z' : Ty} (h : A02 [x, y, z] [x', y', z'] = true) : x = x' ∧ y = y' ∧ z = z' := by
 simp only [A02, Bool.and_true, Bool.and_eq_true] at h; exact ⟨(Z2 _ _).1 h.1, (Z2 _ _).1 h.2.1, (Z2 _ _).1 h.2.2⟩
theorem A5H : ∀ xs : List Ty, A02 xs xs = true
 | [] => rfl
 | a :: xs => by rw [A02, A6M, A5H xs]; rfl
theorem B5I (h : I4 cx (.mk 6 nm num ty fr lb [a, b]) = some T) : ∃ A, I4 cx a = some (.mk 4 [A, T]) ∧ I4 cx b = some A := by
 obtain ⟨us, hu, _, hn⟩ := A1C h
 rw [K1, if_neg (by omega)] at hu
 obtain ⟨x, y, hx, hy, rfl⟩ := A5G hu
 obtain ⟨_, w, hw, hs⟩ := hn (by decide)
 unfold J6 at hw
 simp only [show ¬((6 : Int) = 1) by decide, show ¬((6 : Int) = 2) by decide, show ¬((6 : Int) = 3 ∨ (6 : Int) = 4) by decide, show ¬((6 : Int) = 5) by decide, if_false, if_true, List.getD_cons_zero, List.getD_cons_succ] at hw
 split at hw
 ·rename_i p q hm
  split at hw
  ·cases hw
   obtain ⟨h1, h2⟩ := B0x hs
   subst h1 h2
   exact ⟨_, hx, hy⟩
  ·cases hw
 ·cases hw
theorem B5J {A : Ty} (hv : F4 T = true) (ha : I4 cx a = some (.mk 4 [A, T])) (hb : I4 cx b = some A) : I4 cx (.mk 6 nm num ty fr lb [a, b]) = some T := by
 refine A7d (us := [.mk 4 [A, T], A]) (w := [.mk 4 [A, T], A]) (B5F ha hb) (by decide) hv ?_ (A5H _)
 unfold J6
 simp only [show ¬((6 : Int) = 1) by decide, show ¬((6 : Int) = 2) by decide, show ¬((6 : Int) = 3 ∨ (6 : Int) = 4) by decide, show ¬((6 : Int) = 5) by decide, if_false, if_true, List.getD_cons_zero, List.getD_cons_succ, A1s, A2u]
theorem B5K {k : Int} (hk : k = 7 ∨ k = 8) (h : I4 cx (.mk k nm num ty fr lb [a, b]) = some T) : I4 cx a = some Q9 ∧ I4 cx b = some Q9 ∧ T = if k = 8 then U9 else Q9 := by
 obtain ⟨us, hu, _, hn⟩ := A1C h
 rw [K1, if_neg (by omega)] at hu
 obtain ⟨x, y, hx, hy, rfl⟩ := A5G hu
 obtain ⟨_, w, hw, hs⟩ := hn (by omega)
 unfold J6 at hw
 rw [if_neg (by omega), if_neg (by omega), if_neg (by omega), if_neg (by omega), if_neg (by omega), if_pos hk] at hw
 split at hw
 ·cases hw
  obtain ⟨h1, h2⟩ := B0x hs
  subst h1 h2
  exact ⟨hx, hy, rfl⟩
 ·cases hw
theorem B5L (h : I4 cx (.mk 9 nm num ty fr lb [a, b, c]) = some T) : I4 cx a = some U9 ∧ I4 cx b = some T ∧ I4 cx c = some T := by
 obtain ⟨us, hu, _, hn⟩ := A1C h
 rw [K1, if_neg (by omega)] at hu
 obtain ⟨x, y, z, hx, hy, hz, rfl⟩ := B5E hu
 obtain ⟨_, w, hw, hs⟩ := hn (by decide)
 unfold J6 at hw
 rw [if_neg (by omega), if_neg (by omega), if_neg (by omega), if_neg (by omega), if_neg (by omega), if_neg (by omega), if_pos rfl] at hw
 split at hw
 ·cases hw
  obtain ⟨h1, h2, h3⟩ := B5H hs
  simp only [List.getD_cons_zero, List.getD_cons_succ] at h2 h3 ⊢
  refine ⟨by rw [hx, h1], by rw [hy]; congr 1; exact h2.symm, by rw [hz]; congr 1; exact h3.symm⟩
 ·cases hw
theorem B0y (h : I4 cx (.mk 10 nm num ty fr lb [a, b]) = some T) : ∃ A B, I4 cx a = some A ∧ I4 cx b = some B ∧ T = .mk 5 [A, B] := by
 obtain ⟨us, hu, _, hn⟩ := A1C h
 rw [K1, if_neg (by omega)] at hu
 obtain ⟨x, y, hx, hy, rfl⟩ := A5G hu
 obtain ⟨_, w, hw, hs⟩ := hn (by decide)
 unfold J6 at hw
 rw [if_neg (by omega), if_neg (by omega), if_neg (by omega), if_neg (by omega), if_neg (by omega), if_neg (by omega), if_neg (by omega), if_pos rfl] at hw
 cases hw
 exact ⟨x, y, hx, hy, rfl⟩
theorem B5M {k : Int} (hk : k = 11 ∨ k = 12) (h : I4 cx (.mk k nm num ty fr lb [a]) = some T) : ∃ A B, I4 cx a = some (.mk 5 [A, B]) ∧ T = if k = 12 then B else A := by
 obtain ⟨us, hu, _, hn⟩ := A1C h
 rw [K1, if_neg (by omega)] at hu
 obtain ⟨x, hx, rfl⟩ := A4H hu
 obtain ⟨_, w, hw, hs⟩ := hn (by omega)
 unfold J6 at hw
 rw [if_neg (by omega), if_neg (by omega), if_neg (by omega), if_neg (by omega), if_neg (by omega), if_neg (by omega), if_neg (by omega), if_neg (by omega), if_neg (by omega)] at hw
 split at hw
 ·rename_i p q hm
  cases hw
  have h1 := B5G hs
  subst h1
  exact ⟨p, q, hx, rfl⟩
 ·cases hw
theorem B0z {k : Int} {A B : Ty} (hk : k = 11 ∨ k = 12) (hv : F4 (if k = 12 then B else A) = true) (h : I4 cx a = some (.mk 5 [A, B])) : I4 cx (.mk k nm num ty fr lb [a]) = some (if k = 12 then B else A) := by
 refine A7d (us := [.mk 5 [A, B]]) (w := [.mk 5 [A, B]]) (by rw [K1, if_neg (by omega)]; exact A7e h) (by omega) hv ?_ (A5H _)
 unfold J6
 rw [if_neg (by omega), if_neg (by omega), if_neg (by omega), if_neg (by omega), if_neg (by omega), if_neg (by omega), if_neg (by omega), if_neg (by omega), if_neg (by omega)]
 simp only [List.getD_cons_zero, A1s, if_true, List.getD_cons_succ]
theorem A4I (h : I4 cx (.mk 14 nm num ty fr lb [a]) = some T) : I4 cx a = some fr ∧ T = ty := by
 obtain ⟨us, hu, hn, _⟩ := A1C h
 obtain ⟨x, hx, rfl⟩ := A4H hu
 obtain ⟨h1, h2⟩ := hn rfl
 simp only [List.getD_cons_zero] at h1
 subst h1
 exact ⟨hx, h2⟩
theorem A2c (h : I4 cx a = some fr) : I4 cx (.mk 14 nm num ty fr lb [a]) = some ty := by
 rw [I4, show K1 cx 14 nm ty = cx from rfl, A7e h]
 simp only [if_true, List.getD_cons_zero, A6M]
theorem B0A (h : I4 cx (.mk 5 nm num ty fr lb [a]) = some T) : ∃ B, I4 (cx ++ [(nm, ty)]) a = some B ∧ T = .mk 4 [ty, B] := by
 obtain ⟨us, hu, _, hn⟩ := A1C h
 rw [K1, if_pos rfl] at hu
 obtain ⟨x, hx, rfl⟩ := A4H hu
 obtain ⟨_, w, hw, hs⟩ := hn (by decide)
 unfold J6 at hw
 rw [if_neg (by omega), if_neg (by omega), if_neg (by omega), if_pos rfl] at hw
 cases hw
 exact ⟨x, hx, rfl⟩
theorem B0B (h : I4 cx (.mk 1 nm num ty fr lb []) = some T) : Q1 cx nm = some T := by
 obtain ⟨us, hu, _, hn⟩ := A1C h
 obtain ⟨_, w, hw, hs⟩ := hn (by decide)
 unfold J6 at hw
 rw [if_pos rfl] at hw
 split at hw
 ·rename_i t ht; cases hw; exact ht
 ·cases hw
theorem B5N (h : I4 cx (.mk 2 nm num ty fr lb []) = some T) : T = Q9 := by
 obtain ⟨us, hu, _, hn⟩ := A1C h
 obtain ⟨_, w, hw, hs⟩ := hn (by decide)
 cases hw; rfl
theorem B5O {k : Int} (hk : k = 3 ∨ k = 4) (h : I4 cx (.mk k nm num ty fr lb []) = some T) : T = U9 := by
 obtain ⟨us, hu, _, hn⟩ := A1C h
 obtain ⟨_, w, hw, hs⟩ := hn (by omega)
 rcases hk with rfl | rfl <;> (cases hw; rfl)
end inv
theorem A1D (cx : Cx) (x nm : ByteArray) (t : Ty) : Q1 (cx ++ [(x, t)]) nm = if x = nm then some t else Q1 cx nm := by
 unfold Q1
 rw [List.length_append, show ([(x, t)] : Cx).length = 1 from rfl]
 have hl : (cx ++ [(x, t)])[cx.length]? = some (x, t) := by rw [List.getElem?_append_right (Nat.le_refl _)]; simp
 by_cases h : x = nm
 ·rw [A4r hl h, if_pos h]
 ·rw [A4s hl h, if_neg h]
  have : ∀ n, n ≤ cx.length → W7 (cx ++ [(x, t)]) nm n = W7 cx nm n := by
   intro n
   induction n with
   | zero => intro _; rfl
   | succ n ih =>
    intro hn
    rw [W7, W7, List.getElem?_append_left (by omega), ih (by omega)]
  exact this _ (Nat.le_refl _)
theorem B5P {cx cy : Cx} (h : ∀ x, Q1 cx x = Q1 cy x) (k : Int) (nm : ByteArray) (ty : Ty) : ∀ x, Q1 (K1 cx k nm ty) x = Q1 (K1 cy k nm ty) x := by
 intro x
 unfold K1
 split
 ·rw [A1D, A1D, h]
 ·exact h x
theorem B0C {cx cy : Cx} {k : Int} {nm : ByteArray} {ty : Ty} {h : List Ty} (he : Q1 cx nm = Q1 cy nm) : U3 cx k nm ty h = U3 cy k nm ty h := by
 unfold U3 J6
 rw [he]
mutual
theorem B5Q : ∀ (e : Tm) (cx cy : Cx), (∀ x, Q1 cx x = Q1 cy x) → I4 cx e = I4 cy e
 | .mk k nm num ty fr lb ks, cx, cy, h => by
  rw [I4, I4, A7g ks _ _ (B5P h k nm ty)]
  split
  ·rfl
  ·rw [B0C (h nm)]
theorem A7g : ∀ (ts : List Tm) (cx cy : Cx), (∀ x, Q1 cx x = Q1 cy x) → N0 cx ts = N0 cy ts
 | [], _, _, _ => by rw [N0, N0]
 | t :: ts, cx, cy, h => by rw [N0, N0, B5Q t cx cy h, A7g ts cx cy h]
end
theorem B5R {cx cy : Cx} {k : Int} {nm : ByteArray} {ty : Ty} {h : List Ty} (hk : k ≠ 1) : J6 cx k nm ty h = J6 cy k nm ty h := by
 unfold J6
 rw [if_neg hk, if_neg hk]
theorem B0D {cx cy : Cx} {k : Int} {nm : ByteArray} {ty : Ty} {h : List Ty} (hk : k ≠ 1) : U3 cx k nm ty h = U3 cy k nm ty h := by
 unfold U3; rw [B5R (cy := cy) hk]
mutual
theorem B0E {x : ByteArray} {A : Ty} {v : Tm} (hv : I4 [] v = some A) : ∀ (e : Tm) (cx cy : Cx) (T : Ty), cv e → (∀ y, y ≠ x → Q1 cx y = Q1 cy y) → Q1 cx x = some A → I4 cx e = some T → I4 cy (S2 x v e) = some T
 | .mk k nm num ty fr lb ks, cx, cy, T, hc, h, hx, ht => by
  have hkk := hc.node.2
  have hop := hc.node.1.ops
  rw [S2]
  by_cases h1 : k = 1 ∧ nm = x
  ·rw [if_pos h1]
   obtain ⟨rfl, rfl⟩ := h1
   have hks : ks = [] := List.length_eq_zero_iff.1 (by have : D9 1 = 0 := rfl; omega)
   subst hks
   have h2 := B0B ht
   rw [hx] at h2
   cases h2
   have h3 := B0m cy v [] A hv
   rwa [List.append_nil] at h3
  ·rw [if_neg h1]
   by_cases h5 : k = 5 ∧ nm = x
   ·rw [if_pos h5]
    obtain ⟨rfl, rfl⟩ := h5
    rw [I4] at ht ⊢
    rw [← A7g ks (K1 cx 5 nm ty) (K1 cy 5 nm ty) (fun y => by
     rw [K1, K1, if_pos rfl, if_pos rfl, A1D, A1D]
     by_cases hy : nm = y
     ·rw [if_pos hy, if_pos hy]
     ·rw [if_neg hy, if_neg hy]; exact h y (fun e => hy e.symm))]
    split at ht
    ·cases ht
    ·rename_i us hu
     rw [B0D (cy := cx) (by decide)]
     exact ht
   ·rw [if_neg h5]
    rw [I4] at ht ⊢
    have hin : ∀ us, N0 (K1 cx k nm ty) ks = some us → N0 (K1 cy k nm ty) (R0 x v ks) = some us := by
     intro us hu
     refine B0F hv ks _ _ us hkk ?_ ?_ hu
     ·intro y hy
      unfold K1
      split
      ·rw [A1D, A1D, h y hy]
      ·exact h y hy
     ·unfold K1
      split
      ·rename_i hk
       rw [A1D, if_neg (fun e => h5 ⟨hk, e⟩)]; exact hx
      ·exact hx
    split at ht
    ·cases ht
    ·rename_i us hu
     rw [hin us hu]
     simp only at ht ⊢
     by_cases hk1 : k = 1
     ·subst hk1
      have hn : nm ≠ x := fun e => h1 ⟨rfl, e⟩
      rw [B0C (h nm hn)] at ht
      exact ht
     ·rw [B0D (cy := cx) hk1]
      exact ht
theorem B0F {x : ByteArray} {A : Ty} {v : Tm} (hv : I4 [] v = some A) : ∀ (ts : List Tm) (cx cy : Cx) (us : List Ty), (∀ t ∈ ts, cv t) → (∀ y, y ≠ x → Q1 cx y = Q1 cy y) → Q1 cx x = some A → N0 cx ts = some us → N0 cy (R0 x v ts) = some us
 | [], cx, cy, us, _, _, _, hu => by rw [N0] at hu; cases hu; rw [R0, N0]
 | t :: ts, cx, cy, us, hc, h, hx, hu => by
  rw [N0] at hu
  split at hu
  ·cases hu
  ·rename_i T hT
   split at hu
   ·cases hu
   ·rename_i Ts hTs
    cases hu
    rw [R0, N0, B0E hv t cx cy T (hc t List.mem_cons_self) h hx hT, B0F hv ts cx cy Ts (fun u hu => hc u (List.mem_cons_of_mem _ hu)) h hx hTs]
end
theorem A4J {cx : Cx} : ∀ {ks : List Tm} {i : Nat} (hi : i < ks.length) {l l' l2 : Int} {us : List Tm} {h : List Ty} {u : Tm} {a : Ty}, L6 cx (ks.take i) l = some (us, h, l') → M8 cx ks[i] l' = some (u, a, l2) → L6 cx (ks.take (i + 1)) l = some (us ++ [u], h ++ [a], l2)
 | [], i, hi, _, _, _, _, _, _, _, _, _ => by simp at hi
 | t :: ts, 0, _, l, l', l2, us, h, u, a, h1, h2 => by
  simp only [List.take_zero, L6, Option.some.injEq, Prod.mk.injEq] at h1
  obtain ⟨rfl, rfl, rfl⟩ := h1
  simp only [List.getElem_cons_zero] at h2
  simp [L6, h2]
 | t :: ts, i + 1, hi, l, l', l2, us, h, u, a, h1, h2 => by
  simp only [List.take_succ_cons, L6] at h1 ⊢
  split at h1
  ·cases h1
  ·rename_i u1 a1 l1 he
   split at h1
   ·cases h1
   ·rename_i us1 h1' l1' hL
    simp only [Option.some.injEq, Prod.mk.injEq] at h1
    obtain ⟨rfl, rfl, rfl⟩ := h1
    simp only [List.getElem_cons_succ] at h2
    have := A4J (ks := ts) (i := i) (by simpa using hi) hL h2
    simp only [this, List.cons_append]
theorem A7h {cx : Cx} : ∀ {ks : List Tm} {i : Nat} (hi : i < ks.length) {l l' : Int} {us : List Tm} {h : List Ty}, L6 cx (ks.take i) l = some (us, h, l') → M8 cx ks[i] l' = none → L6 cx ks l = none
 | [], i, hi, _, _, _, _, _, _ => by simp at hi
 | t :: ts, 0, _, l, l', us, h, h1, h2 => by
  simp only [List.take_zero, L6, Option.some.injEq, Prod.mk.injEq] at h1
  obtain ⟨rfl, rfl, rfl⟩ := h1
  simp only [List.getElem_cons_zero] at h2
  simp [L6, h2]
 | t :: ts, i + 1, hi, l, l', us, h, h1, h2 => by
  simp only [List.take_succ_cons, L6] at h1 ⊢
  split at h1
  ·cases h1
  ·rename_i u1 a1 l1 he
   split at h1
   ·cases h1
   ·rename_i us1 h1' l1' hL
    simp only [Option.some.injEq, Prod.mk.injEq] at h1
    obtain ⟨rfl, rfl, rfl⟩ := h1
    simp only [List.getElem_cons_succ] at h2
    have := A7h (ks := ts) (i := i) (by simpa using hi) hL h2
    simp only [this]
theorem W1 (us : List Tm) (h : List Ty) (l : Int) : E9 us h [] l = (us, l) := by
 cases us with
 | nil => rfl
 | cons u us => cases h <;> rfl
theorem A4K : ∀ (us : List Tm) (h w : List Ty) (l : Int) (j : Nat) (hj : j < w.length) (hu : w.length ≤ us.length) (hh : w.length ≤ h.length),
  (E9 us h (w.take j) l).1.length = us.length ∧ (∀ (hq : j < (E9 us h (w.take j) l).1.length), (E9 us h (w.take j) l).1[j] = us[j]'(by omega)) ∧
  E9 us h (w.take (j + 1)) l = if N3 (h[j]'(by omega)) w[j] = true then E9 us h (w.take j) l else ((E9 us h (w.take j) l).1.set j (K5 (us[j]'(by omega)) (h[j]'(by omega)) w[j] ((E9 us h (w.take j) l).2 + 1)), (E9 us h (w.take j) l).2 + 1)
 | us, h, [], l, j, hj, _, _ => by simp at hj
 | [], h, b :: w, l, j, _, hu, _ => by simp at hu
 | u :: us, [], b :: w, l, j, _, _, hh => by simp at hh
 | u :: us, a :: h, b :: w, l, 0, _, _, _ => by
  refine ⟨by simp [E9], by simp [E9], ?_⟩
  simp only [List.take_succ_cons, List.take_zero, E9, W1, List.getElem_cons_zero, List.set_cons_zero]
 | u :: us, a :: h, b :: w, l, j + 1, hj, hu, hh => by
  simp only [List.take_succ_cons, List.getElem_cons_succ]
  by_cases hs : N3 a b = true
  ·have ih := A4K us h w l j (by simpa using hj) (by simpa using hu) (by simpa using hh)
   simp only [E9, if_pos hs]
   obtain ⟨i1, i2, i3⟩ := ih
   refine ⟨by simp [i1], fun hq => by simp [i2], ?_⟩
   rw [i3]
   split <;> simp
  ·have ih := A4K us h w (l + 1) j (by simpa using hj) (by simpa using hu) (by simpa using hh)
   simp only [E9, if_neg hs]
   obtain ⟨i1, i2, i3⟩ := ih
   refine ⟨by simp [i1], fun hq => by simp [i2], ?_⟩
   rw [i3]
   split <;> simp
theorem A2d : ∀ (us : List Tm) (h w : List Ty) (l : Int), (E9 us h w l).1.length = us.length
 | [], h, w, l => by simp [E9]
 | u :: us, [], w, l => by simp [E9]
 | u :: us, a :: h, [], l => by simp [E9]
 | u :: us, a :: h, b :: w, l => by
  simp only [E9]
  split
  ·simp [A2d us h w l]
  ·simp [A2d us h w (l + 1)]
theorem B0G {us : List Tm} {h w : List Ty} {l : Int} {j : Nat} (hj : j < w.length) (hu : w.length ≤ us.length) (hh : w.length ≤ h.length) :
  (E9 us h (w.take (j + 1)) l).1 = (E9 us h (w.take j) l).1.set j (if N3 (h[j]'(by omega)) w[j] = true then us[j]'(by omega) else K5 (us[j]'(by omega)) (h[j]'(by omega)) w[j] ((E9 us h (w.take j) l).2 + 1)) ∧
  (E9 us h (w.take (j + 1)) l).2 = (if N3 (h[j]'(by omega)) w[j] = true then (E9 us h (w.take j) l).2 else (E9 us h (w.take j) l).2 + 1) := by
 obtain ⟨h1, h2, h3⟩ := A4K us h w l j hj hu hh
 by_cases hs : N3 (h[j]'(by omega)) w[j] = true
 ·rw [h3, if_pos hs, if_pos hs, if_pos hs]
  refine ⟨?_, rfl⟩
  rw [← h2 (by omega), List.set_getElem_self]
 ·rw [h3, if_neg hs, if_neg hs, if_neg hs]
  exact ⟨rfl, rfl⟩
theorem A1E : ∀ (us : List Tm) (h w : List Ty) (l : Int), l ≤ (E9 us h w l).2 ∧ (E9 us h w l).2 ≤ l + us.length
 | [], h, w, l => by simp [E9]
 | u :: us, [], w, l => by simp [E9]; omega
 | u :: us, a :: h, [], l => by simp [E9]; omega
 | u :: us, a :: h, b :: w, l => by
  simp only [E9]
  split
  ·have := A1E us h w l; simp only [List.length_cons]; omega
  ·have := A1E us h w (l + 1); simp only [List.length_cons]; omega
mutual
def A2e : Ty → Ty → Bool
 | .mk k ks, t => decide (t.k = 1) || (decide (k = t.k) && A0J ks t.ks)
def A0J : List Ty → List Ty → Bool
 | [], [] => true
 | a :: xs, b :: ys => A2e a b && A0J xs ys
 | _, _ => false
end
theorem A1F (k k' : Int) (ks ks' : List Ty) : A2e (.mk k ks) (.mk k' ks') = (decide (k' = 1) || (decide (k = k') && A0J ks ks')) := by rw [A2e]; rfl
mutual
def A29 : Tm → Tm → Bool
 | .mk k nm num ty _ _ ks, u => decide (k = u.k ∧ nm = u.nm ∧ num = u.num) && (decide (k ≠ 5 ∧ k ≠ 13) || A2e ty u.ty) && A2v ks u.ks
def A2v : List Tm → List Tm → Bool
 | [], [] => true
 | a :: xs, b :: ys => A29 a b && A2v xs ys
 | _, _ => false
end
theorem B0H {k k' : Int} {nm nm' : ByteArray} {num num' : Int} {ty ty' fr fr' : Ty} {lb lb' : Int} {ks ks' : List Tm} :
  A29 (.mk k nm num ty fr lb ks) (.mk k' nm' num' ty' fr' lb' ks') = true ↔ k = k' ∧ nm = nm' ∧ num = num' ∧ (k = 5 ∨ k = 13 → A2e ty ty' = true) ∧ A2v ks ks' = true := by
 rw [A29]
 show (decide (k = k' ∧ nm = nm' ∧ num = num') && (decide (k ≠ 5 ∧ k ≠ 13) || A2e ty ty') && A2v ks ks') = true ↔ _
 simp only [Bool.and_eq_true, Bool.or_eq_true, decide_eq_true_eq]
 constructor
 ·rintro ⟨⟨⟨a, b, c⟩, e⟩, d⟩
  exact ⟨a, b, c, fun h => e.resolve_left (by omega), d⟩
 ·rintro ⟨a, b, c, e, d⟩
  refine ⟨⟨⟨a, b, c⟩, ?_⟩, d⟩
  by_cases h : k = 5 ∨ k = 13
  ·exact .inr (e h)
  ·exact .inl (by omega)
def A5I (a b : Tm) : Bool := T5 a && (T5 b && A29 a b)
end Gw
end Go.Proofs.YtebfignffjhnhaaGreatDoor
