/-
  Casts put in: one cast, the types that are asked for. InsertCasts of the reference model: it ends, and what it gives is not much bigger than what it is given. Which names are free, at which place a name is bound: what comes out is small. Evaluation of terms with casts, in plain words. What a step gives is small. A function that only reads may be handed an own slice. The program's functions on types and contexts: each computes what the plain words say. The program's evaluator: proxies, injections, values, casts. The program's evaluator: values, casts, nodes. The program's evaluator: replacing a name, casts, nodes. Terms each node of which is changed, with a number that goes on from node to node. A calculus of casts, with types as trees: what is more precise stays so (the gradual guarantee). The calculus of casts is that of the evaluation.
-/
import Derived.Test.YtfpgncjeejickaaGreatDoorKa3
import Derived.Test.YtfpgncjeejickaaGreatDoorKa2
import Derived.Test.YtfpgncjeejickaaGreatDoorKa0
import Derived.Test.YtfpgncjeejickaaGreatDoorKa1
import Init
set_option linter.unusedVariables false
set_option linter.unusedSimpArgs false
set_option maxHeartbeats 0
set_option maxRecDepth 100000
set_option synthInstance.maxSize 4000
set_option synthInstance.maxHeartbeats 0
namespace Go.Proofs.YtfpgncjeejickaaGreatDoor
open Go Go.RowKit
namespace Gw
theorem B3a (t : Ty) (G : IM) (cells : List Value) (B : Int) (hB : 0 ≤ B) (hr : B2 G t cells) :
  Fn Tryz.prog 149 [.agg ⟨cells⟩, .bool false] [] G (TyB B G) := by
 obtain ⟨q, d, es, rfl, _⟩ := hr.open
 refine B6 Tryz.func149 rfl Tryz.ntmps149 Tryz.results149 rfl ?_
 intro w0
 refine tS (tR ?_)
 refine sE (C4 rfl rfl) rfl (fun b3 => ?_)
 refine sE (A6 rfl) rfl (fun b4 => ?_)
 refine A0d ?_
 refine C5 (rC rfl (A4 rfl rfl)) (rT rfl) ?_
 (exact ⟨rfl, _, _, _, rfl, K5 _ ⟨by omega, by omega⟩, N1 (by omega) (by omega), by rw [X9]; omega⟩)
theorem B3b (t : Ty) (G : IM) (cells : List Value) (B : Int) (hr : B2 G t cells) (ha : D4 t) (hs : H4 t ≤ B) :
  Fn Tryz.prog 149 [.agg ⟨cells⟩, .bool true] [] G (TyB B G) := by
 obtain ⟨q, d, es, rfl, _⟩ := hr.open
 refine B6 Tryz.func149 rfl Tryz.ntmps149 Tryz.results149 rfl ?_
 intro w0
 refine tS (tR ?_)
 refine sE (C4 rfl rfl) rfl (fun b3 => ?_)
 refine sE (A6 rfl) rfl (fun b4 => ?_)
 refine Z3 ?_
 refine C5 (rC rfl (A4 rfl rfl)) (rT rfl) ?_
 (exact ⟨rfl, _, _, _, rfl, hr, ha, hs⟩)
theorem B3c (t : Ty) (x : Bool) (G : IM) (cells : List Value) (B : Int) (hB : 0 ≤ B) (hr : B2 G t cells) (ha : D4 t) (hs : H4 t ≤ B) :
  Fn Tryz.prog 149 [.agg ⟨cells⟩, .bool x] [] G (TyB B G) := by
 cases x
 ·exact B3a t G cells B hB hr
 ·exact B3b t G cells B hr ha hs
def TyV (e : Tm) (G : IM) : IM → Value → List A5 → Prop := L2 fun G' v => ∃ t cells b, v = .tuple ⟨[.agg ⟨cells⟩, .bool b]⟩ ∧ B2 G' t cells ∧ D4 t ∧ H4 t ≤ 960 ∧ (b = true → A0L e = true)
theorem B3d (e : Tm) (G : IM) (cells : List Value) (hcnt : E7 e ≤ 4294967296) (hr : A8 G e cells) :
  Fn Tryz.prog 184 [.slice none 0 0, .agg ⟨cells⟩] [] G (TyV e G) := by
 have hl := hr.len
 have hone := hr.one
 have hw := A8x e G cells hcnt hr
 have hT := fun h : A0L e = true => A8L e 1 G none 0 0 cells ((A4z e).1 h).1 (by omega) (T5.nil G) hr
 have hc := fun h : A0L e = true => ((A4z e).1 h).2
 refine B6 Tryz.func184 rfl Tryz.ntmps184 Tryz.results184 rfl ?_
 intro w0
 refine tS (tR ?_)
 refine sE (C4 rfl rfl) rfl (fun b3 => ?_)
 refine sE (A6 rfl) rfl (fun b4 => ?_)
 refine D5 ?_
 refine E8 rfl ((B24 _)) rfl rfl ?_
 refine sQ (Q5 rfl) rfl (sQ (qM rfl) rfl ?_)
 refine sL (A3 rfl rfl (A7 (by repeat first | exact mH | apply mT)) (by assumption)) rfl rfl ?_
 refine F4 rfl (hw) rfl rfl (fun h16 => ?_) (fun h16 => ?_)
 refine I8 ?_
 refine sL (A3 rfl rfl (A7 (by repeat first | exact mH | apply mT)) (by assumption)) rfl rfl ?_
 (refine D7 rfl (hT (by assumption)) rfl rfl (fun v G1 hle1 hh => ?_); obtain ⟨mt, mc, mx, rfl, hmr, hma, hms⟩ := hh; obtain ⟨p1, c1, e1, rfl, _⟩ := hmr.open; have hcc := hc (by assumption))
 refine sQ (pX rfl rfl) rfl (sQ (pX rfl rfl) rfl ?_)
 (refine D7 rfl (B3c mt mx _ _ 960 (by omega) hmr hma (by omega)) rfl rfl (fun v G2 hle2 hh => ?_); obtain ⟨mt2, mc2, mx2, rfl, hmr2, hma2, hms2⟩ := hh; obtain ⟨p2, c2, e2, rfl, _⟩ := hmr2.open)
 refine D5 ?_
 refine C5 (rC rfl (A4 rfl rfl)) (rT rfl) ?_
 (exact ⟨rfl, _, _, _, rfl, hmr2, hma2, hms2, fun _ => by assumption⟩)
 refine O0 ?_
 refine C5 (rC rfl (A4 rfl rfl)) (rT rfl) ?_
 (exact ⟨rfl, _, _, _, rfl, K5 _ ⟨by omega, by omega⟩, N1 (by omega) (by omega), by rw [X9]; omega, fun h => absurd h (by decide)⟩)
theorem A8Q (e : Tm) (G : IM) (cells : List Value) (hcnt : E7 e ≤ 4294967296) (hr : A8 G e cells) :
  Fn Tryz.prog 129 [.agg ⟨cells⟩] [] G (TyV e G) := by
 have hl := hr.len
 have hone := hr.one
 refine B6 Tryz.func129 rfl Tryz.ntmps129 Tryz.results129 rfl ?_
 intro w0
 refine tS (tR ?_)
 refine sE (C4 rfl rfl) rfl (fun b3 => ?_)
 refine sE (A6 rfl) rfl (fun b4 => ?_)
 refine sQ (qA rfl) rfl (sD (nS (tS (tR ?_))))
 refine sL (A3 rfl rfl (A7 (by repeat first | exact mH | apply mT)) (by assumption)) rfl rfl ?_
 (refine D7 rfl (B3d e G cells hcnt hr) rfl rfl (fun v G1 hle1 hh => ?_); obtain ⟨mt, mc, mx, rfl, hmr, hma, hms, hmv⟩ := hh; obtain ⟨p1, c1, e1, rfl, _⟩ := hmr.open)
 refine D5 ?_
 refine C5 (rC rfl (A4 rfl rfl)) (rT rfl) ?_
 (exact ⟨rfl, _, _, _, rfl, hmr, hma, hms, hmv⟩)
theorem A2u {G : IM} {e : Tm} {ce : List Value} {p : Option Addr} {c : Nat} (hr : A8 G e ce) (hs : Sl G p 1 c 9 ce) : C9 G p [e].length c 9 [ce] ∧ E5 G [e] [ce] := by
 refine ⟨C9.of (by simpa using hs) rfl (fun x hx => by simp only [List.mem_singleton] at hx; subst hx; exact hr.len) (fun x hx => by simp only [List.mem_singleton] at hx; subst hx; exact hr.one), ?_⟩
 simp only [E5]
 exact ⟨ce, [], rfl, hr, rfl⟩
def B3e (e : Tm) (label : Int) (G : IM) : IM → Value → List A5 → Prop := L2 fun G' v => ∃ u cu l', v = .tuple ⟨[.agg ⟨cu⟩, .int .i64 l']⟩ ∧ A8 G' u cu ∧ (e.small → u.small) ∧ E7 u ≤ E7 e + 1 ∧ label ≤ l' ∧ l' ≤ label + 1
theorem A3J (e : Tm) (a b : Ty) (label : Int) (G : IM) (ce ca cb : List Value) (hlab : -1099511627776 ≤ label ∧ label ≤ 1099511627776) (hr : A8 G e ce) (hra : B2 G a ca) (hrb : B2 G b cb) (ha : D4 a) (hb : D4 b) :
  Fn Tryz.prog 108 [.agg ⟨ce⟩, .agg ⟨ca⟩, .agg ⟨cb⟩, .int .i64 label] [] G (B3e e label G) := by
 have hl := hr.len
 have hone := hr.one
 obtain ⟨hlab1, hlab2⟩ := hlab
 have hsa := ha.small
 have hsb := hb.small
 have hSame := B22 a b G ca cb hra hrb
 obtain ⟨ak, aks⟩ := a
 obtain ⟨bk, bks⟩ := b
 obtain ⟨pa, cca, ea, rfl, _⟩ := hra.open
 obtain ⟨pb, ccb, eb, rfl, _⟩ := hrb.open
 simp only [Ty.k, Ty.ks] at hra hrb hSame ⊢
 obtain ⟨v1, v2, v3, v4, v5, v6, v7, v8, v9, rfl⟩ : ∃ v1 v2 v3 v4 v5 v6 v7 v8 v9, ce = [v1, v2, v3, v4, v5, v6, v7, v8, v9] := (by obtain ⟨_, _, _, _, _, _, _, _, _, rfl, _⟩ := hr.open; exact ⟨_, _, _, _, _, _, _, _, _, rfl⟩)
 refine B6 Tryz.func108 rfl Tryz.ntmps108 Tryz.results108 rfl ?_
 intro w0
 refine tS (tR ?_)
 refine sE (C4 rfl rfl) rfl (fun b3 => ?_)
 refine sE (C4 rfl rfl) rfl (fun b4 => ?_)
 refine sE (C4 rfl rfl) rfl (fun b5 => ?_)
 refine sE (A6 rfl) rfl (fun b6 => ?_)
 refine F8 ?_
 (refine A4i rfl hSame rfl rfl (fun v Go outs hle hh => ?_); obtain ⟨rfl, ⟨x, rfl⟩, rfl⟩ := hh; cases x)
 refine sD (nS (cF rfl (tK (nS (tS ?_)))))
 refine D1 D2 rfl ?_
 refine N8 (i := 5) (l' := [ff,ff,ff,ff,ff,tt,ff,ff,ff,ff,ff,ff]) rfl C8 (A3 rfl rfl (A7 (by repeat first | exact mH | apply mT)) hl) rfl (by kernel_rfl) rfl rfl ?_
 refine aL 0 rfl (A4 rfl rfl) rfl ?_
 refine aL 2 rfl (A4 rfl rfl) rfl ?_
 refine aP 4 rfl (qM rfl) rfl ?_
 refine aP 8 rfl (qM rfl) rfl ?_
 refine aP 9 rfl (M8 rfl rfl (by omega) (by omega)) rfl ?_
 refine Q0 (j := 1) (j' := 6) (by kernel_rfl) ?_ ?_
 (refine E3 rfl rfl (Q3 _ _ _ hsa hra) rfl rfl rfl (fun v G1 hle1 hh => ?_); obtain ⟨K9, F1, rfl, hs1, hn1⟩ := hh; obtain ⟨p1, c1, rfl, _⟩ := hs1.open; have hC2 := Q3 _ G1 _ hsb (hrb.mono hle1))
 refine Q0 (j := 3) (j' := 6) (by kernel_rfl) ?_ ?_
 (refine E3 rfl rfl hC2 rfl rfl rfl (fun v G2 hle2 hh => ?_); obtain ⟨cs2, F2, rfl, hs2, hn2⟩ := hh; obtain ⟨p2, c2, rfl, _⟩ := hs2.open; have hr1 := hs1.R.mono ((C2.le G1 _).trans hle2); have hr2 := hs2.R.mono (C2.le G2 G1); have hre := hr.mono (hle1.trans hle2))
 refine A2 6 ?_
 (refine D9 rfl (D0 rfl rfl rfl (by omega) (by unfold maxLen; omega) rfl) rfl rfl ?_; rintro _ ⟨b34, rfl⟩)
 refine aP 7 rfl (Q9 rfl rfl) rfl ?_
 refine A2 10 ?_
 refine M3 rfl rfl rfl rfl rfl rfl rfl rfl (by kernel_rfl) (by repeat first | exact Sw.here | apply Sw.there) (by rfl) ?_
 refine aP 11 rfl (qA rfl) rfl ?_
 refine C0 (nS ?_)
 (refine I6 (cs := [v1, v2, v3, v4, v5, v6, v7, v8, v9]) (by repeat (first | exact Pk.here | apply Pk.there)) (fun G5 hle5 hsl5 hno5 => ?_); obtain ⟨hone1, hone2⟩ := A2u (hre.mono hle5) hsl5)
 refine tT ?_
 refine C5 (rC rfl (A4 rfl rfl)) (rT rfl) ?_
 (refine ⟨rfl, _, _, _, rfl, A8.of9 (ks := [e]) ⟨by omega, by omega⟩ ⟨by omega, by omega⟩ ⟨by omega, by omega⟩ (hr2.mono hle5) (hr1.mono hle5) hone1 hone2, fun h => ?_, ?_, by omega, by omega⟩; (try (simp only [Tm.small, Tm.smallL, ByteArray.size]; exact ⟨by simp, hsb, hsa, by simp, h, trivial⟩)); (try (simp only [E7, H3]; omega)))
 (refine D9 rfl (D0 rfl rfl rfl (by omega) (by unfold maxLen; omega) rfl) rfl rfl ?_; rintro _ ⟨b45, rfl⟩)
 refine A2 3 ?_
 (refine E3 rfl rfl hC2 rfl rfl rfl (fun v G2 hle2 hh => ?_); obtain ⟨cs2, F2, rfl, hs2, hn2⟩ := hh; obtain ⟨p2, c2, rfl, _⟩ := hs2.open; have hr1 := hs1.R.mono ((C2.le G1 _).trans hle2); have hr2 := hs2.R.mono (C2.le G2 G1); have hre := hr.mono (hle1.trans hle2))
 refine aP 7 rfl (Q9 rfl rfl) rfl ?_
 refine A2 10 ?_
 refine M3 rfl rfl rfl rfl rfl rfl rfl rfl (by kernel_rfl) (by repeat first | exact Sw.here | apply Sw.there) (by rfl) ?_
 refine aP 11 rfl (qA rfl) rfl ?_
 refine C0 (nS ?_)
 (refine I6 (cs := [v1, v2, v3, v4, v5, v6, v7, v8, v9]) (by repeat (first | exact Pk.here | apply Pk.there)) (fun G5 hle5 hsl5 hno5 => ?_); obtain ⟨hone1, hone2⟩ := A2u (hre.mono hle5) hsl5)
 refine tT ?_
 refine C5 (rC rfl (A4 rfl rfl)) (rT rfl) ?_
 (refine ⟨rfl, _, _, _, rfl, A8.of9 (ks := [e]) ⟨by omega, by omega⟩ ⟨by omega, by omega⟩ ⟨by omega, by omega⟩ (hr2.mono hle5) (hr1.mono hle5) hone1 hone2, fun h => ?_, ?_, by omega, by omega⟩; (try (simp only [Tm.small, Tm.smallL, ByteArray.size]; exact ⟨by simp, hsb, hsa, by simp, h, trivial⟩)); (try (simp only [E7, H3]; omega)))
 (refine D9 rfl (D0 rfl rfl rfl (by omega) (by unfold maxLen; omega) rfl) rfl rfl ?_; rintro _ ⟨b58, rfl⟩)
 refine A2 1 ?_
 (refine E3 rfl rfl (Q3 _ _ _ hsa hra) rfl rfl rfl (fun v G1 hle1 hh => ?_); obtain ⟨K9, F1, rfl, hs1, hn1⟩ := hh; obtain ⟨p1, c1, rfl, _⟩ := hs1.open; have hC2 := Q3 _ G1 _ hsb (hrb.mono hle1))
 refine A2 3 ?_
 (refine E3 rfl rfl hC2 rfl rfl rfl (fun v G2 hle2 hh => ?_); obtain ⟨cs2, F2, rfl, hs2, hn2⟩ := hh; obtain ⟨p2, c2, rfl, _⟩ := hs2.open; have hr1 := hs1.R.mono ((C2.le G1 _).trans hle2); have hr2 := hs2.R.mono (C2.le G2 G1); have hre := hr.mono (hle1.trans hle2))
 refine aP 7 rfl (Q9 rfl rfl) rfl ?_
 refine A2 10 ?_
 refine M3 rfl rfl rfl rfl rfl rfl rfl rfl (by kernel_rfl) (by repeat first | exact Sw.here | apply Sw.there) (by rfl) ?_
 refine aP 11 rfl (qA rfl) rfl ?_
 refine C0 (nS ?_)
 (refine I6 (cs := [v1, v2, v3, v4, v5, v6, v7, v8, v9]) (by repeat (first | exact Pk.here | apply Pk.there)) (fun G5 hle5 hsl5 hno5 => ?_); obtain ⟨hone1, hone2⟩ := A2u (hre.mono hle5) hsl5)
 refine tT ?_
 refine C5 (rC rfl (A4 rfl rfl)) (rT rfl) ?_
 (refine ⟨rfl, _, _, _, rfl, A8.of9 (ks := [e]) ⟨by omega, by omega⟩ ⟨by omega, by omega⟩ ⟨by omega, by omega⟩ (hr2.mono hle5) (hr1.mono hle5) hone1 hone2, fun h => ?_, ?_, by omega, by omega⟩; (try (simp only [Tm.small, Tm.smallL, ByteArray.size]; exact ⟨by simp, hsb, hsa, by simp, h, trivial⟩)); (try (simp only [E7, H3]; omega)))
 refine sD (nS (qT rfl (tS (tR ?_))))
 refine sL (A3 rfl rfl (A7 (by repeat first | exact mH | apply mT)) hl) rfl rfl ?_
 refine sQ (qM rfl) rfl ?_
 refine sS rfl rfl rfl hl hone rfl ?_ (hu := by exact C1 hl.symm)
 refine sQ (qA rfl) rfl (sD (nS (tT (rS ?_))))
 refine C5 (rC rfl (A3 rfl rfl (A7 (by repeat first | exact mH | apply mT)) hl)) (rT rfl) ?_
 (exact ⟨rfl, e, _, _, rfl, hr, fun h => h, by omega, by omega, by omega⟩)
def W4 (n : Nat) (G : IM) : IM → Value → List A5 → Prop := L2 fun G' v => ∃ p c es ws, v = .slice p n c ∧ ws.length = n ∧ C9 G' p n c 2 es ∧ E0 G' ws es ∧ ∀ w ∈ ws, D4 w
theorem W4.mk {G G' : IM} {p : Option Addr} {n c : Nat} {ws : List Ty} {es : List (List Value)} (hl : ws.length = n) (hs : Sl G' p n c 2 es.flatten) (hst : E0 G' ws es) (ha : ∀ w ∈ ws, D4 w) : W4 n G G' (.slice p n c) [] :=
 ⟨rfl, p, c, es, ws, rfl, hl, C9.of hs (by rw [hst.len, hl]) hst.all (fun e he => (hst.each e he).2), hst, ha⟩
theorem W4.mk1 {G G' : IM} {p : Option Addr} {n c : Nat} {a : Ty} {ca : List Value} (hn : n = 1) (hs : Sl G' p 1 c 2 ca) (ha : B2 G' a ca) (h1 : D4 a) : W4 n G G' (.slice p 1 c) [] := by
 subst hn
 exact W4.mk (ws := [a]) (es := [ca]) rfl (by simpa using hs) ⟨_, _, rfl, ha, rfl⟩ (by simp [h1])
theorem W4.mk2 {G G' : IM} {p : Option Addr} {n c : Nat} {a b : Ty} {ca cb : List Value} (hn : n = 2) (hs : Sl G' p 2 c 2 (ca ++ cb)) (ha : B2 G' a ca) (hb : B2 G' b cb) (h1 : D4 a) (h2 : D4 b) : W4 n G G' (.slice p 2 c) [] := by
 subst hn
 exact W4.mk (ws := [a, b]) (es := [ca, cb]) rfl (by simpa using hs) ⟨_, _, rfl, ha, _, _, rfl, hb, rfl⟩ (by simp [h1, h2])
theorem W4.mk3 {G G' : IM} {p : Option Addr} {n c : Nat} {a b d : Ty} {ca cb cd : List Value} (hn : n = 3) (hs : Sl G' p 3 c 2 (ca ++ (cb ++ cd))) (ha : B2 G' a ca) (hb : B2 G' b cb) (hd : B2 G' d cd) (h1 : D4 a) (h2 : D4 b) (h3 : D4 d) : W4 n G G' (.slice p 3 c) [] := by
 subst hn
 exact W4.mk (ws := [a, b, d]) (es := [ca, cb, cd]) rfl (by simpa using hs) ⟨_, _, rfl, ha, _, _, rfl, hb, _, _, rfl, hd, rfl⟩ (by simp [h1, h2, h3])
theorem B3f (k : Int) (nm : ByteArray) (num : Int) (ty fr : Ty) (lb : Int) (ks : List Tm) (ts : List Ty) (t : Ty) (G : IM) (cells tcells : List Value) (p : Option Addr) (c : Nat) (es : List (List Value))
  (hops : D3 k = ts.length) (hr : A8 G (.mk k nm num ty fr lb ks) cells) (hsl : C9 G p ts.length c 2 es) (hkl : E0 G ts es) (har : ∀ t ∈ ts, D4 t) (hrt : B2 G t tcells) (hat : D4 t) :
  Fn Tryz.prog 211 [.agg ⟨cells⟩, .slice p ts.length c, .agg ⟨tcells⟩] [] G (W4 ts.length G) := by
 have hone := hr.one
 have hop := A2t hops
 have ha0 := fun h : 0 < ts.length => har _ (List.getElem_mem h)
 obtain ⟨tyk, tyks⟩ := ty
 obtain ⟨fk, fks⟩ := fr
 obtain ⟨tk, tks⟩ := t
 obtain ⟨q9, d9, e9, rfl, _⟩ := hrt.open
 obtain ⟨pt, ct, pf, cf, pk, ck, ek, rfl, hk, hnum, hlb, hrty, hrfr, _, _⟩ := hr.open9
 refine B6 Tryz.func211 rfl Tryz.ntmps211 Tryz.results211 rfl ?_
 intro w0
 refine tS (tR ?_)
 refine sE (C4 rfl rfl) rfl (fun b3 => ?_)
 refine sE (C4 rfl rfl) rfl (fun b4 => ?_)
 refine I8 ?_
 refine C3 (tS (tR (sB (qE rfl rfl) rfl rfl (fun h18 => ?_) (fun h18 => ?_))))
 refine D5 ?_
 (have hl2 : ts.length = 2 := hop.1 (by omega); obtain ⟨b0, o0, q0, d0, hp0, hat0, hre0, hg0⟩ := hsl.kidTy hkl (i := 0) (by omega) (by omega); cases hp0; refine sP (B4 (j := 0) rfl rfl rfl (by omega)) rfl rfl ?_)
 refine sL (A3 rfl rfl (hat0 _) rfl) rfl rfl ?_
 (refine D7 rfl (A2U 4 ts[0] G _ (.inl rfl) (ha0 (by omega)) hre0) rfl rfl (fun v G1 hle1 hh => ?_); obtain ⟨ma, mca, mb, mcb, mx, rfl, hma, hma2, hma3, hmb, hmb2, hmb3⟩ := hh; obtain ⟨p1, c1, e1, rfl, _⟩ := hma.open; obtain ⟨p2, c2, e2, rfl, _⟩ := hmb.open; have hTwo := A2s 4 ma mb G1 _ _ (.inl rfl) hma2 hmb2 hma hmb)
 refine J8 ?_
 refine sE (A6 rfl) rfl (fun b33 => ?_)
 refine sE (A6 rfl) rfl (fun b34 => ?_)
 refine D8 ?_
 (refine D7 rfl hTwo rfl rfl (fun v G2 hle2 hh => ?_); obtain ⟨mt, mc, mx2, rfl, hmr, hmta, hms⟩ := hh; obtain ⟨p3, c3, e3, rfl, _⟩ := hmr.open; have hma4 := hma.mono hle2)
 refine H9 ?_
 refine sE (A6 rfl) rfl (fun b48 => ?_)
 refine F8 ?_
 (refine K7 (D0 rfl rfl rfl (by omega) (by unfold maxLen; omega) rfl) rfl ?_; rintro _ ⟨b57, rfl⟩)
 refine sQ (qA rfl) rfl (sD (nS ?_))
 (refine I6 (by repeat (first | exact Pk.here | apply Pk.there)) (fun G5 hle5 hsl5 hno5 => ?_))
 refine tT (rB (rS (D6 (rT rfl) ?_)))
 (exact W4.mk2 (hop.1 (by omega)) hsl5 (hmr.mono hle5) (hma4.mono hle5) hmta hma2)
 refine sQ (qA rfl) rfl (sD (nS (cF rfl (tS (tS (tR ?_))))))
 refine sB (qE rfl rfl) rfl rfl (fun h74 => ?_) (fun h74 => ?_)
 refine D8 ?_
 refine E8 rfl ((W3 _)) rfl rfl ?_
 refine E8 rfl ((W3 _)) rfl rfl ?_
 (refine K7 (D0 rfl rfl rfl (by omega) (by unfold maxLen; omega) rfl) rfl ?_; rintro _ ⟨b86, rfl⟩)
 refine sQ (qA rfl) rfl (sD (nS ?_))
 (refine I6 (by repeat (first | exact Pk.here | apply Pk.there)) (fun G5 hle5 hsl5 hno5 => ?_))
 refine tT (rB (rS (D6 (rT rfl) ?_)))
 (exact W4.mk2 (hop.1 (by omega)) hsl5 (K5 _ ⟨by omega, by omega⟩) (K5 _ ⟨by omega, by omega⟩) (N1 (by omega) (by omega)) (N1 (by omega) (by omega)))
 refine sQ (qA rfl) rfl (sD (nS (cF rfl (tR ?_))))
 refine sB (qE rfl rfl) rfl rfl (fun h101 => ?_) (fun h101 => ?_)
 refine sQ (qA rfl) rfl (sD (nS (qT rfl (tS (tR ?_)))))
 refine E8 rfl ((W3 _)) rfl rfl ?_
 refine E8 rfl ((W3 _)) rfl rfl ?_
 (refine K7 (D0 rfl rfl rfl (by omega) (by unfold maxLen; omega) rfl) rfl ?_; rintro _ ⟨b110, rfl⟩)
 refine sQ (qA rfl) rfl (sD (nS ?_))
 (refine I6 (by repeat (first | exact Pk.here | apply Pk.there)) (fun G5 hle5 hsl5 hno5 => ?_))
 refine tT (rB (rS (D6 (rT rfl) ?_)))
 (exact W4.mk2 (hop.1 (by omega)) hsl5 (K5 _ ⟨by omega, by omega⟩) (K5 _ ⟨by omega, by omega⟩) (N1 (by omega) (by omega)) (N1 (by omega) (by omega)))
 refine sQ (qA rfl) rfl (sD (nS (cF rfl (tS (tR ?_)))))
 refine sB (qE rfl rfl) rfl rfl (fun h126 => ?_) (fun h126 => ?_)
 refine sQ (qA rfl) rfl (sD (nS (qT rfl (tS ?_))))
 refine D1 D2 rfl ?_
 refine N8 (i := 1) (l' := [ff,tt,ff,ff,ff]) rfl C8 (A4 rfl rfl) rfl (by kernel_rfl) rfl rfl ?_
 refine aL 2 rfl (A4 rfl rfl) rfl ?_
 refine A2 0 ?_
 refine J0 rfl rfl ((A1i _)) rfl rfl rfl ?_
 refine A2 3 ?_
 (refine D9 rfl (D0 rfl rfl rfl (by omega) (by unfold maxLen; omega) rfl) rfl rfl ?_; rintro _ ⟨b138, rfl⟩)
 refine aP 4 rfl (qA rfl) rfl ?_
 refine C0 (nS ?_)
 (refine I6 (by repeat (first | exact Pk.here | apply Pk.there)) (fun G5 hle5 hsl5 hno5 => ?_))
 refine tT (rB (rS (D6 (rT rfl) ?_)))
 (exact W4.mk3 (hop.2.1 (by omega)) hsl5 (K5 _ ⟨by omega, by omega⟩) (hrt.mono hle5) (hrt.mono hle5) (N1 (by omega) (by omega)) hat hat)
 refine sQ (qA rfl) rfl (sD (nS (cF rfl (tS (tS (tR ?_))))))
 refine sB (qE rfl rfl) rfl rfl (fun h155 => ?_) (fun h155 => ?_)
 refine I8 ?_
 (have hl1 : ts.length = 1 := hop.2.2 (by omega); obtain ⟨b0, o0, q0, d0, hp0, hat0, hre0, hg0⟩ := hsl.kidTy hkl (i := 0) (by omega) (by omega); cases hp0; refine sP (B4 (j := 0) rfl rfl rfl (by omega)) rfl rfl ?_)
 refine sL (A3 rfl rfl (hat0 _) rfl) rfl rfl ?_
 (refine D7 rfl (A2U 5 ts[0] G _ (.inr rfl) (ha0 (by omega)) hre0) rfl rfl (fun v G1 hle1 hh => ?_); obtain ⟨ma, mca, mb, mcb, mx, rfl, hma, hma2, hma3, hmb, hmb2, hmb3⟩ := hh; obtain ⟨p1, c1, e1, rfl, _⟩ := hma.open; obtain ⟨p2, c2, e2, rfl, _⟩ := hmb.open; have hTwo := A2s 5 ma mb G1 _ _ (.inr rfl) hma2 hmb2 hma hmb)
 refine J8 ?_
 refine sE (A6 rfl) rfl (fun b173 => ?_)
 refine sE (A6 rfl) rfl (fun b174 => ?_)
 refine D8 ?_
 (refine D7 rfl hTwo rfl rfl (fun v G2 hle2 hh => ?_); obtain ⟨mt, mc, mx2, rfl, hmr, hmta, hms⟩ := hh; obtain ⟨p3, c3, e3, rfl, _⟩ := hmr.open; have hma4 := hma.mono hle2)
 refine H9 ?_
 refine sE (A6 rfl) rfl (fun b188 => ?_)
 refine D5 ?_
 (refine K7 (D0 rfl rfl rfl (by omega) (by unfold maxLen; omega) rfl) rfl ?_; rintro _ ⟨b196, rfl⟩)
 refine sQ (qA rfl) rfl (sD (nS ?_))
 (refine I6 (by repeat (first | exact Pk.here | apply Pk.there)) (fun G5 hle5 hsl5 hno5 => ?_))
 refine tT (rB (rS (D6 (rT rfl) ?_)))
 (exact W4.mk1 (hop.2.2 (by omega)) hsl5 (hmr.mono hle5) hmta)
 refine sQ (qA rfl) rfl (sD (nS (cF rfl (tR ?_))))
 refine sB (qE rfl rfl) rfl rfl (fun h211 => ?_) (fun h211 => ?_)
 refine D5 ?_
 (have hl1 : ts.length = 1 := hop.2.2 (by omega); obtain ⟨b0, o0, q0, d0, hp0, hat0, hre0, hg0⟩ := hsl.kidTy hkl (i := 0) (by omega) (by omega); cases hp0; refine sP (B4 (j := 0) rfl rfl rfl (by omega)) rfl rfl ?_)
 refine sL (A3 rfl rfl (hat0 _) rfl) rfl rfl ?_
 (refine D7 rfl (A2U 5 ts[0] G _ (.inr rfl) (ha0 (by omega)) hre0) rfl rfl (fun v G1 hle1 hh => ?_); obtain ⟨ma, mca, mb, mcb, mx, rfl, hma, hma2, hma3, hmb, hmb2, hmb3⟩ := hh; obtain ⟨p1, c1, e1, rfl, _⟩ := hma.open; obtain ⟨p2, c2, e2, rfl, _⟩ := hmb.open; have hTwo := A2s 5 ma mb G1 _ _ (.inr rfl) hma2 hmb2 hma hmb)
 refine J8 ?_
 refine sE (A6 rfl) rfl (fun b226 => ?_)
 refine sE (A6 rfl) rfl (fun b227 => ?_)
 refine D8 ?_
 (refine D7 rfl hTwo rfl rfl (fun v G2 hle2 hh => ?_); obtain ⟨mt, mc, mx2, rfl, hmr, hmta, hms⟩ := hh; obtain ⟨p3, c3, e3, rfl, _⟩ := hmr.open; have hma4 := hma.mono hle2)
 refine H9 ?_
 refine sE (A6 rfl) rfl (fun b241 => ?_)
 refine D5 ?_
 (refine K7 (D0 rfl rfl rfl (by omega) (by unfold maxLen; omega) rfl) rfl ?_; rintro _ ⟨b249, rfl⟩)
 refine sQ (qA rfl) rfl (sD (nS ?_))
 (refine I6 (by repeat (first | exact Pk.here | apply Pk.there)) (fun G5 hle5 hsl5 hno5 => ?_))
 refine tT (rB (rS (D6 (rT rfl) ?_)))
 (exact W4.mk1 (hop.2.2 (by omega)) hsl5 (hmr.mono hle5) hmta)
 refine sQ (qA rfl) rfl (sD (nS (cF rfl (tS (tR ?_)))))
 refine sB (qE rfl rfl) rfl rfl (fun h265 => ?_) (fun h265 => ?_)
 refine D5 ?_
 (refine K7 (D0 rfl rfl rfl (by omega) (by unfold maxLen; omega) rfl) rfl ?_; rintro _ ⟨b273, rfl⟩)
 refine sQ (qA rfl) rfl (sD (nS ?_))
 (refine I6 (by repeat (first | exact Pk.here | apply Pk.there)) (fun G5 hle5 hsl5 hno5 => ?_))
 refine tT (rB (rS (D6 (rT rfl) ?_)))
 (exact W4.mk1 (hop.2.2 (by omega)) hsl5 (hrt.mono hle5) hat)
 refine K0 ?_
 (exact W4.mk rfl hsl.sl hkl har)
theorem A8R : ∀ (ts : List Tm) (t : Tm), H3 (ts ++ [t]) = H3 ts + E7 t
 | [], t => by simp [H3]
 | a :: ts, t => by simp only [List.cons_append, H3, A8R ts t]; omega
theorem A8S : ∀ {ts : List Tm} {t : Tm}, Tm.smallL ts → t.small → Tm.smallL (ts ++ [t])
 | [], t, _, h => by simp [Tm.smallL, h]
 | a :: ts, t, h, h2 => by
  simp only [Tm.smallL] at h
  simp only [List.cons_append, Tm.smallL]
  exact ⟨h.1, A8S h.2 h2⟩
theorem A8T : ∀ (ts : List Tm) (i : Nat) (u : Tm) (h : i < ts.length), H3 (ts.set i u) + E7 ts[i] = H3 ts + E7 u
 | [], i, u, h => by simp at h
 | a :: ts, 0, u, h => by simp only [List.set_cons_zero, H3, List.getElem_cons_zero]; omega
 | a :: ts, i + 1, u, h => by
  have := A8T ts i u (by simpa using h)
  simp only [List.set_cons_succ, H3, List.getElem_cons_succ]; omega
theorem A8U : ∀ {ts : List Tm} {i : Nat} {u : Tm}, Tm.smallL ts → u.small → Tm.smallL (ts.set i u)
 | [], i, u, h, _ => by simpa using h
 | a :: ts, 0, u, h, hu => by
  simp only [Tm.smallL, List.set_cons_zero] at h ⊢
  exact ⟨hu, h.2⟩
 | a :: ts, i + 1, u, h, hu => by
  simp only [Tm.smallL, List.set_cons_succ] at h ⊢
  exact ⟨h.1, A8U h.2 hu⟩
theorem B3g {ts : List Tm} {i : Nat} (h : i < ts.length) : E7 ts[i] ≤ H3 ts := by
 have := A5y h
 omega
theorem E5.at2 {G : IM} {ts : List Tm} {es : List (List Value)} {i : Nat} (h : E5 G ts es) (h1 : i < ts.length) (h2 : i < es.length) : i < es.length ∧ A8 G ts[i] es[i] := by
 have := (h.inv (List.getElem?_eq_getElem h2) I9).2
 rw [List.getD_eq_getElem?_getD, List.getElem?_eq_getElem h1] at this
 exact ⟨h2, this⟩
mutual
theorem A8V : ∀ (t : Tm) (d : Int), L4 12 14 t d = true → t.small
 | .mk k nm num ty fr lb ks, d, h => by
  obtain ⟨h1, h2, h3, h4⟩ := Z9 h
  have hn := X8.1 h3
  rw [Tm.small]
  refine ⟨?_, (A2V h3).1.small, ?_, ?_, A8W ks _ h4⟩
  ·by_cases hk : k = 1 ∨ k = 5
   ·have := hn.2.1 hk
    simp only [X7, decide_eq_true_eq] at this
    omega
   ·rw [hn.2.2.1 hk]; decide
  ·rw [A2p (hn.2.2.2.2.2.2.2.2 (by omega)).1]
   simp [B1, Ty.small, Ty.smallL]
  ·have := A1F k
   omega
theorem A8W : ∀ (ts : List Tm) (d : Int), O6 12 14 ts d = true → Tm.smallL ts
 | [], d, h => by rw [Tm.smallL]; trivial
 | t :: ts, d, h => by
  rw [O6, Bool.and_eq_true] at h
  rw [Tm.smallL]
  exact ⟨A8V t d h.1, A8W ts d h.2⟩
end
theorem A8X {hp : List A5} {G : IM} {b sz i : Nat} {es : List (List Value)} {C : List Value} (hm : A5.blk b (es.flatten ++ C) ∈ hp) (hi : i < es.length) (ha : ∀ e ∈ es, e.length = sz) : At hp G b (0 + i * sz) es[i] := by
 refine .inl ⟨_, hm, fun j u hu => ?_⟩
 rw [A56 hi, List.append_assoc, List.append_assoc]
 have hl : (es.take i).flatten.length = i * sz := by
  rw [A1A (fun e he => ha e (List.mem_of_mem_take he)), List.length_take, Nat.min_eq_left (by omega)]
 have hj : j < es[i].length := (List.getElem?_eq_some_iff.1 hu).1
 rw [List.getElem?_append_right (by omega), show 0 + i * sz + j - (es.take i).flatten.length = j by omega, List.getElem?_append_left hj]
 exact hu
def A8Y (e : Tm) (label : Int) (G : IM) : IM → Value → List A5 → Prop := L2 fun G' v => ∃ u cu t ct l', v = .tuple ⟨[.agg ⟨cu⟩, .agg ⟨ct⟩, .int .i64 l']⟩ ∧ A8 G' u cu ∧ u.small ∧ E7 u + 1 ≤ 2 * E7 e ∧ B2 G' t ct ∧ D4 t ∧ H4 t ≤ 32 * (E7 e : Int) ∧ label ≤ l' ∧ l' + 1 ≤ label + 2 * (E7 e : Int)
theorem B3h : ∀ (e : Tm) (d : Int) (G : IM) (p : Option Addr) (n c : Nat) (label : Int) (cells : List Value), L4 12 14 e d = true → (n : Int) ≤ d → T5 G p n c → A8 G e cells → 0 ≤ label → label + 2 * (E7 e : Int) ≤ 1099511627776 →
  Fn Tryz.prog 155 [.slice p n c, .agg ⟨cells⟩, .int .i64 label] [] G (A8Y e label G) := by
 refine Tm.ind fun k nm num ty fr lb ks ih d G p n c label cells hv hnd hx hr hlab0 hlab => ?_
 have hr0 := hr
 have hone := hr.one
 have hT := A8L _ d G p n c cells hv hnd hx hr
 have hsm := A8V _ d hv
 have hsm' := hsm
 rw [Tm.small] at hsm'
 obtain ⟨hnm, htsm, hfsm, _, hksm⟩ := hsm'
 obtain ⟨hv1, hv2, hv3, hv4⟩ := Z9 hv
 have hvk := (A06 12 14 ks _).1 hv4
 have har := (X8.1 hv3).1
 have hop := A2t har
 obtain ⟨hta, hts⟩ := A2V hv3
 have hck : E7 (.mk k nm num ty fr lb ks) = 1 + H3 ks := by rw [E7]; omega
 rw [hck] at hlab hT
 unfold A8Y
 rw [hck]
 obtain ⟨tk, tks⟩ := ty
 obtain ⟨fk, fks⟩ := fr
 obtain ⟨pt, ct, pf, cf, q, cq, es, rfl, hk, hnum, hlb, hty, hfr, hsl, hkl⟩ := hr.open9
 have hlen : ks.length ≤ 3 := by have := A1F k; omega
 have hk13 : k = 13 → ks.length = 1 := fun h => hop.2.2 (by omega)
 refine B6 Tryz.func155 rfl Tryz.ntmps155 Tryz.results155 rfl ?_
 intro w0
 refine tS (tR ?_)
 refine sE (C4 rfl rfl) rfl (fun b3 => ?_)
 refine sE (A6 rfl) rfl (fun b4 => ?_)
 refine sE (A6 rfl) rfl (fun b5 => ?_)
 refine D5 ?_
 (refine D7 rfl hT rfl rfl (fun v G1 hle1 hh => ?_); obtain ⟨mt, mc, mx, rfl, hmr, hma, hms⟩ := hh; obtain ⟨p1, d1, e1, rfl, _⟩ := hmr.open; have hC := A2l _ G1 _ hsm (hr0.mono hle1))
 refine H9 ?_
 refine sE (A6 rfl) rfl (fun b17 => ?_)
 refine D5 ?_
 (refine D7 rfl hC rfl rfl (fun v G2 hle2 hh => ?_); obtain ⟨K9, F1, rfl, hs1, hn1⟩ := hh; have hr1 := hs1.R.mono (C2.le G2 G1); obtain ⟨q1, c1, q2, c2, q3, c3, es1, rfl, _, _, _, hty1, hfr1, _, _⟩ := hr1.open9; have hle02 := hle1.trans hle2; replace hx := hx.mono hle02; replace hty := hty.mono hle02; replace hsl := hsl.mono hle02; replace hkl := hkl.mono hle02; replace hmr := hmr.mono hle2; replace hr0 := hr0.mono hle02)
 refine sE (A6 rfl) rfl (fun b26 => ?_)
 refine J6 ?_
 (show J5 _ _ (.region 4 ..) _ _; refine A0q (fun (x : Bool) => ⟨[(30, .bool x), (0, .slice p n c), (2, .int .i64 label), (4, .pointer (some ⟨b3, 0, none⟩)), (6, .pointer (some ⟨b4, 0, none⟩)), (7, .pointer (some ⟨b5, 0, none⟩)), (9, .pointer (some ⟨b17, 0, none⟩)), (11, .pointer (some ⟨b26, 0, none⟩))], [.blk b26 [.int .i64 k, .string nm, .int .i64 num, .int .i64 tk, .slice q1 tks.length c1, .int .i64 fk, .slice q2 fks.length c2, .int .i64 lb, .slice none 0 0], .blk b17 [.int .i64 mt.k, .slice p1 mt.ks.length d1], .blk b5 [.int .i64 0, .slice none 0 0], .blk b4 [.int .i64 0, .string ⟨⟨[]⟩⟩, .int .i64 0, .int .i64 0, .slice none 0 0, .int .i64 0, .slice none 0 0, .int .i64 0, .slice none 0 0], .blk b3 [.int .i64 k, .string nm, .int .i64 num, .int .i64 tk, .slice pt tks.length ct, .int .i64 fk, .slice pf fks.length cf, .int .i64 lb, .slice q ks.length cq]], G2⟩) (fun _ => True) ?_ ?_)
 ·refine tR (sQ (B5 rfl) rfl (sL (C7 rfl rfl) rfl rfl ?_))
  refine sB (qE rfl rfl) rfl rfl (fun h42 => ?_) (fun h42 => ?_)
  ·refine sD ?_
   refine Q2 true (O9 (by repeat (first | exact H8.nil | refine H8.cons rfl ?_)) (by repeat (first | exact A1.refl | exact A1.nil | refine A1.cons (by repeat (first | exact Pk.here | apply Pk.there)) ?_ | apply A1.drop))) trivial
  ·refine sD ?_
   refine Q2 false (O9 (by repeat (first | exact H8.nil | refine H8.cons rfl ?_)) (by repeat (first | exact A1.refl | exact A1.nil | refine A1.cons (by repeat (first | exact Pk.here | apply Pk.there)) ?_ | apply A1.drop))) trivial
 ·(rintro (x : Bool) _)
  (show J5 _ _ (.cond (.tmp 30) _ _) _ _; refine A0q (fun (x : Option Addr × Nat × Nat × IM) => ⟨[(0, .slice x.1 x.2.1 x.2.2.1), (2, .int .i64 label), (4, .pointer (some ⟨b3, 0, none⟩)), (6, .pointer (some ⟨b4, 0, none⟩)), (7, .pointer (some ⟨b5, 0, none⟩)), (9, .pointer (some ⟨b17, 0, none⟩)), (11, .pointer (some ⟨b26, 0, none⟩))], [.blk b26 [.int .i64 k, .string nm, .int .i64 num, .int .i64 tk, .slice q1 tks.length c1, .int .i64 fk, .slice q2 fks.length c2, .int .i64 lb, .slice none 0 0], .blk b17 [.int .i64 mt.k, .slice p1 mt.ks.length d1], .blk b5 [.int .i64 0, .slice none 0 0], .blk b4 [.int .i64 0, .string ⟨⟨[]⟩⟩, .int .i64 0, .int .i64 0, .slice none 0 0, .int .i64 0, .slice none 0 0, .int .i64 0, .slice none 0 0], .blk b3 [.int .i64 k, .string nm, .int .i64 num, .int .i64 tk, .slice pt tks.length ct, .int .i64 fk, .slice pf fks.length cf, .int .i64 lb, .slice q ks.length cq]], x.2.2.2⟩) (fun x => B8 G2 x.2.2.2 ∧ T5 x.2.2.2 x.1 x.2.1 x.2.2.1 ∧ (x.2.1 : Int) ≤ d + 1) (A3k rfl (fun hxt => ?_) (fun hxf => ?_)) ?_)
  ·refine J9 ?_
   (refine D7 rfl (A55 G2 p n c nm (.mk tk tks) _ hx (by omega) hty hta hts (A53 hv3)) rfl rfl (fun v G3 hle3 hh => ?_); obtain ⟨pm0, cm0, rfl, hxm⟩ := hh)
   refine sQ (qA rfl) rfl (sD ?_)
   refine Q2 (pm0, n + 1, cm0, G3) (O9 (by repeat (first | exact H8.nil | refine H8.cons rfl ?_)) (by repeat (first | exact A1.refl | exact A1.nil | refine A1.cons (by repeat (first | exact Pk.here | apply Pk.there)) ?_ | apply A1.drop))) ?_
   (dsimp only; exact ⟨hle3, hxm, by omega⟩)
  ·refine tK ?_
   refine Q2 (p, n, c, G2) (O9 (by repeat (first | exact H8.nil | refine H8.cons rfl ?_)) (by repeat (first | exact A1.refl | exact A1.nil | refine A1.cons (by repeat (first | exact Pk.here | apply Pk.there)) ?_ | apply A1.drop))) ?_
   (dsimp only; exact ⟨B8.refl _, hx, by omega⟩)
  ·(rintro ⟨(px : Option Addr), nx, cx, Gx⟩ ⟨hleX, hxX, hnX⟩; simp only [] at hleX hxX hnX ⊢; replace hty1 := hty1.mono hleX; replace hfr1 := hfr1.mono hleX; replace hsl := hsl.mono hleX; replace hkl := hkl.mono hleX; replace hmr := hmr.mono hleX; replace hr0 := hr0.mono hleX)
   refine tS (tR ?_)
   (refine K7 (D0 rfl rfl rfl (by omega) (by unfold maxLen; omega) rfl) rfl ?_; rintro _ ⟨b66, rfl⟩)
   refine D8 ?_
   refine C3 ?_
   (refine Y3 28 9 ?_; refine M6 (fun (x : Nat × (Option Addr × Nat × List Tm × List (List Value)) × (Option Addr × Nat × List Ty × List (List Value)) × Int × IM) => ⟨[(13, .int .i64 x.1), (12, .slice x.2.2.1.1 x.1 x.2.2.1.2.1), (0, .slice px nx cx), (2, .int .i64 x.2.2.2.1), (4, .pointer (some ⟨b3, 0, none⟩)), (6, .pointer (some ⟨b4, 0, none⟩)), (7, .pointer (some ⟨b5, 0, none⟩)), (9, .pointer (some ⟨b17, 0, none⟩)), (11, .pointer (some ⟨b26, 0, none⟩))], [.blk b26 [.int .i64 k, .string nm, .int .i64 num, .int .i64 tk, .slice q1 tks.length c1, .int .i64 fk, .slice q2 fks.length c2, .int .i64 lb, .slice x.2.1.1 x.1 x.2.1.2.1], .slc x.2.1.1 x.2.1.2.1 28 9 x.1 x.2.1.2.2.2.flatten, .slc x.2.2.1.1 x.2.2.1.2.1 25 2 x.1 x.2.2.1.2.2.2.flatten, .blk b17 [.int .i64 mt.k, .slice p1 mt.ks.length d1], .blk b5 [.int .i64 0, .slice none 0 0], .blk b4 [.int .i64 0, .string ⟨⟨[]⟩⟩, .int .i64 0, .int .i64 0, .slice none 0 0, .int .i64 0, .slice none 0 0, .int .i64 0, .slice none 0 0], .blk b3 [.int .i64 k, .string nm, .int .i64 num, .int .i64 tk, .slice pt tks.length ct, .int .i64 fk, .slice pf fks.length cf, .int .i64 lb, .slice q ks.length cq]], x.2.2.2.2⟩) (fun x => x.1 ≤ ks.length ∧ B8 Gx x.2.2.2.2 ∧ x.2.1.2.2.1.length = x.1 ∧ E5 x.2.2.2.2 x.2.1.2.2.1 x.2.1.2.2.2 ∧ Tm.smallL x.2.1.2.2.1 ∧ H3 x.2.1.2.2.1 + x.1 ≤ 2 * H3 (ks.take x.1) ∧ x.2.2.1.2.2.1.length = x.1 ∧ E0 x.2.2.2.2 x.2.2.1.2.2.1 x.2.2.1.2.2.2 ∧ (∀ t ∈ x.2.2.1.2.2.1, D4 t) ∧ label ≤ x.2.2.2.1 ∧ x.2.2.2.1 + x.1 ≤ label + 2 * (H3 (ks.take x.1) : Int)) (fun x => ks.length - x.1) (0, (none, 0, [], []), (some ⟨b66, 0, none⟩, 0, [], []), label, Gx) ?_ ?_ ?_)
   ·(simp only [K4]; exact E1)
   ·(exact ⟨by simp, B8.refl _, rfl, by simp [E5], by simp [Tm.smallL], by simp [H3], rfl, by simp [E0], by simp, by dsimp only; omega, by dsimp only; omega⟩)
   ·(rintro ⟨i, ⟨pn, cn, us, es'⟩, ⟨pm, cm, ts, ess⟩, l, Gi⟩ ⟨hi, hle, hlu, hst, hus, hcu, hlt, hstt, hat, hl1, hl2⟩; simp only [] at hi hle hlu hst hus hcu hlt hstt hat hl1 hl2 ⊢; replace hty1 := hty1.mono hle; replace hfr1 := hfr1.mono hle; replace hsl := hsl.mono hle; replace hkl := hkl.mono hle; replace hmr := hmr.mono hle; replace hr0 := hr0.mono hle; replace hxX := hxX.mono hle)
    refine D5 ?_
    refine sB (M2 rfl rfl) rfl rfl (fun h88 => ?_) (fun h88 => ?_)
    ·refine sD (nS (qT rfl (tK (nS (tS ?_)))))
     refine C3 ?_
     refine J9 ?_
     (obtain ⟨b, o, e, rfl, hl, hate, hre, hgb⟩ := hsl.kidTm hkl (i := i) (by omega) (by omega); have hsc := A4q (ks := ks) (i := i) (by omega); have hsk := A5y (ks := ks) (i := i) (by omega); refine sP (B4 rfl rfl rfl (by omega)) rfl rfl ?_)
     refine sL (A3 rfl rfl (hate _) hl) rfl rfl ?_
     refine sQ (qM rfl) rfl ?_
     (refine D7 rfl (ih ks[i] (List.getElem_mem (by omega)) (d + 1) Gi px nx cx l _ (hvk i (by omega)) (by omega) hxX hre (by omega) (by omega)) rfl rfl (fun v G3 hle3 hh => ?_); obtain ⟨u, uc, t, tc, l3, rfl, hru, hu1, hu2, hrt, ht1, ht2, hl3, hl4⟩ := hh; obtain ⟨v1, v2, v3, v4, v5, v6, v7, v8, v9, rfl⟩ : ∃ v1 v2 v3 v4 v5 v6 v7 v8 v9, uc = [v1, v2, v3, v4, v5, v6, v7, v8, v9] := (by obtain ⟨_, _, _, _, _, _, _, _, _, rfl, _⟩ := hru.open; exact ⟨_, _, _, _, _, _, _, _, _, rfl⟩); obtain ⟨p3, c3, e3, rfl, _⟩ := hrt.open; have hlu9 := hru.len; have hou9 := hru.one)
     refine J8 ?_
     refine sE (A6 rfl) rfl (fun b110 => ?_)
     refine sE (A6 rfl) rfl (fun b111 => ?_)
     refine sS rfl rfl rfl hlu9 hou9 rfl ?_ (hu := by exact C1 hlu9.symm)
     refine D8 ?_
     (refine K7 (D0 rfl rfl rfl (by omega) (by unfold maxLen; omega) rfl) rfl ?_; rintro _ ⟨b122, rfl⟩)
     refine A1S rfl rfl rfl rfl rfl (fun _ _ => by repeat (first | exact Sw.here | apply Sw.there)) (R9 (by repeat first | exact mH | apply mT)) rfl (fun u hu => List.all_eq_true.1 hou9 u hu) (by unfold maxLen; omega) (by omega) rfl (fun pn' cn' => ?_)
     refine F8 ?_
     (refine K7 (D0 rfl rfl rfl (by omega) (by unfold maxLen; omega) rfl) rfl ?_; rintro _ ⟨b132, rfl⟩)
     refine A1S rfl rfl rfl rfl rfl (fun _ _ => by repeat (first | exact Sw.here | apply Sw.there)) (R9 (by repeat first | exact mH | apply mT)) rfl (by simp [Value.oneCell']) (by unfold maxLen; omega) (by omega) rfl (fun pm' cm' => ?_)
     refine J6 ?_
     refine sP (M8 rfl rfl (by omega) (by omega)) rfl rfl ?_
     refine sQ (qA rfl) rfl (sD ?_)
     refine L8 (i + 1, (pn', cn', us ++ [u], es' ++ [[v1, v2, v3, v4, v5, v6, v7, v8, v9]]), (pm', cm', ts ++ [t], ess ++ [[.int .i64 t.k, .slice p3 t.ks.length c3]]), l3, G3) ?_ ?_ ?_
     ·(simp only [K4]; exact E1)
     ·(dsimp only; exact ⟨by omega, hle.trans hle3, by simp [hlu], E5.snoc (hst.mono hle3) hru, A8S hus hu1, by rw [A8R]; omega, by simp [hlt], E0.snoc (hstt.mono hle3) hrt, A1Z hat ht1, by omega, by omega⟩)
     ·(show ks.length - (i + 1) < ks.length - i; omega)
    ·refine J4 ?_
     (obtain rfl : i = ks.length := (by omega); rw [List.take_length] at hcu hl2; refine U1 (cs := ess.flatten) (by repeat (first | exact Pk.here | apply Pk.there)) (fun G4 hle4 hsl4 hno4 => ?_); have hstt4 := hstt.mono hle4; have hslT : C9 G4 pm ts.length cm 2 ess := (by rw [hlt]; exact C9.of hsl4 (by rw [hstt4.len, hlt]) hstt4.all (fun e he => (hstt4.each e he).2)); have hW := B3f k nm num (.mk tk tks) (.mk fk fks) lb ks ts mt G4 _ _ pm cm ess (by rw [hlt]; exact har) (hr0.mono hle4) hslT hstt4 hat (hmr.mono hle4) hma; rw [hlt] at hW; refine D7 rfl hW rfl rfl (fun v G5 hle5 hh => ?_); obtain ⟨pw, cw, esw, ws, rfl, hlw, hsw, hstw, haw⟩ := hh; have hle45 := hle4.trans hle5; replace hty1 := hty1.mono hle45; replace hfr1 := hfr1.mono hle45; replace hmr := hmr.mono hle45; replace hst := hst.mono hle45; replace hslT := hslT.mono hle5; replace hstt := hstt.mono hle45; rcases Nat.eq_zero_or_pos ks.length with h0 | h0)
     ·refine D8 ?_
      refine C3 ?_
      (have h0' : ks.length = 0 := h0; refine M6 (fun (_ : Nat) => ⟨[(18, .int .i64 0), (17, .slice pw ks.length cw), (12, .slice pm ks.length cm), (2, .int .i64 l), (4, .pointer (some ⟨b3, 0, none⟩)), (6, .pointer (some ⟨b4, 0, none⟩)), (7, .pointer (some ⟨b5, 0, none⟩)), (9, .pointer (some ⟨b17, 0, none⟩)), (11, .pointer (some ⟨b26, 0, none⟩))], [.blk b26 [.int .i64 k, .string nm, .int .i64 num, .int .i64 tk, .slice q1 tks.length c1, .int .i64 fk, .slice q2 fks.length c2, .int .i64 lb, .slice pn ks.length cn], .slc pn cn 28 9 ks.length es'.flatten, .blk b17 [.int .i64 mt.k, .slice p1 mt.ks.length d1], .blk b5 [.int .i64 0, .slice none 0 0], .blk b4 [.int .i64 0, .string ⟨⟨[]⟩⟩, .int .i64 0, .int .i64 0, .slice none 0 0, .int .i64 0, .slice none 0 0, .int .i64 0, .slice none 0 0], .blk b3 [.int .i64 k, .string nm, .int .i64 num, .int .i64 tk, .slice pt tks.length ct, .int .i64 fk, .slice pf fks.length cf, .int .i64 lb, .slice q ks.length cq]], G5⟩) (fun _ => True) (fun i => i) 0 ?_ ?_ ?_)
      ·exact E1
      ·trivial
      ·(rintro (i0 : Nat) _)
       refine J9 ?_
       refine sP (A3p rfl rfl (by omega)) rfl rfl ?_
       refine J4 ?_
       refine sP (E6 rfl rfl (by omega)) rfl rfl ?_
       refine sD (nS (cF rfl (tK (nS (tS ?_)))))
       refine D1 D2 rfl ?_
       refine N8 (i := 0) (l' := [tt,ff,ff,ff,ff,ff]) rfl C8 (A4 rfl rfl) rfl (by kernel_rfl) rfl rfl ?_
       refine aL 1 rfl (A4 rfl rfl) rfl ?_
       refine aP 2 rfl (qM rfl) rfl ?_
       refine A2 3 ?_
       refine A0I rfl rfl rfl rfl rfl rfl rfl rfl (by repeat first | exact Sw.here | apply Sw.there) (by rfl) (by repeat (first | exact A9.nil | apply A9.dep (by decide +kernel) | apply A9.blk (by decide +kernel) (by repeat (first | exact Pk.here | apply Pk.there)) (by repeat first | exact mH | apply mT))) ?_
       refine A2 4 ?_
       refine A0I rfl rfl rfl rfl rfl rfl rfl rfl (by repeat first | exact Sw.here | apply Sw.there) (by rfl) (by repeat (first | exact A9.nil | apply A9.dep (by decide +kernel) | apply A9.blk (by decide +kernel) (by repeat (first | exact Pk.here | apply Pk.there)) (by repeat first | exact mH | apply mT))) ?_
       refine aP 5 rfl (qA rfl) rfl ?_
       refine C0 (nS ?_)
       (refine I6 (cs := es'.flatten) (by repeat (first | exact Pk.here | apply Pk.there)) (fun G8 hle8 hsl8 hno8 => ?_); have hst8 := hst.mono hle8)
       refine tT ?_
       refine I0 (rC rfl (A4 rfl rfl)) (rC rfl (A4 rfl rfl)) (rT rfl) ?_
       (have hst8q := hst8; refine ⟨rfl, .mk k nm num (.mk tk tks) (.mk fk fks) lb us, _, mt, _, l, rfl, by rw [← hlu]; exact A8.of9 hk hnum hlb (hty1.mono hle8) (hfr1.mono hle8) (by rw [hlu]; exact C9.of hsl8 (by rw [hst8.len, hlu]) hst8.all (fun e he => by obtain ⟨q, hq⟩ := List.getElem?_of_mem he; exact (hst8.inv hq I9).2.one)) hst8, by rw [Tm.small]; exact ⟨hnm, htsm, hfsm, by omega, hus⟩, by rw [E7]; omega, hmr.mono hle8, hma, by omega, by omega, by omega⟩)
     ·(refine A8M (cs := es'.flatten) (by repeat (first | exact Pk.here | apply Pk.there)) h0 (fun bc C hpe hnc hcm => ?_); subst hpe; refine sQ (qA rfl) rfl ?_)
      refine sD (nS (tS (tS (tR (sQ (qA rfl) rfl (sD (nS ?_)))))))
      refine C3 ?_
      (refine M6 (fun (x : Nat × List Tm × List (List Value) × Int × IM) => ⟨[(18, .int .i64 x.1), (17, .slice pw ks.length cw), (12, .slice pm ks.length cm), (2, .int .i64 x.2.2.2.1), (4, .pointer (some ⟨b3, 0, none⟩)), (6, .pointer (some ⟨b4, 0, none⟩)), (7, .pointer (some ⟨b5, 0, none⟩)), (9, .pointer (some ⟨b17, 0, none⟩)), (11, .pointer (some ⟨b26, 0, none⟩))], [.blk b26 [.int .i64 k, .string nm, .int .i64 num, .int .i64 tk, .slice q1 tks.length c1, .int .i64 fk, .slice q2 fks.length c2, .int .i64 lb, .slice (some ⟨bc, 0, none⟩) ks.length cn], .blk bc (x.2.2.1.flatten ++ C), .blk b17 [.int .i64 mt.k, .slice p1 mt.ks.length d1], .blk b5 [.int .i64 0, .slice none 0 0], .blk b4 [.int .i64 0, .string ⟨⟨[]⟩⟩, .int .i64 0, .int .i64 0, .slice none 0 0, .int .i64 0, .slice none 0 0, .int .i64 0, .slice none 0 0], .blk b3 [.int .i64 k, .string nm, .int .i64 num, .int .i64 tk, .slice pt tks.length ct, .int .i64 fk, .slice pf fks.length cf, .int .i64 lb, .slice q ks.length cq]], x.2.2.2.2⟩) (fun x => x.1 ≤ ks.length ∧ B8 G5 x.2.2.2.2 ∧ x.2.1.length = ks.length ∧ E5 x.2.2.2.2 x.2.1 x.2.2.1 ∧ Tm.smallL x.2.1 ∧ H3 x.2.1 ≤ H3 us + x.1 ∧ label ≤ x.2.2.2.1 ∧ x.2.2.2.1 ≤ l + x.1) (fun x => ks.length - x.1) (0, us, es', l, G5) ?_ ?_ ?_)
      ·(simp only [K4]; exact E1)
      ·(exact ⟨by simp, B8.refl _, hlu, hst, hus, Nat.le_refl _, hl1, by dsimp only; omega⟩)
      ·(rintro ⟨i2, us2, es2, l2, G6⟩ ⟨hi2, hle6, hlu2, hst2, hus2, hcu2, hl21, hl22⟩; simp only [] at hi2 hle6 hlu2 hst2 hus2 hcu2 hl21 hl22 ⊢; replace hty1 := hty1.mono hle6; replace hfr1 := hfr1.mono hle6; replace hmr := hmr.mono hle6; replace hslT := hslT.mono hle6; replace hstt := hstt.mono hle6; replace hsw := hsw.mono hle6; replace hstw := hstw.mono hle6; have hle2s := hst2.len; have hall2 := hst2.all)
       refine J9 ?_
       refine sB (M2 rfl rfl) rfl rfl (fun h242 => ?_) (fun h242 => ?_)
       ·refine sD (nS (qT rfl (tK (nS (tS ?_)))))
        refine C3 ?_
        (have hi3 : i2 < ks.length := (by omega); obtain ⟨bt, ot, qt, dt, hpt, hatt, hrtt, hgt⟩ := hslT.kidTy hstt (i := i2) (by omega) (by omega); obtain ⟨bw, ow, qw, dw, hpw, hatw, hrtw, hgw⟩ := (show C9 G6 pw ws.length cw 2 esw from by rw [hlw]; exact hsw).kidTy hstw (i := i2) (by omega) (by omega); cases hpt; cases hpw; obtain ⟨hE1, hE2⟩ := hst2.at2 (i := i2) (by omega) (by omega); have hE3 := hE2.len; refine D1 D2 rfl ?_)
        refine I4 (i := 0) (l' := [tt,ff,ff,ff,ff,ff,ff,ff,ff,ff,ff,ff,ff,ff,ff,ff,ff,ff,ff,ff,ff,ff,ff,ff]) rfl C8 (B5 rfl) rfl (by kernel_rfl) rfl rfl ?_
        refine aL 1 rfl (C7 rfl rfl) rfl ?_
        refine aP 2 rfl (qM rfl) rfl ?_
        refine aP 3 rfl (B5 rfl) rfl ?_
        refine aL 4 rfl (C7 rfl rfl) rfl ?_
        refine aP 5 rfl (qM rfl) rfl ?_
        refine aP 6 rfl (B4 rfl rfl rfl (by omega)) rfl ?_
        refine aL 7 rfl (A3 rfl rfl (A8X (es := es2) (by repeat first | exact mH | apply mT) (by omega) hall2) hE3) rfl ?_
        refine aP 8 rfl (qM rfl) rfl ?_
        refine aP 9 rfl (qM rfl) rfl ?_
        refine aP 10 rfl (B4 rfl rfl rfl (by omega)) rfl ?_
        refine aL 11 rfl (A3 rfl rfl (hatt _) rfl) rfl ?_
        refine aP 12 rfl (qM rfl) rfl ?_
        refine aP 13 rfl (qM rfl) rfl ?_
        refine aP 14 rfl (B4 rfl rfl rfl (by omega)) rfl ?_
        refine aL 15 rfl (A3 rfl rfl (hatw _) rfl) rfl ?_
        refine aP 16 rfl (qM rfl) rfl ?_
        refine A2 17 ?_
        (refine E3 rfl rfl (A3J us2[i2] ts[i2] ws[i2] l2 _ _ _ _ (by omega) hE2 hrtt hrtw (hat _ (List.getElem_mem (by omega))) (haw _ (List.getElem_mem (by omega)))) rfl rfl rfl (fun v G7 hle7 hh => ?_); obtain ⟨u, uc, l3, rfl, hru, hu1, hu2, hl31, hl32⟩ := hh; have hlu9 := hru.len; have hou9 := hru.one)
        refine aP 18 rfl (qM rfl) rfl ?_
        refine aP 19 rfl (pX rfl rfl) rfl ?_
        refine aP 21 rfl (B4 rfl rfl rfl (by omega)) rfl ?_
        refine aP 20 rfl (pX rfl rfl) rfl ?_
        refine A2 22 ?_
        refine M3 rfl rfl rfl rfl hlu9 hou9 rfl rfl (by kernel_rfl) (by repeat first | exact Sw.here | apply Sw.there) (by exact A8O (by omega) hall2 hlu9) ?_
        refine aP 23 rfl (qA rfl) rfl ?_
        refine C0 (O2 (nS (tR (sQ (qM rfl) rfl ?_))))
        refine sP (M8 rfl rfl (by omega) (by omega)) rfl rfl ?_
        refine sQ (qA rfl) rfl (sD ?_)
        (have hset := A8T us2 i2 u (by omega); refine L8 (i2 + 1, us2.set i2 u, es2.set i2 uc, l3, G7) ?_ ?_ ?_)
        ·(simp only [K4]; exact E1)
        ·(dsimp only; exact ⟨by omega, hle6.trans hle7, by simp [hlu2], E5.set (hst2.mono hle7) hru, A8U hus2 (hu1 (Tm.smallL_mem hus2 _ (List.getElem_mem (by omega)))), by omega, by omega, by omega⟩)
        ·(show ks.length - (i2 + 1) < ks.length - i2; omega)
       ·refine J4 ?_
        refine sB (qE rfl rfl) rfl rfl (fun h302 => ?_) (fun h302 => ?_)
        ·refine sD (nS (qT rfl (tS ?_)))
         (have hq13 : k = 13 := (by assumption); have hl13 := hk13 hq13; obtain ⟨hE1, hE2⟩ := hst2.at2 (i := 0) (by omega) (by omega); have hE3 := hE2.len; have hE4 := hE2.one; have hEc := B3g (ts := us2) (i := 0) (by omega); refine D1 D2 rfl ?_)
         refine I4 (i := 0) (l' := [tt,ff,ff,ff,ff,ff,ff,ff,ff]) rfl C8 (B5 rfl) rfl (by kernel_rfl) rfl rfl ?_
         refine aL 1 rfl (C7 rfl rfl) rfl ?_
         refine aP 2 rfl (B4 rfl rfl rfl (by omega)) rfl ?_
         refine aL 3 rfl (A3 rfl rfl (A8X (es := es2) (by repeat first | exact mH | apply mT) (by omega) hall2) hE3) rfl ?_
         refine aL 4 rfl (A4 rfl rfl) rfl ?_
         refine aP 5 rfl (qM rfl) rfl ?_
         refine A2 6 ?_
         refine A0I rfl rfl rfl rfl hE3 hE4 rfl rfl (by repeat first | exact Sw.here | apply Sw.there) (by exact C1 hE3.symm) (by repeat (first | exact A9.nil | apply A9.dep (by decide +kernel) | apply A9.blk (by decide +kernel) (by repeat (first | exact Pk.here | apply Pk.there)) (by repeat first | exact mH | apply mT))) ?_
         refine A2 7 ?_
         refine A0I rfl rfl rfl rfl rfl rfl rfl rfl (by repeat first | exact Sw.here | apply Sw.there) (by rfl) (by repeat (first | exact A9.nil | apply A9.dep (by decide +kernel) | apply A9.blk (by decide +kernel) (by repeat (first | exact Pk.here | apply Pk.there)) (by repeat first | exact mH | apply mT))) ?_
         refine aP 8 rfl (qA rfl) rfl ?_
         refine C0 (nS ?_)
         (refine A3v (bs := [(bc, es2.flatten ++ C)]) (Pk.perm (by repeat (first | exact Pk.here | apply Pk.there))) (fun hn9 hd9 hle9 => ?_))
         refine tT (rS ?_)
         refine I0 (rC rfl (A3 rfl rfl (A7 (by repeat first | exact mH | apply mT)) hE3)) (rC rfl (A4 rfl rfl)) (rT rfl) ?_
         (exact ⟨rfl, us2[0], _, mt, _, l2, rfl, hE2.mono hle9, Tm.smallL_mem hus2 _ (List.getElem_mem _), by omega, hmr.mono hle9, hma, by omega, by omega, by omega⟩)
        ·refine sD (nS (cF rfl (tK (nS (tS ?_)))))
         refine D1 D2 rfl ?_
         refine N8 (i := 0) (l' := [tt,ff,ff,ff,ff,ff]) rfl C8 (A4 rfl rfl) rfl (by kernel_rfl) rfl rfl ?_
         refine aL 1 rfl (A4 rfl rfl) rfl ?_
         refine aP 2 rfl (qM rfl) rfl ?_
         refine A2 3 ?_
         refine A0I rfl rfl rfl rfl rfl rfl rfl rfl (by repeat first | exact Sw.here | apply Sw.there) (by rfl) (by repeat (first | exact A9.nil | apply A9.dep (by decide +kernel) | apply A9.blk (by decide +kernel) (by repeat (first | exact Pk.here | apply Pk.there)) (by repeat first | exact mH | apply mT))) ?_
         refine A2 4 ?_
         refine A0I rfl rfl rfl rfl rfl rfl rfl rfl (by repeat first | exact Sw.here | apply Sw.there) (by rfl) (by repeat (first | exact A9.nil | apply A9.dep (by decide +kernel) | apply A9.blk (by decide +kernel) (by repeat (first | exact Pk.here | apply Pk.there)) (by repeat first | exact mH | apply mT))) ?_
         refine aP 5 rfl (qA rfl) rfl ?_
         refine C0 (nS ?_)
         (refine A3v (bs := [(bc, es2.flatten ++ C)]) (Pk.perm (by repeat (first | exact Pk.here | apply Pk.there))) (fun hn9 hd9 hle9 => ?_))
         refine tT ?_
         refine I0 (rC rfl (A4 rfl rfl)) (rC rfl (A4 rfl rfl)) (rT rfl) ?_
         (have hst9 := hst2.mono hle9; refine ⟨rfl, .mk k nm num (.mk tk tks) (.mk fk fks) lb us2, _, mt, _, l2, rfl, by rw [← hlu2]; exact A8.of9 hk hnum hlb (hty1.mono hle9) (hfr1.mono hle9) (C9.of (Sl.of_blk (A := []) (by rw [A1A hst9.all, hst9.len]) (by omega) hcm (Wi.in hn9 List.mem_cons_self)) hst9.len hst9.all (fun e he => by obtain ⟨q, hq⟩ := List.getElem?_of_mem he; exact (hst9.inv hq I9).2.one)) hst9, by rw [Tm.small]; exact ⟨hnm, htsm, hfsm, by omega, hus2⟩, by rw [E7]; omega, hmr.mono hle9, hma, by omega, by omega, by omega⟩)
def A0a (t : Ty) : Ty := if t.k = 4 ∨ t.k = 5 then .mk t.k [L0, L0] else .mk t.k []
def S9 (t : Ty) : Bool := decide (t.k ≠ 1) && H7 t (A0a t)
def S6 (t : Tm) : Bool := decide (t.k = 14 ∧ t.fr.k = t.ty.k ∧ (t.ty.k = 4 ∨ t.ty.k = 5))
def inj (t : Tm) : Bool := decide (t.k = 14 ∧ t.ty.k = 1) && S9 t.fr
mutual
def E2 : Tm → Bool
 | .mk k nm num ty fr lb ks => if k = 10 ∨ (k = 14 ∧ fr.k = ty.k ∧ (ty.k = 4 ∨ ty.k = 5)) ∨ (k = 14 ∧ ty.k = 1 ∧ S9 fr = true) then A08 ks else decide (k = 2 ∨ k = 3 ∨ k = 4 ∨ k = 5)
def A08 : List Tm → Bool
 | [] => true
 | t :: ts => E2 t && A08 ts
end
mutual
def T6 (x : ByteArray) (v : Tm) : Tm → Tm
 | .mk k nm num ty fr lb ks => if k = 1 ∧ nm = x then v else if k = 5 ∧ nm = x then .mk k nm num ty fr lb ks else .mk k nm num ty fr lb (S1 x v ks)
def S1 (x : ByteArray) (v : Tm) : List Tm → List Tm
 | [] => []
 | t :: ts => T6 x v t :: S1 x v ts
end
theorem A57 (x : ByteArray) (v : Tm) : ∀ ks, S1 x v ks = ks.map (T6 x v)
 | [] => rfl
 | t :: ts => by rw [S1, A57 x v ts, List.map_cons]
def L1 (e : Tm) (fr to : Ty) (lb : Int) : Tm := .mk 14 ⟨#[]⟩ 0 to fr lb [e]
def A0r (k : Int) (ks : List Tm) : Tm := .mk k ⟨#[]⟩ 0 B1 B1 0 ks
def A3K (n : Int) : Tm := .mk 2 ⟨#[]⟩ n B1 B1 0 []
def A0P (b : Prop) [Decidable b] : Tm := A0r (if b then 3 else 4) []
abbrev Stp := Tm × Int × Int
def U5 : Stp := (I9, 3, 0)
def kd (ks : List Tm) (i : Nat) : Tm := ks.getD i I9
def kt (ks : List Ty) (i : Nat) : Ty := ks.getD i B1
def Y8 (k : Int) (ty fr : Ty) (lb : Int) (ks : List Tm) : Stp :=
 if k = 6 then
  (if (kd ks 0).k = 5 then (T6 (kd ks 0).nm (kd ks 1) (kd (kd ks 0).ks 0), 1, 0)
   else if S6 (kd ks 0) = true ∧ (kd ks 0).ty.k = 4 then (L1 (A0r 6 [kd (kd ks 0).ks 0, L1 (kd ks 1) (kt (kd ks 0).ty.ks 0) (kt (kd ks 0).fr.ks 0) (-(kd ks 0).lb)]) (kt (kd ks 0).fr.ks 1) (kt (kd ks 0).ty.ks 1) (kd ks 0).lb, 1, 0)
   else U5)
 else if k = 7 ∨ k = 8 then
  (if (kd ks 0).k = 2 ∧ (kd ks 1).k = 2 then (if k = 7 then A3K (((kd ks 0).num + (kd ks 1).num) % 1000) else A0P ((kd ks 0).num < (kd ks 1).num), 1, 0) else U5)
 else if k = 9 then (if (kd ks 0).k = 3 then (kd ks 1, 1, 0) else if (kd ks 0).k = 4 then (kd ks 2, 1, 0) else U5)
 else if k = 11 ∨ k = 12 then
  (if (kd ks 0).k = 10 then (kd (kd ks 0).ks (k - 11).toNat, 1, 0)
   else if S6 (kd ks 0) = true ∧ (kd ks 0).ty.k = 5 then (L1 (A0r k [kd (kd ks 0).ks 0]) (kt (kd ks 0).fr.ks (k - 11).toNat) (kt (kd ks 0).ty.ks (k - 11).toNat) (kd ks 0).lb, 1, 0)
   else U5)
 else if k = 14 then
  (if fr.k = ty.k then (kd ks 0, 1, 0)
   else if ty.k = 1 then (L1 (L1 (kd ks 0) fr (A0a fr) lb) (A0a fr) ty lb, 1, 0)
   else if S9 ty = false then (L1 (L1 (kd ks 0) fr (A0a ty) lb) (A0a ty) ty lb, 1, 0)
   else if inj (kd ks 0) = false then U5
   else if (kd ks 0).fr.k = ty.k then (kd (kd ks 0).ks 0, 1, 0)
   else (I9, 2, lb))
 else U5
mutual
def I2 : Tm → Stp
 | .mk k nm num ty fr lb ks => match V5 (if k = 9 then 1 else ks.length) ks with
  | some (ks', c, l) => if c = 1 then (.mk k nm num ty fr lb ks', 1, 0) else (I9, c, l)
  | none => Y8 k ty fr lb ks
def V5 : Nat → List Tm → Option (List Tm × Int × Int)
 | _, [] => none
 | n, t :: ts => match n with
  | 0 => none
  | n + 1 => if E2 t = true then (match V5 n ts with
    | some (us, c, l) => some (t :: us, c, l)
    | none => none)
   else some ((I2 t).1 :: ts, (I2 t).2.1, (I2 t).2.2)
end
def E4 (e : Tm) : Stp :=
 if I3 e = false then U5 else if E2 e = true then (e, 0, 0)
 else if (I2 e).2.1 ≠ 1 then (I9, (I2 e).2.1, (I2 e).2.2)
 else if I3 (I2 e).1 = false then (I9, 4, 0) else ((I2 e).1, 1, 0)
def H2 : Nat → Tm → Tm × Int × Int × Nat
 | 0, e => if (E4 e).2.1 = 1 then (I9, 5, 0, 0) else ((E4 e).1, (E4 e).2.1, (E4 e).2.2, 0)
 | n + 1, e => if (E4 e).2.1 = 1 then ((H2 n (E4 e).1).1, (H2 n (E4 e).1).2.1, (H2 n (E4 e).1).2.2.1, (H2 n (E4 e).1).2.2.2 + 1)
  else ((E4 e).1, (E4 e).2.1, (E4 e).2.2, 0)
def K6 (e : Tm) (fuel : Int) : Stp := if 0 ≤ fuel ∧ fuel ≤ 300 then ((H2 fuel.toNat e).1, (H2 fuel.toNat e).2.1, (H2 fuel.toNat e).2.2.1) else U5
def B6P (e : Tm) (fuel : Int) : Int := if 0 ≤ fuel ∧ fuel ≤ 300 then ((H2 fuel.toNat e).2.2.2 : Int) else 0
structure CvN (k : Int) (nm : ByteArray) (num : Int) (ty fr : Ty) (lb : Int) (ks : List Tm) : Prop where
 ops : D3 k = ks.length
 ne : k ≠ 13
 nm1 : nm.size ≤ 1
 num0 : 0 ≤ num ∧ num ≤ 999
 tyA : D4 ty
 frA : D4 fr
 lbB : -99 ≤ lb ∧ lb ≤ 99
 c14 : k = 14 → P1 fr ty = true ∧ M5 ty = true ∧ M5 fr = true
 ty5 : ¬(k = 5 ∨ k = 14) → ty = B1
 fr14 : k ≠ 14 → fr = B1 ∧ lb = 0
def cv (t : Tm) : Prop := ∃ d, L4 40 13 t d = true
theorem A3L {n lo hi : Int} : S4 n lo hi = true ↔ lo ≤ n ∧ n ≤ hi := by unfold S4; rw [decide_eq_true_eq]
theorem cv.node {k : Int} {nm : ByteArray} {num : Int} {ty fr : Ty} {lb : Int} {ks : List Tm} (h : cv (.mk k nm num ty fr lb ks)) : CvN k nm num ty fr lb ks ∧ ∀ t ∈ ks, cv t := by
 obtain ⟨d, h⟩ := h
 obtain ⟨_, h2, h3, h4⟩ := Z9 h
 obtain ⟨n1, n2, n3, n4, n5, n6, n7, n8, n9⟩ := X8.1 h3
 refine ⟨⟨n1, h2, A53 h3, ?_, (A2V h3).1, ?_, ?_, ?_, ?_, ?_⟩, fun t ht => ?_⟩
 ·by_cases hk : k = 2
  ·exact A3L.1 (n4 hk)
  ·have := A3L.1 (n5 hk); omega
 ·by_cases hk : k = 14
  ·have := (n8 hk).1
   simp only [A0K, Bool.and_eq_true] at this
   exact (A4E this.1.1).1
  ·rw [A2p (n9 hk).1]; exact N1 (by decide) (by decide)
 ·by_cases hk : k = 14
  ·have := (n8 hk).2
   simp only [W2, Bool.or_eq_true, A3L] at this
   omega
  ·have := (n9 hk).2; omega
 ·intro hk
  have := (n8 hk).1
  simp only [A0K, Bool.and_eq_true] at this
  exact ⟨this.2, this.1.2, this.1.1⟩
 ·intro hk
  exact A2p (n7 (by omega))
 ·intro hk
  exact ⟨A2p (n9 hk).1, (n9 hk).2⟩
 ·obtain ⟨i, hi, rfl⟩ := List.mem_iff_getElem.1 ht
  exact ⟨_, (A06 40 13 ks _).1 h4 i hi⟩
theorem A1H {t : Tm} (h : I3 t = true) : cv t ∧ E7 t ≤ 200 := by
 obtain ⟨h1, h2⟩ := (A1D t).1 h
 exact ⟨⟨1, h1⟩, h2⟩
mutual
theorem A4F : ∀ (t : Tm), cv t → t.small
 | .mk k nm num ty fr lb ks, h => by
  obtain ⟨hn, hk⟩ := h.node
  rw [Tm.small]
  refine ⟨by have := hn.nm1; omega, hn.tyA.small, hn.frA.small, ?_, A8Z ks hk⟩
  have := A1F k
  have := hn.ops
  omega
theorem A8Z : ∀ (ts : List Tm), (∀ t ∈ ts, cv t) → Tm.smallL ts
 | [], _ => by rw [Tm.smallL]; trivial
 | t :: ts, h => by
  rw [Tm.smallL]
  exact ⟨A4F t (h t List.mem_cons_self), A8Z ts fun u hu => h u (List.mem_cons_of_mem _ hu)⟩
end
theorem A58 (k : Int) (nm : ByteArray) (num : Int) (ty fr : Ty) (lb : Int) (ks : List Tm) : E7 (.mk k nm num ty fr lb ks) = H3 ks + 1 := by rw [E7]
theorem A4G {k : Int} {nm : ByteArray} {num : Int} {ty fr : Ty} {lb : Int} {ks : List Tm} : (Tm.mk k nm num ty fr lb ks).small ↔ nm.size ≤ 4294967296 ∧ ty.small ∧ fr.small ∧ ks.length ≤ 4294967296 ∧ Tm.smallL ks := by rw [Tm.small]
theorem B3i : I9.small := by simp [I9, Tm.small, Ty.small, Ty.smallL, Tm.smallL, ByteArray.size]
theorem B3j {ks : List Tm} (h : Tm.smallL ks) (i : Nat) : (kd ks i).small := by
 unfold kd
 rw [List.getD_eq_getElem?_getD]
 cases hi : ks[i]? with
 | none => exact B3i
 | some t => exact Tm.smallL_mem h t (List.mem_of_getElem? hi)
theorem A3M {e : Tm} {a b : Ty} {l : Int} (h : e.small) (ha : a.small) (hb : b.small) : (L1 e a b l).small := A4G.2 ⟨by decide, hb, ha, by simp, by simp [Tm.smallL, h]⟩
theorem A0i (e : Tm) (a b : Ty) (l : Int) : E7 (L1 e a b l) = E7 e + 1 := by rw [L1, A58, H3, H3]
variable {P : Program} {G : IM}
theorem Fn.forget {f : FuncId} {args : List Value} {v0 : Value} {post : IM → Value → List A5 → Prop} (h : Fn P f args [] G post) (hv : ∀ G' v outs, post G' v outs → v = v0) : Fn P f args [] G (J3 v0 G) := by
 refine ⟨fun w hw => (h.run w hw).mono ?_⟩
 rintro e w' ⟨u, G', outs, rfl, hres, hp⟩
 refine ⟨u, G, [], rfl, ⟨⟨fun b l hb => hres.own.inn b l (hres.le b l hb), by simp, by simp [Fp], by simp [Fp]⟩, hres.ext, B8.refl _, fun _ _ h => .inl h, by simp [Fp], fun b l h h0 => absurd h (by rw [h0]; simp)⟩, rfl, hv _ _ _ hp, rfl⟩
def A80 (u : Ty) (G : IM) : IM → Value → List A5 → Prop := L2 fun G' v => ∃ cells, v = .agg ⟨cells⟩ ∧ B2 G' u cells
def V6 (r : Option Ty) (G : IM) : IM → Value → List A5 → Prop := L2 fun G' v => ∃ cells u, v = .tuple ⟨[.agg ⟨cells⟩, .bool r.isSome]⟩ ∧ B2 G' u cells ∧ ∀ t, r = some t → u = t
theorem B3k {G : IM} {k : Int} {a b : Ty} {ca cb : List Value} {p : Option Addr} {c : Nat} (hk : E9 k) (ha : B2 G a ca) (hb : B2 G b cb) (hs : Sl G p 2 c 2 (ca ++ cb)) : B2 G (.mk k [a, b]) [.int .i64 k, .slice p 2 c] := by
 have hL : E0 G [a, b] [ca, cb] := by simp only [E0]; exact ⟨ca, [cb], rfl, ha, cb, [], rfl, hb, rfl⟩
 exact E0.ty (ts := [a, b]) (es := [ca, cb]) hL rfl (by simpa using hs) hk
theorem A2W : ∀ (t t' : Ty) (G : IM) (cells cells' : List Value), B2 G t cells → B2 G t' cells' → Fn Tryz.prog 30 [.agg ⟨cells⟩, .agg ⟨cells'⟩] [] G (J3 (.bool (H7 t t')) G) := by
 refine Ty.ind fun k ks ih t' G cells cells' hr hr' => ?_
 obtain ⟨k', ks'⟩ := t'
 obtain ⟨p, c, es, rfl, hk, hsl, hkl⟩ := hr.open
 obtain ⟨p', c', es', rfl, hk', hsl', hkl'⟩ := hr'.open
 simp only [Ty.k, Ty.ks] at hk hsl hkl hk' hsl' hkl' ⊢
 obtain ⟨A, hA⟩ : ∃ A, Z7 ks ks' = A := ⟨_, rfl⟩
 have hA' : A = true ↔ ks.length = ks'.length ∧ ∀ i, i < ks.length → H7 (ks.getD i B1) (ks'.getD i B1) = true := by
  rw [← hA, A3G]
  constructor
  ·rintro ⟨h1, h2⟩
   refine ⟨h1, fun i hi => ?_⟩
   have := h2 i hi (by omega)
   simpa [List.getD_eq_getElem?_getD, List.getElem?_eq_getElem hi, List.getElem?_eq_getElem (show i < ks'.length by omega)] using this
  ·rintro ⟨h1, h2⟩
   refine ⟨h1, fun i hi hi' => ?_⟩
   have := h2 i hi
   simpa [List.getD_eq_getElem?_getD, List.getElem?_eq_getElem hi, List.getElem?_eq_getElem hi'] using this
 refine B6 Tryz.func30 rfl Tryz.ntmps30 Tryz.results30 rfl ?_
 intro w0
 refine tS (tR ?_)
 refine sE (C4 rfl rfl) rfl (fun b3 => ?_)
 refine sE (C4 rfl rfl) rfl (fun b4 => ?_)
 refine D8 ?_
 refine sB (qE rfl rfl) rfl rfl (fun h14 => ?_) (fun h14 => ?_)
 refine R0 ?_
 refine E8 rfl (A5O _ _ _ _ _ _ _ _ _ hsl hsl' _ [] [] [] (fun i => H7 (ks.getD i B1) (ks'.getD i B1)) A hA' (fun i e e' he he' => ih _ (hkl.inv he B1).1 _ _ _ _ (hkl.inv he B1).2 (hkl'.inv he' B1).2)) rfl rfl ?_
 refine J9 ?_
 exact ⟨rfl, by rw [A2o, hA]; first | (rw [decide_eq_true (p := k = k') (by omega)]; rfl) | (rw [decide_eq_false (p := k = k') (by omega)]; rfl), rfl⟩
 refine N2 ?_
 exact ⟨rfl, by rw [A2o, hA]; first | (rw [decide_eq_true (p := k = k') (by omega)]; rfl) | (rw [decide_eq_false (p := k = k') (by omega)]; rfl), rfl⟩
theorem A10 (k : Int) (a b : Ty) (G : IM) (ca cb : List Value) (hk : E9 k) (hra : B2 G a ca) (hrb : B2 G b cb) :
  Fn Tryz.prog 160 [.int .i64 k, .agg ⟨ca⟩, .agg ⟨cb⟩] [] G (A80 (.mk k [a, b]) G) := by
 obtain ⟨pa, cca, ea, rfl, _⟩ := hra.open
 obtain ⟨pb, ccb, eb, rfl, _⟩ := hrb.open
 refine B6 Tryz.func160 rfl Tryz.ntmps160 Tryz.results160 rfl ?_
 intro w0
 refine tS (tR ?_)
 refine sE (C4 rfl rfl) rfl (fun b3 => ?_)
 refine sE (C4 rfl rfl) rfl (fun b4 => ?_)
 refine sE (A6 rfl) rfl (fun b5 => ?_)
 refine D5 ?_
 (refine K7 (D0 rfl rfl rfl (by omega) (by unfold maxLen; omega) rfl) rfl ?_; rintro _ ⟨b13, rfl⟩)
 refine sQ (Q9 rfl rfl) rfl (H6 ?_)
 refine sD (nS ?_)
 (refine I6 (by repeat (first | exact Pk.here | apply Pk.there)) (fun G5 hle5 hsl5 hno5 => ?_))
 refine tT ?_
 refine D6 (rC rfl (A4 rfl rfl)) ?_
 exact ⟨rfl, _, rfl, B3k hk (hra.mono hle5) (hrb.mono hle5) hsl5⟩
theorem A3N (k tk : Int) (ks : List Ty) : Z8 k (.mk tk ks) = if tk = k then some (ks.getD 0 B1, ks.getD 1 B1) else if tk = 1 then some (L0, L0) else none := rfl
def B3l (k : Int) (t : Ty) (G : IM) : IM → Value → List A5 → Prop := L2 fun G' v => ∃ a ca b cb, v = .tuple ⟨[.agg ⟨ca⟩, .agg ⟨cb⟩, .bool (Z8 k t).isSome]⟩ ∧ B2 G' a ca ∧ B2 G' b cb ∧ D4 a ∧ D4 b ∧ ∀ p, Z8 k t = some p → p = (a, b)
theorem A81 (k : Int) (t : Ty) (G : IM) (cells : List Value) (hk : k = 4 ∨ k = 5) (ha : D4 t) (hr : B2 G t cells) :
  Fn Tryz.prog 161 [.agg ⟨cells⟩, .int .i64 k] [] G (B3l k t G) := by
 obtain ⟨tk, ks⟩ := t
 have ha2 := ha
 rw [D4] at ha2
 have hkid := ha.kid
 obtain ⟨p, c, es, rfl, htk, hsl, hkl⟩ := hr.open
 simp only [Ty.k, Ty.ks] at htk hsl hkl ⊢
 refine B6 Tryz.func161 rfl Tryz.ntmps161 Tryz.results161 rfl ?_
 intro w0
 refine tS (tR ?_)
 refine sE (C4 rfl rfl) rfl (fun b3 => ?_)
 refine sE (A6 rfl) rfl (fun b4 => ?_)
 refine sE (A6 rfl) rfl (fun b5 => ?_)
 refine I8 ?_
 refine C3 (tS (tR (sQ (qM rfl) rfl (sB (qE rfl rfl) rfl rfl (fun h20 => ?_) (fun h20 => ?_)))))
 refine sQ (qA rfl) rfl (sD (nS (qT rfl (tS ?_))))
 (have hlen : ks.length = 2 := ha2.1 (by omega); obtain ⟨b, o, q0, d0, hp0, hat0, hre0, hg0⟩ := hsl.kidTy hkl (i := 0) (by omega) (by omega); obtain ⟨b', o', q1, d1, hp1, hat1, hre1, hg1⟩ := hsl.kidTy hkl (i := 1) (by omega) (by omega); subst hp0; cases hp1; refine D1 D2 rfl ?_)
 refine I4 (i := 0) (l' := [tt,ff,ff,ff,ff,ff,ff,ff,ff,ff,ff]) rfl C8 (B5 rfl) rfl (by kernel_rfl) rfl rfl ?_
 refine aL 1 rfl (C7 rfl rfl) rfl ?_
 refine aP 2 rfl (B4 (j := 0) rfl rfl rfl (by omega)) rfl ?_
 refine aL 3 rfl (A3 rfl rfl (hat0 _) rfl) rfl ?_
 refine aP 4 rfl (B5 rfl) rfl ?_
 refine aL 5 rfl (C7 rfl rfl) rfl ?_
 refine aP 6 rfl (B4 (j := 1) rfl rfl rfl (by omega)) rfl ?_
 refine aL 7 rfl (A3 rfl rfl (hat1 _) rfl) rfl ?_
 refine A2 8 ?_
 refine H0 rfl ?_
 refine A2 9 ?_
 refine H0 rfl ?_
 refine aP 10 rfl (qA rfl) rfl ?_
 refine C0 (nS (tT (rB (rS ?_))))
 refine I0 (rC rfl (A4 rfl rfl)) (rC rfl (A4 rfl rfl)) (rT rfl) ?_
 (refine ⟨rfl, _, _, _, _, ?_, hre0, hre1, hkid _ (List.getElem_mem (by omega)), hkid _ (List.getElem_mem (by omega)), ?_⟩ <;> rw [A3N, if_pos (by omega)] <;> first | rfl | (intro p hp; cases hp; simp [hlen]))
 refine sQ (qA rfl) rfl (sD (nS (cF rfl (tS (tR ?_)))))
 refine sB (qE rfl rfl) rfl rfl (fun h53 => ?_) (fun h53 => ?_)
 refine sQ (qA rfl) rfl (sD (nS (qT rfl (tS (tR ?_)))))
 refine E8 rfl ((A05 _ _)) rfl rfl ?_
 refine E8 rfl ((A05 _ _)) rfl rfl ?_
 refine H6 ?_
 refine H6 ?_
 refine sQ (qA rfl) rfl (sD (nS (tT (rB (rS ?_)))))
 refine I0 (rC rfl (A4 rfl rfl)) (rC rfl (A4 rfl rfl)) (rT rfl) ?_
 (refine ⟨rfl, _, _, _, _, ?_, A0O _, A0O _, A3D, A3D, ?_⟩ <;> rw [A3N, if_neg (by omega), if_pos (by omega)] <;> first | rfl | (intro p hp; cases hp; rfl))
 refine P7 ?_
 refine I0 (rC rfl (A4 rfl rfl)) (rC rfl (A4 rfl rfl)) (rT rfl) ?_
 (refine ⟨rfl, B1, _, B1, _, ?_, K5 _ ⟨by omega, by omega⟩, K5 _ ⟨by omega, by omega⟩, N1 (by omega) (by omega), N1 (by omega) (by omega), ?_⟩ <;> rw [A3N, if_neg (by omega), if_neg (by omega)] <;> first | rfl | (intro p hp; cases hp))
def A2X (G : IM) (b : ByteArray × Ty) (e : List Value) : Prop := ∃ q d, e = [.string b.1, .int .i64 b.2.k, .slice q b.2.ks.length d] ∧ B2 G b.2 [.int .i64 b.2.k, .slice q b.2.ks.length d]
theorem A2X.mono {G G' : IM} {b : ByteArray × Ty} {e : List Value} (h : A2X G b e) (hg : B8 G G') : A2X G' b e := by
 obtain ⟨q, d, h1, h2⟩ := h
 exact ⟨q, d, h1, h2.mono hg⟩
def S7 (G : IM) (cx : Cx) (p : Option Addr) (n c : Nat) : Prop := n = cx.length ∧ ∃ es : List (List Value), C9 G p n c 3 es ∧ ∀ (i : Nat) (b : ByteArray × Ty), cx[i]? = some b → ∃ e, es[i]? = some e ∧ A2X G b e
theorem S7.mono {G G' : IM} {cx : Cx} {p : Option Addr} {n c : Nat} (h : S7 G cx p n c) (hg : B8 G G') : S7 G' cx p n c := by
 obtain ⟨h1, es, h2, h3⟩ := h
 refine ⟨h1, es, h2.mono hg, fun i b hb => ?_⟩
 obtain ⟨e, he, hr⟩ := h3 i b hb
 exact ⟨e, he, hr.mono hg⟩
theorem S7.nil (G : IM) : S7 G [] none 0 0 := ⟨rfl, [], C9.nil _ _, by simp⟩
theorem S7.le {G : IM} {cx : Cx} {p : Option Addr} {n c : Nat} (h : S7 G cx p n c) : n ≤ 9223372036854775807 := by
 obtain ⟨h1, es, h2, h3⟩ := h
 exact h2.le
theorem S7.get {G : IM} {cx : Cx} {p : Option Addr} {n c : Nat} (h : S7 G cx p n c) {i : Nat} (hi : i < n) :
  ∃ b o nm t q d, cx[i]? = some (nm, t) ∧ p = some ⟨b, o, none⟩ ∧ (∀ hp, At hp G b (o + i * 3) [.string nm, .int .i64 t.k, .slice q t.ks.length d]) ∧ B2 G t [.int .i64 t.k, .slice q t.ks.length d] ∧ G b ≠ none := by
 obtain ⟨h1, es, h2, h3⟩ := h
 obtain ⟨e, b, o, he, rfl, hl, _, hat, hgb⟩ := h2.get (i := i) (by omega)
 have hx : cx[i]? = some cx[i] := List.getElem?_eq_getElem (by omega)
 obtain ⟨e', he', q, d, h4, h5⟩ := h3 i _ hx
 rw [he] at he'
 obtain rfl := Option.some.inj he'
 rw [h4] at hat
 exact ⟨b, o, cx[i].1, cx[i].2, q, d, hx, rfl, hat, h5, hgb⟩
theorem B3m (G : IM) (cx : Cx) (p : Option Addr) (n c : Nat) (nm : ByteArray) (hx : S7 G cx p n c) :
  Fn Tryz.prog 159 [.slice p n c, .string nm] [] G (V6 (P2 cx nm) G) := by
 have hn := hx.le
 have hn1 := hx.1
 refine B6 Tryz.func159 rfl Tryz.ntmps159 Tryz.results159 rfl ?_
 intro w0
 refine tS (tR ?_)
 refine sE (A6 rfl) rfl (fun b3 => ?_)
 refine F8 ?_
 refine sP (O8 rfl rfl (by omega) (by omega)) rfl rfl ?_
 refine sQ (qA rfl) rfl (sD (nS ?_))
 refine C3 ?_
 (refine M6 (fun (i : Nat) => ⟨[(6, .int .i64 ((i : Int) - 1)), (0, .slice p n c), (1, .string nm), (4, .pointer (some ⟨b3, 0, none⟩))], [.blk b3 [.int .i64 0, .slice none 0 0]], G⟩) (fun i => i ≤ n ∧ V2 cx nm i = P2 cx nm) (fun i => i) n ?_ ?_ ?_)
 exact E1
 exact ⟨Nat.le_refl _, by rw [hn1]; rfl⟩
 (rintro i ⟨hi, hlk⟩)
 refine tS (tS (tR (sQ (qM rfl) rfl ?_)))
 refine sB (A0G rfl rfl) rfl rfl (fun h25 => ?_) (fun h25 => ?_)
 refine sD (nS (qT rfl (tK (nS (tS ?_)))))
 (show J5 _ _ (.block 1 _) _ _; obtain ⟨j, rfl⟩ : ∃ j, i = j + 1 := ⟨i - 1, by omega⟩; rw [show ((j + 1 : Nat) : Int) - 1 = (j : Int) from by omega]; obtain ⟨b, o, nm1, t1, q1, d1, hcx, rfl, hat, hr1, hgb⟩ := hx.get (i := j) (by omega); refine C3 ?_)
 refine tS (tR (sQ (qM rfl) rfl (sQ (qM rfl) rfl ?_)))
 refine sP (B4 rfl rfl rfl (by omega)) rfl rfl ?_
 refine sQ (qF rfl) rfl ?_
 refine sL (V4 rfl rfl ((hat _).sub (j := 0) rfl)) rfl rfl ?_
 refine sQ (qM rfl) rfl ?_
 refine sB (A1Q rfl rfl) rfl rfl (fun h41 => ?_) (fun h41 => ?_)
 refine D5 ?_
 refine sP (B4 rfl rfl rfl (by omega)) rfl rfl ?_
 refine sQ (qF rfl) rfl ?_
 refine sL (A3 rfl rfl (hat _).drop rfl) rfl rfl ?_
 refine I8 ?_
 refine C5 (rC rfl (A4 rfl rfl)) (rT rfl) ?_
 (rw [A2Q hcx (by assumption)] at hlk; rw [← hlk]; exact ⟨rfl, _, _, rfl, hr1, fun t ht => by cases ht; rfl⟩)
 refine F8 ?_
 refine sP (O8 rfl rfl (by omega) (by omega)) rfl rfl ?_
 refine sQ (qA rfl) rfl (sD ?_)
 refine L8 j ?_ ?_ ?_
 exact E1
 (rw [A2R hcx (by assumption)] at hlk; exact ⟨by omega, hlk⟩)
 (show _ < _ + 1; omega)
 refine M9 ?_
 refine C5 (rC rfl (A4 rfl rfl)) (rT rfl) ?_
 (obtain rfl : i = 0 := (by omega); rw [V2] at hlk; rw [← hlk]; exact ⟨rfl, _, B1, rfl, K5 _ ⟨by omega, by omega⟩, fun t ht => by cases ht⟩)
theorem B3n {xs ys : List Ty} (h : xs.length = 2) (h' : ys.length = 2) : A1W xs ys = [A0D (xs[0]'(by omega)) (ys[0]'(by omega)), A0D (xs[1]'(by omega)) (ys[1]'(by omega))] := by
 match xs, ys, h, h' with
 | [a, b], [c, d], _, _ => rfl
theorem B3o {k k' : Int} {ks bs : List Ty} (h : P1 (.mk k ks) (.mk k' bs) = true) (hk : k ≠ 1) (hk' : k' ≠ 1) : k = k' ∧ U3 ks bs = true := by
 rw [V9] at h
 simpa [hk, hk'] using h
theorem A82 : ∀ (a b : Ty) (G : IM) (ca cb : List Value), P1 a b = true → D4 a → D4 b → B2 G a ca → B2 G b cb →
  Fn Tryz.prog 163 [.agg ⟨ca⟩, .agg ⟨cb⟩] [] G (A80 (A0D a b) G) := by
 refine Ty.ind fun k ks ih b G ca cb hc haa hab hra hrb => ?_
 have hsa := haa.small
 have hsb := hab.small
 obtain ⟨bk, bks⟩ := b
 have hra0 := hra
 have hrb0 := hrb
 have ha2 := haa
 have hb2 := hab
 rw [D4] at ha2 hb2
 have hkida := haa.kid
 have hkidb := hab.kid
 obtain ⟨p, c, es, rfl, hk, hsl, hkl⟩ := hra.open
 obtain ⟨p', c', es', rfl, hk', hsl', hkl'⟩ := hrb.open
 simp only [Ty.k, Ty.ks] at hk hsl hkl hk' hsl' hkl' ⊢
 have hn := hsl.le
 rw [A8u]
 refine B6 Tryz.func163 rfl Tryz.ntmps163 Tryz.results163 rfl ?_
 intro w0
 refine tS (tR ?_)
 refine sE (C4 rfl rfl) rfl (fun b3 => ?_)
 refine sE (C4 rfl rfl) rfl (fun b4 => ?_)
 refine sE (A6 rfl) rfl (fun b5 => ?_)
 refine sD (nS (tS ?_))
 refine C3 ?_
 refine tS (tR (sQ (B5 rfl) rfl (sL (C7 rfl rfl) rfl rfl ?_)))
 refine sB (qE rfl rfl) rfl rfl (fun h14 => ?_) (fun h14 => ?_)
 refine D5 ?_
 (refine D7 rfl (A1V _ _ _ hsb hrb0) rfl rfl (fun v G1 hle1 hh => ?_); obtain ⟨K9, F1, rfl, hs1, hn1⟩ := hh; obtain ⟨p1, c1, rfl, _⟩ := hs1.open; have hr1 := hs1.R.mono (C2.le G1 _))
 refine H6 ?_
 refine sD (nS (tT (rB (rS ?_))))
 refine D6 (rC rfl (A4 rfl rfl)) ?_
 (rw [if_pos (by omega)]; exact ⟨rfl, _, rfl, hr1⟩)
 refine F8 ?_
 refine sB (qE rfl rfl) rfl rfl (fun h39 => ?_) (fun h39 => ?_)
 refine J4 ?_
 (refine D7 rfl (A1V _ _ _ hsa hra0) rfl rfl (fun v G1 hle1 hh => ?_); obtain ⟨K9, F1, rfl, hs1, hn1⟩ := hh; obtain ⟨p1, c1, rfl, _⟩ := hs1.open; have hr1 := hs1.R.mono (C2.le G1 _))
 refine H6 ?_
 refine sD (nS (tT (rB (rS ?_))))
 refine D6 (rC rfl (A4 rfl rfl)) ?_
 (rw [if_neg (by omega)]; split <;> first | exact ⟨rfl, _, rfl, hr1⟩ | (obtain rfl : ks = [] := List.length_eq_zero_iff.1 (by omega); rw [A1W]; exact ⟨rfl, _, rfl, hr1⟩; simp))
 refine J8 ?_
 refine sB (qE rfl rfl) rfl rfl (fun h66 => ?_) (fun h66 => ?_)
 refine F8 ?_
 (refine D7 rfl (A1V _ _ _ hsa hra0) rfl rfl (fun v G1 hle1 hh => ?_); obtain ⟨K9, F1, rfl, hs1, hn1⟩ := hh; obtain ⟨p1, c1, rfl, _⟩ := hs1.open; have hr1 := hs1.R.mono (C2.le G1 _))
 refine H6 ?_
 refine sD (nS (tT (rB (rS ?_))))
 refine D6 (rC rfl (A4 rfl rfl)) ?_
 (rw [if_neg (by omega)]; split <;> first | exact ⟨rfl, _, rfl, hr1⟩ | (obtain rfl : ks = [] := List.length_eq_zero_iff.1 (by omega); rw [A1W]; exact ⟨rfl, _, rfl, hr1⟩; simp))
 refine D8 ?_
 (obtain ⟨hkk, hcl0⟩ := B3o hc (by omega) (by omega); subst hkk; have hcl := (A2i _ _).1 hcl0; have hlen : ks.length = 2 := (by have := ha2.2.1; have := ha2.1; omega); have hlen' : bks.length = 2 := (by omega); obtain ⟨b0, o0, q0, d0, hp0, hat0, hre0, hg0⟩ := hsl.kidTy hkl (i := 0) (by omega) (by omega); obtain ⟨b1, o1, q1, d1, hp1, hat1, hre1, hg1⟩ := hsl.kidTy hkl (i := 1) (by omega) (by omega); subst hp0; cases hp1; obtain ⟨b2, o2, q2, d2, hp2, hat2, hre2, hg2⟩ := hsl'.kidTy hkl' (i := 0) (by omega) (by omega); obtain ⟨b3, o3, q3, d3, hp3, hat3, hre3, hg3⟩ := hsl'.kidTy hkl' (i := 1) (by omega) (by omega); subst hp2; cases hp3; have hM1 := ih ks[0] (List.getElem_mem (by omega)) bks[0] G _ _ (hcl.2 0 (by omega) (by omega)) (hkida _ (List.getElem_mem (by omega))) (hkidb _ (List.getElem_mem (by omega))) hre0 hre2; refine D1 D2 rfl ?_)
 refine I4 (i := 0) (l' := [tt,ff,ff,ff,ff,ff,ff,ff,ff,ff,ff,ff,ff,ff,ff,ff,ff,ff,ff,ff,ff,ff]) rfl C8 (B5 rfl) rfl (by kernel_rfl) rfl rfl ?_
 refine aL 1 rfl (C7 rfl rfl) rfl ?_
 refine aP 2 rfl (B5 rfl) rfl ?_
 refine aL 3 rfl (C7 rfl rfl) rfl ?_
 refine aP 4 rfl (B4 (j := 0) rfl rfl rfl (by omega)) rfl ?_
 refine aL 5 rfl (A3 rfl rfl (hat0 _) rfl) rfl ?_
 refine aP 6 rfl (B5 rfl) rfl ?_
 refine aL 7 rfl (C7 rfl rfl) rfl ?_
 refine aP 8 rfl (B4 (j := 0) rfl rfl rfl (by omega)) rfl ?_
 refine aL 9 rfl (A3 rfl rfl (hat2 _) rfl) rfl ?_
 refine aP 11 rfl (B5 rfl) rfl ?_
 refine aL 12 rfl (C7 rfl rfl) rfl ?_
 refine aP 13 rfl (B4 (j := 1) rfl rfl rfl (by omega)) rfl ?_
 refine aL 14 rfl (A3 rfl rfl (hat1 _) rfl) rfl ?_
 refine aP 15 rfl (B5 rfl) rfl ?_
 refine aL 16 rfl (C7 rfl rfl) rfl ?_
 refine aP 17 rfl (B4 (j := 1) rfl rfl rfl (by omega)) rfl ?_
 refine aL 18 rfl (A3 rfl rfl (hat3 _) rfl) rfl ?_
 refine A2 10 ?_
 (refine E3 rfl rfl hM1 rfl rfl rfl (fun v G1 hle1 hh => ?_); obtain ⟨cm1, rfl, hm1⟩ := hh; have hM2 := ih ks[1] (List.getElem_mem (by omega)) bks[1] G1 _ _ (hcl.2 1 (by omega) (by omega)) (hkida _ (List.getElem_mem (by omega))) (hkidb _ (List.getElem_mem (by omega))) (hre1.mono hle1) (hre3.mono hle1))
 refine A2 19 ?_
 (refine E3 rfl rfl hM2 rfl rfl rfl (fun v G2 hle2 hh => ?_); obtain ⟨cm2, rfl, hm2⟩ := hh; have hB := A10 k _ _ G2 _ _ hk (hm1.mono hle2) hm2)
 refine A2 20 ?_
 (refine E3 rfl rfl hB rfl rfl rfl (fun v G3 hle3 hh => ?_); obtain ⟨cm3, rfl, hm3⟩ := hh; obtain ⟨p5, c5, e5, rfl, _⟩ := hm3.open)
 refine A2 21 ?_
 refine H0 rfl ?_
 refine C0 (nS (tT ?_))
 refine D6 (rC rfl (A4 rfl rfl)) ?_
 (rw [if_neg (by omega), if_neg (by omega)]; rw [B3n hlen hlen']; exact ⟨rfl, _, rfl, hm3⟩)
def S8 (t : Tm) : IM → Value → List A5 → Prop := L2 fun G' v => ∃ cells, v = .agg ⟨cells⟩ ∧ A8 G' t cells
theorem S8.mk {G : IM} {t : Tm} {cells : List Value} (h : A8 G t cells) : S8 t G (.agg ⟨cells⟩) [] := ⟨rfl, cells, rfl, h⟩
def mGk (k : Int) : Ty := if k = 4 ∨ k = 5 then .mk k [L0, L0] else .mk k []
theorem A3O {G : IM} {k : Int} {ks : List Tm} {p : Option Addr} {n c : Nat} {es : List (List Value)} (hk : E9 k) (hn : n = ks.length) (hs : C9 G p n c 9 es) (hr : E5 G ks es) : A8 G (A0r k ks) [.int .i64 k, .string ⟨⟨[]⟩⟩, .int .i64 0, .int .i64 0, .slice none 0 0, .int .i64 0, .slice none 0 0, .int .i64 0, .slice p n c] := by
 subst hn
 simp only [A0r, A8]
 exact ⟨[.int .i64 0, .slice none 0 0], [.int .i64 0, .slice none 0 0], p, c, es, rfl, hk, ⟨by decide, by decide⟩, ⟨by decide, by decide⟩, A1X G, A1X G, hs, hr⟩
theorem A59 (k : Int) (G : IM) (hk : E9 k) : Fn Tryz.prog 213 [.int .i64 k] [] G (L2 fun G' v => ∃ cells, v = .agg ⟨cells⟩ ∧ B2 G' (mGk k) cells) := by
 have hB := A10 k L0 L0 G _ _ hk (A0O G) (A0O G)
 refine B6 Tryz.func213 rfl Tryz.ntmps213 Tryz.results213 rfl ?_
 intro w0
 refine tS (tR ?_)
 refine sE (A6 rfl) rfl (fun b3 => ?_)
 refine sD (nS (tS (tS (tR (sQ (qM rfl) rfl ?_)))))
 refine sB (qE rfl rfl) rfl rfl (fun h10 => ?_) (fun h10 => ?_)
 refine I8 ?_
 refine E8 rfl ((A05 _ _)) rfl rfl ?_
 refine E8 rfl ((A05 _ _)) rfl rfl ?_
 (refine D7 rfl hB rfl rfl (fun v G1 hle1 hh => ?_); obtain ⟨cb, rfl, hrb⟩ := hh; obtain ⟨p1, c1, e1, rfl, _⟩ := hrb.open)
 refine H6 ?_
 refine sD (nS (tT (rS ?_)))
 refine D6 (rC rfl (A4 rfl rfl)) ?_
 (exact ⟨rfl, _, rfl, by unfold mGk; rw [if_pos (by omega)]; exact hrb⟩)
 refine sQ (qM rfl) rfl (sQ (qM rfl) rfl ?_)
 refine sB (qE rfl rfl) rfl rfl (fun h33 => ?_) (fun h33 => ?_)
 refine D5 ?_
 refine E8 rfl ((A05 _ _)) rfl rfl ?_
 refine E8 rfl ((A05 _ _)) rfl rfl ?_
 (refine D7 rfl hB rfl rfl (fun v G1 hle1 hh => ?_); obtain ⟨cb, rfl, hrb⟩ := hh; obtain ⟨p1, c1, e1, rfl, _⟩ := hrb.open)
 refine H6 ?_
 refine sD (nS (tT (rS ?_)))
 refine D6 (rC rfl (A4 rfl rfl)) ?_
 (exact ⟨rfl, _, rfl, by unfold mGk; rw [if_pos (by omega)]; exact hrb⟩)
 refine D8 ?_
 refine E8 rfl ((A05 _ _)) rfl rfl ?_
 refine H6 ?_
 refine sD (nS (tT ?_))
 refine D6 (rC rfl (A4 rfl rfl)) ?_
 (exact ⟨rfl, _, rfl, by unfold mGk; rw [if_neg (by omega)]; exact K5 _ hk⟩)
theorem A83 (t : Ty) (G : IM) (cells : List Value) (hr : B2 G t cells) : Fn Tryz.prog 157 [.agg ⟨cells⟩] [] G (J3 (.bool (S9 t)) G) := by
 refine Fn.forget (post := L2 fun _ v => v = .bool (S9 t)) ?_ (fun _ _ _ h => h.2)
 have hr0 := hr
 obtain ⟨tk, tks⟩ := t
 obtain ⟨p, c, es, rfl, hk, _⟩ := hr.open
 simp only [Ty.k, Ty.ks] at hk hr0 ⊢
 rw [show S9 (.mk tk tks) = (decide (tk ≠ 1) && H7 (.mk tk tks) (mGk tk)) from rfl]
 refine B6 Tryz.func157 rfl Tryz.ntmps157 Tryz.results157 rfl ?_
 intro w0
 refine tS (tR ?_)
 refine sE (C4 rfl rfl) rfl (fun b3 => ?_)
 refine sQ (qA rfl) rfl (sD (nS (tS ?_)))
 refine D1 D2 rfl ?_
 refine I4 (i := 0) (l' := [tt,ff,ff,ff,ff,ff,ff,ff,ff,ff,ff]) rfl C8 (B5 rfl) rfl (by kernel_rfl) rfl rfl ?_
 refine aL 1 rfl (C7 rfl rfl) rfl ?_
 refine A01 (i := 2) (l' := [tt,tt,tt,ff,ff,ff,ff,ff,ff,ff,ff]) rfl C8 (Q6 rfl rfl) rfl (by kernel_rfl) rfl rfl (fun h11 => ?_) (fun h11 => ?_)
 refine aP 3 rfl (qM rfl) rfl ?_
 refine aL 4 rfl (A4 rfl rfl) rfl ?_
 refine aP 5 rfl (B5 rfl) rfl ?_
 refine aL 6 rfl (C7 rfl rfl) rfl ?_
 refine A2 7 ?_
 (refine E3 rfl rfl (A59 tk G hk) rfl rfl rfl (fun v G1 hle1 hh => ?_); obtain ⟨cg, rfl, hrg⟩ := hh; have hT := A2W (.mk tk tks) (mGk tk) G1 _ _ (hr0.mono hle1) hrg; obtain ⟨pg, cgg, eg, rfl, _⟩ := hrg.open)
 refine A2 8 ?_
 refine J0 rfl rfl (hT) rfl rfl rfl ?_
 refine aP 9 rfl (K1 rfl rfl) rfl ?_
 refine aP 10 rfl (qA rfl) rfl ?_
 refine C0 (nS (tT (D6 (rT rfl) ?_)))
 (exact ⟨rfl, by rw [decide_eq_true (by omega), Bool.true_and]⟩)
 refine aP 3 rfl (qM rfl) rfl ?_
 refine B3 4 rfl rfl rfl ?_
 refine B3 5 rfl rfl rfl ?_
 refine B3 6 rfl rfl rfl ?_
 refine B3 7 rfl rfl rfl ?_
 refine B3 8 rfl rfl rfl ?_
 refine aP 9 rfl (L6 rfl rfl) rfl ?_
 refine aP 10 rfl (qA rfl) rfl ?_
 refine C0 (nS (tT (D6 (rT rfl) ?_)))
 (exact ⟨rfl, by rw [decide_eq_false (by omega), Bool.false_and]⟩)
theorem A2v (t : Tm) (G : IM) (cells : List Value) (hr : A8 G t cells) : Fn Tryz.prog 111 [.agg ⟨cells⟩] [] G (J3 (.bool (S6 t)) G) := by
 obtain ⟨k, nm, num, ⟨tk, tks⟩, ⟨fk, fks⟩, lb, ks⟩ := t
 obtain ⟨pt, ct, pf, cf, p, c, es, rfl, hk, hnum, hlb, hty, hfr, hsl, hkl⟩ := hr.open9
 have hd : S6 (.mk k nm num (.mk tk tks) (.mk fk fks) lb ks) = decide (k = 14 ∧ fk = tk ∧ (tk = 4 ∨ tk = 5)) := rfl
 rw [hd]
 refine B6 Tryz.func111 rfl Tryz.ntmps111 Tryz.results111 rfl ?_
 intro w0
 refine tS (tR ?_)
 refine sE (C4 rfl rfl) rfl (fun b3 => ?_)
 refine D5 ?_
 refine sB (qE rfl rfl) rfl rfl (fun h11 => ?_) (fun h11 => ?_)
 refine D5 ?_
 refine sB (qE rfl rfl) rfl rfl (fun h19 => ?_) (fun h19 => ?_)
 refine R0 ?_
 refine sB (qE rfl rfl) rfl rfl (fun h25 => ?_) (fun h25 => ?_)
 refine N2 ?_
 (exact ⟨rfl, by rw [decide_eq_true (by omega)], rfl⟩)
 refine J8 ?_
 refine sB (qE rfl rfl) rfl rfl (fun h43 => ?_) (fun h43 => ?_)
 refine D5 ?_
 (exact ⟨rfl, by rw [decide_eq_true (by omega)], rfl⟩)
 refine D5 ?_
 (exact ⟨rfl, by rw [decide_eq_false (by omega)], rfl⟩)
 refine U9 ?_
 (exact ⟨rfl, by rw [decide_eq_false (by omega)], rfl⟩)
 refine A2h ?_
 (exact ⟨rfl, by rw [decide_eq_false (by omega)], rfl⟩)
theorem A3P (t : Tm) (G : IM) (cells : List Value) (hr : A8 G t cells) : Fn Tryz.prog 112 [.agg ⟨cells⟩] [] G (J3 (.bool (inj t)) G) := by
 obtain ⟨k, nm, num, ⟨tk, tks⟩, ⟨fk, fks⟩, lb, ks⟩ := t
 obtain ⟨pt, ct, pf, cf, p, c, es, rfl, hk, hnum, hlb, hty, hfr, hsl, hkl⟩ := hr.open9
 have hd : inj (.mk k nm num (.mk tk tks) (.mk fk fks) lb ks) = (decide (k = 14 ∧ tk = 1) && S9 (.mk fk fks)) := rfl
 rw [hd]
 refine B6 Tryz.func112 rfl Tryz.ntmps112 Tryz.results112 rfl ?_
 intro w0
 refine tS (tR ?_)
 refine sE (C4 rfl rfl) rfl (fun b3 => ?_)
 refine D5 ?_
 refine sB (qE rfl rfl) rfl rfl (fun h11 => ?_) (fun h11 => ?_)
 refine J8 ?_
 refine sB (qE rfl rfl) rfl rfl (fun h16 => ?_) (fun h16 => ?_)
 refine J8 ?_
 refine E8 rfl ((A83 (.mk fk fks) G _ hfr)) rfl rfl ?_
 refine J9 ?_
 (exact ⟨rfl, by rw [decide_eq_true (by omega), Bool.true_and], rfl⟩)
 refine J6 ?_
 (exact ⟨rfl, by rw [decide_eq_false (by omega), Bool.false_and], rfl⟩)
 refine M9 ?_
 (exact ⟨rfl, by rw [decide_eq_false (by omega), Bool.false_and], rfl⟩)
theorem B3p (t : Tm) (G : IM) (cells : List Value) (hr : A8 G t cells) : Fn Tryz.prog 115 [.agg ⟨cells⟩] [] G (J3 (.bool (decide (t.k = 2 ∨ t.k = 3 ∨ t.k = 4 ∨ t.k = 5))) G) := by
 obtain ⟨k, nm, num, ⟨tk, tks⟩, ⟨fk, fks⟩, lb, ks⟩ := t
 obtain ⟨pt, ct, pf, cf, p, c, es, rfl, hk, hnum, hlb, hty, hfr, hsl, hkl⟩ := hr.open9
 rw [show (Tm.mk k nm num (.mk tk tks) (.mk fk fks) lb ks).k = k from rfl]
 refine B6 Tryz.func115 rfl Tryz.ntmps115 Tryz.results115 rfl ?_
 intro w0
 refine tS (tR ?_)
 refine sE (C4 rfl rfl) rfl (fun b3 => ?_)
 refine D5 ?_
 refine sB (qE rfl rfl) rfl rfl (fun h11 => ?_) (fun h11 => ?_)
 refine A0d ?_
 (exact ⟨rfl, by rw [decide_eq_true (by omega)], rfl⟩)
 refine H9 ?_
 refine sB (qE rfl rfl) rfl rfl (fun h36 => ?_) (fun h36 => ?_)
 refine M9 ?_
 (exact ⟨rfl, by rw [decide_eq_true (by omega)], rfl⟩)
 refine J8 ?_
 refine sB (qE rfl rfl) rfl rfl (fun h58 => ?_) (fun h58 => ?_)
 refine J6 ?_
 (exact ⟨rfl, by rw [decide_eq_true (by omega)], rfl⟩)
 refine J8 ?_
 refine sB (qE rfl rfl) rfl rfl (fun h75 => ?_) (fun h75 => ?_)
 refine J9 ?_
 (exact ⟨rfl, by rw [decide_eq_true (by omega)], rfl⟩)
 refine J9 ?_
 (exact ⟨rfl, by rw [decide_eq_false (by omega)], rfl⟩)
theorem B3q (G : IM) (p : Option Addr) (n c : Nat) (es : List (List Value)) (hsl : C9 G p n c 9 es) (fid : FuncId) [B7 Tryz.prog fid] (us cs : List Value) (ins : List A5) (q : Nat → Bool)
  (hq : ∀ i e, es[i]? = some e → Fn Tryz.prog fid (us ++ [.agg ⟨e⟩] ++ cs) ins G (U2 (.bool (q i)) ins G)) :
  Fn Tryz.prog 158 [.slice p n c, .func (.func fid) ⟨us⟩ ⟨cs⟩] ins G (U2 (.int .i64 (A0C q n)) ins G) := by
 have hn := hsl.le
 refine B6 Tryz.func158 rfl Tryz.ntmps158 Tryz.results158 rfl ?_
 intro w0
 refine J4 ?_
 refine C3 ?_
 refine M6 (fun i : Nat => ⟨[(8, .int .i64 i), (7, .int .i64 n), (1, .func (.func fid) ⟨us⟩ ⟨cs⟩), (0, .slice p n c)], ins, G⟩) (fun i => i ≤ n ∧ ∀ j, j < i → q j = false) (fun i => n - i) 0 ?_ ?_ ?_
 exact E1
 exact ⟨by omega, by omega⟩
 rintro i ⟨hi, hf⟩
 refine tS (tR ?_)
 refine sB (M2 rfl rfl) rfl rfl (fun h21 => ?_) (fun h21 => ?_)
 refine sD (nS (tS (qT rfl (tK (nS (tS ?_))))))
 refine C3 ?_
 refine J6 ?_
 (obtain ⟨e, b, o, he, rfl, hl, _, hat, _⟩ := hsl.get (i := i) (by omega); refine sP (B4 rfl rfl rfl (by omega)) rfl rfl ?_)
 refine sL (A3 rfl rfl (hat _) hl) rfl rfl ?_
 refine A4j rfl rfl (hq i e he) A0z rfl rfl (fun h43 => ?_) (fun h43 => ?_)
 refine K0 ?_
 refine I1 (rT rfl) A1.refl ?_
 exact ⟨rfl, by rw [A7G (by omega) hf (by assumption)], rfl⟩
 refine sD (nS (cF rfl (tK (O2 (nS (tR ?_))))))
 refine sP (M8 rfl rfl (by omega) (by omega)) rfl rfl ?_
 refine sQ (qM rfl) rfl (sD ?_)
 refine L8 (i + 1) ?_ ?_ ?_
 exact E1
 exact ⟨by omega, fun j hj => by by_cases hji : j = i; (subst hji; assumption); exact hf j (by omega)⟩
 omega
 refine K0 ?_
 refine I1 (rT rfl) A1.refl ?_
 exact ⟨rfl, by rw [A5w (fun j hj => hf j (by omega))], rfl⟩
theorem B3r (G : IM) (p : Option Addr) (n c : Nat) (es : List (List Value)) (hsl : C9 G p n c 9 es) (fid : FuncId) [B7 Tryz.prog fid] (us cs : List Value) (ins : List A5) (q : Nat → Bool)
  (hq : ∀ i e, es[i]? = some e → Fn Tryz.prog fid (us ++ [.agg ⟨e⟩] ++ cs) ins G (U2 (.bool (q i)) ins G)) :
  Fn Tryz.prog 113 [.slice p n c, .func (.func fid) ⟨us⟩ ⟨cs⟩] ins G (U2 (.bool (decide (0 ≤ A0C q n))) ins G) := by
 refine B6 Tryz.func113 rfl Tryz.ntmps113 Tryz.results113 rfl ?_
 intro w0
 refine D8 ?_
 refine A2g rfl (B3q G p n c es hsl fid us cs ins q hq) A0z rfl rfl ?_
 refine sQ (A0G rfl rfl) rfl ?_
 refine sQ (qA rfl) rfl (sD (nS (tT ?_)))
 refine I1 (rT rfl) A1.refl ?_
 exact ⟨rfl, rfl, rfl⟩
theorem B3s (G : IM) (p : Option Addr) (n c : Nat) (es : List (List Value)) (hsl : C9 G p n c 9 es) (fid : FuncId) [B7 Tryz.prog fid] (us cs : List Value) (ins : List A5) (f : Tm → Bool) (ks : List Tm)
  (hn : ks.length = n) {A : Bool} (hA : ks.all f = A) (hq : ∀ i e, es[i]? = some e → Fn Tryz.prog fid (us ++ [.agg ⟨e⟩] ++ cs) ins G (U2 (.bool (!f (ks.getD i I9))) ins G)) :
  Fn Tryz.prog 113 [.slice p n c, .func (.func fid) ⟨us⟩ ⟨cs⟩] ins G (U2 (.bool (!A)) ins G) := by
 subst hn hA
 rw [← A7J f ks I9]
 exact B3r G p _ c es hsl fid us cs ins _ hq
theorem A84 : ∀ ks, A08 ks = ks.all E2
 | [] => rfl
 | t :: ts => by rw [A08, A84 ts, List.all_cons]
theorem B3t (t : Tm) (G : IM) (cells : List Value) (hl : cells.length = 9) (ho : cells.all (·.oneCell') = true) (h : Fn Tryz.prog 48 [.agg ⟨cells⟩] [] G (J3 (.bool (E2 t)) G)) :
  Fn Tryz.prog 114 [.agg ⟨cells⟩] [] G (U2 (.bool (!E2 t)) [] G) := by
 refine B6 Tryz.func114 rfl Tryz.ntmps114 Tryz.results114 rfl ?_
 intro w0
 refine tS (tR ?_)
 refine sE (C4 rfl rfl) rfl (fun b3 => ?_)
 refine sQ (qA rfl) rfl (sD (nS (tS (tR ?_))))
 refine sL (A3 rfl rfl (A7 (by repeat first | exact mH | apply mT)) hl) rfl rfl ?_
 refine E8 rfl (h) rfl rfl ?_
 refine sQ (A2H rfl) rfl ?_
 refine sQ (qA rfl) rfl (sD (nS (tT (D6 (rT rfl) ?_))))
 (exact ⟨rfl, rfl, rfl⟩)
theorem A1I (k : Int) (nm : ByteArray) (num : Int) (ty fr : Ty) (lb : Int) (ks : List Tm) : S6 (.mk k nm num ty fr lb ks) = decide (k = 14 ∧ fr.k = ty.k ∧ (ty.k = 4 ∨ ty.k = 5)) := rfl
theorem A4H (k : Int) (nm : ByteArray) (num : Int) (ty fr : Ty) (lb : Int) (ks : List Tm) : inj (.mk k nm num ty fr lb ks) = (decide (k = 14 ∧ ty.k = 1) && S9 fr) := rfl
theorem A4I {k : Int} {nm : ByteArray} {num : Int} {ty fr : Ty} {lb : Int} {ks : List Tm} (h : k = 10 ∨ S6 (.mk k nm num ty fr lb ks) = true ∨ inj (.mk k nm num ty fr lb ks) = true) : E2 (.mk k nm num ty fr lb ks) = ks.all E2 := by
 rw [E2, if_pos, A84]
 rw [A1I, A4H] at h
 simp only [Bool.and_eq_true, decide_eq_true_eq] at h
 rcases h with h | h | h
 ·exact .inl h
 ·exact .inr (.inl h)
 ·exact .inr (.inr ⟨h.1.1, h.1.2, h.2⟩)
theorem A85 {k : Int} {nm : ByteArray} {num : Int} {ty fr : Ty} {lb : Int} {ks : List Tm} (h : ¬k = 10) (h2 : S6 (.mk k nm num ty fr lb ks) = false) (h3 : inj (.mk k nm num ty fr lb ks) = false) : E2 (.mk k nm num ty fr lb ks) = decide (k = 2 ∨ k = 3 ∨ k = 4 ∨ k = 5) := by
 rw [E2, if_neg]
 rw [A1I] at h2
 rw [A4H] at h3
 simp only [Bool.and_eq_false_iff, decide_eq_false_iff_not] at h2 h3
 rintro (h' | h' | h')
 ·exact h h'
 ·exact h2 h'
 ·rcases h3 with h3 | h3
  ·exact h3 ⟨h'.1, h'.2.1⟩
  ·rw [h3] at h'; cases h'.2.2
theorem A6a : ∀ (t : Tm) (G : IM) (cells : List Value), A8 G t cells → Fn Tryz.prog 48 [.agg ⟨cells⟩] [] G (J3 (.bool (E2 t)) G) := by
 refine Tm.ind fun k nm num ty fr lb ks ih G cells hr => ?_
 have hr0 := hr
 have hP := A2v _ G _ hr
 have hI := A3P _ G _ hr
 have hPl := B3p _ G _ hr
 have hy := @A4I k nm num ty fr lb ks
 have hn := @A85 k nm num ty fr lb ks
 rw [show (Tm.mk k nm num ty fr lb ks).k = k from rfl] at hPl
 obtain ⟨A, hA⟩ : ∃ A, ks.all E2 = A := ⟨_, rfl⟩
 rw [hA] at hy
 generalize hpx : S6 (.mk k nm num ty fr lb ks) = bp at hP hy hn
 generalize hij : inj (.mk k nm num ty fr lb ks) = bi at hI hy hn
 generalize E2 (.mk k nm num ty fr lb ks) = R at hy hn ⊢
 obtain ⟨tk, tks⟩ := ty
 obtain ⟨fk, fks⟩ := fr
 obtain ⟨pt, ct, pf, cf, p, c, es, rfl, hk, hnum, hlb, hty, hfr, hsl, hkl⟩ := hr.open9
 have hC := B3s G p ks.length c es hsl 114 [] [] [] E2 ks rfl hA (fun i e he => by
  have hx := hkl.inv he I9
  exact B3t _ G e hx.2.len hx.2.one (ih _ hx.1 G e hx.2))
 refine B6 Tryz.func48 rfl Tryz.ntmps48 Tryz.results48 rfl ?_
 intro w0
 refine tS (tR ?_)
 refine sE (C4 rfl rfl) rfl (fun b3 => ?_)
 refine F8 ?_
 refine sB (qE rfl rfl) rfl rfl (fun h12 => ?_) (fun h12 => ?_)
 refine K0 ?_
 refine A2g rfl hC A0z rfl rfl ?_
 refine sQ (A2H rfl) rfl ?_
 refine sQ (qA rfl) rfl (sD (nS (tT (rS (D6 (rT rfl) ?_)))))
 (exact ⟨rfl, by rw [hy (by first | exact .inl (by omega) | exact .inr (.inl (by assumption)) | exact .inr (.inr (by assumption)))]; cases A <;> rfl, rfl⟩)
 refine sQ (qM rfl) rfl (sL (A4 rfl rfl) rfl rfl ?_)
 refine F4 rfl (hP) rfl rfl (fun h39 => ?_) (fun h39 => ?_)
 refine N2 ?_
 refine A2g rfl hC A0z rfl rfl ?_
 refine sQ (A2H rfl) rfl ?_
 refine sQ (qA rfl) rfl (sD (nS (tT (rS (D6 (rT rfl) ?_)))))
 (exact ⟨rfl, by rw [hy (by first | exact .inl (by omega) | exact .inr (.inl (by assumption)) | exact .inr (.inr (by assumption)))]; cases A <;> rfl, rfl⟩)
 refine H9 ?_
 refine F4 rfl (hI) rfl rfl (fun h64 => ?_) (fun h64 => ?_)
 refine F8 ?_
 refine A2g rfl hC A0z rfl rfl ?_
 refine sQ (A2H rfl) rfl ?_
 refine sQ (qA rfl) rfl (sD (nS (tT (rS (D6 (rT rfl) ?_)))))
 (exact ⟨rfl, by rw [hy (by first | exact .inl (by omega) | exact .inr (.inl (by assumption)) | exact .inr (.inr (by assumption)))]; cases A <;> rfl, rfl⟩)
 refine D8 ?_
 refine E8 rfl (hPl) rfl rfl ?_
 refine sQ (qA rfl) rfl (sD (nS (tT (D6 (rT rfl) ?_))))
 (exact ⟨rfl, by rw [hn (by omega) (by assumption) (by assumption)], rfl⟩)
theorem A8.put {G : IM} {k : Int} {nm : ByteArray} {num tk fk lb : Int} {tks fks : List Ty} {us : List Tm} {pt pf p : Option Addr} {ct cf n c : Nat} {es : List (List Value)} (hk : E9 k) (hnum : E9 num) (hlb : E9 lb) (hty : B2 G (.mk tk tks) [.int .i64 tk, .slice pt tks.length ct]) (hfr : B2 G (.mk fk fks) [.int .i64 fk, .slice pf fks.length cf])
  (hn : n = us.length) (hs : C9 G p n c 9 es) (hr : E5 G us es) : A8 G (.mk k nm num (.mk tk tks) (.mk fk fks) lb us) [.int .i64 k, .string nm, .int .i64 num, .int .i64 tk, .slice pt tks.length ct, .int .i64 fk, .slice pf fks.length cf, .int .i64 lb, .slice p n c] := by
 subst hn
 simp only [A8]
 exact ⟨_, _, p, c, es, rfl, hk, hnum, hlb, hty, hfr, hs, hr⟩
theorem nine {uc : List Value} (h : uc.length = 9) : ∃ v1 v2 v3 v4 v5 v6 v7 v8 v9, uc = [v1, v2, v3, v4, v5, v6, v7, v8, v9] := by
 match uc, h with
 | [a, b, c, d, e, f, g, i, j], _ => exact ⟨a, b, c, d, e, f, g, i, j, rfl⟩
theorem A6b {x : ByteArray} {v : Tm} {ks : List Tm} {i : Nat} (h : i < ks.length) : (S1 x v ks).take (i + 1) = (S1 x v ks).take i ++ [T6 x v ks[i]] := by
 rw [A57, List.take_succ_eq_append_getElem (by rw [List.length_map]; exact h), List.getElem_map]
theorem A1J (x : ByteArray) (v : Tm) (ks : List Tm) : (S1 x v ks).length = ks.length := by rw [A57, List.length_map]
theorem B3u (y : ByteArray) (v : Tm) (vc : List Value) : ∀ (t : Tm) (G : IM) (cells : List Value), t.small → A8 G t cells → A8 G v vc → Fn Tryz.prog 241 [.agg ⟨cells⟩, .string y, .agg ⟨vc⟩] [] G (S8 (T6 y v t)) := by
 refine Tm.ind fun k nm num ty fr lb ks ih G cells hts hr hv => ?_
 have hr0 := hr
 obtain ⟨_, _, _, hsm, hks⟩ := A4G.1 hts
 have hvl := hv.len
 have hvo := hv.one
 have hRl := hr.len
 have hRo := hr.one
 rw [T6]
 obtain ⟨tk, tks⟩ := ty
 obtain ⟨fk, fks⟩ := fr
 obtain ⟨pt, ct, pf, cf, p, c, es, rfl, hk, hnum, hlb, hty, hfr, hsl, hkl⟩ := hr.open9
 have hn := hsl.le
 refine B6 Tryz.func241 rfl Tryz.ntmps241 Tryz.results241 rfl ?_
 intro w0
 refine tS (tR ?_)
 refine sE (C4 rfl rfl) rfl (fun b3 => ?_)
 refine sE (C4 rfl rfl) rfl (fun b4 => ?_)
 refine sE (A6 rfl) rfl (fun b5 => ?_)
 refine sD (nS (tS ?_))
 refine C3 ?_
 refine tS (tR (sQ (B5 rfl) rfl (sL (C7 rfl rfl) rfl rfl ?_)))
 refine sB (qE rfl rfl) rfl rfl (fun h14 => ?_) (fun h14 => ?_)
 refine J8 ?_
 refine sB (A1Q rfl rfl) rfl rfl (fun h19 => ?_) (fun h19 => ?_)
 refine D5 ?_
 refine sL (A3 rfl rfl (A7 (by repeat first | exact mH | apply mT)) hvl) rfl rfl ?_
 refine sS rfl rfl rfl hvl hvo rfl ?_ (hu := by exact C1 hvl.symm)
 refine sD (nS (tT (rB (rS ?_))))
 refine D6 (rC rfl (A3 rfl rfl (A7 (by repeat first | exact mH | apply mT)) hvl)) ?_
 (rw [if_pos (by refine ⟨by omega, by assumption⟩)]; exact S8.mk hv)
 refine D8 ?_
 refine sP (E6 rfl rfl (by omega)) rfl rfl ?_
 refine M9 ?_
 refine sE (A6 rfl) rfl (fun b62 => ?_)
 refine U9 ?_
 refine C3 ?_
 (refine Y3 28 9 ?_; refine M6 (fun (x : Nat × Option Addr × Nat × List (List Value) × IM) => ⟨[(37, .int .i64 x.1), (36, .int .i64 ks.length), (35, .slice p ks.length c), (1, .string y), (3, .pointer (some ⟨b3, 0, none⟩)), (5, .pointer (some ⟨b4, 0, none⟩)), (6, .pointer (some ⟨b5, 0, none⟩)), (7, .pointer (some ⟨b62, 0, none⟩))], [.blk b62 [.int .i64 k, .string nm, .int .i64 num, .int .i64 tk, .slice pt tks.length ct, .int .i64 fk, .slice pf fks.length cf, .int .i64 lb, .slice x.2.1 x.1 x.2.2.1], .slc x.2.1 x.2.2.1 28 9 x.1 x.2.2.2.1.flatten, .blk b5 [.int .i64 0, .string ⟨⟨[]⟩⟩, .int .i64 0, .int .i64 0, .slice none 0 0, .int .i64 0, .slice none 0 0, .int .i64 0, .slice none 0 0], .blk b4 vc, .blk b3 [.int .i64 k, .string nm, .int .i64 num, .int .i64 tk, .slice pt tks.length ct, .int .i64 fk, .slice pf fks.length cf, .int .i64 lb, .slice p ks.length c]], x.2.2.2.2⟩) (fun x => x.1 ≤ ks.length ∧ B8 G x.2.2.2.2 ∧ E5 x.2.2.2.2 ((S1 y v ks).take x.1) x.2.2.2.1) (fun x => ks.length - x.1) (0, none, 0, [], G) ?_ ?_ ?_)
 (simp only [K4]; exact E1)
 (exact ⟨Nat.zero_le _, B8.refl _, by simp [E5]⟩)
 (rintro ⟨i, pn, cn, es', Gi⟩ ⟨hi, hle, hst⟩; simp only [] at hi hle hst ⊢; replace hsl := hsl.mono hle; replace hkl := hkl.mono hle; replace hv := hv.mono hle; replace hty := hty.mono hle; replace hfr := hfr.mono hle; have hsl' := hst.len; rw [List.length_take, A1J] at hsl')
 refine tS (tR ?_)
 refine sB (M2 rfl rfl) rfl rfl (fun h88 => ?_) (fun h88 => ?_)
 refine sD (nS (tS (qT rfl (tK (nS (tS ?_))))))
 refine C3 ?_
 refine tS (tR ?_)
 (have hil : i < ks.length := (by omega); obtain ⟨bx, ox, e, rfl, hl, hat, hre, hgb⟩ := hsl.kidTm hkl (i := i) (by omega) (by omega); have hel := hre.len; have heo := hre.one; refine sP (B4 (j := i) rfl rfl rfl (by omega)) rfl rfl ?_)
 refine sL (A3 rfl rfl (hat _) hl) rfl rfl ?_
 refine sE (A6 rfl) rfl (fun b101 => ?_)
 refine sS rfl rfl rfl hel heo rfl ?_ (hu := by exact C1 hel.symm)
 refine sD (nS ?_)
 refine D1 D2 rfl ?_
 refine N8 (i := 2) (l' := [ff,ff,tt,ff,ff,ff,ff,ff,ff,ff]) rfl C8 (A3 rfl rfl (A7 (by repeat first | exact mH | apply mT)) hel) rfl (by kernel_rfl) rfl rfl ?_
 refine aL 4 rfl (A3 rfl rfl (A7 (by repeat first | exact mH | apply mT)) hvl) rfl ?_
 refine aP 0 rfl (B5 rfl) rfl ?_
 refine aL 1 rfl (C7 rfl rfl) rfl ?_
 refine aP 3 rfl (qM rfl) rfl ?_
 refine A2 5 ?_
 (refine E3 rfl rfl (ih ks[i] (List.getElem_mem (by omega)) Gi _ (Tm.smallL_mem hks _ (List.getElem_mem (by omega))) hre hv) rfl rfl rfl (fun u G1 hle1 hh => ?_); obtain ⟨uc, rfl, hru⟩ := hh; have hul := hru.len; have huo := hru.one; obtain ⟨v1, v2, v3, v4, v5, v6, v7, v8, v9, rfl⟩ := nine hul)
 refine A2 6 ?_
 (refine D9 rfl (D0 rfl rfl rfl (by omega) (by unfold maxLen; omega) rfl) rfl rfl ?_; rintro _ ⟨b114, rfl⟩)
 refine A2 7 ?_
 (refine V8 rfl rfl rfl rfl rfl rfl (fun _ _ => by repeat (first | exact Sw.here | apply Sw.there)) (R9 (by repeat first | exact mH | apply mT)) rfl (fun u hu => List.all_eq_true.1 huo u hu) (by unfold maxLen; omega) (by omega) rfl rfl (by repeat (first | exact A9.nil | apply A9.dep (by decide +kernel) | apply A9.im (by decide +kernel) (by assumption) (by repeat first | exact mH | apply mT) | apply A9.blk (by decide +kernel) (by repeat (first | exact Pk.here | apply Pk.there)) (by repeat first | exact mH | apply mT))) (fun p7 c7 => ?_))
 refine aP 8 rfl (B5 rfl) rfl ?_
 refine A2 9 ?_
 refine M3 rfl rfl rfl rfl rfl rfl rfl rfl (by decide +kernel) (by repeat first | exact Sw.here | apply Sw.there) (by rfl) ?_
 refine C0 (O2 (nS (tR ?_)))
 refine sP (M8 rfl rfl (by omega) (by omega)) rfl rfl ?_
 refine sQ (qM rfl) rfl (sD ?_)
 refine L8 (i + 1, p7, c7, es' ++ [[v1, v2, v3, v4, v5, v6, v7, v8, v9]], G1) ?_ ?_ ?_
 (simp only [K4]; exact E1)
 (dsimp only; exact ⟨by omega, hle.trans hle1, by rw [A6b (by omega)]; exact E5.snoc (hst.mono hle1) hru⟩)
 (show ks.length - (i + 1) < ks.length - i; omega)
 refine K0 ?_
 (refine I6 (cs := es'.flatten) (by repeat (first | exact Pk.here | apply Pk.there)) (fun G2 hle2 hsl2 hno2 => ?_); obtain rfl : i = ks.length := (by omega))
 refine tT ?_
 refine D6 (rC rfl (A4 rfl rfl)) ?_
 (rw [if_neg (by rintro ⟨h1, h2⟩; first | omega | contradiction), if_neg (by rintro ⟨h1, h2⟩; first | omega | contradiction)]; rw [List.take_of_length_le (by rw [A1J]; omega)] at hst; exact S8.mk (A8.put hk hnum hlb (hty.mono hle2) (hfr.mono hle2) (by rw [A1J]) (C9.of hsl2 (by omega) hst.all (fun e he => (hst.each e he).2)) (hst.mono hle2)))
 refine O0 ?_
 refine sB (qE rfl rfl) rfl rfl (fun h164 => ?_) (fun h164 => ?_)
 refine J8 ?_
 refine sB (A1Q rfl rfl) rfl rfl (fun h169 => ?_) (fun h169 => ?_)
 refine O0 ?_
 refine D6 (rC rfl (A4 rfl rfl)) ?_
 (rw [if_neg (by rintro ⟨h1, h2⟩; first | omega | contradiction), if_pos (by refine ⟨by omega, by assumption⟩)]; exact S8.mk hr0)
 refine J6 ?_
 refine sE (A6 rfl) rfl (fun b197 => ?_)
 refine U9 ?_
 refine C3 ?_
 (refine Y3 28 9 ?_; refine M6 (fun (x : Nat × Option Addr × Nat × List (List Value) × IM) => ⟨[(37, .int .i64 x.1), (36, .int .i64 ks.length), (35, .slice p ks.length c), (1, .string y), (3, .pointer (some ⟨b3, 0, none⟩)), (5, .pointer (some ⟨b4, 0, none⟩)), (6, .pointer (some ⟨b5, 0, none⟩)), (7, .pointer (some ⟨b197, 0, none⟩))], [.blk b197 [.int .i64 k, .string nm, .int .i64 num, .int .i64 tk, .slice pt tks.length ct, .int .i64 fk, .slice pf fks.length cf, .int .i64 lb, .slice x.2.1 x.1 x.2.2.1], .slc x.2.1 x.2.2.1 28 9 x.1 x.2.2.2.1.flatten, .blk b5 [.int .i64 0, .string ⟨⟨[]⟩⟩, .int .i64 0, .int .i64 0, .slice none 0 0, .int .i64 0, .slice none 0 0, .int .i64 0, .slice none 0 0], .blk b4 vc, .blk b3 [.int .i64 k, .string nm, .int .i64 num, .int .i64 tk, .slice pt tks.length ct, .int .i64 fk, .slice pf fks.length cf, .int .i64 lb, .slice p ks.length c]], x.2.2.2.2⟩) (fun x => x.1 ≤ ks.length ∧ B8 G x.2.2.2.2 ∧ E5 x.2.2.2.2 ((S1 y v ks).take x.1) x.2.2.2.1) (fun x => ks.length - x.1) (0, none, 0, [], G) ?_ ?_ ?_)
 (simp only [K4]; exact E1)
 (exact ⟨Nat.zero_le _, B8.refl _, by simp [E5]⟩)
 (rintro ⟨i, pn, cn, es', Gi⟩ ⟨hi, hle, hst⟩; simp only [] at hi hle hst ⊢; replace hsl := hsl.mono hle; replace hkl := hkl.mono hle; replace hv := hv.mono hle; replace hty := hty.mono hle; replace hfr := hfr.mono hle; have hsl' := hst.len; rw [List.length_take, A1J] at hsl')
 refine tS (tR ?_)
 refine sB (M2 rfl rfl) rfl rfl (fun h223 => ?_) (fun h223 => ?_)
 refine sD (nS (tS (qT rfl (tK (nS (tS ?_))))))
 refine C3 ?_
 refine tS (tR ?_)
 (have hil : i < ks.length := (by omega); obtain ⟨bx, ox, e, rfl, hl, hat, hre, hgb⟩ := hsl.kidTm hkl (i := i) (by omega) (by omega); have hel := hre.len; have heo := hre.one; refine sP (B4 (j := i) rfl rfl rfl (by omega)) rfl rfl ?_)
 refine sL (A3 rfl rfl (hat _) hl) rfl rfl ?_
 refine sE (A6 rfl) rfl (fun b236 => ?_)
 refine sS rfl rfl rfl hel heo rfl ?_ (hu := by exact C1 hel.symm)
 refine sD (nS ?_)
 refine D1 D2 rfl ?_
 refine N8 (i := 2) (l' := [ff,ff,tt,ff,ff,ff,ff,ff,ff,ff]) rfl C8 (A3 rfl rfl (A7 (by repeat first | exact mH | apply mT)) hel) rfl (by kernel_rfl) rfl rfl ?_
 refine aL 4 rfl (A3 rfl rfl (A7 (by repeat first | exact mH | apply mT)) hvl) rfl ?_
 refine aP 0 rfl (B5 rfl) rfl ?_
 refine aL 1 rfl (C7 rfl rfl) rfl ?_
 refine aP 3 rfl (qM rfl) rfl ?_
 refine A2 5 ?_
 (refine E3 rfl rfl (ih ks[i] (List.getElem_mem (by omega)) Gi _ (Tm.smallL_mem hks _ (List.getElem_mem (by omega))) hre hv) rfl rfl rfl (fun u G1 hle1 hh => ?_); obtain ⟨uc, rfl, hru⟩ := hh; have hul := hru.len; have huo := hru.one; obtain ⟨v1, v2, v3, v4, v5, v6, v7, v8, v9, rfl⟩ := nine hul)
 refine A2 6 ?_
 (refine D9 rfl (D0 rfl rfl rfl (by omega) (by unfold maxLen; omega) rfl) rfl rfl ?_; rintro _ ⟨b249, rfl⟩)
 refine A2 7 ?_
 (refine V8 rfl rfl rfl rfl rfl rfl (fun _ _ => by repeat (first | exact Sw.here | apply Sw.there)) (R9 (by repeat first | exact mH | apply mT)) rfl (fun u hu => List.all_eq_true.1 huo u hu) (by unfold maxLen; omega) (by omega) rfl rfl (by repeat (first | exact A9.nil | apply A9.dep (by decide +kernel) | apply A9.im (by decide +kernel) (by assumption) (by repeat first | exact mH | apply mT) | apply A9.blk (by decide +kernel) (by repeat (first | exact Pk.here | apply Pk.there)) (by repeat first | exact mH | apply mT))) (fun p7 c7 => ?_))
 refine aP 8 rfl (B5 rfl) rfl ?_
 refine A2 9 ?_
 refine M3 rfl rfl rfl rfl rfl rfl rfl rfl (by decide +kernel) (by repeat first | exact Sw.here | apply Sw.there) (by rfl) ?_
 refine C0 (O2 (nS (tR ?_)))
 refine sP (M8 rfl rfl (by omega) (by omega)) rfl rfl ?_
 refine sQ (qM rfl) rfl (sD ?_)
 refine L8 (i + 1, p7, c7, es' ++ [[v1, v2, v3, v4, v5, v6, v7, v8, v9]], G1) ?_ ?_ ?_
 (simp only [K4]; exact E1)
 (dsimp only; exact ⟨by omega, hle.trans hle1, by rw [A6b (by omega)]; exact E5.snoc (hst.mono hle1) hru⟩)
 (show ks.length - (i + 1) < ks.length - i; omega)
 refine K0 ?_
 (refine I6 (cs := es'.flatten) (by repeat (first | exact Pk.here | apply Pk.there)) (fun G2 hle2 hsl2 hno2 => ?_); obtain rfl : i = ks.length := (by omega))
 refine tT ?_
 refine D6 (rC rfl (A4 rfl rfl)) ?_
 (rw [if_neg (by rintro ⟨h1, h2⟩; first | omega | contradiction), if_neg (by rintro ⟨h1, h2⟩; first | omega | contradiction)]; rw [List.take_of_length_le (by rw [A1J]; omega)] at hst; exact S8.mk (A8.put hk hnum hlb (hty.mono hle2) (hfr.mono hle2) (by rw [A1J]) (C9.of hsl2 (by omega) hst.all (fun e he => (hst.each e he).2)) (hst.mono hle2)))
 refine M9 ?_
 refine sE (A6 rfl) rfl (fun b301 => ?_)
 refine U9 ?_
 refine C3 ?_
 (refine Y3 28 9 ?_; refine M6 (fun (x : Nat × Option Addr × Nat × List (List Value) × IM) => ⟨[(37, .int .i64 x.1), (36, .int .i64 ks.length), (35, .slice p ks.length c), (1, .string y), (3, .pointer (some ⟨b3, 0, none⟩)), (5, .pointer (some ⟨b4, 0, none⟩)), (6, .pointer (some ⟨b5, 0, none⟩)), (7, .pointer (some ⟨b301, 0, none⟩))], [.blk b301 [.int .i64 k, .string nm, .int .i64 num, .int .i64 tk, .slice pt tks.length ct, .int .i64 fk, .slice pf fks.length cf, .int .i64 lb, .slice x.2.1 x.1 x.2.2.1], .slc x.2.1 x.2.2.1 28 9 x.1 x.2.2.2.1.flatten, .blk b5 [.int .i64 0, .string ⟨⟨[]⟩⟩, .int .i64 0, .int .i64 0, .slice none 0 0, .int .i64 0, .slice none 0 0, .int .i64 0, .slice none 0 0], .blk b4 vc, .blk b3 [.int .i64 k, .string nm, .int .i64 num, .int .i64 tk, .slice pt tks.length ct, .int .i64 fk, .slice pf fks.length cf, .int .i64 lb, .slice p ks.length c]], x.2.2.2.2⟩) (fun x => x.1 ≤ ks.length ∧ B8 G x.2.2.2.2 ∧ E5 x.2.2.2.2 ((S1 y v ks).take x.1) x.2.2.2.1) (fun x => ks.length - x.1) (0, none, 0, [], G) ?_ ?_ ?_)
 (simp only [K4]; exact E1)
 (exact ⟨Nat.zero_le _, B8.refl _, by simp [E5]⟩)
 (rintro ⟨i, pn, cn, es', Gi⟩ ⟨hi, hle, hst⟩; simp only [] at hi hle hst ⊢; replace hsl := hsl.mono hle; replace hkl := hkl.mono hle; replace hv := hv.mono hle; replace hty := hty.mono hle; replace hfr := hfr.mono hle; have hsl' := hst.len; rw [List.length_take, A1J] at hsl')
 refine tS (tR ?_)
 refine sB (M2 rfl rfl) rfl rfl (fun h327 => ?_) (fun h327 => ?_)
 refine sD (nS (tS (qT rfl (tK (nS (tS ?_))))))
 refine C3 ?_
 refine tS (tR ?_)
 (have hil : i < ks.length := (by omega); obtain ⟨bx, ox, e, rfl, hl, hat, hre, hgb⟩ := hsl.kidTm hkl (i := i) (by omega) (by omega); have hel := hre.len; have heo := hre.one; refine sP (B4 (j := i) rfl rfl rfl (by omega)) rfl rfl ?_)
 refine sL (A3 rfl rfl (hat _) hl) rfl rfl ?_
 refine sE (A6 rfl) rfl (fun b340 => ?_)
 refine sS rfl rfl rfl hel heo rfl ?_ (hu := by exact C1 hel.symm)
 refine sD (nS ?_)
 refine D1 D2 rfl ?_
 refine N8 (i := 2) (l' := [ff,ff,tt,ff,ff,ff,ff,ff,ff,ff]) rfl C8 (A3 rfl rfl (A7 (by repeat first | exact mH | apply mT)) hel) rfl (by kernel_rfl) rfl rfl ?_
 refine aL 4 rfl (A3 rfl rfl (A7 (by repeat first | exact mH | apply mT)) hvl) rfl ?_
 refine aP 0 rfl (B5 rfl) rfl ?_
 refine aL 1 rfl (C7 rfl rfl) rfl ?_
 refine aP 3 rfl (qM rfl) rfl ?_
 refine A2 5 ?_
 (refine E3 rfl rfl (ih ks[i] (List.getElem_mem (by omega)) Gi _ (Tm.smallL_mem hks _ (List.getElem_mem (by omega))) hre hv) rfl rfl rfl (fun u G1 hle1 hh => ?_); obtain ⟨uc, rfl, hru⟩ := hh; have hul := hru.len; have huo := hru.one; obtain ⟨v1, v2, v3, v4, v5, v6, v7, v8, v9, rfl⟩ := nine hul)
 refine A2 6 ?_
 (refine D9 rfl (D0 rfl rfl rfl (by omega) (by unfold maxLen; omega) rfl) rfl rfl ?_; rintro _ ⟨b353, rfl⟩)
 refine A2 7 ?_
 (refine V8 rfl rfl rfl rfl rfl rfl (fun _ _ => by repeat (first | exact Sw.here | apply Sw.there)) (R9 (by repeat first | exact mH | apply mT)) rfl (fun u hu => List.all_eq_true.1 huo u hu) (by unfold maxLen; omega) (by omega) rfl rfl (by repeat (first | exact A9.nil | apply A9.dep (by decide +kernel) | apply A9.im (by decide +kernel) (by assumption) (by repeat first | exact mH | apply mT) | apply A9.blk (by decide +kernel) (by repeat (first | exact Pk.here | apply Pk.there)) (by repeat first | exact mH | apply mT))) (fun p7 c7 => ?_))
 refine aP 8 rfl (B5 rfl) rfl ?_
 refine A2 9 ?_
 refine M3 rfl rfl rfl rfl rfl rfl rfl rfl (by decide +kernel) (by repeat first | exact Sw.here | apply Sw.there) (by rfl) ?_
 refine C0 (O2 (nS (tR ?_)))
 refine sP (M8 rfl rfl (by omega) (by omega)) rfl rfl ?_
 refine sQ (qM rfl) rfl (sD ?_)
 refine L8 (i + 1, p7, c7, es' ++ [[v1, v2, v3, v4, v5, v6, v7, v8, v9]], G1) ?_ ?_ ?_
 (simp only [K4]; exact E1)
 (dsimp only; exact ⟨by omega, hle.trans hle1, by rw [A6b (by omega)]; exact E5.snoc (hst.mono hle1) hru⟩)
 (show ks.length - (i + 1) < ks.length - i; omega)
 refine K0 ?_
 (refine I6 (cs := es'.flatten) (by repeat (first | exact Pk.here | apply Pk.there)) (fun G2 hle2 hsl2 hno2 => ?_); obtain rfl : i = ks.length := (by omega))
 refine tT ?_
 refine D6 (rC rfl (A4 rfl rfl)) ?_
 (rw [if_neg (by rintro ⟨h1, h2⟩; first | omega | contradiction), if_neg (by rintro ⟨h1, h2⟩; first | omega | contradiction)]; rw [List.take_of_length_le (by rw [A1J]; omega)] at hst; exact S8.mk (A8.put hk hnum hlb (hty.mono hle2) (hfr.mono hle2) (by rw [A1J]) (C9.of hsl2 (by omega) hst.all (fun e he => (hst.each e he).2)) (hst.mono hle2)))
mutual
def A0s (g : Int → Tm → Tm × Int) : Tm → Int → Tm × Int
 | .mk k nm num ty fr lb ks, n => g (V3 g ks n).2 (.mk k nm num ty fr lb (V3 g ks n).1)
def V3 (g : Int → Tm → Tm × Int) : List Tm → Int → List Tm × Int
 | [], n => ([], n)
 | t :: ts, n => ((A0s g t n).1 :: (V3 g ts (A0s g t n).2).1, (V3 g ts (A0s g t n).2).2)
end
theorem A86 (g : Int → Tm → Tm × Int) : ∀ (ks : List Tm) (n : Int) (i : Nat) (h : i < ks.length),
  V3 g (ks.take (i + 1)) n = ((V3 g (ks.take i) n).1 ++ [(A0s g ks[i] (V3 g (ks.take i) n).2).1], (A0s g ks[i] (V3 g (ks.take i) n).2).2)
 | [], _, _, h => by simp at h
 | t :: ts, n, 0, _ => by simp [V3]
 | t :: ts, n, i + 1, h => by
  simp only [List.take_succ_cons, V3, List.getElem_cons_succ]
  rw [A86 g ts _ i (by simpa using h)]
  rfl
theorem A87 (g : Int → Tm → Tm × Int) : ∀ (ks : List Tm) (n : Int), (V3 g ks n).1.length = ks.length
 | [], _ => rfl
 | t :: ts, n => by rw [V3]; simp only [List.length_cons]; rw [A87 g ts]
mutual
def A2Y (Q : Int → Tm → Prop) (g : Int → Tm → Tm × Int) : Tm → Int → Prop
 | .mk k nm num ty fr lb ks, n => A11 Q g ks n ∧ Q (V3 g ks n).2 (.mk k nm num ty fr lb (V3 g ks n).1)
def A11 (Q : Int → Tm → Prop) (g : Int → Tm → Tm × Int) : List Tm → Int → Prop
 | [], _ => True
 | t :: ts, n => A2Y Q g t n ∧ A11 Q g ts (A0s g t n).2
end
theorem A88 {Q : Int → Tm → Prop} {g : Int → Tm → Tm × Int} : ∀ {ks : List Tm} {n : Int}, A11 Q g ks n → ∀ (i : Nat) (h : i < ks.length), A2Y Q g ks[i] (V3 g (ks.take i) n).2
 | [], _, _, _, h => by simp at h
 | t :: ts, n, hq, 0, _ => by rw [A11] at hq; simpa [V3] using hq.1
 | t :: ts, n, hq, i + 1, h => by
  rw [A11] at hq
  simp only [List.take_succ_cons, V3, List.getElem_cons_succ]
  exact A88 hq.2 i (by simpa using h)
mutual
theorem A6c (g : Tm → Tm) : ∀ (t : Tm) (n : Int), A0s (fun n t => (g t, n)) t n = (J7 g t, n)
 | .mk k nm num ty fr lb ks, n => by rw [A0s, J7, A6d g ks n]
theorem A6d (g : Tm → Tm) : ∀ (ks : List Tm) (n : Int), V3 (fun n t => (g t, n)) ks n = (H1 g ks, n)
 | [], n => rfl
 | t :: ts, n => by rw [V3, H1, A6c g t n, A6d g ts n]
end
mutual
theorem A89 {Q : Tm → Prop} {g : Tm → Tm} : ∀ (t : Tm) (n : Int), mOk Q g t → A2Y (fun _ => Q) (fun n t => (g t, n)) t n
 | .mk k nm num ty fr lb ks, n, h => by
  rw [mOk] at h
  rw [A2Y, A6d]
  exact ⟨A9a ks n h.1, h.2⟩
theorem A9a {Q : Tm → Prop} {g : Tm → Tm} : ∀ (ks : List Tm) (n : Int), A0g Q g ks → A11 (fun _ => Q) (fun n t => (g t, n)) ks n
 | [], n, _ => by rw [A11]; trivial
 | t :: ts, n, h => by
  rw [A0g] at h
  rw [A11, A6c]
  exact ⟨A89 t n h.1, A9a ts n h.2⟩
end
def A9b (g : Int → Tm → Tm × Int) (Q : Int → Tm → Prop) (E : Int → A5) (fid : FuncId) (us cs : List Value) : Prop := ∀ (n : Int) (t : Tm) (G : IM) (cells : List Value), Q n t → A8 G t cells →
 Fn Tryz.prog fid (us ++ [.agg ⟨cells⟩] ++ cs) [E n] G (fun G' v outs => outs = [E (g n t).2] ∧ ∃ cells', v = .agg ⟨cells'⟩ ∧ A8 G' (g n t).1 cells')
theorem B3v (g : Int → Tm → Tm × Int) (Q : Int → Tm → Prop) (E : Int → A5) (fid : FuncId) [B7 Tryz.prog fid] (us cs : List Value) (hg : A9b g Q E fid us cs) : ∀ (t : Tm) (n : Int) (G : IM) (cells : List Value), A2Y Q g t n → t.small → A8 G t cells →
  Fn Tryz.prog 76 [.agg ⟨cells⟩, .func (.func fid) ⟨us⟩ ⟨cs⟩] [E n] G (fun G' v outs => outs = [E (A0s g t n).2] ∧ ∃ cells', v = .agg ⟨cells'⟩ ∧ A8 G' (A0s g t n).1 cells') := by
 refine Tm.ind fun k nm num ty fr lb ks ih n G cells hmo hts hr => ?_
 have hone := hr.one
 rw [A2Y] at hmo
 obtain ⟨hmoL, hQ⟩ := hmo
 simp only [Tm.small] at hts
 obtain ⟨hnm, hty', hfr', hsm, hks⟩ := hts
 have hgL : A0s g (.mk k nm num ty fr lb ks) n = g (V3 g ks n).2 (.mk k nm num ty fr lb (V3 g ks n).1) := by rw [A0s]
 have hstep := A86 g ks n
 have hget := fun i h => A88 hmoL i h
 have h0 : V3 g (ks.take 0) n = ([], n) := rfl
 have hmlen := A87 g ks n
 obtain ⟨tk, tks⟩ := ty
 obtain ⟨fk, fks⟩ := fr
 obtain ⟨pt, ct, pf, cf, p, c, es, rfl, hk, hnum, hlb, hty, hfr, hsl, hkl⟩ := hr.open9
 have hn := hsl.le
 refine B6 Tryz.func76 rfl Tryz.ntmps76 Tryz.results76 rfl ?_
 intro w0
 refine tS (tR ?_)
 refine sE (C4 rfl rfl) rfl (fun b3 => ?_)
 refine sE (A6 rfl) rfl (fun b4 => ?_)
 refine M9 ?_
 refine C3 ?_
 (refine Y3 28 9 ?_; refine M6 (fun (x : Nat × Option Addr × Nat × List (List Value) × List Tm × Int × IM) => ⟨[(11, .int .i64 x.1), (10, .int .i64 ks.length), (9, .slice p ks.length c), (5, .slice x.2.1 x.1 x.2.2.1), (2, .pointer (some ⟨b3, 0, none⟩)), (1, .func (.func fid) ⟨us⟩ ⟨cs⟩), (4, .pointer (some ⟨b4, 0, none⟩))], [.slc x.2.1 x.2.2.1 28 9 x.1 x.2.2.2.1.flatten, .blk b4 [.int .i64 0, .string ⟨⟨[]⟩⟩, .int .i64 0, .int .i64 0, .slice none 0 0, .int .i64 0, .slice none 0 0, .int .i64 0, .slice none 0 0], .blk b3 [.int .i64 k, .string nm, .int .i64 num, .int .i64 tk, .slice pt tks.length ct, .int .i64 fk, .slice pf fks.length cf, .int .i64 lb, .slice p ks.length c], E x.2.2.2.2.2.1], x.2.2.2.2.2.2⟩) (fun x => x.1 ≤ ks.length ∧ B8 G x.2.2.2.2.2.2 ∧ V3 g (ks.take x.1) n = (x.2.2.2.2.1, x.2.2.2.2.2.1) ∧ E5 x.2.2.2.2.2.2 x.2.2.2.2.1 x.2.2.2.1) (fun x => ks.length - x.1) (0, none, 0, [], [], n, G) ?_ ?_ ?_)
 (simp only [K4]; exact E1)
 (exact ⟨Nat.zero_le _, B8.refl _, h0, by simp only [E5]⟩)
 (rintro ⟨i, pn, cn, es', ms, m, Gi⟩ ⟨hi, hle, hmm, hst⟩; simp only [] at hi hle hmm hst ⊢; replace hsl := hsl.mono hle; replace hkl := hkl.mono hle)
 refine tS (tR ?_)
 refine sB (M2 rfl rfl) rfl rfl (fun h28 => ?_) (fun h28 => ?_)
 refine sD (nS (tS (qT rfl (tK (nS (tS ?_))))))
 refine C3 ?_
 refine tS (tR ?_)
 (have hst9 := hstep i (by omega); have hgi := hget i (by omega); rw [hmm] at hst9 hgi; obtain ⟨b, o, e, rfl, hl, hat, hre, hgb⟩ := hsl.kidTm hkl (i := i) (by omega) (by omega); have hone := hre.one; refine sP (B4 rfl rfl rfl (by omega)) rfl rfl ?_)
 refine sL (A3 rfl rfl (hat _) hl) rfl rfl ?_
 refine sE (A6 rfl) rfl (fun b41 => ?_)
 refine sS rfl rfl rfl hl hone rfl ?_ (hu := by exact C1 hl.symm)
 refine sD (nS (tR (sQ (qM rfl) rfl ?_)))
 refine sL (A3 rfl rfl (A7 (by repeat first | exact mH | apply mT)) (by assumption)) rfl rfl ?_
 refine sQ (qM rfl) rfl ?_
 (refine H5 rfl (ih ks[i] (List.getElem_mem (by omega)) m _ _ hgi (Tm.smallL_mem hks _ (List.getElem_mem (by omega))) hre) (Pk.perm (by repeat (first | exact Pk.here | apply Pk.there))) rfl rfl (fun v G3 outs hle3 hh => ?_); obtain ⟨rfl, cells', rfl, hs'⟩ := hh; have hlc := hs'.len; have hoc := hs'.one; have hsn := E5.snoc (hst.mono hle3) hs')
 (obtain ⟨v1, v2, v3, v4, v5, v6, v7, v8, v9, rfl⟩ := nine hlc)
 (refine K7 (D0 rfl rfl rfl (by omega) (by unfold maxLen; omega) rfl) rfl ?_; rintro _ ⟨b51, rfl⟩)
 refine A1S rfl rfl rfl rfl rfl (fun _ _ => by repeat (first | exact Sw.here | apply Sw.there)) (R9 (by repeat first | exact mH | apply mT)) rfl (fun u hu => List.all_eq_true.1 hoc u hu) (by unfold maxLen; omega) (by omega) rfl (fun pn' cn' => ?_)
 refine sQ (qA rfl) rfl (sD (O2 (nS (tR ?_))))
 refine sP (M8 rfl rfl (by omega) (by omega)) rfl rfl ?_
 refine sQ (qM rfl) rfl (sD ?_)
 refine L8 (i + 1, pn', cn', es' ++ [[v1, v2, v3, v4, v5, v6, v7, v8, v9]], ms ++ [(A0s g ks[i] m).1], (A0s g ks[i] m).2, G3) ?_ ?_ ?_
 (simp only [K4]; exact E1)
 exact ⟨by omega, hle.trans hle3, hst9, hsn⟩
 (show ks.length - (i + 1) < ks.length - i; omega)
 refine I8 ?_
 (obtain rfl : i = ks.length := (by omega); rw [List.take_length] at hmm; rw [hmm] at hQ hgL hmlen; simp only [] at hQ hgL hmlen; refine A0l (by repeat (first | exact Pk.here | apply Pk.there)) (fun G2 hle2 hsl2 hno2 => ?_); have hleG := hle.trans hle2; have hT := A1V (.mk tk tks) G2 _ hty' (hty.mono hleG); refine D1 D2 rfl ?_)
 refine I4 (i := 0) (l' := [tt,ff,ff,ff,ff,ff,ff,ff,ff,ff,ff,ff,ff]) rfl C8 (B5 rfl) rfl (by kernel_rfl) rfl rfl ?_
 refine aL 1 rfl (A4 rfl rfl) rfl ?_
 refine aP 3 rfl (B5 rfl) rfl ?_
 refine aL 4 rfl (A4 rfl rfl) rfl ?_
 refine aP 6 rfl (qM rfl) rfl ?_
 refine A2 2 ?_
 (refine E3 rfl rfl hT rfl rfl rfl (fun v G4 hle4 hh => ?_); obtain ⟨K9, F1, rfl, hs1, hn1⟩ := hh; obtain ⟨p1, c1, rfl, _⟩ := hs1.open; have hF := A1V (.mk fk fks) G4 _ hfr' (hfr.mono (hleG.trans hle4)))
 refine aP 7 rfl (B5 rfl) rfl ?_
 refine A2 5 ?_
 (refine E3 rfl rfl hF rfl rfl rfl (fun v G5 hle5 hh => ?_); obtain ⟨cs2, F2, rfl, hs2, hn2⟩ := hh; obtain ⟨p2, c2, rfl, _⟩ := hs2.open; have hst5 := hst.mono ((hle2.trans hle4).trans hle5); have hR5 := A8.put (nm := nm) (us := ms) hk hnum hlb ((hs1.R.mono (C2.le _ _)).mono hle5) (hs2.R.mono (C2.le _ _)) hmlen.symm ((C9.of hsl2 (by rw [hst.len, hmlen]) hst.all (fun e he => by obtain ⟨j, hj⟩ := List.getElem?_of_mem he; exact (hst.inv hj I9).2.one)).mono (hle4.trans hle5)) hst5; have hch := hg m _ G5 _ hQ hR5)
 refine A2 8 ?_
 refine H0 rfl ?_
 refine aP 9 rfl (B5 rfl) rfl ?_
 refine A2 10 ?_
 refine M3 rfl rfl rfl rfl rfl rfl rfl rfl (by decide +kernel) (by repeat first | exact Sw.here | apply Sw.there) (by rfl) ?_
 refine aP 11 rfl (B5 rfl) rfl ?_
 refine A2 12 ?_
 refine M3 rfl rfl rfl rfl rfl rfl rfl rfl (by decide +kernel) (by repeat first | exact Sw.here | apply Sw.there) (by rfl) ?_
 refine J9 ?_
 (refine K7 (A4e rfl rfl hch (Pk.perm (by repeat (first | exact Pk.here | apply Pk.there))) rfl) rfl ?_; rintro _ ⟨v, G7, outs, rfl, hle7, rfl, cells7, rfl, hs7⟩; have hl7 := hs7.len; have ho7 := hs7.one)
 refine sS rfl rfl rfl hl7 ho7 rfl ?_ (hu := by exact C1 hl7.symm)
 refine sD (nS (tT ?_))
 refine I1 (outs := [E (g m (.mk k nm num (.mk tk tks) (.mk fk fks) lb ms)).2]) (rC rfl (A3 rfl rfl (A7 (by repeat first | exact mH | apply mT)) hl7)) (by repeat (first | exact A1.nil | refine A1.cons Pk.here ?_ | refine A1.cons (Pk.there Pk.here) ?_ | refine A1.cons (Pk.there (Pk.there Pk.here)) ?_ | apply A1.drop)) ?_
 (rw [hgL]; exact ⟨rfl, cells7, rfl, hs7⟩)
theorem Fn.withE {P : Program} {f : FuncId} {args : List Value} {G : IM} {post : IM → Value → List A5 → Prop} (h : Fn P f args [] G post) (e : A5) : Fn P f args [e] G (fun G' v outs => ∃ o, outs = o ++ [e] ∧ post G' v o) := by
 refine ⟨fun w hw => ?_⟩
 have h0 : S3 [] G w := S3.left (b := [e]) hw
 refine (h.run w h0).mono ?_
 rintro x w' ⟨v, G', outs, rfl, h2, h3⟩
 exact ⟨v, G', outs ++ [e], rfl, (P9.refl hw).frame (ins := []) (rest := [e]) h2, outs, rfl, h3⟩
def A4J (g : Tm → Tm) (Q : Tm → Prop) (fid : FuncId) (us cs : List Value) : Prop := ∀ (t : Tm) (G : IM) (cells : List Value), Q t → A8 G t cells → Fn Tryz.prog fid (us ++ [.agg ⟨cells⟩] ++ cs) [] G (S8 (g t))
theorem B3w {g : Tm → Tm} {Q : Tm → Prop} {fid : FuncId} {us cs : List Value} (h : A4J g Q fid us cs) (e : A5) : A9b (fun n t => (g t, n)) (fun _ => Q) (fun _ => e) fid us cs := fun n t G cells hq hr =>
 ((h t G cells hq hr).withE e).mono fun G' v outs _ ⟨o, h1, h2, cells', h3, h4⟩ => ⟨by rw [h1, h2]; rfl, cells', h3, h4⟩
theorem A9c (g : Tm → Tm) (Q : Tm → Prop) (fid : FuncId) [B7 Tryz.prog fid] (us cs : List Value) (hg : A4J g Q fid us cs) (e : A5) (t : Tm) (G : IM) (cells : List Value) (hq : mOk Q g t) (hts : t.small) (hr : A8 G t cells) :
  Fn Tryz.prog 76 [.agg ⟨cells⟩, .func (.func fid) ⟨us⟩ ⟨cs⟩] [e] G (fun G' v outs => outs = [e] ∧ ∃ cells', v = .agg ⟨cells'⟩ ∧ A8 G' (J7 g t) cells') := by
 have h := B3v (fun n t => (g t, n)) (fun _ => Q) (fun _ => e) fid us cs (B3w hg e) t 0 G cells (A89 t 0 hq) hts hr
 rw [A6c] at h
 exact h
end Gw
end Go.Proofs.YtfpgncjeejickaaGreatDoor
namespace Go.Proofs.YtfpgncjeejickaaGreatDoor
namespace Gw
inductive GT where
 | any | int | bool
 | fn (a b : GT)
 | pr (a b : GT)
inductive GE where
 | var (x : ByteArray)
 | num (n : Int)
 | tru (b : Bool)
 | lam (x : ByteArray) (A : GT) (e : GE)
 | app (f a : GE)
 | ar (s : Bool) (a b : GE)
 | ite (c a b : GE)
 | pair (a b : GE)
 | part (s : Bool) (e : GE)
 | cast (A B : GT) (l : Int) (e : GE)
def GT.gr : GT → GT
 | .any => .any
 | .int => .int
 | .bool => .bool
 | .fn _ _ => .fn .any .any
 | .pr _ _ => .pr .any .any
def GT.Gd (t : GT) : Prop := t ≠ .any ∧ t.gr = t
inductive Co : GT → GT → Prop
 | l {b} : Co .any b
 | r {a} : Co a .any
 | int : Co .int .int
 | bool : Co .bool .bool
 | fn {a b a' b'} : Co a a' → Co b b' → Co (.fn a b) (.fn a' b')
 | pr {a b a' b'} : Co a a' → Co b b' → Co (.pr a b) (.pr a' b')
inductive Le : GT → GT → Prop
 | any {a} : Le a .any
 | int : Le .int .int
 | bool : Le .bool .bool
 | fn {a b a' b'} : Le a a' → Le b b' → Le (.fn a b) (.fn a' b')
 | pr {a b a' b'} : Le a a' → Le b b' → Le (.pr a b) (.pr a' b')
theorem Co.symm {a b : GT} (h : Co a b) : Co b a := by
 induction h with
 | l => exact .r
 | r => exact .l
 | int => exact .int
 | bool => exact .bool
 | fn _ _ i j => exact .fn i j
 | pr _ _ i j => exact .pr i j
theorem Co.refl : ∀ {a : GT}, Co a a
 | .any => .l
 | .int => .int
 | .bool => .bool
 | .fn _ _ => .fn Co.refl Co.refl
 | .pr _ _ => .pr Co.refl Co.refl
theorem Le.refl : ∀ {a : GT}, Le a a
 | .any => .any
 | .int => .int
 | .bool => .bool
 | .fn _ _ => .fn Le.refl Le.refl
 | .pr _ _ => .pr Le.refl Le.refl
theorem Le.gr {a : GT} : Le a a.gr := by
 cases a with
 | fn _ _ => exact .fn .any .any
 | pr _ _ => exact .pr .any .any
 | _ => exact Le.refl
theorem Co.gr {a : GT} : Co a a.gr := by
 cases a with
 | fn _ _ => exact .fn .r .r
 | pr _ _ => exact .pr .r .r
 | _ => exact Co.refl
theorem Le.trans {a b : GT} (h : Le a b) : ∀ {c : GT}, Le b c → Le a c := by
 induction h with
 | any => intro c h; cases h; exact .any
 | int => exact fun h => h
 | bool => exact fun h => h
 | fn _ _ i j =>
  intro c h
  cases h with
  | any => exact .any
  | fn h1 h2 => exact .fn (i h1) (j h2)
 | pr _ _ i j =>
  intro c h
  cases h with
  | any => exact .any
  | pr h1 h2 => exact .pr (i h1) (j h2)
theorem Le.gd {a g : GT} (h : Le a g) (hg : g.Gd) : a.gr = g := by
 cases h with
 | any => exact absurd rfl hg.1
 | int => rfl
 | bool => rfl
 | fn _ _ => exact hg.2
 | pr _ _ => exact hg.2
theorem A6e {a : GT} (h : a ≠ .any) : a.gr.Gd := by
 cases a with
 | any => exact absurd rfl h
 | int => exact ⟨(by intro h; cases h), rfl⟩
 | bool => exact ⟨(by intro h; cases h), rfl⟩
 | fn _ _ => exact ⟨(by intro h; cases h), rfl⟩
 | pr _ _ => exact ⟨(by intro h; cases h), rfl⟩
def GE.sub : GE → ByteArray → GE → GE
 | .var y, x, v => if y = x then v else .var y
 | .num n, _, _ => .num n
 | .tru b, _, _ => .tru b
 | .lam y A e, x, v => if y = x then .lam y A e else .lam y A (e.sub x v)
 | .app f a, x, v => .app (f.sub x v) (a.sub x v)
 | .ar s a b, x, v => .ar s (a.sub x v) (b.sub x v)
 | .ite c a b, x, v => .ite (c.sub x v) (a.sub x v) (b.sub x v)
 | .pair a b, x, v => .pair (a.sub x v) (b.sub x v)
 | .part s e, x, v => .part s (e.sub x v)
 | .cast A B l e, x, v => .cast A B l (e.sub x v)
inductive GV : GE → Prop
 | num {n} : GV (.num n)
 | tru {b} : GV (.tru b)
 | lam {x A e} : GV (.lam x A e)
 | pair {a b} : GV a → GV b → GV (.pair a b)
 | pf {a b c d l e} : GV e → GV (.cast (.fn a b) (.fn c d) l e)
 | pp {a b c d l e} : GV e → GV (.cast (.pr a b) (.pr c d) l e)
 | inj {A l e} : GV e → A.Gd → GV (.cast A .any l e)
def A4K (s : Bool) (m n : Int) : GE := if s = true then .tru (decide (m < n)) else .num ((m + n) % 1000)
inductive GS : GE → GE → Prop
 | app1 {f f' a} : GS f f' → GS (.app f a) (.app f' a)
 | app2 {f a a'} : GV f → GS a a' → GS (.app f a) (.app f a')
 | ar1 {s a a' b} : GS a a' → GS (.ar s a b) (.ar s a' b)
 | ar2 {s a b b'} : GV a → GS b b' → GS (.ar s a b) (.ar s a b')
 | ite1 {c c' a b} : GS c c' → GS (.ite c a b) (.ite c' a b)
 | pair1 {a a' b} : GS a a' → GS (.pair a b) (.pair a' b)
 | pair2 {a b b'} : GV a → GS b b' → GS (.pair a b) (.pair a b')
 | part1 {s e e'} : GS e e' → GS (.part s e) (.part s e')
 | cast1 {A B l e e'} : GS e e' → GS (.cast A B l e) (.cast A B l e')
 | beta {x A b v} : GV v → GS (.app (.lam x A b) v) (b.sub x v)
 | appx {a b c d l f v} : GV f → GV v → GS (.app (.cast (.fn a b) (.fn c d) l f) v) (.cast b d l (.app f (.cast c a (-l) v)))
 | ar {s m n} : GS (.ar s (.num m) (.num n)) (A4K s m n)
 | ite {b x y} : GS (.ite (.tru b) x y) (if b = true then x else y)
 | part {s a b} : GV a → GV b → GS (.part s (.pair a b)) (if s = true then b else a)
 | partx {s a b c d l e} : GV e → GS (.part s (.cast (.pr a b) (.pr c d) l e)) (.cast (if s = true then b else a) (if s = true then d else c) l (.part s e))
 | cid {A l v} : GV v → (A = .any ∨ A = .int ∨ A = .bool) → GS (.cast A A l v) v
 | up {A l v} : GV v → A ≠ .any → A.gr ≠ A → GS (.cast A .any l v) (.cast A.gr .any l (.cast A A.gr l v))
 | down {B l v} : GV v → B ≠ .any → B.gr ≠ B → GS (.cast .any B l v) (.cast B.gr B l (.cast .any B.gr l v))
 | hit {G l m w} : GV w → G.Gd → GS (.cast .any G l (.cast G .any m w)) w
theorem GV.noS {e : GE} (h : GV e) : ∀ r, ¬ GS e r := by
 induction h with
 | num => intro r s; cases s
 | tru => intro r s; cases s
 | lam => intro r s; cases s
 | pair _ _ i j =>
  intro r s
  cases s with
  | pair1 s => exact i _ s
  | pair2 _ s => exact j _ s
 | pf _ i =>
  intro r s
  cases s with
  | cast1 s => exact i _ s
  | cid _ h => rcases h with h | h | h <;> cases h
 | pp _ i =>
  intro r s
  cases s with
  | cast1 s => exact i _ s
  | cid _ h => rcases h with h | h | h <;> cases h
 | inj _ hg i =>
  intro r s
  cases s with
  | cast1 s => exact i _ s
  | cid _ h => exact hg.1 rfl
  | up _ _ h => exact h hg.2
  | down _ h => exact h rfl
  | hit _ h => exact h.1 rfl
theorem GV.ofCast {A B : GT} {l : Int} {e : GE} (h : GV (.cast A B l e)) : GV e := by cases h <;> assumption
inductive Ss : GE → GE → Prop
 | refl {e} : Ss e e
 | step {a b c} : GS a b → Ss b c → Ss a c
theorem Ss.trans {a b c : GE} (h : Ss a b) (h2 : Ss b c) : Ss a c := by
 induction h with
 | refl => exact h2
 | step s _ i => exact .step s (i h2)
theorem Ss.one {a b : GE} (h : GS a b) : Ss a b := .step h .refl
theorem Ss.ctx {a b : GE} (C : GE → GE) (hC : ∀ x y, GS x y → GS (C x) (C y)) (h : Ss a b) : Ss (C a) (C b) := by
 induction h with
 | refl => exact .refl
 | step s _ i => exact .step (hC _ _ s) i
abbrev GC := ByteArray → Option (GT × GT)
def I5 : GC := fun _ => none
def Y9 (Γ : GC) (x : ByteArray) (A A' : GT) : GC := fun y => if x = y then some (A, A') else Γ y
inductive GP : GC → GE → GE → GT → GT → Prop
 | var {Γ x A A'} : Γ x = some (A, A') → Le A A' → GP Γ (.var x) (.var x) A A'
 | num {Γ n} : GP Γ (.num n) (.num n) .int .int
 | tru {Γ b} : GP Γ (.tru b) (.tru b) .bool .bool
 | lam {Γ x A A' B B' e e'} : Le A A' → GP (Y9 Γ x A A') e e' B B' → GP Γ (.lam x A e) (.lam x A' e') (.fn A B) (.fn A' B')
 | app {Γ f f' a a' A A' B B'} : GP Γ f f' (.fn A B) (.fn A' B') → GP Γ a a' A A' → GP Γ (.app f a) (.app f' a') B B'
 | ar {Γ s a a' b b'} : GP Γ a a' .int .int → GP Γ b b' .int .int → GP Γ (.ar s a b) (.ar s a' b') (if s = true then .bool else .int) (if s = true then .bool else .int)
 | ite {Γ c c' a a' b b' A A'} : GP Γ c c' .bool .bool → GP Γ a a' A A' → GP Γ b b' A A' → GP Γ (.ite c a b) (.ite c' a' b') A A'
 | pair {Γ a a' b b' A A' B B'} : GP Γ a a' A A' → GP Γ b b' B B' → GP Γ (.pair a b) (.pair a' b') (.pr A B) (.pr A' B')
 | part {Γ s e e' A A' B B'} : GP Γ e e' (.pr A B) (.pr A' B') → GP Γ (.part s e) (.part s e') (if s = true then B else A) (if s = true then B' else A')
 | castL {Γ e e' A B A' l} : GP Γ e e' A A' → Co A B → Le B A' → GP Γ (.cast A B l e) e' B A'
 | castR {Γ e e' A A' B' l} : GP Γ e e' A A' → Co A' B' → Le A B' → GP Γ e (.cast A' B' l e') A B'
 | castB {Γ e e' A B A' B' l l'} : GP Γ e e' A A' → Co A B → Co A' B' → Le B B' → GP Γ (.cast A B l e) (.cast A' B' l' e') B B'
theorem GP.le {Γ : GC} {e e' : GE} {A A' : GT} (h : GP Γ e e' A A') : Le A A' := by
 induction h with
 | var _ h => exact h
 | num => exact .int
 | tru => exact .bool
 | lam h _ i => exact .fn h i
 | app _ _ i _ => cases i with | fn _ h => exact h
 | ar => exact Le.refl
 | ite _ _ _ _ i _ => exact i
 | pair _ _ i j => exact .pr i j
 | @part Γ s _ _ _ _ _ _ _ i => cases i with | pr h1 h2 => cases s <;> assumption
 | castL _ _ h _ => exact h
 | castR _ _ h _ => exact h
 | castB _ _ _ h _ => exact h
theorem GP.weak {Γ : GC} {e e' : GE} {A A' : GT} (h : GP Γ e e' A A') : ∀ {Δ : GC}, (∀ y p, Γ y = some p → Δ y = some p) → GP Δ e e' A A' := by
 induction h with
 | var hx hl => intro Δ hD; exact .var (hD _ _ hx) hl
 | num => intro _ _; exact .num
 | tru => intro _ _; exact .tru
 | lam hl _ i =>
  intro Δ hD
  refine .lam hl (i fun y p hy => ?_)
  unfold Y9 at hy ⊢
  split
  ·rename_i h; rw [if_pos h] at hy; exact hy
  ·rename_i h; rw [if_neg h] at hy; exact hD _ _ hy
 | app _ _ i j => intro Δ hD; exact .app (i hD) (j hD)
 | ar _ _ i j => intro Δ hD; exact .ar (i hD) (j hD)
 | ite _ _ _ i j k => intro Δ hD; exact .ite (i hD) (j hD) (k hD)
 | pair _ _ i j => intro Δ hD; exact .pair (i hD) (j hD)
 | part _ i => intro Δ hD; exact .part (i hD)
 | castL _ h1 h2 i => intro Δ hD; exact .castL (i hD) h1 h2
 | castR _ h1 h2 i => intro Δ hD; exact .castR (i hD) h1 h2
 | castB _ h1 h2 h3 i => intro Δ hD; exact .castB (i hD) h1 h2 h3
theorem GP.sub {x : ByteArray} {v v' : GE} {A A' : GT} (hv : GP I5 v v' A A') {Γ : GC} {e e' : GE} {B B' : GT} (h : GP Γ e e' B B') :
  ∀ {Δ : GC}, (∀ y, x ≠ y → Γ y = Δ y) → Γ x = some (A, A') → GP Δ (e.sub x v) (e'.sub x v') B B' := by
 induction h with
 | @var Γ y C C' hy hl =>
  intro Δ hD hx
  simp only [GE.sub]
  split
  ·rename_i he
   subst he
   rw [hx] at hy
   cases hy
   exact hv.weak fun z p hz => by cases hz
  ·rename_i he
   exact .var (by rw [← hD y (fun e => he e.symm)]; exact hy) hl
 | num => intro _ _ _; exact .num
 | tru => intro _ _ _; exact .tru
 | @lam Γ y C C' D D' e e' hl h i =>
  intro Δ hD hx
  simp only [GE.sub]
  by_cases he : y = x
  ·rw [if_pos he, if_pos he]
   refine .lam hl (h.weak fun z p hz => ?_)
   unfold Y9 at hz ⊢
   split
   ·rename_i h2; rw [if_pos h2] at hz; exact hz
   ·rename_i h2; rw [if_neg h2] at hz; rw [← hD z (fun e => h2 (he.trans e))]; exact hz
  ·rw [if_neg he, if_neg he]
   refine .lam hl (i (fun z hz => ?_) ?_)
   ·unfold Y9
    split
    ·rfl
    ·exact hD z hz
   ·unfold Y9; rw [if_neg he]; exact hx
 | app _ _ i j => intro Δ hD hx; exact .app (i hD hx) (j hD hx)
 | ar _ _ i j => intro Δ hD hx; exact .ar (i hD hx) (j hD hx)
 | ite _ _ _ i j k => intro Δ hD hx; exact .ite (i hD hx) (j hD hx) (k hD hx)
 | pair _ _ i j => intro Δ hD hx; exact .pair (i hD hx) (j hD hx)
 | part _ i => intro Δ hD hx; exact .part (i hD hx)
 | castL _ h1 h2 i => intro Δ hD hx; exact .castL (i hD hx) h1 h2
 | castR _ h1 h2 i => intro Δ hD hx; exact .castR (i hD hx) h1 h2
 | castB _ h1 h2 h3 i => intro Δ hD hx; exact .castB (i hD hx) h1 h2 h3
theorem B3x {Γ : GC} {v u : GE} {A U : GT} (h : GP Γ v u A U) : ∀ {H : GT} {l : Int} {w : GE}, u = .cast H .any l w → Γ = I5 → GV v → A ≠ .any → H.Gd → Le A H ∧ GP I5 v w A H := by
 induction h with
 | @castL Γ e e' A B A' m h hc hl i =>
  intro H l w hu hE hv hA hH
  subst hE
  have hU := hl
  subst hu
  obtain ⟨hle, hp⟩ : Le A H ∧ GP I5 e w A H := i rfl rfl hv.ofCast (by cases hv with | inj _ _ => exact absurd rfl hA | _ => intro h; cases h) hH
  have : Le B H := by
   cases hv with
   | inj _ _ => exact absurd rfl hA
   | pf _ =>
    cases hle with
    | any => exact absurd rfl hH.1
    | fn _ _ => have := hH.2; cases this; exact .fn .any .any
   | pp _ =>
    cases hle with
    | any => exact absurd rfl hH.1
    | pr _ _ => have := hH.2; cases this; exact .pr .any .any
  exact ⟨this, .castL hp hc this⟩
 | castR h hc hl _ =>
  intro H l w hu hE hv hA hH
  subst hE
  cases hu
  exact ⟨h.le, h⟩
 | @castB Γ e e' A B A' B' m m' h hc hc' hl _ =>
  intro H l w hu hE hv hA hH
  subst hE
  obtain ⟨rfl, rfl, _, rfl⟩ : A' = H ∧ B' = .any ∧ m' = l ∧ e' = w := by cases hu; exact ⟨rfl, rfl, rfl, rfl⟩
  have hle := h.le
  have : Le B A' := by
   cases hv with
   | inj _ _ => exact absurd rfl hA
   | pf _ =>
    cases hle with
    | any => exact absurd rfl hH.1
    | fn _ _ => have := hH.2; cases this; exact .fn .any .any
   | pp _ =>
    cases hle with
    | any => exact absurd rfl hH.1
    | pr _ _ => have := hH.2; cases this; exact .pr .any .any
  exact ⟨this, .castL h hc this⟩
 | _ => intro H l w hu; cases hu
theorem B3y {v' : GE} {v : GE} {A : GT} (h : GP I5 v v' A .any) (hv : GV v') : ∃ H l w, v' = .cast H .any l w ∧ GV w ∧ H.Gd := by
 suffices ∀ {Γ v v' A U}, GP Γ v v' A U → U = .any → Γ = I5 → GV v' → ∃ H l w, v' = .cast H .any l w ∧ GV w ∧ H.Gd from this h rfl rfl hv
 intro Γ v v' A U h
 induction h with
 | castL _ _ _ i => exact i
 | castR _ _ _ _ => intro hU _ hv; subst hU; cases hv with | inj h1 h2 => exact ⟨_, _, _, rfl, h1, h2⟩
 | castB _ _ _ _ _ => intro hU _ hv; subst hU; cases hv with | inj h1 h2 => exact ⟨_, _, _, rfl, h1, h2⟩
 | var hx _ => intro _ hE; subst hE; cases hx
 | app _ _ _ _ => intro _ _ hv; cases hv
 | ite _ _ _ _ _ _ => intro _ _ hv; cases hv
 | part _ _ => intro _ _ hv; cases hv
 | ar _ _ _ _ => intro _ _ hv; cases hv
 | _ => intro hU; cases hU
theorem F9 {A B : GT} {l : Int} {a b : GE} (h : Ss a b) : Ss (.cast A B l a) (.cast A B l b) := h.ctx _ fun _ _ => .cast1
theorem A9d {v v' : GE} {A G : GT} {l : Int} (hv : GV v) (hv' : GV v') (h : GP I5 v v' A .any) (hG : G.Gd) (hl : Le A G) (hA : A ≠ .any) :
  ∃ v'', Ss (.cast .any G l v') v'' ∧ GV v'' ∧ GP I5 v v'' A G := by
 obtain ⟨H, m, w, rfl, hw, hH⟩ := B3y h hv'
 obtain ⟨h1, h2⟩ := B3x h rfl rfl hv hA hH
 have : H = G := (h1.gd hH).symm.trans (hl.gd hG)
 subst this
 exact ⟨w, .one (.hit hw hG), hw, h2⟩
theorem B3z {A B : GT} (h : Le A B) (hB : B ≠ .any) : A ≠ .any := by rintro rfl; cases h; exact hB rfl
theorem A4L {v v' : GE} {A A' B' : GT} (l : Int) (hv : GV v) (hv' : GV v') (h : GP I5 v v' A A') (hl : Le A B') (hc : Co A' B') :
  ∃ v'', Ss (.cast A' B' l v') v'' ∧ GV v'' ∧ GP I5 v v'' A B' := by
 have hle := h.le
 by_cases hA : A' = .any
 ·subst hA
  by_cases hB : B' = .any
  ·subst hB; exact ⟨v', .one (.cid hv' (.inl rfl)), hv', h⟩
  ·have hA := B3z hl hB
   by_cases hg : B'.gr = B'
   ·exact A9d hv hv' h ⟨hB, hg⟩ hl hA
   ·have hgB := A6e hB
    obtain ⟨u, s, hu, hp⟩ := A9d (l := l) hv hv' h hgB (hl.trans Le.gr) hA
    refine ⟨.cast B'.gr B' l u, .step (.down hv' hB hg) (F9 s), ?_, .castR hp Co.gr.symm hl⟩
    cases B' with
    | fn _ _ => exact .pf hu
    | pr _ _ => exact .pp hu
    | any => exact absurd rfl hB
    | int => exact absurd rfl hg
    | bool => exact absurd rfl hg
 ·by_cases hB : B' = .any
  ·subst hB
   by_cases hg : A'.gr = A'
   ·exact ⟨_, .refl, .inj hv' ⟨hA, hg⟩, .castR h .r .any⟩
   ·refine ⟨_, .one (.up hv' hA hg), .inj ?_ (A6e hA), .castR (.castR h Co.gr (hle.trans Le.gr)) .r .any⟩
    cases A' with
    | fn _ _ => exact .pf hv'
    | pr _ _ => exact .pp hv'
    | any => exact absurd rfl hA
    | int => exact absurd rfl hg
    | bool => exact absurd rfl hg
  ·cases hc with
   | l => exact absurd rfl hA
   | r => exact absurd rfl hB
   | int => exact ⟨v', .one (.cid hv' (.inr (.inl rfl))), hv', h⟩
   | bool => exact ⟨v', .one (.cid hv' (.inr (.inr rfl))), hv', h⟩
   | fn h1 h2 => exact ⟨_, .refl, .pf hv', .castR h (.fn h1 h2) hl⟩
   | pr h1 h2 => exact ⟨_, .refl, .pp hv', .castR h (.pr h1 h2) hl⟩
theorem A09 {Γ : GC} {e e' : GE} {A A' : GT} (h : GP Γ e e' A A') : Γ = I5 → GV e → ∃ v', Ss e' v' ∧ GV v' ∧ GP I5 e v' A A' := by
 induction h with
 | var _ _ => intro _ hv; cases hv
 | num => intro _ _; exact ⟨_, .refl, .num, .num⟩
 | tru => intro _ _; exact ⟨_, .refl, .tru, .tru⟩
 | lam hl h _ => intro hE _; subst hE; exact ⟨_, .refl, .lam, .lam hl h⟩
 | app _ _ _ _ => intro _ hv; cases hv
 | ar _ _ _ _ => intro _ hv; cases hv
 | ite _ _ _ _ _ _ => intro _ hv; cases hv
 | part _ _ => intro _ hv; cases hv
 | pair _ _ i j =>
  intro hE hv
  cases hv with
  | pair va vb =>
   obtain ⟨a', s1, v1, p1⟩ := i hE va
   obtain ⟨b', s2, v2, p2⟩ := j hE vb
   exact ⟨.pair a' b', (s1.ctx (fun x => .pair x _) fun _ _ => .pair1).trans (s2.ctx (fun x => .pair a' x) fun _ _ s => .pair2 v1 s), .pair v1 v2, .pair p1 p2⟩
 | castL _ h1 h2 i =>
  intro hE hv
  obtain ⟨v', s, hv', p⟩ := i hE hv.ofCast
  exact ⟨v', s, hv', .castL p h1 h2⟩
 | castR _ h1 h2 i =>
  intro hE hv
  obtain ⟨v', s, hv', p⟩ := i hE hv
  obtain ⟨u, s2, hu, p2⟩ := A4L _ hv hv' p h2 h1
  exact ⟨u, (F9 s).trans s2, hu, p2⟩
 | @castB Γ e e' A B A' B' l l' _ h1 h2 h3 i =>
  intro hE hv
  obtain ⟨w', s, hw', p⟩ := i hE hv.ofCast
  by_cases hB : B' = .any
  ·subst hB
   obtain ⟨u, s2, hu, p2⟩ := A4L l' hv.ofCast hw' p .any h2
   exact ⟨u, (F9 s).trans s2, hu, .castL p2 h1 .any⟩
  ·by_cases hA : A' = .any
   ·subst hA
    obtain ⟨u, s2, hu, p2⟩ := A4L l' hv hw' (.castL p h1 .any) h3 h2
    exact ⟨u, (F9 s).trans s2, hu, p2⟩
   ·have hle := p.le
    refine ⟨.cast A' B' l' w', F9 s, ?_, .castB p h1 h2 h3⟩
    cases hv with
    | inj _ _ => cases h3; exact absurd rfl hB
    | pf _ =>
     cases h3 with
     | any => exact absurd rfl hB
     | fn _ _ => cases hle with
      | any => exact absurd rfl hA
      | fn _ _ => exact .pf hw'
    | pp _ =>
     cases h3 with
     | any => exact absurd rfl hB
     | pr _ _ => cases hle with
      | any => exact absurd rfl hA
      | pr _ _ => exact .pp hw'
theorem B3A {Γ : GC} {f f' : GE} {U U' : GT} (h : GP Γ f f' U U') : ∀ {A B A' B' : GT}, Γ = I5 → U = .fn A B → U' = .fn A' B' → GV f → GV f' →
  ∀ {v v' r : GE}, GV v → GV v' → GP I5 v v' A A' → GS (.app f v) r → ∃ r', Ss (.app f' v') r' ∧ GP I5 r r' B B' := by
 induction h with
 | lam hl h _ =>
  intro A B A' B' hE hU hU' _ _ v v' r hv hv' hp s
  subst hE
  cases hU; cases hU'
  cases s with
  | app1 s => exact absurd s (GV.lam.noS _)
  | app2 _ s => exact absurd s (hv.noS _)
  | beta _ => exact ⟨_, .one (.beta hv'), GP.sub hp h (fun y hy => by unfold Y9; rw [if_neg hy]) (by unfold Y9; rw [if_pos rfl])⟩
 | castL h h1 h2 _ =>
  intro A B A' B' hE hU hU' hf hf' v v' r hv hv' hp s
  subst hE hU hU'
  cases hf with
  | pf hw =>
   cases s with
   | app1 s => exact absurd s ((GV.pf hw).noS _)
   | app2 _ s => exact absurd s (hv.noS _)
   | appx _ _ =>
    cases h1 with
    | fn c1 c2 =>
     have hle := h.le
     cases hle with
     | fn l1 l2 =>
      cases h2 with
      | fn l3 l4 => exact ⟨_, .refl, .castL (.app h (.castL hp c1.symm l1)) c2 l4⟩
 | @castR Γ0 f0 w' U0 C' D' l h h1 h2 i =>
  intro A B A' B' hE hU hU' hf hf' v v' r hv hv' hp s
  subst hE hU hU'
  cases hf' with
  | pf hw =>
   cases h1 with
   | fn c1 c2 =>
    have hle := h.le
    cases hle with
    | fn l1 l2 =>
     cases h2 with
     | fn l3 l4 =>
      obtain ⟨v'', s2, hv'', p2⟩ := A4L (-l) hv hv' hp l1 c1.symm
      obtain ⟨r', s3, p3⟩ := i rfl rfl rfl hf hw hv hv'' p2 s
      exact ⟨_, .step (.appx hw hv') (F9 ((s2.ctx (fun x => .app w' x) fun _ _ s => .app2 hw s).trans s3)), .castR p3 c2 l4⟩
 | castB h h1 h1' h2 _ =>
  intro A B A' B' hE hU hU' hf hf' v v' r hv hv' hp s
  subst hE hU hU'
  cases hf with
  | pf hw =>
   cases hf' with
   | pf hw' =>
    cases s with
    | app1 s => exact absurd s ((GV.pf hw).noS _)
    | app2 _ s => exact absurd s (hv.noS _)
    | appx _ _ =>
     cases h1 with
     | fn c1 c2 => cases h1' with
      | fn d1 d2 =>
       have hle := h.le
       cases hle with
       | fn l1 l2 =>
        cases h2 with
        | fn l3 l4 => exact ⟨_, .one (.appx hw' hv'), .castB (.app h (.castB hp c1.symm d1.symm l1)) c2 d2 l4⟩
 | app _ _ _ _ => intro _ _ _ _ _ _ _ hf; cases hf
 | ite _ _ _ _ _ _ => intro _ _ _ _ _ _ _ hf; cases hf
 | part _ _ => intro _ _ _ _ _ _ _ hf; cases hf
 | ar _ _ _ _ => intro _ _ _ _ _ _ _ hf; cases hf
 | var hx _ => intro _ _ _ _ hE; subst hE; cases hx
 | _ => intro _ _ _ _ _ hU; cases hU
theorem B3B {Γ : GC} {f f' : GE} {U U' : GT} (h : GP Γ f f' U U') : ∀ {A B A' B' : GT} {t : Bool}, Γ = I5 → U = .pr A B → U' = .pr A' B' → GV f → GV f' →
  ∀ {r : GE}, GS (.part t f) r → ∃ r', Ss (.part t f') r' ∧ GP I5 r r' (if t = true then B else A) (if t = true then B' else A') := by
 induction h with
 | pair ha hb _ _ =>
  intro A B A' B' t hE hU hU' hf hf' r s
  subst hE
  cases hU; cases hU'
  cases hf' with
  | pair va vb =>
   cases s with
   | part1 s => exact absurd s (hf.noS _)
   | part _ _ => exact ⟨_, .one (.part va vb), by cases t <;> assumption⟩
 | castL h h1 h2 _ =>
  intro A B A' B' t hE hU hU' hf hf' r s
  subst hE hU hU'
  cases hf with
  | pp hw =>
   cases s with
   | part1 s => exact absurd s ((GV.pp hw).noS _)
   | partx _ =>
    cases h1 with
    | pr c1 c2 =>
     have hle := h.le
     cases hle with
     | pr l1 l2 =>
      cases h2 with
      | pr l3 l4 => exact ⟨_, .refl, .castL (.part h) (by cases t <;> assumption) (by cases t <;> assumption)⟩
 | castR h h1 h2 i =>
  intro A B A' B' t hE hU hU' hf hf' r s
  subst hE hU hU'
  cases hf' with
  | pp hw =>
   cases h1 with
   | pr c1 c2 =>
    have hle := h.le
    cases hle with
    | pr l1 l2 =>
     cases h2 with
     | pr l3 l4 =>
      obtain ⟨r', s3, p3⟩ := i rfl rfl rfl hf hw s
      exact ⟨_, .step (.partx hw) (F9 s3), .castR p3 (by cases t <;> assumption) (by cases t <;> assumption)⟩
 | castB h h1 h1' h2 _ =>
  intro A B A' B' t hE hU hU' hf hf' r s
  subst hE hU hU'
  cases hf with
  | pp hw =>
   cases hf' with
   | pp hw' =>
    cases s with
    | part1 s => exact absurd s ((GV.pp hw).noS _)
    | partx _ =>
     cases h1 with
     | pr c1 c2 => cases h1' with
      | pr d1 d2 =>
       cases h2 with
       | pr l3 l4 => exact ⟨_, .one (.partx hw'), .castB (.part h) (by cases t <;> assumption) (by cases t <;> assumption) (by cases t <;> assumption)⟩
 | app _ _ _ _ => intro _ _ _ _ _ _ _ _ hf; cases hf
 | ite _ _ _ _ _ _ => intro _ _ _ _ _ _ _ _ hf; cases hf
 | part _ _ => intro _ _ _ _ _ _ _ _ hf; cases hf
 | ar _ _ _ _ => intro _ _ _ _ _ _ _ _ hf; cases hf
 | var hx _ => intro _ _ _ _ _ hE; subst hE; cases hx
 | _ => intro _ _ _ _ _ _ hU; cases hU
theorem A9e {e' : GE} {n : Int} {A A' : GT} (h : GP I5 (.num n) e' A A') (hv : GV e') : A' = .int → e' = .num n := by
 intro hA
 cases h with
 | num => rfl
 | castR _ _ _ => subst hA; cases hv
theorem B3C {e' : GE} {b : Bool} {A A' : GT} (h : GP I5 (.tru b) e' A A') (hv : GV e') : A' = .bool → e' = .tru b := by
 intro hA
 cases h with
 | tru => rfl
 | castR _ _ _ => subst hA; cases hv
theorem A9f {G : GT} {m : Int} {w v' : GE} (h : GP I5 (.cast G .any m w) v' .any .any) (hv' : GV v') : GP I5 w v' G .any := by
 cases h with
 | castL h _ _ => exact h
 | castR h _ _ =>
  have := h.le
  cases this
  cases hv' with
  | inj _ hg => exact absurd rfl hg.1
 | castB h _ hc _ => exact .castR h hc .any
theorem sim {Γ : GC} {e e' : GE} {A A' : GT} (h : GP Γ e e' A A') : Γ = I5 → ∀ {r : GE}, GS e r → ∃ r', Ss e' r' ∧ GP I5 r r' A A' := by
 induction h with
 | var _ _ => intro _ r s; cases s
 | num => intro _ r s; cases s
 | tru => intro _ r s; cases s
 | lam _ _ _ => intro _ r s; cases s
 | @app Γ f f' a a' A A' B B' hf ha i j =>
  intro hE r s
  have go : GV f → GV a → ∃ r', Ss (.app f' a') r' ∧ GP I5 r r' B B' := by
   intro vf va
   obtain ⟨F', s1, v1, p1⟩ := A09 hf hE vf
   obtain ⟨V', s2, v2, p2⟩ := A09 ha hE va
   obtain ⟨r', s3, p3⟩ := B3A p1 rfl rfl rfl vf v1 va v2 p2 s
   exact ⟨r', ((s1.ctx (fun x => .app x a') fun _ _ => .app1).trans (s2.ctx (fun x => .app F' x) fun _ _ s => .app2 v1 s)).trans s3, p3⟩
  cases s with
  | app1 s =>
   obtain ⟨r', s1, p⟩ := i hE s
   subst hE
   exact ⟨.app r' a', s1.ctx (fun x => .app x a') fun _ _ => .app1, .app p ha⟩
  | app2 vf s =>
   obtain ⟨F', s1, v1, p1⟩ := A09 hf hE vf
   obtain ⟨r', s2, p⟩ := j hE s
   exact ⟨.app F' r', (s1.ctx (fun x => .app x a') fun _ _ => .app1).trans (s2.ctx (fun x => .app F' x) fun _ _ s => .app2 v1 s), .app p1 p⟩
  | beta va => exact go .lam va
  | appx vf va => exact go (.pf vf) va
 | @ar Γ t a a' b b' ha hb i j =>
  intro hE r s
  cases s with
  | ar1 s =>
   obtain ⟨r', s1, p⟩ := i hE s
   subst hE
   exact ⟨.ar t r' b', s1.ctx (fun x => .ar t x b') fun _ _ => .ar1, .ar p hb⟩
  | ar2 va s =>
   obtain ⟨A', s1, v1, p1⟩ := A09 ha hE va
   obtain ⟨r', s2, p⟩ := j hE s
   exact ⟨.ar t A' r', (s1.ctx (fun x => .ar t x b') fun _ _ => .ar1).trans (s2.ctx (fun x => .ar t A' x) fun _ _ s => .ar2 v1 s), .ar p1 p⟩
  | ar =>
   obtain ⟨A', s1, v1, p1⟩ := A09 ha hE .num
   obtain ⟨B', s2, v2, p2⟩ := A09 hb hE .num
   obtain rfl := A9e p1 v1 rfl
   obtain rfl := A9e p2 v2 rfl
   refine ⟨_, ((s1.ctx (fun x => .ar t x b') fun _ _ => .ar1).trans (s2.ctx (fun x => .ar t _ x) fun _ _ s => .ar2 v1 s)).trans (.one .ar), ?_⟩
   unfold A4K
   cases t
   ·exact .num
   ·exact .tru
 | @ite Γ c c' a a' b b' A A' hc ha hb i _ _ =>
  intro hE r s
  cases s with
  | ite1 s =>
   obtain ⟨r', s1, p⟩ := i hE s
   subst hE
   exact ⟨.ite r' a' b', s1.ctx (fun x => .ite x a' b') fun _ _ => .ite1, .ite p ha hb⟩
  | ite =>
   obtain ⟨A', s1, v1, p1⟩ := A09 hc hE .tru
   obtain rfl := B3C p1 v1 rfl
   subst hE
   refine ⟨_, (s1.ctx (fun x => .ite x a' b') fun _ _ => .ite1).trans (.one .ite), ?_⟩
   split
   ·exact ha
   ·exact hb
 | @pair Γ a a' b b' A A' B B' ha hb i j =>
  intro hE r s
  cases s with
  | pair1 s =>
   obtain ⟨r', s1, p⟩ := i hE s
   subst hE
   exact ⟨.pair r' b', s1.ctx (fun x => .pair x b') fun _ _ => .pair1, .pair p hb⟩
  | pair2 va s =>
   obtain ⟨A', s1, v1, p1⟩ := A09 ha hE va
   obtain ⟨r', s2, p⟩ := j hE s
   exact ⟨.pair A' r', (s1.ctx (fun x => .pair x b') fun _ _ => .pair1).trans (s2.ctx (fun x => .pair A' x) fun _ _ s => .pair2 v1 s), .pair p1 p⟩
 | @part Γ t e e' A A' B B' h i =>
  intro hE r s
  have go : GV e → ∃ r', Ss (.part t e') r' ∧ GP I5 r r' (if t = true then B else A) (if t = true then B' else A') := by
   intro ve
   obtain ⟨E', s1, v1, p1⟩ := A09 h hE ve
   obtain ⟨r', s3, p3⟩ := B3B p1 rfl rfl rfl ve v1 s
   exact ⟨r', (s1.ctx (fun x => .part t x) fun _ _ => .part1).trans s3, p3⟩
  cases s with
  | part1 s =>
   obtain ⟨r', s1, p⟩ := i hE s
   exact ⟨.part t r', s1.ctx (fun x => .part t x) fun _ _ => .part1, .part p⟩
  | part va vb => exact go (.pair va vb)
  | partx v => exact go (.pp v)
 | @castL Γ e e' A B A' l h h1 h2 i =>
  intro hE r s
  have hle := h.le
  cases s with
  | cast1 s =>
   obtain ⟨r', s1, p⟩ := i hE s
   exact ⟨r', s1, .castL p h1 h2⟩
  | cid v _ => subst hE; exact ⟨e', .refl, h⟩
  | up v hA hg =>
   subst hE
   cases h2
   exact ⟨e', .refl, .castL (.castL h Co.gr .any) .r .any⟩
  | down v hB hg =>
   subst hE
   cases hle
   exact ⟨e', .refl, .castL (.castL h .l .any) Co.gr.symm .any⟩
  | hit v hg =>
   obtain ⟨v', s1, v1, p1⟩ := A09 h hE (.inj v hg)
   cases hle
   exact ⟨v', s1, A9f p1 v1⟩
 | @castR Γ e e' A A' B' l h h1 h2 i =>
  intro hE r s
  obtain ⟨r', s1, p⟩ := i hE s
  exact ⟨_, F9 s1, .castR p h1 h2⟩
 | @castB Γ e e' A B A' B' l l' h h1 h1' h2 i =>
  intro hE r s
  have hle := h.le
  cases s with
  | cast1 s =>
   obtain ⟨r', s1, p⟩ := i hE s
   exact ⟨_, F9 s1, .castB p h1 h1' h2⟩
  | cid v _ => subst hE; exact ⟨_, .refl, .castR h h1' h2⟩
  | up v hA hg =>
   subst hE
   cases h2
   exact ⟨_, .refl, .castL (.castL (.castR h h1' .any) Co.gr .any) .r .any⟩
  | down v hB hg =>
   subst hE
   cases hle
   exact ⟨_, .refl, .castR (.castL (.castL h .l .any) Co.gr.symm .any) .l h2⟩
  | hit v hg =>
   obtain ⟨v', s1, v1, p1⟩ := A09 h hE (.inj v hg)
   cases hle
   exact ⟨_, F9 s1, .castR (A9f p1 v1) .l h2⟩
inductive GX where
 | n (n : Int) | b (b : Bool) | p | f
def GE.tx : GE → GX
 | .num n => .n n
 | .tru b => .b b
 | .pair _ _ => .p
 | .cast _ (.fn _ _) _ _ => .f
 | .cast _ (.pr _ _) _ _ => .p
 | .cast _ _ _ e => e.tx
 | _ => .f
theorem A9g {Γ : GC} {v v' : GE} {U U' : GT} (h : GP Γ v v' U U') : ∀ {A B : GT}, Γ = I5 → U = .fn A B → GV v → v.tx = .f := by
 induction h with
 | castR _ _ _ i => exact i
 | castL _ _ _ _ => intro A B _ hU hv; subst hU; cases hv; rfl
 | castB _ _ _ _ _ => intro A B _ hU hv; subst hU; cases hv; rfl
 | lam _ _ _ => intro _ _ _ _ _; rfl
 | app _ _ _ _ => intro _ _ _ _ hv; cases hv
 | ite _ _ _ _ _ _ => intro _ _ _ _ hv; cases hv
 | part _ _ => intro _ _ _ _ hv; cases hv
 | ar _ _ _ _ => intro _ _ _ _ hv; cases hv
 | var _ _ => intro _ _ _ _ hv; cases hv
 | _ => intro _ _ _ hU; cases hU
theorem A9h {Γ : GC} {v v' : GE} {U U' : GT} (h : GP Γ v v' U U') : ∀ {A B : GT}, Γ = I5 → U = .pr A B → GV v → v.tx = .p := by
 induction h with
 | castR _ _ _ i => exact i
 | castL _ _ _ _ => intro A B _ hU hv; subst hU; cases hv; rfl
 | castB _ _ _ _ _ => intro A B _ hU hv; subst hU; cases hv; rfl
 | pair _ _ _ _ => intro _ _ _ _ _; rfl
 | app _ _ _ _ => intro _ _ _ _ hv; cases hv
 | ite _ _ _ _ _ _ => intro _ _ _ _ hv; cases hv
 | part _ _ => intro _ _ _ _ hv; cases hv
 | ar _ _ _ _ => intro _ _ _ _ hv; cases hv
 | var _ _ => intro _ _ _ _ hv; cases hv
 | _ => intro _ _ _ hU; cases hU
theorem A6f {Γ : GC} {v v' : GE} {U U' : GT} (h : GP Γ v v' U U') : ∀ {A B : GT}, Γ = I5 → U' = .fn A B → GV v' → v'.tx = .f := by
 induction h with
 | castL _ _ _ i => exact i
 | castR _ _ _ _ => intro A B _ hU hv; subst hU; cases hv; rfl
 | castB _ _ _ _ _ => intro A B _ hU hv; subst hU; cases hv; rfl
 | lam _ _ _ => intro _ _ _ _ _; rfl
 | app _ _ _ _ => intro _ _ _ _ hv; cases hv
 | ite _ _ _ _ _ _ => intro _ _ _ _ hv; cases hv
 | part _ _ => intro _ _ _ _ hv; cases hv
 | ar _ _ _ _ => intro _ _ _ _ hv; cases hv
 | var _ _ => intro _ _ _ _ hv; cases hv
 | _ => intro _ _ _ hU; cases hU
theorem A6g {Γ : GC} {v v' : GE} {U U' : GT} (h : GP Γ v v' U U') : ∀ {A B : GT}, Γ = I5 → U' = .pr A B → GV v' → v'.tx = .p := by
 induction h with
 | castL _ _ _ i => exact i
 | castR _ _ _ _ => intro A B _ hU hv; subst hU; cases hv; rfl
 | castB _ _ _ _ _ => intro A B _ hU hv; subst hU; cases hv; rfl
 | pair _ _ _ _ => intro _ _ _ _ _; rfl
 | app _ _ _ _ => intro _ _ _ _ hv; cases hv
 | ite _ _ _ _ _ _ => intro _ _ _ _ hv; cases hv
 | part _ _ => intro _ _ _ _ hv; cases hv
 | ar _ _ _ _ => intro _ _ _ _ hv; cases hv
 | var _ _ => intro _ _ _ _ hv; cases hv
 | _ => intro _ _ _ hU; cases hU
theorem B3D {Γ : GC} {v v' : GE} {U U' : GT} (h : GP Γ v v' U U') : Γ = I5 → GV v → GV v' → v.tx = v'.tx := by
 induction h with
 | num => intro _ _ _; rfl
 | tru => intro _ _ _; rfl
 | lam _ _ _ => intro _ _ _; rfl
 | pair _ _ _ _ => intro _ _ _; rfl
 | castL h _ _ i =>
  intro hE hv hv'
  have := i hE hv.ofCast hv'
  rw [← this]
  cases hv with
  | pf hv => rw [A9g h hE rfl hv]; rfl
  | pp hv => rw [A9h h hE rfl hv]; rfl
  | inj _ _ => rfl
 | castR h _ _ i =>
  intro hE hv hv'
  have := i hE hv hv'.ofCast
  rw [this]
  cases hv' with
  | pf hv => rw [A6f h hE rfl hv]; rfl
  | pp hv => rw [A6g h hE rfl hv]; rfl
  | inj _ _ => rfl
 | castB h _ _ _ i =>
  intro hE hv hv'
  have := i hE hv.ofCast hv'.ofCast
  cases hv with
  | pf hv =>
   rw [A9g h hE rfl hv] at this
   cases hv' with
   | pf hv' => rfl
   | pp hv' => rw [A6g h hE rfl hv'] at this; cases this
   | inj hv' _ => exact this
  | pp hv =>
   rw [A9h h hE rfl hv] at this
   cases hv' with
   | pp hv' => rfl
   | pf hv' => rw [A6f h hE rfl hv'] at this; cases this
   | inj hv' _ => exact this
  | inj hv _ =>
   cases hv' with
   | pf hv' => rw [A6f h hE rfl hv'] at this; exact this
   | pp hv' => rw [A6g h hE rfl hv'] at this; exact this
   | inj hv' _ => exact this
 | _ => intro _ hv; cases hv
def GT.ty : GT → Ty
 | .any => .mk 1 []
 | .int => .mk 2 []
 | .bool => .mk 3 []
 | .fn a b => .mk 4 [a.ty, b.ty]
 | .pr a b => .mk 5 [a.ty, b.ty]
def GE.tm : GE → Tm
 | .var x => .mk 1 x 0 B1 B1 0 []
 | .num n => .mk 2 ⟨#[]⟩ n B1 B1 0 []
 | .tru b => .mk (if b = true then 3 else 4) ⟨#[]⟩ 0 B1 B1 0 []
 | .lam x A e => .mk 5 x 0 A.ty B1 0 [e.tm]
 | .app f a => .mk 6 ⟨#[]⟩ 0 B1 B1 0 [f.tm, a.tm]
 | .ar s a b => .mk (if s = true then 8 else 7) ⟨#[]⟩ 0 B1 B1 0 [a.tm, b.tm]
 | .ite c a b => .mk 9 ⟨#[]⟩ 0 B1 B1 0 [c.tm, a.tm, b.tm]
 | .pair a b => .mk 10 ⟨#[]⟩ 0 B1 B1 0 [a.tm, b.tm]
 | .part s e => .mk (if s = true then 12 else 11) ⟨#[]⟩ 0 B1 B1 0 [e.tm]
 | .cast A B l e => .mk 14 ⟨#[]⟩ 0 B.ty A.ty l [e.tm]
theorem GT.inj : ∀ {a b : GT}, a.ty = b.ty → a = b := by
 intro a
 induction a with
 | any => intro b h; cases b <;> first | rfl | (simp [GT.ty] at h)
 | int => intro b h; cases b <;> first | rfl | (simp [GT.ty] at h)
 | bool => intro b h; cases b <;> first | rfl | (simp [GT.ty] at h)
 | fn a1 a2 i j =>
  intro b h
  cases b with
  | fn b1 b2 => simp only [GT.ty, Ty.mk.injEq, List.cons.injEq, true_and, and_true] at h; rw [i h.1, j h.2]
  | _ => simp [GT.ty] at h
 | pr a1 a2 i j =>
  intro b h
  cases b with
  | pr b1 b2 => simp only [GT.ty, Ty.mk.injEq, List.cons.injEq, true_and, and_true] at h; rw [i h.1, j h.2]
  | _ => simp [GT.ty] at h
theorem A9i (a : GT) : A0a a.ty = a.gr.ty := by cases a <;> rfl
theorem A0t {a : GT} : a.ty.k = 1 ↔ a = .any := by cases a <;> simp [GT.ty, Ty.k]
theorem A12 {a : GT} : S9 a.ty = true ↔ a.Gd := by
 unfold S9 GT.Gd
 rw [Bool.and_eq_true, decide_eq_true_eq, R2, A9i, Ne, A0t]
 constructor
 ·rintro ⟨h1, h2⟩; exact ⟨h1, (GT.inj h2).symm⟩
 ·rintro ⟨h1, h2⟩; exact ⟨h1, by rw [h2]⟩
theorem B3E {a : GT} (h : ¬a.Gd) : S9 a.ty = false := by
 cases h2 : S9 a.ty with
 | false => rfl
 | true => exact absurd (A12.1 h2) h
theorem R5 : ∀ e : GE, E2 e.tm = true ↔ GV e := by
 intro e
 induction e with
 | var x => rw [GE.tm, E2]; simp; intro h; cases h
 | num n => rw [GE.tm, E2]; simp; exact .num
 | tru b => rw [GE.tm, E2]; cases b <;> (simp; exact .tru)
 | lam x A e _ => rw [GE.tm, E2]; simp; exact .lam
 | app f a _ _ => rw [GE.tm, E2]; simp; intro h; cases h
 | ar s a b _ _ => rw [GE.tm, E2]; cases s <;> (simp; intro h; cases h)
 | ite c a b _ _ _ => rw [GE.tm, E2]; simp; intro h; cases h
 | pair a b i j =>
  rw [GE.tm, E2, if_pos (.inl rfl), A08, A08, A08, Bool.and_true, Bool.and_eq_true, i, j]
  exact ⟨fun h => .pair h.1 h.2, fun h => by cases h with | pair a b => exact ⟨a, b⟩⟩
 | part s e _ => rw [GE.tm, E2]; cases s <;> (simp; intro h; cases h)
 | cast A B l e i =>
  rw [GE.tm, E2]
  by_cases hp : A.ty.k = B.ty.k ∧ (B.ty.k = 4 ∨ B.ty.k = 5)
  ·rw [if_pos (.inr (.inl ⟨rfl, hp⟩)), A08, A08, Bool.and_true, i]
   constructor
   ·intro h
    cases B <;> cases A <;> first | exact .pf h | exact .pp h | (exfalso; simp [GT.ty, Ty.k] at hp)
   ·intro h; exact h.ofCast
  ·by_cases hi : B.ty.k = 1 ∧ S9 A.ty = true
   ·rw [if_pos (.inr (.inr ⟨rfl, hi⟩)), A08, A08, Bool.and_true, i]
    constructor
    ·intro h
     obtain rfl := A0t.1 hi.1
     exact .inj h (A12.1 hi.2)
    ·intro h; exact h.ofCast
   ·rw [if_neg (by rintro (h | h | h); exact absurd h (by decide); exact hp h.2; exact hi h.2)]
    constructor
    ·intro h; exact absurd (of_decide_eq_true h) (by decide)
    ·intro h
     exfalso
     cases h with
     | pf _ => exact hp ⟨rfl, .inl rfl⟩
     | pp _ => exact hp ⟨rfl, .inr rfl⟩
     | inj _ hg => exact hi ⟨rfl, A12.2 hg⟩
theorem A0u {e : GE} (h : ¬GV e) : E2 e.tm = false := by
 cases h2 : E2 e.tm with
 | false => rfl
 | true => exact absurd ((R5 e).1 h2) h
theorem nv {e r : GE} (h : GS e r) : E2 e.tm = false := A0u fun hv => hv.noS _ h
theorem B3F (x : ByteArray) (v : GE) : ∀ e : GE, (e.sub x v).tm = T6 x v.tm e.tm := by
 intro e
 induction e with
 | var y =>
  rw [GE.sub, GE.tm, T6]
  by_cases h : y = x
  ·rw [if_pos h, if_pos ⟨rfl, h⟩]
  ·rw [if_neg h, if_neg (fun c => h c.2), if_neg (by rintro ⟨h, _⟩; exact absurd h (by decide)), GE.tm, S1]
 | num n => rw [GE.sub, GE.tm, T6]; simp [S1]
 | tru b => rw [GE.sub, GE.tm, T6]; cases b <;> simp [S1]
 | lam y A e i =>
  by_cases h : y = x
  ·rw [GE.sub, if_pos h, GE.tm, T6, if_neg (by rintro ⟨h, _⟩; exact absurd h (by decide)), if_pos ⟨rfl, h⟩]
  ·rw [GE.sub, if_neg h, GE.tm, GE.tm, T6, if_neg (by rintro ⟨h, _⟩; exact absurd h (by decide)), if_neg (fun c => h c.2), i, S1, S1]
 | app f a i j => rw [GE.sub, GE.tm, GE.tm, T6, i, j]; simp [S1]
 | ar s a b i j => rw [GE.sub, GE.tm, GE.tm, T6, i, j]; cases s <;> simp [S1]
 | ite c a b i j k => rw [GE.sub, GE.tm, GE.tm, T6, i, j, k]; simp [S1]
 | pair a b i j => rw [GE.sub, GE.tm, GE.tm, T6, i, j]; simp [S1]
 | part s e i => rw [GE.sub, GE.tm, GE.tm, T6, i]; cases s <;> simp [S1]
 | cast A B l e i => rw [GE.sub, GE.tm, GE.tm, T6, i]; simp [S1]
section
variable {k : Int} {nm : ByteArray} {num : Int} {ty fr : Ty} {lb : Int} {a b c : Tm} {t : Tm} {l : Int}
theorem A2Z (h : E2 a = false) (ks : List Tm) (hn : k = 9 ∨ ks.length < 3) (r : Tm) (hs : I2 a = (r, 1, 0)) : I2 (.mk k nm num ty fr lb (a :: ks)) = (.mk k nm num ty fr lb (r :: ks), 1, 0) := by
 have : ∃ n, (if k = 9 then 1 else (a :: ks).length) = n + 1 := ⟨if k = 9 then 0 else ks.length, by split <;> simp⟩
 obtain ⟨n, hn⟩ := this
 rw [I2, hn, V5, if_neg (by rw [h]; decide), hs]
 simp
theorem B3G (h : E2 a = false) (ks : List Tm) (hs : (I2 a).2.1 = 2) : (I2 (.mk k nm num ty fr lb (a :: ks))).2.1 = 2 := by
 have : ∃ n, (if k = 9 then 1 else (a :: ks).length) = n + 1 := ⟨if k = 9 then 0 else ks.length, by split <;> simp⟩
 obtain ⟨n, hn⟩ := this
 rw [I2, hn, V5, if_neg (by rw [h]; decide), hs]
 simp
theorem A6h (h0 : E2 a = true) (h : E2 b = false) (hk : k ≠ 9) (r : Tm) (hs : I2 b = (r, 1, 0)) : I2 (.mk k nm num ty fr lb [a, b]) = (.mk k nm num ty fr lb [a, r], 1, 0) := by
 rw [I2, if_neg hk]
 simp only [List.length_cons, List.length_nil, V5, h0, h, if_true, hs]
 simp
theorem B3H (h0 : E2 a = true) (h : E2 b = false) (hk : k ≠ 9) (hs : (I2 b).2.1 = 2) : (I2 (.mk k nm num ty fr lb [a, b])).2.1 = 2 := by
 rw [I2, if_neg hk]
 simp only [List.length_cons, List.length_nil, V5, h0, h, if_true, hs]
 simp
theorem A13 (h : E2 a = true) : I2 (.mk k nm num ty fr lb [a]) = Y8 k ty fr lb [a] := by
 rw [I2, show (if k = 9 then 1 else [a].length) = 1 by split <;> rfl, V5, h]
 simp [V5]
theorem A6i (h : E2 a = true) (h2 : E2 b = true) (hk : k ≠ 9) : I2 (.mk k nm num ty fr lb [a, b]) = Y8 k ty fr lb [a, b] := by
 rw [I2, if_neg hk]
 simp [V5, h, h2]
theorem B3I (h : E2 a = true) : I2 (.mk 9 nm num ty fr lb [a, b, c]) = Y8 9 ty fr lb [a, b, c] := by
 rw [I2, if_pos rfl]
 simp [V5, h]
end
theorem A20 {e r : GE} (h : GS e r) : I2 e.tm = (r.tm, 1, 0) := by
 induction h with
 | app1 s i => rw [GE.tm, A2Z (nv s) _ (.inr (by simp)) _ i, GE.tm]
 | app2 v s i => rw [GE.tm, A6h ((R5 _).2 v) (nv s) (by decide) _ i, GE.tm]
 | ar1 s i => rw [GE.tm, A2Z (nv s) _ (.inr (by simp)) _ i, GE.tm]
 | @ar2 t _ _ _ v s i => rw [GE.tm, A6h ((R5 _).2 v) (nv s) (by cases t <;> decide) _ i, GE.tm]
 | ite1 s i => rw [GE.tm, A2Z (nv s) _ (.inl rfl) _ i, GE.tm]
 | pair1 s i => rw [GE.tm, A2Z (nv s) _ (.inr (by simp)) _ i, GE.tm]
 | pair2 v s i => rw [GE.tm, A6h ((R5 _).2 v) (nv s) (by decide) _ i, GE.tm]
 | part1 s i => rw [GE.tm, A2Z (nv s) _ (.inr (by simp)) _ i, GE.tm]
 | cast1 s i => rw [GE.tm, A2Z (nv s) _ (.inr (by simp)) _ i, GE.tm]
 | beta v =>
  rw [GE.tm, A6i ((R5 _).2 .lam) ((R5 _).2 v) (by decide), B3F]
  rfl
 | appx v w =>
  rw [GE.tm, A6i ((R5 _).2 (.pf v)) ((R5 _).2 w) (by decide)]
  rfl
 | @ar t m n =>
  rw [GE.tm, A6i ((R5 _).2 .num) ((R5 _).2 .num) (by cases t <;> decide)]
  cases t
  ·rfl
  ·unfold A4K
   simp only [if_true]
   show (A0P (m < n), (1 : Int), (0 : Int)) = _
   unfold A0P
   by_cases h : m < n
   ·simp only [h, if_true, GE.tm, decide_true]; rfl
   ·simp only [h, if_false, GE.tm, decide_false]; rfl
 | @ite b x y =>
  rw [GE.tm, B3I ((R5 _).2 .tru)]
  cases b <;> rfl
 | @part t a b v w =>
  rw [GE.tm, A13 ((R5 _).2 (.pair v w))]
  cases t <;> rfl
 | @partx t a b c d l e v =>
  rw [GE.tm, A13 ((R5 _).2 (.pp v))]
  cases t <;> rfl
 | @cid A l v hv hA =>
  rw [GE.tm, A13 ((R5 _).2 hv)]
  rcases hA with rfl | rfl | rfl <;> rfl
 | @up A l v hv hA hg =>
  rw [GE.tm, A13 ((R5 _).2 hv)]
  cases A with
  | any => exact absurd rfl hA
  | int => exact absurd rfl hg
  | bool => exact absurd rfl hg
  | _ => rfl
 | @down B l v hv hB hg =>
  rw [GE.tm, A13 ((R5 _).2 hv)]
  have hg' := B3E (a := B) fun h => hg h.2
  unfold Y8
  rw [if_neg (by decide), if_neg (by decide), if_neg (by decide), if_neg (by decide), if_pos rfl, if_neg, if_neg, if_pos hg', A9i]
  ·rfl
  ·rw [A0t]; exact hB
  ·intro h; exact hB (A0t.1 h.symm)
 | @hit G l m w hv hG =>
  rw [GE.tm, A13 ((R5 _).2 (.inj hv hG))]
  have hg' := A12.2 hG
  have hi : inj (GE.tm (.cast G .any m w)) = true := by
   rw [GE.tm]; unfold inj; rw [Bool.and_eq_true]; exact ⟨rfl, hg'⟩
  unfold Y8
  rw [if_neg (by decide), if_neg (by decide), if_neg (by decide), if_neg (by decide), if_pos rfl, if_neg, if_neg, if_neg (by rw [hg']; decide), if_neg (by show ¬inj (GE.tm (.cast G .any m w)) = false; rw [hi]; decide), if_pos]
  ·rfl
  ·rfl
  ·rw [A0t]; exact hG.1
  ·intro h; exact hG.1 (A0t.1 h.symm)
def Bd (e : GE) : Prop := E2 e.tm = false ∧ (I2 e.tm).2.1 = 2
theorem A9j {Γ : GC} {v v' : GE} {U U' : GT} (h : GP Γ v v' U U') : Γ = I5 → GV v → ∀ {A B}, U = .fn A B → (∃ x C e, v = .lam x C e) ∨ ∃ a b c d l e, v = .cast (.fn a b) (.fn c d) l e ∧ GV e := by
 induction h with
 | castR _ _ _ i => exact i
 | castL _ _ _ _ => intro _ hv A B hU; subst hU; cases hv with | pf h => exact .inr ⟨_, _, _, _, _, _, rfl, h⟩
 | castB _ _ _ _ _ => intro _ hv A B hU; subst hU; cases hv with | pf h => exact .inr ⟨_, _, _, _, _, _, rfl, h⟩
 | lam _ _ _ => intro _ _ _ _ _; exact .inl ⟨_, _, _, rfl⟩
 | app _ _ _ _ => intro _ hv; cases hv
 | ite _ _ _ _ _ _ => intro _ hv; cases hv
 | part _ _ => intro _ hv; cases hv
 | ar _ _ _ _ => intro _ hv; cases hv
 | var _ _ => intro _ hv; cases hv
 | _ => intro _ _ _ _ hU; cases hU
theorem A9k {Γ : GC} {v v' : GE} {U U' : GT} (h : GP Γ v v' U U') : Γ = I5 → GV v → ∀ {A B}, U = .pr A B → (∃ a b, v = .pair a b ∧ GV a ∧ GV b) ∨ ∃ a b c d l e, v = .cast (.pr a b) (.pr c d) l e ∧ GV e := by
 induction h with
 | castR _ _ _ i => exact i
 | castL _ _ _ _ => intro _ hv A B hU; subst hU; cases hv with | pp h => exact .inr ⟨_, _, _, _, _, _, rfl, h⟩
 | castB _ _ _ _ _ => intro _ hv A B hU; subst hU; cases hv with | pp h => exact .inr ⟨_, _, _, _, _, _, rfl, h⟩
 | pair _ _ _ _ => intro _ hv _ _ _; cases hv with | pair a b => exact .inl ⟨_, _, rfl, a, b⟩
 | app _ _ _ _ => intro _ hv; cases hv
 | ite _ _ _ _ _ _ => intro _ hv; cases hv
 | part _ _ => intro _ hv; cases hv
 | ar _ _ _ _ => intro _ hv; cases hv
 | var _ _ => intro _ hv; cases hv
 | _ => intro _ _ _ _ hU; cases hU
theorem A4M {Γ : GC} {v v' : GE} {U U' : GT} (h : GP Γ v v' U U') : Γ = I5 → GV v → U = .int → ∃ n, v = .num n := by
 induction h with
 | castR _ _ _ i => exact i
 | castL _ _ _ _ => intro _ hv hU; subst hU; cases hv
 | castB _ _ _ _ _ => intro _ hv hU; subst hU; cases hv
 | num => intro _ _ _; exact ⟨_, rfl⟩
 | app _ _ _ _ => intro _ hv; cases hv
 | ite _ _ _ _ _ _ => intro _ hv; cases hv
 | part _ _ => intro _ hv; cases hv
 | ar _ _ _ _ => intro _ hv; cases hv
 | var _ _ => intro _ hv; cases hv
 | _ => intro _ _ hU; cases hU
theorem A9l {Γ : GC} {v v' : GE} {U U' : GT} (h : GP Γ v v' U U') : Γ = I5 → GV v → U = .bool → ∃ b, v = .tru b := by
 induction h with
 | castR _ _ _ i => exact i
 | castL _ _ _ _ => intro _ hv hU; subst hU; cases hv
 | castB _ _ _ _ _ => intro _ hv hU; subst hU; cases hv
 | tru => intro _ _ _; exact ⟨_, rfl⟩
 | app _ _ _ _ => intro _ hv; cases hv
 | ite _ _ _ _ _ _ => intro _ hv; cases hv
 | part _ _ => intro _ hv; cases hv
 | ar _ _ _ _ => intro _ hv; cases hv
 | var _ _ => intro _ hv; cases hv
 | _ => intro _ _ hU; cases hU
theorem A9m {Γ : GC} {v v' : GE} {U U' : GT} (h : GP Γ v v' U U') : Γ = I5 → GV v → U = .any → ∃ H l w, v = .cast H .any l w ∧ GV w ∧ H.Gd := by
 induction h with
 | castR _ _ _ i => exact i
 | castL _ _ _ _ => intro _ hv hU; subst hU; cases hv with | inj h g => exact ⟨_, _, _, rfl, h, g⟩
 | castB _ _ _ _ _ => intro _ hv hU; subst hU; cases hv with | inj h g => exact ⟨_, _, _, rfl, h, g⟩
 | app _ _ _ _ => intro _ hv; cases hv
 | ite _ _ _ _ _ _ => intro _ hv; cases hv
 | part _ _ => intro _ hv; cases hv
 | ar _ _ _ _ => intro _ hv; cases hv
 | var _ _ => intro _ hv; cases hv
 | _ => intro _ _ hU; cases hU
theorem A9n {e e' : GE} {A B A' : GT} {l : Int} (h : GP I5 e e' A A') (hc : Co A B) (hv : GV e) : GV (.cast A B l e) ∨ (∃ r, GS (.cast A B l e) r) ∨ Bd (.cast A B l e) := by
 by_cases hA : A = .any
 ·subst hA
  by_cases hB : B = .any
  ·subst hB; exact .inr (.inl ⟨_, .cid hv (.inl rfl)⟩)
  ·by_cases hg : B.gr = B
   ·obtain ⟨H, m, w, rfl, hw, hH⟩ := A9m h rfl hv rfl
    by_cases he : H = B
    ·subst he; exact .inr (.inl ⟨_, .hit hw hH⟩)
    ·refine .inr (.inr ⟨A0u (by intro h; cases h; exact hB rfl), ?_⟩)
     have hg' := A12.2 (show B.Gd from ⟨hB, hg⟩)
     have hi : inj (GE.tm (.cast H .any m w)) = true := by
      rw [GE.tm]; unfold inj; rw [Bool.and_eq_true]; exact ⟨rfl, A12.2 hH⟩
     rw [GE.tm, A13 ((R5 _).2 hv)]
     unfold Y8
     rw [if_neg (by decide), if_neg (by decide), if_neg (by decide), if_neg (by decide), if_pos rfl, if_neg, if_neg, if_neg (by rw [hg']; decide), if_neg (by show ¬inj (GE.tm (.cast H .any m w)) = false; rw [hi]; decide), if_neg]
     ·show ¬H.ty.k = B.ty.k
      intro hk
      apply he
      rw [← hH.2, ← hg]
      cases H <;> cases B <;> first | rfl | (simp [GT.ty, Ty.k] at hk)
     ·rw [A0t]; exact hB
     ·intro h; exact hB (A0t.1 h.symm)
   ·exact .inr (.inl ⟨_, .down hv hB hg⟩)
 ·by_cases hB : B = .any
  ·subst hB
   by_cases hg : A.gr = A
   ·exact .inl (.inj hv ⟨hA, hg⟩)
   ·exact .inr (.inl ⟨_, .up hv hA hg⟩)
  ·cases hc with
   | l => exact absurd rfl hA
   | r => exact absurd rfl hB
   | int => exact .inr (.inl ⟨_, .cid hv (.inr (.inl rfl))⟩)
   | bool => exact .inr (.inl ⟨_, .cid hv (.inr (.inr rfl))⟩)
   | fn _ _ => exact .inl (.pf hv)
   | pr _ _ => exact .inl (.pp hv)
theorem A2w {a : GE} (h : Bd a) {e : GE} {k : Int} {nm : ByteArray} {num : Int} {ty fr : Ty} {lb : Int} {ks : List Tm} (he : e.tm = .mk k nm num ty fr lb (a.tm :: ks)) (hv : ¬GV e) : Bd e :=
 ⟨A0u hv, by rw [he]; exact B3G h.1 ks h.2⟩
theorem A6j {a b : GE} (ha : GV a) (h : Bd b) {e : GE} {k : Int} {nm : ByteArray} {num : Int} {ty fr : Ty} {lb : Int} (hk : k ≠ 9) (he : e.tm = .mk k nm num ty fr lb [a.tm, b.tm]) (hv : ¬GV e) : Bd e :=
 ⟨A0u hv, by rw [he]; exact B3H ((R5 _).2 ha) h.1 hk h.2⟩
theorem A4N {e : GE} (h : Bd e) : ¬GV e := fun hv => by have := (R5 e).2 hv; rw [h.1] at this; cases this
theorem A9o {Γ : GC} {e e' : GE} {A A' : GT} (h : GP Γ e e' A A') : Γ = I5 → GV e ∨ (∃ r, GS e r) ∨ Bd e := by
 induction h with
 | var hx _ => intro hE; subst hE; cases hx
 | num => intro _; exact .inl .num
 | tru => intro _; exact .inl .tru
 | lam _ _ _ => intro _; exact .inl .lam
 | app hf ha i j =>
  intro hE
  refine .inr ?_
  rcases i hE with vf | ⟨r, s⟩ | b
  ·rcases j hE with va | ⟨r, s⟩ | b
   ·rcases A9j hf hE vf rfl with ⟨x, C, e, rfl⟩ | ⟨_, _, _, _, _, _, rfl, hw⟩
    ·exact .inl ⟨_, .beta va⟩
    ·exact .inl ⟨_, .appx hw va⟩
   ·exact .inl ⟨_, .app2 vf s⟩
   ·exact .inr (A6j vf b (k := 6) (by decide) rfl (by intro h; cases h))
  ·exact .inl ⟨_, .app1 s⟩
  ·exact .inr (A2w b (k := 6) rfl (by intro h; cases h))
 | @ar Γ t _ _ _ _ ha hb i j =>
  intro hE
  refine .inr ?_
  rcases i hE with va | ⟨r, s⟩ | b
  ·rcases j hE with vb | ⟨r, s⟩ | b
   ·obtain ⟨m, rfl⟩ := A4M ha hE va rfl
    obtain ⟨n, rfl⟩ := A4M hb hE vb rfl
    exact .inl ⟨_, .ar⟩
   ·exact .inl ⟨_, .ar2 va s⟩
   ·exact .inr (A6j va b (k := if t = true then 8 else 7) (by cases t <;> decide) rfl (by intro h; cases h))
  ·exact .inl ⟨_, .ar1 s⟩
  ·exact .inr (A2w b rfl (by intro h; cases h))
 | ite hc _ _ i _ _ =>
  intro hE
  refine .inr ?_
  rcases i hE with vc | ⟨r, s⟩ | b
  ·obtain ⟨m, rfl⟩ := A9l hc hE vc rfl
   exact .inl ⟨_, .ite⟩
  ·exact .inl ⟨_, .ite1 s⟩
  ·exact .inr (A2w b rfl (by intro h; cases h))
 | pair ha hb i j =>
  intro hE
  rcases i hE with va | ⟨r, s⟩ | b
  ·rcases j hE with vb | ⟨r, s⟩ | b
   ·exact .inl (.pair va vb)
   ·exact .inr (.inl ⟨_, .pair2 va s⟩)
   ·exact .inr (.inr (A6j va b (k := 10) (by decide) rfl (by intro h; cases h with | pair _ h => exact A4N b h)))
  ·exact .inr (.inl ⟨_, .pair1 s⟩)
  ·exact .inr (.inr (A2w b rfl (by intro h; cases h with | pair h _ => exact A4N b h)))
 | part h i =>
  intro hE
  refine .inr ?_
  rcases i hE with vc | ⟨r, s⟩ | b
  ·rcases A9k h hE vc rfl with ⟨_, _, rfl, ha, hb⟩ | ⟨_, _, _, _, _, _, rfl, hw⟩
   ·exact .inl ⟨_, .part ha hb⟩
   ·exact .inl ⟨_, .partx hw⟩
  ·exact .inl ⟨_, .part1 s⟩
  ·exact .inr (A2w b rfl (by intro h; cases h))
 | castL h hc _ i =>
  intro hE
  rcases i hE with hv | ⟨r, s⟩ | b
  ·subst hE; exact A9n h hc hv
  ·exact .inr (.inl ⟨_, .cast1 s⟩)
  ·exact .inr (.inr (A2w b rfl (fun h => A4N b h.ofCast)))
 | castR _ _ _ i => exact i
 | castB h hc _ _ i =>
  intro hE
  rcases i hE with hv | ⟨r, s⟩ | b
  ·subst hE; exact A9n h hc hv
  ·exact .inr (.inl ⟨_, .cast1 s⟩)
  ·exact .inr (.inr (A2w b rfl (fun h => A4N b h.ofCast)))
theorem A9p {e : Tm} (h : (E4 e).2.1 = 1) : I3 e = true ∧ E2 e = false ∧ (I2 e).2.1 = 1 ∧ (E4 e).1 = (I2 e).1 := by
 unfold E4 at h ⊢
 split at h
 ·cases h
 ·rename_i h1
  split at h
  ·cases h
  ·rename_i h2
   split at h
   ·rename_i h3; exact absurd h h3
   ·rename_i h3
    split at h
    ·cases h
    ·rename_i h4
     rw [if_neg h1, if_neg h2, if_neg h3, if_neg h4]
     refine ⟨by cases hv : I3 e with | true => rfl | false => exact absurd hv h1, by cases hv : E2 e with | false => rfl | true => exact absurd hv h2, ?_, rfl⟩
     apply Classical.byContradiction
     intro hc; exact h3 hc
theorem A9q {e : Tm} (h : (E4 e).2.1 = 0) (hc : (I2 e).2.1 ≠ 0) : E2 e = true ∧ (E4 e).1 = e := by
 unfold E4 at h ⊢
 split at h
 ·cases h
 ·rename_i h1
  split at h
  ·rename_i h2; rw [if_neg h1, if_pos h2]; exact ⟨h2, rfl⟩
  ·split at h
   ·exact absurd h hc
   ·split at h <;> cases h
theorem A4O {n : Nat} {e : Tm} (h : (E4 e).2.1 = 1) : H2 (n + 1) e = ((H2 n (E4 e).1).1, (H2 n (E4 e).1).2.1, (H2 n (E4 e).1).2.2.1, (H2 n (E4 e).1).2.2.2 + 1) := by rw [H2, if_pos h]
theorem B3J : ∀ (n : Nat) {e e' : GE} {A A' : GT}, GP I5 e e' A A' → (H2 n e.tm).2.1 = 0 → ∃ w, (H2 n e.tm).1 = w.tm ∧ GV w ∧ Ss e w := by
 intro n
 have fin : ∀ {e e' : GE} {A A' : GT}, GP I5 e e' A A' → (E4 e.tm).2.1 ≠ 1 → (E4 e.tm).2.1 = 0 → ∃ w, (E4 e.tm).1 = w.tm ∧ GV w ∧ Ss e w := by
  intro e e' A A' hp _ h0
  have hv : E2 e.tm = true := by
   rcases A9o hp rfl with hv | ⟨r, s⟩ | b
   ·exact (R5 _).2 hv
   ·exact (A9q h0 (by rw [A20 s]; show (1 : Int) ≠ 0; decide)).1
   ·exact (A9q h0 (by rw [b.2]; decide)).1
  refine ⟨e, ?_, (R5 _).1 hv, .refl⟩
  unfold E4 at h0 ⊢
  split at h0
  ·cases h0
  ·rename_i h1; rw [if_neg h1, if_pos hv]
 induction n with
 | zero =>
  intro e e' A A' hp h
  rw [H2] at h ⊢
  by_cases h1 : (E4 e.tm).2.1 = 1
  ·rw [if_pos h1] at h; cases h
  ·rw [if_neg h1] at h ⊢; exact fin hp h1 h
 | succ n ih =>
  intro e e' A A' hp h
  by_cases h1 : (E4 e.tm).2.1 = 1
  ·obtain ⟨_, hv, hs, he⟩ := A9p h1
   rcases A9o hp rfl with hv' | ⟨r, s⟩ | b
   ·rw [(R5 _).2 hv'] at hv; cases hv
   ·rw [A4O h1] at h ⊢
    have hr : (E4 e.tm).1 = r.tm := by rw [he, A20 s]
    rw [hr] at h ⊢
    obtain ⟨r', _, hp'⟩ := sim hp rfl s
    obtain ⟨w, h2, h3, h4⟩ := ih hp' h
    exact ⟨w, h2, h3, .step s h4⟩
   ·rw [b.2] at hs; cases hs
  ·rw [H2, if_neg h1] at h ⊢; exact fin hp h1 h
theorem B3K : ∀ {e w : GE}, Ss e w → GV w → ∀ (n : Nat), I3 e.tm = true → ((H2 n e.tm).2.1 = 0 ∧ (H2 n e.tm).1 = w.tm) ∨ (H2 n e.tm).2.1 = 4 ∨ (H2 n e.tm).2.1 = 5 := by
 intro e w h
 induction h with
 | @refl e =>
  intro hv n hc
  have : E4 e.tm = (e.tm, 0, 0) := by unfold E4; rw [if_neg (by rw [hc]; decide), if_pos ((R5 _).2 hv)]
  cases n with
  | zero => rw [H2, this]; exact .inl ⟨rfl, rfl⟩
  | succ n => rw [H2, this]; exact .inl ⟨rfl, rfl⟩
 | @step a b c s _ ih =>
  intro hv n hc
  have hs := A20 s
  have : E4 a.tm = if I3 b.tm = false then (I9, 4, 0) else (b.tm, 1, 0) := by
   unfold E4; rw [if_neg (by rw [hc]; decide), if_neg (by rw [nv s]; decide), hs, if_neg (by show ¬(1 : Int) ≠ 1; decide)]
  cases hcb : I3 b.tm with
  | false =>
   rw [if_pos hcb] at this
   cases n with
   | zero => rw [H2, this]; exact .inr (.inl rfl)
   | succ n => rw [H2, this]; exact .inr (.inl rfl)
  | true =>
   rw [if_neg (by rw [hcb]; decide)] at this
   cases n with
   | zero => rw [H2, this]; exact .inr (.inr rfl)
   | succ n =>
    rw [A4O (by rw [this]), this]
    exact ih hv n hcb
end Gw
end Go.Proofs.YtfpgncjeejickaaGreatDoor
