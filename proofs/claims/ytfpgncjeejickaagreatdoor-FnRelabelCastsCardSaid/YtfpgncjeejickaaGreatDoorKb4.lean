/-
  Casts put in: one cast, the types that are asked for. InsertCasts of the reference model: it ends, and what it gives is not much bigger than what it is given. Which names are free, at which place a name is bound: what comes out is small. Evaluation of terms with casts, in plain words. What a step gives is small. A function that only reads may be handed an own slice. The program's functions on types and contexts: each computes what the plain words say. The program's evaluator: proxies, injections, values, casts. The program's evaluator: values, casts, nodes. The program's evaluator: replacing a name, casts, nodes. Terms each node of which is changed, with a number that goes on from node to node. A calculus of casts, with types as trees: what is more precise stays so (the gradual guarantee). The calculus of casts is that of the evaluation. Nodes replaced: the program's put, the reference model's l16Replace. The reference model's replacing of nodes.
-/
import Derived.Test.YtfpgncjeejickaaGreatDoorKb3
import Derived.Test.YtfpgncjeejickaaGreatDoorKb2
import Derived.Test.YtfpgncjeejickaaGreatDoorKb0
import Derived.Test.YtfpgncjeejickaaGreatDoorKb1
import Init
set_option linter.unusedVariables false
set_option linter.unusedSimpArgs false
set_option maxHeartbeats 0
set_option maxRecDepth 100000
set_option synthInstance.maxSize 4000
set_option synthInstance.maxHeartbeats 0
namespace Go.Proofs.YtfpgncjeejickaaGreatDoor
open Go Go.RowKit
namespace Gw
theorem B2d (t : Ty) (G : IM) (cells : List Value) (B : Int) (hB : 0 ≤ B) (hr : B3 G t cells) :
  Fn Tryz.prog 149 [.agg ⟨cells⟩, .bool false] [] G (TyB B G) := by
 obtain ⟨q, d, es, rfl, _⟩ := hr.open
 refine B5 Tryz.func149 rfl Tryz.ntmps149 Tryz.results149 rfl ?_
 intro w0
 refine tS (tR ?_)
 refine sE (C0 rfl rfl) rfl (fun b3 => ?_)
 refine sE (A5 rfl) rfl (fun b4 => ?_)
 refine Y9 ?_
 refine D6 (rC rfl (A3 rfl rfl)) (rT rfl) ?_
 (exact ⟨rfl, _, _, _, rfl, J8 _ ⟨by omega, by omega⟩, M4 (by omega) (by omega), by rw [X5]; omega⟩)
theorem B2e (t : Ty) (G : IM) (cells : List Value) (B : Int) (hr : B3 G t cells) (ha : D4 t) (hs : H2 t ≤ B) :
  Fn Tryz.prog 149 [.agg ⟨cells⟩, .bool true] [] G (TyB B G) := by
 obtain ⟨q, d, es, rfl, _⟩ := hr.open
 refine B5 Tryz.func149 rfl Tryz.ntmps149 Tryz.results149 rfl ?_
 intro w0
 refine tS (tR ?_)
 refine sE (C0 rfl rfl) rfl (fun b3 => ?_)
 refine sE (A5 rfl) rfl (fun b4 => ?_)
 refine Y1 ?_
 refine D6 (rC rfl (A3 rfl rfl)) (rT rfl) ?_
 (exact ⟨rfl, _, _, _, rfl, hr, ha, hs⟩)
theorem B2f (t : Ty) (x : Bool) (G : IM) (cells : List Value) (B : Int) (hB : 0 ≤ B) (hr : B3 G t cells) (ha : D4 t) (hs : H2 t ≤ B) :
  Fn Tryz.prog 149 [.agg ⟨cells⟩, .bool x] [] G (TyB B G) := by
 cases x
 ·exact B2d t G cells B hB hr
 ·exact B2e t G cells B hr ha hs
def TyV (e : Tm) (G : IM) : IM → Value → List A4 → Prop := K4 fun G' v => ∃ t cells b, v = .tuple ⟨[.agg ⟨cells⟩, .bool b]⟩ ∧ B3 G' t cells ∧ D4 t ∧ H2 t ≤ 960 ∧ (b = true → A0E e = true)
theorem B2g (e : Tm) (G : IM) (cells : List Value) (hcnt : C7 e ≤ 4294967296) (hr : A7 G e cells) :
  Fn Tryz.prog 184 [.slice none 0 0, .agg ⟨cells⟩] [] G (TyV e G) := by
 have hl := hr.len
 have hone := hr.one
 have hw := A7V e G cells hcnt hr
 have hT := fun h : A0E e = true => A8a e 1 G none 0 0 cells ((A4i e).1 h).1 (by omega) (T7.nil G) hr
 have hc := fun h : A0E e = true => ((A4i e).1 h).2
 refine B5 Tryz.func184 rfl Tryz.ntmps184 Tryz.results184 rfl ?_
 intro w0
 refine tS (tR ?_)
 refine sE (C0 rfl rfl) rfl (fun b3 => ?_)
 refine sE (A5 rfl) rfl (fun b4 => ?_)
 refine D0 ?_
 refine E8 rfl ((B17 _)) rfl rfl ?_
 refine sQ (S6 rfl) rfl (sQ (qM rfl) rfl ?_)
 refine sL (A2 rfl rfl (A6 (by repeat first | exact mH | apply mT)) (by assumption)) rfl rfl ?_
 refine F9 rfl (hw) rfl rfl (fun h16 => ?_) (fun h16 => ?_)
 refine H8 ?_
 refine sL (A2 rfl rfl (A6 (by repeat first | exact mH | apply mT)) (by assumption)) rfl rfl ?_
 (refine D3 rfl (hT (by assumption)) rfl rfl (fun v G1 hle1 hh => ?_); obtain ⟨mt, mc, mx, rfl, hmr, hma, hms⟩ := hh; obtain ⟨p1, c1, e1, rfl, _⟩ := hmr.open; have hcc := hc (by assumption))
 refine sQ (pX rfl rfl) rfl (sQ (pX rfl rfl) rfl ?_)
 (refine D3 rfl (B2f mt mx _ _ 960 (by omega) hmr hma (by omega)) rfl rfl (fun v G2 hle2 hh => ?_); obtain ⟨mt2, mc2, mx2, rfl, hmr2, hma2, hms2⟩ := hh; obtain ⟨p2, c2, e2, rfl, _⟩ := hmr2.open)
 refine D0 ?_
 refine D6 (rC rfl (A3 rfl rfl)) (rT rfl) ?_
 (exact ⟨rfl, _, _, _, rfl, hmr2, hma2, hms2, fun _ => by assumption⟩)
 refine L1 ?_
 refine D6 (rC rfl (A3 rfl rfl)) (rT rfl) ?_
 (exact ⟨rfl, _, _, _, rfl, J8 _ ⟨by omega, by omega⟩, M4 (by omega) (by omega), by rw [X5]; omega, fun h => absurd h (by decide)⟩)
theorem A8d (e : Tm) (G : IM) (cells : List Value) (hcnt : C7 e ≤ 4294967296) (hr : A7 G e cells) :
  Fn Tryz.prog 129 [.agg ⟨cells⟩] [] G (TyV e G) := by
 have hl := hr.len
 have hone := hr.one
 refine B5 Tryz.func129 rfl Tryz.ntmps129 Tryz.results129 rfl ?_
 intro w0
 refine tS (tR ?_)
 refine sE (C0 rfl rfl) rfl (fun b3 => ?_)
 refine sE (A5 rfl) rfl (fun b4 => ?_)
 refine sQ (qA rfl) rfl (sD (nS (tS (tR ?_))))
 refine sL (A2 rfl rfl (A6 (by repeat first | exact mH | apply mT)) (by assumption)) rfl rfl ?_
 (refine D3 rfl (B2g e G cells hcnt hr) rfl rfl (fun v G1 hle1 hh => ?_); obtain ⟨mt, mc, mx, rfl, hmr, hma, hms, hmv⟩ := hh; obtain ⟨p1, c1, e1, rfl, _⟩ := hmr.open)
 refine D0 ?_
 refine D6 (rC rfl (A3 rfl rfl)) (rT rfl) ?_
 (exact ⟨rfl, _, _, _, rfl, hmr, hma, hms, hmv⟩)
theorem A2j {G : IM} {e : Tm} {ce : List Value} {p : Option Addr} {c : Nat} (hr : A7 G e ce) (hs : Sl G p 1 c 9 ce) : C5 G p [e].length c 9 [ce] ∧ C6 G [e] [ce] := by
 refine ⟨C5.of (by simpa using hs) rfl (fun x hx => by simp only [List.mem_singleton] at hx; subst hx; exact hr.len) (fun x hx => by simp only [List.mem_singleton] at hx; subst hx; exact hr.one), ?_⟩
 simp only [C6]
 exact ⟨ce, [], rfl, hr, rfl⟩
def B2h (e : Tm) (label : Int) (G : IM) : IM → Value → List A4 → Prop := K4 fun G' v => ∃ u cu l', v = .tuple ⟨[.agg ⟨cu⟩, .int .i64 l']⟩ ∧ A7 G' u cu ∧ (e.small → u.small) ∧ C7 u ≤ C7 e + 1 ∧ label ≤ l' ∧ l' ≤ label + 1
theorem A3u (e : Tm) (a b : Ty) (label : Int) (G : IM) (ce ca cb : List Value) (hlab : -1099511627776 ≤ label ∧ label ≤ 1099511627776) (hr : A7 G e ce) (hra : B3 G a ca) (hrb : B3 G b cb) (ha : D4 a) (hb : D4 b) :
  Fn Tryz.prog 108 [.agg ⟨ce⟩, .agg ⟨ca⟩, .agg ⟨cb⟩, .int .i64 label] [] G (B2h e label G) := by
 have hl := hr.len
 have hone := hr.one
 obtain ⟨hlab1, hlab2⟩ := hlab
 have hsa := ha.small
 have hsb := hb.small
 have hSame := B15 a b G ca cb hra hrb
 obtain ⟨ak, aks⟩ := a
 obtain ⟨bk, bks⟩ := b
 obtain ⟨pa, cca, ea, rfl, _⟩ := hra.open
 obtain ⟨pb, ccb, eb, rfl, _⟩ := hrb.open
 simp only [Ty.k, Ty.ks] at hra hrb hSame ⊢
 obtain ⟨v1, v2, v3, v4, v5, v6, v7, v8, v9, rfl⟩ : ∃ v1 v2 v3 v4 v5 v6 v7 v8 v9, ce = [v1, v2, v3, v4, v5, v6, v7, v8, v9] := (by obtain ⟨_, _, _, _, _, _, _, _, _, rfl, _⟩ := hr.open; exact ⟨_, _, _, _, _, _, _, _, _, rfl⟩)
 refine B5 Tryz.func108 rfl Tryz.ntmps108 Tryz.results108 rfl ?_
 intro w0
 refine tS (tR ?_)
 refine sE (C0 rfl rfl) rfl (fun b3 => ?_)
 refine sE (C0 rfl rfl) rfl (fun b4 => ?_)
 refine sE (C0 rfl rfl) rfl (fun b5 => ?_)
 refine sE (A5 rfl) rfl (fun b6 => ?_)
 refine D8 ?_
 (refine A30 rfl hSame rfl rfl (fun v Go outs hle hh => ?_); obtain ⟨rfl, ⟨x, rfl⟩, rfl⟩ := hh; cases x)
 refine sD (nS (cF rfl (tK (nS (tS ?_)))))
 refine C9 D1 rfl ?_
 refine L0 (i := 5) (l' := [ff,ff,ff,ff,ff,tt,ff,ff,ff,ff,ff,ff]) rfl C4 (A2 rfl rfl (A6 (by repeat first | exact mH | apply mT)) hl) rfl (by kernel_rfl) rfl rfl ?_
 refine aL 0 rfl (A3 rfl rfl) rfl ?_
 refine aL 2 rfl (A3 rfl rfl) rfl ?_
 refine aP 4 rfl (qM rfl) rfl ?_
 refine aP 8 rfl (qM rfl) rfl ?_
 refine aP 9 rfl (J6 rfl rfl (by omega) (by omega)) rfl ?_
 refine P5 (j := 1) (j' := 6) (by kernel_rfl) ?_ ?_
 (refine E1 rfl rfl (O6 _ _ _ hsa hra) rfl rfl rfl (fun v G1 hle1 hh => ?_); obtain ⟨N6, F1, rfl, hs1, hn1⟩ := hh; obtain ⟨p1, c1, rfl, _⟩ := hs1.open; have hC2 := O6 _ G1 _ hsb (hrb.mono hle1))
 refine P5 (j := 3) (j' := 6) (by kernel_rfl) ?_ ?_
 (refine E1 rfl rfl hC2 rfl rfl rfl (fun v G2 hle2 hh => ?_); obtain ⟨cs2, F2, rfl, hs2, hn2⟩ := hh; obtain ⟨p2, c2, rfl, _⟩ := hs2.open; have hr1 := hs1.R.mono ((C1.le G1 _).trans hle2); have hr2 := hs2.R.mono (C1.le G2 G1); have hre := hr.mono (hle1.trans hle2))
 refine A1 6 ?_
 (refine D9 rfl (C8 rfl rfl rfl (by omega) (by unfold maxLen; omega) rfl) rfl rfl ?_; rintro _ ⟨b34, rfl⟩)
 refine aP 7 rfl (Q1 rfl rfl) rfl ?_
 refine A1 10 ?_
 refine N4 rfl rfl rfl rfl rfl rfl rfl rfl (by kernel_rfl) (by repeat first | exact Sw.here | apply Sw.there) (by rfl) ?_
 refine aP 11 rfl (qA rfl) rfl ?_
 refine B8 (nS ?_)
 (refine H7 (cs := [v1, v2, v3, v4, v5, v6, v7, v8, v9]) (by repeat (first | exact Pk.here | apply Pk.there)) (fun G5 hle5 hsl5 hno5 => ?_); obtain ⟨hone1, hone2⟩ := A2j (hre.mono hle5) hsl5)
 refine tT ?_
 refine D6 (rC rfl (A3 rfl rfl)) (rT rfl) ?_
 (refine ⟨rfl, _, _, _, rfl, A7.of9 (ks := [e]) ⟨by omega, by omega⟩ ⟨by omega, by omega⟩ ⟨by omega, by omega⟩ (hr2.mono hle5) (hr1.mono hle5) hone1 hone2, fun h => ?_, ?_, by omega, by omega⟩; (try (simp only [Tm.small, Tm.smallL, ByteArray.size]; exact ⟨by simp, hsb, hsa, by simp, h, trivial⟩)); (try (simp only [C7, E5]; omega)))
 (refine D9 rfl (C8 rfl rfl rfl (by omega) (by unfold maxLen; omega) rfl) rfl rfl ?_; rintro _ ⟨b45, rfl⟩)
 refine A1 3 ?_
 (refine E1 rfl rfl hC2 rfl rfl rfl (fun v G2 hle2 hh => ?_); obtain ⟨cs2, F2, rfl, hs2, hn2⟩ := hh; obtain ⟨p2, c2, rfl, _⟩ := hs2.open; have hr1 := hs1.R.mono ((C1.le G1 _).trans hle2); have hr2 := hs2.R.mono (C1.le G2 G1); have hre := hr.mono (hle1.trans hle2))
 refine aP 7 rfl (Q1 rfl rfl) rfl ?_
 refine A1 10 ?_
 refine N4 rfl rfl rfl rfl rfl rfl rfl rfl (by kernel_rfl) (by repeat first | exact Sw.here | apply Sw.there) (by rfl) ?_
 refine aP 11 rfl (qA rfl) rfl ?_
 refine B8 (nS ?_)
 (refine H7 (cs := [v1, v2, v3, v4, v5, v6, v7, v8, v9]) (by repeat (first | exact Pk.here | apply Pk.there)) (fun G5 hle5 hsl5 hno5 => ?_); obtain ⟨hone1, hone2⟩ := A2j (hre.mono hle5) hsl5)
 refine tT ?_
 refine D6 (rC rfl (A3 rfl rfl)) (rT rfl) ?_
 (refine ⟨rfl, _, _, _, rfl, A7.of9 (ks := [e]) ⟨by omega, by omega⟩ ⟨by omega, by omega⟩ ⟨by omega, by omega⟩ (hr2.mono hle5) (hr1.mono hle5) hone1 hone2, fun h => ?_, ?_, by omega, by omega⟩; (try (simp only [Tm.small, Tm.smallL, ByteArray.size]; exact ⟨by simp, hsb, hsa, by simp, h, trivial⟩)); (try (simp only [C7, E5]; omega)))
 (refine D9 rfl (C8 rfl rfl rfl (by omega) (by unfold maxLen; omega) rfl) rfl rfl ?_; rintro _ ⟨b58, rfl⟩)
 refine A1 1 ?_
 (refine E1 rfl rfl (O6 _ _ _ hsa hra) rfl rfl rfl (fun v G1 hle1 hh => ?_); obtain ⟨N6, F1, rfl, hs1, hn1⟩ := hh; obtain ⟨p1, c1, rfl, _⟩ := hs1.open; have hC2 := O6 _ G1 _ hsb (hrb.mono hle1))
 refine A1 3 ?_
 (refine E1 rfl rfl hC2 rfl rfl rfl (fun v G2 hle2 hh => ?_); obtain ⟨cs2, F2, rfl, hs2, hn2⟩ := hh; obtain ⟨p2, c2, rfl, _⟩ := hs2.open; have hr1 := hs1.R.mono ((C1.le G1 _).trans hle2); have hr2 := hs2.R.mono (C1.le G2 G1); have hre := hr.mono (hle1.trans hle2))
 refine aP 7 rfl (Q1 rfl rfl) rfl ?_
 refine A1 10 ?_
 refine N4 rfl rfl rfl rfl rfl rfl rfl rfl (by kernel_rfl) (by repeat first | exact Sw.here | apply Sw.there) (by rfl) ?_
 refine aP 11 rfl (qA rfl) rfl ?_
 refine B8 (nS ?_)
 (refine H7 (cs := [v1, v2, v3, v4, v5, v6, v7, v8, v9]) (by repeat (first | exact Pk.here | apply Pk.there)) (fun G5 hle5 hsl5 hno5 => ?_); obtain ⟨hone1, hone2⟩ := A2j (hre.mono hle5) hsl5)
 refine tT ?_
 refine D6 (rC rfl (A3 rfl rfl)) (rT rfl) ?_
 (refine ⟨rfl, _, _, _, rfl, A7.of9 (ks := [e]) ⟨by omega, by omega⟩ ⟨by omega, by omega⟩ ⟨by omega, by omega⟩ (hr2.mono hle5) (hr1.mono hle5) hone1 hone2, fun h => ?_, ?_, by omega, by omega⟩; (try (simp only [Tm.small, Tm.smallL, ByteArray.size]; exact ⟨by simp, hsb, hsa, by simp, h, trivial⟩)); (try (simp only [C7, E5]; omega)))
 refine sD (nS (qT rfl (tS (tR ?_))))
 refine sL (A2 rfl rfl (A6 (by repeat first | exact mH | apply mT)) hl) rfl rfl ?_
 refine sQ (qM rfl) rfl ?_
 refine sS rfl rfl rfl hl hone rfl ?_ (hu := by exact C2 hl.symm)
 refine sQ (qA rfl) rfl (sD (nS (tT (rS ?_))))
 refine D6 (rC rfl (A2 rfl rfl (A6 (by repeat first | exact mH | apply mT)) hl)) (rT rfl) ?_
 (exact ⟨rfl, e, _, _, rfl, hr, fun h => h, by omega, by omega, by omega⟩)
def W0 (n : Nat) (G : IM) : IM → Value → List A4 → Prop := K4 fun G' v => ∃ p c es ws, v = .slice p n c ∧ ws.length = n ∧ C5 G' p n c 2 es ∧ E3 G' ws es ∧ ∀ w ∈ ws, D4 w
theorem W0.mk {G G' : IM} {p : Option Addr} {n c : Nat} {ws : List Ty} {es : List (List Value)} (hl : ws.length = n) (hs : Sl G' p n c 2 es.flatten) (hst : E3 G' ws es) (ha : ∀ w ∈ ws, D4 w) : W0 n G G' (.slice p n c) [] :=
 ⟨rfl, p, c, es, ws, rfl, hl, C5.of hs (by rw [hst.len, hl]) hst.all (fun e he => (hst.each e he).2), hst, ha⟩
theorem W0.mk1 {G G' : IM} {p : Option Addr} {n c : Nat} {a : Ty} {ca : List Value} (hn : n = 1) (hs : Sl G' p 1 c 2 ca) (ha : B3 G' a ca) (h1 : D4 a) : W0 n G G' (.slice p 1 c) [] := by
 subst hn
 exact W0.mk (ws := [a]) (es := [ca]) rfl (by simpa using hs) ⟨_, _, rfl, ha, rfl⟩ (by simp [h1])
theorem W0.mk2 {G G' : IM} {p : Option Addr} {n c : Nat} {a b : Ty} {ca cb : List Value} (hn : n = 2) (hs : Sl G' p 2 c 2 (ca ++ cb)) (ha : B3 G' a ca) (hb : B3 G' b cb) (h1 : D4 a) (h2 : D4 b) : W0 n G G' (.slice p 2 c) [] := by
 subst hn
 exact W0.mk (ws := [a, b]) (es := [ca, cb]) rfl (by simpa using hs) ⟨_, _, rfl, ha, _, _, rfl, hb, rfl⟩ (by simp [h1, h2])
theorem W0.mk3 {G G' : IM} {p : Option Addr} {n c : Nat} {a b d : Ty} {ca cb cd : List Value} (hn : n = 3) (hs : Sl G' p 3 c 2 (ca ++ (cb ++ cd))) (ha : B3 G' a ca) (hb : B3 G' b cb) (hd : B3 G' d cd) (h1 : D4 a) (h2 : D4 b) (h3 : D4 d) : W0 n G G' (.slice p 3 c) [] := by
 subst hn
 exact W0.mk (ws := [a, b, d]) (es := [ca, cb, cd]) rfl (by simpa using hs) ⟨_, _, rfl, ha, _, _, rfl, hb, _, _, rfl, hd, rfl⟩ (by simp [h1, h2, h3])
theorem B2i (k : Int) (nm : ByteArray) (num : Int) (ty fr : Ty) (lb : Int) (ks : List Tm) (ts : List Ty) (t : Ty) (G : IM) (cells tcells : List Value) (p : Option Addr) (c : Nat) (es : List (List Value))
  (hops : E0 k = ts.length) (hr : A7 G (.mk k nm num ty fr lb ks) cells) (hsl : C5 G p ts.length c 2 es) (hkl : E3 G ts es) (har : ∀ t ∈ ts, D4 t) (hrt : B3 G t tcells) (hat : D4 t) :
  Fn Tryz.prog 211 [.agg ⟨cells⟩, .slice p ts.length c, .agg ⟨tcells⟩] [] G (W0 ts.length G) := by
 have hone := hr.one
 have hop := A2i hops
 have ha0 := fun h : 0 < ts.length => har _ (List.getElem_mem h)
 obtain ⟨tyk, tyks⟩ := ty
 obtain ⟨fk, fks⟩ := fr
 obtain ⟨tk, tks⟩ := t
 obtain ⟨q9, d9, e9, rfl, _⟩ := hrt.open
 obtain ⟨pt, ct, pf, cf, pk, ck, ek, rfl, hk, hnum, hlb, hrty, hrfr, _, _⟩ := hr.open9
 refine B5 Tryz.func211 rfl Tryz.ntmps211 Tryz.results211 rfl ?_
 intro w0
 refine tS (tR ?_)
 refine sE (C0 rfl rfl) rfl (fun b3 => ?_)
 refine sE (C0 rfl rfl) rfl (fun b4 => ?_)
 refine H8 ?_
 refine B9 (tS (tR (sB (qE rfl rfl) rfl rfl (fun h18 => ?_) (fun h18 => ?_))))
 refine D0 ?_
 (have hl2 : ts.length = 2 := hop.1 (by omega); obtain ⟨b0, o0, q0, d0, hp0, hat0, hre0, hg0⟩ := hsl.kidTy hkl (i := 0) (by omega) (by omega); cases hp0; refine sP (B0 (j := 0) rfl rfl rfl (by omega)) rfl rfl ?_)
 refine sL (A2 rfl rfl (hat0 _) rfl) rfl rfl ?_
 (refine D3 rfl (A2K 4 ts[0] G _ (.inl rfl) (ha0 (by omega)) hre0) rfl rfl (fun v G1 hle1 hh => ?_); obtain ⟨ma, mca, mb, mcb, mx, rfl, hma, hma2, hma3, hmb, hmb2, hmb3⟩ := hh; obtain ⟨p1, c1, e1, rfl, _⟩ := hma.open; obtain ⟨p2, c2, e2, rfl, _⟩ := hmb.open; have hTwo := A2h 4 ma mb G1 _ _ (.inl rfl) hma2 hmb2 hma hmb)
 refine I8 ?_
 refine sE (A5 rfl) rfl (fun b33 => ?_)
 refine sE (A5 rfl) rfl (fun b34 => ?_)
 refine D7 ?_
 (refine D3 rfl hTwo rfl rfl (fun v G2 hle2 hh => ?_); obtain ⟨mt, mc, mx2, rfl, hmr, hmta, hms⟩ := hh; obtain ⟨p3, c3, e3, rfl, _⟩ := hmr.open; have hma4 := hma.mono hle2)
 refine I6 ?_
 refine sE (A5 rfl) rfl (fun b48 => ?_)
 refine D8 ?_
 (refine J5 (C8 rfl rfl rfl (by omega) (by unfold maxLen; omega) rfl) rfl ?_; rintro _ ⟨b57, rfl⟩)
 refine sQ (qA rfl) rfl (sD (nS ?_))
 (refine H7 (by repeat (first | exact Pk.here | apply Pk.there)) (fun G5 hle5 hsl5 hno5 => ?_))
 refine tT (rB (rS (E2 (rT rfl) ?_)))
 (exact W0.mk2 (hop.1 (by omega)) hsl5 (hmr.mono hle5) (hma4.mono hle5) hmta hma2)
 refine sQ (qA rfl) rfl (sD (nS (cF rfl (tS (tS (tR ?_))))))
 refine sB (qE rfl rfl) rfl rfl (fun h74 => ?_) (fun h74 => ?_)
 refine D7 ?_
 refine E8 rfl ((V9 _)) rfl rfl ?_
 refine E8 rfl ((V9 _)) rfl rfl ?_
 (refine J5 (C8 rfl rfl rfl (by omega) (by unfold maxLen; omega) rfl) rfl ?_; rintro _ ⟨b86, rfl⟩)
 refine sQ (qA rfl) rfl (sD (nS ?_))
 (refine H7 (by repeat (first | exact Pk.here | apply Pk.there)) (fun G5 hle5 hsl5 hno5 => ?_))
 refine tT (rB (rS (E2 (rT rfl) ?_)))
 (exact W0.mk2 (hop.1 (by omega)) hsl5 (J8 _ ⟨by omega, by omega⟩) (J8 _ ⟨by omega, by omega⟩) (M4 (by omega) (by omega)) (M4 (by omega) (by omega)))
 refine sQ (qA rfl) rfl (sD (nS (cF rfl (tR ?_))))
 refine sB (qE rfl rfl) rfl rfl (fun h101 => ?_) (fun h101 => ?_)
 refine sQ (qA rfl) rfl (sD (nS (qT rfl (tS (tR ?_)))))
 refine E8 rfl ((V9 _)) rfl rfl ?_
 refine E8 rfl ((V9 _)) rfl rfl ?_
 (refine J5 (C8 rfl rfl rfl (by omega) (by unfold maxLen; omega) rfl) rfl ?_; rintro _ ⟨b110, rfl⟩)
 refine sQ (qA rfl) rfl (sD (nS ?_))
 (refine H7 (by repeat (first | exact Pk.here | apply Pk.there)) (fun G5 hle5 hsl5 hno5 => ?_))
 refine tT (rB (rS (E2 (rT rfl) ?_)))
 (exact W0.mk2 (hop.1 (by omega)) hsl5 (J8 _ ⟨by omega, by omega⟩) (J8 _ ⟨by omega, by omega⟩) (M4 (by omega) (by omega)) (M4 (by omega) (by omega)))
 refine sQ (qA rfl) rfl (sD (nS (cF rfl (tS (tR ?_)))))
 refine sB (qE rfl rfl) rfl rfl (fun h126 => ?_) (fun h126 => ?_)
 refine sQ (qA rfl) rfl (sD (nS (qT rfl (tS ?_))))
 refine C9 D1 rfl ?_
 refine L0 (i := 1) (l' := [ff,tt,ff,ff,ff]) rfl C4 (A3 rfl rfl) rfl (by kernel_rfl) rfl rfl ?_
 refine aL 2 rfl (A3 rfl rfl) rfl ?_
 refine A1 0 ?_
 refine J0 rfl rfl ((A1f _)) rfl rfl rfl ?_
 refine A1 3 ?_
 (refine D9 rfl (C8 rfl rfl rfl (by omega) (by unfold maxLen; omega) rfl) rfl rfl ?_; rintro _ ⟨b138, rfl⟩)
 refine aP 4 rfl (qA rfl) rfl ?_
 refine B8 (nS ?_)
 (refine H7 (by repeat (first | exact Pk.here | apply Pk.there)) (fun G5 hle5 hsl5 hno5 => ?_))
 refine tT (rB (rS (E2 (rT rfl) ?_)))
 (exact W0.mk3 (hop.2.1 (by omega)) hsl5 (J8 _ ⟨by omega, by omega⟩) (hrt.mono hle5) (hrt.mono hle5) (M4 (by omega) (by omega)) hat hat)
 refine sQ (qA rfl) rfl (sD (nS (cF rfl (tS (tS (tR ?_))))))
 refine sB (qE rfl rfl) rfl rfl (fun h155 => ?_) (fun h155 => ?_)
 refine H8 ?_
 (have hl1 : ts.length = 1 := hop.2.2 (by omega); obtain ⟨b0, o0, q0, d0, hp0, hat0, hre0, hg0⟩ := hsl.kidTy hkl (i := 0) (by omega) (by omega); cases hp0; refine sP (B0 (j := 0) rfl rfl rfl (by omega)) rfl rfl ?_)
 refine sL (A2 rfl rfl (hat0 _) rfl) rfl rfl ?_
 (refine D3 rfl (A2K 5 ts[0] G _ (.inr rfl) (ha0 (by omega)) hre0) rfl rfl (fun v G1 hle1 hh => ?_); obtain ⟨ma, mca, mb, mcb, mx, rfl, hma, hma2, hma3, hmb, hmb2, hmb3⟩ := hh; obtain ⟨p1, c1, e1, rfl, _⟩ := hma.open; obtain ⟨p2, c2, e2, rfl, _⟩ := hmb.open; have hTwo := A2h 5 ma mb G1 _ _ (.inr rfl) hma2 hmb2 hma hmb)
 refine I8 ?_
 refine sE (A5 rfl) rfl (fun b173 => ?_)
 refine sE (A5 rfl) rfl (fun b174 => ?_)
 refine D7 ?_
 (refine D3 rfl hTwo rfl rfl (fun v G2 hle2 hh => ?_); obtain ⟨mt, mc, mx2, rfl, hmr, hmta, hms⟩ := hh; obtain ⟨p3, c3, e3, rfl, _⟩ := hmr.open; have hma4 := hma.mono hle2)
 refine I6 ?_
 refine sE (A5 rfl) rfl (fun b188 => ?_)
 refine D0 ?_
 (refine J5 (C8 rfl rfl rfl (by omega) (by unfold maxLen; omega) rfl) rfl ?_; rintro _ ⟨b196, rfl⟩)
 refine sQ (qA rfl) rfl (sD (nS ?_))
 (refine H7 (by repeat (first | exact Pk.here | apply Pk.there)) (fun G5 hle5 hsl5 hno5 => ?_))
 refine tT (rB (rS (E2 (rT rfl) ?_)))
 (exact W0.mk1 (hop.2.2 (by omega)) hsl5 (hmr.mono hle5) hmta)
 refine sQ (qA rfl) rfl (sD (nS (cF rfl (tR ?_))))
 refine sB (qE rfl rfl) rfl rfl (fun h211 => ?_) (fun h211 => ?_)
 refine D0 ?_
 (have hl1 : ts.length = 1 := hop.2.2 (by omega); obtain ⟨b0, o0, q0, d0, hp0, hat0, hre0, hg0⟩ := hsl.kidTy hkl (i := 0) (by omega) (by omega); cases hp0; refine sP (B0 (j := 0) rfl rfl rfl (by omega)) rfl rfl ?_)
 refine sL (A2 rfl rfl (hat0 _) rfl) rfl rfl ?_
 (refine D3 rfl (A2K 5 ts[0] G _ (.inr rfl) (ha0 (by omega)) hre0) rfl rfl (fun v G1 hle1 hh => ?_); obtain ⟨ma, mca, mb, mcb, mx, rfl, hma, hma2, hma3, hmb, hmb2, hmb3⟩ := hh; obtain ⟨p1, c1, e1, rfl, _⟩ := hma.open; obtain ⟨p2, c2, e2, rfl, _⟩ := hmb.open; have hTwo := A2h 5 ma mb G1 _ _ (.inr rfl) hma2 hmb2 hma hmb)
 refine I8 ?_
 refine sE (A5 rfl) rfl (fun b226 => ?_)
 refine sE (A5 rfl) rfl (fun b227 => ?_)
 refine D7 ?_
 (refine D3 rfl hTwo rfl rfl (fun v G2 hle2 hh => ?_); obtain ⟨mt, mc, mx2, rfl, hmr, hmta, hms⟩ := hh; obtain ⟨p3, c3, e3, rfl, _⟩ := hmr.open; have hma4 := hma.mono hle2)
 refine I6 ?_
 refine sE (A5 rfl) rfl (fun b241 => ?_)
 refine D0 ?_
 (refine J5 (C8 rfl rfl rfl (by omega) (by unfold maxLen; omega) rfl) rfl ?_; rintro _ ⟨b249, rfl⟩)
 refine sQ (qA rfl) rfl (sD (nS ?_))
 (refine H7 (by repeat (first | exact Pk.here | apply Pk.there)) (fun G5 hle5 hsl5 hno5 => ?_))
 refine tT (rB (rS (E2 (rT rfl) ?_)))
 (exact W0.mk1 (hop.2.2 (by omega)) hsl5 (hmr.mono hle5) hmta)
 refine sQ (qA rfl) rfl (sD (nS (cF rfl (tS (tR ?_)))))
 refine sB (qE rfl rfl) rfl rfl (fun h265 => ?_) (fun h265 => ?_)
 refine D0 ?_
 (refine J5 (C8 rfl rfl rfl (by omega) (by unfold maxLen; omega) rfl) rfl ?_; rintro _ ⟨b273, rfl⟩)
 refine sQ (qA rfl) rfl (sD (nS ?_))
 (refine H7 (by repeat (first | exact Pk.here | apply Pk.there)) (fun G5 hle5 hsl5 hno5 => ?_))
 refine tT (rB (rS (E2 (rT rfl) ?_)))
 (exact W0.mk1 (hop.2.2 (by omega)) hsl5 (hrt.mono hle5) hat)
 refine I7 ?_
 (exact W0.mk rfl hsl.sl hkl har)
theorem A8e : ∀ (ts : List Tm) (t : Tm), E5 (ts ++ [t]) = E5 ts + C7 t
 | [], t => by simp [E5]
 | a :: ts, t => by simp only [List.cons_append, E5, A8e ts t]; omega
theorem A8f : ∀ {ts : List Tm} {t : Tm}, Tm.smallL ts → t.small → Tm.smallL (ts ++ [t])
 | [], t, _, h => by simp [Tm.smallL, h]
 | a :: ts, t, h, h2 => by
  simp only [Tm.smallL] at h
  simp only [List.cons_append, Tm.smallL]
  exact ⟨h.1, A8f h.2 h2⟩
theorem A8g : ∀ (ts : List Tm) (i : Nat) (u : Tm) (h : i < ts.length), E5 (ts.set i u) + C7 ts[i] = E5 ts + C7 u
 | [], i, u, h => by simp at h
 | a :: ts, 0, u, h => by simp only [List.set_cons_zero, E5, List.getElem_cons_zero]; omega
 | a :: ts, i + 1, u, h => by
  have := A8g ts i u (by simpa using h)
  simp only [List.set_cons_succ, E5, List.getElem_cons_succ]; omega
theorem A8h : ∀ {ts : List Tm} {i : Nat} {u : Tm}, Tm.smallL ts → u.small → Tm.smallL (ts.set i u)
 | [], i, u, h, _ => by simpa using h
 | a :: ts, 0, u, h, hu => by
  simp only [Tm.smallL, List.set_cons_zero] at h ⊢
  exact ⟨hu, h.2⟩
 | a :: ts, i + 1, u, h, hu => by
  simp only [Tm.smallL, List.set_cons_succ] at h ⊢
  exact ⟨h.1, A8h h.2 hu⟩
theorem B2j {ts : List Tm} {i : Nat} (h : i < ts.length) : C7 ts[i] ≤ E5 ts := by
 have := A2c h
 omega
theorem C6.at2 {G : IM} {ts : List Tm} {es : List (List Value)} {i : Nat} (h : C6 G ts es) (h1 : i < ts.length) (h2 : i < es.length) : i < es.length ∧ A7 G ts[i] es[i] := by
 have := (h.inv (List.getElem?_eq_getElem h2) I3).2
 rw [List.getD_eq_getElem?_getD, List.getElem?_eq_getElem h1] at this
 exact ⟨h2, this⟩
mutual
theorem A8i : ∀ (t : Tm) (d : Int), P2 12 14 t d = true → t.small
 | .mk k nm num ty fr lb ks, d, h => by
  obtain ⟨h1, h2, h3, h4⟩ := A00 h
  have hn := V7.1 h3
  rw [Tm.small]
  refine ⟨?_, (A2L h3).1.small, ?_, ?_, A8j ks _ h4⟩
  ·by_cases hk : k = 1 ∨ k = 5
   ·have := hn.2.1 hk
    simp only [X3, decide_eq_true_eq] at this
    omega
   ·rw [hn.2.2.1 hk]; decide
  ·rw [A2g (hn.2.2.2.2.2.2.2.2 (by omega)).1]
   simp [B1, Ty.small, Ty.smallL]
  ·have := A1e k
   omega
theorem A8j : ∀ (ts : List Tm) (d : Int), V3 12 14 ts d = true → Tm.smallL ts
 | [], d, h => by rw [Tm.smallL]; trivial
 | t :: ts, d, h => by
  rw [V3, Bool.and_eq_true] at h
  rw [Tm.smallL]
  exact ⟨A8i t d h.1, A8j ts d h.2⟩
end
theorem A8k {hp : List A4} {G : IM} {b sz i : Nat} {es : List (List Value)} {C : List Value} (hm : A4.blk b (es.flatten ++ C) ∈ hp) (hi : i < es.length) (ha : ∀ e ∈ es, e.length = sz) : At hp G b (0 + i * sz) es[i] := by
 refine .inl ⟨_, hm, fun j u hu => ?_⟩
 rw [A5F hi, List.append_assoc, List.append_assoc]
 have hl : (es.take i).flatten.length = i * sz := by
  rw [A0U (fun e he => ha e (List.mem_of_mem_take he)), List.length_take, Nat.min_eq_left (by omega)]
 have hj : j < es[i].length := (List.getElem?_eq_some_iff.1 hu).1
 rw [List.getElem?_append_right (by omega), show 0 + i * sz + j - (es.take i).flatten.length = j by omega, List.getElem?_append_left hj]
 exact hu
def A8l (e : Tm) (label : Int) (G : IM) : IM → Value → List A4 → Prop := K4 fun G' v => ∃ u cu t ct l', v = .tuple ⟨[.agg ⟨cu⟩, .agg ⟨ct⟩, .int .i64 l']⟩ ∧ A7 G' u cu ∧ u.small ∧ C7 u + 1 ≤ 2 * C7 e ∧ B3 G' t ct ∧ D4 t ∧ H2 t ≤ 32 * (C7 e : Int) ∧ label ≤ l' ∧ l' + 1 ≤ label + 2 * (C7 e : Int)
theorem B2k : ∀ (e : Tm) (d : Int) (G : IM) (p : Option Addr) (n c : Nat) (label : Int) (cells : List Value), P2 12 14 e d = true → (n : Int) ≤ d → T7 G p n c → A7 G e cells → 0 ≤ label → label + 2 * (C7 e : Int) ≤ 1099511627776 →
  Fn Tryz.prog 155 [.slice p n c, .agg ⟨cells⟩, .int .i64 label] [] G (A8l e label G) := by
 refine Tm.ind fun k nm num ty fr lb ks ih d G p n c label cells hv hnd hx hr hlab0 hlab => ?_
 have hr0 := hr
 have hone := hr.one
 have hT := A8a _ d G p n c cells hv hnd hx hr
 have hsm := A8i _ d hv
 have hsm' := hsm
 rw [Tm.small] at hsm'
 obtain ⟨hnm, htsm, hfsm, _, hksm⟩ := hsm'
 obtain ⟨hv1, hv2, hv3, hv4⟩ := A00 hv
 have hvk := (A0Y 12 14 ks _).1 hv4
 have har := (V7.1 hv3).1
 have hop := A2i har
 obtain ⟨hta, hts⟩ := A2L hv3
 have hck : C7 (.mk k nm num ty fr lb ks) = 1 + E5 ks := by rw [C7]; omega
 rw [hck] at hlab hT
 unfold A8l
 rw [hck]
 obtain ⟨tk, tks⟩ := ty
 obtain ⟨fk, fks⟩ := fr
 obtain ⟨pt, ct, pf, cf, q, cq, es, rfl, hk, hnum, hlb, hty, hfr, hsl, hkl⟩ := hr.open9
 have hlen : ks.length ≤ 3 := by have := A1e k; omega
 have hk13 : k = 13 → ks.length = 1 := fun h => hop.2.2 (by omega)
 refine B5 Tryz.func155 rfl Tryz.ntmps155 Tryz.results155 rfl ?_
 intro w0
 refine tS (tR ?_)
 refine sE (C0 rfl rfl) rfl (fun b3 => ?_)
 refine sE (A5 rfl) rfl (fun b4 => ?_)
 refine sE (A5 rfl) rfl (fun b5 => ?_)
 refine D0 ?_
 (refine D3 rfl hT rfl rfl (fun v G1 hle1 hh => ?_); obtain ⟨mt, mc, mx, rfl, hmr, hma, hms⟩ := hh; obtain ⟨p1, d1, e1, rfl, _⟩ := hmr.open; have hC := A1J _ G1 _ hsm (hr0.mono hle1))
 refine I6 ?_
 refine sE (A5 rfl) rfl (fun b17 => ?_)
 refine D0 ?_
 (refine D3 rfl hC rfl rfl (fun v G2 hle2 hh => ?_); obtain ⟨N6, F1, rfl, hs1, hn1⟩ := hh; have hr1 := hs1.R.mono (C1.le G2 G1); obtain ⟨q1, c1, q2, c2, q3, c3, es1, rfl, _, _, _, hty1, hfr1, _, _⟩ := hr1.open9; have hle02 := hle1.trans hle2; replace hx := hx.mono hle02; replace hty := hty.mono hle02; replace hsl := hsl.mono hle02; replace hkl := hkl.mono hle02; replace hmr := hmr.mono hle2; replace hr0 := hr0.mono hle02)
 refine sE (A5 rfl) rfl (fun b26 => ?_)
 refine J7 ?_
 (show I9 _ _ (.region 4 ..) _ _; refine Z6 (fun (x : Bool) => ⟨[(30, .bool x), (0, .slice p n c), (2, .int .i64 label), (4, .pointer (some ⟨b3, 0, none⟩)), (6, .pointer (some ⟨b4, 0, none⟩)), (7, .pointer (some ⟨b5, 0, none⟩)), (9, .pointer (some ⟨b17, 0, none⟩)), (11, .pointer (some ⟨b26, 0, none⟩))], [.blk b26 [.int .i64 k, .string nm, .int .i64 num, .int .i64 tk, .slice q1 tks.length c1, .int .i64 fk, .slice q2 fks.length c2, .int .i64 lb, .slice none 0 0], .blk b17 [.int .i64 mt.k, .slice p1 mt.ks.length d1], .blk b5 [.int .i64 0, .slice none 0 0], .blk b4 [.int .i64 0, .string ⟨⟨[]⟩⟩, .int .i64 0, .int .i64 0, .slice none 0 0, .int .i64 0, .slice none 0 0, .int .i64 0, .slice none 0 0], .blk b3 [.int .i64 k, .string nm, .int .i64 num, .int .i64 tk, .slice pt tks.length ct, .int .i64 fk, .slice pf fks.length cf, .int .i64 lb, .slice q ks.length cq]], G2⟩) (fun _ => True) ?_ ?_)
 ·refine tR (sQ (A9 rfl) rfl (sL (B7 rfl rfl) rfl rfl ?_))
  refine sB (qE rfl rfl) rfl rfl (fun h42 => ?_) (fun h42 => ?_)
  ·refine sD ?_
   refine P4 true (N3 (by repeat (first | exact E9.nil | refine E9.cons rfl ?_)) (by repeat (first | exact A0.refl | exact A0.nil | refine A0.cons (by repeat (first | exact Pk.here | apply Pk.there)) ?_ | apply A0.drop))) trivial
  ·refine sD ?_
   refine P4 false (N3 (by repeat (first | exact E9.nil | refine E9.cons rfl ?_)) (by repeat (first | exact A0.refl | exact A0.nil | refine A0.cons (by repeat (first | exact Pk.here | apply Pk.there)) ?_ | apply A0.drop))) trivial
 ·(rintro (x : Bool) _)
  (show I9 _ _ (.cond (.tmp 30) _ _) _ _; refine Z6 (fun (x : Option Addr × Nat × Nat × IM) => ⟨[(0, .slice x.1 x.2.1 x.2.2.1), (2, .int .i64 label), (4, .pointer (some ⟨b3, 0, none⟩)), (6, .pointer (some ⟨b4, 0, none⟩)), (7, .pointer (some ⟨b5, 0, none⟩)), (9, .pointer (some ⟨b17, 0, none⟩)), (11, .pointer (some ⟨b26, 0, none⟩))], [.blk b26 [.int .i64 k, .string nm, .int .i64 num, .int .i64 tk, .slice q1 tks.length c1, .int .i64 fk, .slice q2 fks.length c2, .int .i64 lb, .slice none 0 0], .blk b17 [.int .i64 mt.k, .slice p1 mt.ks.length d1], .blk b5 [.int .i64 0, .slice none 0 0], .blk b4 [.int .i64 0, .string ⟨⟨[]⟩⟩, .int .i64 0, .int .i64 0, .slice none 0 0, .int .i64 0, .slice none 0 0, .int .i64 0, .slice none 0 0], .blk b3 [.int .i64 k, .string nm, .int .i64 num, .int .i64 tk, .slice pt tks.length ct, .int .i64 fk, .slice pf fks.length cf, .int .i64 lb, .slice q ks.length cq]], x.2.2.2⟩) (fun x => B6 G2 x.2.2.2 ∧ T7 x.2.2.2 x.1 x.2.1 x.2.2.1 ∧ (x.2.1 : Int) ≤ d + 1) (A28 rfl (fun hxt => ?_) (fun hxf => ?_)) ?_)
  ·refine I1 ?_
   (refine D3 rfl (A5E G2 p n c nm (.mk tk tks) _ hx (by omega) hty hta hts (A5C hv3)) rfl rfl (fun v G3 hle3 hh => ?_); obtain ⟨pm0, cm0, rfl, hxm⟩ := hh)
   refine sQ (qA rfl) rfl (sD ?_)
   refine P4 (pm0, n + 1, cm0, G3) (N3 (by repeat (first | exact E9.nil | refine E9.cons rfl ?_)) (by repeat (first | exact A0.refl | exact A0.nil | refine A0.cons (by repeat (first | exact Pk.here | apply Pk.there)) ?_ | apply A0.drop))) ?_
   (dsimp only; exact ⟨hle3, hxm, by omega⟩)
  ·refine tK ?_
   refine P4 (p, n, c, G2) (N3 (by repeat (first | exact E9.nil | refine E9.cons rfl ?_)) (by repeat (first | exact A0.refl | exact A0.nil | refine A0.cons (by repeat (first | exact Pk.here | apply Pk.there)) ?_ | apply A0.drop))) ?_
   (dsimp only; exact ⟨B6.refl _, hx, by omega⟩)
  ·(rintro ⟨(px : Option Addr), nx, cx, Gx⟩ ⟨hleX, hxX, hnX⟩; simp only [] at hleX hxX hnX ⊢; replace hty1 := hty1.mono hleX; replace hfr1 := hfr1.mono hleX; replace hsl := hsl.mono hleX; replace hkl := hkl.mono hleX; replace hmr := hmr.mono hleX; replace hr0 := hr0.mono hleX)
   refine tS (tR ?_)
   (refine J5 (C8 rfl rfl rfl (by omega) (by unfold maxLen; omega) rfl) rfl ?_; rintro _ ⟨b66, rfl⟩)
   refine D7 ?_
   refine B9 ?_
   (refine T9 28 9 ?_; refine K3 (fun (x : Nat × (Option Addr × Nat × List Tm × List (List Value)) × (Option Addr × Nat × List Ty × List (List Value)) × Int × IM) => ⟨[(13, .int .i64 x.1), (12, .slice x.2.2.1.1 x.1 x.2.2.1.2.1), (0, .slice px nx cx), (2, .int .i64 x.2.2.2.1), (4, .pointer (some ⟨b3, 0, none⟩)), (6, .pointer (some ⟨b4, 0, none⟩)), (7, .pointer (some ⟨b5, 0, none⟩)), (9, .pointer (some ⟨b17, 0, none⟩)), (11, .pointer (some ⟨b26, 0, none⟩))], [.blk b26 [.int .i64 k, .string nm, .int .i64 num, .int .i64 tk, .slice q1 tks.length c1, .int .i64 fk, .slice q2 fks.length c2, .int .i64 lb, .slice x.2.1.1 x.1 x.2.1.2.1], .slc x.2.1.1 x.2.1.2.1 28 9 x.1 x.2.1.2.2.2.flatten, .slc x.2.2.1.1 x.2.2.1.2.1 25 2 x.1 x.2.2.1.2.2.2.flatten, .blk b17 [.int .i64 mt.k, .slice p1 mt.ks.length d1], .blk b5 [.int .i64 0, .slice none 0 0], .blk b4 [.int .i64 0, .string ⟨⟨[]⟩⟩, .int .i64 0, .int .i64 0, .slice none 0 0, .int .i64 0, .slice none 0 0, .int .i64 0, .slice none 0 0], .blk b3 [.int .i64 k, .string nm, .int .i64 num, .int .i64 tk, .slice pt tks.length ct, .int .i64 fk, .slice pf fks.length cf, .int .i64 lb, .slice q ks.length cq]], x.2.2.2.2⟩) (fun x => x.1 ≤ ks.length ∧ B6 Gx x.2.2.2.2 ∧ x.2.1.2.2.1.length = x.1 ∧ C6 x.2.2.2.2 x.2.1.2.2.1 x.2.1.2.2.2 ∧ Tm.smallL x.2.1.2.2.1 ∧ E5 x.2.1.2.2.1 + x.1 ≤ 2 * E5 (ks.take x.1) ∧ x.2.2.1.2.2.1.length = x.1 ∧ E3 x.2.2.2.2 x.2.2.1.2.2.1 x.2.2.1.2.2.2 ∧ (∀ t ∈ x.2.2.1.2.2.1, D4 t) ∧ label ≤ x.2.2.2.1 ∧ x.2.2.2.1 + x.1 ≤ label + 2 * (E5 (ks.take x.1) : Int)) (fun x => ks.length - x.1) (0, (none, 0, [], []), (some ⟨b66, 0, none⟩, 0, [], []), label, Gx) ?_ ?_ ?_)
   ·(simp only [I5]; exact D5)
   ·(exact ⟨by simp, B6.refl _, rfl, by simp [C6], by simp [Tm.smallL], by simp [E5], rfl, by simp [E3], by simp, by dsimp only; omega, by dsimp only; omega⟩)
   ·(rintro ⟨i, ⟨pn, cn, us, es'⟩, ⟨pm, cm, ts, ess⟩, l, Gi⟩ ⟨hi, hle, hlu, hst, hus, hcu, hlt, hstt, hat, hl1, hl2⟩; simp only [] at hi hle hlu hst hus hcu hlt hstt hat hl1 hl2 ⊢; replace hty1 := hty1.mono hle; replace hfr1 := hfr1.mono hle; replace hsl := hsl.mono hle; replace hkl := hkl.mono hle; replace hmr := hmr.mono hle; replace hr0 := hr0.mono hle; replace hxX := hxX.mono hle)
    refine D0 ?_
    refine sB (K1 rfl rfl) rfl rfl (fun h88 => ?_) (fun h88 => ?_)
    ·refine sD (nS (qT rfl (tK (nS (tS ?_)))))
     refine B9 ?_
     refine I1 ?_
     (obtain ⟨b, o, e, rfl, hl, hate, hre, hgb⟩ := hsl.kidTm hkl (i := i) (by omega) (by omega); have hsc := A2E (ks := ks) (i := i) (by omega); have hsk := A2c (ks := ks) (i := i) (by omega); refine sP (B0 rfl rfl rfl (by omega)) rfl rfl ?_)
     refine sL (A2 rfl rfl (hate _) hl) rfl rfl ?_
     refine sQ (qM rfl) rfl ?_
     (refine D3 rfl (ih ks[i] (List.getElem_mem (by omega)) (d + 1) Gi px nx cx l _ (hvk i (by omega)) (by omega) hxX hre (by omega) (by omega)) rfl rfl (fun v G3 hle3 hh => ?_); obtain ⟨u, uc, t, tc, l3, rfl, hru, hu1, hu2, hrt, ht1, ht2, hl3, hl4⟩ := hh; obtain ⟨v1, v2, v3, v4, v5, v6, v7, v8, v9, rfl⟩ : ∃ v1 v2 v3 v4 v5 v6 v7 v8 v9, uc = [v1, v2, v3, v4, v5, v6, v7, v8, v9] := (by obtain ⟨_, _, _, _, _, _, _, _, _, rfl, _⟩ := hru.open; exact ⟨_, _, _, _, _, _, _, _, _, rfl⟩); obtain ⟨p3, c3, e3, rfl, _⟩ := hrt.open; have hlu9 := hru.len; have hou9 := hru.one)
     refine I8 ?_
     refine sE (A5 rfl) rfl (fun b110 => ?_)
     refine sE (A5 rfl) rfl (fun b111 => ?_)
     refine sS rfl rfl rfl hlu9 hou9 rfl ?_ (hu := by exact C2 hlu9.symm)
     refine D7 ?_
     (refine J5 (C8 rfl rfl rfl (by omega) (by unfold maxLen; omega) rfl) rfl ?_; rintro _ ⟨b122, rfl⟩)
     refine A07 rfl rfl rfl rfl rfl (fun _ _ => by repeat (first | exact Sw.here | apply Sw.there)) (P9 (by repeat first | exact mH | apply mT)) rfl (fun u hu => List.all_eq_true.1 hou9 u hu) (by unfold maxLen; omega) (by omega) rfl (fun pn' cn' => ?_)
     refine D8 ?_
     (refine J5 (C8 rfl rfl rfl (by omega) (by unfold maxLen; omega) rfl) rfl ?_; rintro _ ⟨b132, rfl⟩)
     refine A07 rfl rfl rfl rfl rfl (fun _ _ => by repeat (first | exact Sw.here | apply Sw.there)) (P9 (by repeat first | exact mH | apply mT)) rfl (by simp [Value.oneCell']) (by unfold maxLen; omega) (by omega) rfl (fun pm' cm' => ?_)
     refine J7 ?_
     refine sP (J6 rfl rfl (by omega) (by omega)) rfl rfl ?_
     refine sQ (qA rfl) rfl (sD ?_)
     refine K0 (i + 1, (pn', cn', us ++ [u], es' ++ [[v1, v2, v3, v4, v5, v6, v7, v8, v9]]), (pm', cm', ts ++ [t], ess ++ [[.int .i64 t.k, .slice p3 t.ks.length c3]]), l3, G3) ?_ ?_ ?_
     ·(simp only [I5]; exact D5)
     ·(dsimp only; exact ⟨by omega, hle.trans hle3, by simp [hlu], C6.snoc (hst.mono hle3) hru, A8f hus hu1, by rw [A8e]; omega, by simp [hlt], E3.snoc (hstt.mono hle3) hrt, A1N hat ht1, by omega, by omega⟩)
     ·(show ks.length - (i + 1) < ks.length - i; omega)
    ·refine J4 ?_
     (obtain rfl : i = ks.length := (by omega); rw [List.take_length] at hcu hl2; refine S7 (cs := ess.flatten) (by repeat (first | exact Pk.here | apply Pk.there)) (fun G4 hle4 hsl4 hno4 => ?_); have hstt4 := hstt.mono hle4; have hslT : C5 G4 pm ts.length cm 2 ess := (by rw [hlt]; exact C5.of hsl4 (by rw [hstt4.len, hlt]) hstt4.all (fun e he => (hstt4.each e he).2)); have hW := B2i k nm num (.mk tk tks) (.mk fk fks) lb ks ts mt G4 _ _ pm cm ess (by rw [hlt]; exact har) (hr0.mono hle4) hslT hstt4 hat (hmr.mono hle4) hma; rw [hlt] at hW; refine D3 rfl hW rfl rfl (fun v G5 hle5 hh => ?_); obtain ⟨pw, cw, esw, ws, rfl, hlw, hsw, hstw, haw⟩ := hh; have hle45 := hle4.trans hle5; replace hty1 := hty1.mono hle45; replace hfr1 := hfr1.mono hle45; replace hmr := hmr.mono hle45; replace hst := hst.mono hle45; replace hslT := hslT.mono hle5; replace hstt := hstt.mono hle45; rcases Nat.eq_zero_or_pos ks.length with h0 | h0)
     ·refine D7 ?_
      refine B9 ?_
      (have h0' : ks.length = 0 := h0; refine K3 (fun (_ : Nat) => ⟨[(18, .int .i64 0), (17, .slice pw ks.length cw), (12, .slice pm ks.length cm), (2, .int .i64 l), (4, .pointer (some ⟨b3, 0, none⟩)), (6, .pointer (some ⟨b4, 0, none⟩)), (7, .pointer (some ⟨b5, 0, none⟩)), (9, .pointer (some ⟨b17, 0, none⟩)), (11, .pointer (some ⟨b26, 0, none⟩))], [.blk b26 [.int .i64 k, .string nm, .int .i64 num, .int .i64 tk, .slice q1 tks.length c1, .int .i64 fk, .slice q2 fks.length c2, .int .i64 lb, .slice pn ks.length cn], .slc pn cn 28 9 ks.length es'.flatten, .blk b17 [.int .i64 mt.k, .slice p1 mt.ks.length d1], .blk b5 [.int .i64 0, .slice none 0 0], .blk b4 [.int .i64 0, .string ⟨⟨[]⟩⟩, .int .i64 0, .int .i64 0, .slice none 0 0, .int .i64 0, .slice none 0 0, .int .i64 0, .slice none 0 0], .blk b3 [.int .i64 k, .string nm, .int .i64 num, .int .i64 tk, .slice pt tks.length ct, .int .i64 fk, .slice pf fks.length cf, .int .i64 lb, .slice q ks.length cq]], G5⟩) (fun _ => True) (fun i => i) 0 ?_ ?_ ?_)
      ·exact D5
      ·trivial
      ·(rintro (i0 : Nat) _)
       refine I1 ?_
       refine sP (A3W rfl rfl (by omega)) rfl rfl ?_
       refine J4 ?_
       refine sP (E4 rfl rfl (by omega)) rfl rfl ?_
       refine sD (nS (cF rfl (tK (nS (tS ?_)))))
       refine C9 D1 rfl ?_
       refine L0 (i := 0) (l' := [tt,ff,ff,ff,ff,ff]) rfl C4 (A3 rfl rfl) rfl (by kernel_rfl) rfl rfl ?_
       refine aL 1 rfl (A3 rfl rfl) rfl ?_
       refine aP 2 rfl (qM rfl) rfl ?_
       refine A1 3 ?_
       refine A0T rfl rfl rfl rfl rfl rfl rfl rfl (by repeat first | exact Sw.here | apply Sw.there) (by rfl) (by repeat (first | exact A8.nil | apply A8.dep (by decide +kernel) | apply A8.blk (by decide +kernel) (by repeat (first | exact Pk.here | apply Pk.there)) (by repeat first | exact mH | apply mT))) ?_
       refine A1 4 ?_
       refine A0T rfl rfl rfl rfl rfl rfl rfl rfl (by repeat first | exact Sw.here | apply Sw.there) (by rfl) (by repeat (first | exact A8.nil | apply A8.dep (by decide +kernel) | apply A8.blk (by decide +kernel) (by repeat (first | exact Pk.here | apply Pk.there)) (by repeat first | exact mH | apply mT))) ?_
       refine aP 5 rfl (qA rfl) rfl ?_
       refine B8 (nS ?_)
       (refine H7 (cs := es'.flatten) (by repeat (first | exact Pk.here | apply Pk.there)) (fun G8 hle8 hsl8 hno8 => ?_); have hst8 := hst.mono hle8)
       refine tT ?_
       refine D2 (rC rfl (A3 rfl rfl)) (rC rfl (A3 rfl rfl)) (rT rfl) ?_
       (have hst8q := hst8; refine ⟨rfl, .mk k nm num (.mk tk tks) (.mk fk fks) lb us, _, mt, _, l, rfl, by rw [← hlu]; exact A7.of9 hk hnum hlb (hty1.mono hle8) (hfr1.mono hle8) (by rw [hlu]; exact C5.of hsl8 (by rw [hst8.len, hlu]) hst8.all (fun e he => by obtain ⟨q, hq⟩ := List.getElem?_of_mem he; exact (hst8.inv hq I3).2.one)) hst8, by rw [Tm.small]; exact ⟨hnm, htsm, hfsm, by omega, hus⟩, by rw [C7]; omega, hmr.mono hle8, hma, by omega, by omega, by omega⟩)
     ·(refine A4o (cs := es'.flatten) (by repeat (first | exact Pk.here | apply Pk.there)) h0 (fun bc C hpe hnc hcm => ?_); subst hpe; refine sQ (qA rfl) rfl ?_)
      refine sD (nS (tS (tS (tR (sQ (qA rfl) rfl (sD (nS ?_)))))))
      refine B9 ?_
      (refine K3 (fun (x : Nat × List Tm × List (List Value) × Int × IM) => ⟨[(18, .int .i64 x.1), (17, .slice pw ks.length cw), (12, .slice pm ks.length cm), (2, .int .i64 x.2.2.2.1), (4, .pointer (some ⟨b3, 0, none⟩)), (6, .pointer (some ⟨b4, 0, none⟩)), (7, .pointer (some ⟨b5, 0, none⟩)), (9, .pointer (some ⟨b17, 0, none⟩)), (11, .pointer (some ⟨b26, 0, none⟩))], [.blk b26 [.int .i64 k, .string nm, .int .i64 num, .int .i64 tk, .slice q1 tks.length c1, .int .i64 fk, .slice q2 fks.length c2, .int .i64 lb, .slice (some ⟨bc, 0, none⟩) ks.length cn], .blk bc (x.2.2.1.flatten ++ C), .blk b17 [.int .i64 mt.k, .slice p1 mt.ks.length d1], .blk b5 [.int .i64 0, .slice none 0 0], .blk b4 [.int .i64 0, .string ⟨⟨[]⟩⟩, .int .i64 0, .int .i64 0, .slice none 0 0, .int .i64 0, .slice none 0 0, .int .i64 0, .slice none 0 0], .blk b3 [.int .i64 k, .string nm, .int .i64 num, .int .i64 tk, .slice pt tks.length ct, .int .i64 fk, .slice pf fks.length cf, .int .i64 lb, .slice q ks.length cq]], x.2.2.2.2⟩) (fun x => x.1 ≤ ks.length ∧ B6 G5 x.2.2.2.2 ∧ x.2.1.length = ks.length ∧ C6 x.2.2.2.2 x.2.1 x.2.2.1 ∧ Tm.smallL x.2.1 ∧ E5 x.2.1 ≤ E5 us + x.1 ∧ label ≤ x.2.2.2.1 ∧ x.2.2.2.1 ≤ l + x.1) (fun x => ks.length - x.1) (0, us, es', l, G5) ?_ ?_ ?_)
      ·(simp only [I5]; exact D5)
      ·(exact ⟨by simp, B6.refl _, hlu, hst, hus, Nat.le_refl _, hl1, by dsimp only; omega⟩)
      ·(rintro ⟨i2, us2, es2, l2, G6⟩ ⟨hi2, hle6, hlu2, hst2, hus2, hcu2, hl21, hl22⟩; simp only [] at hi2 hle6 hlu2 hst2 hus2 hcu2 hl21 hl22 ⊢; replace hty1 := hty1.mono hle6; replace hfr1 := hfr1.mono hle6; replace hmr := hmr.mono hle6; replace hslT := hslT.mono hle6; replace hstt := hstt.mono hle6; replace hsw := hsw.mono hle6; replace hstw := hstw.mono hle6; have hle2s := hst2.len; have hall2 := hst2.all)
       refine I1 ?_
       refine sB (K1 rfl rfl) rfl rfl (fun h242 => ?_) (fun h242 => ?_)
       ·refine sD (nS (qT rfl (tK (nS (tS ?_)))))
        refine B9 ?_
        (have hi3 : i2 < ks.length := (by omega); obtain ⟨bt, ot, qt, dt, hpt, hatt, hrtt, hgt⟩ := hslT.kidTy hstt (i := i2) (by omega) (by omega); obtain ⟨bw, ow, qw, dw, hpw, hatw, hrtw, hgw⟩ := (show C5 G6 pw ws.length cw 2 esw from by rw [hlw]; exact hsw).kidTy hstw (i := i2) (by omega) (by omega); cases hpt; cases hpw; obtain ⟨hE1, hE2⟩ := hst2.at2 (i := i2) (by omega) (by omega); have hE3 := hE2.len; refine C9 D1 rfl ?_)
        refine H6 (i := 0) (l' := [tt,ff,ff,ff,ff,ff,ff,ff,ff,ff,ff,ff,ff,ff,ff,ff,ff,ff,ff,ff,ff,ff,ff,ff]) rfl C4 (A9 rfl) rfl (by kernel_rfl) rfl rfl ?_
        refine aL 1 rfl (B7 rfl rfl) rfl ?_
        refine aP 2 rfl (qM rfl) rfl ?_
        refine aP 3 rfl (A9 rfl) rfl ?_
        refine aL 4 rfl (B7 rfl rfl) rfl ?_
        refine aP 5 rfl (qM rfl) rfl ?_
        refine aP 6 rfl (B0 rfl rfl rfl (by omega)) rfl ?_
        refine aL 7 rfl (A2 rfl rfl (A8k (es := es2) (by repeat first | exact mH | apply mT) (by omega) hall2) hE3) rfl ?_
        refine aP 8 rfl (qM rfl) rfl ?_
        refine aP 9 rfl (qM rfl) rfl ?_
        refine aP 10 rfl (B0 rfl rfl rfl (by omega)) rfl ?_
        refine aL 11 rfl (A2 rfl rfl (hatt _) rfl) rfl ?_
        refine aP 12 rfl (qM rfl) rfl ?_
        refine aP 13 rfl (qM rfl) rfl ?_
        refine aP 14 rfl (B0 rfl rfl rfl (by omega)) rfl ?_
        refine aL 15 rfl (A2 rfl rfl (hatw _) rfl) rfl ?_
        refine aP 16 rfl (qM rfl) rfl ?_
        refine A1 17 ?_
        (refine E1 rfl rfl (A3u us2[i2] ts[i2] ws[i2] l2 _ _ _ _ (by omega) hE2 hrtt hrtw (hat _ (List.getElem_mem (by omega))) (haw _ (List.getElem_mem (by omega)))) rfl rfl rfl (fun v G7 hle7 hh => ?_); obtain ⟨u, uc, l3, rfl, hru, hu1, hu2, hl31, hl32⟩ := hh; have hlu9 := hru.len; have hou9 := hru.one)
        refine aP 18 rfl (qM rfl) rfl ?_
        refine aP 19 rfl (pX rfl rfl) rfl ?_
        refine aP 21 rfl (B0 rfl rfl rfl (by omega)) rfl ?_
        refine aP 20 rfl (pX rfl rfl) rfl ?_
        refine A1 22 ?_
        refine N4 rfl rfl rfl rfl hlu9 hou9 rfl rfl (by kernel_rfl) (by repeat first | exact Sw.here | apply Sw.there) (by exact A4p (by omega) hall2 hlu9) ?_
        refine aP 23 rfl (qA rfl) rfl ?_
        refine B8 (M8 (nS (tR (sQ (qM rfl) rfl ?_))))
        refine sP (J6 rfl rfl (by omega) (by omega)) rfl rfl ?_
        refine sQ (qA rfl) rfl (sD ?_)
        (have hset := A8g us2 i2 u (by omega); refine K0 (i2 + 1, us2.set i2 u, es2.set i2 uc, l3, G7) ?_ ?_ ?_)
        ·(simp only [I5]; exact D5)
        ·(dsimp only; exact ⟨by omega, hle6.trans hle7, by simp [hlu2], C6.set (hst2.mono hle7) hru, A8h hus2 (hu1 (Tm.smallL_mem hus2 _ (List.getElem_mem (by omega)))), by omega, by omega, by omega⟩)
        ·(show ks.length - (i2 + 1) < ks.length - i2; omega)
       ·refine J4 ?_
        refine sB (qE rfl rfl) rfl rfl (fun h302 => ?_) (fun h302 => ?_)
        ·refine sD (nS (qT rfl (tS ?_)))
         (have hq13 : k = 13 := (by assumption); have hl13 := hk13 hq13; obtain ⟨hE1, hE2⟩ := hst2.at2 (i := 0) (by omega) (by omega); have hE3 := hE2.len; have hE4 := hE2.one; have hEc := B2j (ts := us2) (i := 0) (by omega); refine C9 D1 rfl ?_)
         refine H6 (i := 0) (l' := [tt,ff,ff,ff,ff,ff,ff,ff,ff]) rfl C4 (A9 rfl) rfl (by kernel_rfl) rfl rfl ?_
         refine aL 1 rfl (B7 rfl rfl) rfl ?_
         refine aP 2 rfl (B0 rfl rfl rfl (by omega)) rfl ?_
         refine aL 3 rfl (A2 rfl rfl (A8k (es := es2) (by repeat first | exact mH | apply mT) (by omega) hall2) hE3) rfl ?_
         refine aL 4 rfl (A3 rfl rfl) rfl ?_
         refine aP 5 rfl (qM rfl) rfl ?_
         refine A1 6 ?_
         refine A0T rfl rfl rfl rfl hE3 hE4 rfl rfl (by repeat first | exact Sw.here | apply Sw.there) (by exact C2 hE3.symm) (by repeat (first | exact A8.nil | apply A8.dep (by decide +kernel) | apply A8.blk (by decide +kernel) (by repeat (first | exact Pk.here | apply Pk.there)) (by repeat first | exact mH | apply mT))) ?_
         refine A1 7 ?_
         refine A0T rfl rfl rfl rfl rfl rfl rfl rfl (by repeat first | exact Sw.here | apply Sw.there) (by rfl) (by repeat (first | exact A8.nil | apply A8.dep (by decide +kernel) | apply A8.blk (by decide +kernel) (by repeat (first | exact Pk.here | apply Pk.there)) (by repeat first | exact mH | apply mT))) ?_
         refine aP 8 rfl (qA rfl) rfl ?_
         refine B8 (nS ?_)
         (refine A2C (bs := [(bc, es2.flatten ++ C)]) (Pk.perm (by repeat (first | exact Pk.here | apply Pk.there))) (fun hn9 hd9 hle9 => ?_))
         refine tT (rS ?_)
         refine D2 (rC rfl (A2 rfl rfl (A6 (by repeat first | exact mH | apply mT)) hE3)) (rC rfl (A3 rfl rfl)) (rT rfl) ?_
         (exact ⟨rfl, us2[0], _, mt, _, l2, rfl, hE2.mono hle9, Tm.smallL_mem hus2 _ (List.getElem_mem _), by omega, hmr.mono hle9, hma, by omega, by omega, by omega⟩)
        ·refine sD (nS (cF rfl (tK (nS (tS ?_)))))
         refine C9 D1 rfl ?_
         refine L0 (i := 0) (l' := [tt,ff,ff,ff,ff,ff]) rfl C4 (A3 rfl rfl) rfl (by kernel_rfl) rfl rfl ?_
         refine aL 1 rfl (A3 rfl rfl) rfl ?_
         refine aP 2 rfl (qM rfl) rfl ?_
         refine A1 3 ?_
         refine A0T rfl rfl rfl rfl rfl rfl rfl rfl (by repeat first | exact Sw.here | apply Sw.there) (by rfl) (by repeat (first | exact A8.nil | apply A8.dep (by decide +kernel) | apply A8.blk (by decide +kernel) (by repeat (first | exact Pk.here | apply Pk.there)) (by repeat first | exact mH | apply mT))) ?_
         refine A1 4 ?_
         refine A0T rfl rfl rfl rfl rfl rfl rfl rfl (by repeat first | exact Sw.here | apply Sw.there) (by rfl) (by repeat (first | exact A8.nil | apply A8.dep (by decide +kernel) | apply A8.blk (by decide +kernel) (by repeat (first | exact Pk.here | apply Pk.there)) (by repeat first | exact mH | apply mT))) ?_
         refine aP 5 rfl (qA rfl) rfl ?_
         refine B8 (nS ?_)
         (refine A2C (bs := [(bc, es2.flatten ++ C)]) (Pk.perm (by repeat (first | exact Pk.here | apply Pk.there))) (fun hn9 hd9 hle9 => ?_))
         refine tT ?_
         refine D2 (rC rfl (A3 rfl rfl)) (rC rfl (A3 rfl rfl)) (rT rfl) ?_
         (have hst9 := hst2.mono hle9; refine ⟨rfl, .mk k nm num (.mk tk tks) (.mk fk fks) lb us2, _, mt, _, l2, rfl, by rw [← hlu2]; exact A7.of9 hk hnum hlb (hty1.mono hle9) (hfr1.mono hle9) (C5.of (Sl.of_blk (A := []) (by rw [A0U hst9.all, hst9.len]) (by omega) hcm (Wi.in hn9 List.mem_cons_self)) hst9.len hst9.all (fun e he => by obtain ⟨q, hq⟩ := List.getElem?_of_mem he; exact (hst9.inv hq I3).2.one)) hst9, by rw [Tm.small]; exact ⟨hnm, htsm, hfsm, by omega, hus2⟩, by rw [C7]; omega, hmr.mono hle9, hma, by omega, by omega, by omega⟩)
def U2 (t : Ty) : Ty := if t.k = 4 ∨ t.k = 5 then .mk t.k [L9, L9] else .mk t.k []
def T8 (t : Ty) : Bool := decide (t.k ≠ 1) && K9 t (U2 t)
def Q7 (t : Tm) : Bool := decide (t.k = 14 ∧ t.fr.k = t.ty.k ∧ (t.ty.k = 4 ∨ t.ty.k = 5))
def inj (t : Tm) : Bool := decide (t.k = 14 ∧ t.ty.k = 1) && T8 t.fr
mutual
def E7 : Tm → Bool
 | .mk k nm num ty fr lb ks => if k = 10 ∨ (k = 14 ∧ fr.k = ty.k ∧ (ty.k = 4 ∨ ty.k = 5)) ∨ (k = 14 ∧ ty.k = 1 ∧ T8 fr = true) then A0e ks else decide (k = 2 ∨ k = 3 ∨ k = 4 ∨ k = 5)
def A0e : List Tm → Bool
 | [] => true
 | t :: ts => E7 t && A0e ts
end
mutual
def Q8 (x : ByteArray) (v : Tm) : Tm → Tm
 | .mk k nm num ty fr lb ks => if k = 1 ∧ nm = x then v else if k = 5 ∧ nm = x then .mk k nm num ty fr lb ks else .mk k nm num ty fr lb (P3 x v ks)
def P3 (x : ByteArray) (v : Tm) : List Tm → List Tm
 | [] => []
 | t :: ts => Q8 x v t :: P3 x v ts
end
theorem A4q (x : ByteArray) (v : Tm) : ∀ ks, P3 x v ks = ks.map (Q8 x v)
 | [] => rfl
 | t :: ts => by rw [P3, A4q x v ts, List.map_cons]
def K8 (e : Tm) (fr to : Ty) (lb : Int) : Tm := .mk 14 ⟨#[]⟩ 0 to fr lb [e]
def V4 (k : Int) (ks : List Tm) : Tm := .mk k ⟨#[]⟩ 0 B1 B1 0 ks
def A2k (n : Int) : Tm := .mk 2 ⟨#[]⟩ n B1 B1 0 []
def X6 (b : Prop) [Decidable b] : Tm := V4 (if b then 3 else 4) []
abbrev Stp := Tm × Int × Int
def Q9 : Stp := (I3, 3, 0)
def kd (ks : List Tm) (i : Nat) : Tm := ks.getD i I3
def kt (ks : List Ty) (i : Nat) : Ty := ks.getD i B1
def N0 (k : Int) (ty fr : Ty) (lb : Int) (ks : List Tm) : Stp :=
 if k = 6 then
  (if (kd ks 0).k = 5 then (Q8 (kd ks 0).nm (kd ks 1) (kd (kd ks 0).ks 0), 1, 0)
   else if Q7 (kd ks 0) = true ∧ (kd ks 0).ty.k = 4 then (K8 (V4 6 [kd (kd ks 0).ks 0, K8 (kd ks 1) (kt (kd ks 0).ty.ks 0) (kt (kd ks 0).fr.ks 0) (-(kd ks 0).lb)]) (kt (kd ks 0).fr.ks 1) (kt (kd ks 0).ty.ks 1) (kd ks 0).lb, 1, 0)
   else Q9)
 else if k = 7 ∨ k = 8 then
  (if (kd ks 0).k = 2 ∧ (kd ks 1).k = 2 then (if k = 7 then A2k (((kd ks 0).num + (kd ks 1).num) % 1000) else X6 ((kd ks 0).num < (kd ks 1).num), 1, 0) else Q9)
 else if k = 9 then (if (kd ks 0).k = 3 then (kd ks 1, 1, 0) else if (kd ks 0).k = 4 then (kd ks 2, 1, 0) else Q9)
 else if k = 11 ∨ k = 12 then
  (if (kd ks 0).k = 10 then (kd (kd ks 0).ks (k - 11).toNat, 1, 0)
   else if Q7 (kd ks 0) = true ∧ (kd ks 0).ty.k = 5 then (K8 (V4 k [kd (kd ks 0).ks 0]) (kt (kd ks 0).fr.ks (k - 11).toNat) (kt (kd ks 0).ty.ks (k - 11).toNat) (kd ks 0).lb, 1, 0)
   else Q9)
 else if k = 14 then
  (if fr.k = ty.k then (kd ks 0, 1, 0)
   else if ty.k = 1 then (K8 (K8 (kd ks 0) fr (U2 fr) lb) (U2 fr) ty lb, 1, 0)
   else if T8 ty = false then (K8 (K8 (kd ks 0) fr (U2 ty) lb) (U2 ty) ty lb, 1, 0)
   else if inj (kd ks 0) = false then Q9
   else if (kd ks 0).fr.k = ty.k then (kd (kd ks 0).ks 0, 1, 0)
   else (I3, 2, lb))
 else Q9
mutual
def H0 : Tm → Stp
 | .mk k nm num ty fr lb ks => match Q6 (if k = 9 then 1 else ks.length) ks with
  | some (ks', c, l) => if c = 1 then (.mk k nm num ty fr lb ks', 1, 0) else (I3, c, l)
  | none => N0 k ty fr lb ks
def Q6 : Nat → List Tm → Option (List Tm × Int × Int)
 | _, [] => none
 | n, t :: ts => match n with
  | 0 => none
  | n + 1 => if E7 t = true then (match Q6 n ts with
    | some (us, c, l) => some (t :: us, c, l)
    | none => none)
   else some ((H0 t).1 :: ts, (H0 t).2.1, (H0 t).2.2)
end
def H5 (e : Tm) : Stp :=
 if I2 e = false then Q9 else if E7 e = true then (e, 0, 0)
 else if (H0 e).2.1 ≠ 1 then (I3, (H0 e).2.1, (H0 e).2.2)
 else if I2 (H0 e).1 = false then (I3, 4, 0) else ((H0 e).1, 1, 0)
def H3 : Nat → Tm → Tm × Int × Int × Nat
 | 0, e => if (H5 e).2.1 = 1 then (I3, 5, 0, 0) else ((H5 e).1, (H5 e).2.1, (H5 e).2.2, 0)
 | n + 1, e => if (H5 e).2.1 = 1 then ((H3 n (H5 e).1).1, (H3 n (H5 e).1).2.1, (H3 n (H5 e).1).2.2.1, (H3 n (H5 e).1).2.2.2 + 1)
  else ((H5 e).1, (H5 e).2.1, (H5 e).2.2, 0)
def K2 (e : Tm) (fuel : Int) : Stp := if 0 ≤ fuel ∧ fuel ≤ 300 then ((H3 fuel.toNat e).1, (H3 fuel.toNat e).2.1, (H3 fuel.toNat e).2.2.1) else Q9
def A02 (e : Tm) (fuel : Int) : Int := if 0 ≤ fuel ∧ fuel ≤ 300 then ((H3 fuel.toNat e).2.2.2 : Int) else 0
structure CvN (k : Int) (nm : ByteArray) (num : Int) (ty fr : Ty) (lb : Int) (ks : List Tm) : Prop where
 ops : E0 k = ks.length
 ne : k ≠ 13
 nm1 : nm.size ≤ 1
 num0 : 0 ≤ num ∧ num ≤ 999
 tyA : D4 ty
 frA : D4 fr
 lbB : -99 ≤ lb ∧ lb ≤ 99
 c14 : k = 14 → O9 fr ty = true ∧ M1 ty = true ∧ M1 fr = true
 ty5 : ¬(k = 5 ∨ k = 14) → ty = B1
 fr14 : k ≠ 14 → fr = B1 ∧ lb = 0
def cv (t : Tm) : Prop := ∃ d, P2 40 13 t d = true
theorem A1B {n lo hi : Int} : Q3 n lo hi = true ↔ lo ≤ n ∧ n ≤ hi := by unfold Q3; rw [decide_eq_true_eq]
theorem cv.node {k : Int} {nm : ByteArray} {num : Int} {ty fr : Ty} {lb : Int} {ks : List Tm} (h : cv (.mk k nm num ty fr lb ks)) : CvN k nm num ty fr lb ks ∧ ∀ t ∈ ks, cv t := by
 obtain ⟨d, h⟩ := h
 obtain ⟨_, h2, h3, h4⟩ := A00 h
 obtain ⟨n1, n2, n3, n4, n5, n6, n7, n8, n9⟩ := V7.1 h3
 refine ⟨⟨n1, h2, A5C h3, ?_, (A2L h3).1, ?_, ?_, ?_, ?_, ?_⟩, fun t ht => ?_⟩
 ·by_cases hk : k = 2
  ·exact A1B.1 (n4 hk)
  ·have := A1B.1 (n5 hk); omega
 ·by_cases hk : k = 14
  ·have := (n8 hk).1
   simp only [A0D, Bool.and_eq_true] at this
   exact (A4n this.1.1).1
  ·rw [A2g (n9 hk).1]; exact M4 (by decide) (by decide)
 ·by_cases hk : k = 14
  ·have := (n8 hk).2
   simp only [Y3, Bool.or_eq_true, A1B] at this
   omega
  ·have := (n9 hk).2; omega
 ·intro hk
  have := (n8 hk).1
  simp only [A0D, Bool.and_eq_true] at this
  exact ⟨this.2, this.1.2, this.1.1⟩
 ·intro hk
  exact A2g (n7 (by omega))
 ·intro hk
  exact ⟨A2g (n9 hk).1, (n9 hk).2⟩
 ·obtain ⟨i, hi, rfl⟩ := List.mem_iff_getElem.1 ht
  exact ⟨_, (A0Y 40 13 ks _).1 h4 i hi⟩
theorem A0m {t : Tm} (h : I2 t = true) : cv t ∧ C7 t ≤ 200 := by
 obtain ⟨h1, h2⟩ := (A0Z t).1 h
 exact ⟨⟨1, h1⟩, h2⟩
mutual
theorem A2l : ∀ (t : Tm), cv t → t.small
 | .mk k nm num ty fr lb ks, h => by
  obtain ⟨hn, hk⟩ := h.node
  rw [Tm.small]
  refine ⟨by have := hn.nm1; omega, hn.tyA.small, hn.frA.small, ?_, A8m ks hk⟩
  have := A1e k
  have := hn.ops
  omega
theorem A8m : ∀ (ts : List Tm), (∀ t ∈ ts, cv t) → Tm.smallL ts
 | [], _ => by rw [Tm.smallL]; trivial
 | t :: ts, h => by
  rw [Tm.smallL]
  exact ⟨A2l t (h t List.mem_cons_self), A8m ts fun u hu => h u (List.mem_cons_of_mem _ hu)⟩
end
theorem A1g (k : Int) (nm : ByteArray) (num : Int) (ty fr : Ty) (lb : Int) (ks : List Tm) : C7 (.mk k nm num ty fr lb ks) = E5 ks + 1 := by rw [C7]
theorem A0z {k : Int} {nm : ByteArray} {num : Int} {ty fr : Ty} {lb : Int} {ks : List Tm} : (Tm.mk k nm num ty fr lb ks).small ↔ nm.size ≤ 4294967296 ∧ ty.small ∧ fr.small ∧ ks.length ≤ 4294967296 ∧ Tm.smallL ks := by rw [Tm.small]
theorem A4r : I3.small := by simp [I3, Tm.small, Ty.small, Ty.smallL, Tm.smallL, ByteArray.size]
theorem A3v : B1.small := by simp [B1, Ty.small, Ty.smallL]
mutual
theorem A8n {x : ByteArray} {v : Tm} (hv : v.small) : ∀ (t : Tm), t.small → (Q8 x v t).small ∧ C7 (Q8 x v t) ≤ C7 t * C7 v
 | .mk k nm num ty fr lb ks, h => by
  obtain ⟨h1, h2, h3, h4, h5⟩ := A0z.1 h
  obtain ⟨s1, s2⟩ := A8o hv ks h5
  have hp : 1 ≤ C7 v := by cases v; rw [C7]; omega
  rw [Q8]
  split
  ·refine ⟨hv, ?_⟩
   rw [A1g]
   exact Nat.le_mul_of_pos_left _ (by omega)
  ·split
   ·exact ⟨h, Nat.le_mul_of_pos_right _ hp⟩
   ·refine ⟨A0z.2 ⟨h1, h2, h3, by rw [A4q, List.length_map]; exact h4, s1⟩, ?_⟩
    rw [A1g, A1g, Nat.add_mul]
    omega
theorem A8o {x : ByteArray} {v : Tm} (hv : v.small) : ∀ (ts : List Tm), Tm.smallL ts → Tm.smallL (P3 x v ts) ∧ E5 (P3 x v ts) ≤ E5 ts * C7 v
 | [], _ => by simp [P3, Tm.smallL, E5]
 | t :: ts, h => by
  simp only [Tm.smallL] at h
  obtain ⟨a1, a2⟩ := A8n hv t h.1
  obtain ⟨b1, b2⟩ := A8o hv ts h.2
  simp only [P3, Tm.smallL, E5, Nat.add_mul]
  exact ⟨⟨a1, b1⟩, by omega⟩
end
theorem A1O {ks : List Tm} (h : Tm.smallL ks) (i : Nat) : (kd ks i).small := by
 unfold kd
 rw [List.getD_eq_getElem?_getD]
 cases hi : ks[i]? with
 | none => exact A4r
 | some t => exact Tm.smallL_mem h t (List.mem_of_getElem? hi)
theorem A4s {ks : List Tm} (i : Nat) : C7 (kd ks i) ≤ E5 ks + 1 := by
 unfold kd
 rw [List.getD_eq_getElem?_getD]
 cases hi : ks[i]? with
 | none => simp [I3, C7, E5]
 | some t =>
  have := A7c (List.mem_of_getElem? hi)
  simp only [Option.getD_some]; omega
theorem B2l {t : Tm} (h : t.small) : t.nm.size ≤ 4294967296 ∧ t.ty.small ∧ t.fr.small ∧ t.ks.length ≤ 4294967296 ∧ Tm.smallL t.ks := by
 cases t; exact A0z.1 h
theorem A8p {ks : List Ty} (h : Ty.smallL ks) (i : Nat) : (kt ks i).small := by
 unfold kt
 rw [List.getD_eq_getElem?_getD]
 cases hi : ks[i]? with
 | none => exact A3v
 | some t => exact Ty.smallL_mem h t (List.mem_of_getElem? hi)
theorem A8q {t : Ty} (h : t.small) : Ty.smallL t.ks := by cases t; simp only [Ty.small] at h; exact h.2
theorem A2M (t : Ty) : (U2 t).small := by
 unfold U2; split <;> simp [L9, Ty.small, Ty.smallL]
theorem A1P {e : Tm} {a b : Ty} {l : Int} (h : e.small) (ha : a.small) (hb : b.small) : (K8 e a b l).small := A0z.2 ⟨by decide, hb, ha, by simp, by simp [Tm.smallL, h]⟩
theorem A1Q (e : Tm) (a b : Ty) (l : Int) : C7 (K8 e a b l) = C7 e + 1 := by rw [K8, A1g, E5, E5]
theorem A5G {k : Int} {ks : List Tm} (h : Tm.smallL ks) (hl : ks.length ≤ 4294967296) : (V4 k ks).small := A0z.2 ⟨by decide, A3v, A3v, hl, h⟩
theorem A5H (k : Int) (ks : List Tm) : C7 (V4 k ks) = E5 ks + 1 := by rw [V4, A1g]
theorem B2m {a : Tm} (h : a.small) : Tm.smallL [a] := by simp [Tm.smallL, h]
theorem B2n {a b : Tm} (h : a.small) (h2 : b.small) : Tm.smallL [a, b] := by simp [Tm.smallL, h, h2]
theorem B2o : C7 I3 = 1 := by simp [I3, C7, E5]
theorem B2p (t : Tm) : C7 t = E5 t.ks + 1 := by cases t; rw [A1g]; rfl
theorem B2q {k : Int} {ty fr : Ty} {lb : Int} {ks : List Tm} (hk : Tm.smallL ks) (hc : E5 ks ≤ 199) (ht : ty.small) (hf : fr.small) : (N0 k ty fr lb ks).1.small ∧ C7 (N0 k ty fr lb ks).1 ≤ 40100 := by
 have a0 := A1O hk 0
 have a1 := A1O hk 1
 have a2 := A1O hk 2
 have n0 := A4s (ks := ks) 0
 have n1 := A4s (ks := ks) 1
 have n2 := A4s (ks := ks) 2
 obtain ⟨_, b2, b3, _, b5⟩ := B2l a0
 have e0 := B2p (kd ks 0)
 have m := fun i => A4s (ks := (kd ks 0).ks) i
 have st : Q9.1.small ∧ C7 Q9.1 ≤ 40100 := ⟨A4r, by simp [Q9, I3, C7, E5]⟩
 have hty := fun i => A8p (A8q b2) i
 have hfr := fun i => A8p (A8q b3) i
 unfold N0
 split
 ·split
  ·obtain ⟨s1, s2⟩ := A8n (x := (kd ks 0).nm) a1 (kd (kd ks 0).ks 0) (A1O b5 0)
   refine ⟨s1, Nat.le_trans s2 ?_⟩
   have : C7 (kd (kd ks 0).ks 0) * C7 (kd ks 1) ≤ 200 * 200 := Nat.mul_le_mul (by have := m 0; omega) (by omega)
   omega
  ·split
   ·refine ⟨A1P (A5G (B2n (A1O b5 0) (A1P a1 (hty 0) (hfr 0))) (by simp)) (hfr 1) (hty 1), ?_⟩
    have := m 0
    show C7 (K8 _ _ _ _) ≤ 40100
    rw [A1Q, A5H, E5, E5, E5, A1Q]
    omega
   ·exact st
 ·split
  ·split
   ·split
    ·exact ⟨A0z.2 ⟨by decide, A3v, A3v, by simp, by simp [Tm.smallL]⟩, by simp [A2k, C7, E5]⟩
    ·exact ⟨A5G (by simp [Tm.smallL]) (by simp), by simp [X6, A5H, E5]⟩
   ·exact st
  ·split
   ·split
    ·exact ⟨a1, by show C7 (kd ks 1) ≤ _; omega⟩
    ·split
     ·exact ⟨a2, by show C7 (kd ks 2) ≤ _; omega⟩
     ·exact st
   ·split
    ·split
     ·exact ⟨A1O b5 _, by have := m (k - 11).toNat; show C7 (kd _ _) ≤ _; omega⟩
     ·split
      ·refine ⟨A1P (A5G (B2m (A1O b5 0)) (by simp)) (hfr _) (hty _), ?_⟩
       have := m 0
       show C7 (K8 _ _ _ _) ≤ 40100
       rw [A1Q, A5H, E5, E5]
       omega
      ·exact st
    ·split
     ·split
      ·exact ⟨a0, by show C7 (kd ks 0) ≤ _; omega⟩
      ·split
       ·refine ⟨A1P (A1P a0 hf (A2M fr)) (A2M fr) ht, ?_⟩
        show C7 (K8 _ _ _ _) ≤ 40100
        rw [A1Q, A1Q]; omega
       ·split
        ·refine ⟨A1P (A1P a0 hf (A2M ty)) (A2M ty) ht, ?_⟩
         show C7 (K8 _ _ _ _) ≤ 40100
         rw [A1Q, A1Q]; omega
        ·split
         ·exact st
         ·split
          ·exact ⟨A1O b5 0, by have := m 0; show C7 (kd _ _) ≤ _; omega⟩
          ·exact ⟨A4r, by simp [I3, C7, E5]⟩
     ·exact st
theorem B2r (ks : List Tm) (ih : ∀ t ∈ ks, t.small → C7 t ≤ 200 → (H0 t).1.small ∧ C7 (H0 t).1 ≤ C7 t + 40100) : ∀ (n : Nat), Tm.smallL ks → E5 ks ≤ 199 → ∀ us c l, Q6 n ks = some (us, c, l) → Tm.smallL us ∧ us.length = ks.length ∧ E5 us ≤ E5 ks + 40100 := by
 induction ks with
 | nil => intro n _ _ us c l h; simp [Q6] at h
 | cons t ts ihl =>
  intro n hs hc us c l h
  simp only [Tm.smallL] at hs
  simp only [E5] at hc ⊢
  cases n with
  | zero => simp [Q6] at h
  | succ n =>
   rw [Q6] at h
   split at h
   ·split at h
    ·rename_i us' c' l' hs'
     cases h
     obtain ⟨l1, l2, l3⟩ := ihl (fun u hu => ih u (List.mem_cons_of_mem _ hu)) n hs.2 (by omega) us' c l hs'
     exact ⟨by simp only [Tm.smallL]; exact ⟨hs.1, l1⟩, by simp [l2], by simp only [E5]; omega⟩
    ·cases h
   ·cases h
    obtain ⟨s1, s2⟩ := ih t List.mem_cons_self hs.1 (by omega)
    exact ⟨by simp only [Tm.smallL]; exact ⟨s1, hs.2⟩, by simp, by simp only [E5]; omega⟩
theorem B2s : ∀ (t : Tm), t.small → C7 t ≤ 200 → (H0 t).1.small ∧ C7 (H0 t).1 ≤ C7 t + 40100 := by
 refine Tm.ind fun k nm num ty fr lb ks ih h hc => ?_
 obtain ⟨h1, h2, h3, h4, h5⟩ := A0z.1 h
 rw [A1g] at hc
 have hL := B2r ks ih (if k = 9 then 1 else ks.length) h5 (by omega)
 rw [H0]
 split
 ·rename_i us c l hs
  obtain ⟨l1, l2, l3⟩ := hL us c l hs
  split
  ·refine ⟨A0z.2 ⟨h1, h2, h3, by omega, l1⟩, ?_⟩
   show C7 (.mk k nm num ty fr lb us) ≤ _
   rw [A1g, A1g]; omega
  ·exact ⟨A4r, by show C7 I3 ≤ _; rw [B2o]; omega⟩
 ·have := B2q (k := k) (lb := lb) h5 (by omega) h2 h3
  rw [A1g]
  exact ⟨this.1, by omega⟩
variable {P : Program} {G : IM}
theorem Fn.forget {f : FuncId} {args : List Value} {v0 : Value} {post : IM → Value → List A4 → Prop} (h : Fn P f args [] G post) (hv : ∀ G' v outs, post G' v outs → v = v0) : Fn P f args [] G (I0 v0 G) := by
 refine ⟨fun w hw => (h.run w hw).mono ?_⟩
 rintro e w' ⟨u, G', outs, rfl, hres, hp⟩
 refine ⟨u, G, [], rfl, ⟨⟨fun b l hb => hres.own.inn b l (hres.le b l hb), by simp, by simp [Fp], by simp [Fp]⟩, hres.ext, B6.refl _, fun _ _ h => .inl h, by simp [Fp], fun b l h h0 => absurd h (by rw [h0]; simp)⟩, rfl, hv _ _ _ hp, rfl⟩
def A5I (u : Ty) (G : IM) : IM → Value → List A4 → Prop := K4 fun G' v => ∃ cells, v = .agg ⟨cells⟩ ∧ B3 G' u cells
def V1 (r : Option Ty) (G : IM) : IM → Value → List A4 → Prop := K4 fun G' v => ∃ cells u, v = .tuple ⟨[.agg ⟨cells⟩, .bool r.isSome]⟩ ∧ B3 G' u cells ∧ ∀ t, r = some t → u = t
theorem B2t {G : IM} {k : Int} {a b : Ty} {ca cb : List Value} {p : Option Addr} {c : Nat} (hk : F4 k) (ha : B3 G a ca) (hb : B3 G b cb) (hs : Sl G p 2 c 2 (ca ++ cb)) : B3 G (.mk k [a, b]) [.int .i64 k, .slice p 2 c] := by
 have hL : E3 G [a, b] [ca, cb] := by simp only [E3]; exact ⟨ca, [cb], rfl, ha, cb, [], rfl, hb, rfl⟩
 exact E3.ty (ts := [a, b]) (es := [ca, cb]) hL rfl (by simpa using hs) hk
theorem A4t : ∀ (t t' : Ty) (G : IM) (cells cells' : List Value), B3 G t cells → B3 G t' cells' → Fn Tryz.prog 30 [.agg ⟨cells⟩, .agg ⟨cells'⟩] [] G (I0 (.bool (K9 t t')) G) := by
 refine Ty.ind fun k ks ih t' G cells cells' hr hr' => ?_
 obtain ⟨k', ks'⟩ := t'
 obtain ⟨p, c, es, rfl, hk, hsl, hkl⟩ := hr.open
 obtain ⟨p', c', es', rfl, hk', hsl', hkl'⟩ := hr'.open
 simp only [Ty.k, Ty.ks] at hk hsl hkl hk' hsl' hkl' ⊢
 obtain ⟨A, hA⟩ : ∃ A, Z3 ks ks' = A := ⟨_, rfl⟩
 have hA' : A = true ↔ ks.length = ks'.length ∧ ∀ i, i < ks.length → K9 (ks.getD i B1) (ks'.getD i B1) = true := by
  rw [← hA, A3p]
  constructor
  ·rintro ⟨h1, h2⟩
   refine ⟨h1, fun i hi => ?_⟩
   have := h2 i hi (by omega)
   simpa [List.getD_eq_getElem?_getD, List.getElem?_eq_getElem hi, List.getElem?_eq_getElem (show i < ks'.length by omega)] using this
  ·rintro ⟨h1, h2⟩
   refine ⟨h1, fun i hi hi' => ?_⟩
   have := h2 i hi
   simpa [List.getD_eq_getElem?_getD, List.getElem?_eq_getElem hi, List.getElem?_eq_getElem hi'] using this
 refine B5 Tryz.func30 rfl Tryz.ntmps30 Tryz.results30 rfl ?_
 intro w0
 refine tS (tR ?_)
 refine sE (C0 rfl rfl) rfl (fun b3 => ?_)
 refine sE (C0 rfl rfl) rfl (fun b4 => ?_)
 refine D7 ?_
 refine sB (qE rfl rfl) rfl rfl (fun h14 => ?_) (fun h14 => ?_)
 refine P6 ?_
 refine E8 rfl (A5o _ _ _ _ _ _ _ _ _ hsl hsl' _ [] [] [] (fun i => K9 (ks.getD i B1) (ks'.getD i B1)) A hA' (fun i e e' he he' => ih _ (hkl.inv he B1).1 _ _ _ _ (hkl.inv he B1).2 (hkl'.inv he' B1).2)) rfl rfl ?_
 refine I1 ?_
 exact ⟨rfl, by rw [A2f, hA]; first | (rw [decide_eq_true (p := k = k') (by omega)]; rfl) | (rw [decide_eq_false (p := k = k') (by omega)]; rfl), rfl⟩
 refine M9 ?_
 exact ⟨rfl, by rw [A2f, hA]; first | (rw [decide_eq_true (p := k = k') (by omega)]; rfl) | (rw [decide_eq_false (p := k = k') (by omega)]; rfl), rfl⟩
theorem A1R (k : Int) (a b : Ty) (G : IM) (ca cb : List Value) (hk : F4 k) (hra : B3 G a ca) (hrb : B3 G b cb) :
  Fn Tryz.prog 160 [.int .i64 k, .agg ⟨ca⟩, .agg ⟨cb⟩] [] G (A5I (.mk k [a, b]) G) := by
 obtain ⟨pa, cca, ea, rfl, _⟩ := hra.open
 obtain ⟨pb, ccb, eb, rfl, _⟩ := hrb.open
 refine B5 Tryz.func160 rfl Tryz.ntmps160 Tryz.results160 rfl ?_
 intro w0
 refine tS (tR ?_)
 refine sE (C0 rfl rfl) rfl (fun b3 => ?_)
 refine sE (C0 rfl rfl) rfl (fun b4 => ?_)
 refine sE (A5 rfl) rfl (fun b5 => ?_)
 refine D0 ?_
 (refine J5 (C8 rfl rfl rfl (by omega) (by unfold maxLen; omega) rfl) rfl ?_; rintro _ ⟨b13, rfl⟩)
 refine sQ (Q1 rfl rfl) rfl (F8 ?_)
 refine sD (nS ?_)
 (refine H7 (by repeat (first | exact Pk.here | apply Pk.there)) (fun G5 hle5 hsl5 hno5 => ?_))
 refine tT ?_
 refine E2 (rC rfl (A3 rfl rfl)) ?_
 exact ⟨rfl, _, rfl, B2t hk (hra.mono hle5) (hrb.mono hle5) hsl5⟩
theorem A3w (k tk : Int) (ks : List Ty) : Z4 k (.mk tk ks) = if tk = k then some (ks.getD 0 B1, ks.getD 1 B1) else if tk = 1 then some (L9, L9) else none := rfl
def B2u (k : Int) (t : Ty) (G : IM) : IM → Value → List A4 → Prop := K4 fun G' v => ∃ a ca b cb, v = .tuple ⟨[.agg ⟨ca⟩, .agg ⟨cb⟩, .bool (Z4 k t).isSome]⟩ ∧ B3 G' a ca ∧ B3 G' b cb ∧ D4 a ∧ D4 b ∧ ∀ p, Z4 k t = some p → p = (a, b)
theorem A8r (k : Int) (t : Ty) (G : IM) (cells : List Value) (hk : k = 4 ∨ k = 5) (ha : D4 t) (hr : B3 G t cells) :
  Fn Tryz.prog 161 [.agg ⟨cells⟩, .int .i64 k] [] G (B2u k t G) := by
 obtain ⟨tk, ks⟩ := t
 have ha2 := ha
 rw [D4] at ha2
 have hkid := ha.kid
 obtain ⟨p, c, es, rfl, htk, hsl, hkl⟩ := hr.open
 simp only [Ty.k, Ty.ks] at htk hsl hkl ⊢
 refine B5 Tryz.func161 rfl Tryz.ntmps161 Tryz.results161 rfl ?_
 intro w0
 refine tS (tR ?_)
 refine sE (C0 rfl rfl) rfl (fun b3 => ?_)
 refine sE (A5 rfl) rfl (fun b4 => ?_)
 refine sE (A5 rfl) rfl (fun b5 => ?_)
 refine H8 ?_
 refine B9 (tS (tR (sQ (qM rfl) rfl (sB (qE rfl rfl) rfl rfl (fun h20 => ?_) (fun h20 => ?_)))))
 refine sQ (qA rfl) rfl (sD (nS (qT rfl (tS ?_))))
 (have hlen : ks.length = 2 := ha2.1 (by omega); obtain ⟨b, o, q0, d0, hp0, hat0, hre0, hg0⟩ := hsl.kidTy hkl (i := 0) (by omega) (by omega); obtain ⟨b', o', q1, d1, hp1, hat1, hre1, hg1⟩ := hsl.kidTy hkl (i := 1) (by omega) (by omega); subst hp0; cases hp1; refine C9 D1 rfl ?_)
 refine H6 (i := 0) (l' := [tt,ff,ff,ff,ff,ff,ff,ff,ff,ff,ff]) rfl C4 (A9 rfl) rfl (by kernel_rfl) rfl rfl ?_
 refine aL 1 rfl (B7 rfl rfl) rfl ?_
 refine aP 2 rfl (B0 (j := 0) rfl rfl rfl (by omega)) rfl ?_
 refine aL 3 rfl (A2 rfl rfl (hat0 _) rfl) rfl ?_
 refine aP 4 rfl (A9 rfl) rfl ?_
 refine aL 5 rfl (B7 rfl rfl) rfl ?_
 refine aP 6 rfl (B0 (j := 1) rfl rfl rfl (by omega)) rfl ?_
 refine aL 7 rfl (A2 rfl rfl (hat1 _) rfl) rfl ?_
 refine A1 8 ?_
 refine F0 rfl ?_
 refine A1 9 ?_
 refine F0 rfl ?_
 refine aP 10 rfl (qA rfl) rfl ?_
 refine B8 (nS (tT (rB (rS ?_))))
 refine D2 (rC rfl (A3 rfl rfl)) (rC rfl (A3 rfl rfl)) (rT rfl) ?_
 (refine ⟨rfl, _, _, _, _, ?_, hre0, hre1, hkid _ (List.getElem_mem (by omega)), hkid _ (List.getElem_mem (by omega)), ?_⟩ <;> rw [A3w, if_pos (by omega)] <;> first | rfl | (intro p hp; cases hp; simp [hlen]))
 refine sQ (qA rfl) rfl (sD (nS (cF rfl (tS (tR ?_)))))
 refine sB (qE rfl rfl) rfl rfl (fun h53 => ?_) (fun h53 => ?_)
 refine sQ (qA rfl) rfl (sD (nS (qT rfl (tS (tR ?_)))))
 refine E8 rfl ((A1w _ _)) rfl rfl ?_
 refine E8 rfl ((A1w _ _)) rfl rfl ?_
 refine F8 ?_
 refine F8 ?_
 refine sQ (qA rfl) rfl (sD (nS (tT (rB (rS ?_)))))
 refine D2 (rC rfl (A3 rfl rfl)) (rC rfl (A3 rfl rfl)) (rT rfl) ?_
 (refine ⟨rfl, _, _, _, _, ?_, A0y _, A0y _, A3n, A3n, ?_⟩ <;> rw [A3w, if_neg (by omega), if_pos (by omega)] <;> first | rfl | (intro p hp; cases hp; rfl))
 refine R2 ?_
 refine D2 (rC rfl (A3 rfl rfl)) (rC rfl (A3 rfl rfl)) (rT rfl) ?_
 (refine ⟨rfl, B1, _, B1, _, ?_, J8 _ ⟨by omega, by omega⟩, J8 _ ⟨by omega, by omega⟩, M4 (by omega) (by omega), M4 (by omega) (by omega), ?_⟩ <;> rw [A3w, if_neg (by omega), if_neg (by omega)] <;> first | rfl | (intro p hp; cases hp))
def A2N (G : IM) (b : ByteArray × Ty) (e : List Value) : Prop := ∃ q d, e = [.string b.1, .int .i64 b.2.k, .slice q b.2.ks.length d] ∧ B3 G b.2 [.int .i64 b.2.k, .slice q b.2.ks.length d]
theorem A2N.mono {G G' : IM} {b : ByteArray × Ty} {e : List Value} (h : A2N G b e) (hg : B6 G G') : A2N G' b e := by
 obtain ⟨q, d, h1, h2⟩ := h
 exact ⟨q, d, h1, h2.mono hg⟩
def S1 (G : IM) (cx : Cx) (p : Option Addr) (n c : Nat) : Prop := n = cx.length ∧ ∃ es : List (List Value), C5 G p n c 3 es ∧ ∀ (i : Nat) (b : ByteArray × Ty), cx[i]? = some b → ∃ e, es[i]? = some e ∧ A2N G b e
theorem S1.mono {G G' : IM} {cx : Cx} {p : Option Addr} {n c : Nat} (h : S1 G cx p n c) (hg : B6 G G') : S1 G' cx p n c := by
 obtain ⟨h1, es, h2, h3⟩ := h
 refine ⟨h1, es, h2.mono hg, fun i b hb => ?_⟩
 obtain ⟨e, he, hr⟩ := h3 i b hb
 exact ⟨e, he, hr.mono hg⟩
theorem S1.nil (G : IM) : S1 G [] none 0 0 := ⟨rfl, [], C5.nil _ _, by simp⟩
theorem S1.le {G : IM} {cx : Cx} {p : Option Addr} {n c : Nat} (h : S1 G cx p n c) : n ≤ 9223372036854775807 := by
 obtain ⟨h1, es, h2, h3⟩ := h
 exact h2.le
theorem S1.get {G : IM} {cx : Cx} {p : Option Addr} {n c : Nat} (h : S1 G cx p n c) {i : Nat} (hi : i < n) :
  ∃ b o nm t q d, cx[i]? = some (nm, t) ∧ p = some ⟨b, o, none⟩ ∧ (∀ hp, At hp G b (o + i * 3) [.string nm, .int .i64 t.k, .slice q t.ks.length d]) ∧ B3 G t [.int .i64 t.k, .slice q t.ks.length d] ∧ G b ≠ none := by
 obtain ⟨h1, es, h2, h3⟩ := h
 obtain ⟨e, b, o, he, rfl, hl, _, hat, hgb⟩ := h2.get (i := i) (by omega)
 have hx : cx[i]? = some cx[i] := List.getElem?_eq_getElem (by omega)
 obtain ⟨e', he', q, d, h4, h5⟩ := h3 i _ hx
 rw [he] at he'
 obtain rfl := Option.some.inj he'
 rw [h4] at hat
 exact ⟨b, o, cx[i].1, cx[i].2, q, d, hx, rfl, hat, h5, hgb⟩
theorem B2v (G : IM) (cx : Cx) (p : Option Addr) (n c : Nat) (nm : ByteArray) (hx : S1 G cx p n c) :
  Fn Tryz.prog 159 [.slice p n c, .string nm] [] G (V1 (X4 cx nm) G) := by
 have hn := hx.le
 have hn1 := hx.1
 refine B5 Tryz.func159 rfl Tryz.ntmps159 Tryz.results159 rfl ?_
 intro w0
 refine tS (tR ?_)
 refine sE (A5 rfl) rfl (fun b3 => ?_)
 refine D8 ?_
 refine sP (O4 rfl rfl (by omega) (by omega)) rfl rfl ?_
 refine sQ (qA rfl) rfl (sD (nS ?_))
 refine B9 ?_
 (refine K3 (fun (i : Nat) => ⟨[(6, .int .i64 ((i : Int) - 1)), (0, .slice p n c), (1, .string nm), (4, .pointer (some ⟨b3, 0, none⟩))], [.blk b3 [.int .i64 0, .slice none 0 0]], G⟩) (fun i => i ≤ n ∧ W4 cx nm i = X4 cx nm) (fun i => i) n ?_ ?_ ?_)
 exact D5
 exact ⟨Nat.le_refl _, by rw [hn1]; rfl⟩
 (rintro i ⟨hi, hlk⟩)
 refine tS (tS (tR (sQ (qM rfl) rfl ?_)))
 refine sB (A0R rfl rfl) rfl rfl (fun h25 => ?_) (fun h25 => ?_)
 refine sD (nS (qT rfl (tK (nS (tS ?_)))))
 (show I9 _ _ (.block 1 _) _ _; obtain ⟨j, rfl⟩ : ∃ j, i = j + 1 := ⟨i - 1, by omega⟩; rw [show ((j + 1 : Nat) : Int) - 1 = (j : Int) from by omega]; obtain ⟨b, o, nm1, t1, q1, d1, hcx, rfl, hat, hr1, hgb⟩ := hx.get (i := j) (by omega); refine B9 ?_)
 refine tS (tR (sQ (qM rfl) rfl (sQ (qM rfl) rfl ?_)))
 refine sP (B0 rfl rfl rfl (by omega)) rfl rfl ?_
 refine sQ (qF rfl) rfl ?_
 refine sL (U5 rfl rfl ((hat _).sub (j := 0) rfl)) rfl rfl ?_
 refine sQ (qM rfl) rfl ?_
 refine sB (A05 rfl rfl) rfl rfl (fun h41 => ?_) (fun h41 => ?_)
 refine D0 ?_
 refine sP (B0 rfl rfl rfl (by omega)) rfl rfl ?_
 refine sQ (qF rfl) rfl ?_
 refine sL (A2 rfl rfl (hat _).drop rfl) rfl rfl ?_
 refine H8 ?_
 refine D6 (rC rfl (A3 rfl rfl)) (rT rfl) ?_
 (rw [A4g hcx (by assumption)] at hlk; rw [← hlk]; exact ⟨rfl, _, _, rfl, hr1, fun t ht => by cases ht; rfl⟩)
 refine D8 ?_
 refine sP (O4 rfl rfl (by omega) (by omega)) rfl rfl ?_
 refine sQ (qA rfl) rfl (sD ?_)
 refine K0 j ?_ ?_ ?_
 exact D5
 (rw [A4h hcx (by assumption)] at hlk; exact ⟨by omega, hlk⟩)
 (show _ < _ + 1; omega)
 refine K5 ?_
 refine D6 (rC rfl (A3 rfl rfl)) (rT rfl) ?_
 (obtain rfl : i = 0 := (by omega); rw [W4] at hlk; rw [← hlk]; exact ⟨rfl, _, B1, rfl, J8 _ ⟨by omega, by omega⟩, fun t ht => by cases ht⟩)
theorem B2w {xs ys : List Ty} (h : xs.length = 2) (h' : ys.length = 2) : A1K xs ys = [A0w (xs[0]'(by omega)) (ys[0]'(by omega)), A0w (xs[1]'(by omega)) (ys[1]'(by omega))] := by
 match xs, ys, h, h' with
 | [a, b], [c, d], _, _ => rfl
theorem B2x {k k' : Int} {ks bs : List Ty} (h : O9 (.mk k ks) (.mk k' bs) = true) (hk : k ≠ 1) (hk' : k' ≠ 1) : k = k' ∧ U1 ks bs = true := by
 rw [V2] at h
 simpa [hk, hk'] using h
theorem A8s : ∀ (a b : Ty) (G : IM) (ca cb : List Value), O9 a b = true → D4 a → D4 b → B3 G a ca → B3 G b cb →
  Fn Tryz.prog 163 [.agg ⟨ca⟩, .agg ⟨cb⟩] [] G (A5I (A0w a b) G) := by
 refine Ty.ind fun k ks ih b G ca cb hc haa hab hra hrb => ?_
 have hsa := haa.small
 have hsb := hab.small
 obtain ⟨bk, bks⟩ := b
 have hra0 := hra
 have hrb0 := hrb
 have ha2 := haa
 have hb2 := hab
 rw [D4] at ha2 hb2
 have hkida := haa.kid
 have hkidb := hab.kid
 obtain ⟨p, c, es, rfl, hk, hsl, hkl⟩ := hra.open
 obtain ⟨p', c', es', rfl, hk', hsl', hkl'⟩ := hrb.open
 simp only [Ty.k, Ty.ks] at hk hsl hkl hk' hsl' hkl' ⊢
 have hn := hsl.le
 rw [A7S]
 refine B5 Tryz.func163 rfl Tryz.ntmps163 Tryz.results163 rfl ?_
 intro w0
 refine tS (tR ?_)
 refine sE (C0 rfl rfl) rfl (fun b3 => ?_)
 refine sE (C0 rfl rfl) rfl (fun b4 => ?_)
 refine sE (A5 rfl) rfl (fun b5 => ?_)
 refine sD (nS (tS ?_))
 refine B9 ?_
 refine tS (tR (sQ (A9 rfl) rfl (sL (B7 rfl rfl) rfl rfl ?_)))
 refine sB (qE rfl rfl) rfl rfl (fun h14 => ?_) (fun h14 => ?_)
 refine D0 ?_
 (refine D3 rfl (A1u _ _ _ hsb hrb0) rfl rfl (fun v G1 hle1 hh => ?_); obtain ⟨N6, F1, rfl, hs1, hn1⟩ := hh; obtain ⟨p1, c1, rfl, _⟩ := hs1.open; have hr1 := hs1.R.mono (C1.le G1 _))
 refine F8 ?_
 refine sD (nS (tT (rB (rS ?_))))
 refine E2 (rC rfl (A3 rfl rfl)) ?_
 (rw [if_pos (by omega)]; exact ⟨rfl, _, rfl, hr1⟩)
 refine D8 ?_
 refine sB (qE rfl rfl) rfl rfl (fun h39 => ?_) (fun h39 => ?_)
 refine J4 ?_
 (refine D3 rfl (A1u _ _ _ hsa hra0) rfl rfl (fun v G1 hle1 hh => ?_); obtain ⟨N6, F1, rfl, hs1, hn1⟩ := hh; obtain ⟨p1, c1, rfl, _⟩ := hs1.open; have hr1 := hs1.R.mono (C1.le G1 _))
 refine F8 ?_
 refine sD (nS (tT (rB (rS ?_))))
 refine E2 (rC rfl (A3 rfl rfl)) ?_
 (rw [if_neg (by omega)]; split <;> first | exact ⟨rfl, _, rfl, hr1⟩ | (obtain rfl : ks = [] := List.length_eq_zero_iff.1 (by omega); rw [A1K]; exact ⟨rfl, _, rfl, hr1⟩; simp))
 refine I8 ?_
 refine sB (qE rfl rfl) rfl rfl (fun h66 => ?_) (fun h66 => ?_)
 refine D8 ?_
 (refine D3 rfl (A1u _ _ _ hsa hra0) rfl rfl (fun v G1 hle1 hh => ?_); obtain ⟨N6, F1, rfl, hs1, hn1⟩ := hh; obtain ⟨p1, c1, rfl, _⟩ := hs1.open; have hr1 := hs1.R.mono (C1.le G1 _))
 refine F8 ?_
 refine sD (nS (tT (rB (rS ?_))))
 refine E2 (rC rfl (A3 rfl rfl)) ?_
 (rw [if_neg (by omega)]; split <;> first | exact ⟨rfl, _, rfl, hr1⟩ | (obtain rfl : ks = [] := List.length_eq_zero_iff.1 (by omega); rw [A1K]; exact ⟨rfl, _, rfl, hr1⟩; simp))
 refine D7 ?_
 (obtain ⟨hkk, hcl0⟩ := B2x hc (by omega) (by omega); subst hkk; have hcl := (A19 _ _).1 hcl0; have hlen : ks.length = 2 := (by have := ha2.2.1; have := ha2.1; omega); have hlen' : bks.length = 2 := (by omega); obtain ⟨b0, o0, q0, d0, hp0, hat0, hre0, hg0⟩ := hsl.kidTy hkl (i := 0) (by omega) (by omega); obtain ⟨b1, o1, q1, d1, hp1, hat1, hre1, hg1⟩ := hsl.kidTy hkl (i := 1) (by omega) (by omega); subst hp0; cases hp1; obtain ⟨b2, o2, q2, d2, hp2, hat2, hre2, hg2⟩ := hsl'.kidTy hkl' (i := 0) (by omega) (by omega); obtain ⟨b3, o3, q3, d3, hp3, hat3, hre3, hg3⟩ := hsl'.kidTy hkl' (i := 1) (by omega) (by omega); subst hp2; cases hp3; have hM1 := ih ks[0] (List.getElem_mem (by omega)) bks[0] G _ _ (hcl.2 0 (by omega) (by omega)) (hkida _ (List.getElem_mem (by omega))) (hkidb _ (List.getElem_mem (by omega))) hre0 hre2; refine C9 D1 rfl ?_)
 refine H6 (i := 0) (l' := [tt,ff,ff,ff,ff,ff,ff,ff,ff,ff,ff,ff,ff,ff,ff,ff,ff,ff,ff,ff,ff,ff]) rfl C4 (A9 rfl) rfl (by kernel_rfl) rfl rfl ?_
 refine aL 1 rfl (B7 rfl rfl) rfl ?_
 refine aP 2 rfl (A9 rfl) rfl ?_
 refine aL 3 rfl (B7 rfl rfl) rfl ?_
 refine aP 4 rfl (B0 (j := 0) rfl rfl rfl (by omega)) rfl ?_
 refine aL 5 rfl (A2 rfl rfl (hat0 _) rfl) rfl ?_
 refine aP 6 rfl (A9 rfl) rfl ?_
 refine aL 7 rfl (B7 rfl rfl) rfl ?_
 refine aP 8 rfl (B0 (j := 0) rfl rfl rfl (by omega)) rfl ?_
 refine aL 9 rfl (A2 rfl rfl (hat2 _) rfl) rfl ?_
 refine aP 11 rfl (A9 rfl) rfl ?_
 refine aL 12 rfl (B7 rfl rfl) rfl ?_
 refine aP 13 rfl (B0 (j := 1) rfl rfl rfl (by omega)) rfl ?_
 refine aL 14 rfl (A2 rfl rfl (hat1 _) rfl) rfl ?_
 refine aP 15 rfl (A9 rfl) rfl ?_
 refine aL 16 rfl (B7 rfl rfl) rfl ?_
 refine aP 17 rfl (B0 (j := 1) rfl rfl rfl (by omega)) rfl ?_
 refine aL 18 rfl (A2 rfl rfl (hat3 _) rfl) rfl ?_
 refine A1 10 ?_
 (refine E1 rfl rfl hM1 rfl rfl rfl (fun v G1 hle1 hh => ?_); obtain ⟨cm1, rfl, hm1⟩ := hh; have hM2 := ih ks[1] (List.getElem_mem (by omega)) bks[1] G1 _ _ (hcl.2 1 (by omega) (by omega)) (hkida _ (List.getElem_mem (by omega))) (hkidb _ (List.getElem_mem (by omega))) (hre1.mono hle1) (hre3.mono hle1))
 refine A1 19 ?_
 (refine E1 rfl rfl hM2 rfl rfl rfl (fun v G2 hle2 hh => ?_); obtain ⟨cm2, rfl, hm2⟩ := hh; have hB := A1R k _ _ G2 _ _ hk (hm1.mono hle2) hm2)
 refine A1 20 ?_
 (refine E1 rfl rfl hB rfl rfl rfl (fun v G3 hle3 hh => ?_); obtain ⟨cm3, rfl, hm3⟩ := hh; obtain ⟨p5, c5, e5, rfl, _⟩ := hm3.open)
 refine A1 21 ?_
 refine F0 rfl ?_
 refine B8 (nS (tT ?_))
 refine E2 (rC rfl (A3 rfl rfl)) ?_
 (rw [if_neg (by omega), if_neg (by omega)]; rw [B2w hlen hlen']; exact ⟨rfl, _, rfl, hm3⟩)
def R4 (t : Tm) : IM → Value → List A4 → Prop := K4 fun G' v => ∃ cells, v = .agg ⟨cells⟩ ∧ A7 G' t cells
theorem R4.mk {G : IM} {t : Tm} {cells : List Value} (h : A7 G t cells) : R4 t G (.agg ⟨cells⟩) [] := ⟨rfl, cells, rfl, h⟩
def mGk (k : Int) : Ty := if k = 4 ∨ k = 5 then .mk k [L9, L9] else .mk k []
theorem A0K {G : IM} {k : Int} {ks : List Tm} {p : Option Addr} {n c : Nat} {es : List (List Value)} (hk : F4 k) (hn : n = ks.length) (hs : C5 G p n c 9 es) (hr : C6 G ks es) : A7 G (V4 k ks) [.int .i64 k, .string ⟨⟨[]⟩⟩, .int .i64 0, .int .i64 0, .slice none 0 0, .int .i64 0, .slice none 0 0, .int .i64 0, .slice p n c] := by
 subst hn
 simp only [V4, A7]
 exact ⟨[.int .i64 0, .slice none 0 0], [.int .i64 0, .slice none 0 0], p, c, es, rfl, hk, ⟨by decide, by decide⟩, ⟨by decide, by decide⟩, A1c G, A1c G, hs, hr⟩
theorem A5J (k : Int) (G : IM) (hk : F4 k) : Fn Tryz.prog 213 [.int .i64 k] [] G (K4 fun G' v => ∃ cells, v = .agg ⟨cells⟩ ∧ B3 G' (mGk k) cells) := by
 have hB := A1R k L9 L9 G _ _ hk (A0y G) (A0y G)
 refine B5 Tryz.func213 rfl Tryz.ntmps213 Tryz.results213 rfl ?_
 intro w0
 refine tS (tR ?_)
 refine sE (A5 rfl) rfl (fun b3 => ?_)
 refine sD (nS (tS (tS (tR (sQ (qM rfl) rfl ?_)))))
 refine sB (qE rfl rfl) rfl rfl (fun h10 => ?_) (fun h10 => ?_)
 refine H8 ?_
 refine E8 rfl ((A1w _ _)) rfl rfl ?_
 refine E8 rfl ((A1w _ _)) rfl rfl ?_
 (refine D3 rfl hB rfl rfl (fun v G1 hle1 hh => ?_); obtain ⟨cb, rfl, hrb⟩ := hh; obtain ⟨p1, c1, e1, rfl, _⟩ := hrb.open)
 refine F8 ?_
 refine sD (nS (tT (rS ?_)))
 refine E2 (rC rfl (A3 rfl rfl)) ?_
 (exact ⟨rfl, _, rfl, by unfold mGk; rw [if_pos (by omega)]; exact hrb⟩)
 refine sQ (qM rfl) rfl (sQ (qM rfl) rfl ?_)
 refine sB (qE rfl rfl) rfl rfl (fun h33 => ?_) (fun h33 => ?_)
 refine D0 ?_
 refine E8 rfl ((A1w _ _)) rfl rfl ?_
 refine E8 rfl ((A1w _ _)) rfl rfl ?_
 (refine D3 rfl hB rfl rfl (fun v G1 hle1 hh => ?_); obtain ⟨cb, rfl, hrb⟩ := hh; obtain ⟨p1, c1, e1, rfl, _⟩ := hrb.open)
 refine F8 ?_
 refine sD (nS (tT (rS ?_)))
 refine E2 (rC rfl (A3 rfl rfl)) ?_
 (exact ⟨rfl, _, rfl, by unfold mGk; rw [if_pos (by omega)]; exact hrb⟩)
 refine D7 ?_
 refine E8 rfl ((A1w _ _)) rfl rfl ?_
 refine F8 ?_
 refine sD (nS (tT ?_))
 refine E2 (rC rfl (A3 rfl rfl)) ?_
 (exact ⟨rfl, _, rfl, by unfold mGk; rw [if_neg (by omega)]; exact J8 _ hk⟩)
theorem A8t (t : Ty) (G : IM) (cells : List Value) (hr : B3 G t cells) : Fn Tryz.prog 157 [.agg ⟨cells⟩] [] G (I0 (.bool (T8 t)) G) := by
 refine Fn.forget (post := K4 fun _ v => v = .bool (T8 t)) ?_ (fun _ _ _ h => h.2)
 have hr0 := hr
 obtain ⟨tk, tks⟩ := t
 obtain ⟨p, c, es, rfl, hk, _⟩ := hr.open
 simp only [Ty.k, Ty.ks] at hk hr0 ⊢
 rw [show T8 (.mk tk tks) = (decide (tk ≠ 1) && K9 (.mk tk tks) (mGk tk)) from rfl]
 refine B5 Tryz.func157 rfl Tryz.ntmps157 Tryz.results157 rfl ?_
 intro w0
 refine tS (tR ?_)
 refine sE (C0 rfl rfl) rfl (fun b3 => ?_)
 refine sQ (qA rfl) rfl (sD (nS (tS ?_)))
 refine C9 D1 rfl ?_
 refine H6 (i := 0) (l' := [tt,ff,ff,ff,ff,ff,ff,ff,ff,ff,ff]) rfl C4 (A9 rfl) rfl (by kernel_rfl) rfl rfl ?_
 refine aL 1 rfl (B7 rfl rfl) rfl ?_
 refine A0A (i := 2) (l' := [tt,tt,tt,ff,ff,ff,ff,ff,ff,ff,ff]) rfl C4 (O5 rfl rfl) rfl (by kernel_rfl) rfl rfl (fun h11 => ?_) (fun h11 => ?_)
 refine aP 3 rfl (qM rfl) rfl ?_
 refine aL 4 rfl (A3 rfl rfl) rfl ?_
 refine aP 5 rfl (A9 rfl) rfl ?_
 refine aL 6 rfl (B7 rfl rfl) rfl ?_
 refine A1 7 ?_
 (refine E1 rfl rfl (A5J tk G hk) rfl rfl rfl (fun v G1 hle1 hh => ?_); obtain ⟨cg, rfl, hrg⟩ := hh; have hT := A4t (.mk tk tks) (mGk tk) G1 _ _ (hr0.mono hle1) hrg; obtain ⟨pg, cgg, eg, rfl, _⟩ := hrg.open)
 refine A1 8 ?_
 refine J0 rfl rfl (hT) rfl rfl rfl ?_
 refine aP 9 rfl (H9 rfl rfl) rfl ?_
 refine aP 10 rfl (qA rfl) rfl ?_
 refine B8 (nS (tT (E2 (rT rfl) ?_)))
 (exact ⟨rfl, by rw [decide_eq_true (by omega), Bool.true_and]⟩)
 refine aP 3 rfl (qM rfl) rfl ?_
 refine B2 4 rfl rfl rfl ?_
 refine B2 5 rfl rfl rfl ?_
 refine B2 6 rfl rfl rfl ?_
 refine B2 7 rfl rfl rfl ?_
 refine B2 8 rfl rfl rfl ?_
 refine aP 9 rfl (M0 rfl rfl) rfl ?_
 refine aP 10 rfl (qA rfl) rfl ?_
 refine B8 (nS (tT (E2 (rT rfl) ?_)))
 (exact ⟨rfl, by rw [decide_eq_false (by omega), Bool.false_and]⟩)
theorem A2m (t : Tm) (G : IM) (cells : List Value) (hr : A7 G t cells) : Fn Tryz.prog 111 [.agg ⟨cells⟩] [] G (I0 (.bool (Q7 t)) G) := by
 obtain ⟨k, nm, num, ⟨tk, tks⟩, ⟨fk, fks⟩, lb, ks⟩ := t
 obtain ⟨pt, ct, pf, cf, p, c, es, rfl, hk, hnum, hlb, hty, hfr, hsl, hkl⟩ := hr.open9
 have hd : Q7 (.mk k nm num (.mk tk tks) (.mk fk fks) lb ks) = decide (k = 14 ∧ fk = tk ∧ (tk = 4 ∨ tk = 5)) := rfl
 rw [hd]
 refine B5 Tryz.func111 rfl Tryz.ntmps111 Tryz.results111 rfl ?_
 intro w0
 refine tS (tR ?_)
 refine sE (C0 rfl rfl) rfl (fun b3 => ?_)
 refine D0 ?_
 refine sB (qE rfl rfl) rfl rfl (fun h11 => ?_) (fun h11 => ?_)
 refine D0 ?_
 refine sB (qE rfl rfl) rfl rfl (fun h19 => ?_) (fun h19 => ?_)
 refine P6 ?_
 refine sB (qE rfl rfl) rfl rfl (fun h25 => ?_) (fun h25 => ?_)
 refine M9 ?_
 (exact ⟨rfl, by rw [decide_eq_true (by omega)], rfl⟩)
 refine I8 ?_
 refine sB (qE rfl rfl) rfl rfl (fun h43 => ?_) (fun h43 => ?_)
 refine D0 ?_
 (exact ⟨rfl, by rw [decide_eq_true (by omega)], rfl⟩)
 refine D0 ?_
 (exact ⟨rfl, by rw [decide_eq_false (by omega)], rfl⟩)
 refine T4 ?_
 (exact ⟨rfl, by rw [decide_eq_false (by omega)], rfl⟩)
 refine A2B ?_
 (exact ⟨rfl, by rw [decide_eq_false (by omega)], rfl⟩)
theorem A3x (t : Tm) (G : IM) (cells : List Value) (hr : A7 G t cells) : Fn Tryz.prog 112 [.agg ⟨cells⟩] [] G (I0 (.bool (inj t)) G) := by
 obtain ⟨k, nm, num, ⟨tk, tks⟩, ⟨fk, fks⟩, lb, ks⟩ := t
 obtain ⟨pt, ct, pf, cf, p, c, es, rfl, hk, hnum, hlb, hty, hfr, hsl, hkl⟩ := hr.open9
 have hd : inj (.mk k nm num (.mk tk tks) (.mk fk fks) lb ks) = (decide (k = 14 ∧ tk = 1) && T8 (.mk fk fks)) := rfl
 rw [hd]
 refine B5 Tryz.func112 rfl Tryz.ntmps112 Tryz.results112 rfl ?_
 intro w0
 refine tS (tR ?_)
 refine sE (C0 rfl rfl) rfl (fun b3 => ?_)
 refine D0 ?_
 refine sB (qE rfl rfl) rfl rfl (fun h11 => ?_) (fun h11 => ?_)
 refine I8 ?_
 refine sB (qE rfl rfl) rfl rfl (fun h16 => ?_) (fun h16 => ?_)
 refine I8 ?_
 refine E8 rfl ((A8t (.mk fk fks) G _ hfr)) rfl rfl ?_
 refine I1 ?_
 (exact ⟨rfl, by rw [decide_eq_true (by omega), Bool.true_and], rfl⟩)
 refine J7 ?_
 (exact ⟨rfl, by rw [decide_eq_false (by omega), Bool.false_and], rfl⟩)
 refine K5 ?_
 (exact ⟨rfl, by rw [decide_eq_false (by omega), Bool.false_and], rfl⟩)
theorem B2y (t : Tm) (G : IM) (cells : List Value) (hr : A7 G t cells) : Fn Tryz.prog 115 [.agg ⟨cells⟩] [] G (I0 (.bool (decide (t.k = 2 ∨ t.k = 3 ∨ t.k = 4 ∨ t.k = 5))) G) := by
 obtain ⟨k, nm, num, ⟨tk, tks⟩, ⟨fk, fks⟩, lb, ks⟩ := t
 obtain ⟨pt, ct, pf, cf, p, c, es, rfl, hk, hnum, hlb, hty, hfr, hsl, hkl⟩ := hr.open9
 rw [show (Tm.mk k nm num (.mk tk tks) (.mk fk fks) lb ks).k = k from rfl]
 refine B5 Tryz.func115 rfl Tryz.ntmps115 Tryz.results115 rfl ?_
 intro w0
 refine tS (tR ?_)
 refine sE (C0 rfl rfl) rfl (fun b3 => ?_)
 refine D0 ?_
 refine sB (qE rfl rfl) rfl rfl (fun h11 => ?_) (fun h11 => ?_)
 refine Y9 ?_
 (exact ⟨rfl, by rw [decide_eq_true (by omega)], rfl⟩)
 refine I6 ?_
 refine sB (qE rfl rfl) rfl rfl (fun h36 => ?_) (fun h36 => ?_)
 refine K5 ?_
 (exact ⟨rfl, by rw [decide_eq_true (by omega)], rfl⟩)
 refine I8 ?_
 refine sB (qE rfl rfl) rfl rfl (fun h58 => ?_) (fun h58 => ?_)
 refine J7 ?_
 (exact ⟨rfl, by rw [decide_eq_true (by omega)], rfl⟩)
 refine I8 ?_
 refine sB (qE rfl rfl) rfl rfl (fun h75 => ?_) (fun h75 => ?_)
 refine I1 ?_
 (exact ⟨rfl, by rw [decide_eq_true (by omega)], rfl⟩)
 refine I1 ?_
 (exact ⟨rfl, by rw [decide_eq_false (by omega)], rfl⟩)
theorem B2z (G : IM) (p : Option Addr) (n c : Nat) (es : List (List Value)) (hsl : C5 G p n c 9 es) (fid : FuncId) [B4 Tryz.prog fid] (us cs : List Value) (ins : List A4) (q : Nat → Bool)
  (hq : ∀ i e, es[i]? = some e → Fn Tryz.prog fid (us ++ [.agg ⟨e⟩] ++ cs) ins G (U0 (.bool (q i)) ins G)) :
  Fn Tryz.prog 158 [.slice p n c, .func (.func fid) ⟨us⟩ ⟨cs⟩] ins G (U0 (.int .i64 (A0v q n)) ins G) := by
 have hn := hsl.le
 refine B5 Tryz.func158 rfl Tryz.ntmps158 Tryz.results158 rfl ?_
 intro w0
 refine J4 ?_
 refine B9 ?_
 refine K3 (fun i : Nat => ⟨[(8, .int .i64 i), (7, .int .i64 n), (1, .func (.func fid) ⟨us⟩ ⟨cs⟩), (0, .slice p n c)], ins, G⟩) (fun i => i ≤ n ∧ ∀ j, j < i → q j = false) (fun i => n - i) 0 ?_ ?_ ?_
 exact D5
 exact ⟨by omega, by omega⟩
 rintro i ⟨hi, hf⟩
 refine tS (tR ?_)
 refine sB (K1 rfl rfl) rfl rfl (fun h21 => ?_) (fun h21 => ?_)
 refine sD (nS (tS (qT rfl (tK (nS (tS ?_))))))
 refine B9 ?_
 refine J7 ?_
 (obtain ⟨e, b, o, he, rfl, hl, _, hat, _⟩ := hsl.get (i := i) (by omega); refine sP (B0 rfl rfl rfl (by omega)) rfl rfl ?_)
 refine sL (A2 rfl rfl (hat _) hl) rfl rfl ?_
 refine A31 rfl rfl (hq i e he) A0t rfl rfl (fun h43 => ?_) (fun h43 => ?_)
 refine I7 ?_
 refine H4 (rT rfl) A0.refl ?_
 exact ⟨rfl, by rw [A62 (by omega) hf (by assumption)], rfl⟩
 refine sD (nS (cF rfl (tK (M8 (nS (tR ?_))))))
 refine sP (J6 rfl rfl (by omega) (by omega)) rfl rfl ?_
 refine sQ (qM rfl) rfl (sD ?_)
 refine K0 (i + 1) ?_ ?_ ?_
 exact D5
 exact ⟨by omega, fun j hj => by by_cases hji : j = i; (subst hji; assumption); exact hf j (by omega)⟩
 omega
 refine I7 ?_
 refine H4 (rT rfl) A0.refl ?_
 exact ⟨rfl, by rw [A48 (fun j hj => hf j (by omega))], rfl⟩
theorem B2A (G : IM) (p : Option Addr) (n c : Nat) (es : List (List Value)) (hsl : C5 G p n c 9 es) (fid : FuncId) [B4 Tryz.prog fid] (us cs : List Value) (ins : List A4) (q : Nat → Bool)
  (hq : ∀ i e, es[i]? = some e → Fn Tryz.prog fid (us ++ [.agg ⟨e⟩] ++ cs) ins G (U0 (.bool (q i)) ins G)) :
  Fn Tryz.prog 113 [.slice p n c, .func (.func fid) ⟨us⟩ ⟨cs⟩] ins G (U0 (.bool (decide (0 ≤ A0v q n))) ins G) := by
 refine B5 Tryz.func113 rfl Tryz.ntmps113 Tryz.results113 rfl ?_
 intro w0
 refine D7 ?_
 refine A17 rfl (B2z G p n c es hsl fid us cs ins q hq) A0t rfl rfl ?_
 refine sQ (A0R rfl rfl) rfl ?_
 refine sQ (qA rfl) rfl (sD (nS (tT ?_)))
 refine H4 (rT rfl) A0.refl ?_
 exact ⟨rfl, rfl, rfl⟩
theorem B2B (G : IM) (p : Option Addr) (n c : Nat) (es : List (List Value)) (hsl : C5 G p n c 9 es) (fid : FuncId) [B4 Tryz.prog fid] (us cs : List Value) (ins : List A4) (f : Tm → Bool) (ks : List Tm)
  (hn : ks.length = n) {A : Bool} (hA : ks.all f = A) (hq : ∀ i e, es[i]? = some e → Fn Tryz.prog fid (us ++ [.agg ⟨e⟩] ++ cs) ins G (U0 (.bool (!f (ks.getD i I3))) ins G)) :
  Fn Tryz.prog 113 [.slice p n c, .func (.func fid) ⟨us⟩ ⟨cs⟩] ins G (U0 (.bool (!A)) ins G) := by
 subst hn hA
 rw [← A64 f ks I3]
 exact B2A G p _ c es hsl fid us cs ins _ hq
theorem A8u : ∀ ks, A0e ks = ks.all E7
 | [] => rfl
 | t :: ts => by rw [A0e, A8u ts, List.all_cons]
theorem B2C (t : Tm) (G : IM) (cells : List Value) (hl : cells.length = 9) (ho : cells.all (·.oneCell') = true) (h : Fn Tryz.prog 48 [.agg ⟨cells⟩] [] G (I0 (.bool (E7 t)) G)) :
  Fn Tryz.prog 114 [.agg ⟨cells⟩] [] G (U0 (.bool (!E7 t)) [] G) := by
 refine B5 Tryz.func114 rfl Tryz.ntmps114 Tryz.results114 rfl ?_
 intro w0
 refine tS (tR ?_)
 refine sE (C0 rfl rfl) rfl (fun b3 => ?_)
 refine sQ (qA rfl) rfl (sD (nS (tS (tR ?_))))
 refine sL (A2 rfl rfl (A6 (by repeat first | exact mH | apply mT)) hl) rfl rfl ?_
 refine E8 rfl (h) rfl rfl ?_
 refine sQ (A2u rfl) rfl ?_
 refine sQ (qA rfl) rfl (sD (nS (tT (E2 (rT rfl) ?_))))
 (exact ⟨rfl, rfl, rfl⟩)
theorem A1C (k : Int) (nm : ByteArray) (num : Int) (ty fr : Ty) (lb : Int) (ks : List Tm) : Q7 (.mk k nm num ty fr lb ks) = decide (k = 14 ∧ fr.k = ty.k ∧ (ty.k = 4 ∨ ty.k = 5)) := rfl
theorem A5K (k : Int) (nm : ByteArray) (num : Int) (ty fr : Ty) (lb : Int) (ks : List Tm) : inj (.mk k nm num ty fr lb ks) = (decide (k = 14 ∧ ty.k = 1) && T8 fr) := rfl
theorem A3y {k : Int} {nm : ByteArray} {num : Int} {ty fr : Ty} {lb : Int} {ks : List Tm} (h : k = 10 ∨ Q7 (.mk k nm num ty fr lb ks) = true ∨ inj (.mk k nm num ty fr lb ks) = true) : E7 (.mk k nm num ty fr lb ks) = ks.all E7 := by
 rw [E7, if_pos, A8u]
 rw [A1C, A5K] at h
 simp only [Bool.and_eq_true, decide_eq_true_eq] at h
 rcases h with h | h | h
 ·exact .inl h
 ·exact .inr (.inl h)
 ·exact .inr (.inr ⟨h.1.1, h.1.2, h.2⟩)
theorem A5L {k : Int} {nm : ByteArray} {num : Int} {ty fr : Ty} {lb : Int} {ks : List Tm} (h : ¬k = 10) (h2 : Q7 (.mk k nm num ty fr lb ks) = false) (h3 : inj (.mk k nm num ty fr lb ks) = false) : E7 (.mk k nm num ty fr lb ks) = decide (k = 2 ∨ k = 3 ∨ k = 4 ∨ k = 5) := by
 rw [E7, if_neg]
 rw [A1C] at h2
 rw [A5K] at h3
 simp only [Bool.and_eq_false_iff, decide_eq_false_iff_not] at h2 h3
 rintro (h' | h' | h')
 ·exact h h'
 ·exact h2 h'
 ·rcases h3 with h3 | h3
  ·exact h3 ⟨h'.1, h'.2.1⟩
  ·rw [h3] at h'; cases h'.2.2
theorem A5M : ∀ (t : Tm) (G : IM) (cells : List Value), A7 G t cells → Fn Tryz.prog 48 [.agg ⟨cells⟩] [] G (I0 (.bool (E7 t)) G) := by
 refine Tm.ind fun k nm num ty fr lb ks ih G cells hr => ?_
 have hr0 := hr
 have hP := A2m _ G _ hr
 have hI := A3x _ G _ hr
 have hPl := B2y _ G _ hr
 have hy := @A3y k nm num ty fr lb ks
 have hn := @A5L k nm num ty fr lb ks
 rw [show (Tm.mk k nm num ty fr lb ks).k = k from rfl] at hPl
 obtain ⟨A, hA⟩ : ∃ A, ks.all E7 = A := ⟨_, rfl⟩
 rw [hA] at hy
 generalize hpx : Q7 (.mk k nm num ty fr lb ks) = bp at hP hy hn
 generalize hij : inj (.mk k nm num ty fr lb ks) = bi at hI hy hn
 generalize E7 (.mk k nm num ty fr lb ks) = R at hy hn ⊢
 obtain ⟨tk, tks⟩ := ty
 obtain ⟨fk, fks⟩ := fr
 obtain ⟨pt, ct, pf, cf, p, c, es, rfl, hk, hnum, hlb, hty, hfr, hsl, hkl⟩ := hr.open9
 have hC := B2B G p ks.length c es hsl 114 [] [] [] E7 ks rfl hA (fun i e he => by
  have hx := hkl.inv he I3
  exact B2C _ G e hx.2.len hx.2.one (ih _ hx.1 G e hx.2))
 refine B5 Tryz.func48 rfl Tryz.ntmps48 Tryz.results48 rfl ?_
 intro w0
 refine tS (tR ?_)
 refine sE (C0 rfl rfl) rfl (fun b3 => ?_)
 refine D8 ?_
 refine sB (qE rfl rfl) rfl rfl (fun h12 => ?_) (fun h12 => ?_)
 refine I7 ?_
 refine A17 rfl hC A0t rfl rfl ?_
 refine sQ (A2u rfl) rfl ?_
 refine sQ (qA rfl) rfl (sD (nS (tT (rS (E2 (rT rfl) ?_)))))
 (exact ⟨rfl, by rw [hy (by first | exact .inl (by omega) | exact .inr (.inl (by assumption)) | exact .inr (.inr (by assumption)))]; cases A <;> rfl, rfl⟩)
 refine sQ (qM rfl) rfl (sL (A3 rfl rfl) rfl rfl ?_)
 refine F9 rfl (hP) rfl rfl (fun h39 => ?_) (fun h39 => ?_)
 refine M9 ?_
 refine A17 rfl hC A0t rfl rfl ?_
 refine sQ (A2u rfl) rfl ?_
 refine sQ (qA rfl) rfl (sD (nS (tT (rS (E2 (rT rfl) ?_)))))
 (exact ⟨rfl, by rw [hy (by first | exact .inl (by omega) | exact .inr (.inl (by assumption)) | exact .inr (.inr (by assumption)))]; cases A <;> rfl, rfl⟩)
 refine I6 ?_
 refine F9 rfl (hI) rfl rfl (fun h64 => ?_) (fun h64 => ?_)
 refine D8 ?_
 refine A17 rfl hC A0t rfl rfl ?_
 refine sQ (A2u rfl) rfl ?_
 refine sQ (qA rfl) rfl (sD (nS (tT (rS (E2 (rT rfl) ?_)))))
 (exact ⟨rfl, by rw [hy (by first | exact .inl (by omega) | exact .inr (.inl (by assumption)) | exact .inr (.inr (by assumption)))]; cases A <;> rfl, rfl⟩)
 refine D7 ?_
 refine E8 rfl (hPl) rfl rfl ?_
 refine sQ (qA rfl) rfl (sD (nS (tT (E2 (rT rfl) ?_))))
 (exact ⟨rfl, by rw [hn (by omega) (by assumption) (by assumption)], rfl⟩)
theorem A7.put {G : IM} {k : Int} {nm : ByteArray} {num tk fk lb : Int} {tks fks : List Ty} {us : List Tm} {pt pf p : Option Addr} {ct cf n c : Nat} {es : List (List Value)} (hk : F4 k) (hnum : F4 num) (hlb : F4 lb) (hty : B3 G (.mk tk tks) [.int .i64 tk, .slice pt tks.length ct]) (hfr : B3 G (.mk fk fks) [.int .i64 fk, .slice pf fks.length cf])
  (hn : n = us.length) (hs : C5 G p n c 9 es) (hr : C6 G us es) : A7 G (.mk k nm num (.mk tk tks) (.mk fk fks) lb us) [.int .i64 k, .string nm, .int .i64 num, .int .i64 tk, .slice pt tks.length ct, .int .i64 fk, .slice pf fks.length cf, .int .i64 lb, .slice p n c] := by
 subst hn
 simp only [A7]
 exact ⟨_, _, p, c, es, rfl, hk, hnum, hlb, hty, hfr, hs, hr⟩
theorem nine {uc : List Value} (h : uc.length = 9) : ∃ v1 v2 v3 v4 v5 v6 v7 v8 v9, uc = [v1, v2, v3, v4, v5, v6, v7, v8, v9] := by
 match uc, h with
 | [a, b, c, d, e, f, g, i, j], _ => exact ⟨a, b, c, d, e, f, g, i, j, rfl⟩
theorem A2O {x : ByteArray} {v : Tm} {ks : List Tm} {i : Nat} (h : i < ks.length) : (P3 x v ks).take (i + 1) = (P3 x v ks).take i ++ [Q8 x v ks[i]] := by
 rw [A4q, List.take_succ_eq_append_getElem (by rw [List.length_map]; exact h), List.getElem_map]
theorem X7 (x : ByteArray) (v : Tm) (ks : List Tm) : (P3 x v ks).length = ks.length := by rw [A4q, List.length_map]
theorem B2D (y : ByteArray) (v : Tm) (vc : List Value) : ∀ (t : Tm) (G : IM) (cells : List Value), t.small → A7 G t cells → A7 G v vc → Fn Tryz.prog 241 [.agg ⟨cells⟩, .string y, .agg ⟨vc⟩] [] G (R4 (Q8 y v t)) := by
 refine Tm.ind fun k nm num ty fr lb ks ih G cells hts hr hv => ?_
 have hr0 := hr
 obtain ⟨_, _, _, hsm, hks⟩ := A0z.1 hts
 have hvl := hv.len
 have hvo := hv.one
 have hRl := hr.len
 have hRo := hr.one
 rw [Q8]
 obtain ⟨tk, tks⟩ := ty
 obtain ⟨fk, fks⟩ := fr
 obtain ⟨pt, ct, pf, cf, p, c, es, rfl, hk, hnum, hlb, hty, hfr, hsl, hkl⟩ := hr.open9
 have hn := hsl.le
 refine B5 Tryz.func241 rfl Tryz.ntmps241 Tryz.results241 rfl ?_
 intro w0
 refine tS (tR ?_)
 refine sE (C0 rfl rfl) rfl (fun b3 => ?_)
 refine sE (C0 rfl rfl) rfl (fun b4 => ?_)
 refine sE (A5 rfl) rfl (fun b5 => ?_)
 refine sD (nS (tS ?_))
 refine B9 ?_
 refine tS (tR (sQ (A9 rfl) rfl (sL (B7 rfl rfl) rfl rfl ?_)))
 refine sB (qE rfl rfl) rfl rfl (fun h14 => ?_) (fun h14 => ?_)
 refine I8 ?_
 refine sB (A05 rfl rfl) rfl rfl (fun h19 => ?_) (fun h19 => ?_)
 refine D0 ?_
 refine sL (A2 rfl rfl (A6 (by repeat first | exact mH | apply mT)) hvl) rfl rfl ?_
 refine sS rfl rfl rfl hvl hvo rfl ?_ (hu := by exact C2 hvl.symm)
 refine sD (nS (tT (rB (rS ?_))))
 refine E2 (rC rfl (A2 rfl rfl (A6 (by repeat first | exact mH | apply mT)) hvl)) ?_
 (rw [if_pos (by refine ⟨by omega, by assumption⟩)]; exact R4.mk hv)
 refine D7 ?_
 refine sP (E4 rfl rfl (by omega)) rfl rfl ?_
 refine K5 ?_
 refine sE (A5 rfl) rfl (fun b62 => ?_)
 refine T4 ?_
 refine B9 ?_
 (refine T9 28 9 ?_; refine K3 (fun (x : Nat × Option Addr × Nat × List (List Value) × IM) => ⟨[(37, .int .i64 x.1), (36, .int .i64 ks.length), (35, .slice p ks.length c), (1, .string y), (3, .pointer (some ⟨b3, 0, none⟩)), (5, .pointer (some ⟨b4, 0, none⟩)), (6, .pointer (some ⟨b5, 0, none⟩)), (7, .pointer (some ⟨b62, 0, none⟩))], [.blk b62 [.int .i64 k, .string nm, .int .i64 num, .int .i64 tk, .slice pt tks.length ct, .int .i64 fk, .slice pf fks.length cf, .int .i64 lb, .slice x.2.1 x.1 x.2.2.1], .slc x.2.1 x.2.2.1 28 9 x.1 x.2.2.2.1.flatten, .blk b5 [.int .i64 0, .string ⟨⟨[]⟩⟩, .int .i64 0, .int .i64 0, .slice none 0 0, .int .i64 0, .slice none 0 0, .int .i64 0, .slice none 0 0], .blk b4 vc, .blk b3 [.int .i64 k, .string nm, .int .i64 num, .int .i64 tk, .slice pt tks.length ct, .int .i64 fk, .slice pf fks.length cf, .int .i64 lb, .slice p ks.length c]], x.2.2.2.2⟩) (fun x => x.1 ≤ ks.length ∧ B6 G x.2.2.2.2 ∧ C6 x.2.2.2.2 ((P3 y v ks).take x.1) x.2.2.2.1) (fun x => ks.length - x.1) (0, none, 0, [], G) ?_ ?_ ?_)
 (simp only [I5]; exact D5)
 (exact ⟨Nat.zero_le _, B6.refl _, by simp [C6]⟩)
 (rintro ⟨i, pn, cn, es', Gi⟩ ⟨hi, hle, hst⟩; simp only [] at hi hle hst ⊢; replace hsl := hsl.mono hle; replace hkl := hkl.mono hle; replace hv := hv.mono hle; replace hty := hty.mono hle; replace hfr := hfr.mono hle; have hsl' := hst.len; rw [List.length_take, X7] at hsl')
 refine tS (tR ?_)
 refine sB (K1 rfl rfl) rfl rfl (fun h88 => ?_) (fun h88 => ?_)
 refine sD (nS (tS (qT rfl (tK (nS (tS ?_))))))
 refine B9 ?_
 refine tS (tR ?_)
 (have hil : i < ks.length := (by omega); obtain ⟨bx, ox, e, rfl, hl, hat, hre, hgb⟩ := hsl.kidTm hkl (i := i) (by omega) (by omega); have hel := hre.len; have heo := hre.one; refine sP (B0 (j := i) rfl rfl rfl (by omega)) rfl rfl ?_)
 refine sL (A2 rfl rfl (hat _) hl) rfl rfl ?_
 refine sE (A5 rfl) rfl (fun b101 => ?_)
 refine sS rfl rfl rfl hel heo rfl ?_ (hu := by exact C2 hel.symm)
 refine sD (nS ?_)
 refine C9 D1 rfl ?_
 refine L0 (i := 2) (l' := [ff,ff,tt,ff,ff,ff,ff,ff,ff,ff]) rfl C4 (A2 rfl rfl (A6 (by repeat first | exact mH | apply mT)) hel) rfl (by kernel_rfl) rfl rfl ?_
 refine aL 4 rfl (A2 rfl rfl (A6 (by repeat first | exact mH | apply mT)) hvl) rfl ?_
 refine aP 0 rfl (A9 rfl) rfl ?_
 refine aL 1 rfl (B7 rfl rfl) rfl ?_
 refine aP 3 rfl (qM rfl) rfl ?_
 refine A1 5 ?_
 (refine E1 rfl rfl (ih ks[i] (List.getElem_mem (by omega)) Gi _ (Tm.smallL_mem hks _ (List.getElem_mem (by omega))) hre hv) rfl rfl rfl (fun u G1 hle1 hh => ?_); obtain ⟨uc, rfl, hru⟩ := hh; have hul := hru.len; have huo := hru.one; obtain ⟨v1, v2, v3, v4, v5, v6, v7, v8, v9, rfl⟩ := nine hul)
 refine A1 6 ?_
 (refine D9 rfl (C8 rfl rfl rfl (by omega) (by unfold maxLen; omega) rfl) rfl rfl ?_; rintro _ ⟨b114, rfl⟩)
 refine A1 7 ?_
 (refine T5 rfl rfl rfl rfl rfl rfl (fun _ _ => by repeat (first | exact Sw.here | apply Sw.there)) (P9 (by repeat first | exact mH | apply mT)) rfl (fun u hu => List.all_eq_true.1 huo u hu) (by unfold maxLen; omega) (by omega) rfl rfl (by repeat (first | exact A8.nil | apply A8.dep (by decide +kernel) | apply A8.im (by decide +kernel) (by assumption) (by repeat first | exact mH | apply mT) | apply A8.blk (by decide +kernel) (by repeat (first | exact Pk.here | apply Pk.there)) (by repeat first | exact mH | apply mT))) (fun p7 c7 => ?_))
 refine aP 8 rfl (A9 rfl) rfl ?_
 refine A1 9 ?_
 refine N4 rfl rfl rfl rfl rfl rfl rfl rfl (by decide +kernel) (by repeat first | exact Sw.here | apply Sw.there) (by rfl) ?_
 refine B8 (M8 (nS (tR ?_)))
 refine sP (J6 rfl rfl (by omega) (by omega)) rfl rfl ?_
 refine sQ (qM rfl) rfl (sD ?_)
 refine K0 (i + 1, p7, c7, es' ++ [[v1, v2, v3, v4, v5, v6, v7, v8, v9]], G1) ?_ ?_ ?_
 (simp only [I5]; exact D5)
 (dsimp only; exact ⟨by omega, hle.trans hle1, by rw [A2O (by omega)]; exact C6.snoc (hst.mono hle1) hru⟩)
 (show ks.length - (i + 1) < ks.length - i; omega)
 refine I7 ?_
 (refine H7 (cs := es'.flatten) (by repeat (first | exact Pk.here | apply Pk.there)) (fun G2 hle2 hsl2 hno2 => ?_); obtain rfl : i = ks.length := (by omega))
 refine tT ?_
 refine E2 (rC rfl (A3 rfl rfl)) ?_
 (rw [if_neg (by rintro ⟨h1, h2⟩; first | omega | contradiction), if_neg (by rintro ⟨h1, h2⟩; first | omega | contradiction)]; rw [List.take_of_length_le (by rw [X7]; omega)] at hst; exact R4.mk (A7.put hk hnum hlb (hty.mono hle2) (hfr.mono hle2) (by rw [X7]) (C5.of hsl2 (by omega) hst.all (fun e he => (hst.each e he).2)) (hst.mono hle2)))
 refine L1 ?_
 refine sB (qE rfl rfl) rfl rfl (fun h164 => ?_) (fun h164 => ?_)
 refine I8 ?_
 refine sB (A05 rfl rfl) rfl rfl (fun h169 => ?_) (fun h169 => ?_)
 refine L1 ?_
 refine E2 (rC rfl (A3 rfl rfl)) ?_
 (rw [if_neg (by rintro ⟨h1, h2⟩; first | omega | contradiction), if_pos (by refine ⟨by omega, by assumption⟩)]; exact R4.mk hr0)
 refine J7 ?_
 refine sE (A5 rfl) rfl (fun b197 => ?_)
 refine T4 ?_
 refine B9 ?_
 (refine T9 28 9 ?_; refine K3 (fun (x : Nat × Option Addr × Nat × List (List Value) × IM) => ⟨[(37, .int .i64 x.1), (36, .int .i64 ks.length), (35, .slice p ks.length c), (1, .string y), (3, .pointer (some ⟨b3, 0, none⟩)), (5, .pointer (some ⟨b4, 0, none⟩)), (6, .pointer (some ⟨b5, 0, none⟩)), (7, .pointer (some ⟨b197, 0, none⟩))], [.blk b197 [.int .i64 k, .string nm, .int .i64 num, .int .i64 tk, .slice pt tks.length ct, .int .i64 fk, .slice pf fks.length cf, .int .i64 lb, .slice x.2.1 x.1 x.2.2.1], .slc x.2.1 x.2.2.1 28 9 x.1 x.2.2.2.1.flatten, .blk b5 [.int .i64 0, .string ⟨⟨[]⟩⟩, .int .i64 0, .int .i64 0, .slice none 0 0, .int .i64 0, .slice none 0 0, .int .i64 0, .slice none 0 0], .blk b4 vc, .blk b3 [.int .i64 k, .string nm, .int .i64 num, .int .i64 tk, .slice pt tks.length ct, .int .i64 fk, .slice pf fks.length cf, .int .i64 lb, .slice p ks.length c]], x.2.2.2.2⟩) (fun x => x.1 ≤ ks.length ∧ B6 G x.2.2.2.2 ∧ C6 x.2.2.2.2 ((P3 y v ks).take x.1) x.2.2.2.1) (fun x => ks.length - x.1) (0, none, 0, [], G) ?_ ?_ ?_)
 (simp only [I5]; exact D5)
 (exact ⟨Nat.zero_le _, B6.refl _, by simp [C6]⟩)
 (rintro ⟨i, pn, cn, es', Gi⟩ ⟨hi, hle, hst⟩; simp only [] at hi hle hst ⊢; replace hsl := hsl.mono hle; replace hkl := hkl.mono hle; replace hv := hv.mono hle; replace hty := hty.mono hle; replace hfr := hfr.mono hle; have hsl' := hst.len; rw [List.length_take, X7] at hsl')
 refine tS (tR ?_)
 refine sB (K1 rfl rfl) rfl rfl (fun h223 => ?_) (fun h223 => ?_)
 refine sD (nS (tS (qT rfl (tK (nS (tS ?_))))))
 refine B9 ?_
 refine tS (tR ?_)
 (have hil : i < ks.length := (by omega); obtain ⟨bx, ox, e, rfl, hl, hat, hre, hgb⟩ := hsl.kidTm hkl (i := i) (by omega) (by omega); have hel := hre.len; have heo := hre.one; refine sP (B0 (j := i) rfl rfl rfl (by omega)) rfl rfl ?_)
 refine sL (A2 rfl rfl (hat _) hl) rfl rfl ?_
 refine sE (A5 rfl) rfl (fun b236 => ?_)
 refine sS rfl rfl rfl hel heo rfl ?_ (hu := by exact C2 hel.symm)
 refine sD (nS ?_)
 refine C9 D1 rfl ?_
 refine L0 (i := 2) (l' := [ff,ff,tt,ff,ff,ff,ff,ff,ff,ff]) rfl C4 (A2 rfl rfl (A6 (by repeat first | exact mH | apply mT)) hel) rfl (by kernel_rfl) rfl rfl ?_
 refine aL 4 rfl (A2 rfl rfl (A6 (by repeat first | exact mH | apply mT)) hvl) rfl ?_
 refine aP 0 rfl (A9 rfl) rfl ?_
 refine aL 1 rfl (B7 rfl rfl) rfl ?_
 refine aP 3 rfl (qM rfl) rfl ?_
 refine A1 5 ?_
 (refine E1 rfl rfl (ih ks[i] (List.getElem_mem (by omega)) Gi _ (Tm.smallL_mem hks _ (List.getElem_mem (by omega))) hre hv) rfl rfl rfl (fun u G1 hle1 hh => ?_); obtain ⟨uc, rfl, hru⟩ := hh; have hul := hru.len; have huo := hru.one; obtain ⟨v1, v2, v3, v4, v5, v6, v7, v8, v9, rfl⟩ := nine hul)
 refine A1 6 ?_
 (refine D9 rfl (C8 rfl rfl rfl (by omega) (by unfold maxLen; omega) rfl) rfl rfl ?_; rintro _ ⟨b249, rfl⟩)
 refine A1 7 ?_
 (refine T5 rfl rfl rfl rfl rfl rfl (fun _ _ => by repeat (first | exact Sw.here | apply Sw.there)) (P9 (by repeat first | exact mH | apply mT)) rfl (fun u hu => List.all_eq_true.1 huo u hu) (by unfold maxLen; omega) (by omega) rfl rfl (by repeat (first | exact A8.nil | apply A8.dep (by decide +kernel) | apply A8.im (by decide +kernel) (by assumption) (by repeat first | exact mH | apply mT) | apply A8.blk (by decide +kernel) (by repeat (first | exact Pk.here | apply Pk.there)) (by repeat first | exact mH | apply mT))) (fun p7 c7 => ?_))
 refine aP 8 rfl (A9 rfl) rfl ?_
 refine A1 9 ?_
 refine N4 rfl rfl rfl rfl rfl rfl rfl rfl (by decide +kernel) (by repeat first | exact Sw.here | apply Sw.there) (by rfl) ?_
 refine B8 (M8 (nS (tR ?_)))
 refine sP (J6 rfl rfl (by omega) (by omega)) rfl rfl ?_
 refine sQ (qM rfl) rfl (sD ?_)
 refine K0 (i + 1, p7, c7, es' ++ [[v1, v2, v3, v4, v5, v6, v7, v8, v9]], G1) ?_ ?_ ?_
 (simp only [I5]; exact D5)
 (dsimp only; exact ⟨by omega, hle.trans hle1, by rw [A2O (by omega)]; exact C6.snoc (hst.mono hle1) hru⟩)
 (show ks.length - (i + 1) < ks.length - i; omega)
 refine I7 ?_
 (refine H7 (cs := es'.flatten) (by repeat (first | exact Pk.here | apply Pk.there)) (fun G2 hle2 hsl2 hno2 => ?_); obtain rfl : i = ks.length := (by omega))
 refine tT ?_
 refine E2 (rC rfl (A3 rfl rfl)) ?_
 (rw [if_neg (by rintro ⟨h1, h2⟩; first | omega | contradiction), if_neg (by rintro ⟨h1, h2⟩; first | omega | contradiction)]; rw [List.take_of_length_le (by rw [X7]; omega)] at hst; exact R4.mk (A7.put hk hnum hlb (hty.mono hle2) (hfr.mono hle2) (by rw [X7]) (C5.of hsl2 (by omega) hst.all (fun e he => (hst.each e he).2)) (hst.mono hle2)))
 refine K5 ?_
 refine sE (A5 rfl) rfl (fun b301 => ?_)
 refine T4 ?_
 refine B9 ?_
 (refine T9 28 9 ?_; refine K3 (fun (x : Nat × Option Addr × Nat × List (List Value) × IM) => ⟨[(37, .int .i64 x.1), (36, .int .i64 ks.length), (35, .slice p ks.length c), (1, .string y), (3, .pointer (some ⟨b3, 0, none⟩)), (5, .pointer (some ⟨b4, 0, none⟩)), (6, .pointer (some ⟨b5, 0, none⟩)), (7, .pointer (some ⟨b301, 0, none⟩))], [.blk b301 [.int .i64 k, .string nm, .int .i64 num, .int .i64 tk, .slice pt tks.length ct, .int .i64 fk, .slice pf fks.length cf, .int .i64 lb, .slice x.2.1 x.1 x.2.2.1], .slc x.2.1 x.2.2.1 28 9 x.1 x.2.2.2.1.flatten, .blk b5 [.int .i64 0, .string ⟨⟨[]⟩⟩, .int .i64 0, .int .i64 0, .slice none 0 0, .int .i64 0, .slice none 0 0, .int .i64 0, .slice none 0 0], .blk b4 vc, .blk b3 [.int .i64 k, .string nm, .int .i64 num, .int .i64 tk, .slice pt tks.length ct, .int .i64 fk, .slice pf fks.length cf, .int .i64 lb, .slice p ks.length c]], x.2.2.2.2⟩) (fun x => x.1 ≤ ks.length ∧ B6 G x.2.2.2.2 ∧ C6 x.2.2.2.2 ((P3 y v ks).take x.1) x.2.2.2.1) (fun x => ks.length - x.1) (0, none, 0, [], G) ?_ ?_ ?_)
 (simp only [I5]; exact D5)
 (exact ⟨Nat.zero_le _, B6.refl _, by simp [C6]⟩)
 (rintro ⟨i, pn, cn, es', Gi⟩ ⟨hi, hle, hst⟩; simp only [] at hi hle hst ⊢; replace hsl := hsl.mono hle; replace hkl := hkl.mono hle; replace hv := hv.mono hle; replace hty := hty.mono hle; replace hfr := hfr.mono hle; have hsl' := hst.len; rw [List.length_take, X7] at hsl')
 refine tS (tR ?_)
 refine sB (K1 rfl rfl) rfl rfl (fun h327 => ?_) (fun h327 => ?_)
 refine sD (nS (tS (qT rfl (tK (nS (tS ?_))))))
 refine B9 ?_
 refine tS (tR ?_)
 (have hil : i < ks.length := (by omega); obtain ⟨bx, ox, e, rfl, hl, hat, hre, hgb⟩ := hsl.kidTm hkl (i := i) (by omega) (by omega); have hel := hre.len; have heo := hre.one; refine sP (B0 (j := i) rfl rfl rfl (by omega)) rfl rfl ?_)
 refine sL (A2 rfl rfl (hat _) hl) rfl rfl ?_
 refine sE (A5 rfl) rfl (fun b340 => ?_)
 refine sS rfl rfl rfl hel heo rfl ?_ (hu := by exact C2 hel.symm)
 refine sD (nS ?_)
 refine C9 D1 rfl ?_
 refine L0 (i := 2) (l' := [ff,ff,tt,ff,ff,ff,ff,ff,ff,ff]) rfl C4 (A2 rfl rfl (A6 (by repeat first | exact mH | apply mT)) hel) rfl (by kernel_rfl) rfl rfl ?_
 refine aL 4 rfl (A2 rfl rfl (A6 (by repeat first | exact mH | apply mT)) hvl) rfl ?_
 refine aP 0 rfl (A9 rfl) rfl ?_
 refine aL 1 rfl (B7 rfl rfl) rfl ?_
 refine aP 3 rfl (qM rfl) rfl ?_
 refine A1 5 ?_
 (refine E1 rfl rfl (ih ks[i] (List.getElem_mem (by omega)) Gi _ (Tm.smallL_mem hks _ (List.getElem_mem (by omega))) hre hv) rfl rfl rfl (fun u G1 hle1 hh => ?_); obtain ⟨uc, rfl, hru⟩ := hh; have hul := hru.len; have huo := hru.one; obtain ⟨v1, v2, v3, v4, v5, v6, v7, v8, v9, rfl⟩ := nine hul)
 refine A1 6 ?_
 (refine D9 rfl (C8 rfl rfl rfl (by omega) (by unfold maxLen; omega) rfl) rfl rfl ?_; rintro _ ⟨b353, rfl⟩)
 refine A1 7 ?_
 (refine T5 rfl rfl rfl rfl rfl rfl (fun _ _ => by repeat (first | exact Sw.here | apply Sw.there)) (P9 (by repeat first | exact mH | apply mT)) rfl (fun u hu => List.all_eq_true.1 huo u hu) (by unfold maxLen; omega) (by omega) rfl rfl (by repeat (first | exact A8.nil | apply A8.dep (by decide +kernel) | apply A8.im (by decide +kernel) (by assumption) (by repeat first | exact mH | apply mT) | apply A8.blk (by decide +kernel) (by repeat (first | exact Pk.here | apply Pk.there)) (by repeat first | exact mH | apply mT))) (fun p7 c7 => ?_))
 refine aP 8 rfl (A9 rfl) rfl ?_
 refine A1 9 ?_
 refine N4 rfl rfl rfl rfl rfl rfl rfl rfl (by decide +kernel) (by repeat first | exact Sw.here | apply Sw.there) (by rfl) ?_
 refine B8 (M8 (nS (tR ?_)))
 refine sP (J6 rfl rfl (by omega) (by omega)) rfl rfl ?_
 refine sQ (qM rfl) rfl (sD ?_)
 refine K0 (i + 1, p7, c7, es' ++ [[v1, v2, v3, v4, v5, v6, v7, v8, v9]], G1) ?_ ?_ ?_
 (simp only [I5]; exact D5)
 (dsimp only; exact ⟨by omega, hle.trans hle1, by rw [A2O (by omega)]; exact C6.snoc (hst.mono hle1) hru⟩)
 (show ks.length - (i + 1) < ks.length - i; omega)
 refine I7 ?_
 (refine H7 (cs := es'.flatten) (by repeat (first | exact Pk.here | apply Pk.there)) (fun G2 hle2 hsl2 hno2 => ?_); obtain rfl : i = ks.length := (by omega))
 refine tT ?_
 refine E2 (rC rfl (A3 rfl rfl)) ?_
 (rw [if_neg (by rintro ⟨h1, h2⟩; first | omega | contradiction), if_neg (by rintro ⟨h1, h2⟩; first | omega | contradiction)]; rw [List.take_of_length_le (by rw [X7]; omega)] at hst; exact R4.mk (A7.put hk hnum hlb (hty.mono hle2) (hfr.mono hle2) (by rw [X7]) (C5.of hsl2 (by omega) hst.all (fun e he => (hst.each e he).2)) (hst.mono hle2)))
mutual
def A0n (g : Int → Tm → Tm × Int) : Tm → Int → Tm × Int
 | .mk k nm num ty fr lb ks, n => g (V0 g ks n).2 (.mk k nm num ty fr lb (V0 g ks n).1)
def V0 (g : Int → Tm → Tm × Int) : List Tm → Int → List Tm × Int
 | [], n => ([], n)
 | t :: ts, n => ((A0n g t n).1 :: (V0 g ts (A0n g t n).2).1, (V0 g ts (A0n g t n).2).2)
end
theorem A5N (g : Int → Tm → Tm × Int) : ∀ (ks : List Tm) (n : Int) (i : Nat) (h : i < ks.length),
  V0 g (ks.take (i + 1)) n = ((V0 g (ks.take i) n).1 ++ [(A0n g ks[i] (V0 g (ks.take i) n).2).1], (A0n g ks[i] (V0 g (ks.take i) n).2).2)
 | [], _, _, h => by simp at h
 | t :: ts, n, 0, _ => by simp [V0]
 | t :: ts, n, i + 1, h => by
  simp only [List.take_succ_cons, V0, List.getElem_cons_succ]
  rw [A5N g ts _ i (by simpa using h)]
  rfl
theorem A8v (g : Int → Tm → Tm × Int) : ∀ (ks : List Tm) (n : Int), (V0 g ks n).1.length = ks.length
 | [], _ => rfl
 | t :: ts, n => by rw [V0]; simp only [List.length_cons]; rw [A8v g ts]
mutual
def A2P (Q : Int → Tm → Prop) (g : Int → Tm → Tm × Int) : Tm → Int → Prop
 | .mk k nm num ty fr lb ks, n => A1S Q g ks n ∧ Q (V0 g ks n).2 (.mk k nm num ty fr lb (V0 g ks n).1)
def A1S (Q : Int → Tm → Prop) (g : Int → Tm → Tm × Int) : List Tm → Int → Prop
 | [], _ => True
 | t :: ts, n => A2P Q g t n ∧ A1S Q g ts (A0n g t n).2
end
theorem A8w {Q : Int → Tm → Prop} {g : Int → Tm → Tm × Int} : ∀ {ks : List Tm} {n : Int}, A1S Q g ks n → ∀ (i : Nat) (h : i < ks.length), A2P Q g ks[i] (V0 g (ks.take i) n).2
 | [], _, _, _, h => by simp at h
 | t :: ts, n, hq, 0, _ => by rw [A1S] at hq; simpa [V0] using hq.1
 | t :: ts, n, hq, i + 1, h => by
  rw [A1S] at hq
  simp only [List.take_succ_cons, V0, List.getElem_cons_succ]
  exact A8w hq.2 i (by simpa using h)
def A8x (g : Int → Tm → Tm × Int) (Q : Int → Tm → Prop) (E : Int → A4) (fid : FuncId) (us cs : List Value) : Prop := ∀ (n : Int) (t : Tm) (G : IM) (cells : List Value), Q n t → A7 G t cells →
 Fn Tryz.prog fid (us ++ [.agg ⟨cells⟩] ++ cs) [E n] G (fun G' v outs => outs = [E (g n t).2] ∧ ∃ cells', v = .agg ⟨cells'⟩ ∧ A7 G' (g n t).1 cells')
theorem B2E (g : Int → Tm → Tm × Int) (Q : Int → Tm → Prop) (E : Int → A4) (fid : FuncId) [B4 Tryz.prog fid] (us cs : List Value) (hg : A8x g Q E fid us cs) : ∀ (t : Tm) (n : Int) (G : IM) (cells : List Value), A2P Q g t n → t.small → A7 G t cells →
  Fn Tryz.prog 76 [.agg ⟨cells⟩, .func (.func fid) ⟨us⟩ ⟨cs⟩] [E n] G (fun G' v outs => outs = [E (A0n g t n).2] ∧ ∃ cells', v = .agg ⟨cells'⟩ ∧ A7 G' (A0n g t n).1 cells') := by
 refine Tm.ind fun k nm num ty fr lb ks ih n G cells hmo hts hr => ?_
 have hone := hr.one
 rw [A2P] at hmo
 obtain ⟨hmoL, hQ⟩ := hmo
 simp only [Tm.small] at hts
 obtain ⟨hnm, hty', hfr', hsm, hks⟩ := hts
 have hgL : A0n g (.mk k nm num ty fr lb ks) n = g (V0 g ks n).2 (.mk k nm num ty fr lb (V0 g ks n).1) := by rw [A0n]
 have hstep := A5N g ks n
 have hget := fun i h => A8w hmoL i h
 have h0 : V0 g (ks.take 0) n = ([], n) := rfl
 have hmlen := A8v g ks n
 obtain ⟨tk, tks⟩ := ty
 obtain ⟨fk, fks⟩ := fr
 obtain ⟨pt, ct, pf, cf, p, c, es, rfl, hk, hnum, hlb, hty, hfr, hsl, hkl⟩ := hr.open9
 have hn := hsl.le
 refine B5 Tryz.func76 rfl Tryz.ntmps76 Tryz.results76 rfl ?_
 intro w0
 refine tS (tR ?_)
 refine sE (C0 rfl rfl) rfl (fun b3 => ?_)
 refine sE (A5 rfl) rfl (fun b4 => ?_)
 refine K5 ?_
 refine B9 ?_
 (refine T9 28 9 ?_; refine K3 (fun (x : Nat × Option Addr × Nat × List (List Value) × List Tm × Int × IM) => ⟨[(11, .int .i64 x.1), (10, .int .i64 ks.length), (9, .slice p ks.length c), (5, .slice x.2.1 x.1 x.2.2.1), (2, .pointer (some ⟨b3, 0, none⟩)), (1, .func (.func fid) ⟨us⟩ ⟨cs⟩), (4, .pointer (some ⟨b4, 0, none⟩))], [.slc x.2.1 x.2.2.1 28 9 x.1 x.2.2.2.1.flatten, .blk b4 [.int .i64 0, .string ⟨⟨[]⟩⟩, .int .i64 0, .int .i64 0, .slice none 0 0, .int .i64 0, .slice none 0 0, .int .i64 0, .slice none 0 0], .blk b3 [.int .i64 k, .string nm, .int .i64 num, .int .i64 tk, .slice pt tks.length ct, .int .i64 fk, .slice pf fks.length cf, .int .i64 lb, .slice p ks.length c], E x.2.2.2.2.2.1], x.2.2.2.2.2.2⟩) (fun x => x.1 ≤ ks.length ∧ B6 G x.2.2.2.2.2.2 ∧ V0 g (ks.take x.1) n = (x.2.2.2.2.1, x.2.2.2.2.2.1) ∧ C6 x.2.2.2.2.2.2 x.2.2.2.2.1 x.2.2.2.1) (fun x => ks.length - x.1) (0, none, 0, [], [], n, G) ?_ ?_ ?_)
 (simp only [I5]; exact D5)
 (exact ⟨Nat.zero_le _, B6.refl _, h0, by simp only [C6]⟩)
 (rintro ⟨i, pn, cn, es', ms, m, Gi⟩ ⟨hi, hle, hmm, hst⟩; simp only [] at hi hle hmm hst ⊢; replace hsl := hsl.mono hle; replace hkl := hkl.mono hle)
 refine tS (tR ?_)
 refine sB (K1 rfl rfl) rfl rfl (fun h28 => ?_) (fun h28 => ?_)
 refine sD (nS (tS (qT rfl (tK (nS (tS ?_))))))
 refine B9 ?_
 refine tS (tR ?_)
 (have hst9 := hstep i (by omega); have hgi := hget i (by omega); rw [hmm] at hst9 hgi; obtain ⟨b, o, e, rfl, hl, hat, hre, hgb⟩ := hsl.kidTm hkl (i := i) (by omega) (by omega); have hone := hre.one; refine sP (B0 rfl rfl rfl (by omega)) rfl rfl ?_)
 refine sL (A2 rfl rfl (hat _) hl) rfl rfl ?_
 refine sE (A5 rfl) rfl (fun b41 => ?_)
 refine sS rfl rfl rfl hl hone rfl ?_ (hu := by exact C2 hl.symm)
 refine sD (nS (tR (sQ (qM rfl) rfl ?_)))
 refine sL (A2 rfl rfl (A6 (by repeat first | exact mH | apply mT)) (by assumption)) rfl rfl ?_
 refine sQ (qM rfl) rfl ?_
 (refine H1 rfl (ih ks[i] (List.getElem_mem (by omega)) m _ _ hgi (Tm.smallL_mem hks _ (List.getElem_mem (by omega))) hre) (Pk.perm (by repeat (first | exact Pk.here | apply Pk.there))) rfl rfl (fun v G3 outs hle3 hh => ?_); obtain ⟨rfl, cells', rfl, hs'⟩ := hh; have hlc := hs'.len; have hoc := hs'.one; have hsn := C6.snoc (hst.mono hle3) hs')
 (obtain ⟨v1, v2, v3, v4, v5, v6, v7, v8, v9, rfl⟩ := nine hlc)
 (refine J5 (C8 rfl rfl rfl (by omega) (by unfold maxLen; omega) rfl) rfl ?_; rintro _ ⟨b51, rfl⟩)
 refine A07 rfl rfl rfl rfl rfl (fun _ _ => by repeat (first | exact Sw.here | apply Sw.there)) (P9 (by repeat first | exact mH | apply mT)) rfl (fun u hu => List.all_eq_true.1 hoc u hu) (by unfold maxLen; omega) (by omega) rfl (fun pn' cn' => ?_)
 refine sQ (qA rfl) rfl (sD (M8 (nS (tR ?_))))
 refine sP (J6 rfl rfl (by omega) (by omega)) rfl rfl ?_
 refine sQ (qM rfl) rfl (sD ?_)
 refine K0 (i + 1, pn', cn', es' ++ [[v1, v2, v3, v4, v5, v6, v7, v8, v9]], ms ++ [(A0n g ks[i] m).1], (A0n g ks[i] m).2, G3) ?_ ?_ ?_
 (simp only [I5]; exact D5)
 exact ⟨by omega, hle.trans hle3, hst9, hsn⟩
 (show ks.length - (i + 1) < ks.length - i; omega)
 refine H8 ?_
 (obtain rfl : i = ks.length := (by omega); rw [List.take_length] at hmm; rw [hmm] at hQ hgL hmlen; simp only [] at hQ hgL hmlen; refine A0j (by repeat (first | exact Pk.here | apply Pk.there)) (fun G2 hle2 hsl2 hno2 => ?_); have hleG := hle.trans hle2; have hT := A1u (.mk tk tks) G2 _ hty' (hty.mono hleG); refine C9 D1 rfl ?_)
 refine H6 (i := 0) (l' := [tt,ff,ff,ff,ff,ff,ff,ff,ff,ff,ff,ff,ff]) rfl C4 (A9 rfl) rfl (by kernel_rfl) rfl rfl ?_
 refine aL 1 rfl (A3 rfl rfl) rfl ?_
 refine aP 3 rfl (A9 rfl) rfl ?_
 refine aL 4 rfl (A3 rfl rfl) rfl ?_
 refine aP 6 rfl (qM rfl) rfl ?_
 refine A1 2 ?_
 (refine E1 rfl rfl hT rfl rfl rfl (fun v G4 hle4 hh => ?_); obtain ⟨N6, F1, rfl, hs1, hn1⟩ := hh; obtain ⟨p1, c1, rfl, _⟩ := hs1.open; have hF := A1u (.mk fk fks) G4 _ hfr' (hfr.mono (hleG.trans hle4)))
 refine aP 7 rfl (A9 rfl) rfl ?_
 refine A1 5 ?_
 (refine E1 rfl rfl hF rfl rfl rfl (fun v G5 hle5 hh => ?_); obtain ⟨cs2, F2, rfl, hs2, hn2⟩ := hh; obtain ⟨p2, c2, rfl, _⟩ := hs2.open; have hst5 := hst.mono ((hle2.trans hle4).trans hle5); have hR5 := A7.put (nm := nm) (us := ms) hk hnum hlb ((hs1.R.mono (C1.le _ _)).mono hle5) (hs2.R.mono (C1.le _ _)) hmlen.symm ((C5.of hsl2 (by rw [hst.len, hmlen]) hst.all (fun e he => by obtain ⟨j, hj⟩ := List.getElem?_of_mem he; exact (hst.inv hj I3).2.one)).mono (hle4.trans hle5)) hst5; have hch := hg m _ G5 _ hQ hR5)
 refine A1 8 ?_
 refine F0 rfl ?_
 refine aP 9 rfl (A9 rfl) rfl ?_
 refine A1 10 ?_
 refine N4 rfl rfl rfl rfl rfl rfl rfl rfl (by decide +kernel) (by repeat first | exact Sw.here | apply Sw.there) (by rfl) ?_
 refine aP 11 rfl (A9 rfl) rfl ?_
 refine A1 12 ?_
 refine N4 rfl rfl rfl rfl rfl rfl rfl rfl (by decide +kernel) (by repeat first | exact Sw.here | apply Sw.there) (by rfl) ?_
 refine I1 ?_
 (refine J5 (A3U rfl rfl hch (Pk.perm (by repeat (first | exact Pk.here | apply Pk.there))) rfl) rfl ?_; rintro _ ⟨v, G7, outs, rfl, hle7, rfl, cells7, rfl, hs7⟩; have hl7 := hs7.len; have ho7 := hs7.one)
 refine sS rfl rfl rfl hl7 ho7 rfl ?_ (hu := by exact C2 hl7.symm)
 refine sD (nS (tT ?_))
 refine H4 (outs := [E (g m (.mk k nm num (.mk tk tks) (.mk fk fks) lb ms)).2]) (rC rfl (A2 rfl rfl (A6 (by repeat first | exact mH | apply mT)) hl7)) (by repeat (first | exact A0.nil | refine A0.cons Pk.here ?_ | refine A0.cons (Pk.there Pk.here) ?_ | refine A0.cons (Pk.there (Pk.there Pk.here)) ?_ | apply A0.drop)) ?_
 (rw [hgL]; exact ⟨rfl, cells7, rfl, hs7⟩)
def B6h (g : Tm → Tm) (Q : Tm → Prop) (fid : FuncId) (us cs : List Value) : Prop := ∀ (t : Tm) (G : IM) (cells : List Value), Q t → A7 G t cells → Fn Tryz.prog fid (us ++ [.agg ⟨cells⟩] ++ cs) [] G (R4 (g t))
end Gw
end Go.Proofs.YtfpgncjeejickaaGreatDoor
namespace Go.Proofs.YtfpgncjeejickaaGreatDoor
namespace Gw
inductive GT where
 | any | int | bool
 | fn (a b : GT)
 | pr (a b : GT)
inductive GE where
 | var (x : ByteArray)
 | num (n : Int)
 | tru (b : Bool)
 | lam (x : ByteArray) (A : GT) (e : GE)
 | app (f a : GE)
 | ar (s : Bool) (a b : GE)
 | ite (c a b : GE)
 | pair (a b : GE)
 | part (s : Bool) (e : GE)
 | cast (A B : GT) (l : Int) (e : GE)
def GT.gr : GT → GT
 | .any => .any
 | .int => .int
 | .bool => .bool
 | .fn _ _ => .fn .any .any
 | .pr _ _ => .pr .any .any
def GT.Gd (t : GT) : Prop := t ≠ .any ∧ t.gr = t
inductive Co : GT → GT → Prop
 | l {b} : Co .any b
 | r {a} : Co a .any
 | int : Co .int .int
 | bool : Co .bool .bool
 | fn {a b a' b'} : Co a a' → Co b b' → Co (.fn a b) (.fn a' b')
 | pr {a b a' b'} : Co a a' → Co b b' → Co (.pr a b) (.pr a' b')
inductive Le : GT → GT → Prop
 | any {a} : Le a .any
 | int : Le .int .int
 | bool : Le .bool .bool
 | fn {a b a' b'} : Le a a' → Le b b' → Le (.fn a b) (.fn a' b')
 | pr {a b a' b'} : Le a a' → Le b b' → Le (.pr a b) (.pr a' b')
theorem Le.refl : ∀ {a : GT}, Le a a
 | .any => .any
 | .int => .int
 | .bool => .bool
 | .fn _ _ => .fn Le.refl Le.refl
 | .pr _ _ => .pr Le.refl Le.refl
def GE.sub : GE → ByteArray → GE → GE
 | .var y, x, v => if y = x then v else .var y
 | .num n, _, _ => .num n
 | .tru b, _, _ => .tru b
 | .lam y A e, x, v => if y = x then .lam y A e else .lam y A (e.sub x v)
 | .app f a, x, v => .app (f.sub x v) (a.sub x v)
 | .ar s a b, x, v => .ar s (a.sub x v) (b.sub x v)
 | .ite c a b, x, v => .ite (c.sub x v) (a.sub x v) (b.sub x v)
 | .pair a b, x, v => .pair (a.sub x v) (b.sub x v)
 | .part s e, x, v => .part s (e.sub x v)
 | .cast A B l e, x, v => .cast A B l (e.sub x v)
inductive GV : GE → Prop
 | num {n} : GV (.num n)
 | tru {b} : GV (.tru b)
 | lam {x A e} : GV (.lam x A e)
 | pair {a b} : GV a → GV b → GV (.pair a b)
 | pf {a b c d l e} : GV e → GV (.cast (.fn a b) (.fn c d) l e)
 | pp {a b c d l e} : GV e → GV (.cast (.pr a b) (.pr c d) l e)
 | inj {A l e} : GV e → A.Gd → GV (.cast A .any l e)
def A8y (s : Bool) (m n : Int) : GE := if s = true then .tru (decide (m < n)) else .num ((m + n) % 1000)
inductive GS : GE → GE → Prop
 | app1 {f f' a} : GS f f' → GS (.app f a) (.app f' a)
 | app2 {f a a'} : GV f → GS a a' → GS (.app f a) (.app f a')
 | ar1 {s a a' b} : GS a a' → GS (.ar s a b) (.ar s a' b)
 | ar2 {s a b b'} : GV a → GS b b' → GS (.ar s a b) (.ar s a b')
 | ite1 {c c' a b} : GS c c' → GS (.ite c a b) (.ite c' a b)
 | pair1 {a a' b} : GS a a' → GS (.pair a b) (.pair a' b)
 | pair2 {a b b'} : GV a → GS b b' → GS (.pair a b) (.pair a b')
 | part1 {s e e'} : GS e e' → GS (.part s e) (.part s e')
 | cast1 {A B l e e'} : GS e e' → GS (.cast A B l e) (.cast A B l e')
 | beta {x A b v} : GV v → GS (.app (.lam x A b) v) (b.sub x v)
 | appx {a b c d l f v} : GV f → GV v → GS (.app (.cast (.fn a b) (.fn c d) l f) v) (.cast b d l (.app f (.cast c a (-l) v)))
 | ar {s m n} : GS (.ar s (.num m) (.num n)) (A8y s m n)
 | ite {b x y} : GS (.ite (.tru b) x y) (if b = true then x else y)
 | part {s a b} : GV a → GV b → GS (.part s (.pair a b)) (if s = true then b else a)
 | partx {s a b c d l e} : GV e → GS (.part s (.cast (.pr a b) (.pr c d) l e)) (.cast (if s = true then b else a) (if s = true then d else c) l (.part s e))
 | cid {A l v} : GV v → (A = .any ∨ A = .int ∨ A = .bool) → GS (.cast A A l v) v
 | up {A l v} : GV v → A ≠ .any → A.gr ≠ A → GS (.cast A .any l v) (.cast A.gr .any l (.cast A A.gr l v))
 | down {B l v} : GV v → B ≠ .any → B.gr ≠ B → GS (.cast .any B l v) (.cast B.gr B l (.cast .any B.gr l v))
 | hit {G l m w} : GV w → G.Gd → GS (.cast .any G l (.cast G .any m w)) w
theorem GV.noS {e : GE} (h : GV e) : ∀ r, ¬ GS e r := by
 induction h with
 | num => intro r s; cases s
 | tru => intro r s; cases s
 | lam => intro r s; cases s
 | pair _ _ i j =>
  intro r s
  cases s with
  | pair1 s => exact i _ s
  | pair2 _ s => exact j _ s
 | pf _ i =>
  intro r s
  cases s with
  | cast1 s => exact i _ s
  | cid _ h => rcases h with h | h | h <;> cases h
 | pp _ i =>
  intro r s
  cases s with
  | cast1 s => exact i _ s
  | cid _ h => rcases h with h | h | h <;> cases h
 | inj _ hg i =>
  intro r s
  cases s with
  | cast1 s => exact i _ s
  | cid _ h => exact hg.1 rfl
  | up _ _ h => exact h hg.2
  | down _ h => exact h rfl
  | hit _ h => exact h.1 rfl
theorem GV.ofCast {A B : GT} {l : Int} {e : GE} (h : GV (.cast A B l e)) : GV e := by cases h <;> assumption
inductive Ss : GE → GE → Prop
 | refl {e} : Ss e e
 | step {a b c} : GS a b → Ss b c → Ss a c
abbrev GC := ByteArray → Option (GT × GT)
def emp : GC := fun _ => none
def gup (Γ : GC) (x : ByteArray) (A A' : GT) : GC := fun y => if x = y then some (A, A') else Γ y
inductive GP : GC → GE → GE → GT → GT → Prop
 | var {Γ x A A'} : Γ x = some (A, A') → Le A A' → GP Γ (.var x) (.var x) A A'
 | num {Γ n} : GP Γ (.num n) (.num n) .int .int
 | tru {Γ b} : GP Γ (.tru b) (.tru b) .bool .bool
 | lam {Γ x A A' B B' e e'} : Le A A' → GP (gup Γ x A A') e e' B B' → GP Γ (.lam x A e) (.lam x A' e') (.fn A B) (.fn A' B')
 | app {Γ f f' a a' A A' B B'} : GP Γ f f' (.fn A B) (.fn A' B') → GP Γ a a' A A' → GP Γ (.app f a) (.app f' a') B B'
 | ar {Γ s a a' b b'} : GP Γ a a' .int .int → GP Γ b b' .int .int → GP Γ (.ar s a b) (.ar s a' b') (if s = true then .bool else .int) (if s = true then .bool else .int)
 | ite {Γ c c' a a' b b' A A'} : GP Γ c c' .bool .bool → GP Γ a a' A A' → GP Γ b b' A A' → GP Γ (.ite c a b) (.ite c' a' b') A A'
 | pair {Γ a a' b b' A A' B B'} : GP Γ a a' A A' → GP Γ b b' B B' → GP Γ (.pair a b) (.pair a' b') (.pr A B) (.pr A' B')
 | part {Γ s e e' A A' B B'} : GP Γ e e' (.pr A B) (.pr A' B') → GP Γ (.part s e) (.part s e') (if s = true then B else A) (if s = true then B' else A')
 | castL {Γ e e' A B A' l} : GP Γ e e' A A' → Co A B → Le B A' → GP Γ (.cast A B l e) e' B A'
 | castR {Γ e e' A A' B' l} : GP Γ e e' A A' → Co A' B' → Le A B' → GP Γ e (.cast A' B' l e') A B'
 | castB {Γ e e' A B A' B' l l'} : GP Γ e e' A A' → Co A B → Co A' B' → Le B B' → GP Γ (.cast A B l e) (.cast A' B' l' e') B B'
inductive GX where
 | n (n : Int) | b (b : Bool) | p | f
def GE.tx : GE → GX
 | .num n => .n n
 | .tru b => .b b
 | .pair _ _ => .p
 | .cast _ (.fn _ _) _ _ => .f
 | .cast _ (.pr _ _) _ _ => .p
 | .cast _ _ _ e => e.tx
 | _ => .f
theorem B2F {Γ : GC} {v v' : GE} {U U' : GT} (h : GP Γ v v' U U') : ∀ {A B : GT}, Γ = emp → U = .fn A B → GV v → v.tx = .f := by
 induction h with
 | castR _ _ _ i => exact i
 | castL _ _ _ _ => intro A B _ hU hv; subst hU; cases hv; rfl
 | castB _ _ _ _ _ => intro A B _ hU hv; subst hU; cases hv; rfl
 | lam _ _ _ => intro _ _ _ _ _; rfl
 | app _ _ _ _ => intro _ _ _ _ hv; cases hv
 | ite _ _ _ _ _ _ => intro _ _ _ _ hv; cases hv
 | part _ _ => intro _ _ _ _ hv; cases hv
 | ar _ _ _ _ => intro _ _ _ _ hv; cases hv
 | var _ _ => intro _ _ _ _ hv; cases hv
 | _ => intro _ _ _ hU; cases hU
theorem B2G {Γ : GC} {v v' : GE} {U U' : GT} (h : GP Γ v v' U U') : ∀ {A B : GT}, Γ = emp → U = .pr A B → GV v → v.tx = .p := by
 induction h with
 | castR _ _ _ i => exact i
 | castL _ _ _ _ => intro A B _ hU hv; subst hU; cases hv; rfl
 | castB _ _ _ _ _ => intro A B _ hU hv; subst hU; cases hv; rfl
 | pair _ _ _ _ => intro _ _ _ _ _; rfl
 | app _ _ _ _ => intro _ _ _ _ hv; cases hv
 | ite _ _ _ _ _ _ => intro _ _ _ _ hv; cases hv
 | part _ _ => intro _ _ _ _ hv; cases hv
 | ar _ _ _ _ => intro _ _ _ _ hv; cases hv
 | var _ _ => intro _ _ _ _ hv; cases hv
 | _ => intro _ _ _ hU; cases hU
def GT.ty : GT → Ty
 | .any => .mk 1 []
 | .int => .mk 2 []
 | .bool => .mk 3 []
 | .fn a b => .mk 4 [a.ty, b.ty]
 | .pr a b => .mk 5 [a.ty, b.ty]
def GE.tm : GE → Tm
 | .var x => .mk 1 x 0 B1 B1 0 []
 | .num n => .mk 2 ⟨#[]⟩ n B1 B1 0 []
 | .tru b => .mk (if b = true then 3 else 4) ⟨#[]⟩ 0 B1 B1 0 []
 | .lam x A e => .mk 5 x 0 A.ty B1 0 [e.tm]
 | .app f a => .mk 6 ⟨#[]⟩ 0 B1 B1 0 [f.tm, a.tm]
 | .ar s a b => .mk (if s = true then 8 else 7) ⟨#[]⟩ 0 B1 B1 0 [a.tm, b.tm]
 | .ite c a b => .mk 9 ⟨#[]⟩ 0 B1 B1 0 [c.tm, a.tm, b.tm]
 | .pair a b => .mk 10 ⟨#[]⟩ 0 B1 B1 0 [a.tm, b.tm]
 | .part s e => .mk (if s = true then 12 else 11) ⟨#[]⟩ 0 B1 B1 0 [e.tm]
 | .cast A B l e => .mk 14 ⟨#[]⟩ 0 B.ty A.ty l [e.tm]
theorem GT.inj : ∀ {a b : GT}, a.ty = b.ty → a = b := by
 intro a
 induction a with
 | any => intro b h; cases b <;> first | rfl | (simp [GT.ty] at h)
 | int => intro b h; cases b <;> first | rfl | (simp [GT.ty] at h)
 | bool => intro b h; cases b <;> first | rfl | (simp [GT.ty] at h)
 | fn a1 a2 i j =>
  intro b h
  cases b with
  | fn b1 b2 => simp only [GT.ty, Ty.mk.injEq, List.cons.injEq, true_and, and_true] at h; rw [i h.1, j h.2]
  | _ => simp [GT.ty] at h
 | pr a1 a2 i j =>
  intro b h
  cases b with
  | pr b1 b2 => simp only [GT.ty, Ty.mk.injEq, List.cons.injEq, true_and, and_true] at h; rw [i h.1, j h.2]
  | _ => simp [GT.ty] at h
theorem A8z (a : GT) : U2 a.ty = a.gr.ty := by cases a <;> rfl
theorem A2Q {a : GT} : a.ty.k = 1 ↔ a = .any := by cases a <;> simp [GT.ty, Ty.k]
theorem A4u {a : GT} : T8 a.ty = true ↔ a.Gd := by
 unfold T8 GT.Gd
 rw [Bool.and_eq_true, decide_eq_true_eq, V8, A8z, Ne, A2Q]
 constructor
 ·rintro ⟨h1, h2⟩; exact ⟨h1, (GT.inj h2).symm⟩
 ·rintro ⟨h1, h2⟩; exact ⟨h1, by rw [h2]⟩
theorem B2H {a : GT} (h : ¬a.Gd) : T8 a.ty = false := by
 cases h2 : T8 a.ty with
 | false => rfl
 | true => exact absurd (A4u.1 h2) h
theorem W5 : ∀ e : GE, E7 e.tm = true ↔ GV e := by
 intro e
 induction e with
 | var x => rw [GE.tm, E7]; simp; intro h; cases h
 | num n => rw [GE.tm, E7]; simp; exact .num
 | tru b => rw [GE.tm, E7]; cases b <;> (simp; exact .tru)
 | lam x A e _ => rw [GE.tm, E7]; simp; exact .lam
 | app f a _ _ => rw [GE.tm, E7]; simp; intro h; cases h
 | ar s a b _ _ => rw [GE.tm, E7]; cases s <;> (simp; intro h; cases h)
 | ite c a b _ _ _ => rw [GE.tm, E7]; simp; intro h; cases h
 | pair a b i j =>
  rw [GE.tm, E7, if_pos (.inl rfl), A0e, A0e, A0e, Bool.and_true, Bool.and_eq_true, i, j]
  exact ⟨fun h => .pair h.1 h.2, fun h => by cases h with | pair a b => exact ⟨a, b⟩⟩
 | part s e _ => rw [GE.tm, E7]; cases s <;> (simp; intro h; cases h)
 | cast A B l e i =>
  rw [GE.tm, E7]
  by_cases hp : A.ty.k = B.ty.k ∧ (B.ty.k = 4 ∨ B.ty.k = 5)
  ·rw [if_pos (.inr (.inl ⟨rfl, hp⟩)), A0e, A0e, Bool.and_true, i]
   constructor
   ·intro h
    cases B <;> cases A <;> first | exact .pf h | exact .pp h | (exfalso; simp [GT.ty, Ty.k] at hp)
   ·intro h; exact h.ofCast
  ·by_cases hi : B.ty.k = 1 ∧ T8 A.ty = true
   ·rw [if_pos (.inr (.inr ⟨rfl, hi⟩)), A0e, A0e, Bool.and_true, i]
    constructor
    ·intro h
     obtain rfl := A2Q.1 hi.1
     exact .inj h (A4u.1 hi.2)
    ·intro h; exact h.ofCast
   ·rw [if_neg (by rintro (h | h | h); exact absurd h (by decide); exact hp h.2; exact hi h.2)]
    constructor
    ·intro h; exact absurd (of_decide_eq_true h) (by decide)
    ·intro h
     exfalso
     cases h with
     | pf _ => exact hp ⟨rfl, .inl rfl⟩
     | pp _ => exact hp ⟨rfl, .inr rfl⟩
     | inj _ hg => exact hi ⟨rfl, A4u.2 hg⟩
theorem B2I {e : GE} (h : ¬GV e) : E7 e.tm = false := by
 cases h2 : E7 e.tm with
 | false => rfl
 | true => exact absurd ((W5 e).1 h2) h
theorem nv {e r : GE} (h : GS e r) : E7 e.tm = false := B2I fun hv => hv.noS _ h
theorem B2J (x : ByteArray) (v : GE) : ∀ e : GE, (e.sub x v).tm = Q8 x v.tm e.tm := by
 intro e
 induction e with
 | var y =>
  rw [GE.sub, GE.tm, Q8]
  by_cases h : y = x
  ·rw [if_pos h, if_pos ⟨rfl, h⟩]
  ·rw [if_neg h, if_neg (fun c => h c.2), if_neg (by rintro ⟨h, _⟩; exact absurd h (by decide)), GE.tm, P3]
 | num n => rw [GE.sub, GE.tm, Q8]; simp [P3]
 | tru b => rw [GE.sub, GE.tm, Q8]; cases b <;> simp [P3]
 | lam y A e i =>
  by_cases h : y = x
  ·rw [GE.sub, if_pos h, GE.tm, Q8, if_neg (by rintro ⟨h, _⟩; exact absurd h (by decide)), if_pos ⟨rfl, h⟩]
  ·rw [GE.sub, if_neg h, GE.tm, GE.tm, Q8, if_neg (by rintro ⟨h, _⟩; exact absurd h (by decide)), if_neg (fun c => h c.2), i, P3, P3]
 | app f a i j => rw [GE.sub, GE.tm, GE.tm, Q8, i, j]; simp [P3]
 | ar s a b i j => rw [GE.sub, GE.tm, GE.tm, Q8, i, j]; cases s <;> simp [P3]
 | ite c a b i j k => rw [GE.sub, GE.tm, GE.tm, Q8, i, j, k]; simp [P3]
 | pair a b i j => rw [GE.sub, GE.tm, GE.tm, Q8, i, j]; simp [P3]
 | part s e i => rw [GE.sub, GE.tm, GE.tm, Q8, i]; cases s <;> simp [P3]
 | cast A B l e i => rw [GE.sub, GE.tm, GE.tm, Q8, i]; simp [P3]
section
variable {k : Int} {nm : ByteArray} {num : Int} {ty fr : Ty} {lb : Int} {a b c : Tm} {t : Tm} {l : Int}
theorem A2R (h : E7 a = false) (ks : List Tm) (hn : k = 9 ∨ ks.length < 3) (r : Tm) (hs : H0 a = (r, 1, 0)) : H0 (.mk k nm num ty fr lb (a :: ks)) = (.mk k nm num ty fr lb (r :: ks), 1, 0) := by
 have : ∃ n, (if k = 9 then 1 else (a :: ks).length) = n + 1 := ⟨if k = 9 then 0 else ks.length, by split <;> simp⟩
 obtain ⟨n, hn⟩ := this
 rw [H0, hn, Q6, if_neg (by rw [h]; decide), hs]
 simp
theorem A5O (h0 : E7 a = true) (h : E7 b = false) (hk : k ≠ 9) (r : Tm) (hs : H0 b = (r, 1, 0)) : H0 (.mk k nm num ty fr lb [a, b]) = (.mk k nm num ty fr lb [a, r], 1, 0) := by
 rw [H0, if_neg hk]
 simp only [List.length_cons, List.length_nil, Q6, h0, h, if_true, hs]
 simp
theorem A2S (h : E7 a = true) : H0 (.mk k nm num ty fr lb [a]) = N0 k ty fr lb [a] := by
 rw [H0, show (if k = 9 then 1 else [a].length) = 1 by split <;> rfl, Q6, h]
 simp [Q6]
theorem A5P (h : E7 a = true) (h2 : E7 b = true) (hk : k ≠ 9) : H0 (.mk k nm num ty fr lb [a, b]) = N0 k ty fr lb [a, b] := by
 rw [H0, if_neg hk]
 simp [Q6, h, h2]
theorem B2K (h : E7 a = true) : H0 (.mk 9 nm num ty fr lb [a, b, c]) = N0 9 ty fr lb [a, b, c] := by
 rw [H0, if_pos rfl]
 simp [Q6, h]
end
theorem B2L {e r : GE} (h : GS e r) : H0 e.tm = (r.tm, 1, 0) := by
 induction h with
 | app1 s i => rw [GE.tm, A2R (nv s) _ (.inr (by simp)) _ i, GE.tm]
 | app2 v s i => rw [GE.tm, A5O ((W5 _).2 v) (nv s) (by decide) _ i, GE.tm]
 | ar1 s i => rw [GE.tm, A2R (nv s) _ (.inr (by simp)) _ i, GE.tm]
 | @ar2 t _ _ _ v s i => rw [GE.tm, A5O ((W5 _).2 v) (nv s) (by cases t <;> decide) _ i, GE.tm]
 | ite1 s i => rw [GE.tm, A2R (nv s) _ (.inl rfl) _ i, GE.tm]
 | pair1 s i => rw [GE.tm, A2R (nv s) _ (.inr (by simp)) _ i, GE.tm]
 | pair2 v s i => rw [GE.tm, A5O ((W5 _).2 v) (nv s) (by decide) _ i, GE.tm]
 | part1 s i => rw [GE.tm, A2R (nv s) _ (.inr (by simp)) _ i, GE.tm]
 | cast1 s i => rw [GE.tm, A2R (nv s) _ (.inr (by simp)) _ i, GE.tm]
 | beta v =>
  rw [GE.tm, A5P ((W5 _).2 .lam) ((W5 _).2 v) (by decide), B2J]
  rfl
 | appx v w =>
  rw [GE.tm, A5P ((W5 _).2 (.pf v)) ((W5 _).2 w) (by decide)]
  rfl
 | @ar t m n =>
  rw [GE.tm, A5P ((W5 _).2 .num) ((W5 _).2 .num) (by cases t <;> decide)]
  cases t
  ·rfl
  ·unfold A8y
   simp only [if_true]
   show (X6 (m < n), (1 : Int), (0 : Int)) = _
   unfold X6
   by_cases h : m < n
   ·simp only [h, if_true, GE.tm, decide_true]; rfl
   ·simp only [h, if_false, GE.tm, decide_false]; rfl
 | @ite b x y =>
  rw [GE.tm, B2K ((W5 _).2 .tru)]
  cases b <;> rfl
 | @part t a b v w =>
  rw [GE.tm, A2S ((W5 _).2 (.pair v w))]
  cases t <;> rfl
 | @partx t a b c d l e v =>
  rw [GE.tm, A2S ((W5 _).2 (.pp v))]
  cases t <;> rfl
 | @cid A l v hv hA =>
  rw [GE.tm, A2S ((W5 _).2 hv)]
  rcases hA with rfl | rfl | rfl <;> rfl
 | @up A l v hv hA hg =>
  rw [GE.tm, A2S ((W5 _).2 hv)]
  cases A with
  | any => exact absurd rfl hA
  | int => exact absurd rfl hg
  | bool => exact absurd rfl hg
  | _ => rfl
 | @down B l v hv hB hg =>
  rw [GE.tm, A2S ((W5 _).2 hv)]
  have hg' := B2H (a := B) fun h => hg h.2
  unfold N0
  rw [if_neg (by decide), if_neg (by decide), if_neg (by decide), if_neg (by decide), if_pos rfl, if_neg, if_neg, if_pos hg', A8z]
  ·rfl
  ·rw [A2Q]; exact hB
  ·intro h; exact hB (A2Q.1 h.symm)
 | @hit G l m w hv hG =>
  rw [GE.tm, A2S ((W5 _).2 (.inj hv hG))]
  have hg' := A4u.2 hG
  have hi : inj (GE.tm (.cast G .any m w)) = true := by
   rw [GE.tm]; unfold inj; rw [Bool.and_eq_true]; exact ⟨rfl, hg'⟩
  unfold N0
  rw [if_neg (by decide), if_neg (by decide), if_neg (by decide), if_neg (by decide), if_pos rfl, if_neg, if_neg, if_neg (by rw [hg']; decide), if_neg (by show ¬inj (GE.tm (.cast G .any m w)) = false; rw [hi]; decide), if_pos]
  ·rfl
  ·rfl
  ·rw [A2Q]; exact hG.1
  ·intro h; exact hG.1 (A2Q.1 h.symm)
def Bd (e : GE) : Prop := E7 e.tm = false ∧ (H0 e.tm).2.1 = 2
theorem B2M {n : Nat} {e : Tm} (h : (H5 e).2.1 = 1) : H3 (n + 1) e = ((H3 n (H5 e).1).1, (H3 n (H5 e).1).2.1, (H3 n (H5 e).1).2.2.1, (H3 n (H5 e).1).2.2.2 + 1) := by rw [H3, if_pos h]
theorem B2N (G : IM) (p : Option Addr) (n c : Nat) (es : List (List Value)) (h : C5 G p n c 9 es) (h0 : 0 < n) (hn : n ≤ 4294967296) :
  Fn Tryz.prog 219 [.slice p n c] [] G (fun G' v outs => G' = G ∧ ∃ p' c', v = .slice p' n c' ∧ outs = [.slc p' c' 28 9 n es.flatten]) := by
 obtain ⟨hl, hc, hm, hat⟩ := h.sl
 obtain ⟨b, o, full, rfl, hg, hv⟩ := hat.resolve_left (by omega)
 have ho : ∀ u ∈ es.flatten, u.oneCell' = true := by
  intro u hu
  obtain ⟨e, he, hue⟩ := List.mem_flatten.1 hu
  exact List.all_eq_true.1 (h.one e he) u hue
 refine B5 Tryz.func219 rfl Tryz.ntmps219 Tryz.results219 rfl ?_
 intro w0
 refine D7 ?_
 refine sQ (A6K rfl rfl rfl) rfl ?_
 refine sD (nS (cF rfl (tK (nS (tS (tR ?_))))))
 (refine J5 (C8 rfl rfl rfl (by omega) (by unfold maxLen; omega) rfl) rfl ?_; rintro _ ⟨b18, rfl⟩)
 refine sQ (qM rfl) rfl ?_
 refine A07 rfl rfl rfl rfl rfl (fun _ _ => by repeat (first | exact Sw.here | apply Sw.there)) (A3Q hg hv) hl ho (by unfold maxLen; omega) (by omega) rfl (fun pn cn => ?_)
 refine sQ (qA rfl) rfl (sD (nS (tT ?_)))
 refine H4 (rT rfl) A0.refl ?_
 exact ⟨rfl, _, _, by rw [Nat.zero_add], by rw [Nat.zero_add]; rfl⟩
theorem B2O {A C : List Value} {es : List (List Value)} {vs : List Value} {j sz : Nat} (hj : j < es.length) (ha : ∀ e ∈ es, e.length = sz) (hv : vs.length = sz) : R1 (A ++ (es.flatten ++ C)) (A.length + j * sz) vs = some (A ++ ((es.set j vs).flatten ++ C)) := by
 have h := B1f (A := A) (D := es.take j) (e := es[j]) (e' := vs) (R := (es.drop (j + 1)).flatten ++ C) (vs := vs) (i := j) (sz := sz) (off := 0)
  (by rw [List.length_take]; omega) (fun e he => ha e (List.mem_of_mem_take he)) (C2 (by rw [ha _ (List.getElem_mem hj), hv]))
 rw [A5F hj, A8b hj]
 simp only [List.append_assoc, Nat.add_zero] at h ⊢
 exact h
theorem At.mono' {hp : List A4} {G G' : IM} {b o : Nat} {vs : List Value} (hg : B6 G G') (h : At [] G b o vs) : At hp G' b o vs := by
 rcases h with ⟨cs, hm, hv⟩ | ⟨n, c, el, sz, cs, hm, hv⟩ | ⟨full, hx, hv⟩
 ·cases hm
 ·cases hm
 ·exact .inr (.inr ⟨full, hg _ _ hx, hv⟩)
end Gw
end Go.Proofs.YtfpgncjeejickaaGreatDoor
