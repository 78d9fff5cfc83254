/-
  Terms with coercions as data: how they lie in memory.
-/
import Derived.Test.YtmceanphadildaaGreatDoorKa7
import Derived.Test.YtmceanphadildaaGreatDoorKa5
import Derived.Test.YtmceanphadildaaGreatDoorKa4
import Derived.Test.YtmceanphadildaaGreatDoorKa2
set_option linter.unusedVariables false
set_option linter.unusedSimpArgs false
set_option maxHeartbeats 0
set_option maxRecDepth 100000
set_option synthInstance.maxSize 4000
set_option synthInstance.maxHeartbeats 0
namespace Go.Proofs.YtmceanphadildaaGreatDoor
open Go Go.RowKit
namespace Gw
theorem y30 {p : Prop} (h : p := by
  refine K4 ?_
  (refine F6 (cs := es'.flatten) zN (fun G2 hle2 hsl2 hno2 => ?_); obtain rfl : i = ks.length := zW)
  refine tT ?_
  refine L0 (rC rfl (A3 rfl rfl)) ?_
  (rw [if_neg (by rintro ⟨h1, h2⟩; first | omega | contradiction), if_neg (by rintro ⟨h1, h2⟩; first | omega | contradiction)]; rw [List.take_of_length_le (by rw [V4]; omega)] at hst; exact NtP.mk (E2.put (us := Q1 y v ks) (hnd.mono hle2) (hco.mono hle2) (by rw [V4]; omega) (fun h => by rw [V4]; exact h14 h) (by rw [V4]) (D0.of hsl2 zW (fun e he => (hst.each (by rw [V4]; omega) e he).1) (fun e he => (hst.each (by rw [V4]; omega) e he).2)) (KR.imp hst fun a e h => h.mono hle2)))
) : p := h
theorem y31 {p : Prop} (h : p := by
  (obtain ⟨e1, hks, hT, hPe⟩ := hyes zW zW; subst hks hT; obtain ⟨b, o, e, rfl, hl, ho, hat, hre, _, hgb⟩ := hsl.kidR hkl (i := 0) zX zX; replace hre : E2 G e1.nt e := hre; refine sP (B1 (j := 0) rfl rfl rfl zX) rfl rfl ?_)
  refine sL (A5 rfl rfl (hat _) hl) rfl rfl ?_
  refine E6 rfl ((hPe G e hre)) rfl rfl ?_
  refine A7 ?_
  (exact ⟨rfl, rfl, rfl⟩)
) : p := h
inductive Cn where
 | mk (k tg lb : Int) (ks : List Cn)
inductive Nt where
 | mk (k : Int) (nm : ByteArray) (num : Int) (co : Cn) (ks : List Nt)
def Nt.k : Nt → Int | .mk k _ _ _ _ => k
def Nt.ks : Nt → List Nt | .mk _ _ _ _ ks => ks
def P2 : Cn := .mk 0 0 0 []
def nt0 : Nt := .mk 0 ⟨⟨[]⟩⟩ 0 P2 []
def GK.cn : GK → Cn
 | .ida => .mk 1 1 0 []
 | .idi => .mk 1 2 0 []
 | .idb => .mk 1 3 0 []
 | .fn c d => .mk 2 0 0 [c.cn, d.cn]
 | .pr c d => .mk 3 0 0 [c.cn, d.cn]
 | .inj c => .mk 4 0 0 [c.cn]
 | .prj l c => .mk 5 0 l [c.cn]
 | .fl l t => .mk 6 t l []
def TH.nt : TH → Nt
 | .var x => .mk 1 x 0 P2 []
 | .num n => .mk 2 ⟨⟨[]⟩⟩ n P2 []
 | .tru b => .mk (if b = true then 3 else 4) ⟨⟨[]⟩⟩ 0 P2 []
 | .lam x _ e => .mk 5 x 0 P2 [e.nt]
 | .app f a => .mk 6 ⟨⟨[]⟩⟩ 0 P2 [f.nt, a.nt]
 | .ar s a b => .mk (if s = true then 8 else 7) ⟨⟨[]⟩⟩ 0 P2 [a.nt, b.nt]
 | .ite c a b => .mk 9 ⟨⟨[]⟩⟩ 0 P2 [c.nt, a.nt, b.nt]
 | .pair a b => .mk 10 ⟨⟨[]⟩⟩ 0 P2 [a.nt, b.nt]
 | .part s e => .mk (if s = true then 12 else 11) ⟨⟨[]⟩⟩ 0 P2 [e.nt]
 | .conv c e => .mk 14 ⟨⟨[]⟩⟩ 0 c.cn [e.nt]
def KR {α : Type} (R : α → List Value → Prop) (ks : List α) (es : List (List Value)) : Prop := ∀ (i : Nat) (a : α) (e : List Value), ks[i]? = some a → es[i]? = some e → R a e
theorem KR.nil {α : Type} {R : α → List Value → Prop} : KR R [] [] := fun i a e h _ => by simp at h
theorem KR.cons {α : Type} {R : α → List Value → Prop} {a : α} {e : List Value} {ks : List α} {es : List (List Value)} (h1 : R a e) (h2 : KR R ks es) : KR R (a :: ks) (e :: es) := by
 intro i b f hb hf
 cases i with
 | zero => simp at hb hf; subst hb hf; exact h1
 | succ i => exact h2 i b f (by simpa using hb) (by simpa using hf)
theorem KR.snoc {α : Type} {R : α → List Value → Prop} {a : α} {e : List Value} {ks : List α} {es : List (List Value)} (h2 : KR R ks es) (hl : ks.length = es.length) (h1 : R a e) : KR R (ks ++ [a]) (es ++ [e]) := by
 intro i b f hb hf
 rw [List.getElem?_append] at hb hf
 by_cases hi : i < ks.length
 ·rw [if_pos hi] at hb; rw [if_pos zW] at hf; exact h2 i b f hb hf
 ·rw [if_neg hi] at hb; rw [if_neg zW] at hf
  rw [← hl] at hf
  cases hj : i - ks.length with
  | zero => rw [hj] at hb hf; simp at hb hf; subst hb hf; exact h1
  | succ j => rw [hj] at hb; simp at hb
theorem KR.set {α : Type} {R : α → List Value → Prop} {a : α} {e : List Value} {ks : List α} {es : List (List Value)} {j : Nat} (h2 : KR R ks es) (h1 : R a e) : KR R (ks.set j a) (es.set j e) := by
 intro i b f hb hf
 rw [List.getElem?_set] at hb hf
 by_cases hj : j = i
 ·rw [if_pos hj] at hb hf
  split at hb
  ·split at hf
   ·cases hb; cases hf; exact h1
   ·cases hf
  ·cases hb
 ·rw [if_neg hj] at hb hf; exact h2 i b f hb hf
theorem KR.imp {α : Type} {R R' : α → List Value → Prop} {ks : List α} {es : List (List Value)} (h : KR R ks es) (hi : ∀ a e, R a e → R' a e) : KR R' ks es := fun i a e h1 h2 => hi a e (h i a e h1 h2)
inductive J4 (G : IM) : Cn → List Value → Prop
 | mk {k tg lb ks p c es} : E8 k → E8 tg → E8 lb → ks.length ≤ 2 → (k = 2 ∨ k = 3 → ks.length = 2) → (k = 4 ∨ k = 5 → ks.length = 1) → D0 G p ks.length c 4 es → (∀ (i : Nat) a e, ks[i]? = some a → es[i]? = some e → J4 G a e) →
  J4 G (.mk k tg lb ks) [.int .i64 k, .int .i64 tg, .int .i64 lb, .slice p ks.length c]
inductive E2 (G : IM) : Nt → List Value → Prop
 | mk {k nm num tk tks fk fks lb pt ct pf cf p0 c0 co cc ks p c es} : B6 G (.mk k nm num (.mk tk tks) (.mk fk fks) lb []) [.int .i64 k, .string nm, .int .i64 num, .int .i64 tk, .slice pt tks.length ct, .int .i64 fk, .slice pf fks.length cf, .int .i64 lb, .slice p0 0 c0] →
  J4 G co cc → ks.length ≤ 3 → (k = 14 → ks.length = 1) → D0 G p ks.length c 14 es → (∀ (i : Nat) a e, ks[i]? = some a → es[i]? = some e → E2 G a e) →
  E2 G (.mk k nm num co ks) ([.int .i64 k, .string nm, .int .i64 num, .int .i64 tk, .slice pt tks.length ct, .int .i64 fk, .slice pf fks.length cf, .int .i64 lb, .slice p0 0 c0] ++ cc ++ [.slice p ks.length c])
theorem J4.mono {G G' : IM} (hg : C1 G G') {c : Cn} {cells : List Value} (h : J4 G c cells) : J4 G' c cells := by
 induction h with
 | mk h1 h2 h3 h4 h5 h6 h7 _ ih => exact .mk h1 h2 h3 h4 h5 h6 (h7.mono hg) ih
theorem E2.mono {G G' : IM} (hg : C1 G G') {c : Nt} {cells : List Value} (h : E2 G c cells) : E2 G' c cells := by
 induction h with
 | mk h1 h2 h3 h4 h5 _ ih => exact .mk (h1.mono hg) (h2.mono hg) h3 h4 (h5.mono hg) ih
theorem J4.len {G : IM} {c : Cn} {cells : List Value} (h : J4 G c cells) : cells.length = 4 := by cases h; rfl
theorem J4.one {G : IM} {c : Cn} {cells : List Value} (h : J4 G c cells) : cells.all (·.oneCell') = true := by cases h; rfl
theorem E2.len {G : IM} {c : Nt} {cells : List Value} (h : E2 G c cells) : cells.length = 14 := by
 cases h with
 | mk h1 h2 => have := h2.len; simp [this]
theorem E2.one {G : IM} {c : Nt} {cells : List Value} (h : E2 G c cells) : cells.all (·.oneCell') = true := by
 cases h with
 | mk h1 h2 => rw [List.all_append, List.all_append, h2.one]; rfl
theorem J4.open4 {G : IM} {k tg lb : Int} {ks : List Cn} {cells : List Value} (h : J4 G (.mk k tg lb ks) cells) :
  ∃ p c es, cells = [.int .i64 k, .int .i64 tg, .int .i64 lb, .slice p ks.length c] ∧ E8 k ∧ E8 tg ∧ E8 lb ∧ ks.length ≤ 2 ∧ (k = 2 ∨ k = 3 → ks.length = 2) ∧ (k = 4 ∨ k = 5 → ks.length = 1) ∧ D0 G p ks.length c 4 es ∧ KR (J4 G) ks es := by
 cases h with
 | mk h1 h2 h3 h4 h5 h6 h7 h8 => exact ⟨_, _, _, rfl, h1, h2, h3, h4, h5, h6, h7, h8⟩
theorem E2.open14 {G : IM} {k : Int} {nm : ByteArray} {num : Int} {ck ctg clb : Int} {cks : List Cn} {ks : List Nt} {cells : List Value} (h : E2 G (.mk k nm num (.mk ck ctg clb cks) ks) cells) :
  ∃ (tk : Int) (tks : List Ty) (fk : Int) (fks : List Ty) (lb : Int) (pt : Option Addr) (ct : Nat) (pf : Option Addr) (cf : Nat) (p0 : Option Addr) (c0 : Nat) (pc : Option Addr) (cc : Nat) (p : Option Addr) (c : Nat) (es : List (List Value)),
   cells = [.int .i64 k, .string nm, .int .i64 num, .int .i64 tk, .slice pt tks.length ct, .int .i64 fk, .slice pf fks.length cf, .int .i64 lb, .slice p0 0 c0, .int .i64 ck, .int .i64 ctg, .int .i64 clb, .slice pc cks.length cc, .slice p ks.length c] ∧
   B6 G (.mk k nm num (.mk tk tks) (.mk fk fks) lb []) [.int .i64 k, .string nm, .int .i64 num, .int .i64 tk, .slice pt tks.length ct, .int .i64 fk, .slice pf fks.length cf, .int .i64 lb, .slice p0 0 c0] ∧
   J4 G (.mk ck ctg clb cks) [.int .i64 ck, .int .i64 ctg, .int .i64 clb, .slice pc cks.length cc] ∧ ks.length ≤ 3 ∧ (k = 14 → ks.length = 1) ∧ D0 G p ks.length c 14 es ∧ KR (E2 G) ks es := by
 cases h with
 | mk h1 h2 h3 h4 h5 h6 =>
  obtain ⟨pc, cc, _, rfl, _⟩ := h2.open4
  exact ⟨_, _, _, _, _, _, _, _, _, _, _, pc, cc, _, _, _, rfl, h1, h2, h3, h4, h5, h6⟩
theorem D0.kidR {α : Type} {R : α → List Value → Prop} {G : IM} {p : Option Addr} {n c sz : Nat} {es : List (List Value)} {ks : List α} (h : D0 G p n c sz es) (hk : KR R ks es) {i : Nat} (hi : i < n) (hn : i < ks.length) :
  ∃ b o e, p = some ⟨b, o, none⟩ ∧ e.length = sz ∧ e.all (·.oneCell') = true ∧ (∀ hp, At hp G b (o + i * sz) e) ∧ R ks[i] e ∧ es[i]? = some e ∧ G b ≠ none := by
 obtain ⟨e, b, o, he, hp, hl, ho, hat, hg⟩ := h.get hi
 exact ⟨b, o, e, hp, hl, ho, hat, hk i _ e (List.getElem?_eq_getElem hn) he, he, hg⟩
theorem E2.put {G : IM} {k : Int} {nm : ByteArray} {num tk fk lb : Int} {tks fks : List Ty} {ck ctg clb : Int} {cks : List Cn} {us : List Nt} {pt pf p0 pc p : Option Addr} {ct cf c0 cc n m c : Nat} {es : List (List Value)}
  (h1 : B6 G (.mk k nm num (.mk tk tks) (.mk fk fks) lb []) [.int .i64 k, .string nm, .int .i64 num, .int .i64 tk, .slice pt tks.length ct, .int .i64 fk, .slice pf fks.length cf, .int .i64 lb, .slice p0 0 c0])
  (h2 : J4 G (.mk ck ctg clb cks) [.int .i64 ck, .int .i64 ctg, .int .i64 clb, .slice pc m cc]) (h3 : us.length ≤ 3) (h4 : k = 14 → us.length = 1) (hn : n = us.length) (h5 : D0 G p n c 14 es) (h6 : KR (E2 G) us es) :
  E2 G (.mk k nm num (.mk ck ctg clb cks) us) [.int .i64 k, .string nm, .int .i64 num, .int .i64 tk, .slice pt tks.length ct, .int .i64 fk, .slice pf fks.length cf, .int .i64 lb, .slice p0 0 c0, .int .i64 ck, .int .i64 ctg, .int .i64 clb, .slice pc m cc, .slice p n c] := by
 subst hn
 exact .mk h1 h2 h3 h4 h5 h6
theorem J4.put {G : IM} {k tg lb : Int} {ks : List Cn} {p : Option Addr} {n c : Nat} {es : List (List Value)} (h1 : E8 k) (h2 : E8 tg) (h3 : E8 lb) (h4 : ks.length ≤ 2) (h5 : k = 2 ∨ k = 3 → ks.length = 2) (h6 : k = 4 ∨ k = 5 → ks.length = 1) (hn : n = ks.length) (h7 : D0 G p n c 4 es) (h8 : KR (J4 G) ks es) :
  J4 G (.mk k tg lb ks) [.int .i64 k, .int .i64 tg, .int .i64 lb, .slice p n c] := by
 subst hn
 exact .mk h1 h2 h3 h4 h5 h6 h7 h8
theorem A3u (G : IM) : J4 G P2 [.int .i64 0, .int .i64 0, .int .i64 0, .slice none 0 0] :=
 J4.put (ks := []) ⟨by decide, by decide⟩ ⟨by decide, by decide⟩ ⟨by decide, by decide⟩ zV zV zV rfl (D0.nil _ _) KR.nil
theorem A7w {G : IM} {k num : Int} (nm : ByteArray) (hk : E8 k) (hn : E8 num) : B6 G (.mk k nm num (.mk 0 []) (.mk 0 []) 0 []) [.int .i64 k, .string nm, .int .i64 num, .int .i64 0, .slice none 0 0, .int .i64 0, .slice none 0 0, .int .i64 0, .slice none 0 0] := by
 have h0 : E8 0 := ⟨by decide, by decide⟩
 exact B6.put (us := []) hk hn h0 (by simp only [B8]; exact ⟨none, 0, [], rfl, h0, D0.nil _ _, by simp only [E9]⟩) (by simp only [B8]; exact ⟨none, 0, [], rfl, h0, D0.nil _ _, by simp only [E9]⟩) rfl (D0.nil _ _) (by simp only [H3])
theorem B1J (G : IM) : E2 G nt0 [.int .i64 0, .string ⟨⟨[]⟩⟩, .int .i64 0, .int .i64 0, .slice none 0 0, .int .i64 0, .slice none 0 0, .int .i64 0, .slice none 0 0, .int .i64 0, .int .i64 0, .int .i64 0, .slice none 0 0, .slice none 0 0] :=
 E2.put (tks := []) (fks := []) (cks := []) (us := []) (A7w _ ⟨by decide, by decide⟩ ⟨by decide, by decide⟩) (A3u G) zV zV rfl (D0.nil _ _) KR.nil
theorem A2j {uc : List Value} (h : uc.length = 14) : ∃ v1 v2 v3 v4 v5 v6 v7 v8 v9 w1 w2 w3 w4 w5, uc = [v1, v2, v3, v4, v5, v6, v7, v8, v9, w1, w2, w3, w4, w5] := by
 match uc, h with
 | [a, b, c, d, e, f, g, i, j, a1, a2, a3, a4, a5], _ => exact ⟨a, b, c, d, e, f, g, i, j, a1, a2, a3, a4, a5, rfl⟩
theorem A1u {uc : List Value} (h : uc.length = 4) : ∃ v1 v2 v3 v4, uc = [v1, v2, v3, v4] := by
 match uc, h with
 | [a, b, c, d], _ => exact ⟨a, b, c, d, rfl⟩
theorem Cn.ind {P : Cn → Prop} (h : ∀ k tg lb ks, (∀ c ∈ ks, P c) → P (.mk k tg lb ks)) : ∀ c, P c := by
 intro c
 exact Cn.rec (motive_1 := P) (motive_2 := fun ks => ∀ c ∈ ks, P c) (fun k tg lb ks ih => h k tg lb ks ih) (fun c hc => by cases hc) (fun a b i j c hc => by rcases List.mem_cons.1 hc with rfl | hc; exact i; exact j c hc) c
theorem Nt.ind {P : Nt → Prop} (h : ∀ k nm num co ks, (∀ c ∈ ks, P c) → P (.mk k nm num co ks)) : ∀ c, P c := by
 intro c
 exact Nt.rec (motive_1 := P) (motive_2 := fun ks => ∀ c ∈ ks, P c) (fun k nm num co ks ih => h k nm num co ks ih) (fun c hc => by cases hc) (fun a b i j c hc => by rcases List.mem_cons.1 hc with rfl | hc; exact i; exact j c hc) c
mutual
def Nt.sz : Nt → Nat
 | .mk _ _ _ _ ks => Nt.szL ks + 1
def Nt.szL : List Nt → Nat
 | [] => 0
 | t :: ts => t.sz + Nt.szL ts
end
theorem B1K : ∀ (a : List Nt) (t : Nt), Nt.szL (a ++ [t]) = Nt.szL a + t.sz
 | [], t => by simp [Nt.szL]
 | x :: xs, t => by rw [List.cons_append, Nt.szL, Nt.szL, B1K xs t]; omega
theorem B1L {ks : List Nt} {i : Nat} (h : i < ks.length) : Nt.szL (ks.take (i + 1)) = Nt.szL (ks.take i) + ks[i].sz := by
 rw [List.take_succ_eq_append_getElem h, B1K]
theorem B1M : ∀ (ks : List Nt) (i : Nat), Nt.szL (ks.take i) ≤ Nt.szL ks
 | [], i => by simp [Nt.szL]
 | x :: xs, 0 => by simp [Nt.szL]
 | x :: xs, i + 1 => by rw [List.take_succ_cons, Nt.szL, Nt.szL]; have := B1M xs i; omega
theorem B7i {ks : List Nt} {i : Nat} (h : i < ks.length) : Nt.szL (ks.take i) + ks[i].sz ≤ Nt.szL ks := by
 have := B1M ks (i + 1)
 rw [B1L h] at this
 exact this
def mxI (m n : Int) : Int := if m < n then n else m
mutual
def Cn.ht : Cn → Int
 | .mk k _ _ ks => if k = 4 ∨ k = 5 then Cn.htL 0 ks else IntKind.i64.wrap (Cn.htL 0 ks + 1)
def Cn.htL (m : Int) : List Cn → Int
 | [] => m
 | t :: ts => Cn.htL (mxI m t.ht) ts
end
mutual
def Nt.ht : Nt → Int
 | .mk k _ _ co ks => Nt.htL (if k = 14 then co.ht else 0) ks
def Nt.htL (m : Int) : List Nt → Int
 | [] => m
 | t :: ts => Nt.htL (mxI m t.ht) ts
end
theorem B1N : ∀ (a : List Cn) (m : Int) (t : Cn), Cn.htL m (a ++ [t]) = mxI (Cn.htL m a) t.ht
 | [], m, t => by simp [Cn.htL]
 | x :: xs, m, t => by rw [List.cons_append, Cn.htL, Cn.htL, B1N xs]
theorem B7j {ks : List Cn} {m : Int} {i : Nat} (h : i < ks.length) : Cn.htL m (ks.take (i + 1)) = mxI (Cn.htL m (ks.take i)) ks[i].ht := by
 rw [List.take_succ_eq_append_getElem h, B1N]
theorem B1O : ∀ (a : List Nt) (m : Int) (t : Nt), Nt.htL m (a ++ [t]) = mxI (Nt.htL m a) t.ht
 | [], m, t => by simp [Nt.htL]
 | x :: xs, m, t => by rw [List.cons_append, Nt.htL, Nt.htL, B1O xs]
theorem B1P {ks : List Nt} {m : Int} {i : Nat} (h : i < ks.length) : Nt.htL m (ks.take (i + 1)) = mxI (Nt.htL m (ks.take i)) ks[i].ht := by
 rw [List.take_succ_eq_append_getElem h, B1O]
mutual
def Y5 (x : ByteArray) (v : Nt) : Nt → Nt
 | .mk k nm num co ks => if k = 1 ∧ nm = x then v else if k = 5 ∧ nm = x then .mk k nm num co ks else .mk k nm num co (Q1 x v ks)
def Q1 (x : ByteArray) (v : Nt) : List Nt → List Nt
 | [] => []
 | t :: ts => Y5 x v t :: Q1 x v ts
end
theorem A7x (x : ByteArray) (v : Nt) : ∀ ks, Q1 x v ks = ks.map (Y5 x v)
 | [] => rfl
 | t :: ts => by rw [Q1, A7x x v ts, List.map_cons]
theorem V4 (x : ByteArray) (v : Nt) (ks : List Nt) : (Q1 x v ks).length = ks.length := by rw [A7x, List.length_map]
theorem A7y {x : ByteArray} {v : Nt} {ks : List Nt} {i : Nat} (h : i < ks.length) : (Q1 x v ks).take (i + 1) = (Q1 x v ks).take i ++ [Y5 x v ks[i]] := by
 rw [A7x, List.take_succ_eq_append_getElem (by rw [List.length_map]; exact h), List.getElem_map]
theorem B7k (x : ByteArray) (v : TH) : ∀ t : TH, (t.sub x v).nt = Y5 x v.nt t.nt := by
 intro t
 induction t with
 | var y =>
  rw [TH.sub, TH.nt, Y5]
  by_cases h : y = x
  ·rw [if_pos h, if_pos ⟨rfl, h⟩]
  ·rw [if_neg h, if_neg (fun c => h c.2), if_neg (by rintro ⟨h, _⟩; exact absurd h zV), TH.nt, Q1]
 | num n => rw [TH.sub, TH.nt, Y5, if_neg (by rintro ⟨h, _⟩; exact absurd h zV), if_neg (by rintro ⟨h, _⟩; exact absurd h zV), Q1]
 | tru b => rw [TH.sub, TH.nt, Y5]; cases b <;> simp [Q1]
 | lam y A e i =>
  by_cases h : y = x
  ·rw [TH.sub, if_pos h, TH.nt, Y5, if_neg (by rintro ⟨h, _⟩; exact absurd h zV), if_pos ⟨rfl, h⟩]
  ·rw [TH.sub, if_neg h, TH.nt, TH.nt, Y5, if_neg (by rintro ⟨h, _⟩; exact absurd h zV), if_neg (fun c => h c.2), i, Q1, Q1]
 | app f a i j => rw [TH.sub, TH.nt, TH.nt, Y5, i, j, if_neg (by rintro ⟨h, _⟩; exact absurd h zV), if_neg (by rintro ⟨h, _⟩; exact absurd h zV), Q1, Q1, Q1]
 | ar s a b i j => rw [TH.sub, TH.nt, TH.nt, Y5, i, j]; cases s <;> simp [Q1]
 | ite c a b i j k => rw [TH.sub, TH.nt, TH.nt, Y5, i, j, k, if_neg (by rintro ⟨h, _⟩; exact absurd h zV), if_neg (by rintro ⟨h, _⟩; exact absurd h zV), Q1, Q1, Q1, Q1]
 | pair a b i j => rw [TH.sub, TH.nt, TH.nt, Y5, i, j, if_neg (by rintro ⟨h, _⟩; exact absurd h zV), if_neg (by rintro ⟨h, _⟩; exact absurd h zV), Q1, Q1, Q1]
 | part s e i => rw [TH.sub, TH.nt, TH.nt, Y5, i]; cases s <;> simp [Q1]
 | conv c e i => rw [TH.sub, TH.nt, TH.nt, Y5, i, if_neg (by rintro ⟨h, _⟩; exact absurd h zV), if_neg (by rintro ⟨h, _⟩; exact absurd h zV), Q1, Q1]
def kn (ks : List Nt) (i : Nat) : Nt := ks.getD i nt0
def Nt.co : Nt → Cn | .mk _ _ _ c _ => c
def Cn.k : Cn → Int | .mk k _ _ _ => k
def B1Q (k : Int) (c : Cn) : Prop := k = 14 ∧ (c.k = 4 ∨ c.k = 2 ∨ c.k = 3)
instance (k : Int) (c : Cn) : Decidable (B1Q k c) := by unfold B1Q; infer_instance
theorem B1R (c : GK) : (c.cn.k = 4 ∨ c.cn.k = 2 ∨ c.cn.k = 3) ↔ c.vl = true := by
 cases c <;> simp [GK.cn, Cn.k, GK.vl]
theorem B7l {t : TH} {k : Int} {nm : ByteArray} {num : Int} {co : Cn} {ks : List Nt} (h : t.nt = .mk k nm num co ks) (hc : k ≠ 10) : t.pln = decide (k = 2 ∨ k = 3 ∨ k = 4 ∨ k = 5) := by
 cases t <;> simp only [TH.nt, Nt.mk.injEq] at h <;> obtain ⟨rfl, rfl, rfl, rfl, rfl⟩ := h <;> rw [TH.pln] <;> first | rfl | (rename_i b _ _; cases b <;> rfl) | (rename_i b; cases b <;> rfl) | (rename_i b _; cases b <;> rfl) | exact absurd rfl hc
theorem B7m {t : TH} {nm : ByteArray} {num : Int} {co : Cn} {ks : List Nt} (h : t.nt = .mk 10 nm num co ks) : ∃ a b, t = .pair a b ∧ ks = [a.nt, b.nt] := by
 cases t <;> simp only [TH.nt, Nt.mk.injEq] at h <;> first | exact ⟨_, _, rfl, h.2.2.2.2.symm⟩ | (exfalso; (try split at h) <;> (try omega) <;> (have := h.1; split at this <;> omega))
theorem A7z {t : TH} {nm : ByteArray} {num : Int} {co : Cn} {ks : List Nt} (h : t.nt = .mk 14 nm num co ks) : ∃ c e, t = .conv c e ∧ ks = [e.nt] ∧ co = c.cn := by
 cases t <;> simp only [TH.nt, Nt.mk.injEq] at h <;> first | exact ⟨_, _, rfl, h.2.2.2.2.symm, h.2.2.2.1.symm⟩ | (exfalso; (try split at h) <;> (try omega) <;> (have := h.1; split at this <;> omega))
theorem A5y {t : TH} {k : Int} {nm : ByteArray} {num : Int} {co : Cn} {ks : List Nt} (h : t.nt = .mk k nm num co ks) (hk : k ≠ 14) : t.cnv = false := by
 cases t <;> simp only [TH.nt, Nt.mk.injEq] at h <;> first | rfl | exact absurd h.1.symm hk
theorem B7n {t : TH} (h : t.cnv = false) : t.val = t.pln := by
 cases t <;> first | (rw [TH.val, TH.pln]; done) | cases h
def A5z (e : Tm) (fuel : Int) : List Int × Int × Bool :=
 if (A3f e fuel).2.1 = 2 then ((A4b ((A33 e).getD (K5, B4)).1 (A0o (A3f e fuel).2.2)).1, (A3f e fuel).2.2, (A4b ((A33 e).getD (K5, B4)).1 (A0o (A3f e fuel).2.2)).2) else ([], 0, false)
def B89 (e : Tm) (fuel : Int) (G : IM) : IM → Value → List A6 → Prop := K1 fun G' v => ∃ p c, v = .tuple ⟨[.slice p (A5z e fuel).1.length c, .int .i64 (A5z e fuel).2.1, .bool (A5z e fuel).2.2]⟩ ∧ SP1 (D7 G' G) (A5z e fuel).1 p c
theorem A5A {P : Program} {Γ : L3} {env : M0} {hp : List A6} {G : IM} {ty t1 t2 : TypeId} {x y : Operand} {k k' : IntKind} {m n : Int} (hx : evo env x = some (.int k m)) (hy : evo env y = some (.int k' n)) :
  I5 P Γ ⟨env, hp, G⟩ (.call ⟨.builtin .max, ⟨[x, y]⟩, ⟨[t1, t2]⟩⟩) ty (.int k (if m < n then n else m)) := by
 refine ⟨fun a _ hs _ _ _ _ w => ?_⟩
 simp [execOp, resolve, invoke, builtin, Builtin.max_, Builtin.max2, (hs.evo hx : a.eval x = _), (hs.evo hy : a.eval y = _)]
section
variable {P : Program} {Γ : L3} {env : M0} {hp : List A6} {G : IM} {ty : TypeId}
theorem B7o {x y : Operand} {t t' : TypeId} {m n : Int} (hx : evo env x = some (.int .i64 m)) (hy : evo env y = some (.int .i64 n)) : I5 P Γ ⟨env, hp, G⟩ (.binOp .add t x y t') ty (.int .i64 (IntKind.i64.wrap (m + n))) :=
 by refine ⟨?_⟩; exact fun a _ hs _ _ _ _ w => by simp [execOp, eqGuard, binOp, Op.intArith, (hs.evo hx : a.eval x = _), (hs.evo hy : a.eval y = _)]
end
theorem B7p {k tg lb : Int} {ks : List Cn} (h : k = 4 ∨ k = 5) : (Cn.mk k tg lb ks).ht = Cn.htL 0 ks := by rw [Cn.ht, if_pos h]
theorem B7q {k tg lb : Int} {ks : List Cn} (h : ¬(k = 4 ∨ k = 5)) : (Cn.mk k tg lb ks).ht = IntKind.i64.wrap (Cn.htL 0 ks + 1) := by rw [Cn.ht, if_neg h]
theorem B7r : ∀ (t : Cn) (G : IM) (cells : List Value), J4 G t cells → Fn Tryz.prog 68 [.agg ⟨cells⟩] [] G (J5 (.int .i64 t.ht) G) := by
 refine Cn.ind fun k tg lb ks ih G cells hr => ?_
 obtain ⟨p, c, es, rfl, hk, htg, hlb, hn2, _, _, hsl, hkl⟩ := hr.open4
 have hy := @B7p k tg lb ks
 have hn' := @B7q k tg lb ks
 generalize (Cn.mk k tg lb ks).ht = R at hy hn' ⊢
 clear hr
 have hn := hsl.le
 refine C7 Tryz.func68 rfl Tryz.ntmps68 Tryz.results68 rfl ?_
 intro w0
 refine A4 ?_
 refine sE (D5 rfl rfl) rfl (fun b3 => ?_)
 refine P6 ?_
 refine C2 ?_
 (refine L4 (fun (i : Nat) => ⟨[(9, .int .i64 (i : Int)), (8, .int .i64 (ks.length : Int)), (7, .slice p ks.length c), (3, .int .i64 (Cn.htL 0 (ks.take i))), (1, .pointer (some ⟨b3, 0, none⟩))], [.blk b3 [.int .i64 k, .int .i64 tg, .int .i64 lb, .slice p ks.length c]], G⟩) (fun i => i ≤ ks.length) (fun i => ks.length - i) 0 ?_ ?_ ?_)
 exact E3
 exact Nat.zero_le _
 (rintro i hi)
 refine A4 ?_
 refine sB (K6 rfl rfl) rfl rfl (fun h28 => ?_) (fun h28 => ?_)
 refine B5 ?_
 refine C2 ?_
 refine A4 ?_
 (obtain ⟨b, o, e, rfl, hl, ho, hat, hre, _, hgb⟩ := hsl.kidR hkl (i := i) zW zW; refine sP (B1 (j := i) rfl rfl rfl zW) rfl rfl ?_)
 refine sL (A5 rfl rfl (hat _) hl) rfl rfl ?_
 refine sE (A8 rfl) rfl (fun b41 => ?_)
 refine sS rfl rfl rfl hl ho rfl ?_ (hu := by exact C6 hl.symm)
 refine C3 ?_
 refine sL (A5 rfl rfl (B7 zP) hl) rfl rfl ?_
 (refine E6 rfl (ih ks[i] (List.getElem_mem zW) G _ hre) rfl rfl ?_)
 refine sQ (A5A rfl rfl) rfl ?_
 refine A9 ?_
 refine sP (K9 rfl rfl zW zW) rfl rfl ?_
 refine A4 ?_
 (refine K3 (i + 1) ?_ ?_ ?_; rw [show Cn.htL 0 (ks.take (i + 1)) = (if Cn.htL 0 (ks.take i) < ks[i].ht then ks[i].ht else Cn.htL 0 (ks.take i)) from B7j zW])
 exact E3
 omega
 omega
 refine N1 ?_
 refine sB (qE rfl rfl) rfl rfl (fun h76 => ?_) (fun h76 => ?_)
 refine P6 ?_
 (obtain rfl : i = ks.length := zW; rw [List.take_length]; exact ⟨rfl, by rw [hy zW], rfl⟩)
 refine B3 ?_
 refine sB (qE rfl rfl) rfl rfl (fun h98 => ?_) (fun h98 => ?_)
 refine J2 ?_
 (obtain rfl : i = ks.length := zW; rw [List.take_length]; exact ⟨rfl, by rw [hy zW], rfl⟩)
 refine D9 ?_
 refine sP (B7o (m := Cn.htL 0 (ks.take i)) rfl rfl) rfl rfl ?_
 refine A9 ?_
 (obtain rfl : i = ks.length := zW; rw [List.take_length]; exact ⟨rfl, by rw [hn' zW], rfl⟩)
theorem B7s {c : GK} {k tg lb : Int} {ks : List Cn} (h : c.cn = .mk k tg lb ks) : (k = 2 → c.tg = 4) ∧ (k = 3 → c.tg = 5) ∧ (k = 1 ∨ k = 6 → c.tg = tg) ∧ (k = 5 → c.tg = 0) ∧ (k = 4 → ∃ d, c = .inj d ∧ ks = [d.cn]) ∧ (k = 5 → ∃ d, c = .prj lb d ∧ ks = [d.cn]) ∧ (k = 1 ∨ k = 2 ∨ k = 3 ∨ k = 4 ∨ k = 5 ∨ k = 6) := by
 cases c <;> simp only [GK.cn, Cn.mk.injEq] at h <;> obtain ⟨rfl, rfl, rfl, rfl⟩ := h <;> simp [GK.tg]
theorem A5B (c : GK) : ∃ k tg lb ks, c.cn = Cn.mk k tg lb ks := by cases c.cn; exact ⟨_, _, _, _, rfl⟩
theorem B1S (c : GK) (ih : ∀ d, c = .inj d → ∀ (G : IM) (cells : List Value), J4 G d.cn cells → Fn Tryz.prog 167 [.agg ⟨cells⟩] [] G (J5 (.int .i64 d.tg) G)) (G : IM) (cells : List Value) (hr : J4 G c.cn cells) : Fn Tryz.prog 167 [.agg ⟨cells⟩] [] G (J5 (.int .i64 c.tg) G) := by
 obtain ⟨k, tg, lb, ks, hc⟩ := A5B c
 obtain ⟨t2, t3, t1, t5, t4, _, t0⟩ := B7s hc
 rw [hc] at hr
 obtain ⟨p, cp, es, rfl, hk, htg, hlb, hn2, har2, har4, hsl, hkl⟩ := hr.open4
 refine C7 Tryz.func167 rfl Tryz.ntmps167 Tryz.results167 rfl ?_
 intro w0
 refine A4 ?_
 refine sE (D5 rfl rfl) rfl (fun b3 => ?_)
 refine I2 ?_
 refine C2 (tS (tR (sB (qE rfl rfl) rfl rfl (fun h17 => ?_) (fun h17 => ?_))))
 refine J2 ?_
 (exact ⟨rfl, by rw [t2 zW], rfl⟩)
 refine A7 ?_
 refine sB (qE rfl rfl) rfl rfl (fun h38 => ?_) (fun h38 => ?_)
 refine J2 ?_
 (exact ⟨rfl, by rw [t3 zW], rfl⟩)
 refine A7 ?_
 refine sB (qE rfl rfl) rfl rfl (fun h59 => ?_) (fun h59 => ?_)
 refine E7 ?_
 (obtain ⟨d, rfl, hks⟩ := t4 zW; subst hks; obtain ⟨b, o, e, rfl, hl, ho, hat, hre, _, hgb⟩ := hsl.kidR hkl (i := 0) zX zX; replace hre : J4 G d.cn e := hre; refine sP (B1 (j := 0) rfl rfl rfl zX) rfl rfl ?_)
 refine sL (A5 rfl rfl (hat _) hl) rfl rfl ?_
 (refine E6 rfl (ih d rfl G _ hre) rfl rfl ?_)
 refine B5 ?_
 (exact ⟨rfl, rfl, rfl⟩)
 refine B5 ?_
 refine sB (qE rfl rfl) rfl rfl (fun h86 => ?_) (fun h86 => ?_)
 refine X8 ?_
 (exact ⟨rfl, by rw [t1 zW], rfl⟩)
 refine A9 ?_
 refine sB (qE rfl rfl) rfl rfl (fun h111 => ?_) (fun h111 => ?_)
 refine K4 ?_
 (exact ⟨rfl, by rw [t1 zW], rfl⟩)
 refine N1 ?_
 (exact ⟨rfl, by rw [t5 zW], rfl⟩)
theorem A7A : ∀ (c : GK) (G : IM) (cells : List Value), J4 G c.cn cells → Fn Tryz.prog 167 [.agg ⟨cells⟩] [] G (J5 (.int .i64 c.tg) G) := by
 intro c
 induction c with
 | inj d ih => exact B1S _ fun d' h => by cases h; exact ih
 | _ => exact B1S _ fun d' h => by cases h
def Cn.any : Cn → Bool
 | .mk k tg _ _ => decide (k = 1 ∧ tg = 1)
theorem B1T (c : Cn) (G : IM) (cells : List Value) (hr : J4 G c cells) : Fn Tryz.prog 165 [.agg ⟨cells⟩] [] G (J5 (.bool c.any) G) := by
 obtain ⟨k, tg, lb, ks⟩ := c
 obtain ⟨p, cp, es, rfl, hk, htg, hlb, hn2, har2, har4, hsl, hkl⟩ := hr.open4
 rw [Cn.any]
 refine C7 Tryz.func165 rfl Tryz.ntmps165 Tryz.results165 rfl ?_
 intro w0
 refine A4 ?_
 refine sE (D5 rfl rfl) rfl (fun b3 => ?_)
 refine B5 ?_
 refine sB (qE rfl rfl) rfl rfl (fun h11 => ?_) (fun h11 => ?_)
 refine B3 ?_
 refine sB (qE rfl rfl) rfl rfl (fun h15 => ?_) (fun h15 => ?_)
 refine A7 ?_
 (exact ⟨rfl, by rw [decide_eq_true zW], rfl⟩)
 refine A7 ?_
 (exact ⟨rfl, by rw [decide_eq_false zW], rfl⟩)
 refine I2 ?_
 (exact ⟨rfl, by rw [decide_eq_false zW], rfl⟩)
theorem A0O (k tg lb : Int) (p0 : Option Addr) (n0 c0 : Nat) (ok : Bool) (p : Option Addr) (n c : Nat) (G : IM) : Fn Tryz.prog 166 [.agg ⟨[.int .i64 k, .int .i64 tg, .int .i64 lb, .slice p0 n0 c0]⟩, .bool ok, .slice p n c] [] G (J5 (.tuple ⟨[.agg ⟨[.int .i64 k, .int .i64 tg, .int .i64 lb, .slice p n c]⟩, .bool ok]⟩) G) := by
 refine C7 Tryz.func166 rfl Tryz.ntmps166 Tryz.results166 rfl ?_
 intro w0
 refine A4 ?_
 refine sE (D5 rfl rfl) rfl (fun b3 => ?_)
 refine sE (A8 rfl) rfl (fun b4 => ?_)
 refine A01 ?_
 refine E0 (rC rfl (A3 rfl rfl)) (rT rfl) ?_
 (exact ⟨rfl, rfl, rfl⟩)
def GT.m : GT → Nat
 | .any => 0
 | .int => 1
 | .bool => 1
 | .fn a b => a.m + b.m + 1
 | .pr a b => a.m + b.m + 1
def GT.isA : GT → Bool
 | .any => true
 | _ => false
def W7 (A B : GT) : Nat := 2 * (A.m + B.m) + (if A.isA = B.isA then 0 else 3)
def CnP (c : Cn) : IM → Value → List A6 → Prop := K1 fun G' v => ∃ cells, v = .agg ⟨cells⟩ ∧ J4 G' c cells
theorem CnP.mk {G : IM} {c : Cn} {cells : List Value} (h : J4 G c cells) : CnP c G (.agg ⟨cells⟩) [] := ⟨rfl, cells, rfl, h⟩
theorem B1U {A : GT} {k : Int} {ks : List Ty} (h : A.ty = .mk k ks) : (k = 1 ∨ k = 2 ∨ k = 3 → ks.length = 0) ∧ (k = 4 ∨ k = 5 → ks.length = 2) ∧ (k = 1 ↔ A.isA = true) ∧ (k = 1 ∨ k = 2 ∨ k = 3 ∨ k = 4 ∨ k = 5) := by
 cases A <;> simp only [GT.ty, Ty.mk.injEq] at h <;> obtain ⟨rfl, rfl⟩ := h <;> simp [GT.isA]
theorem B7t {A : GT} {ks : List Ty} (h : A.ty = .mk 4 ks) : ∃ a b : GT, A = .fn a b ∧ ks = [a.ty, b.ty] := by
 cases A <;> simp only [GT.ty, Ty.mk.injEq] at h <;> first | exact ⟨_, _, rfl, h.2.symm⟩ | (exfalso; omega)
theorem B7u {A : GT} {ks : List Ty} (h : A.ty = .mk 5 ks) : ∃ a b : GT, A = .pr a b ∧ ks = [a.ty, b.ty] := by
 cases A <;> simp only [GT.ty, Ty.mk.injEq] at h <;> first | exact ⟨_, _, rfl, h.2.symm⟩ | (exfalso; omega)
theorem A5C {A : GT} : A.isA = true ↔ A = .any := by cases A <;> simp [GT.isA]
theorem B1V {A : GT} (h : A ≠ .any) : A.gr.m = 1 ∧ A.gr.isA = false := by cases A <;> first | exact absurd rfl h | exact ⟨rfl, rfl⟩
theorem A5D (A B : GT) : W7 A B ≤ 2 * (A.m + B.m) + 3 := by unfold W7; split <;> omega
theorem B7v {A : GT} (h : A ≠ .any) : W7 A A.gr < W7 A .any := by
 have h1 := B1V h
 have h2 : A.isA = false := by cases A <;> first | rfl | exact absurd rfl h
 unfold W7
 rw [h1.2, h2, h1.1]
 simp [GT.m, GT.isA]
 omega
theorem B7w {B : GT} (h : B ≠ .any) : W7 B.gr B < W7 .any B := by
 have h1 := B1V h
 have h2 : B.isA = false := by cases B <;> first | rfl | exact absurd rfl h
 unfold W7
 rw [h1.2, h2, h1.1]
 simp [GT.m, GT.isA]
 omega
theorem B1W (a b c d : GT) : W7 c a < W7 (.fn a b) (.fn c d) ∧ W7 b d < W7 (.fn a b) (.fn c d) := by
 have h1 := A5D c a
 have h2 := A5D b d
 have e : W7 (.fn a b) (.fn c d) = 2 * (a.m + b.m + 1 + (c.m + d.m + 1)) := rfl
 omega
theorem B1X (a b c d : GT) : W7 a c < W7 (.pr a b) (.pr c d) ∧ W7 b d < W7 (.pr a b) (.pr c d) := by
 have h1 := A5D a c
 have h2 := A5D b d
 have e : W7 (.pr a b) (.pr c d) = 2 * (a.m + b.m + 1 + (c.m + d.m + 1)) := rfl
 omega
theorem B7x {A B : GT} {k : Int} {ks bks : List Ty} (hA : A.ty = .mk k ks) (hB : B.ty = .mk k bks) (hn : ks.length = 0) (l : Int) : (kc A B l).cn = .mk 1 k 0 [] := by
 cases A <;> cases B <;> simp only [GT.ty, Ty.mk.injEq] at hA hB <;> obtain ⟨rfl, rfl⟩ := hA <;> first | (exfalso; omega) | (exfalso; simp at hn; done) | skip
 ·rw [A1t, S8]; rfl
 ·rw [A4j]; rfl
 ·rw [A4k]; rfl
theorem B7y {A : GT} (hA : A ≠ .any) (l : Int) : kc A .any l = .inj (kc A A.gr l) := by
 rw [A2h]
 cases A with
 | any => exact absurd rfl hA
 | int => rw [U6, GT.gr, A4j]
 | bool => rw [U6, GT.gr, A4k]
 | fn a b => rw [U6, GT.gr, A2O, A1t, A2h]
 | pr a b => rw [U6, GT.gr, A2P, A2h, A2h]
theorem B7z {B : GT} (hB : B ≠ .any) (l : Int) : kc .any B l = .prj l (kc B.gr B l) := by
 rw [A1t]
 cases B with
 | any => exact absurd rfl hB
 | int => rw [S8, GT.gr, A4j]
 | bool => rw [S8, GT.gr, A4k]
 | fn a b => rw [S8, GT.gr, A2O, A2h, A1t]
 | pr a b => rw [S8, GT.gr, A2P, A1t, A1t]
theorem A3v {G : IM} {c : Cn} {k tg lb : Int} {x1 x2 x3 x4 : Value} {p : Option Addr} {cp : Nat} (h : J4 G c [x1, x2, x3, x4]) (hs : Sl G p 1 cp 4 [x1, x2, x3, x4]) (hk : E8 k) (ht : E8 tg) (hl : E8 lb) (h5 : ¬(k = 2 ∨ k = 3)) : J4 G (.mk k tg lb [c]) [.int .i64 k, .int .i64 tg, .int .i64 lb, .slice p 1 cp] :=
 J4.put (ks := [c]) (es := [[x1, x2, x3, x4]]) hk ht hl zX (fun h => absurd h h5) (fun _ => rfl) rfl (D0.of hs rfl (by intro x hx; obtain rfl := List.mem_singleton.1 hx; rfl) (by intro x hx; obtain rfl := List.mem_singleton.1 hx; exact h.one)) (KR.cons h KR.nil)
theorem A0P {G : IM} {c d : Cn} {k tg lb : Int} {x1 x2 x3 x4 y1 y2 y3 y4 : Value} {p : Option Addr} {cp : Nat} (h : J4 G c [x1, x2, x3, x4]) (h' : J4 G d [y1, y2, y3, y4]) (hs : Sl G p 2 cp 4 [x1, x2, x3, x4, y1, y2, y3, y4]) (hk : E8 k) (ht : E8 tg) (hl : E8 lb) (h5 : ¬(k = 4 ∨ k = 5)) : J4 G (.mk k tg lb [c, d]) [.int .i64 k, .int .i64 tg, .int .i64 lb, .slice p 2 cp] :=
 J4.put (ks := [c, d]) (es := [[x1, x2, x3, x4], [y1, y2, y3, y4]]) hk ht hl zX (fun _ => rfl) (fun h => absurd h h5) rfl (D0.of hs rfl (by intro x hx; simp only [List.mem_cons, List.not_mem_nil, or_false] at hx; rcases hx with rfl | rfl <;> rfl) (by intro x hx; simp only [List.mem_cons, List.not_mem_nil, or_false] at hx; rcases hx with rfl | rfl; exact h.one; exact h'.one)) (KR.cons h (KR.cons h' KR.nil))
theorem B7A {A B : GT} (h : Co A B) {ks bks : List Ty} {bk : Int} (hA : A.ty = .mk 4 ks) (hB : B.ty = .mk bk bks) (hb : bk ≠ 1) : ∃ a b c d : GT, A = .fn a b ∧ B = .fn c d ∧ ks = [a.ty, b.ty] ∧ bks = [c.ty, d.ty] ∧ Co c a ∧ Co b d := by
 obtain ⟨a, b, rfl, rfl⟩ := B7t hA
 cases h with
 | r => simp only [GT.ty, Ty.mk.injEq] at hB; exact absurd hB.1.symm hb
 | fn h1 h2 => simp only [GT.ty, Ty.mk.injEq] at hB; exact ⟨_, _, _, _, rfl, rfl, rfl, hB.2.symm, h1.symm, h2⟩
theorem B7B {A B : GT} (h : Co A B) {ks bks : List Ty} {bk : Int} (hA : A.ty = .mk 5 ks) (hB : B.ty = .mk bk bks) (hb : bk ≠ 1) : ∃ a b c d : GT, A = .pr a b ∧ B = .pr c d ∧ ks = [a.ty, b.ty] ∧ bks = [c.ty, d.ty] ∧ Co a c ∧ Co b d := by
 obtain ⟨a, b, rfl, rfl⟩ := B7u hA
 cases h with
 | r => simp only [GT.ty, Ty.mk.injEq] at hB; exact absurd hB.1.symm hb
 | pr h1 h2 => simp only [GT.ty, Ty.mk.injEq] at hB; exact ⟨_, _, _, _, rfl, rfl, rfl, hB.2.symm, h1, h2⟩
theorem B1Y {A : GT} {k : Int} {ks : List Ty} (h : A.ty = .mk k ks) : mGk k = A.gr.ty := by
 rw [← A6F, h]; rfl
theorem B7C {A B : GT} (h : Co A B) {k bk : Int} {ks bks : List Ty} (hA : A.ty = .mk k ks) (hB : B.ty = .mk bk bks) (h1 : ¬(k = bk ∧ ks.length = 0)) (h2 : bk ≠ 1) (h3 : k ≠ 1) (h4 : k ≠ 4) : k = 5 := by
 cases h with
 | l => simp only [GT.ty, Ty.mk.injEq] at hA; exact absurd hA.1.symm h3
 | r => simp only [GT.ty, Ty.mk.injEq] at hB; exact absurd hB.1.symm h2
 | int => simp only [GT.ty, Ty.mk.injEq] at hA hB; exact absurd ⟨hA.1.symm.trans hB.1, by rw [← hA.2]; rfl⟩ h1
 | bool => simp only [GT.ty, Ty.mk.injEq] at hA hB; exact absurd ⟨hA.1.symm.trans hB.1, by rw [← hA.2]; rfl⟩ h1
 | fn _ _ => simp only [GT.ty, Ty.mk.injEq] at hA; exact absurd hA.1.symm h4
 | pr _ _ => simp only [GT.ty, Ty.mk.injEq] at hA; exact hA.1.symm
theorem B7D : ∀ (n : Nat) (A B : GT) (l : Int) (G : IM) (ac bc : List Value), W7 A B < n → Co A B → -99 ≤ l ∧ l ≤ 99 → B8 G A.ty ac → B8 G B.ty bc → Fn Tryz.prog 67 [.agg ⟨ac⟩, .agg ⟨bc⟩, .int .i64 l] [] G (CnP (kc A B l).cn) := by
 intro n
 induction n with
 | zero => intro A B l G ac bc h; omega
 | succ n ih =>
  intro A B l G ac bc hmu hco hl hra hrb
  obtain ⟨ak, aks, hA⟩ : ∃ ak aks, A.ty = .mk ak aks := by cases A.ty; exact ⟨_, _, rfl⟩
  obtain ⟨bk, bks, hB⟩ : ∃ ak aks, B.ty = .mk ak aks := by cases B.ty; exact ⟨_, _, rfl⟩
  have fA := B1U hA
  have fB := B1U hB
  have hAa : ak ≠ 1 → A ≠ .any := fun h e => h (fA.2.2.1.2 (A5C.2 e))
  have hBa : bk ≠ 1 → B ≠ .any := fun h e => h (fB.2.2.1.2 (A5C.2 e))
  have hAb : ak = 1 → A = .any := fun h => A5C.1 (fA.2.2.1.1 h)
  have hBb : bk = 1 → B = .any := fun h => A5C.1 (fB.2.2.1.1 h)
  have hF := fun (h : ak = 4) (hb : bk ≠ 1) => B7A hco (by rw [hA, h]) hB hb
  have hP := fun (h : ak = 5) (hb : bk ≠ 1) => B7B hco (by rw [hA, h]) hB hb
  have h55 := B7C hco hA hB
  have hsm := fun (h : bk = ak) (hn : aks.length = 0) => B7x hA (by rw [hB, h]) hn l
  have hgA := B1Y hA
  have hgB := B1Y hB
  have hra0 := hra
  have hrb0 := hrb
  rw [hA] at hra
  rw [hB] at hrb
  obtain ⟨pa, ca, ea, rfl, hak, hsa, hla⟩ := hra.open
  obtain ⟨pb, cb, eb, rfl, hbk, hsb, hlb⟩ := hrb.open
  simp only [Ty.k, Ty.ks] at hak hsa hla hbk hsb hlb hra0 hrb0 ⊢
  have h0 : E8 0 := ⟨by decide, by decide⟩
  have hl64 : E8 l := ⟨by omega, by omega⟩
  refine C7 Tryz.func67 rfl Tryz.ntmps67 Tryz.results67 rfl ?_
  intro w0
  refine A4 ?_
  refine sE (D5 rfl rfl) rfl (fun b3 => ?_)
  refine sE (D5 rfl rfl) rfl (fun b4 => ?_)
  refine sE (A8 rfl) rfl (fun b5 => ?_)
  refine B3 ?_
  refine C2 ?_
  refine A7 ?_
  refine sB (qE rfl rfl) rfl rfl (fun h16 => ?_) (fun h16 => ?_)
  refine C3 ?_
  refine sB (qE rfl rfl) rfl rfl (fun h21 => ?_) (fun h21 => ?_)
  refine N4 ?_
  refine L0 (rC rfl (A3 rfl rfl)) ?_
  (exact CnP.mk (by rw [hsm zW zW]; exact J4.put (ks := []) (es := []) ⟨by decide, by decide⟩ hak h0 zV zV zV rfl (D0.nil _ _) KR.nil))
  refine D9 ?_
  refine sP (F0 rfl rfl zW) rfl rfl ?_
  refine E7 ?_
  refine sP (F0 rfl rfl zW) rfl rfl ?_
  refine E7 ?_
  refine sB (qE rfl rfl) rfl rfl (fun h67 => ?_) (fun h67 => ?_)
  refine A9 ?_
  (have hg : aks.length = 2 := fA.2.1 zW; obtain ⟨a, b, c, d, rfl, rfl, rfl, rfl, hc1, hc2⟩ := hF zW zW; have hm := B1W a b c d; obtain ⟨b1, o1, q1, d1, rfl, hat1, hre1, hgb1⟩ := hsa.kidTy hla (i := 0) zX zX; obtain ⟨b2, o2, q2, d2, hE2, hat2, hre2, hgb2⟩ := hsa.kidTy hla (i := 1) zX zX; cases hE2; obtain ⟨b3, o3, q3, d3, rfl, hat3, hre3, hgb3⟩ := hsb.kidTy hlb (i := 0) zX zX; obtain ⟨b4, o4, q4, d4, hE4, hat4, hre4, hgb4⟩ := hsb.kidTy hlb (i := 1) zX zX; cases hE4; refine D2 D3 rfl ?_)
  refine H1 (i := 0) (l' := [tt,ff,ff,ff,ff,ff,ff,ff,ff,ff,ff,ff,ff,ff,ff,ff,ff,ff,ff,ff,ff,ff,ff,ff]) rfl C8 (C0 rfl) rfl zU rfl rfl ?_
  refine aL 1 rfl (D4 rfl rfl) rfl ?_
  refine aP 2 rfl (B1 (j := 0) rfl rfl rfl zX) rfl ?_
  refine aL 3 rfl (A5 rfl rfl (hat3 _) rfl) rfl ?_
  refine aP 4 rfl (C0 rfl) rfl ?_
  refine aL 5 rfl (D4 rfl rfl) rfl ?_
  refine aP 6 rfl (B1 (j := 0) rfl rfl rfl zX) rfl ?_
  refine aL 7 rfl (A5 rfl rfl (hat1 _) rfl) rfl ?_
  refine aP 8 rfl (qM rfl) rfl ?_
  refine aP 9 rfl (A3F rfl zW zW) rfl ?_
  refine aP 11 rfl (C0 rfl) rfl ?_
  refine aL 12 rfl (D4 rfl rfl) rfl ?_
  refine aP 13 rfl (B1 (j := 1) rfl rfl rfl zX) rfl ?_
  refine aL 14 rfl (A5 rfl rfl (hat2 _) rfl) rfl ?_
  refine aP 15 rfl (C0 rfl) rfl ?_
  refine aL 16 rfl (D4 rfl rfl) rfl ?_
  refine aP 17 rfl (B1 (j := 1) rfl rfl rfl zX) rfl ?_
  refine aL 18 rfl (A5 rfl rfl (hat4 _) rfl) rfl ?_
  refine aP 19 rfl (qM rfl) rfl ?_
  refine A1 10 ?_
  (refine E1 rfl rfl (ih c a (-l) G _ _ zW hc1 ⟨by omega, by omega⟩ hre3 hre1) rfl rfl rfl (fun u G1 hle1 hh => ?_); obtain ⟨uc, rfl, hru⟩ := hh; obtain ⟨x1, x2, x3, x4, rfl⟩ := A1u hru.len)
  refine A1 20 ?_
  (refine E1 rfl rfl (ih b d l G1 _ _ zW hc2 hl (hre2.mono hle1) (hre4.mono hle1)) rfl rfl rfl (fun u G2 hle2 hh => ?_); obtain ⟨vc, rfl, hrv⟩ := hh; obtain ⟨y1, y2, y3, y4, rfl⟩ := A1u hrv.len)
  refine A1 21 ?_
  (refine D1 rfl (C9 rfl rfl rfl zW zR rfl) rfl rfl ?_; rintro _ ⟨b98, rfl⟩)
  refine aP 22 rfl (N7 rfl rfl) rfl ?_
  refine A1 23 ?_
  refine E4 rfl ?_
  refine A4 ?_
  (refine F6 (cs := [x1, x2, x3, x4, y1, y2, y3, y4]) zN (fun G5 hle5 hsl5 hno5 => ?_))
  refine B3 ?_
  refine L0 (rC rfl (A3 rfl rfl)) ?_
  (exact CnP.mk (by rw [A2O, GK.cn]; exact A0P (hru.mono (hle2.trans hle5)) (hrv.mono hle5) hsl5 ⟨by decide, by decide⟩ h0 h0 zV))
  refine E7 ?_
  (have hg : aks.length = 2 := fA.2.1 zW; obtain ⟨a, b, c, d, rfl, rfl, rfl, rfl, hc1, hc2⟩ := hP (h55 zW zW zW zW) zW; have hm := B1X a b c d; obtain ⟨b1, o1, q1, d1, rfl, hat1, hre1, hgb1⟩ := hsa.kidTy hla (i := 0) zX zX; obtain ⟨b2, o2, q2, d2, hE2, hat2, hre2, hgb2⟩ := hsa.kidTy hla (i := 1) zX zX; cases hE2; obtain ⟨b3, o3, q3, d3, rfl, hat3, hre3, hgb3⟩ := hsb.kidTy hlb (i := 0) zX zX; obtain ⟨b4, o4, q4, d4, hE4, hat4, hre4, hgb4⟩ := hsb.kidTy hlb (i := 1) zX zX; cases hE4; refine D2 D3 rfl ?_)
  refine H1 (i := 0) (l' := [tt,ff,ff,ff,ff,ff,ff,ff,ff,ff,ff,ff,ff,ff,ff,ff,ff,ff,ff,ff,ff,ff,ff]) rfl C8 (C0 rfl) rfl zU rfl rfl ?_
  refine aL 1 rfl (D4 rfl rfl) rfl ?_
  refine aP 2 rfl (B1 (j := 0) rfl rfl rfl zX) rfl ?_
  refine aL 3 rfl (A5 rfl rfl (hat1 _) rfl) rfl ?_
  refine aP 4 rfl (C0 rfl) rfl ?_
  refine aL 5 rfl (D4 rfl rfl) rfl ?_
  refine aP 6 rfl (B1 (j := 0) rfl rfl rfl zX) rfl ?_
  refine aL 7 rfl (A5 rfl rfl (hat3 _) rfl) rfl ?_
  refine aP 8 rfl (qM rfl) rfl ?_
  refine aP 10 rfl (C0 rfl) rfl ?_
  refine aL 11 rfl (D4 rfl rfl) rfl ?_
  refine aP 12 rfl (B1 (j := 1) rfl rfl rfl zX) rfl ?_
  refine aL 13 rfl (A5 rfl rfl (hat2 _) rfl) rfl ?_
  refine aP 14 rfl (C0 rfl) rfl ?_
  refine aL 15 rfl (D4 rfl rfl) rfl ?_
  refine aP 16 rfl (B1 (j := 1) rfl rfl rfl zX) rfl ?_
  refine aL 17 rfl (A5 rfl rfl (hat4 _) rfl) rfl ?_
  refine aP 18 rfl (qM rfl) rfl ?_
  refine A1 9 ?_
  (refine E1 rfl rfl (ih a c l G _ _ zW hc1 hl hre1 hre3) rfl rfl rfl (fun u G1 hle1 hh => ?_); obtain ⟨uc, rfl, hru⟩ := hh; obtain ⟨x1, x2, x3, x4, rfl⟩ := A1u hru.len)
  refine A1 19 ?_
  (refine E1 rfl rfl (ih b d l G1 _ _ zW hc2 hl (hre2.mono hle1) (hre4.mono hle1)) rfl rfl rfl (fun u G2 hle2 hh => ?_); obtain ⟨vc, rfl, hrv⟩ := hh; obtain ⟨y1, y2, y3, y4, rfl⟩ := A1u hrv.len)
  refine A1 20 ?_
  (refine D1 rfl (C9 rfl rfl rfl zW zR rfl) rfl rfl ?_; rintro _ ⟨b142, rfl⟩)
  refine aP 21 rfl (N7 rfl rfl) rfl ?_
  refine A1 22 ?_
  refine E4 rfl ?_
  refine A4 ?_
  (refine F6 (cs := [x1, x2, x3, x4, y1, y2, y3, y4]) zN (fun G5 hle5 hsl5 hno5 => ?_))
  refine tT ?_
  refine L0 (rC rfl (A3 rfl rfl)) ?_
  (exact CnP.mk (by rw [A2P, GK.cn]; exact A0P (hru.mono (hle2.trans hle5)) (hrv.mono hle5) hsl5 ⟨by decide, by decide⟩ h0 h0 zV))
  refine N1 ?_
  refine sB (qE rfl rfl) rfl rfl (fun h166 => ?_) (fun h166 => ?_)
  refine A9 ?_
  refine D2 D3 rfl ?_
  refine M3 (i := 0) (l' := [tt,ff,ff,ff,ff,ff,ff,ff,ff]) rfl C8 (A3 rfl rfl) rfl zU rfl rfl ?_
  refine aP 1 rfl (C0 rfl) rfl ?_
  refine aL 2 rfl (D4 rfl rfl) rfl ?_
  refine aP 4 rfl (qM rfl) rfl ?_
  refine A1 3 ?_
  (refine E1 rfl rfl (A9v ak G hak) rfl rfl rfl (fun u G1 hle1 hh => ?_); obtain ⟨gc, rfl, hrg⟩ := hh; rw [hgA] at hrg; have hAn := hAa zW; obtain rfl := hBb zW)
  refine A1 5 ?_
  (refine E1 rfl rfl (ih A A.gr l G1 _ _ (by have := B7v hAn; omega) Co.gr hl (hra0.mono hle1) hrg) rfl rfl rfl (fun u G2 hle2 hh => ?_); obtain ⟨uc, rfl, hru⟩ := hh; obtain ⟨x1, x2, x3, x4, rfl⟩ := A1u hru.len)
  refine A1 6 ?_
  (refine D1 rfl (C9 rfl rfl rfl zW zR rfl) rfl rfl ?_; rintro _ ⟨b182, rfl⟩)
  refine aP 7 rfl (N7 rfl rfl) rfl ?_
  refine A1 8 ?_
  refine E4 rfl ?_
  refine A4 ?_
  (refine F6 (cs := [x1, x2, x3, x4]) zN (fun G5 hle5 hsl5 hno5 => ?_))
  refine B3 ?_
  refine L0 (rC rfl (A3 rfl rfl)) ?_
  (exact CnP.mk (by rw [B7y hAn, GK.cn]; exact A3v (hru.mono hle5) hsl5 ⟨by decide, by decide⟩ h0 h0 zV))
  refine E7 ?_
  refine sB (qE rfl rfl) rfl rfl (fun h202 => ?_) (fun h202 => ?_)
  refine A9 ?_
  refine D2 D3 rfl ?_
  refine H1 (i := 0) (l' := [tt,ff,ff,ff,ff,ff,ff,ff,ff,ff]) rfl C8 (qM rfl) rfl zU rfl rfl ?_
  refine aP 1 rfl (C0 rfl) rfl ?_
  refine aL 2 rfl (D4 rfl rfl) rfl ?_
  refine aL 4 rfl (A3 rfl rfl) rfl ?_
  refine aP 5 rfl (qM rfl) rfl ?_
  refine A1 3 ?_
  (refine E1 rfl rfl (A9v bk G hbk) rfl rfl rfl (fun u G1 hle1 hh => ?_); obtain ⟨gc, rfl, hrg⟩ := hh; rw [hgB] at hrg; have hBn := hBa zW; obtain rfl := hAb zW)
  refine A1 6 ?_
  (refine E1 rfl rfl (ih B.gr B l G1 _ _ (by have := B7w hBn; omega) Co.gr.symm hl hrg (hrb0.mono hle1)) rfl rfl rfl (fun u G2 hle2 hh => ?_); obtain ⟨uc, rfl, hru⟩ := hh; obtain ⟨x1, x2, x3, x4, rfl⟩ := A1u hru.len)
  refine A1 7 ?_
  (refine D1 rfl (C9 rfl rfl rfl zW zR rfl) rfl rfl ?_; rintro _ ⟨b219, rfl⟩)
  refine aP 8 rfl (N7 rfl rfl) rfl ?_
  refine A1 9 ?_
  refine E4 rfl ?_
  refine A4 ?_
  (refine F6 (cs := [x1, x2, x3, x4]) zN (fun G5 hle5 hsl5 hno5 => ?_))
  refine B3 ?_
  refine L0 (rC rfl (A3 rfl rfl)) ?_
  (exact CnP.mk (by rw [B7z hBn, GK.cn]; exact A3v (hru.mono hle5) hsl5 ⟨by decide, by decide⟩ h0 hl64 zV))
  refine E7 ?_
  refine sB (qE rfl rfl) rfl rfl (fun h239 => ?_) (fun h239 => ?_)
  refine A9 ?_
  (have hg : aks.length = 2 := fA.2.1 zW; obtain ⟨a, b, c, d, rfl, rfl, rfl, rfl, hc1, hc2⟩ := hF zW zW; have hm := B1W a b c d; obtain ⟨b1, o1, q1, d1, rfl, hat1, hre1, hgb1⟩ := hsa.kidTy hla (i := 0) zX zX; obtain ⟨b2, o2, q2, d2, hE2, hat2, hre2, hgb2⟩ := hsa.kidTy hla (i := 1) zX zX; cases hE2; obtain ⟨b3, o3, q3, d3, rfl, hat3, hre3, hgb3⟩ := hsb.kidTy hlb (i := 0) zX zX; obtain ⟨b4, o4, q4, d4, hE4, hat4, hre4, hgb4⟩ := hsb.kidTy hlb (i := 1) zX zX; cases hE4; refine D2 D3 rfl ?_)
  refine H1 (i := 0) (l' := [tt,ff,ff,ff,ff,ff,ff,ff,ff,ff,ff,ff,ff,ff,ff,ff,ff,ff,ff,ff,ff,ff,ff,ff]) rfl C8 (C0 rfl) rfl zU rfl rfl ?_
  refine aL 1 rfl (D4 rfl rfl) rfl ?_
  refine aP 2 rfl (B1 (j := 0) rfl rfl rfl zX) rfl ?_
  refine aL 3 rfl (A5 rfl rfl (hat3 _) rfl) rfl ?_
  refine aP 4 rfl (C0 rfl) rfl ?_
  refine aL 5 rfl (D4 rfl rfl) rfl ?_
  refine aP 6 rfl (B1 (j := 0) rfl rfl rfl zX) rfl ?_
  refine aL 7 rfl (A5 rfl rfl (hat1 _) rfl) rfl ?_
  refine aP 8 rfl (qM rfl) rfl ?_
  refine aP 9 rfl (A3F rfl zW zW) rfl ?_
  refine aP 11 rfl (C0 rfl) rfl ?_
  refine aL 12 rfl (D4 rfl rfl) rfl ?_
  refine aP 13 rfl (B1 (j := 1) rfl rfl rfl zX) rfl ?_
  refine aL 14 rfl (A5 rfl rfl (hat2 _) rfl) rfl ?_
  refine aP 15 rfl (C0 rfl) rfl ?_
  refine aL 16 rfl (D4 rfl rfl) rfl ?_
  refine aP 17 rfl (B1 (j := 1) rfl rfl rfl zX) rfl ?_
  refine aL 18 rfl (A5 rfl rfl (hat4 _) rfl) rfl ?_
  refine aP 19 rfl (qM rfl) rfl ?_
  refine A1 10 ?_
  (refine E1 rfl rfl (ih c a (-l) G _ _ zW hc1 ⟨by omega, by omega⟩ hre3 hre1) rfl rfl rfl (fun u G1 hle1 hh => ?_); obtain ⟨uc, rfl, hru⟩ := hh; obtain ⟨x1, x2, x3, x4, rfl⟩ := A1u hru.len)
  refine A1 20 ?_
  (refine E1 rfl rfl (ih b d l G1 _ _ zW hc2 hl (hre2.mono hle1) (hre4.mono hle1)) rfl rfl rfl (fun u G2 hle2 hh => ?_); obtain ⟨vc, rfl, hrv⟩ := hh; obtain ⟨y1, y2, y3, y4, rfl⟩ := A1u hrv.len)
  refine A1 21 ?_
  (refine D1 rfl (C9 rfl rfl rfl zW zR rfl) rfl rfl ?_; rintro _ ⟨b270, rfl⟩)
  refine aP 22 rfl (N7 rfl rfl) rfl ?_
  refine A1 23 ?_
  refine E4 rfl ?_
  refine A4 ?_
  (refine F6 (cs := [x1, x2, x3, x4, y1, y2, y3, y4]) zN (fun G5 hle5 hsl5 hno5 => ?_))
  refine B3 ?_
  refine L0 (rC rfl (A3 rfl rfl)) ?_
  (exact CnP.mk (by rw [A2O, GK.cn]; exact A0P (hru.mono (hle2.trans hle5)) (hrv.mono hle5) hsl5 ⟨by decide, by decide⟩ h0 h0 zV))
  refine E7 ?_
  (have hg : aks.length = 2 := fA.2.1 zW; obtain ⟨a, b, c, d, rfl, rfl, rfl, rfl, hc1, hc2⟩ := hP (h55 zW zW zW zW) zW; have hm := B1X a b c d; obtain ⟨b1, o1, q1, d1, rfl, hat1, hre1, hgb1⟩ := hsa.kidTy hla (i := 0) zX zX; obtain ⟨b2, o2, q2, d2, hE2, hat2, hre2, hgb2⟩ := hsa.kidTy hla (i := 1) zX zX; cases hE2; obtain ⟨b3, o3, q3, d3, rfl, hat3, hre3, hgb3⟩ := hsb.kidTy hlb (i := 0) zX zX; obtain ⟨b4, o4, q4, d4, hE4, hat4, hre4, hgb4⟩ := hsb.kidTy hlb (i := 1) zX zX; cases hE4; refine D2 D3 rfl ?_)
  refine H1 (i := 0) (l' := [tt,ff,ff,ff,ff,ff,ff,ff,ff,ff,ff,ff,ff,ff,ff,ff,ff,ff,ff,ff,ff,ff,ff]) rfl C8 (C0 rfl) rfl zU rfl rfl ?_
  refine aL 1 rfl (D4 rfl rfl) rfl ?_
  refine aP 2 rfl (B1 (j := 0) rfl rfl rfl zX) rfl ?_
  refine aL 3 rfl (A5 rfl rfl (hat1 _) rfl) rfl ?_
  refine aP 4 rfl (C0 rfl) rfl ?_
  refine aL 5 rfl (D4 rfl rfl) rfl ?_
  refine aP 6 rfl (B1 (j := 0) rfl rfl rfl zX) rfl ?_
  refine aL 7 rfl (A5 rfl rfl (hat3 _) rfl) rfl ?_
  refine aP 8 rfl (qM rfl) rfl ?_
  refine aP 10 rfl (C0 rfl) rfl ?_
  refine aL 11 rfl (D4 rfl rfl) rfl ?_
  refine aP 12 rfl (B1 (j := 1) rfl rfl rfl zX) rfl ?_
  refine aL 13 rfl (A5 rfl rfl (hat2 _) rfl) rfl ?_
  refine aP 14 rfl (C0 rfl) rfl ?_
  refine aL 15 rfl (D4 rfl rfl) rfl ?_
  refine aP 16 rfl (B1 (j := 1) rfl rfl rfl zX) rfl ?_
  refine aL 17 rfl (A5 rfl rfl (hat4 _) rfl) rfl ?_
  refine aP 18 rfl (qM rfl) rfl ?_
  refine A1 9 ?_
  (refine E1 rfl rfl (ih a c l G _ _ zW hc1 hl hre1 hre3) rfl rfl rfl (fun u G1 hle1 hh => ?_); obtain ⟨uc, rfl, hru⟩ := hh; obtain ⟨x1, x2, x3, x4, rfl⟩ := A1u hru.len)
  refine A1 19 ?_
  (refine E1 rfl rfl (ih b d l G1 _ _ zW hc2 hl (hre2.mono hle1) (hre4.mono hle1)) rfl rfl rfl (fun u G2 hle2 hh => ?_); obtain ⟨vc, rfl, hrv⟩ := hh; obtain ⟨y1, y2, y3, y4, rfl⟩ := A1u hrv.len)
  refine A1 20 ?_
  (refine D1 rfl (C9 rfl rfl rfl zW zR rfl) rfl rfl ?_; rintro _ ⟨b314, rfl⟩)
  refine aP 21 rfl (N7 rfl rfl) rfl ?_
  refine A1 22 ?_
  refine E4 rfl ?_
  refine A4 ?_
  (refine F6 (cs := [x1, x2, x3, x4, y1, y2, y3, y4]) zN (fun G5 hle5 hsl5 hno5 => ?_))
  refine tT ?_
  refine L0 (rC rfl (A3 rfl rfl)) ?_
  (exact CnP.mk (by rw [A2P, GK.cn]; exact A0P (hru.mono (hle2.trans hle5)) (hrv.mono hle5) hsl5 ⟨by decide, by decide⟩ h0 h0 zV))
def NtP (t : Nt) : IM → Value → List A6 → Prop := K1 fun G' v => ∃ cells, v = .agg ⟨cells⟩ ∧ E2 G' t cells
theorem NtP.mk {G : IM} {t : Nt} {cells : List Value} (h : E2 G t cells) : NtP t G (.agg ⟨cells⟩) [] := ⟨rfl, cells, rfl, h⟩
theorem J4.ints {G : IM} {c : Cn} {cells : List Value} (h : J4 G c cells) : ∃ a b d p n cp, cells = [.int .i64 a, .int .i64 b, .int .i64 d, .slice p n cp] := by
 cases h; exact ⟨_, _, _, _, _, _, rfl⟩
theorem KR.each {G : IM} {ks : List Nt} {es : List (List Value)} (h : KR (E2 G) ks es) (hl : ks.length = es.length) : ∀ e ∈ es, e.length = 14 ∧ e.all (·.oneCell') = true := by
 intro e he
 obtain ⟨i, hi, rfl⟩ := List.getElem_of_mem he
 have := h i (ks[i]'zW) es[i] (List.getElem?_eq_getElem zW) (List.getElem?_eq_getElem hi)
 exact ⟨this.len, this.one⟩
theorem A5E (t : Nt) (kd : Int) (G : IM) (cells : List Value) (hr : E2 G t cells) : Fn Tryz.prog 69 [.agg ⟨cells⟩, .int .i64 kd] [] G (J5 (.bool (decide (t.k = 14 ∧ t.co.k = kd))) G) := by
 obtain ⟨k, nm, num, ⟨ck, ctg, clb, cks⟩, ks⟩ := t
 obtain ⟨tk, tks, fk, fks, lb, pt, ct, pf, cf, p0, c0, pc, cc, p, c, es, rfl, hnd, hco, hn3, h14, hsl, hkl⟩ := hr.open14
 rw [show (Nt.mk k nm num (.mk ck ctg clb cks) ks).k = k from rfl, show (Nt.mk k nm num (.mk ck ctg clb cks) ks).co.k = ck from rfl]
 refine C7 Tryz.func69 rfl Tryz.ntmps69 Tryz.results69 rfl ?_
 intro w0
 refine A4 ?_
 refine sE (D5 rfl rfl) rfl (fun b3 => ?_)
 refine E7 ?_
 refine sB (qE rfl rfl) rfl rfl (fun h12 => ?_) (fun h12 => ?_)
 refine A9 ?_
 refine sB (qE rfl rfl) rfl rfl (fun h18 => ?_) (fun h18 => ?_)
 refine A7 ?_
 (exact ⟨rfl, by rw [decide_eq_true zW], rfl⟩)
 refine A7 ?_
 (exact ⟨rfl, by rw [decide_eq_false zW], rfl⟩)
 refine N8 ?_
 (exact ⟨rfl, by rw [decide_eq_false zW], rfl⟩)
theorem B7E : ∀ (t : Nt) (G : IM) (cells : List Value), t.sz ≤ 4294967296 → E2 G t cells → Fn Tryz.prog 37 [.agg ⟨cells⟩] [] G (J5 (.int .i64 (t.sz : Int)) G) := by
 refine Nt.ind fun k nm num co ks ih G cells hcnt hr => ?_
 obtain ⟨ck, ctg, clb, cks⟩ := co
 obtain ⟨tk, tks, fk, fks, lb, pt, ct, pf, cf, p0, c0, pc, cc, p, c, es, rfl, hnd, hco, hn3, h14, hsl, hkl⟩ := hr.open14
 rw [Nt.sz] at hcnt ⊢
 refine C7 Tryz.func37 rfl Tryz.ntmps37 Tryz.results37 rfl ?_
 intro w0
 refine A4 ?_
 refine sE (D5 rfl rfl) rfl (fun b3 => ?_)
 refine P6 ?_
 refine C2 ?_
 (refine L4 (fun (i : Nat) => ⟨[(9, .int .i64 i), (8, .int .i64 ks.length), (7, .slice p ks.length c), (3, .int .i64 ((Nt.szL (ks.take i) + 1 : Nat) : Int))], [], G⟩) (fun i => i ≤ ks.length) (fun i => ks.length - i) 0 ?_ ?_ ?_)
 exact E3
 exact Nat.zero_le _
 (rintro i hi)
 refine A4 ?_
 refine sB (K6 rfl rfl) rfl rfl (fun h28 => ?_) (fun h28 => ?_)
 refine B5 ?_
 refine C2 ?_
 refine A4 ?_
 (obtain ⟨b, o, e, rfl, hl, hone, hat, hre, _, hgb⟩ := hsl.kidR hkl (i := i) zW zW; have htk := B7i (ks := ks) (i := i) zW; refine sP (B1 (j := i) rfl rfl rfl zW) rfl rfl ?_)
 refine sL (A5 rfl rfl (hat _) hl) rfl rfl ?_
 refine sE (A8 rfl) rfl (fun b41 => ?_)
 refine sS rfl rfl rfl hl hone rfl ?_ (hu := by exact C6 hl.symm)
 refine C3 ?_
 refine sL (A5 rfl rfl (B7 zP) hl) rfl rfl ?_
 (refine E6 rfl (ih ks[i] (List.getElem_mem zW) G _ zW hre) rfl rfl ?_)
 refine sP (K9 rfl rfl zW zW) rfl rfl ?_
 refine A9 ?_
 refine sP (K9 rfl rfl zW zW) rfl rfl ?_
 refine A4 ?_
 (refine K3 (i + 1) ?_ ?_ ?_; rw [show ((Nt.szL (ks.take (i + 1)) + 1 : Nat) : Int) = ((Nt.szL (ks.take i) + 1 : Nat) : Int) + (ks[i].sz : Int) from by rw [B1L zW]; omega])
 exact E3
 omega
 omega
 refine P6 ?_
 (obtain rfl : i = ks.length := zW; rw [List.take_length]; exact ⟨rfl, rfl, rfl⟩)
theorem A7B : ∀ (t : Nt) (G : IM) (cells : List Value), E2 G t cells → Fn Tryz.prog 33 [.agg ⟨cells⟩] [] G (J5 (.int .i64 t.ht) G) := by
 refine Nt.ind fun k nm num co ks ih G cells hr => ?_
 have hCh := fun cs => B7r co G cs
 rw [Nt.ht]
 obtain ⟨ck, ctg, clb, cks⟩ := co
 generalize (Cn.mk ck ctg clb cks).ht = CH at hCh ⊢
 obtain ⟨tk, tks, fk, fks, lb, pt, ct, pf, cf, p0, c0, pc, cc, p, c, es, rfl, hnd, hco, hn3, h14, hsl, hkl⟩ := hr.open14
 replace hCh := hCh _ hco
 have hn := hsl.le
 refine C7 Tryz.func33 rfl Tryz.ntmps33 Tryz.results33 rfl ?_
 intro w0
 refine A4 ?_
 refine sE (D5 rfl rfl) rfl (fun b3 => ?_)
 refine N1 ?_
 refine sB (qE rfl rfl) rfl rfl (fun h18 => ?_) (fun h18 => ?_)
 refine A7 ?_
 refine E6 rfl (hCh) rfl rfl ?_
 refine N8 ?_
 refine C2 ?_
 (have hz : k = 14 := zW; refine L4 (fun (i : Nat) => ⟨[(16, .int .i64 (i : Int)), (15, .int .i64 (ks.length : Int)), (14, .slice p ks.length c), (3, .int .i64 (Nt.htL CH (ks.take i)))], [], G⟩) (fun i => i ≤ ks.length) (fun i => ks.length - i) 0 ?_ ?_ ?_)
 exact E3
 exact Nat.zero_le _
 (rintro i hi)
 refine A4 ?_
 refine sB (K6 rfl rfl) rfl rfl (fun h45 => ?_) (fun h45 => ?_)
 refine B5 ?_
 refine C2 ?_
 refine A4 ?_
 (obtain ⟨b, o, e, rfl, hl, ho, hat, hre, _, hgb⟩ := hsl.kidR hkl (i := i) zW zW; refine sP (B1 (j := i) rfl rfl rfl zW) rfl rfl ?_)
 refine sL (A5 rfl rfl (hat _) hl) rfl rfl ?_
 refine sE (A8 rfl) rfl (fun b58 => ?_)
 refine sS rfl rfl rfl hl ho rfl ?_ (hu := by exact C6 hl.symm)
 refine C3 ?_
 refine sL (A5 rfl rfl (B7 zP) hl) rfl rfl ?_
 (refine E6 rfl (ih ks[i] (List.getElem_mem zW) G _ hre) rfl rfl ?_)
 refine sQ (A5A rfl rfl) rfl ?_
 refine A9 ?_
 refine sP (K9 rfl rfl zW zW) rfl rfl ?_
 refine A4 ?_
 (have hz2 : k = 14 := hz; refine K3 (i + 1) ?_ ?_ ?_; rw [show Nt.htL CH (ks.take (i + 1)) = (if Nt.htL CH (ks.take i) < ks[i].ht then ks[i].ht else Nt.htL CH (ks.take i)) from B1P zW])
 exact E3
 omega
 omega
 refine P6 ?_
 (obtain rfl : i = ks.length := zW; rw [List.take_length]; exact ⟨rfl, by rw [if_pos hz], rfl⟩)
 refine N1 ?_
 refine C2 ?_
 (have hz : k ≠ 14 := zW; refine L4 (fun (i : Nat) => ⟨[(16, .int .i64 (i : Int)), (15, .int .i64 (ks.length : Int)), (14, .slice p ks.length c), (3, .int .i64 (Nt.htL 0 (ks.take i)))], [], G⟩) (fun i => i ≤ ks.length) (fun i => ks.length - i) 0 ?_ ?_ ?_)
 exact E3
 exact Nat.zero_le _
 (rintro i hi)
 refine A4 ?_
 refine sB (K6 rfl rfl) rfl rfl (fun h118 => ?_) (fun h118 => ?_)
 refine B5 ?_
 refine C2 ?_
 refine A4 ?_
 (obtain ⟨b, o, e, rfl, hl, ho, hat, hre, _, hgb⟩ := hsl.kidR hkl (i := i) zW zW; refine sP (B1 (j := i) rfl rfl rfl zW) rfl rfl ?_)
 refine sL (A5 rfl rfl (hat _) hl) rfl rfl ?_
 refine sE (A8 rfl) rfl (fun b131 => ?_)
 refine sS rfl rfl rfl hl ho rfl ?_ (hu := by exact C6 hl.symm)
 refine C3 ?_
 refine sL (A5 rfl rfl (B7 zP) hl) rfl rfl ?_
 (refine E6 rfl (ih ks[i] (List.getElem_mem zW) G _ hre) rfl rfl ?_)
 refine sQ (A5A rfl rfl) rfl ?_
 refine A9 ?_
 refine sP (K9 rfl rfl zW zW) rfl rfl ?_
 refine A4 ?_
 (refine K3 (i + 1) ?_ ?_ ?_; rw [show Nt.htL 0 (ks.take (i + 1)) = (if Nt.htL 0 (ks.take i) < ks[i].ht then ks[i].ht else Nt.htL 0 (ks.take i)) from B1P zW])
 exact E3
 omega
 omega
 refine P6 ?_
 (obtain rfl : i = ks.length := zW; rw [List.take_length]; exact ⟨rfl, by rw [if_neg hz], rfl⟩)
theorem A7C {G : IM} {t : Nt} {C : Cn} {k : Int} {x1 x2 x3 x4 v1 v2 v3 v4 v5 v6 v7 v8 v9 w1 w2 w3 w4 w5 : Value} {p : Option Addr} {cp : Nat} (hk : E8 k) (hc : J4 G C [x1, x2, x3, x4]) (h : E2 G t [v1, v2, v3, v4, v5, v6, v7, v8, v9, w1, w2, w3, w4, w5]) (hs : Sl G p 1 cp 14 [v1, v2, v3, v4, v5, v6, v7, v8, v9, w1, w2, w3, w4, w5]) :
  E2 G (.mk k ⟨⟨[]⟩⟩ 0 C [t]) [.int .i64 k, .string ⟨⟨[]⟩⟩, .int .i64 0, .int .i64 0, .slice none 0 0, .int .i64 0, .slice none 0 0, .int .i64 0, .slice none 0 0, x1, x2, x3, x4, .slice p 1 cp] :=
 .mk (tks := []) (fks := []) (ks := [t]) (es := [[v1, v2, v3, v4, v5, v6, v7, v8, v9, w1, w2, w3, w4, w5]]) (A7w _ hk ⟨by decide, by decide⟩) hc zX (fun _ => rfl) (D0.of hs rfl (by intro x hx; obtain rfl := List.mem_singleton.1 hx; rfl) (by intro x hx; obtain rfl := List.mem_singleton.1 hx; exact h.one)) (KR.cons h KR.nil)
theorem A2Q (t : Nt) (C : Cn) (G : IM) (cells cc : List Value) (hr : E2 G t cells) (hc : J4 G C cc) : Fn Tryz.prog 75 [.agg ⟨cells⟩, .agg ⟨cc⟩] [] G (NtP (.mk 14 ⟨⟨[]⟩⟩ 0 C [t])) := by
 obtain ⟨x1, x2, x3, p4, n4, c4, rfl⟩ := hc.ints
 obtain ⟨v1, v2, v3, v4, v5, v6, v7, v8, v9, w1, w2, w3, w4, w5, rfl⟩ := A2j hr.len
 refine C7 Tryz.func75 rfl Tryz.ntmps75 Tryz.results75 rfl ?_
 intro w0
 refine A4 ?_
 refine sE (D5 rfl rfl) rfl (fun b3 => ?_)
 refine sE (D5 rfl rfl) rfl (fun b4 => ?_)
 refine sE (A8 rfl) rfl (fun b5 => ?_)
 refine A9 ?_
 refine sL (A5 rfl rfl (B7 zP) rfl) rfl rfl ?_
 refine sL (A5 rfl rfl (B7 zP) rfl) rfl rfl ?_
 (refine J1 (C9 rfl rfl rfl zW zR rfl) rfl ?_; rintro _ ⟨b13, rfl⟩)
 refine C3 ?_
 (refine F6 (cs := [v1, v2, v3, v4, v5, v6, v7, v8, v9, w1, w2, w3, w4, w5]) zN (fun G2 hle2 hsl2 hno2 => ?_))
 refine tT ?_
 refine L0 (rC rfl (A3 rfl rfl)) ?_
 (exact NtP.mk (A7C ⟨by decide, by decide⟩ (hc.mono hle2) (hr.mono hle2) hsl2))
theorem B7F (G : IM) (p : Option Addr) (n c : Nat) (es : List (List Value)) (h : D0 G p n c 14 es) (h0 : 0 < n) (hn : n ≤ 4294967296) :
  Fn Tryz.prog 127 [.slice p n c] [] G (fun G' v outs => G' = G ∧ ∃ p' c', v = .slice p' n c' ∧ outs = [.slc p' c' 68 14 n es.flatten]) := by
 obtain ⟨hl, hc, hm, hat⟩ := h.sl
 obtain ⟨b, o, full, rfl, hg, hv⟩ := hat.resolve_left zW
 have ho : ∀ u ∈ es.flatten, u.oneCell' = true := by
  intro u hu
  obtain ⟨e, he, hue⟩ := List.mem_flatten.1 hu
  exact List.all_eq_true.1 (h.one e he) u hue
 refine C7 Tryz.func127 rfl Tryz.ntmps127 Tryz.results127 rfl ?_
 intro w0
 refine D9 ?_
 refine sQ (A7W rfl rfl rfl) rfl ?_
 refine B5 ?_
 (refine J1 (C9 rfl rfl rfl zW zR rfl) rfl ?_; rintro _ ⟨b18, rfl⟩)
 refine F8 ?_
 refine A2t rfl rfl rfl rfl rfl (fun _ _ => by repeat (first | exact Sw.here | apply Sw.there)) (A4v hg hv) hl ho zR zW rfl (fun pn cn => ?_)
 refine C3 ?_
 refine H7 (rT rfl) A2.refl ?_
 exact ⟨rfl, _, _, by rw [Nat.zero_add], by rw [Nat.zero_add]; rfl⟩
theorem B7G (y : ByteArray) (v : Nt) (vc : List Value) : ∀ (t : Nt) (G : IM) (cells : List Value), E2 G t cells → E2 G v vc → Fn Tryz.prog 74 [.agg ⟨cells⟩, .string y, .agg ⟨vc⟩] [] G (NtP (Y5 y v t)) := by
 refine Nt.ind fun k nm num co ks ih G cells hr hv => ?_
 have hr0 := hr
 have hvl := hv.len
 have hvo := hv.one
 rw [Y5]
 obtain ⟨ck, ctg, clb, cks⟩ := co
 obtain ⟨tk, tks, fk, fks, lb, pt, ct, pf, cf, p0, c0, pc, cc, p, c, es, rfl, hnd, hco, hn3, h14, hsl, hkl⟩ := hr.open14
 have hn := hsl.le
 refine C7 Tryz.func74 rfl Tryz.ntmps74 Tryz.results74 rfl ?_
 intro w0
 refine A4 ?_
 refine sE (D5 rfl rfl) rfl (fun b3 => ?_)
 refine sE (D5 rfl rfl) rfl (fun b4 => ?_)
 refine sE (A8 rfl) rfl (fun b5 => ?_)
 refine B3 ?_
 refine C2 ?_
 refine A9 ?_
 refine sB (qE rfl rfl) rfl rfl (fun h15 => ?_) (fun h15 => ?_)
 refine A9 ?_
 refine sB (A1S rfl rfl) rfl rfl (fun h21 => ?_) (fun h21 => ?_)
 refine B5 ?_
 refine sL (A5 rfl rfl (B7 zP) hvl) rfl rfl ?_
 refine sS rfl rfl rfl hvl hvo rfl ?_ (hu := by exact C6 hvl.symm)
 refine A9 ?_
 refine L0 (rC rfl (A5 rfl rfl (B7 zP) hvl)) ?_
 (rw [if_pos (by refine ⟨by omega, by assumption⟩)]; exact NtP.mk hv)
 refine I2 ?_
 refine sP (F0 rfl rfl zW) rfl rfl ?_
 refine P6 ?_
 refine sE (A8 rfl) rfl (fun b66 => ?_)
 refine X8 ?_
 refine C2 ?_
 (refine X0 68 14 ?_; refine L4 (fun (x : Nat × Option Addr × Nat × List (List Value) × IM) => ⟨[(41, .int .i64 x.1), (40, .int .i64 ks.length), (39, .slice p ks.length c), (1, .string y), (3, .pointer (some ⟨b3, 0, none⟩)), (5, .pointer (some ⟨b4, 0, none⟩)), (6, .pointer (some ⟨b5, 0, none⟩)), (7, .pointer (some ⟨b66, 0, none⟩))], [.blk b66 [.int .i64 k, .string nm, .int .i64 num, .int .i64 tk, .slice pt tks.length ct, .int .i64 fk, .slice pf fks.length cf, .int .i64 lb, .slice p0 0 c0, .int .i64 ck, .int .i64 ctg, .int .i64 clb, .slice pc cks.length cc, .slice x.2.1 x.1 x.2.2.1], .slc x.2.1 x.2.2.1 68 14 x.1 x.2.2.2.1.flatten, .blk b5 [.int .i64 0, .string ⟨⟨[]⟩⟩, .int .i64 0, .int .i64 0, .slice none 0 0, .int .i64 0, .slice none 0 0, .int .i64 0, .slice none 0 0, .int .i64 0, .int .i64 0, .int .i64 0, .slice none 0 0, .slice none 0 0], .blk b4 vc, .blk b3 [.int .i64 k, .string nm, .int .i64 num, .int .i64 tk, .slice pt tks.length ct, .int .i64 fk, .slice pf fks.length cf, .int .i64 lb, .slice p0 0 c0, .int .i64 ck, .int .i64 ctg, .int .i64 clb, .slice pc cks.length cc, .slice p ks.length c]], x.2.2.2.2⟩) (fun x => x.1 ≤ ks.length ∧ C1 G x.2.2.2.2 ∧ x.2.2.2.1.length = x.1 ∧ KR (E2 x.2.2.2.2) ((Q1 y v ks).take x.1) x.2.2.2.1) (fun x => ks.length - x.1) (0, none, 0, [], G) ?_ ?_ ?_)
 (simp only [J7]; exact E3)
 (exact ⟨Nat.zero_le _, C1.refl _, rfl, by rw [List.take_zero]; exact KR.nil⟩)
 (rintro ⟨i, pn, cn, es', Gi⟩ ⟨hi, hle, hel', hst⟩; simp only [] at hi hle hel' hst ⊢; replace hsl := hsl.mono hle; replace hkl := KR.imp hkl (fun a e h => h.mono hle); replace hv := hv.mono hle; replace hnd := hnd.mono hle; replace hco := hco.mono hle)
 refine A4 ?_
 refine sB (K6 rfl rfl) rfl rfl (fun h92 => ?_) (fun h92 => ?_)
 refine B5 ?_
 refine C2 ?_
 refine A4 ?_
 (have hil : i < ks.length := zW; obtain ⟨bx, ox, e, rfl, hel, heo, hat, hre, _, hgb⟩ := hsl.kidR hkl (i := i) zW zW; refine sP (B1 (j := i) rfl rfl rfl zW) rfl rfl ?_)
 refine sL (A5 rfl rfl (hat _) hel) rfl rfl ?_
 refine sE (A8 rfl) rfl (fun b105 => ?_)
 refine sS rfl rfl rfl hel heo rfl ?_ (hu := by exact C6 hel.symm)
 refine A4 ?_
 refine D2 D3 rfl ?_
 refine M3 (i := 2) (l' := [ff,ff,tt,ff,ff,ff,ff,ff,ff,ff]) rfl C8 (A5 rfl rfl (B7 zP) hel) rfl zU rfl rfl ?_
 refine aL 4 rfl (A5 rfl rfl (B7 zP) hvl) rfl ?_
 refine aP 0 rfl (C0 rfl) rfl ?_
 refine aL 1 rfl (D4 rfl rfl) rfl ?_
 refine aP 3 rfl (qM rfl) rfl ?_
 refine A1 5 ?_
 (refine E1 rfl rfl (ih ks[i] (List.getElem_mem zW) Gi _ hre hv) rfl rfl rfl (fun u G1 hle1 hh => ?_); obtain ⟨uc, rfl, hru⟩ := hh; have hul := hru.len; have huo := hru.one; obtain ⟨v1, v2, v3, v4, v5, v6, v7, v8, v9, w1, w2, w3, w4, w5, rfl⟩ := A2j hul)
 refine A1 6 ?_
 (refine D1 rfl (C9 rfl rfl rfl zW zR rfl) rfl rfl ?_; rintro _ ⟨b118, rfl⟩)
 refine A1 7 ?_
 (refine T9 rfl rfl rfl rfl rfl rfl (fun _ _ => by repeat (first | exact Sw.here | apply Sw.there)) (R2 zP) rfl (fun u hu => List.all_eq_true.1 huo u hu) zR zW rfl rfl zF (fun p7 c7 => ?_))
 refine aP 8 rfl (C0 rfl) rfl ?_
 refine A1 9 ?_
 refine N9 rfl rfl rfl rfl rfl rfl rfl rfl zS zO (by rfl) ?_
 refine C3 ?_
 refine sP (K9 rfl rfl zW zW) rfl rfl ?_
 refine A4 ?_
 refine K3 (i + 1, p7, c7, es' ++ [[v1, v2, v3, v4, v5, v6, v7, v8, v9, w1, w2, w3, w4, w5]], G1) ?_ ?_ ?_
 (simp only [J7]; exact E3)
 (dsimp only; exact ⟨by omega, hle.trans hle1, by rw [List.length_append]; simp only [List.length_singleton]; omega, by rw [A7y zW]; exact KR.snoc (KR.imp hst fun a e h => h.mono hle1) (by rw [List.length_take, V4]; omega) hru⟩)
 (show ks.length - (i + 1) < ks.length - i; omega)
 exact y30
 refine N4 ?_
 refine sB (qE rfl rfl) rfl rfl (fun h170 => ?_) (fun h170 => ?_)
 refine A9 ?_
 refine sB (A1S rfl rfl) rfl rfl (fun h176 => ?_) (fun h176 => ?_)
 refine N1 ?_
 refine L0 (rC rfl (A3 rfl rfl)) ?_
 (rw [if_neg (by rintro ⟨h1, h2⟩; first | omega | contradiction), if_pos (by refine ⟨by omega, by assumption⟩)]; exact NtP.mk hr0)
 refine I3 ?_
 refine sE (A8 rfl) rfl (fun b204 => ?_)
 refine X8 ?_
 refine C2 ?_
 (refine X0 68 14 ?_; refine L4 (fun (x : Nat × Option Addr × Nat × List (List Value) × IM) => ⟨[(41, .int .i64 x.1), (40, .int .i64 ks.length), (39, .slice p ks.length c), (1, .string y), (3, .pointer (some ⟨b3, 0, none⟩)), (5, .pointer (some ⟨b4, 0, none⟩)), (6, .pointer (some ⟨b5, 0, none⟩)), (7, .pointer (some ⟨b204, 0, none⟩))], [.blk b204 [.int .i64 k, .string nm, .int .i64 num, .int .i64 tk, .slice pt tks.length ct, .int .i64 fk, .slice pf fks.length cf, .int .i64 lb, .slice p0 0 c0, .int .i64 ck, .int .i64 ctg, .int .i64 clb, .slice pc cks.length cc, .slice x.2.1 x.1 x.2.2.1], .slc x.2.1 x.2.2.1 68 14 x.1 x.2.2.2.1.flatten, .blk b5 [.int .i64 0, .string ⟨⟨[]⟩⟩, .int .i64 0, .int .i64 0, .slice none 0 0, .int .i64 0, .slice none 0 0, .int .i64 0, .slice none 0 0, .int .i64 0, .int .i64 0, .int .i64 0, .slice none 0 0, .slice none 0 0], .blk b4 vc, .blk b3 [.int .i64 k, .string nm, .int .i64 num, .int .i64 tk, .slice pt tks.length ct, .int .i64 fk, .slice pf fks.length cf, .int .i64 lb, .slice p0 0 c0, .int .i64 ck, .int .i64 ctg, .int .i64 clb, .slice pc cks.length cc, .slice p ks.length c]], x.2.2.2.2⟩) (fun x => x.1 ≤ ks.length ∧ C1 G x.2.2.2.2 ∧ x.2.2.2.1.length = x.1 ∧ KR (E2 x.2.2.2.2) ((Q1 y v ks).take x.1) x.2.2.2.1) (fun x => ks.length - x.1) (0, none, 0, [], G) ?_ ?_ ?_)
 (simp only [J7]; exact E3)
 (exact ⟨Nat.zero_le _, C1.refl _, rfl, by rw [List.take_zero]; exact KR.nil⟩)
 (rintro ⟨i, pn, cn, es', Gi⟩ ⟨hi, hle, hel', hst⟩; simp only [] at hi hle hel' hst ⊢; replace hsl := hsl.mono hle; replace hkl := KR.imp hkl (fun a e h => h.mono hle); replace hv := hv.mono hle; replace hnd := hnd.mono hle; replace hco := hco.mono hle)
 refine A4 ?_
 refine sB (K6 rfl rfl) rfl rfl (fun h230 => ?_) (fun h230 => ?_)
 refine B5 ?_
 refine C2 ?_
 refine A4 ?_
 (have hil : i < ks.length := zW; obtain ⟨bx, ox, e, rfl, hel, heo, hat, hre, _, hgb⟩ := hsl.kidR hkl (i := i) zW zW; refine sP (B1 (j := i) rfl rfl rfl zW) rfl rfl ?_)
 refine sL (A5 rfl rfl (hat _) hel) rfl rfl ?_
 refine sE (A8 rfl) rfl (fun b243 => ?_)
 refine sS rfl rfl rfl hel heo rfl ?_ (hu := by exact C6 hel.symm)
 refine A4 ?_
 refine D2 D3 rfl ?_
 refine M3 (i := 2) (l' := [ff,ff,tt,ff,ff,ff,ff,ff,ff,ff]) rfl C8 (A5 rfl rfl (B7 zP) hel) rfl zU rfl rfl ?_
 refine aL 4 rfl (A5 rfl rfl (B7 zP) hvl) rfl ?_
 refine aP 0 rfl (C0 rfl) rfl ?_
 refine aL 1 rfl (D4 rfl rfl) rfl ?_
 refine aP 3 rfl (qM rfl) rfl ?_
 refine A1 5 ?_
 (refine E1 rfl rfl (ih ks[i] (List.getElem_mem zW) Gi _ hre hv) rfl rfl rfl (fun u G1 hle1 hh => ?_); obtain ⟨uc, rfl, hru⟩ := hh; have hul := hru.len; have huo := hru.one; obtain ⟨v1, v2, v3, v4, v5, v6, v7, v8, v9, w1, w2, w3, w4, w5, rfl⟩ := A2j hul)
 refine A1 6 ?_
 (refine D1 rfl (C9 rfl rfl rfl zW zR rfl) rfl rfl ?_; rintro _ ⟨b256, rfl⟩)
 refine A1 7 ?_
 (refine T9 rfl rfl rfl rfl rfl rfl (fun _ _ => by repeat (first | exact Sw.here | apply Sw.there)) (R2 zP) rfl (fun u hu => List.all_eq_true.1 huo u hu) zR zW rfl rfl zF (fun p7 c7 => ?_))
 refine aP 8 rfl (C0 rfl) rfl ?_
 refine A1 9 ?_
 refine N9 rfl rfl rfl rfl rfl rfl rfl rfl zS zO (by rfl) ?_
 refine C3 ?_
 refine sP (K9 rfl rfl zW zW) rfl rfl ?_
 refine A4 ?_
 refine K3 (i + 1, p7, c7, es' ++ [[v1, v2, v3, v4, v5, v6, v7, v8, v9, w1, w2, w3, w4, w5]], G1) ?_ ?_ ?_
 (simp only [J7]; exact E3)
 (dsimp only; exact ⟨by omega, hle.trans hle1, by rw [List.length_append]; simp only [List.length_singleton]; omega, by rw [A7y zW]; exact KR.snoc (KR.imp hst fun a e h => h.mono hle1) (by rw [List.length_take, V4]; omega) hru⟩)
 (show ks.length - (i + 1) < ks.length - i; omega)
 exact y30
 refine P6 ?_
 refine sE (A8 rfl) rfl (fun b309 => ?_)
 refine X8 ?_
 refine C2 ?_
 (refine X0 68 14 ?_; refine L4 (fun (x : Nat × Option Addr × Nat × List (List Value) × IM) => ⟨[(41, .int .i64 x.1), (40, .int .i64 ks.length), (39, .slice p ks.length c), (1, .string y), (3, .pointer (some ⟨b3, 0, none⟩)), (5, .pointer (some ⟨b4, 0, none⟩)), (6, .pointer (some ⟨b5, 0, none⟩)), (7, .pointer (some ⟨b309, 0, none⟩))], [.blk b309 [.int .i64 k, .string nm, .int .i64 num, .int .i64 tk, .slice pt tks.length ct, .int .i64 fk, .slice pf fks.length cf, .int .i64 lb, .slice p0 0 c0, .int .i64 ck, .int .i64 ctg, .int .i64 clb, .slice pc cks.length cc, .slice x.2.1 x.1 x.2.2.1], .slc x.2.1 x.2.2.1 68 14 x.1 x.2.2.2.1.flatten, .blk b5 [.int .i64 0, .string ⟨⟨[]⟩⟩, .int .i64 0, .int .i64 0, .slice none 0 0, .int .i64 0, .slice none 0 0, .int .i64 0, .slice none 0 0, .int .i64 0, .int .i64 0, .int .i64 0, .slice none 0 0, .slice none 0 0], .blk b4 vc, .blk b3 [.int .i64 k, .string nm, .int .i64 num, .int .i64 tk, .slice pt tks.length ct, .int .i64 fk, .slice pf fks.length cf, .int .i64 lb, .slice p0 0 c0, .int .i64 ck, .int .i64 ctg, .int .i64 clb, .slice pc cks.length cc, .slice p ks.length c]], x.2.2.2.2⟩) (fun x => x.1 ≤ ks.length ∧ C1 G x.2.2.2.2 ∧ x.2.2.2.1.length = x.1 ∧ KR (E2 x.2.2.2.2) ((Q1 y v ks).take x.1) x.2.2.2.1) (fun x => ks.length - x.1) (0, none, 0, [], G) ?_ ?_ ?_)
 (simp only [J7]; exact E3)
 (exact ⟨Nat.zero_le _, C1.refl _, rfl, by rw [List.take_zero]; exact KR.nil⟩)
 (rintro ⟨i, pn, cn, es', Gi⟩ ⟨hi, hle, hel', hst⟩; simp only [] at hi hle hel' hst ⊢; replace hsl := hsl.mono hle; replace hkl := KR.imp hkl (fun a e h => h.mono hle); replace hv := hv.mono hle; replace hnd := hnd.mono hle; replace hco := hco.mono hle)
 refine A4 ?_
 refine sB (K6 rfl rfl) rfl rfl (fun h335 => ?_) (fun h335 => ?_)
 refine B5 ?_
 refine C2 ?_
 refine A4 ?_
 (have hil : i < ks.length := zW; obtain ⟨bx, ox, e, rfl, hel, heo, hat, hre, _, hgb⟩ := hsl.kidR hkl (i := i) zW zW; refine sP (B1 (j := i) rfl rfl rfl zW) rfl rfl ?_)
 refine sL (A5 rfl rfl (hat _) hel) rfl rfl ?_
 refine sE (A8 rfl) rfl (fun b348 => ?_)
 refine sS rfl rfl rfl hel heo rfl ?_ (hu := by exact C6 hel.symm)
 refine A4 ?_
 refine D2 D3 rfl ?_
 refine M3 (i := 2) (l' := [ff,ff,tt,ff,ff,ff,ff,ff,ff,ff]) rfl C8 (A5 rfl rfl (B7 zP) hel) rfl zU rfl rfl ?_
 refine aL 4 rfl (A5 rfl rfl (B7 zP) hvl) rfl ?_
 refine aP 0 rfl (C0 rfl) rfl ?_
 refine aL 1 rfl (D4 rfl rfl) rfl ?_
 refine aP 3 rfl (qM rfl) rfl ?_
 refine A1 5 ?_
 (refine E1 rfl rfl (ih ks[i] (List.getElem_mem zW) Gi _ hre hv) rfl rfl rfl (fun u G1 hle1 hh => ?_); obtain ⟨uc, rfl, hru⟩ := hh; have hul := hru.len; have huo := hru.one; obtain ⟨v1, v2, v3, v4, v5, v6, v7, v8, v9, w1, w2, w3, w4, w5, rfl⟩ := A2j hul)
 refine A1 6 ?_
 (refine D1 rfl (C9 rfl rfl rfl zW zR rfl) rfl rfl ?_; rintro _ ⟨b361, rfl⟩)
 refine A1 7 ?_
 (refine T9 rfl rfl rfl rfl rfl rfl (fun _ _ => by repeat (first | exact Sw.here | apply Sw.there)) (R2 zP) rfl (fun u hu => List.all_eq_true.1 huo u hu) zR zW rfl rfl zF (fun p7 c7 => ?_))
 refine aP 8 rfl (C0 rfl) rfl ?_
 refine A1 9 ?_
 refine N9 rfl rfl rfl rfl rfl rfl rfl rfl zS zO (by rfl) ?_
 refine C3 ?_
 refine sP (K9 rfl rfl zW zW) rfl rfl ?_
 refine A4 ?_
 refine K3 (i + 1, p7, c7, es' ++ [[v1, v2, v3, v4, v5, v6, v7, v8, v9, w1, w2, w3, w4, w5]], G1) ?_ ?_ ?_
 (simp only [J7]; exact E3)
 (dsimp only; exact ⟨by omega, hle.trans hle1, by rw [List.length_append]; simp only [List.length_singleton]; omega, by rw [A7y zW]; exact KR.snoc (KR.imp hst fun a e h => h.mono hle1) (by rw [List.length_take, V4]; omega) hru⟩)
 (show ks.length - (i + 1) < ks.length - i; omega)
 exact y30
def A0D : Ty → GT
 | .mk k [a, b] => if k = 4 then .fn (A0D a) (A0D b) else .pr (A0D a) (A0D b)
 | .mk k _ => if k = 2 then .int else if k = 3 then .bool else .any
theorem A1v : ∀ A : GT, A0D A.ty = A
 | .any => rfl
 | .int => rfl
 | .bool => rfl
 | .fn a b => by rw [GT.ty, A0D, if_pos rfl, A1v a, A1v b]
 | .pr a b => by rw [GT.ty, A0D, if_neg zV, A1v a, A1v b]
mutual
def V0 : Tm → Nt
 | .mk k nm num ty fr lb ks => .mk k nm num (if k = 14 then (kc (A0D fr) (A0D ty) lb).cn else P2) (Q7 ks)
def Q7 : List Tm → List Nt
 | [] => []
 | t :: ts => V0 t :: Q7 ts
end
theorem A7D : ∀ ks, Q7 ks = ks.map V0
 | [] => rfl
 | t :: ts => by rw [Q7, A7D ts, List.map_cons]
theorem A0w (ks : List Tm) : (Q7 ks).length = ks.length := by rw [A7D, List.length_map]
theorem B1Z {ks : List Tm} {i : Nat} (h : i < ks.length) : (Q7 ks).take (i + 1) = (Q7 ks).take i ++ [V0 ks[i]] := by
 rw [A7D, List.take_succ_eq_append_getElem (by rw [List.length_map]; exact h), List.getElem_map]
theorem E2.put' {G : IM} {k : Int} {nm : ByteArray} {num tk fk lb : Int} {tks fks : List Ty} {co : Cn} {a b d : Int} {us : List Nt} {pt pf p0 pc p : Option Addr} {ct cf c0 cc n m c : Nat} {es : List (List Value)}
  (h1 : B6 G (.mk k nm num (.mk tk tks) (.mk fk fks) lb []) [.int .i64 k, .string nm, .int .i64 num, .int .i64 tk, .slice pt tks.length ct, .int .i64 fk, .slice pf fks.length cf, .int .i64 lb, .slice p0 0 c0])
  (h2 : J4 G co [.int .i64 a, .int .i64 b, .int .i64 d, .slice pc m cc]) (h3 : us.length ≤ 3) (h4 : k = 14 → us.length = 1) (hn : n = us.length) (h5 : D0 G p n c 14 es) (h6 : KR (E2 G) us es) :
  E2 G (.mk k nm num co us) [.int .i64 k, .string nm, .int .i64 num, .int .i64 tk, .slice pt tks.length ct, .int .i64 fk, .slice pf fks.length cf, .int .i64 lb, .slice p0 0 c0, .int .i64 a, .int .i64 b, .int .i64 d, .slice pc m cc, .slice p n c] := by
 subst hn
 exact .mk h1 h2 h3 h4 h5 h6
theorem B7H {k : Int} (h : k = 14) : F7 k = 1 := by subst h; rfl
theorem B10 : ∀ (t : Tm) (G : IM) (cells : List Value), cv t → B6 G t cells → Fn Tryz.prog 32 [.agg ⟨cells⟩] [] G (NtP (V0 t)) := by
 refine Tm.ind fun k nm num ty fr lb ks ih G cells hcv hr => ?_
 obtain ⟨hN, hkk⟩ := hcv.node
 have hops := hN.ops
 have hle3 := A1J k
 have h14 : k = 14 → ks.length = 1 := fun h => by have := B7H h; omega
 have hC : k = 14 → ∃ A B : GT, fr = A.ty ∧ ty = B.ty ∧ Co A B := by
  intro h
  obtain ⟨h1, h2, h3⟩ := hN.c14 h
  obtain ⟨A, rfl⟩ := A18 fr h3
  obtain ⟨B, rfl⟩ := A18 ty h2
  exact ⟨A, B, rfl, rfl, (B0k A B).1 h1⟩
 have hlb9 := hN.lbB
 have hmt : V0 (.mk k nm num ty fr lb ks) = .mk k nm num (if k = 14 then (kc (A0D fr) (A0D ty) lb).cn else P2) (Q7 ks) := by rw [V0]
 rw [hmt]
 obtain ⟨tk, tks⟩ := ty
 obtain ⟨fk, fks⟩ := fr
 obtain ⟨pt, ct, pf, cf, p, c, es, rfl, hk, hnum, hlb, hty, hfr, hsl, hkl⟩ := hr.open9
 have hn := hsl.le
 refine C7 Tryz.func32 rfl Tryz.ntmps32 Tryz.results32 rfl ?_
 intro w0
 refine A4 ?_
 refine sE (D5 rfl rfl) rfl (fun b3 => ?_)
 refine sE (A8 rfl) rfl (fun b4 => ?_)
 refine A7 ?_
 refine sE (A8 rfl) rfl (fun b11 => ?_)
 refine K4 ?_
 refine sB (qE rfl rfl) rfl rfl (fun h27 => ?_) (fun h27 => ?_)
 refine I2 ?_
 (obtain ⟨A, B, eA, eB, hco⟩ := hC zW; refine F9 rfl (B7D _ A B lb G _ _ (Nat.lt_succ_self _) hco hlb9 (by rw [← eA]; exact hfr) (by rw [← eB]; exact hty)) rfl rfl (fun u G1 hle1 hh => ?_); obtain ⟨uc, rfl, hru⟩ := hh; obtain ⟨x1, x2, x3, p4, n4, c4, rfl⟩ := hru.ints)
 refine J2 ?_
 refine C2 ?_
 (have hco := hru; refine X0 68 14 ?_; refine L4 (fun (x : Nat × Option Addr × Nat × List (List Value) × IM) => ⟨[(24, .int .i64 x.1), (23, .int .i64 ks.length), (22, .slice p ks.length c), (1, .pointer (some ⟨b3, 0, none⟩)), (2, .pointer (some ⟨b4, 0, none⟩)), (3, .pointer (some ⟨b11, 0, none⟩))], [.blk b11 [.int .i64 k, .string nm, .int .i64 num, .int .i64 tk, .slice pt tks.length ct, .int .i64 fk, .slice pf fks.length cf, .int .i64 lb, .slice none 0 0, .int .i64 x1, .int .i64 x2, .int .i64 x3, .slice p4 n4 c4, .slice x.2.1 x.1 x.2.2.1], .slc x.2.1 x.2.2.1 68 14 x.1 x.2.2.2.1.flatten, .blk b4 [.int .i64 0, .string ⟨⟨[]⟩⟩, .int .i64 0, .int .i64 0, .slice none 0 0, .int .i64 0, .slice none 0 0, .int .i64 0, .slice none 0 0, .int .i64 0, .int .i64 0, .int .i64 0, .slice none 0 0, .slice none 0 0], .blk b3 [.int .i64 k, .string nm, .int .i64 num, .int .i64 tk, .slice pt tks.length ct, .int .i64 fk, .slice pf fks.length cf, .int .i64 lb, .slice p ks.length c]], x.2.2.2.2⟩) (fun x => x.1 ≤ ks.length ∧ C1 G1 x.2.2.2.2 ∧ x.2.2.2.1.length = x.1 ∧ KR (E2 x.2.2.2.2) ((Q7 ks).take x.1) x.2.2.2.1) (fun x => ks.length - x.1) (0, none, 0, [], G1) ?_ ?_ ?_)
 (simp only [J7]; exact E3)
 (exact ⟨Nat.zero_le _, C1.refl _, rfl, by rw [List.take_zero]; exact KR.nil⟩)
 (rintro ⟨i, pn, cn, es', Gi⟩ ⟨hi, hle, hel', hst⟩; simp only [] at hi hle hel' hst ⊢; replace hsl := hsl.mono (by first | exact hle | exact hle1.trans hle); replace hkl := hkl.mono (by first | exact hle | exact hle1.trans hle); replace hty := hty.mono (by first | exact hle | exact hle1.trans hle); replace hfr := hfr.mono (by first | exact hle | exact hle1.trans hle); replace hco := hco.mono hle)
 refine A4 ?_
 refine sB (K6 rfl rfl) rfl rfl (fun h59 => ?_) (fun h59 => ?_)
 refine B5 ?_
 refine C2 ?_
 refine A4 ?_
 (have hil : i < ks.length := zW; obtain ⟨bx, ox, e, rfl, hl, hat, hre, hgb⟩ := hsl.kidTm hkl (i := i) zW zW; have hel := hre.len; have heo := hre.one; refine sP (B1 (j := i) rfl rfl rfl zW) rfl rfl ?_)
 refine sL (A5 rfl rfl (hat _) hl) rfl rfl ?_
 refine sE (A8 rfl) rfl (fun b72 => ?_)
 refine sS rfl rfl rfl hel heo rfl ?_ (hu := by exact C6 hel.symm)
 refine A4 ?_
 refine D2 D3 rfl ?_
 refine M3 (i := 2) (l' := [ff,ff,tt,ff,ff,ff,ff,ff]) rfl C8 (A5 rfl rfl (B7 zP) hel) rfl zU rfl rfl ?_
 refine aP 0 rfl (C0 rfl) rfl ?_
 refine aL 1 rfl (D4 rfl rfl) rfl ?_
 refine A1 3 ?_
 (refine E1 rfl rfl (ih ks[i] (List.getElem_mem zW) Gi _ (hkk _ (List.getElem_mem zW)) hre) rfl rfl rfl (fun u G3 hle3 hh => ?_); obtain ⟨uc, rfl, hrv⟩ := hh; have hul := hrv.len; have huo := hrv.one; obtain ⟨v1, v2, v3, v4, v5, v6, v7, v8, v9, w1, w2, w3, w4, w5, rfl⟩ := A2j hul)
 refine A1 4 ?_
 (refine D1 rfl (C9 rfl rfl rfl zW zR rfl) rfl rfl ?_; rintro _ ⟨b83, rfl⟩)
 refine A1 5 ?_
 (refine T9 rfl rfl rfl rfl rfl rfl (fun _ _ => by repeat (first | exact Sw.here | apply Sw.there)) (R2 zP) rfl (fun u hu => List.all_eq_true.1 huo u hu) zR zW rfl rfl zF (fun p7 c7 => ?_))
 refine aP 6 rfl (C0 rfl) rfl ?_
 refine A1 7 ?_
 refine N9 rfl rfl rfl rfl rfl rfl rfl rfl zS zO (by rfl) ?_
 refine C3 ?_
 refine sP (K9 rfl rfl zW zW) rfl rfl ?_
 refine A4 ?_
 refine K3 (i + 1, p7, c7, es' ++ [[v1, v2, v3, v4, v5, v6, v7, v8, v9, w1, w2, w3, w4, w5]], G3) ?_ ?_ ?_
 (simp only [J7]; exact E3)
 (dsimp only; exact ⟨by omega, hle.trans hle3, by rw [List.length_append]; simp only [List.length_singleton]; omega, by rw [B1Z zW]; exact KR.snoc (KR.imp hst fun a e h => h.mono hle3) (by rw [List.length_take, A0w]; omega) hrv⟩)
 (show ks.length - (i + 1) < ks.length - i; omega)
 refine K4 ?_
 (obtain rfl : i = ks.length := zW; refine F6 (cs := es'.flatten) zN (fun G5 hle5 hsl5 hno5 => ?_))
 refine tT ?_
 refine L0 (rC rfl (A3 rfl rfl)) ?_
 (rw [List.take_of_length_le (by rw [A0w]; omega)] at hst; rw [if_pos zW, eA, eB, A1v, A1v]; exact NtP.mk (E2.put' (us := Q7 ks) (B6.put (us := []) hk hnum hlb (hty.mono hle5) (hfr.mono hle5) rfl (D0.nil _ _) (by simp only [H3])) (hco.mono hle5) (by rw [A0w]; omega) (fun h => by rw [A0w]; exact h14 h) (by rw [A0w]) (D0.of hsl5 zW (fun e he => (hst.each (by rw [A0w]; omega) e he).1) (fun e he => (hst.each (by rw [A0w]; omega) e he).2)) (KR.imp hst fun a e h => h.mono hle5)))
 refine N1 ?_
 refine C2 ?_
 (have hco := (A3u G); refine X0 68 14 ?_; refine L4 (fun (x : Nat × Option Addr × Nat × List (List Value) × IM) => ⟨[(24, .int .i64 x.1), (23, .int .i64 ks.length), (22, .slice p ks.length c), (1, .pointer (some ⟨b3, 0, none⟩)), (2, .pointer (some ⟨b4, 0, none⟩)), (3, .pointer (some ⟨b11, 0, none⟩))], [.blk b11 [.int .i64 k, .string nm, .int .i64 num, .int .i64 tk, .slice pt tks.length ct, .int .i64 fk, .slice pf fks.length cf, .int .i64 lb, .slice none 0 0, .int .i64 0, .int .i64 0, .int .i64 0, .slice none 0 0, .slice x.2.1 x.1 x.2.2.1], .slc x.2.1 x.2.2.1 68 14 x.1 x.2.2.2.1.flatten, .blk b4 [.int .i64 0, .string ⟨⟨[]⟩⟩, .int .i64 0, .int .i64 0, .slice none 0 0, .int .i64 0, .slice none 0 0, .int .i64 0, .slice none 0 0, .int .i64 0, .int .i64 0, .int .i64 0, .slice none 0 0, .slice none 0 0], .blk b3 [.int .i64 k, .string nm, .int .i64 num, .int .i64 tk, .slice pt tks.length ct, .int .i64 fk, .slice pf fks.length cf, .int .i64 lb, .slice p ks.length c]], x.2.2.2.2⟩) (fun x => x.1 ≤ ks.length ∧ C1 G x.2.2.2.2 ∧ x.2.2.2.1.length = x.1 ∧ KR (E2 x.2.2.2.2) ((Q7 ks).take x.1) x.2.2.2.1) (fun x => ks.length - x.1) (0, none, 0, [], G) ?_ ?_ ?_)
 (simp only [J7]; exact E3)
 (exact ⟨Nat.zero_le _, C1.refl _, rfl, by rw [List.take_zero]; exact KR.nil⟩)
 (rintro ⟨i, pn, cn, es', Gi⟩ ⟨hi, hle, hel', hst⟩; simp only [] at hi hle hel' hst ⊢; replace hsl := hsl.mono (by first | exact hle | exact hle1.trans hle); replace hkl := hkl.mono (by first | exact hle | exact hle1.trans hle); replace hty := hty.mono (by first | exact hle | exact hle1.trans hle); replace hfr := hfr.mono (by first | exact hle | exact hle1.trans hle); replace hco := hco.mono hle)
 refine A4 ?_
 refine sB (K6 rfl rfl) rfl rfl (fun h140 => ?_) (fun h140 => ?_)
 refine B5 ?_
 refine C2 ?_
 refine A4 ?_
 (have hil : i < ks.length := zW; obtain ⟨bx, ox, e, rfl, hl, hat, hre, hgb⟩ := hsl.kidTm hkl (i := i) zW zW; have hel := hre.len; have heo := hre.one; refine sP (B1 (j := i) rfl rfl rfl zW) rfl rfl ?_)
 refine sL (A5 rfl rfl (hat _) hl) rfl rfl ?_
 refine sE (A8 rfl) rfl (fun b153 => ?_)
 refine sS rfl rfl rfl hel heo rfl ?_ (hu := by exact C6 hel.symm)
 refine A4 ?_
 refine D2 D3 rfl ?_
 refine M3 (i := 2) (l' := [ff,ff,tt,ff,ff,ff,ff,ff]) rfl C8 (A5 rfl rfl (B7 zP) hel) rfl zU rfl rfl ?_
 refine aP 0 rfl (C0 rfl) rfl ?_
 refine aL 1 rfl (D4 rfl rfl) rfl ?_
 refine A1 3 ?_
 (refine E1 rfl rfl (ih ks[i] (List.getElem_mem zW) Gi _ (hkk _ (List.getElem_mem zW)) hre) rfl rfl rfl (fun u G3 hle3 hh => ?_); obtain ⟨uc, rfl, hrv⟩ := hh; have hul := hrv.len; have huo := hrv.one; obtain ⟨v1, v2, v3, v4, v5, v6, v7, v8, v9, w1, w2, w3, w4, w5, rfl⟩ := A2j hul)
 refine A1 4 ?_
 (refine D1 rfl (C9 rfl rfl rfl zW zR rfl) rfl rfl ?_; rintro _ ⟨b164, rfl⟩)
 refine A1 5 ?_
 (refine T9 rfl rfl rfl rfl rfl rfl (fun _ _ => by repeat (first | exact Sw.here | apply Sw.there)) (R2 zP) rfl (fun u hu => List.all_eq_true.1 huo u hu) zR zW rfl rfl zF (fun p7 c7 => ?_))
 refine aP 6 rfl (C0 rfl) rfl ?_
 refine A1 7 ?_
 refine N9 rfl rfl rfl rfl rfl rfl rfl rfl zS zO (by rfl) ?_
 refine C3 ?_
 refine sP (K9 rfl rfl zW zW) rfl rfl ?_
 refine A4 ?_
 refine K3 (i + 1, p7, c7, es' ++ [[v1, v2, v3, v4, v5, v6, v7, v8, v9, w1, w2, w3, w4, w5]], G3) ?_ ?_ ?_
 (simp only [J7]; exact E3)
 (dsimp only; exact ⟨by omega, hle.trans hle3, by rw [List.length_append]; simp only [List.length_singleton]; omega, by rw [B1Z zW]; exact KR.snoc (KR.imp hst fun a e h => h.mono hle3) (by rw [List.length_take, A0w]; omega) hrv⟩)
 (show ks.length - (i + 1) < ks.length - i; omega)
 refine K4 ?_
 (obtain rfl : i = ks.length := zW; refine F6 (cs := es'.flatten) zN (fun G5 hle5 hsl5 hno5 => ?_))
 refine tT ?_
 refine L0 (rC rfl (A3 rfl rfl)) ?_
 (rw [List.take_of_length_le (by rw [A0w]; omega)] at hst; rw [if_neg zW]; exact NtP.mk (E2.put' (us := Q7 ks) (B6.put (us := []) hk hnum hlb (hty.mono hle5) (hfr.mono hle5) rfl (D0.nil _ _) (by simp only [H3])) (hco.mono hle5) (by rw [A0w]; omega) (fun h => by rw [A0w]; exact h14 h) (by rw [A0w]) (D0.of hsl5 zW (fun e he => (hst.each (by rw [A0w]; omega) e he).1) (fun e he => (hst.each (by rw [A0w]; omega) e he).2)) (KR.imp hst fun a e h => h.mono hle5)))
theorem At.moS {hp : List A6} {G G' : IM} {b o : Nat} {vs : List Value} (hg : C1 G G') (h : At [] G b o vs) : At hp G' b o vs := by
 rcases h with ⟨cs, hm, hv⟩ | ⟨n, c, el, sz, cs, hm, hv⟩ | ⟨full, hx, hv⟩
 ·cases hm
 ·cases hm
 ·exact .inr (.inr ⟨full, hg _ _ hx, hv⟩)
def GK.z : GK → Nat
 | .fn c d => c.z + d.z + 1
 | .pr c d => c.z + d.z + 1
 | .inj c => c.z + 1
 | .prj _ c => c.z + 1
 | _ => 1
section
variable {a b : GK} {ak atg alb bk btg blb : Int} {aks bks : List Cn}
theorem B11 (h : a.cn = .mk ak atg alb aks) : ak = 1 ∨ ak = 2 ∨ ak = 3 ∨ ak = 4 ∨ ak = 5 ∨ ak = 6 := by
 cases a <;> simp only [GK.cn, Cn.mk.injEq] at h <;> obtain ⟨rfl, _⟩ := h <;> simp
theorem A7E (h : a.cn = .mk ak atg alb aks) (h1 : ak = 1 ∧ atg = 1) : a = .ida := by
 cases a <;> simp only [GK.cn, Cn.mk.injEq] at h <;> first | rfl | (exfalso; omega)
theorem B12 (h : a.cn = .mk ak atg alb aks) (h1 : ak = 5) : ∃ c, a = .prj alb c ∧ aks = [c.cn] ∧ atg = 0 := by
 cases a <;> simp only [GK.cn, Cn.mk.injEq] at h <;> first | (exfalso; omega) | exact ⟨_, by rw [h.2.2.1], h.2.2.2.symm, h.2.1.symm⟩
theorem A5F (h : a.cn = .mk ak atg alb aks) (h1 : ak = 6) : a = .fl alb atg ∧ aks = [] := by
 cases a <;> simp only [GK.cn, Cn.mk.injEq] at h <;> first | (exfalso; omega) | exact ⟨by rw [h.2.2.1, h.2.1], h.2.2.2.symm⟩
theorem A5G (h : a.cn = .mk ak atg alb aks) (h1 : ak = 4) : ∃ c, a = .inj c ∧ aks = [c.cn] ∧ atg = 0 ∧ alb = 0 := by
 cases a <;> simp only [GK.cn, Cn.mk.injEq] at h <;> first | (exfalso; omega) | exact ⟨_, rfl, h.2.2.2.symm, h.2.1.symm, h.2.2.1.symm⟩
theorem B13 (h : a.cn = .mk ak atg alb aks) (h1 : ak = 2) : ∃ c d, a = .fn c d ∧ aks = [c.cn, d.cn] ∧ atg = 0 ∧ alb = 0 := by
 cases a <;> simp only [GK.cn, Cn.mk.injEq] at h <;> first | (exfalso; omega) | exact ⟨_, _, rfl, h.2.2.2.symm, h.2.1.symm, h.2.2.1.symm⟩
theorem B14 (h : a.cn = .mk ak atg alb aks) (h1 : ak = 3) : ∃ c d, a = .pr c d ∧ aks = [c.cn, d.cn] ∧ atg = 0 ∧ alb = 0 := by
 cases a <;> simp only [GK.cn, Cn.mk.injEq] at h <;> first | (exfalso; omega) | exact ⟨_, _, rfl, h.2.2.2.symm, h.2.1.symm, h.2.2.1.symm⟩
theorem A3w (h : a.cn = .mk ak atg alb aks) (h1 : ¬(ak = 1 ∧ atg = 1)) (h4 : ak ≠ 4) (h5 : ak ≠ 5) (h6 : ak ≠ 6) : a.pl = true := by
 cases a <;> simp only [GK.cn, Cn.mk.injEq] at h <;> first | rfl | (exfalso; omega)
theorem B7I (h : b.cn = .mk bk btg blb bks) (hf : fit .ida b = true) : bk = 5 ∨ (bk = 1 ∧ btg = 1) := by
 rw [fit] at hf
 cases b <;> simp only [GK.cn, Cn.mk.injEq] at h <;> first | (exfalso; simp [GK.md] at hf; done) | (obtain ⟨rfl, rfl, _⟩ := h; simp)
theorem B15 {c : GK} (h : b.cn = .mk bk btg blb bks) (h5 : bk ≠ 5) (hf : fit (.inj c) b = true) : b = .ida := by
 cases b with
 | ida => rfl
 | prj l d => simp only [GK.cn, Cn.mk.injEq] at h; exact absurd h.1.symm h5
 | _ => exfalso; rw [fit] at hf <;> first | (simp at hf; done) | simp
theorem B7J {l t : Int} (hp : a.pl = true) (hf : fit a (.fl l t) = true) : a.tg = t := by
 cases a <;> first | (cases hp; done) | (rw [fit] at hf; exact of_decide_eq_true hf)
theorem B16 {e : GK} (hp : a.pl = true) (hf : fit a (.inj e) = true) : fit a e = true := by
 cases a <;> first | (cases hp; done) | (rw [fit] at hf; exact hf)
theorem A7F (ha : a.cn = .mk ak atg alb aks) (hb : b.cn = .mk bk btg blb bks) (hp : a.pl = true) (h4 : bk ≠ 4) (h6 : bk ≠ 6) (hf : fit a b = true) : ak = bk ∧ atg = btg ∧ (ak = 1 → cmp a b = a) := by
 cases a <;> first | (cases hp; done) | skip
 all_goals cases b <;> first | (exfalso; rw [fit] at hf <;> first | (simp at hf; done) | (simp; done)) | (simp only [GK.cn, Cn.mk.injEq] at ha hb; exfalso; omega) | (simp only [GK.cn, Cn.mk.injEq] at ha hb; exact ⟨by omega, by omega, fun h => by first | (exfalso; omega) | rw [cmp]⟩)
theorem B7K (ha : a.cn = .mk ak atg alb aks) (hb : b.cn = .mk bk btg blb bks) (h1 : ak = 2) (h2 : bk = ak) (hf : fit a b = true) : ∃ c d c' d', a = .fn c d ∧ b = .fn c' d' ∧ aks = [c.cn, d.cn] ∧ bks = [c'.cn, d'.cn] ∧ fit c' c = true ∧ fit d d' = true ∧ atg = 0 ∧ alb = 0 := by
 obtain ⟨c, d, rfl, hk, ht, hl⟩ := B13 ha h1
 obtain ⟨c', d', rfl, hk', _⟩ := B13 hb zW
 rw [fit, Bool.and_eq_true] at hf
 exact ⟨c, d, c', d', rfl, rfl, hk, hk', hf.1, hf.2, ht, hl⟩
theorem B7L (ha : a.cn = .mk ak atg alb aks) (hb : b.cn = .mk bk btg blb bks) (h1 : ak = 3) (h2 : bk = ak) (hf : fit a b = true) : ∃ c d c' d', a = .pr c d ∧ b = .pr c' d' ∧ aks = [c.cn, d.cn] ∧ bks = [c'.cn, d'.cn] ∧ fit c c' = true ∧ fit d d' = true ∧ atg = 0 ∧ alb = 0 := by
 obtain ⟨c, d, rfl, hk, ht, hl⟩ := B14 ha h1
 obtain ⟨c', d', rfl, hk', _⟩ := B14 hb zW
 rw [fit, Bool.and_eq_true] at hf
 exact ⟨c, d, c', d', rfl, rfl, hk, hk', hf.1, hf.2, ht, hl⟩
end
theorem B17 {l : Int} {a b : GK} (h : fit (.prj l a) b = true) : fit a b = true := by rw [fit] at h; exact h
theorem B7M {l : Int} {a d : GK} (h : fit (.inj a) (.prj l d) = true) (ht : a.tg = d.tg) : fit a d = true := by rw [fit, if_pos ht] at h; exact h
def U8 (c : GK) : IM → Value → List A6 → Prop := K1 fun G' v => ∃ cells, v = .tuple ⟨[.agg ⟨cells⟩, .bool true]⟩ ∧ J4 G' c.cn cells
theorem U8.mk {G : IM} {c : GK} {cells : List Value} (h : J4 G c.cn cells) : U8 c G (.tuple ⟨[.agg ⟨cells⟩, .bool true]⟩) [] := ⟨rfl, cells, rfl, h⟩
theorem B7N {G : IM} {l t : Int} (hl : E8 l) (ht : E8 t) : J4 G (GK.fl l t).cn [.int .i64 6, .int .i64 t, .int .i64 l, .slice none 0 0] :=
 J4.put (ks := []) (es := []) ⟨by decide, by decide⟩ ht hl zV zV zV rfl (D0.nil _ _) KR.nil
theorem B7O : ∀ (a : GK) {G : IM} {cells : List Value}, J4 G a.cn cells → E8 a.tg := by
 intro a
 induction a with
 | inj c i =>
  intro G cells h
  obtain ⟨p, cp, es, rfl, _, _, _, _, _, _, hs, hk⟩ := h.open4
  obtain ⟨_, _, e, _, _, _, _, hre, _, _⟩ := hs.kidR hk (i := 0) zX zX
  exact i hre
 | fl l t => intro G cells h; obtain ⟨p, cp, es, rfl, _, ht, _⟩ := h.open4; exact ht
 | _ => intro G cells _; exact ⟨by simp [GK.tg], by simp [GK.tg]⟩
theorem B7P : ∀ (n : Nat) (a b : GK) (G : IM) (ca cb : List Value), a.z + b.z ≤ n → fit a b = true → J4 G a.cn ca → J4 G b.cn cb → Fn Tryz.prog 126 [.agg ⟨ca⟩, .agg ⟨cb⟩] [] G (U8 (cmp a b)) := by
 intro n
 induction n with
 | zero => intro a b G ca cb h; exfalso; cases a <;> simp [GK.z] at h
 | succ n ih =>
  intro a b G ca cb hz hf hra hrb
  have htg64 := B7O a hra
  have hra0 := hra
  have hrb0 := hrb
  obtain ⟨ak, atg, alb, aks, ha⟩ := A5B a
  obtain ⟨bk, btg, blb, bks, hb⟩ := A5B b
  have hkA := B11 ha
  have hkB := B11 hb
  have hTa := fun G1 (h : C1 G G1) => A7A a G1 ca (hra.mono h)
  have hTb := fun G1 (h : C1 G G1) => A7A b G1 cb (hrb.mono h)
  have hAa := B1T _ G _ hra
  have hAb := B1T _ G _ hrb
  rw [ha] at hAa hra
  rw [hb] at hAb hrb
  rw [Cn.any] at hAa hAb
  obtain ⟨pa, cpa, ea, rfl, hak, hatg, halb, hna, _, _, hsa, hka⟩ := hra.open4
  obtain ⟨pb, cpb, eb, rfl, hbk, hbtg, hblb, hnb, _, _, hsb, hkb⟩ := hrb.open4
  have h0 : E8 0 := ⟨by decide, by decide⟩
  refine C7 Tryz.func126 rfl Tryz.ntmps126 Tryz.results126 rfl ?_
  intro w0
  refine A4 ?_
  refine sE (D5 rfl rfl) rfl (fun b3 => ?_)
  refine sE (D5 rfl rfl) rfl (fun b4 => ?_)
  refine sE (A8 rfl) rfl (fun b5 => ?_)
  refine C3 ?_
  refine C2 ?_
  refine B3 ?_
  focus (by_cases g1 : ak = 1 ∧ atg = 1; rw [decide_eq_true g1] at hAa; rotate_left; rw [decide_eq_false g1] at hAa; rotate_left; all_goals (refine E6 rfl hAa rfl rfl ?_))
  refine A9 ?_
  refine D2 D3 rfl ?_
  refine M3 (i := 0) (l' := [tt,ff,ff,ff,ff,ff,ff,ff,ff,ff]) rfl C8 (A3 rfl rfl) rfl zU rfl rfl ?_
  refine aP 1 rfl (C0 rfl) rfl ?_
  refine aL 2 rfl (D4 rfl rfl) rfl ?_
  refine A0x (i := 3) (l' := [tt,tt,tt,tt,ff,ff,ff,ff,ff,ff]) rfl C8 (qE rfl rfl) rfl zU rfl rfl (fun h24 => ?_) (fun h24 => ?_)
  refine aP 4 rfl (qM rfl) rfl ?_
  refine B9 5 rfl rfl rfl ?_
  refine B9 6 rfl rfl rfl ?_
  refine aP 7 rfl (M4 rfl rfl) rfl ?_
  refine A1 8 ?_
  refine E4 rfl ?_
  refine aP 9 rfl (qA rfl) rfl ?_
  refine A9 ?_
  refine E0 (rC rfl (A3 rfl rfl)) (rT rfl) ?_
  (exact U8.mk (by obtain rfl := A7E ha zW; rw [cmp]; exact hrb0))
  refine aP 4 rfl (qM rfl) rfl ?_
  refine aL 5 rfl (A3 rfl rfl) rfl ?_
  refine A1 6 ?_
  (have g2 : bk = 1 ∧ btg = 1 := (by obtain rfl := A7E ha zW; have := B7I hb hf; omega); rw [decide_eq_true g2] at hAb; refine L1 rfl rfl hAb rfl rfl rfl ?_)
  refine aP 7 rfl (O2 rfl rfl) rfl ?_
  refine A1 8 ?_
  refine E4 rfl ?_
  refine aP 9 rfl (qA rfl) rfl ?_
  refine A9 ?_
  refine E0 (rC rfl (A3 rfl rfl)) (rT rfl) ?_
  (exact U8.mk (by obtain rfl := A7E ha zW; rw [cmp]; exact hrb0))
  refine E7 ?_
  refine sB (qE rfl rfl) rfl rfl (fun h62 => ?_) (fun h62 => ?_)
  refine A9 ?_
  (have hg : ak = 5 := zW; obtain ⟨c, rfl, rfl, rfl⟩ := B12 ha hg; subst hg; obtain ⟨b1, o1, e1, rfl, hl1, ho1, hat1, hre1, _, hgb1⟩ := hsa.kidR hka (i := 0) zX zX; replace hre1 : J4 G c.cn e1 := hre1; refine D2 D3 rfl ?_)
  refine H1 (i := 0) (l' := [tt,ff,ff,ff,ff,ff,ff,ff,ff,ff,ff,ff]) rfl C8 (C0 rfl) rfl zU rfl rfl ?_
  refine aL 1 rfl (D4 rfl rfl) rfl ?_
  refine aP 2 rfl (B1 (j := 0) rfl rfl rfl zX) rfl ?_
  refine aL 3 rfl (A5 rfl rfl (hat1 _) hl1) rfl ?_
  refine aL 4 rfl (A3 rfl rfl) rfl ?_
  refine N3 (j := 5) (j' := 9) zU ?_ ?_
  (refine E1 rfl rfl (ih c b G _ _ (by simp [GK.z] at hz; omega) (B17 hf) hre1 hrb0) rfl rfl rfl (fun u G1 hle1 hh => ?_); obtain ⟨uc, rfl, hru⟩ := hh; obtain ⟨x1, x2, x3, p4, n4, c4, rfl⟩ := hru.ints)
  refine aP 6 rfl (qM rfl) rfl ?_
  refine aP 7 rfl (pX rfl rfl) rfl ?_
  refine aP 8 rfl (pX rfl rfl) rfl ?_
  refine A1 9 ?_
  (refine D1 rfl (A8 rfl) rfl rfl ?_; rintro _ ⟨b80, rfl⟩)
  refine A1 10 ?_
  refine E4 rfl ?_
  refine aP 11 rfl (qA rfl) rfl ?_
  refine B5 ?_
  (refine J1 (C9 rfl rfl rfl zW zR rfl) rfl ?_; rintro _ ⟨b91, rfl⟩)
  refine E6 rfl ((A0O _ _ _ _ _ _ _ _ _ _ _)) rfl rfl ?_
  refine A7 ?_
  (refine F6 (cs := [.int .i64 x1, .int .i64 x2, .int .i64 x3, .slice p4 n4 c4]) zN (fun G5 hle5 hsl5 hno5 => ?_))
  refine B3 ?_
  refine E0 (rC rfl (A3 rfl rfl)) (rT rfl) ?_
  (exact U8.mk (by rw [cmp, GK.cn]; exact A3v (hru.mono hle5) hsl5 hak hatg halb zV))
  (refine D1 rfl (A8 rfl) rfl rfl ?_; rintro _ ⟨b105, rfl⟩)
  refine A1 5 ?_
  (refine E1 rfl rfl (ih c b G _ _ (by simp [GK.z] at hz; omega) (B17 hf) hre1 hrb0) rfl rfl rfl (fun u G1 hle1 hh => ?_); obtain ⟨uc, rfl, hru⟩ := hh; obtain ⟨x1, x2, x3, p4, n4, c4, rfl⟩ := hru.ints)
  refine aP 6 rfl (qM rfl) rfl ?_
  refine aP 7 rfl (pX rfl rfl) rfl ?_
  refine aP 8 rfl (pX rfl rfl) rfl ?_
  refine A1 10 ?_
  refine E4 rfl ?_
  refine aP 11 rfl (qA rfl) rfl ?_
  refine B5 ?_
  (refine J1 (C9 rfl rfl rfl zW zR rfl) rfl ?_; rintro _ ⟨b121, rfl⟩)
  refine E6 rfl ((A0O _ _ _ _ _ _ _ _ _ _ _)) rfl rfl ?_
  refine A7 ?_
  (refine F6 (cs := [.int .i64 x1, .int .i64 x2, .int .i64 x3, .slice p4 n4 c4]) zN (fun G5 hle5 hsl5 hno5 => ?_))
  refine B3 ?_
  refine E0 (rC rfl (A3 rfl rfl)) (rT rfl) ?_
  (exact U8.mk (by rw [cmp, GK.cn]; exact A3v (hru.mono hle5) hsl5 hak hatg halb zV))
  refine E7 ?_
  refine sB (qE rfl rfl) rfl rfl (fun h143 => ?_) (fun h143 => ?_)
  refine N1 ?_
  refine E0 (rC rfl (A3 rfl rfl)) (rT rfl) ?_
  (exact U8.mk (by obtain ⟨rfl, _⟩ := A5F ha zW; rw [cmp]; exact hra0))
  refine E7 ?_
  refine sB (qE rfl rfl) rfl rfl (fun h168 => ?_) (fun h168 => ?_)
  refine B3 ?_
  refine sB (qE rfl rfl) rfl rfl (fun h172 => ?_) (fun h172 => ?_)
  refine B5 ?_
  (have hg : ak = 4 := zW; have hg2 : bk = 5 := zW; obtain ⟨c, rfl, rfl, rfl, rfl⟩ := A5G ha hg; obtain ⟨d, rfl, rfl, rfl⟩ := B12 hb hg2; subst hg; subst hg2; obtain ⟨b1, o1, e1, rfl, hl1, ho1, hat1, hre1, _, hgb1⟩ := hsa.kidR hka (i := 0) zX zX; replace hre1 : J4 G c.cn e1 := hre1; obtain ⟨b3, o3, e3, rfl, hl3, ho3, hat3, hre3, _, hgb3⟩ := hsb.kidR hkb (i := 0) zX zX; replace hre3 : J4 G d.cn e3 := hre3; refine D2 D3 rfl ?_)
  refine M3 (i := 0) (l' := [tt,ff,ff,ff,ff,ff,ff,ff]) rfl C8 (A3 rfl rfl) rfl zU rfl rfl ?_
  refine aP 2 rfl (C0 rfl) rfl ?_
  refine aL 3 rfl (D4 rfl rfl) rfl ?_
  refine aP 4 rfl (B1 (j := 0) rfl rfl rfl zX) rfl ?_
  refine aL 5 rfl (A5 rfl rfl (hat3 _) hl3) rfl ?_
  refine A1 1 ?_
  refine L1 rfl rfl ((hTa G (C1.refl _))) rfl rfl rfl ?_
  refine A1 6 ?_
  refine L1 rfl rfl ((A7A d G e3 hre3)) rfl rfl rfl ?_
  refine A0x (i := 7) (l' := [tt,tt,tt,tt,tt,tt,tt,tt]) rfl C8 (qE rfl rfl) rfl zU rfl rfl (fun h190 => ?_) (fun h190 => ?_)
  refine C3 ?_
  refine D2 D3 rfl ?_
  refine H1 (i := 0) (l' := [tt,ff,ff,ff,ff,ff,ff,ff,ff,ff,ff,ff,ff]) rfl C8 (C0 rfl) rfl zU rfl rfl ?_
  refine aL 1 rfl (D4 rfl rfl) rfl ?_
  refine aP 2 rfl (B1 (j := 0) rfl rfl rfl zX) rfl ?_
  refine aL 3 rfl (A5 rfl rfl (hat1 _) hl1) rfl ?_
  refine aP 4 rfl (C0 rfl) rfl ?_
  refine aL 5 rfl (D4 rfl rfl) rfl ?_
  refine aP 6 rfl (B1 (j := 0) rfl rfl rfl zX) rfl ?_
  refine aL 7 rfl (A5 rfl rfl (hat3 _) hl3) rfl ?_
  refine A1 8 ?_
  (refine E1 rfl rfl (ih c d G _ _ (by simp [GK.z] at hz; omega) (B7M hf zT) hre1 hre3) rfl rfl rfl (fun u G1 hle1 hh => ?_); obtain ⟨uc, rfl, hru⟩ := hh; obtain ⟨x1, x2, x3, p4, n4, c4, rfl⟩ := hru.ints)
  refine aP 9 rfl (pX rfl rfl) rfl ?_
  refine aP 10 rfl (pX rfl rfl) rfl ?_
  refine A1 11 ?_
  refine E4 rfl ?_
  refine aP 12 rfl (qA rfl) rfl ?_
  refine A7 ?_
  refine E0 (rC rfl (A3 rfl rfl)) (rT rfl) ?_
  (exact U8.mk (by rw [cmp, if_pos zT]; exact hru))
  refine A7 ?_
  refine D2 D3 rfl ?_
  refine H1 (i := 0) (l' := [tt,ff,ff,ff,ff,ff,ff]) rfl C8 (C0 rfl) rfl zU rfl rfl ?_
  refine aL 1 rfl (D4 rfl rfl) rfl ?_
  refine aL 2 rfl (A3 rfl rfl) rfl ?_
  refine A1 3 ?_
  refine L1 rfl rfl ((hTa G (C1.refl _))) rfl rfl rfl ?_
  refine aP 4 rfl (N7 rfl rfl) rfl ?_
  refine A1 5 ?_
  refine E4 rfl ?_
  refine aP 6 rfl (qA rfl) rfl ?_
  refine A9 ?_
  refine E0 (rC rfl (A3 rfl rfl)) (rT rfl) ?_
  (exact U8.mk (by rw [cmp, if_neg zT]; exact B7N hblb htg64))
  refine D9 ?_
  refine sP (L9 rfl rfl zW) rfl rfl ?_
  refine A9 ?_
  refine D2 D3 rfl ?_
  refine M3 (i := 0) (l' := [tt,ff,ff,ff,ff]) rfl C8 (A3 rfl rfl) rfl zU rfl rfl ?_
  refine aL 1 rfl (A3 rfl rfl) rfl ?_
  refine A1 2 ?_
  (have g2 : bk = 1 ∧ btg = 1 := (by obtain ⟨c, rfl, _⟩ := A5G ha zW; obtain rfl := B15 hb zW hf; simp only [GK.cn, Cn.mk.injEq] at hb; omega); rw [decide_eq_true g2] at hAb; refine L1 rfl rfl hAb rfl rfl rfl ?_)
  refine A1 3 ?_
  refine E4 rfl ?_
  refine aP 4 rfl (qA rfl) rfl ?_
  refine A9 ?_
  refine E0 (rC rfl (A3 rfl rfl)) (rT rfl) ?_
  (exact U8.mk (by obtain ⟨c, rfl, _⟩ := A5G ha zW; obtain rfl := B15 hb zW hf; rw [A3m]; exact hra0))
  refine J2 ?_
  refine sP (F0 rfl rfl zW) rfl rfl ?_
  refine E7 ?_
  refine sB (qE rfl rfl) rfl rfl (fun h294 => ?_) (fun h294 => ?_)
  refine A9 ?_
  refine D2 D3 rfl ?_
  refine M3 (i := 0) (l' := [tt,ff,ff,ff,ff,ff,ff,ff]) rfl C8 (A3 rfl rfl) rfl zU rfl rfl ?_
  refine aL 1 rfl (A3 rfl rfl) rfl ?_
  refine aL 3 rfl (A3 rfl rfl) rfl ?_
  refine A1 2 ?_
  refine L1 rfl rfl ((hTa G (C1.refl _))) rfl rfl rfl ?_
  refine A1 4 ?_
  refine L1 rfl rfl ((hTb G (C1.refl _))) rfl rfl rfl ?_
  refine A0x (i := 5) (l' := [tt,tt,tt,tt,tt,tt,ff,ff]) rfl C8 (qE rfl rfl) rfl zU rfl rfl (fun h308 => ?_) (fun h308 => ?_)
  refine A1 6 ?_
  refine E4 rfl ?_
  refine aP 7 rfl (qA rfl) rfl ?_
  refine A9 ?_
  refine E0 (rC rfl (A3 rfl rfl)) (rT rfl) ?_
  (exact U8.mk (by have hpl := A3w ha zW zW zW zW; obtain ⟨rfl, _⟩ := A5F hb zW; rw [A2f hpl]; exact hrb0))
  refine A1 6 ?_
  refine E4 rfl ?_
  refine aP 7 rfl (qA rfl) rfl ?_
  refine A9 ?_
  refine E0 (rC rfl (A3 rfl rfl)) (rT rfl) ?_
  (exfalso; have hpl := A3w ha zW zW zW zW; obtain ⟨rfl, _⟩ := A5F hb zW; have hq := B7J hpl hf; exact absurd hq zT)
  refine E7 ?_
  refine sB (qE rfl rfl) rfl rfl (fun h337 => ?_) (fun h337 => ?_)
  refine A9 ?_
  (have hg : bk = 4 := zW; have hpl := A3w ha zW zW zW zW; obtain ⟨d, rfl, rfl, rfl, rfl⟩ := A5G hb hg; subst hg; obtain ⟨b3, o3, e3, rfl, hl3, ho3, hat3, hre3, _, hgb3⟩ := hsb.kidR hkb (i := 0) zX zX; replace hre3 : J4 G d.cn e3 := hre3; refine D2 D3 rfl ?_)
  refine M3 (i := 0) (l' := [tt,ff,ff,ff,ff,ff,ff,ff,ff,ff,ff,ff]) rfl C8 (A3 rfl rfl) rfl zU rfl rfl ?_
  refine aP 1 rfl (C0 rfl) rfl ?_
  refine aL 2 rfl (D4 rfl rfl) rfl ?_
  refine aP 3 rfl (B1 (j := 0) rfl rfl rfl zX) rfl ?_
  refine aL 4 rfl (A5 rfl rfl (hat3 _) hl3) rfl ?_
  refine N3 (j := 5) (j' := 9) zU ?_ ?_
  (refine E1 rfl rfl (ih a d G _ _ (by simp [GK.z] at hz; omega) (B16 hpl hf) hra0 hre3) rfl rfl rfl (fun u G1 hle1 hh => ?_); obtain ⟨uc, rfl, hru⟩ := hh; obtain ⟨x1, x2, x3, p4, n4, c4, rfl⟩ := hru.ints)
  refine aP 6 rfl (qM rfl) rfl ?_
  refine aP 7 rfl (pX rfl rfl) rfl ?_
  refine aP 8 rfl (pX rfl rfl) rfl ?_
  refine A1 9 ?_
  (refine D1 rfl (A8 rfl) rfl rfl ?_; rintro _ ⟨b355, rfl⟩)
  refine A1 10 ?_
  refine E4 rfl ?_
  refine aP 11 rfl (qA rfl) rfl ?_
  refine B5 ?_
  (refine J1 (C9 rfl rfl rfl zW zR rfl) rfl ?_; rintro _ ⟨b366, rfl⟩)
  refine E6 rfl ((A0O _ _ _ _ _ _ _ _ _ _ _)) rfl rfl ?_
  refine A7 ?_
  (refine F6 (cs := [.int .i64 x1, .int .i64 x2, .int .i64 x3, .slice p4 n4 c4]) zN (fun G5 hle5 hsl5 hno5 => ?_))
  refine B3 ?_
  refine E0 (rC rfl (A3 rfl rfl)) (rT rfl) ?_
  (exact U8.mk (by rw [A2g hpl, GK.cn]; exact A3v (hru.mono hle5) hsl5 hbk hbtg hblb zV))
  (refine D1 rfl (A8 rfl) rfl rfl ?_; rintro _ ⟨b380, rfl⟩)
  refine A1 5 ?_
  (refine E1 rfl rfl (ih a d G _ _ (by simp [GK.z] at hz; omega) (B16 hpl hf) hra0 hre3) rfl rfl rfl (fun u G1 hle1 hh => ?_); obtain ⟨uc, rfl, hru⟩ := hh; obtain ⟨x1, x2, x3, p4, n4, c4, rfl⟩ := hru.ints)
  refine aP 6 rfl (qM rfl) rfl ?_
  refine aP 7 rfl (pX rfl rfl) rfl ?_
  refine aP 8 rfl (pX rfl rfl) rfl ?_
  refine A1 10 ?_
  refine E4 rfl ?_
  refine aP 11 rfl (qA rfl) rfl ?_
  refine B5 ?_
  (refine J1 (C9 rfl rfl rfl zW zR rfl) rfl ?_; rintro _ ⟨b396, rfl⟩)
  refine E6 rfl ((A0O _ _ _ _ _ _ _ _ _ _ _)) rfl rfl ?_
  refine A7 ?_
  (refine F6 (cs := [.int .i64 x1, .int .i64 x2, .int .i64 x3, .slice p4 n4 c4]) zN (fun G5 hle5 hsl5 hno5 => ?_))
  refine B3 ?_
  refine E0 (rC rfl (A3 rfl rfl)) (rT rfl) ?_
  (exact U8.mk (by rw [A2g hpl, GK.cn]; exact A3v (hru.mono hle5) hsl5 hbk hbtg hblb zV))
  refine I2 ?_
  refine sB (R7 rfl rfl) rfl rfl (fun h420 => ?_) (fun h420 => ?_)
  refine A0c ?_
  refine E0 (rC rfl (A3 rfl rfl)) (rT rfl) ?_
  (exfalso; have hq := A7F ha hb (A3w ha zW zW zW zW) zW zW hf; omega)
  refine A9 ?_
  refine sB (R7 rfl rfl) rfl rfl (fun h449 => ?_) (fun h449 => ?_)
  refine K4 ?_
  refine E0 (rC rfl (A3 rfl rfl)) (rT rfl) ?_
  (exfalso; have hq := A7F ha hb (A3w ha zW zW zW zW) zW zW hf; omega)
  refine D9 ?_
  refine sB (qE rfl rfl) rfl rfl (fun h476 => ?_) (fun h476 => ?_)
  refine N1 ?_
  refine E0 (rC rfl (A3 rfl rfl)) (rT rfl) ?_
  (exact U8.mk (by rw [(A7F ha hb (A3w ha zW zW zW zW) zW zW hf).2.2 zW]; exact hra0))
  refine E7 ?_
  focus (have hg : ak = 2 ∨ ak = 3 := zW; have hgb : bk = ak := zW; rcases hg with hg | hg; obtain ⟨a1, a2, b1, b2, rfl, rfl, rfl, rfl, hf1, hf2, rfl, rfl⟩ := B7K ha hb hg hgb hf; subst hgb; subst hg; rotate_left; obtain ⟨a1, a2, b1, b2, rfl, rfl, rfl, rfl, hf1, hf2, rfl, rfl⟩ := B7L ha hb hg hgb hf; subst hgb; subst hg; rotate_left; all_goals (obtain ⟨q1, o1, e1, rfl, hl1, ho1, hat1, hre1, _, hgb1⟩ := hsa.kidR hka (i := 0) zX zX; obtain ⟨q2, o2, e2, hE2, hl2, ho2, hat2, hre2, _, hgb2⟩ := hsa.kidR hka (i := 1) zX zX; cases hE2; obtain ⟨q3, o3, e3, rfl, hl3, ho3, hat3, hre3, _, hgb3⟩ := hsb.kidR hkb (i := 0) zX zX; obtain ⟨q4, o4, e4, hE4, hl4, ho4, hat4, hre4, _, hgb4⟩ := hsb.kidR hkb (i := 1) zX zX; cases hE4; replace hre1 : J4 G a1.cn e1 := hre1; replace hre2 : J4 G a2.cn e2 := hre2; replace hre3 : J4 G b1.cn e3 := hre3; replace hre4 : J4 G b2.cn e4 := hre4; obtain ⟨f1, f2, f3, r1, m1, z1, rfl⟩ := hre1.ints; obtain ⟨g1, g2, g3, r2, m2, z2, rfl⟩ := hre2.ints; obtain ⟨h1, h2, h3, r3, m3, z3, rfl⟩ := hre3.ints; obtain ⟨j1, j2, j3, r4, m4, z4, rfl⟩ := hre4.ints; refine D2 D3 rfl ?_))
  refine H1 (i := 0) (l' := [tt,ff,ff,ff,ff,ff,ff,ff,ff,ff,ff,ff]) rfl C8 (C0 rfl) rfl zU rfl rfl ?_
  refine aL 1 rfl (D4 rfl rfl) rfl ?_
  refine aP 2 rfl (B1 (j := 0) rfl rfl rfl zX) rfl ?_
  refine aL 3 rfl (A5 rfl rfl (hat1 _) hl1) rfl ?_
  refine aP 4 rfl (C0 rfl) rfl ?_
  refine aL 5 rfl (D4 rfl rfl) rfl ?_
  refine aP 6 rfl (B1 (j := 0) rfl rfl rfl zX) rfl ?_
  refine aL 7 rfl (A5 rfl rfl (hat3 _) hl3) rfl ?_
  refine N3 (j := 8) (j' := 9) zU ?_ ?_
  (refine D1 rfl (A8 rfl) rfl rfl ?_; rintro _ ⟨b511, rfl⟩)
  refine A1 9 ?_
  (refine D1 rfl (A8 rfl) rfl rfl ?_; rintro _ ⟨b513, rfl⟩)
  refine A1 10 ?_
  (refine oS rfl rfl rfl rfl hl1 ho1 rfl rfl ?_ (hu := by exact C6 hl1.symm))
  refine A1 11 ?_
  (refine oS rfl rfl rfl rfl hl1 ho1 rfl rfl ?_ (hu := by exact C6 hl1.symm))
  refine B5 ?_
  refine sP (L9 rfl rfl zW) rfl rfl ?_
  refine C3 ?_
  refine sL (A5 rfl rfl (B7 zP) hl3) rfl rfl ?_
  refine sL (A5 rfl rfl (B7 zP) hl1) rfl rfl ?_
  refine sS rfl rfl rfl hl1 ho1 rfl ?_ (hu := by exact C6 hl1.symm)
  refine sS rfl rfl rfl hl1 ho1 rfl ?_ (hu := by exact C6 hl1.symm)
  refine C3 ?_
  refine sL (A5 rfl rfl (B7 zP) hl3) rfl rfl ?_
  refine sL (A5 rfl rfl (B7 zP) hl1) rfl rfl ?_
  (refine F9 rfl (ih b1 a1 G _ _ (by simp [GK.z] at hz; omega) hf1 hre3 hre1) rfl rfl (fun u G1 hle1 hh => ?_); obtain ⟨uc, rfl, hru⟩ := hh; obtain ⟨x1, x2, x3, p4, n4, c4, rfl⟩ := hru.ints)
  refine B3 ?_
  refine sE (A8 rfl) rfl (fun b544 => ?_)
  refine sS rfl rfl rfl hl1 ho1 rfl ?_ (hu := by exact C6 hl1.symm)
  refine C3 ?_
  refine D2 D3 rfl ?_
  refine H1 (i := 0) (l' := [tt,ff,ff,ff,ff,ff,ff,ff,ff,ff,ff,ff,ff,ff,ff]) rfl C8 (C0 rfl) rfl zU rfl rfl ?_
  refine aL 1 rfl (D4 rfl rfl) rfl ?_
  refine aP 2 rfl (B1 (j := 1) rfl rfl rfl zX) rfl ?_
  refine aL 3 rfl (A5 rfl rfl (At.moS hle1 (hat2 [])) hl2) rfl ?_
  refine aP 4 rfl (C0 rfl) rfl ?_
  refine aL 5 rfl (D4 rfl rfl) rfl ?_
  refine aP 6 rfl (B1 (j := 1) rfl rfl rfl zX) rfl ?_
  refine aL 7 rfl (A5 rfl rfl (At.moS hle1 (hat4 [])) hl4) rfl ?_
  refine N3 (j := 8) (j' := 12) zU ?_ ?_
  (refine E1 rfl rfl (ih a2 b2 G1 _ _ (by simp [GK.z] at hz; omega) hf2 (hre2.mono hle1) (hre4.mono hle1)) rfl rfl rfl (fun u G2 hle2 hh => ?_); obtain ⟨vc, rfl, hrv⟩ := hh; obtain ⟨y1, y2, y3, p5, n5, c5, rfl⟩ := hrv.ints)
  refine aP 9 rfl (qM rfl) rfl ?_
  refine aP 10 rfl (pX rfl rfl) rfl ?_
  refine aP 11 rfl (pX rfl rfl) rfl ?_
  refine A1 12 ?_
  (refine D1 rfl (A8 rfl) rfl rfl ?_; rintro _ ⟨b565, rfl⟩)
  refine A1 13 ?_
  (refine oS rfl rfl rfl rfl hl1 ho1 rfl rfl ?_ (hu := by exact C6 hl1.symm))
  refine aP 14 rfl (qA rfl) rfl ?_
  refine I3 ?_
  (refine J1 (C9 rfl rfl rfl zW zR rfl) rfl ?_; rintro _ ⟨b580, rfl⟩)
  refine E6 rfl ((A0O _ _ _ _ _ _ _ _ _ _ _)) rfl rfl ?_
  refine A4 ?_
  refine sS rfl rfl rfl hl1 ho1 rfl ?_ (hu := by exact C6 hl1.symm)
  refine B3 ?_
  (refine F6 (cs := [.int .i64 x1, .int .i64 x2, .int .i64 x3, .slice p4 n4 c4, .int .i64 y1, .int .i64 y2, .int .i64 y3, .slice p5 n5 c5]) zN (fun G5 hle5 hsl5 hno5 => ?_))
  refine tT ?_
  refine E0 (rC rfl (A3 rfl rfl)) (rT rfl) ?_
  (exact U8.mk (by rw [cmp, GK.cn]; exact A0P (hru.mono (hle2.trans hle5)) (hrv.mono hle5) hsl5 ⟨by decide, by decide⟩ h0 h0 zV))
  (refine D1 rfl (A8 rfl) rfl rfl ?_; rintro _ ⟨b592, rfl⟩)
  refine A1 8 ?_
  (refine E1 rfl rfl (ih a2 b2 G1 _ _ (by simp [GK.z] at hz; omega) hf2 (hre2.mono hle1) (hre4.mono hle1)) rfl rfl rfl (fun u G2 hle2 hh => ?_); obtain ⟨vc, rfl, hrv⟩ := hh; obtain ⟨y1, y2, y3, p5, n5, c5, rfl⟩ := hrv.ints)
  refine aP 9 rfl (qM rfl) rfl ?_
  refine aP 10 rfl (pX rfl rfl) rfl ?_
  refine aP 11 rfl (pX rfl rfl) rfl ?_
  refine A1 13 ?_
  (refine oS rfl rfl rfl rfl hl1 ho1 rfl rfl ?_ (hu := by exact C6 hl1.symm))
  refine aP 14 rfl (qA rfl) rfl ?_
  refine I3 ?_
  (refine J1 (C9 rfl rfl rfl zW zR rfl) rfl ?_; rintro _ ⟨b612, rfl⟩)
  refine E6 rfl ((A0O _ _ _ _ _ _ _ _ _ _ _)) rfl rfl ?_
  refine A4 ?_
  refine sS rfl rfl rfl hl1 ho1 rfl ?_ (hu := by exact C6 hl1.symm)
  refine B3 ?_
  (refine F6 (cs := [.int .i64 x1, .int .i64 x2, .int .i64 x3, .slice p4 n4 c4, .int .i64 y1, .int .i64 y2, .int .i64 y3, .slice p5 n5 c5]) zN (fun G5 hle5 hsl5 hno5 => ?_))
  refine tT ?_
  refine E0 (rC rfl (A3 rfl rfl)) (rT rfl) ?_
  (exact U8.mk (by rw [cmp, GK.cn]; exact A0P (hru.mono (hle2.trans hle5)) (hrv.mono hle5) hsl5 ⟨by decide, by decide⟩ h0 h0 zV))
  (refine D1 rfl (A8 rfl) rfl rfl ?_; rintro _ ⟨b624, rfl⟩)
  refine A1 8 ?_
  (refine D1 rfl (A8 rfl) rfl rfl ?_; rintro _ ⟨b626, rfl⟩)
  refine A1 10 ?_
  (refine oS rfl rfl rfl rfl hl1 ho1 rfl rfl ?_ (hu := by exact C6 hl1.symm))
  refine A1 11 ?_
  (refine oS rfl rfl rfl rfl hl1 ho1 rfl rfl ?_ (hu := by exact C6 hl1.symm))
  refine B5 ?_
  refine sP (L9 rfl rfl zW) rfl rfl ?_
  refine C3 ?_
  refine sL (A5 rfl rfl (B7 zP) hl3) rfl rfl ?_
  refine sL (A5 rfl rfl (B7 zP) hl1) rfl rfl ?_
  refine sS rfl rfl rfl hl1 ho1 rfl ?_ (hu := by exact C6 hl1.symm)
  refine sS rfl rfl rfl hl1 ho1 rfl ?_ (hu := by exact C6 hl1.symm)
  refine C3 ?_
  refine sL (A5 rfl rfl (B7 zP) hl3) rfl rfl ?_
  refine sL (A5 rfl rfl (B7 zP) hl1) rfl rfl ?_
  (refine F9 rfl (ih b1 a1 G _ _ (by simp [GK.z] at hz; omega) hf1 hre3 hre1) rfl rfl (fun u G1 hle1 hh => ?_); obtain ⟨uc, rfl, hru⟩ := hh; obtain ⟨x1, x2, x3, p4, n4, c4, rfl⟩ := hru.ints)
  refine B3 ?_
  refine sE (A8 rfl) rfl (fun b657 => ?_)
  refine sS rfl rfl rfl hl1 ho1 rfl ?_ (hu := by exact C6 hl1.symm)
  refine C3 ?_
  refine D2 D3 rfl ?_
  refine H1 (i := 0) (l' := [tt,ff,ff,ff,ff,ff,ff,ff,ff,ff,ff,ff,ff,ff,ff]) rfl C8 (C0 rfl) rfl zU rfl rfl ?_
  refine aL 1 rfl (D4 rfl rfl) rfl ?_
  refine aP 2 rfl (B1 (j := 1) rfl rfl rfl zX) rfl ?_
  refine aL 3 rfl (A5 rfl rfl (At.moS hle1 (hat2 [])) hl2) rfl ?_
  refine aP 4 rfl (C0 rfl) rfl ?_
  refine aL 5 rfl (D4 rfl rfl) rfl ?_
  refine aP 6 rfl (B1 (j := 1) rfl rfl rfl zX) rfl ?_
  refine aL 7 rfl (A5 rfl rfl (At.moS hle1 (hat4 [])) hl4) rfl ?_
  refine N3 (j := 8) (j' := 12) zU ?_ ?_
  (refine E1 rfl rfl (ih a2 b2 G1 _ _ (by simp [GK.z] at hz; omega) hf2 (hre2.mono hle1) (hre4.mono hle1)) rfl rfl rfl (fun u G2 hle2 hh => ?_); obtain ⟨vc, rfl, hrv⟩ := hh; obtain ⟨y1, y2, y3, p5, n5, c5, rfl⟩ := hrv.ints)
  refine aP 9 rfl (qM rfl) rfl ?_
  refine aP 10 rfl (pX rfl rfl) rfl ?_
  refine aP 11 rfl (pX rfl rfl) rfl ?_
  refine A1 12 ?_
  (refine D1 rfl (A8 rfl) rfl rfl ?_; rintro _ ⟨b678, rfl⟩)
  refine A1 13 ?_
  (refine oS rfl rfl rfl rfl hl1 ho1 rfl rfl ?_ (hu := by exact C6 hl1.symm))
  refine aP 14 rfl (qA rfl) rfl ?_
  refine I3 ?_
  (refine J1 (C9 rfl rfl rfl zW zR rfl) rfl ?_; rintro _ ⟨b693, rfl⟩)
  refine E6 rfl ((A0O _ _ _ _ _ _ _ _ _ _ _)) rfl rfl ?_
  refine A4 ?_
  refine sS rfl rfl rfl hl1 ho1 rfl ?_ (hu := by exact C6 hl1.symm)
  refine B3 ?_
  (refine F6 (cs := [.int .i64 x1, .int .i64 x2, .int .i64 x3, .slice p4 n4 c4, .int .i64 y1, .int .i64 y2, .int .i64 y3, .slice p5 n5 c5]) zN (fun G5 hle5 hsl5 hno5 => ?_))
  refine tT ?_
  refine E0 (rC rfl (A3 rfl rfl)) (rT rfl) ?_
  (exact U8.mk (by rw [cmp, GK.cn]; exact A0P (hru.mono (hle2.trans hle5)) (hrv.mono hle5) hsl5 ⟨by decide, by decide⟩ h0 h0 zV))
  (refine D1 rfl (A8 rfl) rfl rfl ?_; rintro _ ⟨b705, rfl⟩)
  refine A1 8 ?_
  (refine E1 rfl rfl (ih a2 b2 G1 _ _ (by simp [GK.z] at hz; omega) hf2 (hre2.mono hle1) (hre4.mono hle1)) rfl rfl rfl (fun u G2 hle2 hh => ?_); obtain ⟨vc, rfl, hrv⟩ := hh; obtain ⟨y1, y2, y3, p5, n5, c5, rfl⟩ := hrv.ints)
  refine aP 9 rfl (qM rfl) rfl ?_
  refine aP 10 rfl (pX rfl rfl) rfl ?_
  refine aP 11 rfl (pX rfl rfl) rfl ?_
  refine A1 13 ?_
  (refine oS rfl rfl rfl rfl hl1 ho1 rfl rfl ?_ (hu := by exact C6 hl1.symm))
  refine aP 14 rfl (qA rfl) rfl ?_
  refine I3 ?_
  (refine J1 (C9 rfl rfl rfl zW zR rfl) rfl ?_; rintro _ ⟨b725, rfl⟩)
  refine E6 rfl ((A0O _ _ _ _ _ _ _ _ _ _ _)) rfl rfl ?_
  refine A4 ?_
  refine sS rfl rfl rfl hl1 ho1 rfl ?_ (hu := by exact C6 hl1.symm)
  refine B3 ?_
  (refine F6 (cs := [.int .i64 x1, .int .i64 x2, .int .i64 x3, .slice p4 n4 c4, .int .i64 y1, .int .i64 y2, .int .i64 y3, .slice p5 n5 c5]) zN (fun G5 hle5 hsl5 hno5 => ?_))
  refine tT ?_
  refine E0 (rC rfl (A3 rfl rfl)) (rT rfl) ?_
  (exact U8.mk (by rw [cmp, GK.cn]; exact A0P (hru.mono (hle2.trans hle5)) (hrv.mono hle5) hsl5 ⟨by decide, by decide⟩ h0 h0 zV))
  refine H1 (i := 0) (l' := [tt,ff,ff,ff,ff,ff,ff,ff,ff,ff,ff,ff]) rfl C8 (C0 rfl) rfl zU rfl rfl ?_
  refine aL 1 rfl (D4 rfl rfl) rfl ?_
  refine aP 2 rfl (B1 (j := 0) rfl rfl rfl zX) rfl ?_
  refine aL 3 rfl (A5 rfl rfl (hat1 _) hl1) rfl ?_
  refine aP 4 rfl (C0 rfl) rfl ?_
  refine aL 5 rfl (D4 rfl rfl) rfl ?_
  refine aP 6 rfl (B1 (j := 0) rfl rfl rfl zX) rfl ?_
  refine aL 7 rfl (A5 rfl rfl (hat3 _) hl3) rfl ?_
  refine N3 (j := 8) (j' := 9) zU ?_ ?_
  (refine D1 rfl (A8 rfl) rfl rfl ?_; rintro _ ⟨b746, rfl⟩)
  refine A1 9 ?_
  (refine D1 rfl (A8 rfl) rfl rfl ?_; rintro _ ⟨b748, rfl⟩)
  refine A1 10 ?_
  (refine oS rfl rfl rfl rfl hl1 ho1 rfl rfl ?_ (hu := by exact C6 hl1.symm))
  refine A1 11 ?_
  (refine oS rfl rfl rfl rfl hl1 ho1 rfl rfl ?_ (hu := by exact C6 hl1.symm))
  refine B5 ?_
  refine sP (F0 rfl rfl zW) rfl rfl ?_
  refine B5 ?_
  refine sL (A5 rfl rfl (B7 zP) hl1) rfl rfl ?_
  refine sL (A5 rfl rfl (B7 zP) hl3) rfl rfl ?_
  (refine F9 rfl (ih a1 b1 G _ _ (by simp [GK.z] at hz; omega) hf1 hre1 hre3) rfl rfl (fun u G1 hle1 hh => ?_); obtain ⟨uc, rfl, hru⟩ := hh; obtain ⟨x1, x2, x3, p4, n4, c4, rfl⟩ := hru.ints)
  refine B3 ?_
  refine sE (A8 rfl) rfl (fun b774 => ?_)
  refine sS rfl rfl rfl hl1 ho1 rfl ?_ (hu := by exact C6 hl1.symm)
  refine C3 ?_
  refine D2 D3 rfl ?_
  refine H1 (i := 0) (l' := [tt,ff,ff,ff,ff,ff,ff,ff,ff,ff,ff,ff,ff,ff,ff]) rfl C8 (C0 rfl) rfl zU rfl rfl ?_
  refine aL 1 rfl (D4 rfl rfl) rfl ?_
  refine aP 2 rfl (B1 (j := 1) rfl rfl rfl zX) rfl ?_
  refine aL 3 rfl (A5 rfl rfl (At.moS hle1 (hat2 [])) hl2) rfl ?_
  refine aP 4 rfl (C0 rfl) rfl ?_
  refine aL 5 rfl (D4 rfl rfl) rfl ?_
  refine aP 6 rfl (B1 (j := 1) rfl rfl rfl zX) rfl ?_
  refine aL 7 rfl (A5 rfl rfl (At.moS hle1 (hat4 [])) hl4) rfl ?_
  refine N3 (j := 8) (j' := 12) zU ?_ ?_
  (refine E1 rfl rfl (ih a2 b2 G1 _ _ (by simp [GK.z] at hz; omega) hf2 (hre2.mono hle1) (hre4.mono hle1)) rfl rfl rfl (fun u G2 hle2 hh => ?_); obtain ⟨vc, rfl, hrv⟩ := hh; obtain ⟨y1, y2, y3, p5, n5, c5, rfl⟩ := hrv.ints)
  refine aP 9 rfl (qM rfl) rfl ?_
  refine aP 10 rfl (pX rfl rfl) rfl ?_
  refine aP 11 rfl (pX rfl rfl) rfl ?_
  refine A1 12 ?_
  (refine D1 rfl (A8 rfl) rfl rfl ?_; rintro _ ⟨b795, rfl⟩)
  refine A1 13 ?_
  (refine oS rfl rfl rfl rfl hl1 ho1 rfl rfl ?_ (hu := by exact C6 hl1.symm))
  refine aP 14 rfl (qA rfl) rfl ?_
  refine I3 ?_
  (refine J1 (C9 rfl rfl rfl zW zR rfl) rfl ?_; rintro _ ⟨b810, rfl⟩)
  refine E6 rfl ((A0O _ _ _ _ _ _ _ _ _ _ _)) rfl rfl ?_
  refine A4 ?_
  refine sS rfl rfl rfl hl1 ho1 rfl ?_ (hu := by exact C6 hl1.symm)
  refine B3 ?_
  (refine F6 (cs := [.int .i64 x1, .int .i64 x2, .int .i64 x3, .slice p4 n4 c4, .int .i64 y1, .int .i64 y2, .int .i64 y3, .slice p5 n5 c5]) zN (fun G5 hle5 hsl5 hno5 => ?_))
  refine tT ?_
  refine E0 (rC rfl (A3 rfl rfl)) (rT rfl) ?_
  (exact U8.mk (by rw [cmp, GK.cn]; exact A0P (hru.mono (hle2.trans hle5)) (hrv.mono hle5) hsl5 ⟨by decide, by decide⟩ h0 h0 zV))
  (refine D1 rfl (A8 rfl) rfl rfl ?_; rintro _ ⟨b822, rfl⟩)
  refine A1 8 ?_
  (refine E1 rfl rfl (ih a2 b2 G1 _ _ (by simp [GK.z] at hz; omega) hf2 (hre2.mono hle1) (hre4.mono hle1)) rfl rfl rfl (fun u G2 hle2 hh => ?_); obtain ⟨vc, rfl, hrv⟩ := hh; obtain ⟨y1, y2, y3, p5, n5, c5, rfl⟩ := hrv.ints)
  refine aP 9 rfl (qM rfl) rfl ?_
  refine aP 10 rfl (pX rfl rfl) rfl ?_
  refine aP 11 rfl (pX rfl rfl) rfl ?_
  refine A1 13 ?_
  (refine oS rfl rfl rfl rfl hl1 ho1 rfl rfl ?_ (hu := by exact C6 hl1.symm))
  refine aP 14 rfl (qA rfl) rfl ?_
  refine I3 ?_
  (refine J1 (C9 rfl rfl rfl zW zR rfl) rfl ?_; rintro _ ⟨b842, rfl⟩)
  refine E6 rfl ((A0O _ _ _ _ _ _ _ _ _ _ _)) rfl rfl ?_
  refine A4 ?_
  refine sS rfl rfl rfl hl1 ho1 rfl ?_ (hu := by exact C6 hl1.symm)
  refine B3 ?_
  (refine F6 (cs := [.int .i64 x1, .int .i64 x2, .int .i64 x3, .slice p4 n4 c4, .int .i64 y1, .int .i64 y2, .int .i64 y3, .slice p5 n5 c5]) zN (fun G5 hle5 hsl5 hno5 => ?_))
  refine tT ?_
  refine E0 (rC rfl (A3 rfl rfl)) (rT rfl) ?_
  (exact U8.mk (by rw [cmp, GK.cn]; exact A0P (hru.mono (hle2.trans hle5)) (hrv.mono hle5) hsl5 ⟨by decide, by decide⟩ h0 h0 zV))
  (refine D1 rfl (A8 rfl) rfl rfl ?_; rintro _ ⟨b854, rfl⟩)
  refine A1 8 ?_
  (refine D1 rfl (A8 rfl) rfl rfl ?_; rintro _ ⟨b856, rfl⟩)
  refine A1 10 ?_
  (refine oS rfl rfl rfl rfl hl1 ho1 rfl rfl ?_ (hu := by exact C6 hl1.symm))
  refine A1 11 ?_
  (refine oS rfl rfl rfl rfl hl1 ho1 rfl rfl ?_ (hu := by exact C6 hl1.symm))
  refine B5 ?_
  refine sP (F0 rfl rfl zW) rfl rfl ?_
  refine B5 ?_
  refine sL (A5 rfl rfl (B7 zP) hl1) rfl rfl ?_
  refine sL (A5 rfl rfl (B7 zP) hl3) rfl rfl ?_
  (refine F9 rfl (ih a1 b1 G _ _ (by simp [GK.z] at hz; omega) hf1 hre1 hre3) rfl rfl (fun u G1 hle1 hh => ?_); obtain ⟨uc, rfl, hru⟩ := hh; obtain ⟨x1, x2, x3, p4, n4, c4, rfl⟩ := hru.ints)
  refine B3 ?_
  refine sE (A8 rfl) rfl (fun b882 => ?_)
  refine sS rfl rfl rfl hl1 ho1 rfl ?_ (hu := by exact C6 hl1.symm)
  refine C3 ?_
  refine D2 D3 rfl ?_
  refine H1 (i := 0) (l' := [tt,ff,ff,ff,ff,ff,ff,ff,ff,ff,ff,ff,ff,ff,ff]) rfl C8 (C0 rfl) rfl zU rfl rfl ?_
  refine aL 1 rfl (D4 rfl rfl) rfl ?_
  refine aP 2 rfl (B1 (j := 1) rfl rfl rfl zX) rfl ?_
  refine aL 3 rfl (A5 rfl rfl (At.moS hle1 (hat2 [])) hl2) rfl ?_
  refine aP 4 rfl (C0 rfl) rfl ?_
  refine aL 5 rfl (D4 rfl rfl) rfl ?_
  refine aP 6 rfl (B1 (j := 1) rfl rfl rfl zX) rfl ?_
  refine aL 7 rfl (A5 rfl rfl (At.moS hle1 (hat4 [])) hl4) rfl ?_
  refine N3 (j := 8) (j' := 12) zU ?_ ?_
  (refine E1 rfl rfl (ih a2 b2 G1 _ _ (by simp [GK.z] at hz; omega) hf2 (hre2.mono hle1) (hre4.mono hle1)) rfl rfl rfl (fun u G2 hle2 hh => ?_); obtain ⟨vc, rfl, hrv⟩ := hh; obtain ⟨y1, y2, y3, p5, n5, c5, rfl⟩ := hrv.ints)
  refine aP 9 rfl (qM rfl) rfl ?_
  refine aP 10 rfl (pX rfl rfl) rfl ?_
  refine aP 11 rfl (pX rfl rfl) rfl ?_
  refine A1 12 ?_
  (refine D1 rfl (A8 rfl) rfl rfl ?_; rintro _ ⟨b903, rfl⟩)
  refine A1 13 ?_
  (refine oS rfl rfl rfl rfl hl1 ho1 rfl rfl ?_ (hu := by exact C6 hl1.symm))
  refine aP 14 rfl (qA rfl) rfl ?_
  refine I3 ?_
  (refine J1 (C9 rfl rfl rfl zW zR rfl) rfl ?_; rintro _ ⟨b918, rfl⟩)
  refine E6 rfl ((A0O _ _ _ _ _ _ _ _ _ _ _)) rfl rfl ?_
  refine A4 ?_
  refine sS rfl rfl rfl hl1 ho1 rfl ?_ (hu := by exact C6 hl1.symm)
  refine B3 ?_
  (refine F6 (cs := [.int .i64 x1, .int .i64 x2, .int .i64 x3, .slice p4 n4 c4, .int .i64 y1, .int .i64 y2, .int .i64 y3, .slice p5 n5 c5]) zN (fun G5 hle5 hsl5 hno5 => ?_))
  refine tT ?_
  refine E0 (rC rfl (A3 rfl rfl)) (rT rfl) ?_
  (exact U8.mk (by rw [cmp, GK.cn]; exact A0P (hru.mono (hle2.trans hle5)) (hrv.mono hle5) hsl5 ⟨by decide, by decide⟩ h0 h0 zV))
  (refine D1 rfl (A8 rfl) rfl rfl ?_; rintro _ ⟨b930, rfl⟩)
  refine A1 8 ?_
  (refine E1 rfl rfl (ih a2 b2 G1 _ _ (by simp [GK.z] at hz; omega) hf2 (hre2.mono hle1) (hre4.mono hle1)) rfl rfl rfl (fun u G2 hle2 hh => ?_); obtain ⟨vc, rfl, hrv⟩ := hh; obtain ⟨y1, y2, y3, p5, n5, c5, rfl⟩ := hrv.ints)
  refine aP 9 rfl (qM rfl) rfl ?_
  refine aP 10 rfl (pX rfl rfl) rfl ?_
  refine aP 11 rfl (pX rfl rfl) rfl ?_
  refine A1 13 ?_
  (refine oS rfl rfl rfl rfl hl1 ho1 rfl rfl ?_ (hu := by exact C6 hl1.symm))
  refine aP 14 rfl (qA rfl) rfl ?_
  refine I3 ?_
  (refine J1 (C9 rfl rfl rfl zW zR rfl) rfl ?_; rintro _ ⟨b950, rfl⟩)
  refine E6 rfl ((A0O _ _ _ _ _ _ _ _ _ _ _)) rfl rfl ?_
  refine A4 ?_
  refine sS rfl rfl rfl hl1 ho1 rfl ?_ (hu := by exact C6 hl1.symm)
  refine B3 ?_
  (refine F6 (cs := [.int .i64 x1, .int .i64 x2, .int .i64 x3, .slice p4 n4 c4, .int .i64 y1, .int .i64 y2, .int .i64 y3, .slice p5 n5 c5]) zN (fun G5 hle5 hsl5 hno5 => ?_))
  refine tT ?_
  refine E0 (rC rfl (A3 rfl rfl)) (rT rfl) ?_
  (exact U8.mk (by rw [cmp, GK.cn]; exact A0P (hru.mono (hle2.trans hle5)) (hrv.mono hle5) hsl5 ⟨by decide, by decide⟩ h0 h0 zV))
theorem B7Q (G : IM) (p : Option Addr) (n c : Nat) (es : List (List Value)) (hsl : D0 G p n c 14 es) (fid : FuncId) [C4 Tryz.prog fid] (us cs : List Value) (ins : List A6) (q : Nat → Bool)
  (hq : ∀ i e, es[i]? = some e → Fn Tryz.prog fid (us ++ [.agg ⟨e⟩] ++ cs) ins G (T8 (.bool (q i)) ins G)) :
  Fn Tryz.prog 162 [.slice p n c, .func (.func fid) ⟨us⟩ ⟨cs⟩] ins G (T8 (.int .i64 (A0d q n)) ins G) := by
 have hn := hsl.le
 refine C7 Tryz.func162 rfl Tryz.ntmps162 Tryz.results162 rfl ?_
 intro w0
 refine J2 ?_
 refine C2 ?_
 refine L4 (fun i : Nat => ⟨[(8, .int .i64 i), (7, .int .i64 n), (1, .func (.func fid) ⟨us⟩ ⟨cs⟩), (0, .slice p n c)], ins, G⟩) (fun i => i ≤ n ∧ ∀ j, j < i → q j = false) (fun i => n - i) 0 ?_ ?_ ?_
 exact E3
 exact ⟨by omega, by omega⟩
 rintro i ⟨hi, hf⟩
 refine A4 ?_
 refine sB (K6 rfl rfl) rfl rfl (fun h21 => ?_) (fun h21 => ?_)
 refine B5 ?_
 refine C2 ?_
 refine I3 ?_
 (obtain ⟨e, b, o, he, rfl, hl, _, hat, _⟩ := hsl.get (i := i) zW; refine sP (B1 rfl rfl rfl zW) rfl rfl ?_)
 refine sL (A5 rfl rfl (hat _) hl) rfl rfl ?_
 refine A4E rfl rfl (hq i e he) A00 rfl rfl (fun h43 => ?_) (fun h43 => ?_)
 refine K4 ?_
 refine H7 (rT rfl) A2.refl ?_
 exact ⟨rfl, by rw [A8e zW hf zT], rfl⟩
 refine B5 ?_
 refine sP (K9 rfl rfl zW zW) rfl rfl ?_
 refine A4 ?_
 refine K3 (i + 1) ?_ ?_ ?_
 exact E3
 exact ⟨by omega, fun j hj => by by_cases hji : j = i; (subst hji; assumption); exact hf j zW⟩
 omega
 refine K4 ?_
 refine H7 (rT rfl) A2.refl ?_
 exact ⟨rfl, by rw [A52 (fun j hj => hf j zW)], rfl⟩
theorem B7R (G : IM) (p : Option Addr) (n c : Nat) (es : List (List Value)) (hsl : D0 G p n c 14 es) (fid : FuncId) [C4 Tryz.prog fid] (us cs : List Value) (ins : List A6) (q : Nat → Bool)
  (hq : ∀ i e, es[i]? = some e → Fn Tryz.prog fid (us ++ [.agg ⟨e⟩] ++ cs) ins G (T8 (.bool (q i)) ins G)) :
  Fn Tryz.prog 120 [.slice p n c, .func (.func fid) ⟨us⟩ ⟨cs⟩] ins G (T8 (.bool (decide (0 ≤ A0d q n))) ins G) := by
 refine C7 Tryz.func120 rfl Tryz.ntmps120 Tryz.results120 rfl ?_
 intro w0
 refine D9 ?_
 refine A3I rfl (B7Q G p n c es hsl fid us cs ins q hq) A00 rfl rfl ?_
 refine sQ (A0W rfl rfl) rfl ?_
 refine C3 ?_
 refine H7 (rT rfl) A2.refl ?_
 exact ⟨rfl, rfl, rfl⟩
def PlC (t : TH) : Prop := ∀ (G : IM) (cells : List Value), E2 G t.nt cells → Fn Tryz.prog 70 [.agg ⟨cells⟩] [] G (J5 (.bool t.pln) G)
def VlC (t : TH) : Prop := ∀ (G : IM) (cells : List Value), E2 G t.nt cells → Fn Tryz.prog 34 [.agg ⟨cells⟩] [] G (J5 (.bool t.val) G)
theorem B18 (b : Bool) (G : IM) (cells : List Value) (hl : cells.length = 14) (ho : cells.all (·.oneCell') = true) (h : Fn Tryz.prog 34 [.agg ⟨cells⟩] [] G (J5 (.bool b) G)) :
  Fn Tryz.prog 121 [.agg ⟨cells⟩] [] G (T8 (.bool (!b)) [] G) := by
 refine C7 Tryz.func121 rfl Tryz.ntmps121 Tryz.results121 rfl ?_
 intro w0
 refine A4 ?_
 refine sE (D5 rfl rfl) rfl (fun b3 => ?_)
 refine A9 ?_
 refine sL (A5 rfl rfl (B7 zP) hl) rfl rfl ?_
 refine E6 rfl (h) rfl rfl ?_
 refine sQ (A4t rfl) rfl ?_
 refine A9 ?_
 (exact ⟨rfl, rfl, rfl⟩)
theorem A3x (t : TH) : ∃ k nm num ck ctg clb cks ks, t.nt = .mk k nm num (.mk ck ctg clb cks) ks := by
 rcases t.nt with ⟨k, nm, num, ⟨ck, ctg, clb, cks⟩, ks⟩
 exact ⟨_, _, _, _, _, _, _, _, rfl⟩
theorem B7S (a b : Bool) (q : Nat → Bool) (h0 : q 0 = !a) (h1 : q 1 = !b) : (!decide (0 ≤ A0d q 2)) = (a && b) := by
 cases a <;> cases b <;> simp [A0d, List.range, List.range.loop, h0, h1]
theorem A5H (t : TH) (hk : ∀ a b, t = .pair a b → VlC a ∧ VlC b) : PlC t := by
 intro G cells hr
 obtain ⟨k, nm, num, ck, ctg, clb, cks, ks, ht⟩ := A3x t
 rw [ht] at hr
 have hpl := @B7l t k nm num _ ks ht
 have hpr := fun (h : k = 10) => @B7m t nm num (.mk ck ctg clb cks) ks (by rw [← h]; exact ht)
 obtain ⟨tk, tks, fk, fks, lb, pt, ct, pf, cf, p0, c0, pc, cc, p, c, es, rfl, hnd, hco, hn3, h14, hsl, hkl⟩ := hr.open14
 have hIP := B4z _ G _ hnd
 rw [show (Tm.mk k nm num (.mk tk tks) (.mk fk fks) lb []).k = k from rfl] at hIP
 have hC : k = 10 → Fn Tryz.prog 120 [.slice p ks.length c, .func (.func 121) ⟨[]⟩ ⟨[]⟩] [] G (T8 (.bool (!t.pln)) [] G) := by
  intro h
  obtain ⟨a, b, rfl, rfl⟩ := hpr h
  obtain ⟨ha, hb⟩ := hk a b rfl
  have := B7R G p 2 c es hsl 121 [] [] [] (fun i => if i = 0 then !a.val else !b.val) (by
   intro i e he
   have hlt : i < 2 := by have := (List.getElem?_eq_some_iff.1 he).1; rw [hsl.len] at this; exact this
   match i, hlt with
   | 0, _ => have hre := hkl 0 a.nt e rfl he; exact B18 _ G e hre.len hre.one (ha G e hre)
   | 1, _ => have hre := hkl 1 b.nt e rfl he; exact B18 _ G e hre.len hre.one (hb G e hre))
  have e2 := B7S a.val b.val (fun i => if i = 0 then !a.val else !b.val) rfl rfl
  rw [show (TH.pair a b).pln = (a.val && b.val) from by rw [TH.pln], ← e2, Bool.not_not]
  exact this
 generalize t.pln = T at hpl hC ⊢
 refine C7 Tryz.func70 rfl Tryz.ntmps70 Tryz.results70 rfl ?_
 intro w0
 refine A4 ?_
 refine sE (D5 rfl rfl) rfl (fun b3 => ?_)
 refine D9 ?_
 refine sB (qE rfl rfl) rfl rfl (fun h13 => ?_) (fun h13 => ?_)
 refine B5 ?_
 refine A3I rfl (hC zW) A00 rfl rfl ?_
 refine sQ (A4t rfl) rfl ?_
 refine A7 ?_
 (exact ⟨rfl, by rw [Bool.not_not], rfl⟩)
 refine D9 ?_
 refine E6 rfl (hIP) rfl rfl ?_
 refine A9 ?_
 (exact ⟨rfl, by rw [hpl zW], rfl⟩)
theorem A7G (t : TH) (hP : PlC t) (hk : ∀ c e, t = .conv c e → PlC e) : VlC t := by
 intro G cells hr
 have hPl := hP G cells hr
 have hRo := hr.one
 obtain ⟨k, nm, num, ck, ctg, clb, cks, ks, ht⟩ := A3x t
 rw [ht] at hr
 have h1 := A5E _ 4 G cells hr
 have h2 := A5E _ 2 G cells hr
 have h3 := A5E _ 3 G cells hr
 rw [show (Nt.mk k nm num (.mk ck ctg clb cks) ks).k = k from rfl, show (Nt.mk k nm num (.mk ck ctg clb cks) ks).co.k = ck from rfl] at h1 h2 h3
 have hcv := fun (h : k = 14) => @A7z t nm num (.mk ck ctg clb cks) ks (by rw [← h]; exact ht)
 have hnc := fun (h : k ≠ 14) => B7n (A5y ht h)
 have hno : k = 14 → ¬(ck = 4 ∨ ck = 2 ∨ ck = 3) → t.val = t.pln := by
  intro h hn
  obtain ⟨g, e, rfl, rfl, hE⟩ := hcv h
  have := B1R g
  rw [← hE, show (Cn.mk ck ctg clb cks).k = ck from rfl] at this
  rw [TH.val, TH.pln]
  cases hv : g.vl with
  | false => rfl
  | true => exact absurd (this.2 hv) hn
 have hyes : k = 14 → (ck = 4 ∨ ck = 2 ∨ ck = 3) → ∃ e, ks = [e.nt] ∧ t.val = e.pln ∧ PlC e := by
  intro h hn
  obtain ⟨g, e, rfl, rfl, hE⟩ := hcv h
  have := B1R g
  rw [← hE, show (Cn.mk ck ctg clb cks).k = ck from rfl] at this
  exact ⟨e, rfl, by rw [TH.val, this.1 hn, Bool.true_and], hk g e rfl⟩
 generalize t.val = T at hno hyes hnc ⊢
 generalize t.pln = T2 at hno hnc hPl
 obtain ⟨tk, tks, fk, fks, lb, pt, ct, pf, cf, p0, c0, pc, cc, p, c, es, rfl, hnd, hco, hn3, h14, hsl, hkl⟩ := hr.open14
 refine C7 Tryz.func34 rfl Tryz.ntmps34 Tryz.results34 rfl ?_
 intro w0
 refine A4 ?_
 refine sE (D5 rfl rfl) rfl (fun b3 => ?_)
 refine B5 ?_
 focus (by_cases g1 : k = 14 ∧ ck = 4; rw [decide_eq_true g1] at h1; rotate_left; rw [decide_eq_false g1] at h1; rotate_left; all_goals (refine E6 rfl h1 rfl rfl ?_))
 refine K4 ?_
 exact y31
 refine A4 ?_
 focus (by_cases g2 : k = 14 ∧ ck = 2; rw [decide_eq_true g2] at h2; rotate_left; rw [decide_eq_false g2] at h2; rotate_left; all_goals (refine E6 rfl h2 rfl rfl ?_))
 refine N8 ?_
 exact y31
 refine B3 ?_
 focus (by_cases g3 : k = 14 ∧ ck = 3; rw [decide_eq_true g3] at h3; rotate_left; rw [decide_eq_false g3] at h3; rotate_left; all_goals (refine E6 rfl h3 rfl rfl ?_))
 refine E7 ?_
 exact y31
 refine D9 ?_
 refine E6 rfl (hPl) rfl rfl ?_
 refine A9 ?_
 (exact ⟨rfl, by (by_cases hz : k = 14); (rw [hno hz zW]); (rw [hnc hz]), rfl⟩)
theorem A7H : ∀ t : TH, PlC t ∧ VlC t := by
 intro t
 induction t with
 | pair a b i j =>
  have hp : PlC (.pair a b) := A5H _ fun a' b' h => by cases h; exact ⟨i.2, j.2⟩
  exact ⟨hp, A7G _ hp fun c e h => by cases h⟩
 | conv c e i =>
  have hp : PlC (.conv c e) := A5H _ fun a' b' h => by cases h
  exact ⟨hp, A7G _ hp fun c' e' h => by cases h; exact i.1⟩
 | _ => refine ⟨A5H _ ?_, A7G _ (A5H _ ?_) ?_⟩ <;> (intro a b h; cases h)
def TH.tx : TH → ByteArray
 | .conv _ e => e.tx
 | .pair _ _ => A5h
 | .lam _ _ _ => A5i
 | .num n => A19 2 n
 | .tru b => A19 (if b = true then 3 else 4) 0
 | _ => ⟨⟨[]⟩⟩
def TH.nk : TH → Prop
 | .var _ => True
 | .num n => 0 ≤ n ∧ n ≤ 999
 | .tru _ => True
 | .lam _ _ e => e.nk
 | .app f a => f.nk ∧ a.nk
 | .ar _ a b => a.nk ∧ b.nk
 | .ite c a b => c.nk ∧ a.nk ∧ b.nk
 | .pair a b => a.nk ∧ b.nk
 | .part _ e => e.nk
 | .conv _ e => e.nk
theorem B7T {t : TH} {k : Int} {nm : ByteArray} {num : Int} {co : Cn} {ks : List Nt} (hv : t.val = true) (hn : t.nk) (h : t.nt = .mk k nm num co ks) : (k = 14 → ∃ c e, t = .conv c e ∧ ks = [e.nt] ∧ e.val = true ∧ e.nk) ∧ (k = 10 → t.tx = A5h) ∧ (k = 5 → t.tx = A5i) ∧ (k ≠ 14 → k ≠ 10 → k ≠ 5 → (k = 2 ∨ k = 3 ∨ k = 4) ∧ t.tx = A19 k num ∧ 0 ≤ num ∧ num ≤ 999) := by
 cases t with
 | var x => cases hv
 | num n => simp only [TH.nt, Nt.mk.injEq] at h; obtain ⟨rfl, rfl, rfl, rfl, rfl⟩ := h; exact ⟨by simp, by simp, by simp, fun _ _ _ => ⟨.inl rfl, rfl, hn⟩⟩
 | tru b => simp only [TH.nt, Nt.mk.injEq] at h; obtain ⟨rfl, rfl, rfl, rfl, rfl⟩ := h; exact ⟨by cases b <;> simp, by cases b <;> simp, by cases b <;> simp, fun _ _ _ => ⟨by cases b <;> simp, rfl, by decide, by decide⟩⟩
 | lam x A e => simp only [TH.nt, Nt.mk.injEq] at h; obtain ⟨rfl, rfl, rfl, rfl, rfl⟩ := h; exact ⟨by simp, by simp, fun _ => rfl, by simp⟩
 | pair a b => simp only [TH.nt, Nt.mk.injEq] at h; obtain ⟨rfl, rfl, rfl, rfl, rfl⟩ := h; exact ⟨by simp, fun _ => rfl, by simp, by simp⟩
 | conv c e =>
  simp only [TH.nt, Nt.mk.injEq] at h; obtain ⟨rfl, rfl, rfl, rfl, rfl⟩ := h
  exact ⟨fun _ => ⟨c, e, rfl, rfl, A5t (A4m hv).2, hn⟩, by simp, by simp, by simp⟩
 | app f a => rw [TH.val] at hv; cases hv
 | ar s a b => rw [TH.val] at hv; cases hv
 | ite c a b => rw [TH.val] at hv; cases hv
 | part s e => rw [TH.val] at hv; cases hv
def TxC (t : TH) : Prop := ∀ (G : IM) (cells : List Value), A1d G → t.val = true → t.nk → E2 G t.nt cells → Fn Tryz.prog 35 [.agg ⟨cells⟩] [] G (J5 (.string t.tx) G)
theorem B19 (t : TH) (ih : ∀ c e, t = .conv c e → TxC e) : TxC t := by
 intro G cells hT hv hnk hr
 obtain ⟨k, nm, num, ck, ctg, clb, cks, ks, ht⟩ := A3x t
 obtain ⟨h14, h10, h5, hlf⟩ := B7T hv hnk ht
 rw [ht] at hr
 obtain ⟨tk, tks, fk, fks, lb, pt, ct, pf, cf, p0, c0, pc, cc, p, c, es, rfl, hnd, hco, hn3, _, hsl, hkl⟩ := hr.open14
 have hL := fun h1 h2 h3 => B65 k nm num _ _ lb [] G _ hT (hlf h1 h2 h3).1 (hlf h1 h2 h3).2.2 hnd
 refine C7 Tryz.func35 rfl Tryz.ntmps35 Tryz.results35 rfl ?_
 intro w0
 refine A4 ?_
 refine sE (D5 rfl rfl) rfl (fun b3 => ?_)
 refine I3 ?_
 refine C2 (tS (tR (sB (qE rfl rfl) rfl rfl (fun h18 => ?_) (fun h18 => ?_))))
 refine E7 ?_
 (obtain ⟨g, e1, rfl, hks, hv1, hn1⟩ := h14 zW; subst hks; obtain ⟨b, o, e, rfl, hl, ho, hat, hre, _, hgb⟩ := hsl.kidR hkl (i := 0) zX zX; replace hre : E2 G e1.nt e := hre; have hih := ih g e1 rfl G e hT hv1 hn1 hre; refine sP (B1 (j := 0) rfl rfl rfl zX) rfl rfl ?_)
 refine sL (A5 rfl rfl (hat _) hl) rfl rfl ?_
 refine E6 rfl (hih) rfl rfl ?_
 refine B5 ?_
 (exact ⟨rfl, by rw [TH.tx], rfl⟩)
 refine A7 ?_
 refine sB (qE rfl rfl) rfl rfl (fun h44 => ?_) (fun h44 => ?_)
 refine J2 ?_
 (exact ⟨rfl, by rw [h10 zW]; rfl, rfl⟩)
 refine A7 ?_
 refine sB (qE rfl rfl) rfl rfl (fun h65 => ?_) (fun h65 => ?_)
 refine J2 ?_
 (exact ⟨rfl, by rw [h5 zW]; rfl, rfl⟩)
 refine I3 ?_
 refine E6 rfl ((hL zW zW zW)) rfl rfl ?_
 refine A9 ?_
 (exact ⟨rfl, by rw [(hlf zW zW zW).2.1], rfl⟩)
theorem B7U : ∀ t : TH, TxC t := by
 intro t
 induction t with
 | conv c e i => exact B19 _ fun c' e' h => by cases h; exact i
 | _ => refine B19 _ ?_; intro a b h; cases h
def TH.kids : TH → List TH
 | .lam _ _ e => [e]
 | .app f a => [f, a]
 | .ar _ a b => [a, b]
 | .ite c a b => [c, a, b]
 | .pair a b => [a, b]
 | .part _ e => [e]
 | .conv _ e => [e]
 | _ => []
theorem B2a {t : TH} {k : Int} {nm : ByteArray} {num : Int} {co : Cn} {ks : List Nt} (h : t.nt = .mk k nm num co ks) : ks = t.kids.map TH.nt := by
 cases t <;> simp only [TH.nt, Nt.mk.injEq] at h <;> obtain ⟨_, _, _, _, rfl⟩ := h <;> rfl
theorem B7V {t : TH} (h : t.nk) : ∀ u ∈ t.kids, u.nk := by
 intro u hu
 cases t with
 | lam x A e => obtain rfl := List.mem_singleton.1 hu; exact h
 | part s e => obtain rfl := List.mem_singleton.1 hu; exact h
 | conv s e => obtain rfl := List.mem_singleton.1 hu; exact h
 | app f a => simp only [TH.kids, List.mem_cons, List.not_mem_nil, or_false] at hu; rcases hu with rfl | rfl; exact h.1; exact h.2
 | ar s f a => simp only [TH.kids, List.mem_cons, List.not_mem_nil, or_false] at hu; rcases hu with rfl | rfl; exact h.1; exact h.2
 | pair f a => simp only [TH.kids, List.mem_cons, List.not_mem_nil, or_false] at hu; rcases hu with rfl | rfl; exact h.1; exact h.2
 | ite c f a => simp only [TH.kids, List.mem_cons, List.not_mem_nil, or_false] at hu; rcases hu with rfl | rfl | rfl; exact h.1; exact h.2.1; exact h.2.2
 | _ => cases hu
def A7I (t : TH) (i : Nat) (u : TH) : Prop := t.kids[i]? = some u ∧ ∃ C : TH → TH, t.stp = V3 C u.stp ∧ ∀ (x : TH) (k : Int) (nm : ByteArray) (num : Int) (co : Cn) (ks : List Nt), t.nt = .mk k nm num co ks → (C x).nt = .mk k nm num co (ks.set i x.nt)
def R0 (r : Y4) : IM → Value → List A6 → Prop := K1 fun G' v => ∃ cells n, v = .tuple ⟨[.agg ⟨cells⟩, .int .i64 r.2.1, .int .i64 r.2.2]⟩ ∧ E2 G' n cells ∧ (r.2.1 = 1 → n = r.1.nt)
theorem R0.mk {G : IM} {r : Y4} {n : Nt} {cells : List Value} {c l : Int} (h1 : c = r.2.1) (h2 : l = r.2.2) (hr : E2 G n cells) (hn : r.2.1 = 1 → n = r.1.nt) : R0 r G (.tuple ⟨[.agg ⟨cells⟩, .int .i64 c, .int .i64 l]⟩) [] := by
 subst h1 h2; exact ⟨rfl, cells, n, rfl, hr, hn⟩
theorem R0.ok {G : IM} {r : Y4} {t : TH} {cells : List Value} (h : r = (t, 1, 0)) (hr : E2 G t.nt cells) : R0 r G (.tuple ⟨[.agg ⟨cells⟩, .int .i64 1, .int .i64 0]⟩) [] := by
 subst h; exact ⟨rfl, cells, _, rfl, hr, fun _ => rfl⟩
def A5I (t : TH) : Prop := ∀ (G : IM) (cells : List Value) (A : GT), ST D6 t A → t.val = false → t.nk → E2 G t.nt cells → Fn Tryz.prog 36 [.agg ⟨cells⟩] [] G (R0 t.stp)
theorem B2b (t u : TH) (i : Nat) (G : IM) (cells : List Value) (hK : A7I t i u) (hS : ∀ (G : IM) (cells : List Value), E2 G u.nt cells → Fn Tryz.prog 36 [.agg ⟨cells⟩] [] G (R0 u.stp)) (hr : E2 G t.nt cells) :
  Fn Tryz.prog 73 [.agg ⟨cells⟩, .int .i64 (i : Int)] [] G (R0 t.stp) := by
 obtain ⟨hu, C, hC, hCn⟩ := hK
 obtain ⟨k, nm, num, ck, ctg, clb, cks, ks, ht⟩ := A3x t
 have hks := B2a ht
 have hCn' := fun x => hCn x _ _ _ _ _ ht
 rw [ht] at hr
 have hiu : ks[i]? = some u.nt := by rw [hks, List.getElem?_map, hu]; rfl
 have hik : i < ks.length := (List.getElem?_eq_some_iff.1 hiu).1
 obtain ⟨tk, tks, fk, fks, lb, pt, ct, pf, cf, p0, c0, pc, cc, p, c, es, rfl, hnd, hco, hn3, h14, hsl, hkl⟩ := hr.open14
 obtain ⟨bx, ox, e, rfl, hel, heo, hat, hre, _, hgb⟩ := hsl.kidR hkl (i := i) hik hik
 have hre' : E2 G u.nt e := by
  have := (List.getElem?_eq_some_iff.1 hiu).2
  rw [this] at hre
  exact hre
 have hn := hsl.le
 have hnc := hsl.sl.2.1
 refine C7 Tryz.func73 rfl Tryz.ntmps73 Tryz.results73 rfl ?_
 intro w0
 refine A4 ?_
 refine sE (D5 rfl rfl) rfl (fun b3 => ?_)
 refine sE (A8 rfl) rfl (fun b4 => ?_)
 refine D9 ?_
 (have hg : True := trivial; refine sP (B1 (j := i) rfl rfl rfl hik) rfl rfl ?_)
 refine sL (A5 rfl rfl (hat _) hel) rfl rfl ?_
 (refine F9 rfl (hS G e hre') rfl rfl (fun v G1 hle1 hh => ?_); obtain ⟨uc, n1, rfl, hru, hu1⟩ := hh; have hul := hru.len; have huo := hru.one; have hClo := B7F G1 _ ks.length c es (hsl.mono hle1) zW zW)
 refine C3 ?_
 refine sE (A8 rfl) rfl (fun b21 => ?_)
 refine sS rfl rfl rfl hul huo rfl ?_ (hu := by exact C6 hul.symm)
 refine B5 ?_
 refine sE (A8 rfl) rfl (fun b30 => ?_)
 refine B5 ?_
 (refine A4D rfl hClo rfl rfl (fun v38 G38 outs38 hle38 h38 => ?_); obtain ⟨hG, p1, c1, rfl, rfl⟩ := h38; replace hG := hG.symm; subst hG; refine A9c (cs := es.flatten) zN zW (fun bc Cc hpe hnc1 hcm => ?_); subst hpe)
 refine D9 ?_
 refine sL (A5 rfl rfl (B7 zP) hul) rfl rfl ?_
 (have hg : True := trivial; refine sP (B1 (j := i) rfl rfl rfl hik) rfl rfl ?_)
 refine P3 rfl rfl rfl hul huo rfl zO (by exact A9e (by rw [hsl.len]; omega) (fun e he => (hsl.all e he)) hul) ?_
 refine N8 ?_
 (refine A4G (bs := [(bc, (es.set i uc).flatten ++ Cc)]) (Pk.perm zN) (fun hn2 hd2 hle2 => ?_))
 refine tT ?_
 refine H5 (rC rfl (A3 rfl rfl)) (rT rfl) (rT rfl) ?_
 (have hks2 : KR (E2 _) (ks.set i n1) (es.set i uc) := KR.set (KR.imp hkl fun a e h => (h.mono hle1).mono hle2) (hru.mono hle2); have hes2 : ∀ x ∈ es.set i uc, x.length = 14 ∧ x.all (·.oneCell') = true := KR.each hks2 (by rw [List.length_set, List.length_set, hsl.len]); exact R0.mk (by rw [hC]; rfl) (by rw [hC]; rfl) (E2.put (us := ks.set i n1) (es := es.set i uc) ((hnd.mono hle1).mono hle2) ((hco.mono hle1).mono hle2) (by rw [List.length_set]; exact hn3) (fun h => by rw [List.length_set]; exact h14 h) (by rw [List.length_set]) (D0.of (Sl.of_blk (A := []) (by rw [A1E (fun x hx => (hes2 x hx).1), List.length_set, hsl.len]) zW hcm (Wi.in hn2 List.mem_cons_self)) (by rw [List.length_set, hsl.len]) (fun x hx => (hes2 x hx).1) (fun x hx => (hes2 x hx).2)) hks2) (fun h => by rw [hC] at h ⊢; show _ = (C u.stp.1).nt; rw [hCn', hu1 h]))
theorem B7W {c : GK} {e : TH} (hc : e.cnv = false) (hp : e.pln = false) : A7I (.conv c e) 0 e := by
 refine ⟨rfl, fun x => .conv c x, ?_, ?_⟩
 ·rw [TH.stp, A09 hc, if_pos hp]
 ·intro x k nm num co ks h
  simp only [TH.nt, Nt.mk.injEq] at h
  obtain ⟨rfl, rfl, rfl, rfl, rfl⟩ := h
  rfl
theorem B7X {c : GK} {k tg lb : Int} {ks : List Cn} (h : c.cn = .mk k tg lb ks) (hk : k = 1) (e : TH) : plS e c = (e, 1, 0) := by
 cases c <;> simp only [GK.cn, Cn.mk.injEq] at h <;> first | rfl | (exfalso; omega)
theorem A7J {c : GK} {k tg lb : Int} {ks : List Cn} (h : c.cn = .mk k tg lb ks) (hk : k = 6) (e : TH) : plS e c = (.nul, 2, lb) := by
 obtain ⟨rfl, _⟩ := A5F h hk
 rfl
theorem A7K {c : GK} {k tg lb : Int} {ks : List Cn} (h : c.cn = .mk k tg lb ks) (h1 : k ≠ 1) (h6 : k ≠ 6) (e : TH) : plS e c = (.nul, 3, 0) := by
 cases c <;> simp only [GK.cn, Cn.mk.injEq] at h <;> first | rfl | (exfalso; omega)
theorem B7Y (c : GK) (e : TH) (G : IM) (cells : List Value) (A : GT) (hT : ST D6 (.conv c e) A) (hnk : e.nk) (ih : A5I e) (hr : E2 G (TH.conv c e).nt cells) : Fn Tryz.prog 72 [.agg ⟨cells⟩] [] G (R0 (TH.conv c e).stp) := by
 obtain ⟨B, hTe, hTc⟩ := U7 hT
 have hr0 := hr
 obtain ⟨ck, ctg, clb, cks, hc⟩ := A5B c
 obtain ⟨ek, enm, enum, eck, ectg, eclb, ecks, eks, he⟩ := A3x e
 rw [TH.nt, hc] at hr
 obtain ⟨tk, tks, fk, fks, lb, pt, ct, pf, cf, p0, c0, pc, cc, p, cp, es, rfl, hnd, hco, hn3, h14, hsl, hkl⟩ := hr.open14
 obtain ⟨bx, ox, e0, rfl, hel, heo, hat, hre, _, hgb⟩ := hsl.kidR hkl (i := 0) zX zX
 replace hre : E2 G e.nt e0 := hre
 have hPl := (A7H e).1 G e0 hre
 have hcv := fun (h : ek = 14) => @A7z e enm enum (.mk eck ectg eclb ecks) eks (by rw [← h]; exact he)
 have hnc := fun (h : ek ≠ 14) => A5y he h
 have hIO := fun (h1 : e.cnv = false) (h2 : e.pln = false) => B2b (.conv c e) e 0 G _ (B7W h1 h2) (fun G' cs h => ih G' cs B hTe (by
  cases hv : e.val with
  | false => rfl
  | true => rw [A08 hv h1] at h2; cases h2) hnk h) hr0
 have hre0 := hre
 rw [he] at hre
 obtain ⟨tk1, tks1, fk1, fks1, lb1, pt1, ct1, pf1, cf1, p01, c01, pc1, cc1, p1, cp1, es1, rfl, hnd1, hco1, hn31, h141, hsl1, hkl1⟩ := hre.open14
 rw [← hc] at hco
 refine C7 Tryz.func72 rfl Tryz.ntmps72 Tryz.results72 rfl ?_
 intro w0
 refine A4 ?_
 refine sE (D5 rfl rfl) rfl (fun b3 => ?_)
 refine sE (A8 rfl) rfl (fun b4 => ?_)
 refine E7 ?_
 (have hg : True := trivial; refine sP (B1 (j := 0) rfl rfl rfl zX) rfl rfl ?_)
 refine sL (A5 rfl rfl (hat _) rfl) rfl rfl ?_
 refine sE (A8 rfl) rfl (fun b15 => ?_)
 refine D9 ?_
 refine sB (qE rfl rfl) rfl rfl (fun h25 => ?_) (fun h25 => ?_)
 refine D9 ?_
 (obtain ⟨d, u, rfl, rfl, hE⟩ := hcv zW; obtain ⟨X, hTu, hTd⟩ := U7 hTe; rw [hE] at hco1; obtain ⟨bu, ou, e2, rfl, hul, huo, hat2, hru, _, hgb2⟩ := hsl1.kidR hkl1 (i := 0) zX zX; replace hru : E2 G u.nt e2 := hru; refine F9 rfl (B7P _ d c G _ _ (Nat.le_refl _) (hTd.fit hTc) hco1 hco) rfl rfl (fun v G1 hle1 hh => ?_); obtain ⟨uc, rfl, hrc⟩ := hh; obtain ⟨x1, x2, x3, p4, n4, c4, rfl⟩ := hrc.ints)
 refine B3 ?_
 refine sE (A8 rfl) rfl (fun b39 => ?_)
 refine K4 ?_
 refine D2 D3 rfl ?_
 refine H1 (i := 0) (l' := [tt,ff,ff,ff,ff,ff,ff,ff,ff]) rfl C8 (C0 rfl) rfl zU rfl rfl ?_
 refine aL 1 rfl (D4 rfl rfl) rfl ?_
 refine aP 2 rfl (B1 (j := 0) rfl rfl rfl zX) rfl ?_
 refine aL 3 rfl (A5 rfl rfl (At.moS hle1 (hat2 [])) hul) rfl ?_
 refine aL 4 rfl (A3 rfl rfl) rfl ?_
 refine A1 5 ?_
 (refine E1 rfl rfl (A2Q u.nt _ G1 _ _ (hru.mono hle1) hrc) rfl rfl rfl (fun v G2 hle2 hh => ?_); obtain ⟨vc, rfl, hrv⟩ := hh; have hvl := hrv.len; have hvo := hrv.one)
 refine A1 6 ?_
 (refine oS rfl rfl rfl rfl hvl hvo rfl rfl ?_ (hu := by exact C6 hvl.symm))
 refine aP 7 rfl (qA rfl) rfl ?_
 refine aP 8 rfl (qA rfl) rfl ?_
 refine C3 ?_
 refine H5 (rC rfl (A5 rfl rfl (B7 zP) hvl)) (rT rfl) (rT rfl) ?_
 (exact R0.ok (t := .conv (cmp d c) u) (by rw [TH.stp, A7n (hTd.fit hTc)]) hrv)
 refine D9 ?_
 focus (have hcn := hnc zW; cases hpp : e.pln; all_goals (rw [hpp] at hPl; refine E6 rfl hPl rfl rfl ?_))
 refine B5 ?_
 (refine F9 rfl (hIO hcn hpp) rfl rfl (fun v G1 hle1 hh => ?_); obtain ⟨vc, n1, rfl, hrv, hn1⟩ := hh; have hvl := hrv.len; have hvo := hrv.one)
 refine B3 ?_
 refine sS rfl rfl rfl hvl hvo rfl ?_ (hu := by exact C6 hvl.symm)
 refine A7 ?_
 refine H5 (rC rfl (A5 rfl rfl (B7 zP) hvl)) (rT rfl) (rT rfl) ?_
 (exact ⟨rfl, vc, n1, rfl, hrv, hn1⟩)
 refine N1 ?_
 refine C2 (tS (tR (sB (qE rfl rfl) rfl rfl (fun h120 => ?_) (fun h120 => ?_))))
 refine K4 ?_
 refine H5 (rC rfl (A3 rfl rfl)) (rT rfl) (rT rfl) ?_
 (exact R0.ok (t := e) (by rw [TH.stp, A09 hcn, if_neg (by rw [hpp]; decide), B7X hc zW]) hre0)
 refine A7 ?_
 refine sB (qE rfl rfl) rfl rfl (fun h144 => ?_) (fun h144 => ?_)
 refine A9 ?_
 refine D2 D3 rfl ?_
 refine H1 (i := 0) (l' := [tt,ff,ff,ff,ff,ff,ff]) rfl C8 (N7 rfl rfl) rfl zU rfl rfl ?_
 refine aP 1 rfl (C0 rfl) rfl ?_
 refine aP 2 rfl (qF rfl) rfl ?_
 refine aL 3 rfl (D4 rfl rfl) rfl ?_
 refine A1 4 ?_
 refine E4 rfl ?_
 refine aP 5 rfl (qA rfl) rfl ?_
 refine aP 6 rfl (qA rfl) rfl ?_
 refine A9 ?_
 refine H5 (rC rfl (A3 rfl rfl)) (rT rfl) (rT rfl) ?_
 (exact R0.mk (by rw [TH.stp, A09 hcn, if_neg (by rw [hpp]; decide), A7J hc zW]) (by rw [TH.stp, A09 hcn, if_neg (by rw [hpp]; decide), A7J hc zW]) (B1J _) (by rw [TH.stp, A09 hcn, if_neg (by rw [hpp]; decide), A7J hc zW]; intro h; simp at h))
 refine N4 ?_
 refine H5 (rC rfl (A3 rfl rfl)) (rT rfl) (rT rfl) ?_
 (exact R0.mk (by rw [TH.stp, A09 hcn, if_neg (by rw [hpp]; decide), A7K hc zW zW]) (by rw [TH.stp, A09 hcn, if_neg (by rw [hpp]; decide), A7K hc zW zW]) (B1J _) (by rw [TH.stp, A09 hcn, if_neg (by rw [hpp]; decide), A7K hc zW zW]; intro h; simp at h))
def TH.cnt (t : TH) : Nat := match t with
 | .ite _ _ _ => 1
 | _ => t.kids.length
theorem B7Z {t : TH} {k : Int} {nm : ByteArray} {num : Int} {co : Cn} {ks : List Nt} (h : t.nt = .mk k nm num co ks) : t.cnt = if k = 9 then 1 else ks.length := by
 cases t with
 | ar s a b => simp only [TH.nt, Nt.mk.injEq] at h; obtain ⟨rfl, _, _, _, rfl⟩ := h; cases s <;> rfl
 | part s a => simp only [TH.nt, Nt.mk.injEq] at h; obtain ⟨rfl, _, _, _, rfl⟩ := h; cases s <;> rfl
 | tru s => simp only [TH.nt, Nt.mk.injEq] at h; obtain ⟨rfl, _, _, _, rfl⟩ := h; cases s <;> rfl
 | _ => simp only [TH.nt, Nt.mk.injEq] at h; obtain ⟨rfl, _, _, _, rfl⟩ := h; rfl
theorem B70 {t : TH} {A : GT} (hT : ST D6 t A) (hc : t.cnv = false) (hv : t.val = false) {i : Nat} (hi : i < t.cnt) (hl : i < t.kids.length) (hj : ∀ j, j < i → (h : j < t.kids.length) → t.kids[j].val = true) (hn : t.kids[i].val = false) : A7I t i t.kids[i] ∧ ∃ B, ST D6 t.kids[i] B := by
 have nn : ∀ {b : Bool}, b = true → ¬b = false := fun h h' => by rw [h] at h'; cases h'
 cases t with
 | var x => exact absurd hl (by simp [TH.kids])
 | num n => cases hv
 | tru b => cases hv
 | lam x A e => cases hv
 | conv c e => cases hc
 | app f a =>
  cases hT with
  | app h1 h2 =>
   match i, hl with
   | 0, _ => exact ⟨⟨rfl, fun x => .app x a, by rw [TH.stp]; exact if_pos hn, fun x k nm num co ks h => by simp only [TH.nt, Nt.mk.injEq] at h; obtain ⟨rfl, rfl, rfl, rfl, rfl⟩ := h; rfl⟩, _, h1⟩
   | 1, _ => exact ⟨⟨rfl, fun x => .app f x, by rw [TH.stp]; exact (if_neg (nn (hj 0 zV (by simp [TH.kids])))).trans (if_pos hn), fun x k nm num co ks h => by simp only [TH.nt, Nt.mk.injEq] at h; obtain ⟨rfl, rfl, rfl, rfl, rfl⟩ := h; rfl⟩, _, h2⟩
 | ar s f a =>
  cases hT with
  | ar h1 h2 _ =>
   match i, hl with
   | 0, _ => exact ⟨⟨rfl, fun x => .ar s x a, by rw [TH.stp]; exact if_pos hn, fun x k nm num co ks h => by simp only [TH.nt, Nt.mk.injEq] at h; obtain ⟨rfl, rfl, rfl, rfl, rfl⟩ := h; rfl⟩, _, h1⟩
   | 1, _ => exact ⟨⟨rfl, fun x => .ar s f x, by rw [TH.stp]; exact (if_neg (nn (hj 0 zV (by simp [TH.kids])))).trans (if_pos hn), fun x k nm num co ks h => by simp only [TH.nt, Nt.mk.injEq] at h; obtain ⟨rfl, rfl, rfl, rfl, rfl⟩ := h; rfl⟩, _, h2⟩
 | pair f a =>
  cases hT with
  | pair h1 h2 =>
   match i, hl with
   | 0, _ => exact ⟨⟨rfl, fun x => .pair x a, by rw [TH.stp]; exact if_pos hn, fun x k nm num co ks h => by simp only [TH.nt, Nt.mk.injEq] at h; obtain ⟨rfl, rfl, rfl, rfl, rfl⟩ := h; rfl⟩, _, h1⟩
   | 1, _ => exact ⟨⟨rfl, fun x => .pair f x, by rw [TH.stp]; exact if_neg (nn (hj 0 zV (by simp [TH.kids]))), fun x k nm num co ks h => by simp only [TH.nt, Nt.mk.injEq] at h; obtain ⟨rfl, rfl, rfl, rfl, rfl⟩ := h; rfl⟩, _, h2⟩
 | ite c f a =>
  cases hT with
  | ite h1 h2 h3 =>
   have hi0 : i = 0 := by have : i < 1 := hi; omega
   subst hi0
   exact ⟨⟨rfl, fun x => .ite x f a, by rw [TH.stp]; exact if_pos hn, fun x k nm num co ks h => by simp only [TH.nt, Nt.mk.injEq] at h; obtain ⟨rfl, rfl, rfl, rfl, rfl⟩ := h; rfl⟩, _, h1⟩
 | part s e =>
  cases hT with
  | part h1 _ =>
   match i, hl with
   | 0, _ => exact ⟨⟨rfl, fun x => .part s x, by rw [TH.stp]; exact if_pos hn, fun x k nm num co ks h => by simp only [TH.nt, Nt.mk.injEq] at h; obtain ⟨rfl, rfl, rfl, rfl, rfl⟩ := h; rfl⟩, _, h1⟩
theorem B71 {t : TH} {A : GT} (hT : ST D6 t A) (hc : t.cnv = false) (hv : t.val = false) (hj : ∀ j, j < t.cnt → (h : j < t.kids.length) → t.kids[j].val = true) :
  (∃ x B e w, t = .app (.lam x B e) w ∧ t.stp = (e.sub x w, 1, 0)) ∨
  (∃ c d x B e w, t = .app (.conv (.fn c d) (.lam x B e)) w ∧ t.stp = (.conv d (.app (.lam x B e) (.conv c w)), 1, 0)) ∨
  (∃ s m n, t = .ar s (.num m) (.num n) ∧ t.stp = (arT s m n, 1, 0)) ∨
  (∃ b x y, t = .ite (.tru b) x y ∧ t.stp = (if b = true then x else y, 1, 0)) ∨
  (∃ s a b, t = .part s (.pair a b) ∧ t.stp = (if s = true then b else a, 1, 0)) ∨
  (∃ s c d a b, t = .part s (.conv (.pr c d) (.pair a b)) ∧ t.stp = (.conv (if s = true then d else c) (.part s (.pair a b)), 1, 0)) := by
 have nn : ∀ {b : Bool}, b = true → ¬b = false := fun h h' => by rw [h] at h'; cases h'
 cases t with
 | var x => cases hT with | var h => cases h
 | num n => cases hv
 | tru b => cases hv
 | lam x A e => cases hv
 | conv c e => cases hc
 | app f a =>
  have h0 := hj 0 (by show 0 < 2; decide) (by show 0 < 2; decide)
  have h1 := hj 1 (by show 1 < 2; decide) (by show 1 < 2; decide)
  have hs : (TH.app f a).stp = apS a f := by rw [TH.stp]; exact (if_neg (nn h0)).trans (if_neg (nn h1))
  cases hT with
  | app t1 t2 =>
   rcases A7p t1 h0 with ⟨x, e, rfl, _⟩ | ⟨c, d, x, e, A', B', rfl, _⟩
   ·exact .inl ⟨_, _, _, _, rfl, hs⟩
   ·exact .inr (.inl ⟨_, _, _, _, _, _, rfl, hs⟩)
 | ar s f a =>
  have h0 := hj 0 (by show 0 < 2; decide) (by show 0 < 2; decide)
  have h1 := hj 1 (by show 1 < 2; decide) (by show 1 < 2; decide)
  have hs : (TH.ar s f a).stp = arS s f a := by rw [TH.stp]; exact (if_neg (nn h0)).trans (if_neg (nn h1))
  cases hT with
  | ar t1 t2 _ =>
   obtain ⟨m, rfl⟩ := A3q t1 h0
   obtain ⟨n, rfl⟩ := A3q t2 h1
   exact .inr (.inr (.inl ⟨_, _, _, rfl, hs⟩))
 | ite c f a =>
  have h0 := hj 0 (by show 0 < 1; decide) (by show 0 < 3; decide)
  have hs : (TH.ite c f a).stp = itS f a c := by rw [TH.stp]; exact if_neg (nn h0)
  cases hT with
  | ite t1 _ _ =>
   obtain ⟨m, rfl⟩ := A7o t1 h0
   exact .inr (.inr (.inr (.inl ⟨_, _, _, rfl, hs⟩)))
 | pair f a =>
  have h0 := hj 0 (by show 0 < 2; decide) (by show 0 < 2; decide)
  have h1 := hj 1 (by show 1 < 2; decide) (by show 1 < 2; decide)
  have h0' : f.val = true := h0
  have h1' : a.val = true := h1
  rw [TH.val, h0', h1'] at hv
  cases hv
 | part s e =>
  have h0 := hj 0 (by show 0 < 1; decide) (by show 0 < 1; decide)
  have hs : (TH.part s e).stp = ptS s e := by rw [TH.stp]; exact if_neg (nn h0)
  cases hT with
  | part t1 _ =>
   rcases A7q t1 h0 with ⟨a, b, rfl, _⟩ | ⟨c, d, a, b, A', B', rfl, _⟩
   ·exact .inr (.inr (.inr (.inr (.inl ⟨_, _, _, rfl, hs⟩))))
   ·exact .inr (.inr (.inr (.inr (.inr ⟨_, _, _, _, _, rfl, hs⟩))))
end Gw
end Go.Proofs.YtmceanphadildaaGreatDoor
